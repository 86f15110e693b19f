/- A part of the proof: D74 D75. -/
import Derived.Test.YtpcbnjbpdooejaaGreatDoorFae
import Derived.Test.YtpcbnjbpdooejaaGreatDoorFba
import Derived.Test.YtpcbnjbpdooejaaGreatDoorCards
import Derived.Test.YtpcbnjbpdooejaaGreatDoorTie
import Derived.WalkKit
import Derived.ProofKit
import Derived.OpenShut
import Derived.Deep.DeepHandedRow
import Derived.Lib.LaidTab
set_option linter.unusedSimpArgs false
set_option linter.unusedVariables false
set_option maxRecDepth 100000
set_option maxHeartbeats 8000000
namespace Go.AW
open Proofs
def foT (G:GrV) (all:List (List UInt8)) (i:Nat):GrV:=(all.take i).foldl addG G
theorem foT_ok {G:GrV} (hG:GrOK G) {all:List (List UInt8)} {i:Nat}:GrOK (foT G all i):=QUv (f:=fun x=>x) hG
theorem Qfv {G:GrV} {all:List (List UInt8)} {i:Nat} (hi:i<all.length):foT G all (i+1)=addG (foT G all i) all[i]:=by
 rw [foT,List.take_succ_eq_append_getElem hi,List.foldl_append];rfl
theorem Qeo {G:GrV} (hG:GrOK G):(misF G).length≤1048576:=by
 have h:(misF G).length≤16*G.W.length:=by
  rw [misF]
  refine Nat.le_trans (QAp _) (Nat.le_trans (List.length_filter_le _ _) ?_)
  have:∀W:List Itm,(∀x∈W,ItB x)→(W.flatMap fun x=>x.c.deps).length≤16*W.length:=by
   intro W
   induction W with
   | nil=>intro _;simp
   | cons x W ih=>
    intro h
    have h1:=(h x (by simp)).deps
    have h2:=ih fun y hy=>h y (by simp [hy])
    simp only [List.flatMap_cons,List.length_append,List.length_cons];omega
  exact this G.W fun x hx=>hG.bW hx
 have:=hG.lenW
 omega
theorem Qe0:∀{hs:List Hs} {j:Nat},j<hs.length→∃n:Int,(flat hcell hs)[j*32]?=some (.v (.int .u8 n))∧∀m:Int,∃h':Hs,(flat hcell hs).set (j*32) (.v (.int .u8 m))=flat hcell (hs.set j h')
 | [],_,h=>by simp at h
 | ⟨[],hl⟩::hs,0,_=>by simp at hl
 | ⟨x::r,hl⟩::hs,0,_=>⟨x,rfl,fun m=>⟨⟨m::r,hl⟩,rfl⟩⟩
 | a::hs,j+1,h=>by
  obtain⟨n,h1,h2⟩:=Qe0 (hs:=hs) (j:=j) (by simpa using h)
  have e:flat hcell (a::hs)=hcell a++flat hcell hs:=rfl
  have ei:(j+1)*32=(hcell a).length+j*32:=by rw [QK];omega
  refine⟨n,by rw [e,ei,List.getElem?_append_right zo,Nat.add_sub_cancel_left];exact h1,fun m=>?_⟩
  obtain⟨h',h3⟩:=h2 m
  refine⟨h',?_⟩
  rw [e,ei,List.set_append_right _ _ zo,Nat.add_sub_cancel_left,h3];rfl
theorem QgO (l:List MadeV) (hl:l.length≤1048576) (hm:∀m∈l,mdOK m) (ps:List UInt8) (hp:ps.length≤1048576) (h:Hs):QE Tryz.prog gK 8 [.seq l.length 5 (flat mdc l),.seq ps.length 1 (flat QC ps),.agg (hcell h)] (.v (.bool true)):=by
 refine QE.start Tryz.func8 rfl zK rfl Tryz.ntmps8 fol zK (by simp [idfL,idf,QZ QS,QS,Qg,Qy,QJY,Qg]) (by simp [idfL,idf,QZ QS,QS,Qg,Qy,QJY,Qg]) ?_
 refine zZ ?_
 refine ((Qfk l hl (fun m h=>(hm m h).2.2.1) (fun m h o k=>((hm m h).2.2.2 o k).2.1)).gam).useV ?_
 cases hf:fewF l
 ·refine zS ?_
  refine QGT.useV ?_
  exact zC
 have hl30:=QdR hf
 refine zS ?_
 have hpl:=QY4 l zo hm ps hp
 have hG:=Qf5 (all:=(bldF l).1) (order:=ps)
 generalize plF (bldF l).1 ps=G at*
 simp only [gO,grA] at hpl
 refine QM.useX [] hpl rfl zC zC ?_
 (have X1:=@List.getElem?_cons_succ.{0};refine zS1 ?_;clear X1)
 have hF:=(Fork_m G).gam (γ:=gK)
 simp only [gO,List.cons_append,List.nil_append] at hF
 refine QM.useX [462,463,464,465] hF rfl zC zC ?_
 refine zS ?_
 have hs0:=(Qe7 G hG (Qeo hG)).gam (γ:=gK)
 simp only [QBf,grA] at hs0
 refine hs0.use (ids:=[620,621,622,623]) zCN (.inl rfl) ?_
 refine zS ?_
 have hB:=(QUM l zo hm).gam (γ:=gK)
 refine hB.useV ?_
 have hall:=Qd8 l
 have hal:=(QM0 l).2
 generalize (bldF l).2=Gb at*
 generalize (bldF l).1=all at*
 (have X1:=@grA.eq_1;refine zS1 ?_;clear X1)
 have hgm:=QAn (G:=G)
 refine QD (ι:=Nat) (fun i=>⟨[(5,.ptr 6 0),(7,.rop (QBf G)),(8,.ptr 4 0),(9,.ptr 0 0),(10,.seq all.length 1 (flat bc all)),(12,.ptr 5 0),(13,.v (.int .i64 i))],⟨gO (foT G all i)++[(4,.cells 29 [.seq G.L.length 39 (flat itc G.L),.seq G.W.length 39 (flat itc G.W)] false),(5,.cells 29 [.seq (foT G all i).L.length 39 (flat itc (foT G all i).L),.seq (foT G all i).W.length 39 (flat itc (foT G all i).W)] false),(6,.cells 47 (hcell h) false)],7,7,0⟩⟩) (fun i=>i≤all.length) (fun i=>all.length - i) 0 (Nat.zero_le _) ?_ ?_
 ·simp only [gO,List.cons_append,List.nil_append,show foT G all 0=G from rfl]
  (have X1:=@QBf.eq_1;refine fzNM 0 [(0,620),(1,621),(2,622),(3,623),(4,316),(5,944),(6,5)] [0] ?_ ?_<;>first | exact zC1 | refine zS1 ?_)
 intro i hi
 have hC:=foT_ok hG (all:=all) (i:=i)
 obtain⟨C,hCe⟩:∃C,C=foT G all i:=⟨_,rfl⟩
 rw [←hCe] at hC ⊢
 simp only [gO,List.cons_append,List.nil_append]
 refine zS ?_
 refine⟨fun a1=>?_,fun a1=>?_⟩
 ·have hi1:i<all.length:=by omega
  have hnx:=Qfv (G:=G) hi1
  rw [←hCe] at hnx
  have hbl:=hall _ (List.getElem_mem hi1)
  (have X1:=@bc.eq_1;refine zS1 ?_;clear X1)
  generalize hBe:all[i]=B at*
  have hAm:=QXx C hC B zo
  simp only [gO] at hAm
  refine QM.useX [0,1,2,3] hAm rfl zC zC ?_
  (have X1:=@bc.eq_1;have X2:=hBe;refine zS2 ?_;clear X1 X2)
  have hAr:=(QKO C hC B zo).gam (γ:=gK)
  simp only [grA] at hAr
  refine QO.useV hAr rfl ?_
  (have X1:=@List.getElem?_cons_succ.{0};refine zS1 ?_;clear X1)
  have hnx2:(addF C B).1=foT G all (i+1):=hnx.symm
  rw [hnx2]
  refine⟨i+1,hi1,zO,?_⟩
  simp only [gO,List.cons_append,List.nil_append]
  refine fzNM 0 [(0,0),(1,1),(2,2),(3,3),(4,4),(5,5),(6,6)] [0,5] ?_ ?_<;>first | exact zC | refine zS ?_
 clear hCe
 refine zS ?_
 have hHO:=(Qax G hG).gam (γ:=gK)
 have hhl:=Qev hG
 have hhk:∀x∈heaF G.L,x∈QF G.L:=fun x hx=>(List.mem_filter.1 (QBr.1 hx)).1
 generalize heaF G.L=hd at*
 refine hHO.useV ?_
 refine zS ?_
 refine QD (ι:=Nat×List Hs) (fun q=>⟨[(5,.ptr 6 0),(7,.rop (QBf G)),(8,.ptr 4 0),(9,.ptr 0 0),(12,.ptr 5 0),(14,.sl 7 0 hd.length 32),(15,.v (.int .i64 q.1))],⟨gO C++[(4,.cells 29 [.seq G.L.length 39 (flat itc G.L),.seq G.W.length 39 (flat itc G.W)] false),(5,.cells 29 [.seq C.L.length 39 (flat itc C.L),.seq C.W.length 39 (flat itc C.W)] false),(6,.cells 47 (hcell h) false),(7,.cells 47 (flat hcell q.2) true)],8,8,0⟩⟩) (fun q=>q.1≤hd.length∧q.2.length=hd.length∧∀j,q.1≤j→q.2[j]?=hd[j]?) (fun q=>hd.length - q.1) (0,hd) ⟨Nat.zero_le _,rfl,fun _ _=>rfl⟩ ?_ ?_
 ·simp only [gO,List.cons_append,List.nil_append]
  refine fzNM 0 [(0,0),(1,1),(2,2),(3,3),(4,4),(5,5),(6,6),(7,315)] [0] ?_ ?_<;>first | exact zC | refine zS ?_
 rintro⟨j,hs⟩ ⟨hj,hsl,hsj⟩
 dsimp only at hj hsl hsj ⊢
 simp only [gO,List.cons_append,List.nil_append]
 refine zS ?_
 refine⟨fun b1=>?_,fun b1=>?_⟩
 ·have hj1:j<hd.length:=by omega
  have hj2:j<hs.length:=by omega
  have hje:hs[j]=hd[j]:=by
   have:=hsj j (Nat.le_refl _)
   rw [List.getElem?_eq_getElem hj1,List.getElem?_eq_getElem hj2,Option.some.injEq] at this
   exact this
  have hk:=hhk _ (List.getElem_mem hj1)
  rw [←hje] at hk
  refine zS ?_
  have hbm:=(QgL G hG hs[j] hk).gam (γ:=gK)
  obtain⟨b0,hb0⟩:∃b0,b0=bytF G.L hs[j]:=⟨_,rfl⟩
  rw [←hb0] at hbm
  have hb0l:b0.length≤1048576:=by
   obtain⟨x,hx,hxm,hxh⟩:=QA2 hk
   have:b0=x.b:=by rw [hb0,bytF,hx]
   rw [this]
   exact Nat.le_trans (hG.bL hxm).len zD
  refine QM.useX [] hbm rfl (by have X1:=@QBf.eq_1;exact zC1) zC ?_
  (have X1:=@List.getElem?_cons_succ.{0};refine zS1 ?_;clear X1)
  refine QD (ι:=Nat×List UInt8) (fun q=>⟨[(5,.ptr 6 0),(7,.rop (QBf G)),(8,.ptr 4 0),(9,.ptr 0 0),(12,.ptr 5 0),(14,.sl 7 0 hd.length 32),(15,.v (.int .i64 j)),(16,.sl 8 0 b0.length 1),(18,.v (.int .i64 q.1))],⟨gO C++[(4,.cells 29 [.seq G.L.length 39 (flat itc G.L),.seq G.W.length 39 (flat itc G.W)] false),(5,.cells 29 [.seq C.L.length 39 (flat itc C.L),.seq C.W.length 39 (flat itc C.W)] false),(6,.cells 47 (hcell h) false),(7,.cells 47 (flat hcell hs) true),(8,.cells 5 (flat QC q.2) true)],9,9,0⟩⟩) (fun q=>q.1≤b0.length∧q.2.length=b0.length) (fun q=>b0.length - q.1) (0,b0) ⟨Nat.zero_le _,rfl⟩ ?_ ?_
  ·simp only [gO,List.cons_append,List.nil_append]
   refine fzNM 0 [(0,0),(1,1),(2,2),(3,3),(4,4),(5,5),(6,6),(7,7),(8,316)] [0] ?_ ?_<;>first | exact zC | refine zS ?_
  rintro⟨k,bs⟩ ⟨hk1,hbl⟩
  dsimp only at hk1 hbl ⊢
  simp only [gO,List.cons_append,List.nil_append]
  refine zS ?_
  refine⟨fun c1=>?_,fun c1=>?_⟩
  ·have hk2:k<bs.length:=by omega
   have hg:=QBm hk2
   rw [QMi hk2] at hg
   have hb8:bs[k].toNat<256:=bs[k].toNat_lt
   (have X1:=hg;refine zS1 ?_;clear X1)
   refine⟨(k+1,bs.set k (U8 (((bs[k].toNat:Nat):Int)+1))),⟨by omega,by show (bs.set k _).length=_;rw [List.length_set,hbl]⟩,zO,?_⟩
   simp only [gO,List.cons_append,List.nil_append]
   refine fzNM 0 [(0,0),(1,1),(2,2),(3,3),(4,4),(5,5),(6,6),(7,7),(8,8)] [0] ?_ ?_<;>first | exact zC | refine zS ?_
  obtain⟨n0,hg0,hs0'⟩:=Qe0 hj2
  obtain⟨h',hset⟩:=hs0' (((U8 (n0+1)).toNat:Nat):Int)
  have hg1:(flat hcell hs)[j*32+Int.toNat 0]?=some (.v (.int .u8 n0)):=hg0
  have hset1:(flat hcell hs).set (j*32+Int.toNat 0) (.v (.int .u8 (((U8 (n0+1)).toNat:Nat):Int)))=flat hcell (hs.set j h'):=hset
  (have X1:=hg1;have X2:=hset1;refine zS2 ?_;clear X1 X2)
  refine⟨(j+1,hs.set j h'),⟨hj1,by show (hs.set j h').length=_;rw [List.length_set,hsl],fun q hq=>?_⟩,zO,?_⟩
  ·show (hs.set j h')[q]?=_
   rw [List.getElem?_set_ne (by have:j+1≤q:=hq;omega),hsj q (by have:j+1≤q:=hq;omega)]
  simp only [gO,List.cons_append,List.nil_append]
  refine fzNM 0 [(0,0),(1,1),(2,2),(3,3),(4,4),(5,5),(6,6),(7,7)] [0] ?_ ?_<;>first | exact zC | refine zS ?_
 refine zS ?_
 have hBy:=(Qfc G hG h).gam (γ:=gK)
 obtain⟨E,hE⟩:∃E:Int,E=((bytE G.L h:Nat):Int):=⟨_,rfl⟩
 rw [←hE] at hBy
 have hb:=(Qf2 G (by have:=hG.lenL;omega) h).gam (γ:=gK)
 have hp:=(QcP G h).gam (γ:=gK)
 have hsC:=(Qe7 C hC (Qeo hC)).gam (γ:=gK)
 have hsG:=(Qe7 G hG (Qeo hG)).gam (γ:=gK)
 simp only [grA] at hb hsC hsG
 rw [QBf] at hsC
 refine hBy.useV ?_
 (have X1:=@List.getElem?_cons_succ.{0};refine zS1 ?_;clear X1)
 refine QO.useS (ids:=[0,1,2,3]) hsC zCN rfl rfl rfl ?_
 refine zS ?_
 refine QO.useV hsG rfl ?_
 refine zS ?_
 refine QO.useV hp rfl ?_
 refine zS ?_
 refine QO.useV hb rfl ?_
 by_cases hT:h∈QF G.L
 ·have e1:hasL G.L h=true:=decide_eq_true hT
  have e2:bytE G.L h=0:=if_pos hT
  have e3:(E=0)=True:=eq_true (by rw [hE,e2];rfl)
  rw [e1] at hb
  rw [e1]
  (have X1:=e3;refine zS1 ?_;clear X1)
  refine QO.useV hb rfl ?_
  (have X1:=e3;refine zS1 ?_;clear X1)
  refine⟨fun _=>?_,fun k=>absurd (by simp) k⟩
  (have X1:=e3;refine zS1 ?_;clear X1)
  refine QO.useV hb rfl ?_
  (have X1:=e3;refine zS1 ?_;clear X1)
  refine QO.useV QGT rfl ?_
  (have X1:=e3;exact zC1)
 ·have e1:hasL G.L h=false:=decide_eq_false hT
  have e2:bytE G.L h=44:=if_neg hT
  have e4:(E=0)=False:=eq_false (by rw [hE,e2];decide)
  have e5:(E=44)=True:=eq_true (by rw [hE,e2];rfl)
  have e3:bytF G.L h=[]:=by rw [bytF,QGh.2 hT]
  rw [e1,e3]
  (have X1:=e4;have X2:=e5;refine zS2 ?_;clear X1 X2)
  refine QO.useV hb rfl ?_
  (have X1:=e4;have X2:=e5;refine zS2 ?_;clear X1 X2)
  refine⟨fun _=>?_,fun k=>absurd (by simp [e1]) k⟩
  (have X1:=e4;have X2:=e5;refine zS2 ?_;clear X1 X2)
  refine QO.useV hb rfl ?_
  (have X1:=e1;have X2:=e4;have X3:=e5;refine zS3 ?_;clear X1 X2 X3)
  refine QO.useV QGT rfl ?_
  (have X1:=e1;have X2:=e4;have X3:=e5;exact zC3)
end Go.AW
namespace Go.Proofs.YtpcbnjbpdooejaaGreatDoor.dagForks
open Go.ChangeShapes Go.WideShapes Go.ChangeAt Go.RowKit Go.AW
mutual
theorem QIX {H:Type}:∀d:DataW H,Rows.uptoBulk d=bulk d
 | .lit l=>by cases l<;>simp [Rows.uptoBulk,bulk]
 | .nil=>by simp [Rows.uptoBulk,bulk]
 | .ptr d=>by simp [Rows.uptoBulk,bulk,QIX d]
 | .slice a b=>by simp [Rows.uptoBulk,bulk,bulkAll_eq a,bulkAll_eq b]
 | .agg a=>by simp [Rows.uptoBulk,bulk,bulkAll_eq a]
 | .iface _ d=>by simp [Rows.uptoBulk,bulk,QIX d]
 | .map es=>by simp [Rows.uptoBulk,bulk,bulkEntries_eq es]
 | .held _=>by simp [Rows.uptoBulk,bulk]
theorem bulkAll_eq {H:Type}:∀ds:List (DataW H),Rows.uptoBulkAll ds=bulkAll ds
 | []=>rfl
 | d::ds=>by simp [Rows.uptoBulkAll,bulkAll,QIX d,bulkAll_eq ds]
theorem bulkEntries_eq {H:Type}:∀es:List (Lit×DataW H),Rows.uptoBulkEntries es=bulkEntries es
 | []=>rfl
 | e::es=>by simp [Rows.uptoBulkEntries,bulkEntries,bulkEntry_eq e,bulkEntries_eq es]
theorem bulkEntry_eq {H:Type}:∀e:Lit×DataW H,Rows.uptoBulkEntry e=bulkEntry e
 | (l,d)=>by cases l<;>simp [Rows.uptoBulkEntry,bulkEntry,QIX d]
end
theorem own:ownKnob Tryz.prog.godebug=none:=zK
theorem laidOut:laidOutB Tryz.prog=true:=zK
theorem Qef:QCk Tryz.prog 6 22=true:=zK
theorem Qee:QCk Tryz.prog 6 23=true:=zK
theorem QfB:QCk Tryz.prog 6 47=true:=zK
set_option maxRecDepth 100000 in
theorem contract (H:Type) (enc:TypeId×Value→H) (W:World) (base:Nat) (args:Array Value) (ds gs:List (DataW H)) (before:List MemPlace)
  (hval:∀(j:Nat) t v,Tryz.f8.params[j]?=some t→args[j]?=some v→Value.okWide Tryz.prog W .any base t v)
  (hW:DataW.Whole enc Tryz.prog Tryz.f8.params.toList Rows.dagForksSpec.vars false W args.toList ds gs before) (hk:Rows.uptoSmall H (ds++gs)=true) (hL:laidMetH Tryz.prog Rows.dagForksUptoRow.laid W):
  Calls Tryz.prog 8 args W fun e W'=>∃v,e=.returned v∧Rows.dagForksSpec.post enc Tryz.prog Tryz.f8 false true false false W args v W':=by
 have hW':=hW
 obtain⟨p,q,hA0,hV,rfl,hfz,hnd⟩:=hW
 have hA:DataW.TrodAll enc Tryz.prog W 0 (fun _=>true) true Tryz.f8.params.toList args.toList ds p:=hA0
 rw [Tryz.params8] at hA hval
 obtain⟨v0,vs0,d0,ds0,p0,q0,hargs,rfl,rfl,h0,r0⟩:=trodAll_cons hA
 obtain⟨v1,vs1,d1,ds1,p1,q1,rfl,rfl,rfl,h1,r1⟩:=trodAll_cons r0
 obtain⟨v2,vs2,d2,ds2,p2,q2,rfl,rfl,rfl,h2,r2⟩:=trodAll_cons r1
 obtain⟨rfl,rfl,rfl⟩:=trodAll_nil r2
 obtain rfl:args=#[v0,v1,v2]:=by cases args;simp_all
 obtain⟨rfl,rfl⟩:=trodVars_none hV
 clear hA0
 obtain⟨xs0,x0,a0,b0,c0,i0⟩:=QMX Qef (hval 0 22 v0 rfl rfl) h0
 obtain⟨xs1,x1,a1,b1,c1,i1⟩:=QMX Qee (hval 1 23 v1 rfl rfl) h1
 obtain⟨xs2,x2,a2,b2,c2,i2⟩:=QMX QfB (hval 2 47 v2 rfl rfl) h2
 obtain⟨y0,rfl,s0,o0⟩:=(Rd.mades) H _ _ _ a0
 obtain⟨y1,rfl,s1,o1⟩:=(Rd.bytes) H _ _ _ a1
 obtain⟨y2,rfl,s2,o2⟩:=(Rd.hash Qao QOv) H _ _ _ a2
 dsimp only at s0 s1 s2
 have hk':bulkAll ([d0,d1,d2]++[])≤1048576:=by rw [←bulkAll_eq];exact of_decide_eq_true hk
 simp only [bulkAll,List.append_nil] at hk'
 obtain⟨hl0,hm0⟩:=Qdz zo o0
 simp only [avOf,QRV,QR2,Qbx,List.head?_cons,Option.some.injEq] at b0 b1 b2
 subst b0;subst b1;subst b2
 have hp:=QgO y0 hl0 hm0 y1 (by have:=QL6 s1;omega) y2
 refine (hp.lawG (w:=W) (args:=#[v0,v1,v2]) (GOK.laid hL) (by simp only [RepL];exact⟨v0,_,rfl,c0,v1,_,rfl,c1,v2,_,rfl,c2,rfl⟩)).mono fun e W' ⟨he,hb⟩=>?_
 subst he
 exact⟨_,rfl,QXf laidOut zK zK Tryz.underlying4 hW' rfl rfl hb⟩
noncomputable def QGV (os:Os):World:=
 { World.holding Tryz.prog os ⟨#[],#[],[]⟩ with heap:=(((World.holding Tryz.prog os ⟨#[],#[],[]⟩).heap.modify 0 fun
   | .cells _ t frozen=>.cells (zB.map fun z=>Value.int .u32 z).toArray t frozen
   | o=>o).modify 1 fun
   | .cells _ t frozen=>.cells (zR.map fun z=>Value.int .u32 z).toArray t frozen
   | o=>o) }
theorem QV8 (os:Os):laidMet Tryz.prog Rows.dagForksUptoRow.laid ((QGV os).forCall (fun _ _=>0) ⟨#[],#[.slice none 0 0,.slice none 0 0,.agg (Array.replicate 32 (.int .u8 0))],[]⟩).memory:=
 laidMet_of_run' 8 zK zK
theorem Qew (os:Os) {H:Type} (enc:TypeId×Value→H):∃places,DataW.whole enc Tryz.prog ((QGV os).forCall (fun _ _=>0) ⟨#[],#[.slice none 0 0,.slice none 0 0,.agg (Array.replicate 32 (.int .u8 0))],[]⟩).memory Tryz.f8.params.toList Rows.dagForksSpec.vars false (#[.slice none 0 0,.slice none 0 0,.agg (Array.replicate 32 (.int .u8 0))]:Array Value).toList 8=some ([.nil,.nil,.agg (List.replicate 32 (.lit (.int .u8 0)))],[],places):=
 ⟨[],by kernel_rfl⟩
set_option maxRecDepth 100000 in
theorem lifted (os:Os) (started:os.Started) (H:Type) (enc:TypeId×Value→H) (F:Stop.Interp):
  ReturnsInHanded {} Tryz.checked os 8 .any ((Rows.OpenSpec.upto Rows.dagForksSpec).preRow enc Tryz.prog Tryz.f8 Rows.dagForksUptoRow.domain false Rows.dagForksUptoRow.laid) (((Rows.OpenSpec.upto Rows.dagForksSpec).at F).post enc Tryz.prog Tryz.f8 false true false false):=by
 obtain⟨places,hx⟩:=Qew os enc
 refine returnsInHanded_of_row (C:=Tryz.checked) (s:=Rows.OpenSpec.upto Rows.dagForksSpec) own started zK Tryz.func8
  (witness_row_at (enc:=enc) (C:=Tryz.checked) false (QGV os) #[.slice none 0 0,.slice none 0 0,.agg (Array.replicate 32 (.int .u8 0))] rfl zK zK zK
   (OpenSpec.preRow_of_cond 8 hx zK (fun k hk=>by cases hk;kernel_rfl) zK (QV8 os))) ?_
 intro W base args ds gs before hval hW h1 hk h3 hL _ _
 exact contract H enc W base args ds gs before hval hW (hk _ rfl) hL
theorem Q8 {a b:Bool} (ha:a=true) (hb:b=true):(a&&b)=true:=by rw [ha,hb];rfl
theorem fact1:(fun (P:Program) (f:FuncId) (fn:Func) (s:ChangeSpec) (c:OpenClaim)=>(c.wf (OpenSpec.ofChange s):Bool)) Tryz.prog 8 Tryz.f8 ((Rows.OpenSpec.upto Rows.dagForksSpec).bare) (Rows.dagForksUptoRow)=true:=zK
theorem fact2:(fun (P:Program) (f:FuncId) (fn:Func) (s:ChangeSpec) (c:OpenClaim)=>(laidOutB P:Bool)) Tryz.prog 8 Tryz.f8 ((Rows.OpenSpec.upto Rows.dagForksSpec).bare) (Rows.dagForksUptoRow)=true:=zK
theorem fact3:(fun (P:Program) (f:FuncId) (fn:Func) (s:ChangeSpec) (c:OpenClaim)=>(mapsRowed P:Bool)) Tryz.prog 8 Tryz.f8 ((Rows.OpenSpec.upto Rows.dagForksSpec).bare) (Rows.dagForksUptoRow)=true:=zK
theorem fact4:(fun (P:Program) (f:FuncId) (fn:Func) (s:ChangeSpec) (c:OpenClaim)=>(fn.params.all (P.readableRec ·):Bool)) Tryz.prog 8 Tryz.f8 ((Rows.OpenSpec.upto Rows.dagForksSpec).bare) (Rows.dagForksUptoRow)=true:=zK
theorem fact5:(fun (P:Program) (f:FuncId) (fn:Func) (s:ChangeSpec) (c:OpenClaim)=>(namedTie P c.named s.vars:Bool)) Tryz.prog 8 Tryz.f8 ((Rows.OpenSpec.upto Rows.dagForksSpec).bare) (Rows.dagForksUptoRow)=true:=zK
theorem fact6:(fun (P:Program) (f:FuncId) (fn:Func) (s:ChangeSpec) (c:OpenClaim)=>((c.stops==[]):Bool)) Tryz.prog 8 Tryz.f8 ((Rows.OpenSpec.upto Rows.dagForksSpec).bare) (Rows.dagForksUptoRow)=true:=zK
theorem fact7:(fun (P:Program) (f:FuncId) (fn:Func) (s:ChangeSpec) (c:OpenClaim)=>((P.stops==[]):Bool)) Tryz.prog 8 Tryz.f8 ((Rows.OpenSpec.upto Rows.dagForksSpec).bare) (Rows.dagForksUptoRow)=true:=zK
theorem fact8:(fun (P:Program) (f:FuncId) (fn:Func) (s:ChangeSpec) (c:OpenClaim)=>((c.knobs==[]):Bool)) Tryz.prog 8 Tryz.f8 ((Rows.OpenSpec.upto Rows.dagForksSpec).bare) (Rows.dagForksUptoRow)=true:=zK
theorem fact9:(fun (P:Program) (f:FuncId) (fn:Func) (s:ChangeSpec) (c:OpenClaim)=>((P.stopKnobs==[]):Bool)) Tryz.prog 8 Tryz.f8 ((Rows.OpenSpec.upto Rows.dagForksSpec).bare) (Rows.dagForksUptoRow)=true:=zK
theorem fact10:(fun (P:Program) (f:FuncId) (fn:Func) (s:ChangeSpec) (c:OpenClaim)=>((c.inPlace==P.inPlace f):Bool)) Tryz.prog 8 Tryz.f8 ((Rows.OpenSpec.upto Rows.dagForksSpec).bare) (Rows.dagForksUptoRow)=true:=zK
theorem fact11:(fun (P:Program) (f:FuncId) (fn:Func) (s:ChangeSpec) (c:OpenClaim)=>((c.unfollowed==P.unfollowed f):Bool)) Tryz.prog 8 Tryz.f8 ((Rows.OpenSpec.upto Rows.dagForksSpec).bare) (Rows.dagForksUptoRow)=true:=zK
theorem fact12:(fun (P:Program) (f:FuncId) (fn:Func) (s:ChangeSpec) (c:OpenClaim)=>((c.recurses==P.recurses f):Bool)) Tryz.prog 8 Tryz.f8 ((Rows.OpenSpec.upto Rows.dagForksSpec).bare) (Rows.dagForksUptoRow)=true:=zK
theorem fact13:(fun (P:Program) (f:FuncId) (fn:Func) (s:ChangeSpec) (c:OpenClaim)=>((c.named==P.varsNamed f):Bool)) Tryz.prog 8 Tryz.f8 ((Rows.OpenSpec.upto Rows.dagForksSpec).bare) (Rows.dagForksUptoRow)=true:=zK
theorem fact14:(fun (P:Program) (f:FuncId) (fn:Func) (s:ChangeSpec) (c:OpenClaim)=>((c.maps==(fn.params.toList++s.plain.varTypes P).any (P.mapsRec ·)):Bool)) Tryz.prog 8 Tryz.f8 ((Rows.OpenSpec.upto Rows.dagForksSpec).bare) (Rows.dagForksUptoRow)=true:=zK
theorem fact15:(fun (P:Program) (f:FuncId) (fn:Func) (s:ChangeSpec) (c:OpenClaim)=>((c.ifaces==(fn.params.toList++s.plain.varTypes P).any (P.ifacesRec ·)):Bool)) Tryz.prog 8 Tryz.f8 ((Rows.OpenSpec.upto Rows.dagForksSpec).bare) (Rows.dagForksUptoRow)=true:=zK
theorem fact16:(fun (P:Program) (f:FuncId) (fn:Func) (s:ChangeSpec) (c:OpenClaim)=>((c.mapsOut==P.mapsAmong fn.resultTypes.toList):Bool)) Tryz.prog 8 Tryz.f8 ((Rows.OpenSpec.upto Rows.dagForksSpec).bare) (Rows.dagForksUptoRow)=true:=zK
theorem fact17:(fun (P:Program) (f:FuncId) (fn:Func) (s:ChangeSpec) (c:OpenClaim)=>((c.loops==(fn.params.toList++s.plain.varTypes P).any (P.loopsFrom ·)):Bool)) Tryz.prog 8 Tryz.f8 ((Rows.OpenSpec.upto Rows.dagForksSpec).bare) (Rows.dagForksUptoRow)=true:=zK
theorem fact18:(fun (P:Program) (f:FuncId) (fn:Func) (s:ChangeSpec) (c:OpenClaim)=>((c.wideKeys==(fn.params.toList++s.plain.varTypes P++fn.resultTypes.toList).any (P.wideKeysFrom ·)):Bool)) Tryz.prog 8 Tryz.f8 ((Rows.OpenSpec.upto Rows.dagForksSpec).bare) (Rows.dagForksUptoRow)=true:=zK
theorem fact19:(fun (P:Program) (f:FuncId) (fn:Func) (s:ChangeSpec) (c:OpenClaim)=>(s.vars.all (P.varReadable ·):Bool)) Tryz.prog 8 Tryz.f8 ((Rows.OpenSpec.upto Rows.dagForksSpec).bare) (Rows.dagForksUptoRow)=true:=zK
theorem fact20:(fun (P:Program) (f:FuncId) (fn:Func) (s:ChangeSpec) (c:OpenClaim)=>(fn.resultTypes.all (fun t=>P.readableRec t&&decide (t<P.types.size)):Bool)) Tryz.prog 8 Tryz.f8 ((Rows.OpenSpec.upto Rows.dagForksSpec).bare) (Rows.dagForksUptoRow)=true:=zK
theorem fact21:(fun (P:Program) (f:FuncId) (fn:Func) (s:ChangeSpec) (c:OpenClaim)=>((c.ifacesOut==fn.resultTypes.toList.any (P.ifacesRec ·)):Bool)) Tryz.prog 8 Tryz.f8 ((Rows.OpenSpec.upto Rows.dagForksSpec).bare) (Rows.dagForksUptoRow)=true:=zK
theorem fact22:(fun (P:Program) (f:FuncId) (fn:Func) (s:ChangeSpec) (c:OpenClaim)=>((c.loopsOut==fn.resultTypes.toList.any (P.loopsFrom ·)):Bool)) Tryz.prog 8 Tryz.f8 ((Rows.OpenSpec.upto Rows.dagForksSpec).bare) (Rows.dagForksUptoRow)=true:=zK
theorem fact23:(fun (P:Program) (f:FuncId) (fn:Func) (s:ChangeSpec) (c:OpenClaim)=>((c.plainKeys==P.plainKeys):Bool)) Tryz.prog 8 Tryz.f8 ((Rows.OpenSpec.upto Rows.dagForksSpec).bare) (Rows.dagForksUptoRow)=true:=zK
theorem fact24:(fun (P:Program) (f:FuncId) (fn:Func) (s:ChangeSpec) (c:OpenClaim)=>(c.shortTexts.isNone:Bool)) Tryz.prog 8 Tryz.f8 ((Rows.OpenSpec.upto Rows.dagForksSpec).bare) (Rows.dagForksUptoRow)=true:=zK
theorem fact25:(fun (P:Program) (f:FuncId) (fn:Func) (s:ChangeSpec) (c:OpenClaim)=>(P.stopsHeard:Bool)) Tryz.prog 8 Tryz.f8 ((Rows.OpenSpec.upto Rows.dagForksSpec).bare) (Rows.dagForksUptoRow)=true:=zK
theorem fact26:(fun (P:Program) (f:FuncId) (fn:Func) (s:ChangeSpec) (c:OpenClaim)=>(P.mayEnter:Bool)) Tryz.prog 8 Tryz.f8 ((Rows.OpenSpec.upto Rows.dagForksSpec).bare) (Rows.dagForksUptoRow)=true:=zK
theorem fact27:(fun (P:Program) (f:FuncId) (fn:Func) (s:ChangeSpec) (c:OpenClaim)=>((c.lifted==P.liftsFinal):Bool)) Tryz.prog 8 Tryz.f8 ((Rows.OpenSpec.upto Rows.dagForksSpec).bare) (Rows.dagForksUptoRow)=true:=zK
theorem fact28:(fun (P:Program) (f:FuncId) (fn:Func) (s:ChangeSpec) (c:OpenClaim)=>((P.make==some c.make):Bool)) Tryz.prog 8 Tryz.f8 ((Rows.OpenSpec.upto Rows.dagForksSpec).bare) (Rows.dagForksUptoRow)=true:=zK
theorem fact29:(fun (P:Program) (f:FuncId) (fn:Func) (s:ChangeSpec) (c:OpenClaim)=>((c.kinds==(if c.domain.isEmpty then [] else fn.params.toList.map fun t=>match P.underlying t with | some (.int k)=>some k | _=>none)):Bool)) Tryz.prog 8 Tryz.f8 ((Rows.OpenSpec.upto Rows.dagForksSpec).bare) (Rows.dagForksUptoRow)=true:=zK
theorem fact30:(fun (P:Program) (f:FuncId) (fn:Func) (s:ChangeSpec) (c:OpenClaim)=>((c.pinned==c.pinnedBy):Bool)) Tryz.prog 8 Tryz.f8 ((Rows.OpenSpec.upto Rows.dagForksSpec).bare) (Rows.dagForksUptoRow)=true:=zK
theorem fact31:(fun (P:Program) (f:FuncId) (fn:Func) (s:ChangeSpec) (c:OpenClaim)=>((c.veiled==(fn.params.toList++s.plain.varTypes P++fn.resultTypes.toList).any (P.veiledRec ·)):Bool)) Tryz.prog 8 Tryz.f8 ((Rows.OpenSpec.upto Rows.dagForksSpec).bare) (Rows.dagForksUptoRow)=true:=zK
theorem fact32:(fun (P:Program) (f:FuncId) (fn:Func) (s:ChangeSpec) (c:OpenClaim)=>(c.veiledFits P fn.params.toList (fn.params.toList++s.plain.varTypes P++fn.resultTypes.toList):Bool)) Tryz.prog 8 Tryz.f8 ((Rows.OpenSpec.upto Rows.dagForksSpec).bare) (Rows.dagForksUptoRow)=true:=zK
end Go.Proofs.YtpcbnjbpdooejaaGreatDoor.dagForks
