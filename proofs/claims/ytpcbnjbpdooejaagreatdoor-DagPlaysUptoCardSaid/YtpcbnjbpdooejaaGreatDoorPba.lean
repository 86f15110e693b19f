/- A part of the proof: D71 D74 D77. -/
import Derived.Test.YtpcbnjbpdooejaaGreatDoorPae
import Derived.Test.YtpcbnjbpdooejaaGreatDoorPaz
import Derived.Test.YtpcbnjbpdooejaaGreatDoorPad
import Derived.Test.YtpcbnjbpdooejaaGreatDoorRows
import Derived.Lib.LaidTab
set_option linter.unusedSimpArgs false
set_option linter.unusedVariables false
set_option maxRecDepth 100000
set_option maxHeartbeats 8000000
namespace Go.AW
open Proofs Go.RowKit
theorem Rd.u8 {P:Program} {t:TypeId} (h:tint P t=some .u8):Rd P t QC (fun _=>1) (fun _=>True):=by
 intro H n d xs hx
 obtain⟨a,rfl,h1,h2⟩:=Rd.int h H n d xs hx
 have h3:0≤a∧a≤255:=by simpa [iok,Lit.wf,IntKind.min,IntKind.max,IntKind.signed,IntKind.bits] using h2
 refine⟨UInt8.ofNat a.toNat,?_,h1,trivial⟩
 have:((UInt8.ofNat a.toNat).toNat:Int)=a:=by
  rw [UInt8.toNat_ofNat']
  omega
 rw [QC,this];rfl
theorem Rd.bytes:Rd Tryz.prog 23 (fun l:List UInt8=>[.seq l.length 1 (flat QC l)]) (fun l=>(l.map fun _=>1).sum+1) (fun l=>∀a∈l,True):=Rd.slice QOA tsz_5 (Rd.u8 QOv)
def osz (o:OpV):Nat:=(o.name.size+1)+(o.text.size+1)+4
theorem Rd.op:Rd Tryz.prog 51 QX osz (fun o=>iok .i64 o.kind∧iok .i64 o.pos∧iok .i64 o.by_):=by
 intro H n d xs hx
 obtain⟨m,ps,rfl,h,hb⟩:=QLh QOi hx
 simp only [List.map_cons,List.map_nil] at h
 obtain⟨ds,a0,_,k0,rfl,h,e0,s0,o0⟩:=QBd (Rd.int QN0) h
 obtain⟨ds,a1,_,k1,rfl,h,e1,s1,o1⟩:=QBd (Rd.str QNz) h
 obtain⟨ds,a2,_,k2,rfl,h,e2,s2,o2⟩:=QBd (Rd.int QN0) h
 obtain⟨ds,a3,_,k3,rfl,h,e3,s3,o3⟩:=QBd (Rd.int QN0) h
 obtain⟨ds,a4,_,k4,rfl,h,e4,s4,o4⟩:=QBd (Rd.str QNz) h
 obtain rfl:=QZ6 h
 refine⟨⟨a0,a1,a2,a3,a4⟩,rfl,?_,o0,o2,o3⟩
 simp only [osz]
 omega
theorem Rd.ops:Rd Tryz.prog 52 (fun l:List OpV=>[.seq l.length 5 (flat QX l)]) (fun l=>(l.map osz).sum+1) (fun l=>∀a∈l,iok .i64 a.kind∧iok .i64 a.pos∧iok .i64 a.by_):=Rd.slice QN6 QaI Rd.op
def msz (m:MadeV):Nat:=((m.on.map fun _=>1).sum+1)+(m.note.size+1)+((m.ops.map osz).sum+1)+3
def mok (m:MadeV):Prop:=∀o∈m.ops,iok .i64 o.kind∧iok .i64 o.pos∧iok .i64 o.by_
theorem Rd.made:Rd Tryz.prog 115 mdc msz mok:=by
 intro H n d xs hx
 obtain⟨m,ps,rfl,h,hb⟩:=QLh QKE hx
 simp only [List.map_cons,List.map_nil] at h
 obtain⟨ds,a0,_,k0,rfl,h,e0,s0,o0⟩:=QBd (Rd.u8 QOv) h
 obtain⟨ds,a1,_,k1,rfl,h,e1,s1,o1⟩:=QBd Rd.bytes h
 obtain⟨ds,a2,_,k2,rfl,h,e2,s2,o2⟩:=QBd (Rd.str QNz) h
 obtain⟨ds,a3,_,k3,rfl,h,e3,s3,o3⟩:=QBd Rd.ops h
 obtain⟨ds,a4,_,k4,rfl,h,e4,s4,o4⟩:=QBd (Rd.u8 QOv) h
 obtain rfl:=QZ6 h
 refine⟨⟨a0,a1,a2,a3,a4⟩,rfl,?_,o3⟩
 simp only [msz]
 omega
theorem Rd.mades:Rd Tryz.prog 22 (fun l:List MadeV=>[.seq l.length 5 (flat mdc l)]) (fun l=>(l.map msz).sum+1) (fun l=>∀a∈l,mok a):=Rd.slice QOO QUF Rd.made
theorem QUw {α:Type} {f:α→Nat} {l:List α} {a:α} (h:a∈l):f a≤(l.map f).sum:=by
 induction l with
 | nil=>cases h
 | cons x l ih=>
  simp only [List.map_cons,List.sum_cons]
  rcases List.mem_cons.1 h with rfl | h
  ·omega
  ·have:=ih h;omega
theorem QIW {α:Type} {f:α→Nat} (hf:∀a,1≤f a) (l:List α):l.length≤(l.map f).sum:=by
 induction l with
 | nil=>simp
 | cons x l ih=>simp only [List.map_cons,List.sum_cons,List.length_cons];have:=hf x;omega
theorem QNl {n:Int} (h:iok .i64 n):-9223372036854775808≤n∧n<9223372036854775808:=by
 have h3:-9223372036854775808≤n∧n≤9223372036854775807:=by simpa [iok,Lit.wf,IntKind.min,IntKind.max,IntKind.signed,IntKind.bits] using h
 omega
theorem Qdz {l:List MadeV} (hb:(l.map msz).sum≤1048576) (ho:∀m∈l,mok m):l.length≤1048576∧∀m∈l,mdOK m:=by
 refine⟨Nat.le_trans (QIW (fun m=>by simp only [msz];omega) l) hb,fun m hm=>?_⟩
 have h1:msz m≤1048576:=Nat.le_trans (QUw (f:=msz) hm) hb
 have h2:=QIW (f:=fun _:UInt8=>1) (fun _=>Nat.le_refl _) m.on
 have h3:=QIW (f:=osz) (fun o=>by simp only [osz];omega) m.ops
 simp only [msz] at h1
 refine⟨by omega,by omega,by omega,fun o hm2=>?_⟩
 have h4:osz o≤(m.ops.map osz).sum:=QUw (f:=osz) hm2
 obtain⟨k1,k2,k3⟩:=ho m hm o hm2
 simp only [osz] at h4
 exact⟨by omega,by omega,QNl k1,QNl k2,QNl k3⟩
theorem QL6 {l:List UInt8} {n:Nat} (h:(l.map fun _=>1).sum+1≤n):l.length≤n:=by
 have:=QIW (f:=fun _:UInt8=>1) (fun _=>Nat.le_refl _) l
 omega
theorem QVA:Tryz.prog.globalNamed "stemma/sha.rounds"=some 1:=zK
theorem QaV:Tryz.prog.globalNamed "stemma/sha.begin"=some 0:=zK
theorem QZ0:(Tryz.prog.globals[1]?).map (·.type)=some 260:=zK
theorem Qby:(Tryz.prog.globals[0]?).map (·.type)=some 208:=zK
theorem Qad:Tryz.prog.cellsOf 260=64:=zK
theorem cells8:Tryz.prog.cellsOf 208=8:=zK
theorem QZ7:Tryz.prog.cellsOf 84=1:=zK
def zR:List Int:=kR.map fun a=>((a.toNat:Nat):Int)
def zB:List Int:=kB.map fun a=>((a.toNat:Nat):Int)
open Proofs.YtpcbnjbpdooejaaGreatDoor in
def QbE:List (String×DataW Unit):=[("stemma/sha.rounds",Rows.laid_stemma_sha_rounds),("stemma/sha.begin",Rows.laid_stemma_sha_begin)]
theorem QX5:QbE=[("stemma/sha.rounds",Lib.tabData .u32 zR),("stemma/sha.begin",Lib.tabData .u32 zB)]:=zK
theorem Qar {P:Program} {W:World} {n1 name:String} {d1:DataW Unit} {k:IntKind} {zs:List Int} {rest:List (String×DataW Unit)} {g:Nat} {t e:TypeId} {n:Nat}
  (hg:P.globalNamed name=some g) (hty:(P.globals[g]?).map (·.type)=some t) (ht:P.underlying t=some (.array n e)) (he:P.underlying e=some (.int k)) (hce:P.cellsOf e=1) (hct:P.cellsOf t=n)
  (h:laidMet P ((n1,d1)::(name,Lib.tabData k zs)::rest) W):Lib.TabIs P W name k zs:=by
 obtain⟨ps,⟨_,_,_,_,_,_,_,_,_,_,⟨g',t',cs,fuel,p,q,hg',ht',hvar,hd,_,_⟩,_⟩,_⟩:=h
 obtain rfl:=Option.some.inj (hg.symm.trans hg')
 obtain rfl:=Option.some.inj (hty.symm.trans ht')
 unfold Lib.TabIs
 rw [hvar,←Lib.cells_of_tab ht he hce hct hd]
theorem GOK.laid {W:World} (h:laidMetH Tryz.prog QbE W):GOK gK (Sall W) W:=by
 have h':laidMet Tryz.prog QbE W:=h
 rw [QX5] at h'
 have hR:=Lib.tabIs_of_head QVA QZ0 Tryz.underlying260 Tryz.underlying84 QZ7 Qad h'
 have hB:=Qar QaV Qby Tryz.underlying208 Tryz.underlying84 QZ7 cells8 h'
 have key:∀(g:Nat) (name:String) (zs:List Int),Lib.TabIs Tryz.prog W name .u32 zs→Tryz.prog.globalNamed name=some g→∀(j:Nat) (v:Value),(zs.map fun z=>Value.int .u32 z)[j]?=some v→Sall W g j∧W.cell? ⟨g,j,none⟩=some v∧v.oneCell'=true:=by
  intro g name zs hT hn j v hv
  rw [List.getElem?_map] at hv
  cases e:zs[j]? with
  | none=>rw [e] at hv;cases hv
  | some z=>
   rw [e] at hv
   simp only [Option.map_some,Option.some.injEq] at hv
   subst hv
   have hj:=(List.getElem?_eq_some_iff.1 e).1
   have hc:=hT.cell hn j hj
   rw [List.getD_eq_getElem?_getD,e,Option.getD_some] at hc
   refine⟨?_,hc,rfl⟩
   refine Classical.byContradiction fun hlt=>?_
   have hnone:W.heap[g]?=none:=by
    rw [Array.getElem?_eq_none]
    exact Nat.le_of_not_lt hlt
   simp [World.cell?,hnone] at hc
 refine⟨fun g vs hg j v hv=>?_,fun g N hg=>?_⟩
 ·simp only [gK,lk] at hg
  split at hg
  ·simp only [Option.some.injEq,GEnt.tab.injEq] at hg
   subst hg
   rename_i e
   refine key g "stemma/sha.begin" zB hB (by rw [←e];exact QaV) j v ?_
   rw [zB,List.map_map];exact hv
  ·split at hg
   ·simp only [Option.some.injEq,GEnt.tab.injEq] at hg
    subst hg
    rename_i e
    refine key g "stemma/sha.rounds" zR hR (by rw [←e];exact QVA) j v ?_
    rw [zR,List.map_map];exact hv
   ·cases hg
 ·simp only [gK,lk] at hg
  split at hg
  ·cases hg
  ·split at hg<;>cases hg
theorem QE.lawG {P:Program} {γ:GTab} {w:World} {f:FuncId} {xs:List AV} {args:Array Value} (hp:QE P γ f xs (.v (.bool true))) (hG:GOK γ (Sall w) w) (h:RepL (Sall w) μ0 w xs args.toList):
  Calls P f args w fun e w'=>e=.returned (.bool true)∧Below w.heap.size w w':=by
 refine (hp.2.2.2 (Sall w) w args.toList (fun b off h=>h) hG h).mono fun e w' he=>?_
 obtain⟨v,S',rfl,hE,hv⟩:=he
 simp only [Rep] at hv
 subst hv
 exact⟨rfl,hE.os,hE.tape.1,hE.output,hE.size,hE.heap⟩
open Proofs
theorem Qeo {G:GrV} (hG:GrOK G):(misF G).length≤1048576:=by
 have h:(misF G).length≤16*G.W.length:=by
  rw [misF]
  refine Nat.le_trans (QAp _) (Nat.le_trans (List.length_filter_le _ _) ?_)
  have:∀W:List Itm,(∀x∈W,ItB x)→(W.flatMap fun x=>x.c.deps).length≤16*W.length:=by
   intro W
   induction W with
   | nil=>intro _;simp
   | cons x W ih=>
    intro h
    have h1:=(h x (by simp)).deps
    have h2:=ih fun y hy=>h y (by simp [hy])
    simp only [List.flatMap_cons,List.length_append,List.length_cons];omega
  exact this G.W fun x hx=>hG.bW hx
 have:=hG.lenW
 omega
open Proofs
def hgR (R:List Hs×Nat×Nat):AV:=if R.2.2=0 then .tup [.sl 0 0 R.1.length 32,.v (.int .i64 R.2.1),.v (.int .i64 R.2.2)] else .tup [.v (.slice none 0 0),.v (.int .i64 R.2.1),.v (.int .i64 R.2.2)]
def hgO (R:List Hs×Nat×Nat):List (Nat×AObj):=if R.2.2=0 then [(0,.cells 47 (flat hcell R.1) true)] else []
def opR (R:List OpV×Nat):AV:=if R.2=0 then .tup [.sl 0 0 R.1.length 5,.v (.int .i64 R.2)] else .tup [.v (.slice none 0 0),.v (.int .i64 R.2)]
def opO (R:List OpV×Nat):List (Nat×AObj):=if R.2=0 then [(0,.cells 51 (flat QX R.1) true)] else []
theorem HGet_m (b:List UInt8) (hb:b.length≤1048576):QM Tryz.prog [] 113 [.seq b.length 1 (flat QC b),.v (.int .i64 16)] [] 0 (hgR (hGet (getU 0 0) b 16)) (hgO (hGet (getU 0 0) b 16)) 1:=by
 refine QM.start Tryz.func113 rfl zK rfl Tryz.ntmps113 fol zK zD ?_
 refine zZ ?_
 refine (QAo b zo).useV ?_
 obtain⟨k1,k2⟩:=QCn b 0 0
 obtain⟨R,hR⟩:∃R,R=hGet (getU 0 0) b 16:=⟨_,rfl⟩
 rw [←hR]
 rw [hGet] at hR
 generalize getU 0 0 b=q at k1 k2 hR ⊢
 obtain⟨n,k,e⟩:=q
 simp only at k1 k2 hR
 have hw:IntKind.u64.wrap ((b.length:Int) - k)=(b.length:Int) - k:=QU zo zo
 (have X1:=@guR.eq_1;refine zS1 ?_;clear X1)
 iterate 14 all_goals (try (refine And.intro (fun _=>?_) (fun _=>?_)<;>try (have X1:=hw;first | exact zC1 | refine zS1 ?_)))
 all_goals try first
  | (exfalso;omega)
  | (rw [if_pos zo] at hR;subst hR;(rw [hgR,hgO,if_neg (by simp only;omega),if_neg (by simp only;omega)];(refine fzNM 0 [] [] ?_ ?_<;>first | exact zC | refine zS ?_);first | done | exact⟨rfl,rfl⟩ | rfl))
  | (rw [if_neg zo,if_pos zo] at hR;subst hR;(rw [hgR,hgO,if_neg (by simp only;omega),if_neg (by simp only;omega)];(refine fzNM 0 [] [] ?_ ?_<;>first | exact zC | refine zS ?_);first | done | exact⟨rfl,rfl⟩ | rfl))
  | (rw [if_neg zo,if_neg zo,if_pos zo] at hR;subst hR;(rw [hgR,hgO,if_neg (by simp only;omega),if_neg (by simp only;omega)];(refine fzNM 0 [] [] ?_ ?_<;>first | exact zC | refine zS ?_);first | done | exact⟨rfl,rfl⟩ | rfl))
 rw [if_neg zo,if_neg zo,if_neg zo] at hR
 have hz:∀m,(List.replicate m [AV.v (.int .u8 0),AV.v (.int .u8 0),AV.v (.int .u8 0),AV.v (.int .u8 0),AV.v (.int .u8 0),AV.v (.int .u8 0),AV.v (.int .u8 0),AV.v (.int .u8 0),AV.v (.int .u8 0),AV.v (.int .u8 0),AV.v (.int .u8 0),AV.v (.int .u8 0),AV.v (.int .u8 0),AV.v (.int .u8 0),AV.v (.int .u8 0),AV.v (.int .u8 0),AV.v (.int .u8 0),AV.v (.int .u8 0),AV.v (.int .u8 0),AV.v (.int .u8 0),AV.v (.int .u8 0),AV.v (.int .u8 0),AV.v (.int .u8 0),AV.v (.int .u8 0),AV.v (.int .u8 0),AV.v (.int .u8 0),AV.v (.int .u8 0),AV.v (.int .u8 0),AV.v (.int .u8 0),AV.v (.int .u8 0),AV.v (.int .u8 0),AV.v (.int .u8 0)]).flatten=flat hcell (List.replicate m QBl):=fun m=>by
  induction m with
  | zero=>rfl
  | succ m ih=>rw [List.replicate_succ,List.replicate_succ,List.flatten_cons,ih];rfl
 rw [hz]
 refine QD (ι:=Nat×List Hs) (fun q=>⟨[(0,.seq b.length 1 (flat QC b)),(4,.sl 0 0 n.toNat 32),(8,.v (.int .i64 k)),(41,.v (.int .i64 n.toNat)),(42,.v (.int .i64 q.1))],⟨[(0,.cells 47 (flat hcell q.2) true)],1,1,0⟩⟩) (fun q=>q.1≤n.toNat∧q.2=QA8 q.1 (b.drop k)++List.replicate (n.toNat - q.1) QBl) (fun q=>n.toNat - q.1) (0,List.replicate n.toNat QBl) ⟨Nat.zero_le _,by simp [QA8]⟩ ?_ ?_
 ·exact fzN 0 [(0,369)] []
 rintro⟨i,l⟩ ⟨hi,hl⟩
 simp only at hi hl
 have hll:l.length=n.toNat:=by rw [hl,List.length_append,QAv,List.length_replicate];omega
 refine zS ?_
 refine⟨fun h1=>?_,fun h1=>?_⟩
 ·have hb1:k+32*n.toNat≤b.length:=by omega
  have e0:((k:Int)+32*(i:Int)).toNat=k+32*i:=by omega
  obtain⟨d,hd⟩:∃d,d=((b.drop k).drop (32*i)).take 32:=⟨_,rfl⟩
  have hdl:d.length=32:=by rw [hd,List.length_take,List.length_drop,List.length_drop];omega
  have hsrc:List.take 32 (List.take (b.length - (k+32*i)) (List.drop (k+32*i) (flat QC b)))=hcell (mkH d):=by
   rw [QIk hdl,QL,QT,QT,List.take_take,hd,List.drop_drop,Nat.min_eq_left zo]
  have hmin:min (b.length - (k+32*i)) 32=32:=by omega
  have hset:=QIC (l:=l) (x:=mkH d) (i:=i) zo
  (have X1:=e0;have X2:=hmin;have X3:=hsrc;have X4:=hset;refine zS4 ?_;clear X1 X2 X3 X4)
  refine⟨(i+1,l.set i (mkH d)),⟨zO,?_⟩,zO,?_⟩
  ·show l.set i (mkH d)=QA8 (i+1) (b.drop k)++List.replicate (n.toNat - (i+1)) QBl
   rw [hl,QEL,show n.toNat - i=(n.toNat - (i+1))+1 by omega,List.replicate_succ,List.set_append_right _ _ (by rw [QAv];exact Nat.le_refl _),QAv,Nat.sub_self,List.set_cons_zero,hd]
   simp
  ·exact fzN 0 [(0,0)] []
 ·obtain rfl:i=n.toNat:=by omega
  have hl2:l=QA8 n.toNat (b.drop k):=by rw [hl,Nat.sub_self];simp
  rw [←hl2] at hR
  refine zS ?_
  rw [←hll]
  refine (QO7 l zo).use (ids:=[0]) (by have X1:=@QLW;exact zCN1) (.inl rfl) ?_
  cases hr:QDw l
  ·rw [if_pos hr] at hR
   subst hR
   (have X1:=@hgR.eq_1;have X2:=@hgO.eq_1;refine zS2 ?_;clear X1 X2)
   refine fzNM 0 [] [] ?_ ?_<;>first | exact zC | refine zS ?_
   all_goals rfl
  ·rw [if_neg (by rw [hr];decide)] at hR
   subst hR
   (have X1:=@QLW;have X2:=hll;have X3:=@hgR.eq_1;have X4:=@hgO.eq_1;refine zS4 ?_;clear X1 X2 X3 X4)
   (have X1:=hll;refine fzNM 0 [(0,0)] [] ?_ ?_<;>first | exact zC1 | refine zS1 ?_)
   all_goals rfl
theorem Get_m (b:List UInt8) (hb:b.length≤1048576):QM Tryz.prog [] 116 [.seq b.length 1 (flat QC b)] [] 0 (opR (QE1 b)) (opO (QE1 b)) 1:=by
 refine QM.start Tryz.func116 rfl zK rfl Tryz.ntmps116 fol zK zD ?_
 refine zZ ?_
 have hF:QE1 b=QE1 b:=rfl
 conv at hF=>rhs;rw [QE1]
 have m1:=QFz 169 (gR b) b false hb (QE5 b).2.1 (QEv b hb)
 obtain⟨b1,hb1⟩:∃x,x=(colB (gR b) b false).1:=⟨_,rfl⟩
 obtain⟨d1,hd1⟩:∃x,x=(colB (gR b) b false).2:=⟨_,rfl⟩
 obtain⟨K,hK⟩:∃x,x=colL (gR b) false:=⟨_,rfl⟩
 have l1:b1.length≤1048576:=by rw [hb1];exact Nat.le_trans QF2 hb
 obtain⟨kl,kr⟩:=QJw (bad:=false) (QE5 b).1 (QE5 b).2.2
 simp only [colV,colO,rdgO,←hb1,←hd1,←hK] at m1 hF kl kr
 have m2:=QeL b1 d1 l1
 obtain⟨N,hN⟩:∃x,x=(QA1 b1 d1).1:=⟨_,rfl⟩
 obtain⟨b2,hb2⟩:∃x,x=(QA1 b1 d1).2.1:=⟨_,rfl⟩
 obtain⟨d2,hd2⟩:∃x,x=(QA1 b1 d1).2.2:=⟨_,rfl⟩
 have l2:b2.length≤1048576:=by rw [hb2];exact Nat.le_trans QIA.1 l1
 have nl:N.length≤256:=by rw [hN];exact QIA.2
 have nz:∀s∈N,s.size≤32:=by rw [hN];exact QMJ
 simp only [rdgO,←hN,←hb2,←hd2] at m2 hF
 have m3:=QFz 169 (gR b2) b2 d2 l2 (QE5 b2).2.1 (QEv b2 l2)
 obtain⟨b3,hb3⟩:∃x,x=(colB (gR b2) b2 d2).1:=⟨_,rfl⟩
 obtain⟨d3,hd3⟩:∃x,x=(colB (gR b2) b2 d2).2:=⟨_,rfl⟩
 obtain⟨W,hW⟩:∃x,x=colL (gR b2) d2:=⟨_,rfl⟩
 have l3:b3.length≤1048576:=by rw [hb3];exact Nat.le_trans QF2 l2
 obtain⟨wl,wr⟩:=QJw (bad:=d2) (QE5 b2).1 (QE5 b2).2.2
 simp only [colV,colO,rdgO,←hb3,←hd3,←hW] at m3 hF wl wr
 have m4:=QFz 171 (Qt (gR b3)) b3 d3 l3 (QE5 b3).2.1 (gD_c b3 l3)
 obtain⟨b4,hb4⟩:∃x,x=(colB (Qt (gR b3)) b3 d3).1:=⟨_,rfl⟩
 obtain⟨d4,hd4⟩:∃x,x=(colB (Qt (gR b3)) b3 d3).2:=⟨_,rfl⟩
 obtain⟨Q,hQ⟩:∃x,x=colL (Qt (gR b3)) d3:=⟨_,rfl⟩
 have l4:b4.length≤1048576:=by rw [hb4];exact Nat.le_trans QF2 l3
 obtain⟨ql,qr⟩:=QJw (R:=Qt (gR b3)) (bad:=d3) (by show (sumW 0 (gR b3).1).length≤256;rw [QBS];exact (QE5 b3).1) (QIb _ _)
 simp only [colV,colO,rdgO,←hb4,←hd4,←hQ] at m4 hF ql qr
 have m5:=QFz 169 (gR b4) b4 d4 l4 (QE5 b4).2.1 (QEv b4 l4)
 obtain⟨b5,hb5⟩:∃x,x=(colB (gR b4) b4 d4).1:=⟨_,rfl⟩
 obtain⟨d5,hd5⟩:∃x,x=(colB (gR b4) b4 d4).2:=⟨_,rfl⟩
 obtain⟨B,hB⟩:∃x,x=colL (gR b4) d4:=⟨_,rfl⟩
 have l5:b5.length≤1048576:=by rw [hb5];exact Nat.le_trans QF2 l4
 obtain⟨bl,br⟩:=QJw (bad:=d4) (QE5 b4).1 (QE5 b4).2.2
 simp only [colV,colO,rdgO,←hb5,←hd5,←hB] at m5 hF bl br
 clear hb1 hd1 hK hN hb2 hd2 hb3 hd3 hW hb4 hd4 hQ hb5 hd5 hB
 generalize QE1 b=R at hF ⊢
 refine QM.useX [145] m1 rfl rfl ?_ ?_
 ·exact zC
 refine zS ?_
 refine QM.useX [145] m2 rfl rfl ?_ ?_
 ·exact zC
 refine zS ?_
 refine QM.useX [145] m3 rfl rfl ?_ ?_
 ·exact zC
 refine zS ?_
 refine QM.useX [145] m4 rfl rfl ?_ ?_
 ·exact zC
 refine zS ?_
 refine QM.useX [145] m5 rfl rfl ?_ ?_
 ·exact zC
 refine zS ?_
 cases d5
 ·refine zS ?_
  refine⟨fun e1=>?_,fun e1=>?_⟩
  ·refine zS ?_
   refine⟨fun e2=>?_,fun e2=>?_⟩
   ·refine zS ?_
    refine⟨fun e3=>?_,fun e3=>?_⟩
    ·rw [if_pos (by simp;omega)] at hF
     subst hF
     (have X1:=@opR.eq_1;have X2:=@opO.eq_1;refine zS2 ?_;clear X1 X2)
     refine fzNM 0 [] [] ?_ ?_<;>first | exact zC | refine zS ?_
     all_goals rfl
    ·rw [if_neg (by simp;omega)] at hF
     have wl':W.length=K.length:=by omega
     have ql':Q.length=K.length:=by omega
     have bl':B.length=K.length:=by omega
     obtain⟨X,hX⟩:∃X,X=opsF N K W Q B b5 false []:=⟨_,rfl⟩
     rw [←hX] at hF
     refine zS ?_
     refine QD (ι:=Nat×List UInt8×Bool×List OpV) (fun q=>⟨[(0,.seq b.length 1 (flat QC b)),(4,.ptr 0 0),(6,.seq N.length 1 (flat QAf N)),(7,.seq W.length 1 (flat Qa W)),(8,.seq Q.length 1 (flat Qa Q)),(9,.seq B.length 1 (flat Qa B)),(10,.sl 1 0 q.2.2.2.length 5),(57,.seq K.length 1 (flat Qa K)),(58,.v (.int .i64 K.length)),(59,.v (.int .i64 q.1))],
       ⟨[(0,rdgO q.2.1 q.2.2.1),(1,.cells 51 (flat QX q.2.2.2) true)],2,2,0⟩⟩)
      (fun q=>q.1≤K.length∧opsF N (K.drop q.1) (W.drop q.1) (Q.drop q.1) (B.drop q.1) q.2.1 q.2.2.1 q.2.2.2=X∧q.2.2.2.length=q.1∧q.2.1.length≤1048576∧∀o∈q.2.2.2,QCP o) (fun q=>K.length - q.1) (0,b5,false,[]) ⟨Nat.zero_le _,hX.symm,rfl,l5,by simp⟩ ?_ ?_
     ·have hsa:List.take N.length (flat QAf N)=flat QAf N:=List.take_of_length_le (by rw [QW QBF,Nat.mul_one];exact Nat.le_refl _)
      refine Ent.freezeN 0 [(0,145),(1,1077)] [] ?_ ?_ rfl rfl rfl zD rfl rfl<;>simp (maxSteps:=400000) (disch:=first | omega | exact okT rfl | simp only [push_cast]) only [push_cast,↓QG,↓reduceIte,Nat.reduceAdd,Nat.reduceMul,Nat.reduceSub,Nat.reduceEqDiff,Nat.reduceBEq,Nat.reduceBNe,Nat.reduceLT,Nat.reduceLeDiff,reduceCtorEq,Op.operands,QA,QB,Nat.sub_zero,rdgO,hsa,Qec,Int.toNat_zero,List.replicate_zero,List.flatten_nil,QOx,List.length_nil]
     rintro⟨i,c,bad,acc⟩ ⟨h1,h2,h3,h4,h5⟩
     simp only at h1 h2 h3 h4 h5
     (have X1:=@rdgO.eq_1;refine zS1 ?_;clear X1)
     refine⟨fun h6=>?_,fun h6=>?_⟩
     ·have hi1:i<K.length:=by omega
      rw [List.drop_eq_getElem_cons hi1,List.drop_eq_getElem_cons (show i<W.length by omega),List.drop_eq_getElem_cons (show i<Q.length by omega),List.drop_eq_getElem_cons (show i<B.length by omega),opsF] at h2
      have kri:=kr K[i] (List.getElem_mem hi1)
      have qri:=qr Q[i] (List.getElem_mem zo)
      have bri:=br B[i] (List.getElem_mem zo)
      have none_case:(∀(h:X=none),R=([],4)):=fun h=>by rw [hF,h]
      refine zS ?_
      refine⟨fun h7=>?_,fun h7=>?_⟩
      ·refine zS ?_
       refine⟨fun h8=>?_,fun h8=>?_⟩
       ·rw [if_neg zo] at h2
        have hRR:=none_case h2.symm
        subst hRR
        (have X1:=@opR.eq_1;have X2:=@opO.eq_1;refine zS2 ?_;clear X1 X2)
        refine fzNM 0 [] [] ?_ ?_<;>first | exact zC | refine zS ?_
        all_goals rfl
       ·rw [if_pos zo] at h2
        have hwN:W[i].toNat<N.length:=by omega
        have hNg:N.getD W[i].toNat ⟨#[]⟩=N[W[i].toNat]:=by rw [List.getD_eq_getElem?_getD,List.getElem?_eq_getElem hwN];rfl
        rw [hNg] at h2
        have hnz:=nz _ (List.getElem_mem hwN)
        have hso:∀t,flat QX acc++[AV.v (.int .i64 K[i]),.v (.string N[W[i].toNat]),.v (.int .i64 Q[i]),.v (.int .i64 B[i]),.v (.string t)]=flat QX (acc++[⟨K[i],N[W[i].toNat],Q[i],B[i],t⟩]):=fun t=>by simp [flat,QX]
        refine zS ?_
        refine (QJr K[i]).useV ?_
        refine zS ?_
        refine⟨fun ht=>?_,fun ht=>?_⟩
        ·rw [if_pos ht] at h2
         have hT:=QTb c bad 1024 h4 zD
         have hk:=QJi c 1024
         have hsz:=QKB c 1024
         generalize getT c 1024=t at hT h2 hk hsz
         obtain⟨s,k2,e2⟩:=t
         simp only at h2 hk hsz
         refine zS ?_
         by_cases hg:bad=false∧e2=0
         ·rw [if_pos hg] at h2
          rw [if_pos (show bad=false∧(s,k2,e2).2.2=0 from hg),if_pos (show bad=false∧(s,k2,e2).2.2=0 from hg)] at hT
          simp only [rdgO] at hT
          refine QM.useX [0] hT rfl rfl ?_ ?_
          ·exact zC
          (have X1:=hso;refine zS1 ?_;clear X1)
          refine⟨(i+1,c.drop k2,false,acc++[⟨K[i],N[W[i].toNat],Q[i],B[i],s⟩]),⟨hi1,h2,by show (acc++[_]).length=i+1;rw [List.length_append];simp;omega,by show (c.drop k2).length≤_;rw [List.length_drop];omega,fun o ho=>?_⟩,zO,?_⟩
          ·rcases List.mem_append.1 ho with h | h
           ·exact h5 o h
           ·rw [List.mem_singleton.1 h];exact⟨zO,zO,kri,qri,bri⟩
          ·refine Ent.freezeN 0 [(0,0),(1,868)] [] ?_ ?_ rfl rfl rfl zD rfl rfl<;>simp (maxSteps:=400000) (disch:=first | omega | exact okT rfl | simp only [push_cast]) only [push_cast,↓QG,↓reduceIte,Nat.reduceAdd,Nat.reduceMul,Nat.reduceSub,Nat.reduceEqDiff,Nat.reduceBEq,Nat.reduceBNe,Nat.reduceLT,Nat.reduceLeDiff,reduceCtorEq,Op.operands,QA,QB,Nat.sub_zero,rdgO,hso,List.length_append,List.length_cons,List.length_nil,List.length_drop]
         ·rw [if_neg hg] at h2
          rw [if_neg (show ¬(bad=false∧(s,k2,e2).2.2=0) from hg),if_neg (show ¬(bad=false∧(s,k2,e2).2.2=0) from hg)] at hT
          simp only [rdgO] at hT
          refine QM.useX [0] hT rfl rfl ?_ ?_
          ·exact zC
          (have X1:=hso;refine zS1 ?_;clear X1)
          refine⟨(i+1,c,true,acc++[⟨K[i],N[W[i].toNat],Q[i],B[i],⟨#[]⟩⟩]),⟨hi1,h2,by show (acc++[_]).length=i+1;rw [List.length_append];simp;omega,h4,fun o ho=>?_⟩,zO,?_⟩
          ·rcases List.mem_append.1 ho with h | h
           ·exact h5 o h
           ·rw [List.mem_singleton.1 h];exact⟨by show (N[W[i].toNat]).size≤_;omega,by show (0:Nat)≤_;omega,kri,qri,bri⟩
          ·refine Ent.freezeN 0 [(0,0),(1,868)] [] ?_ ?_ rfl rfl rfl zD rfl rfl<;>simp (maxSteps:=400000) (disch:=first | omega | exact okT rfl | simp only [push_cast]) only [push_cast,↓QG,↓reduceIte,Nat.reduceAdd,Nat.reduceMul,Nat.reduceSub,Nat.reduceEqDiff,Nat.reduceBEq,Nat.reduceBNe,Nat.reduceLT,Nat.reduceLeDiff,reduceCtorEq,Op.operands,QA,QB,Nat.sub_zero,rdgO,hso,List.length_append,List.length_cons,List.length_nil,List.length_drop]
        ·rw [if_neg ht] at h2
         (have X1:=hso;refine zS1 ?_;clear X1)
         refine⟨(i+1,c,bad,acc++[⟨K[i],N[W[i].toNat],Q[i],B[i],⟨#[]⟩⟩]),⟨hi1,h2,by show (acc++[_]).length=i+1;rw [List.length_append];simp;omega,h4,fun o ho=>?_⟩,zO,?_⟩
         ·rcases List.mem_append.1 ho with h | h
          ·exact h5 o h
          ·rw [List.mem_singleton.1 h];exact⟨by show (N[W[i].toNat]).size≤_;omega,by show (0:Nat)≤_;omega,kri,qri,bri⟩
         ·(have X1:=@rdgO.eq_1;have X2:=hso;have X3:=@List.length_append.{0};have X4:=@List.length_cons.{0};have X5:=@List.length_nil.{0};have X6:=@List.length_drop.{0};refine fzNM 0 [(0,0),(1,741)] [] ?_ ?_<;>first | exact zC6 | refine zS6 ?_)
          try rfl
      ·rw [if_neg zo] at h2
       have hRR:=none_case h2.symm
       subst hRR
       (have X1:=@opR.eq_1;have X2:=@opO.eq_1;refine zS2 ?_;clear X1 X2)
       refine fzNM 0 [] [] ?_ ?_<;>first | exact zC | refine zS ?_
       all_goals rfl
     ·obtain rfl:i=K.length:=by omega
      rw [List.drop_length,QYc] at h2
      subst h2
      simp only at hF
      refine zS ?_
      have hoa:(flat QX acc).take (K.length*5)=flat QX acc:=by rw [←h3,List.take_of_length_le (by rw [QCM];exact Nat.le_refl _)]
      have hP:=Qfs acc zo h5
      rw [h3] at hP
      refine Fit.use (ids:=[1]) (.inr hP) (by have X1:=hoa;have X2:=h3;exact zCN2) ?_
      have hc1:∀f g l,QC7 Tryz.prog 23 9 f g (.seq l.length 1 (flat QC l))=some (.v (.string ⟨l.toArray⟩),[]):=fun f g l=>QAD zK zK
      have hoa5:(flat QX acc).take (acc.length*5)=flat QX acc:=by rw [List.take_of_length_le (by rw [QCM];exact Nat.le_refl _)]
      refine zS ?_
      cases bad
      ·refine zS ?_
       refine⟨fun h8=>?_,fun h8=>?_⟩
       ·have hp0:QAM acc=0:=by omega
        have hpr:QAb acc=QAy acc:=by rw [QAb,if_pos hp0]
        rw [hpr]
        (have X1:=hc1;refine zS1 ?_;clear X1)
        refine And.intro (fun h9=>?_) (fun h9=>?_)
        ·rw [if_pos (.inr (.inr fun e=>h9 (by rw [e])))] at hF
         subst hF
         (have X1:=@opR.eq_1;have X2:=@opO.eq_1;refine zS2 ?_;clear X1 X2)
         refine fzNM 0 [] [] ?_ ?_<;>first | exact zC | refine zS ?_
         all_goals rfl
        ·rw [if_neg (by simp only [Bool.false_eq_true,false_or,not_or];exact⟨by omega,fun h=>h (QHj.1 h9)⟩)] at hF
         subst hF
         (have X1:=hoa;have X2:=h3;have X3:=@opR.eq_1;have X4:=@opO.eq_1;refine zS4 ?_;clear X1 X2 X3 X4)
         (have X1:=hoa;have X2:=h3;refine fzNM 0 [(0,1)] [] ?_ ?_<;>first | exact zC2 | refine zS2 ?_)
       ·rw [if_pos (.inr (.inl zo))] at hF
        subst hF
        refine zS ?_
        iterate 14 all_goals (try (refine And.intro (fun _=>?_) (fun _=>?_)<;>try first | exact zC | refine zS ?_))
        all_goals first | (exfalso;omega) | ((have X1:=@opR.eq_1;have X2:=@opO.eq_1;first | exact zC2 | (refine zS2 ?_;clear X1 X2));(refine fzNM 0 [] [] ?_ ?_<;>first | exact zC | refine zS ?_);done) | ((have X1:=@opR.eq_1;have X2:=@opO.eq_1;first | exact zC2 | (refine zS2 ?_;clear X1 X2));(refine fzNM 0 [] [] ?_ ?_<;>first | exact zC | refine zS ?_);rfl)
      ·rw [if_pos (.inl rfl)] at hF
       subst hF
       (have X1:=@opR.eq_1;have X2:=@opO.eq_1;refine zS2 ?_;clear X1 X2)
       refine fzNM 0 [] [] ?_ ?_<;>first | exact zC | refine zS ?_
       all_goals rfl
   ·rw [if_pos (by simp;omega)] at hF
    subst hF
    (have X1:=@opR.eq_1;have X2:=@opO.eq_1;refine zS2 ?_;clear X1 X2)
    refine fzNM 0 [] [] ?_ ?_<;>first | exact zC | refine zS ?_
    all_goals rfl
  ·rw [if_pos (by simp;omega)] at hF
   subst hF
   (have X1:=@opR.eq_1;have X2:=@opO.eq_1;refine zS2 ?_;clear X1 X2)
   refine fzNM 0 [] [] ?_ ?_<;>first | exact zC | refine zS ?_
   all_goals rfl
 ·rw [if_pos (.inl rfl)] at hF
  subst hF
  (have X1:=@opR.eq_1;have X2:=@opO.eq_1;refine zS2 ?_;clear X1 X2)
  refine fzNM 0 [] [] ?_ ?_<;>first | exact zC | refine zS ?_
  all_goals rfl
end Go.AW
