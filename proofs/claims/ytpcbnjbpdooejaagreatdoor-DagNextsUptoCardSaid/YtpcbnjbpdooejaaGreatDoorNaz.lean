/- A part of the proof: E14 D68 E15 D70 D71 D74 E13 E16 E17. -/
import Derived.Test.YtpcbnjbpdooejaaGreatDoorNae
import Derived.Test.YtpcbnjbpdooejaaGreatDoorNay
import Derived.Test.YtpcbnjbpdooejaaGreatDoorNad
import Derived.KernelRfl
import Derived.Test.YtpcbnjbpdooejaaGreatDoorRows
import Derived.Lib.LaidTab
set_option linter.unusedSimpArgs false
set_option linter.unusedVariables false
set_option maxRecDepth 100000
set_option maxHeartbeats 8000000
namespace Go.AW
def aw0:MadeV:=⟨0,[],⟨#[]⟩,[],0⟩
def aw1:MadeV:=⟨1,[0],⟨#[]⟩,[],0⟩
def b0L:List UInt8:=[1,3,97,110,110,1,1,0,0,0,0,0,0,0]
def h0L:List Int:=[13,254,142,121,33,140,249,31,11,217,249,28,176,134,186,78,177,43,34,108,105,82,164,218,107,
 150,36,193,159,63,17,10]
def b1L:List UInt8:=[1,3,98,111,98,1,1,1,13,254,142,121,33,140,249,31,11,217,249,28,176,134,186,78,177,43,34,108,
 105,82,164,218,107,150,36,193,159,63,17,10,0,0,0,0,0,0]
def h1L:List Int:=[21,55,172,156,198,168,180,248,24,239,51,48,217,125,248,247,158,201,194,91,96,25,99,80,65,53,
 154,97,60,209,178,81]
def hh0:Hs:=⟨h0L,by decide⟩
def hh1:Hs:=⟨h1L,by decide⟩
def ci0:ChV:=⟨⟨#[97,110,110]⟩,1,1,[],⟨#[]⟩,[]⟩
def ci1:ChV:=⟨⟨#[98,111,98]⟩,1,1,[hh0],⟨#[]⟩,[]⟩
def ai0:Itm:=⟨hh0,ci0,b0L⟩
def ai1:Itm:=⟨hh1,ci1,b1L⟩
theorem aw_bld:bldF [aw0,aw1]=([b0L,b1L],⟨[ai0,ai1],[]⟩):=zK
theorem aw_a1:addF ⟨[],[]⟩ b1L=(⟨[],[ai1]⟩,hh1,0):=zK
theorem aw_a0:addF ⟨[],[ai1]⟩ b0L=(⟨[ai0,ai1],[]⟩,hh0,0):=zK
theorem aw_hea:heaF [ai0,ai1]=[hh1]:=zK
theorem aw_ok:mdOK aw0∧mdOK aw1:=⟨⟨by decide,by decide,by decide,by simp [aw0]⟩,⟨by decide,by decide,by decide,by simp [aw1]⟩⟩
open Proofs
theorem QGT:QE Tryz.prog gK 17 [] (.v (.bool true)):=by
 refine QE.start Tryz.func17 rfl zK rfl Tryz.ntmps17 fol zK rfl rfl ?_
 refine zZ ?_
 have hB:=(QUM [aw0,aw1] zD (fun m hm=>by
  rcases List.mem_cons.1 hm with rfl | hm
  ·exact aw_ok.1
  ·rw [List.mem_singleton] at hm;rw [hm];exact aw_ok.2)).gam (γ:=gK)
 rw [aw_bld] at hB
 have hB1:=QE.preS (xs:=[.v (.int .u8 0),.v (.slice none 0 0),.v (.string ByteArray.empty),.v (.slice none 0 0),.v (.int .u8 0),.v (.int .u8 1),.seq 1 1 [.v (.int .u8 0)],.v (.string ByteArray.empty),.v (.slice none 0 0),.v (.int .u8 0)]) hB rfl (by simp [WkL,Wk,flat,mdc,aw0,aw1,QC];rfl)
 clear hB
 refine Qr.letgo (a:=[]) (c:=[]) (y:=.seq 2 5 [.v (.int .u8 0),.v (.slice none 0 0),.v (.string ByteArray.empty),.v (.slice none 0 0),.v (.int .u8 0),.v (.int .u8 1),.seq 1 1 [.v (.int .u8 0)],.v (.string ByteArray.empty),.v (.slice none 0 0),.v (.int .u8 0)]) (ids:=[115,113]) (u:=[(115,.dead),(113,.dead)]) zCN rfl ?_
 refine hB1.useV ?_
 (have X1:=@grA.eq_1;refine zS1 ?_;clear X1)
 have hN:=Qfi.gam (γ:=gK)
 refine QM.useX [] hN rfl zC zC ?_
 (have X1:=@gO.eq_1;refine zS1 ?_;clear X1)
 refine⟨fun h=>absurd rfl h,fun _=>?_⟩
 have hf1:(List.drop (Int.toNat 1) (flat bc [b0L,b1L]))[0]?=some (.seq b1L.length 1 (flat QC b1L)):=rfl
 have hf0:(List.drop (Int.toNat 0) (flat bc [b0L,b1L]))[0]?=some (.seq b0L.length 1 (flat QC b0L)):=rfl
 have hA1:=QXx ⟨[],[]⟩ GrOK.nil b1L zD
 have hG1:=QJO GrOK.nil b1L
 rw [aw_a1] at hA1 hG1
 have hA0:=QXx ⟨[],[ai1]⟩ hG1 b0L zD
 have hG0:=QJO hG1 b0L
 rw [aw_a0] at hA0 hG0
 simp only [gO] at hA1 hA0
 have hd1:List.drop (Int.toNat 1*39) (flat itc [ai0,ai1])=itc ai1++[]:=rfl
 have hd0:List.drop (Int.toNat 0*39) (flat itc [ai0,ai1])=itc ai0++itc ai1:=rfl
 have hx1:ai1.h=hh1:=rfl
 have hx0:ai0.h=hh0:=rfl
 (have X1:=hf1;refine zS1 ?_;clear X1)
 refine QM.useX [309,310,311,312] hA1 rfl zC zC ?_
 (have X1:=@List.getElem?_cons_succ.{0};have X2:=hf0;refine zS2 ?_;clear X1 X2)
 refine QM.useX [309,310,311,312] hA0 rfl zC zC ?_
 have ht1:List.take 32 (itc ai1)=hcell hh1:=itc_h0
 have hm1:hasL [ai0,ai1] hh1=true:=by decide
 (have X1:=@List.getElem?_cons_succ.{0};have X2:=hd1;have X3:=hd0;have X4:=hx1;have X5:=hx0;have X6:=ht1;refine zS6 ?_;clear X1 X2 X3 X4 X5 X6)
 have hH:=(QcP ⟨[ai0,ai1],[]⟩ hh1).gam (γ:=gK)
 have hL:=(Len_g ⟨[ai0,ai1],[]⟩ zD).gam (γ:=gK)
 have hE:=(Qcx ⟨[ai0,ai1],[]⟩ hG0).gam (γ:=gK)
 have hS:=(QSD [hh1] zD [hh1] zD).gam (γ:=gK)
 rw [QBf] at hH hL hE
 rw [hm1] at hH
 rw [aw_hea] at hE
 refine QO.useS (ids:=[309,310,311,312]) hH zCN rfl rfl rfl ?_
 (have X1:=hd1;have X2:=hd0;have X3:=hx1;have X4:=hx0;have X5:=ht1;refine zS5 ?_;clear X1 X2 X3 X4 X5)
 refine QO.useS (ids:=[309,310,311,312]) hL zCN rfl rfl rfl ?_
 (have X1:=hd1;have X2:=hd0;have X3:=hx1;have X4:=hx0;have X5:=ht1;refine zS5 ?_;clear X1 X2 X3 X4 X5)
 refine⟨fun _=>?_,fun h=>absurd rfl h⟩
 (have X1:=hd1;have X2:=hd0;have X3:=hx1;have X4:=hx0;have X5:=ht1;refine zS5 ?_;clear X1 X2 X3 X4 X5)
 refine QO.useNS (ids:=[309,310,311,312]) hE zCN rfl rfl ?_
 (have X1:=hd1;have X2:=hd0;have X3:=hx1;have X4:=hx0;have X5:=ht1;refine zS5 ?_;clear X1 X2 X3 X4 X5)
 refine QO.useS (ids:=[700]) hS (by have X1:=@QLW;have X2:=@flat.eq_1;exact zCN2) rfl rfl rfl ?_
 (have X1:=hd1;have X2:=hd0;have X3:=hx1;have X4:=hx0;have X5:=ht1;first | exact zC5 | refine zS5 ?_)
 rfl
theorem QL9 {L:List Itm} {h:Hs}:h∈QF L↔∃x∈L,x.h=h:=by rw [QF,List.mem_map]
theorem QP3 {L:List Itm} {x:Itm} {h:Hs} (hh:h∈QF (QBn L x)):h∈QF L∨h=x.h:=by
 rw [QBn] at hh
 split at hh
 ·rw [Qv] at hh
  simpa [QF] using hh
 ·exact .inl hh
theorem QQV {G G':GrV} (e:QEM G=some G'):(∀h∈QF G'.L,h∈QF G.L∨h∈QF G.W)∧∀h∈QF G'.W,h∈QF G.W:=by
 rw [QEM] at e
 split at e
 ·cases e
 ·rename_i h hr
  obtain⟨h1,h2⟩:=QB3 hr
  obtain⟨x,hx,hm,hxh⟩:=QA2 h1
  rw [hx] at e
  simp only [Option.some.injEq] at e
  subst e
  refine⟨fun k hk=>?_,fun k hk=>?_⟩
  ·rcases QP3 hk with q | q
   ·exact .inl q
   ·exact .inr (by rw [q,hxh];exact h1)
  ·obtain⟨y,hy,rfl⟩:=QL9.1 hk
   exact QL9.2 ⟨y,QF1 hy,rfl⟩
theorem QH0:∀{n:Nat} {G:GrV},(∀h∈QF (QEH n G).L,h∈QF G.L∨h∈QF G.W)∧∀h∈QF (QEH n G).W,h∈QF G.W
 | 0,G=>⟨fun _ h=>.inl h,fun _ h=>h⟩
 | n+1,G=>by
  rw [QEH]
  split
  ·exact⟨fun _ h=>.inl h,fun _ h=>h⟩
  ·rename_i G' e
   obtain⟨h1,h2⟩:=QQV e
   obtain⟨h3,h4⟩:=QH0 (n:=n) (G:=G')
   refine⟨fun h hh=>?_,fun h hh=>h2 h (h4 h hh)⟩
   rcases h3 h hh with k | k
   ·exact h1 h k
   ·exact .inr (h2 h k)
theorem QUP {G:GrV} {b:List UInt8} {h:Hs} (hh:h∈QF (addF G b).1.L∨h∈QF (addF G b).1.W):h∈QF G.L∨h∈QF G.W∨h=shaH b:=by
 have old:∀{q:Prop},(h∈QF G.L∨h∈QF G.W)→h∈QF G.L∨h∈QF G.W∨q:=fun k=>k.elim .inl fun k=>.inr (.inl k)
 rw [addF] at hh
 split at hh
 ·exact old hh
 ·split at hh
  ·exact old hh
  ·split at hh
   ·split at hh
    ·exact old hh
    ·rcases hh with k | k
     ·exact .inl k
     ·dsimp only at k
      rw [Qv,List.mem_append] at k
      rcases k with k | k
      ·exact .inr (.inl k)
      ·simp only [QF,List.map_cons,List.map_nil,List.mem_singleton] at k
       exact .inr (.inr k)
   ·split at hh
    ·exact old hh
    ·split at hh
     ·exact old hh
     ·dsimp only at hh
      obtain⟨h3,h4⟩:=QH0 (n:=G.W.length+1) (G:=⟨G.L++[mkI b],G.W⟩)
      have key:h∈QF (G.L++[mkI b])∨h∈QF G.W:=by
       rcases hh with k | k
       ·exact h3 h k
       ·exact .inr (h4 h k)
      rcases key with k | k
      ·rw [Qv,List.mem_append] at k
       rcases k with k | k
       ·exact .inl k
       ·simp only [QF,List.map_cons,List.map_nil,List.mem_singleton] at k
        exact .inr (.inr k)
      ·exact .inr (.inl k)
def Kin (all:List (List UInt8)) (G:GrV):Prop:=∀h,h∈QF G.L∨h∈QF G.W→h∈all.map shaH
theorem Kin.nil {all:List (List UInt8)}:Kin all ⟨[],[]⟩:=by rintro h (k | k)<;>simp [QF] at k
theorem Kin.add {all:List (List UInt8)} {G:GrV} {b:List UInt8} (h:Kin all G) (hb:b∈all):Kin all (addG G b):=by
 intro k hk
 rcases QUP hk with q | q | q
 ·exact h k (.inl q)
 ·exact h k (.inr q)
 ·rw [q];exact List.mem_map_of_mem hb
theorem Kin.len {all:List (List UInt8)} {G:GrV} (h:Kin all G) (hG:GrOK G):G.L.length+G.W.length≤all.length:=by
 have hn:(QF G.L++QF G.W).Nodup:=List.nodup_append.2 ⟨hG.ord.nodup,hG.nd,fun a ha b hb e=>hG.dis b hb (e▸ha)⟩
 have:=List.Nodup.length_le_of_subset hn (l₂:=all.map shaH) fun x hx=>h x (List.mem_append.1 hx)
 rw [List.length_append,Qh,Qh,List.length_map] at this
 exact this
open Proofs
theorem QdR {l:List MadeV} (h:fewF l=true):l.length≤30:=by
 simp only [fewF,Bool.and_eq_true,decide_eq_true_eq] at h;exact h.1.1
open Proofs Go.RowKit
theorem Rd.u8 {P:Program} {t:TypeId} (h:tint P t=some .u8):Rd P t QC (fun _=>1) (fun _=>True):=by
 intro H n d xs hx
 obtain⟨a,rfl,h1,h2⟩:=Rd.int h H n d xs hx
 have h3:0≤a∧a≤255:=by simpa [iok,Lit.wf,IntKind.min,IntKind.max,IntKind.signed,IntKind.bits] using h2
 refine⟨UInt8.ofNat a.toNat,?_,h1,trivial⟩
 have:((UInt8.ofNat a.toNat).toNat:Int)=a:=by
  rw [UInt8.toNat_ofNat']
  omega
 rw [QC,this];rfl
theorem Rd.bytes:Rd Tryz.prog 23 (fun l:List UInt8=>[.seq l.length 1 (flat QC l)]) (fun l=>(l.map fun _=>1).sum+1) (fun l=>∀a∈l,True):=Rd.slice QOA tsz_5 (Rd.u8 QOv)
def osz (o:OpV):Nat:=(o.name.size+1)+(o.text.size+1)+4
theorem Rd.op:Rd Tryz.prog 51 QX osz (fun o=>iok .i64 o.kind∧iok .i64 o.pos∧iok .i64 o.by_):=by
 intro H n d xs hx
 obtain⟨m,ps,rfl,h,hb⟩:=QLh QOi hx
 simp only [List.map_cons,List.map_nil] at h
 obtain⟨ds,a0,_,k0,rfl,h,e0,s0,o0⟩:=QBd (Rd.int QN0) h
 obtain⟨ds,a1,_,k1,rfl,h,e1,s1,o1⟩:=QBd (Rd.str QNz) h
 obtain⟨ds,a2,_,k2,rfl,h,e2,s2,o2⟩:=QBd (Rd.int QN0) h
 obtain⟨ds,a3,_,k3,rfl,h,e3,s3,o3⟩:=QBd (Rd.int QN0) h
 obtain⟨ds,a4,_,k4,rfl,h,e4,s4,o4⟩:=QBd (Rd.str QNz) h
 obtain rfl:=QZ6 h
 refine⟨⟨a0,a1,a2,a3,a4⟩,rfl,?_,o0,o2,o3⟩
 simp only [osz]
 omega
theorem Rd.ops:Rd Tryz.prog 52 (fun l:List OpV=>[.seq l.length 5 (flat QX l)]) (fun l=>(l.map osz).sum+1) (fun l=>∀a∈l,iok .i64 a.kind∧iok .i64 a.pos∧iok .i64 a.by_):=Rd.slice QN6 QaI Rd.op
def msz (m:MadeV):Nat:=((m.on.map fun _=>1).sum+1)+(m.note.size+1)+((m.ops.map osz).sum+1)+3
def mok (m:MadeV):Prop:=∀o∈m.ops,iok .i64 o.kind∧iok .i64 o.pos∧iok .i64 o.by_
theorem Rd.made:Rd Tryz.prog 115 mdc msz mok:=by
 intro H n d xs hx
 obtain⟨m,ps,rfl,h,hb⟩:=QLh QKE hx
 simp only [List.map_cons,List.map_nil] at h
 obtain⟨ds,a0,_,k0,rfl,h,e0,s0,o0⟩:=QBd (Rd.u8 QOv) h
 obtain⟨ds,a1,_,k1,rfl,h,e1,s1,o1⟩:=QBd Rd.bytes h
 obtain⟨ds,a2,_,k2,rfl,h,e2,s2,o2⟩:=QBd (Rd.str QNz) h
 obtain⟨ds,a3,_,k3,rfl,h,e3,s3,o3⟩:=QBd Rd.ops h
 obtain⟨ds,a4,_,k4,rfl,h,e4,s4,o4⟩:=QBd (Rd.u8 QOv) h
 obtain rfl:=QZ6 h
 refine⟨⟨a0,a1,a2,a3,a4⟩,rfl,?_,o3⟩
 simp only [msz]
 omega
theorem Rd.mades:Rd Tryz.prog 22 (fun l:List MadeV=>[.seq l.length 5 (flat mdc l)]) (fun l=>(l.map msz).sum+1) (fun l=>∀a∈l,mok a):=Rd.slice QOO QUF Rd.made
theorem QUw {α:Type} {f:α→Nat} {l:List α} {a:α} (h:a∈l):f a≤(l.map f).sum:=by
 induction l with
 | nil=>cases h
 | cons x l ih=>
  simp only [List.map_cons,List.sum_cons]
  rcases List.mem_cons.1 h with rfl | h
  ·omega
  ·have:=ih h;omega
theorem QIW {α:Type} {f:α→Nat} (hf:∀a,1≤f a) (l:List α):l.length≤(l.map f).sum:=by
 induction l with
 | nil=>simp
 | cons x l ih=>simp only [List.map_cons,List.sum_cons,List.length_cons];have:=hf x;omega
theorem QNl {n:Int} (h:iok .i64 n):-9223372036854775808≤n∧n<9223372036854775808:=by
 have h3:-9223372036854775808≤n∧n≤9223372036854775807:=by simpa [iok,Lit.wf,IntKind.min,IntKind.max,IntKind.signed,IntKind.bits] using h
 omega
theorem Qdz {l:List MadeV} (hb:(l.map msz).sum≤1048576) (ho:∀m∈l,mok m):l.length≤1048576∧∀m∈l,mdOK m:=by
 refine⟨Nat.le_trans (QIW (fun m=>by simp only [msz];omega) l) hb,fun m hm=>?_⟩
 have h1:msz m≤1048576:=Nat.le_trans (QUw (f:=msz) hm) hb
 have h2:=QIW (f:=fun _:UInt8=>1) (fun _=>Nat.le_refl _) m.on
 have h3:=QIW (f:=osz) (fun o=>by simp only [osz];omega) m.ops
 simp only [msz] at h1
 refine⟨by omega,by omega,by omega,fun o hm2=>?_⟩
 have h4:osz o≤(m.ops.map osz).sum:=QUw (f:=osz) hm2
 obtain⟨k1,k2,k3⟩:=ho m hm o hm2
 simp only [osz] at h4
 exact⟨by omega,by omega,QNl k1,QNl k2,QNl k3⟩
theorem QL6 {l:List UInt8} {n:Nat} (h:(l.map fun _=>1).sum+1≤n):l.length≤n:=by
 have:=QIW (f:=fun _:UInt8=>1) (fun _=>Nat.le_refl _) l
 omega
theorem QVA:Tryz.prog.globalNamed "stemma/sha.rounds"=some 1:=zK
theorem QaV:Tryz.prog.globalNamed "stemma/sha.begin"=some 0:=zK
theorem QZ0:(Tryz.prog.globals[1]?).map (·.type)=some 260:=zK
theorem Qby:(Tryz.prog.globals[0]?).map (·.type)=some 208:=zK
theorem Qad:Tryz.prog.cellsOf 260=64:=zK
theorem cells8:Tryz.prog.cellsOf 208=8:=zK
theorem QZ7:Tryz.prog.cellsOf 84=1:=zK
def zR:List Int:=kR.map fun a=>((a.toNat:Nat):Int)
def zB:List Int:=kB.map fun a=>((a.toNat:Nat):Int)
open Proofs.YtpcbnjbpdooejaaGreatDoor in
def QbE:List (String×DataW Unit):=[("stemma/sha.rounds",Rows.laid_stemma_sha_rounds),("stemma/sha.begin",Rows.laid_stemma_sha_begin)]
theorem QX5:QbE=[("stemma/sha.rounds",Lib.tabData .u32 zR),("stemma/sha.begin",Lib.tabData .u32 zB)]:=zK
theorem Qar {P:Program} {W:World} {n1 name:String} {d1:DataW Unit} {k:IntKind} {zs:List Int} {rest:List (String×DataW Unit)} {g:Nat} {t e:TypeId} {n:Nat}
  (hg:P.globalNamed name=some g) (hty:(P.globals[g]?).map (·.type)=some t) (ht:P.underlying t=some (.array n e)) (he:P.underlying e=some (.int k)) (hce:P.cellsOf e=1) (hct:P.cellsOf t=n)
  (h:laidMet P ((n1,d1)::(name,Lib.tabData k zs)::rest) W):Lib.TabIs P W name k zs:=by
 obtain⟨ps,⟨_,_,_,_,_,_,_,_,_,_,⟨g',t',cs,fuel,p,q,hg',ht',hvar,hd,_,_⟩,_⟩,_⟩:=h
 obtain rfl:=Option.some.inj (hg.symm.trans hg')
 obtain rfl:=Option.some.inj (hty.symm.trans ht')
 unfold Lib.TabIs
 rw [hvar,←Lib.cells_of_tab ht he hce hct hd]
theorem GOK.laid {W:World} (h:laidMetH Tryz.prog QbE W):GOK gK (Sall W) W:=by
 have h':laidMet Tryz.prog QbE W:=h
 rw [QX5] at h'
 have hR:=Lib.tabIs_of_head QVA QZ0 Tryz.underlying260 Tryz.underlying84 QZ7 Qad h'
 have hB:=Qar QaV Qby Tryz.underlying208 Tryz.underlying84 QZ7 cells8 h'
 have key:∀(g:Nat) (name:String) (zs:List Int),Lib.TabIs Tryz.prog W name .u32 zs→Tryz.prog.globalNamed name=some g→∀(j:Nat) (v:Value),(zs.map fun z=>Value.int .u32 z)[j]?=some v→Sall W g j∧W.cell? ⟨g,j,none⟩=some v∧v.oneCell'=true:=by
  intro g name zs hT hn j v hv
  rw [List.getElem?_map] at hv
  cases e:zs[j]? with
  | none=>rw [e] at hv;cases hv
  | some z=>
   rw [e] at hv
   simp only [Option.map_some,Option.some.injEq] at hv
   subst hv
   have hj:=(List.getElem?_eq_some_iff.1 e).1
   have hc:=hT.cell hn j hj
   rw [List.getD_eq_getElem?_getD,e,Option.getD_some] at hc
   refine⟨?_,hc,rfl⟩
   refine Classical.byContradiction fun hlt=>?_
   have hnone:W.heap[g]?=none:=by
    rw [Array.getElem?_eq_none]
    exact Nat.le_of_not_lt hlt
   simp [World.cell?,hnone] at hc
 refine⟨fun g vs hg j v hv=>?_,fun g N hg=>?_⟩
 ·simp only [gK,lk] at hg
  split at hg
  ·simp only [Option.some.injEq,GEnt.tab.injEq] at hg
   subst hg
   rename_i e
   refine key g "stemma/sha.begin" zB hB (by rw [←e];exact QaV) j v ?_
   rw [zB,List.map_map];exact hv
  ·split at hg
   ·simp only [Option.some.injEq,GEnt.tab.injEq] at hg
    subst hg
    rename_i e
    refine key g "stemma/sha.rounds" zR hR (by rw [←e];exact QVA) j v ?_
    rw [zR,List.map_map];exact hv
   ·cases hg
 ·simp only [gK,lk] at hg
  split at hg
  ·cases hg
  ·split at hg<;>cases hg
theorem QE.lawG {P:Program} {γ:GTab} {w:World} {f:FuncId} {xs:List AV} {args:Array Value} (hp:QE P γ f xs (.v (.bool true))) (hG:GOK γ (Sall w) w) (h:RepL (Sall w) μ0 w xs args.toList):
  Calls P f args w fun e w'=>e=.returned (.bool true)∧Below w.heap.size w w':=by
 refine (hp.2.2.2 (Sall w) w args.toList (fun b off h=>h) hG h).mono fun e w' he=>?_
 obtain⟨v,S',rfl,hE,hv⟩:=he
 simp only [Rep] at hv
 subst hv
 exact⟨rfl,hE.os,hE.tape.1,hE.output,hE.size,hE.heap⟩
open Proofs
theorem QgR (n:Nat):wf (lebU n):=by
 induction n using Nat.strongRecOn with
 | ind n ih=>
  rw [lebU]
  split
  ·rename_i h
   simp only [wf,UInt8.toNat_ofNat']
   omega
  ·rename_i h
   exact QbQ (by rw [QCv];omega) (ih (n / 128) zo)
theorem QfZ:∀(l r:List UInt8) (i:Nat),wf l→i+l.length≤10→grp i (l++r)=(i+l.length,0)
 | [],_,_,h,_=>h.elim
 | [x],r,i,h,hl=>by
  simp only [wf] at h
  simp only [List.length_cons,List.length_nil] at hl
  show grp i (x::r)=_
  rw [grp,if_neg zo,if_pos h];rfl
 | x::y::l,r,i,h,hl=>by
  simp only [List.length_cons] at hl
  have h1:=h.1
  show grp i (x::(y::l++r))=_
  rw [grp,if_neg zo,if_neg zo,QfZ (y::l) r (i+1) h.2 (by simp only [List.length_cons];omega)]
  simp only [List.length_cons,Prod.mk.injEq,and_true]
  omega
theorem Qej {n:Nat} (hn:n<18446744073709551616) (r:List UInt8):rgU (lebU n++r)=(UInt64.ofNat n,(lebU n).length,0):=by
 have h10:=QAA hn
 have hg:=QfZ (lebU n) r 0 (QgR n) zo
 rw [Nat.zero_add] at hg
 have ht:(lebU n++r).take (lebU n).length=lebU n:=List.take_left' rfl
 have hv:rNum (lebU n)=UInt64.ofNat n:=by rw [Qda,QeI]
 have hm:(UInt64.ofNat n).toNat=n:=by rw [UInt64.toNat_ofNat'];exact Nat.mod_eq_of_lt hn
 rw [rgU,hg]
 simp only [ht,hv,hm]
 rw [if_neg (fun h=>h rfl),if_neg (fun h=>h rfl)]
theorem Qeg {n:Nat} (hn:n<18446744073709551616):(UInt64.ofNat n).toNat=n:=by rw [UInt64.toNat_ofNat'];exact Nat.mod_eq_of_lt hn
theorem Qep {s:List UInt8} {most:Nat} (h:s.length≤most) (hm:most≤1048576) (r:List UInt8):rgT (lebT s++r) most=(⟨s.toArray⟩,(lebT s).length,0):=by
 have hn:=Qej (n:=s.length) zo (s++r)
 have ho:=Qeg (n:=s.length) zo
 rw [lebT,List.append_assoc,rgT]
 simp only [hn,ho]
 rw [if_neg (fun h=>h rfl),if_neg zo,if_neg (by simp only [List.length_append];omega),List.drop_left' rfl,List.take_left' rfl,List.length_append]
theorem mkH_hB {h:Hs} (hk:hok h):mkH (hB h)=h:=by
 rw [mkH,dif_pos (QTa h)]
 apply Subtype.ext
 simp only [hB,List.map_map]
 conv=>rhs;rw [←List.map_id h.1]
 refine List.map_congr_left fun n hn=>?_
 have:=hk n hn
 simp only [Function.comp,UInt8.toNat_ofNat',id]
 omega
theorem Qer:∀(l:List Hs) (r:List UInt8),(∀h∈l,hok h)→QA8 l.length (l.flatMap hB++r)=l
 | [],_,_=>rfl
 | a::l,r,hk=>by
  have e:(a::l).flatMap hB++r=hB a++(l.flatMap hB++r):=by simp
  rw [e,List.length_cons,QA8,List.take_left' (QTa a),List.drop_left' (QTa a),mkH_hB (hk a (by simp)),Qer l r fun h hh=>hk h (by simp [hh])]
theorem Qeh:∀(l:List Hs),(l.flatMap hB).length=32*l.length
 | []=>rfl
 | a::l=>by rw [List.flatMap_cons,List.length_append,QTa,Qeh l,List.length_cons];omega
theorem QfU {l:List Hs} (h16:l.length≤16) (hk:∀h∈l,hok h) (hr:QDw l=true) (r:List UInt8):hGet rgU (QCY l++r) 16=(l,(QCY l).length,0):=by
 have hn:=Qej (n:=l.length) zo (l.flatMap hB++r)
 have ho:=Qeg (n:=l.length) zo
 have hl:=Qeh l
 rw [QCY,List.append_assoc,hGet]
 simp only [hn,ho]
 rw [if_neg (fun h=>h rfl),if_neg zo,if_neg (by simp only [List.length_append];omega),List.drop_left' rfl,Qer l r hk,if_neg (by rw [hr];decide),List.length_append,hl]
theorem Qe8 {a:ByteArray} (h:QBP a=true):a.size≤32:=by
 rw [QBP] at h
 simp only [Bool.and_eq_true,decide_eq_true_eq] at h
 exact h.1.2.2
theorem Qe5 (s:ByteArray):(⟨s.data.toList.toArray⟩:ByteArray)=s:=by simp
theorem Qe6 {n:Nat} {r:List UInt8} {most:Nat} (hn:n<18446744073709551616) (hm:n≤most):nuE (lebU n++r) most=0:=by
 rw [nuE,Qej hn,Qeg hn,if_neg zo]
theorem QfX {c:ChV} (hE:chE2 c=0) (hk:∀h∈c.deps,hok h) (hO:QA5 (QAy c.ops)=(c.ops,0)):QAd (chB c)=(c,0):=by
 have hE2:=hE
 have h0:chE c=0:=by
  rw [chE2] at hE
  split at hE
  ·exact hE
  ·rename_i h;exact Classical.not_not.1 h
 rw [chE] at h0
 split at h0
 ·cases h0
 rename_i a1
 split at h0
 ·cases h0
 rename_i a2
 split at h0
 ·cases h0
 rename_i a3
 split at h0
 ·cases h0
 rename_i a4
 split at h0
 ·cases h0
 rename_i a5
 have b1:=Qe8 (a:=c.author) (by simpa using a1)
 have b2:1≤c.seq∧c.seq≤1099511627776:=by
  have h:=a2
  rw [Bool.not_eq_false,numB,decide_eq_true_iff] at h
  exact h
 have b3:1≤c.start∧c.start≤1099511627776:=by
  have h:=a3
  rw [Bool.not_eq_false,numB,decide_eq_true_iff] at h
  exact h
 have b4:c.deps.length≤16∧QDw c.deps=true:=by simpa [depB] using a4
 have hs:c.author.data.toList.length=c.author.size:=Array.length_toList
 have hnt:c.note.data.toList.length=c.note.size:=Array.length_toList
 have hB:chB c=1::(lebT c.author.data.toList++(lebU c.seq.toNat++(lebU c.start.toNat++(QCY c.deps++(lebT c.note.data.toList++QAy c.ops))))):=by
  rw [chB];simp [lebB]
 obtain⟨b,hb⟩:∃b,b=chB c:=⟨_,rfl⟩
 rw [←hb] at hB ⊢
 rw [hB,QAd,if_pos (show UInt8.toNat 1=1 from rfl),←hB]
 rw [QLa,Qep zo zD,if_neg (fun h=>h rfl),List.drop_left' rfl,Qe5]
 rw [QFO,Qe6 zo zo,if_neg (fun h=>h rfl),Qej zo,List.drop_left' rfl]
 rw [QE7,Qe6 zo zo,if_neg (fun h=>h rfl),Qej zo,List.drop_left' rfl]
 rw [QKp,QfU b4.1 hk b4.2,if_neg (fun h=>h rfl),List.drop_left' rfl]
 rw [QLL,Qep zo zD,if_neg (fun h=>h rfl),List.drop_left' rfl,Qe5,hO]
 have hc:(⟨c.author,((UInt64.ofNat c.seq.toNat).toNat:Nat),((UInt64.ofNat c.start.toNat).toNat:Nat),c.deps,c.note,c.ops⟩:ChV)=c:=by
  rw [Qeg zo,Qeg zo,Int.toNat_of_nonneg zo,Int.toNat_of_nonneg zo]
 rw [QHs,if_neg (fun h=>h rfl)]
 simp only [hc]
 rw [if_neg (by rw [hE2,hb];simp)]
theorem Qeu {c c':ChV} (hE:chE2 c=0) (hk:∀h∈c.deps,hok h) (h:QAd (chB c)=(c',0)):c'.deps=c.deps:=by
 have hE2:=hE
 have h0:chE c=0:=by
  rw [chE2] at hE
  split at hE
  ·exact hE
  ·rename_i h;exact Classical.not_not.1 h
 rw [chE] at h0
 split at h0
 ·cases h0
 rename_i a1
 split at h0
 ·cases h0
 rename_i a2
 split at h0
 ·cases h0
 rename_i a3
 split at h0
 ·cases h0
 rename_i a4
 split at h0
 ·cases h0
 rename_i a5
 have b1:=Qe8 (a:=c.author) (by simpa using a1)
 have b2:1≤c.seq∧c.seq≤1099511627776:=by
  have h:=a2
  rw [Bool.not_eq_false,numB,decide_eq_true_iff] at h
  exact h
 have b3:1≤c.start∧c.start≤1099511627776:=by
  have h:=a3
  rw [Bool.not_eq_false,numB,decide_eq_true_iff] at h
  exact h
 have b4:c.deps.length≤16∧QDw c.deps=true:=by simpa [depB] using a4
 have hs:c.author.data.toList.length=c.author.size:=Array.length_toList
 have hnt:c.note.data.toList.length=c.note.size:=Array.length_toList
 have hB:chB c=1::(lebT c.author.data.toList++(lebU c.seq.toNat++(lebU c.start.toNat++(QCY c.deps++(lebT c.note.data.toList++QAy c.ops))))):=by
  rw [chB];simp [lebB]
 obtain⟨b,hb⟩:∃b,b=chB c:=⟨_,rfl⟩
 rw [←hb] at hB h
 rw [hB,QAd,if_pos (show UInt8.toNat 1=1 from rfl),←hB] at h
 rw [QLa,Qep zo zD,if_neg (fun h=>h rfl),List.drop_left' rfl,Qe5] at h
 rw [QFO,Qe6 zo zo,if_neg (fun h=>h rfl),Qej zo,List.drop_left' rfl] at h
 rw [QE7,Qe6 zo zo,if_neg (fun h=>h rfl),Qej zo,List.drop_left' rfl] at h
 rw [QKp,QfU b4.1 hk b4.2,if_neg (fun h=>h rfl),List.drop_left' rfl] at h
 rw [QLL,Qep zo zD,if_neg (fun h=>h rfl),List.drop_left' rfl,Qe5] at h
 rw [QHs] at h
 split at h
 ·cases h
 ·split at h
  ·cases h
  ·simp only [Prod.mk.injEq,and_true] at h
   rw [←h]
inductive Ch:List Itm→Prop
 | nil:Ch []
 | snoc {L:List Itm} {x:Itm}:Ch L→ItOK x→x.h∉QF L→allL L x.c.deps=true→L.length<4096→fitF L x.c=0→Ch (L++[x])
theorem QfK {L:List Itm}:QDz L []=none:=rfl
theorem Qel {L:List Itm} {n:Nat}:QEH n ⟨L,[]⟩=⟨L,[]⟩:=by
 cases n with
 | zero=>rfl
 | succ n=>rw [QEH,QEM,QfK]
theorem QgN {L:List Itm} {x:Itm} (h1:ItOK x) (h2:x.h∉QF L) (h3:allL L x.c.deps=true) (h4:L.length<4096) (h5:fitF L x.c=0):addF ⟨L,[]⟩ x.b=(⟨L++[x],[]⟩,x.h,0):=by
 have hx:mkI x.b=x:=by
  obtain⟨k1,k2⟩:=h1
  rw [mkI,k1,←k2]
 rw [addF,h1.1]
 simp only
 rw [if_neg (fun h=>h rfl),←h1.2,if_neg (by rintro(h | h);exact h2 h;simp [QF] at h),if_neg (by rw [h3];decide),if_neg zo,if_neg zo,Qel,hx]
theorem Ch.ok {L:List Itm} (h:Ch L):GrOK ⟨L,[]⟩:=by
 induction h with
 | nil=>exact GrOK.nil
 | snoc h h1 h2 h3 h4 h5 ih=>
  have:=QJO ih (List.nil++[])
  exact ih.put h2 (by simp [QF]) h3 h1 h4
theorem Ch.fil {L:List Itm} (h:Ch L):filF (L.map (·.b))=⟨L,[]⟩:=by
 induction h with
 | nil=>rfl
 | snoc h h1 h2 h3 h4 h5 ih=>
  rw [List.map_append,filF,List.foldl_append]
  rw [filF] at ih
  rw [ih]
  show addG _ _=_
  rw [addG,QgN h1 h2 h3 h4 h5]
def fitM (l:List MadeV):List MadeV:=l.map fun m=>{ m with bad:=0 }
theorem Qfq {l:List (List UInt8)} {L:List Itm} {m:MadeV} (hm:mdOK m) (h0:m.bad=0) (h:Ch L):∃L',(QC9 (l,⟨L,[]⟩) m).2=⟨L',[]⟩∧Ch L':=by
 have hG:=h.ok
 have hsm:=QW7 hG hm (onF L m)
 rw [QC9]
 split
 ·rename_i hE
  dsimp only at hE hsm ⊢
  have hdeps:(makF L m (onF L m)).deps=(reqF L (onF L m)).take 16:=by
   rw [makF,h0];rfl
  obtain⟨c,hc⟩:∃c,c=makF L m (onF L m):=⟨_,rfl⟩
  rw [←hc] at hE hsm hdeps ⊢
  obtain⟨b,hb⟩:∃b,b=chB c:=⟨_,rfl⟩
  rw [←hb]
  rw [addF]
  split
  ·exact⟨L,rfl,h⟩
  ·rename_i k0
   have k0:(QAd b).2=0:=by omega
   split
   ·exact⟨L,rfl,h⟩
   ·rename_i k1
    rw [not_or] at k1
    have hd:(QAd b).1.deps=c.deps:=by
     rw [hb] at k0 ⊢
     exact Qeu hE hsm.2.2.2.2.1 (Prod.ext rfl k0)
    have hall:allL L (QAd b).1.deps=true:=by
     rw [hd,hdeps]
     exact Q2.2 fun x hx=>QYz (G:=⟨L,[]⟩) (List.mem_of_mem_take hx)
    rw [if_neg (by rw [hall];decide)]
    split
    ·exact⟨L,rfl,h⟩
    ·split
     ·exact⟨L,rfl,h⟩
     ·rename_i k2 k3
      refine⟨L++[mkI b],Qel,.snoc h (QN8 k0) k1.1 hall (by dsimp only at k2;omega) ?_⟩
      exact Classical.not_not.1 k3
 ·exact⟨L,rfl,h⟩
theorem bld_ch {l:List MadeV} (hm:∀m∈l,mdOK m):∃L,(bldF (fitM l)).2=⟨L,[]⟩∧Ch L:=by
 suffices ∀(l:List MadeV) (q:List (List UInt8)×GrV),(∀m∈l,mdOK m∧m.bad=0)→(∃L,q.2=⟨L,[]⟩∧Ch L)→∃L,(l.foldl QC9 q).2=⟨L,[]⟩∧Ch L by
  refine this (fitM l) _ (fun m hm2=>?_) ⟨[],rfl,.nil⟩
  rw [fitM,List.mem_map] at hm2
  obtain⟨m',hm',rfl⟩:=hm2
  exact⟨hm m' hm',rfl⟩
 intro l
 induction l with
 | nil=>exact fun q _ h=>h
 | cons m l ih=>
  rintro⟨out,G⟩ h ⟨L,hq,hL⟩
  dsimp only at hq
  subst hq
  obtain⟨k1,k2⟩:=h m (by simp)
  exact ih _ (fun x hx=>h x (by simp [hx])) (Qfq k1 k2 hL)
theorem Qez {L:List Itm} {N S:Int} (h:∀x∈L,x.c.seq≤N∧x.c.start≤S) (hN:0≤N) (hS:0≤S) (k:Hs):(chL L k).seq≤N∧(chL L k).start≤S:=by
 cases e:getL L k with
 | none=>rw [chL,e];exact⟨hN,hS⟩
 | some x=>
  rw [QUa e]
  exact h x (QDS e).1
theorem Qfb {L:List Itm} {N:Int} (h:∀k,(chL L k).seq≤N) (hN:0≤N) (a:ByteArray) (ps:List Hs):seqF L a ps≤N+1:=by
 suffices ∀(ps:List Hs) (s:Int),s≤N+1→ps.foldl (fun s h=>if (chL L h).author=a then max s ((chL L h).seq+1) else s) s≤N+1 from this ps 1 zo
 intro ps
 induction ps with
 | nil=>exact fun s h=>h
 | cons p ps ih=>
  intro s hs
  have:=h p
  refine ih _ ?_
  show (if (chL L p).author=a then max s ((chL L p).seq+1) else s)≤N+1
  split<;>omega
theorem QfN {L:List Itm} (hB:∀x∈L,ItB x) {S:Int} (h:∀k,(chL L k).start≤S) (hS:0≤S) (ps:List Hs):staF L ps≤S+268435456:=by
 suffices ∀(ps:List Hs) (s:Int),s≤S+268435456→ps.foldl (fun s h=>max s ((chL L h).start+QAa (chL L h).ops)) s≤S+268435456 from this ps 1 zo
 intro ps
 induction ps with
 | nil=>exact fun s h=>h
 | cons p ps ih=>
  intro s hs
  have h1:=h p
  have h2:=QVO hB p
  refine ih _ ?_
  show max s ((chL L p).start+QAa (chL L p).ops)≤S+268435456
  omega
theorem QfP {L:List Itm} {c:ChV} (h:fitF L c=0):redF L c.deps=c.deps∧c.seq=(QAG L c.author c.deps).1∧c.start=(QAG L c.author c.deps).2.1:=by
 rw [fitF] at h
 split at h
 ·cases h
 ·rename_i h1
  split at h
  ·cases h
  ·rename_i h2
   split at h
   ·cases h
   ·rename_i h3
    exact⟨Classical.not_not.1 h1,Classical.not_not.1 h2,Classical.not_not.1 h3⟩
theorem QgG {L:List Itm} (hB:∀x∈L,ItB x) {N S:Int} (h:∀x∈L,x.c.seq≤N∧x.c.start≤S) (hN:0≤N) (hS:0≤S) (a:ByteArray) (l:List Hs):(QAG L a l).1≤N+1∧(QAG L a l).2.1≤S+268435456:=by
 have k:=Qez h hN hS
 rw [QAG]
 split
 ·exact⟨zO,zO⟩
 ·split
  ·exact⟨zO,zO⟩
  ·exact⟨Qfb (fun k'=>(k k').1) hN a _,QfN hB (fun k'=>(k k').2) hS _⟩
theorem Ch.bnd {L:List Itm} (h:Ch L):∀x∈L,x.c.seq≤L.length∧x.c.start≤268435456*L.length:=by
 induction h with
 | nil=>simp
 | @snoc L x h h1 h2 h3 h4 h5 ih=>
  have hG:=h.ok
  obtain⟨_,e2,e3⟩:=QfP h5
  obtain⟨n1,n2⟩:=QgG (L:=L) (fun y hy=>hG.bL hy) (N:=L.length) (S:=268435456*L.length) ih zo zo x.c.author x.c.deps
  intro y hy
  rw [List.length_append,List.length_singleton]
  rcases List.mem_append.1 hy with k | k
  ·have:=ih y k;push_cast;omega
  ·rw [List.mem_singleton] at k;subst k;push_cast;omega
theorem Qfh {L:List Itm} {a:ByteArray} {ps:List Hs}:1≤seqF L a ps:=by
 suffices ∀(ps:List Hs) (s:Int),1≤s→1≤ps.foldl (fun s h=>if (chL L h).author=a then max s ((chL L h).seq+1) else s) s from this ps 1 zo
 intro ps
 induction ps with
 | nil=>exact fun s h=>h
 | cons p ps ih=>
  intro s hs
  refine ih _ ?_
  show 1≤(if (chL L p).author=a then max s ((chL L p).seq+1) else s)
  split<;>omega
theorem Qfg {L:List Itm} {ps:List Hs}:1≤staF L ps:=by
 suffices ∀(ps:List Hs) (s:Int),1≤s→1≤ps.foldl (fun s h=>max s ((chL L h).start+QAa (chL L h).ops)) s from this ps 1 zo
 intro ps
 induction ps with
 | nil=>exact fun s h=>h
 | cons p ps ih=>
  intro s hs
  refine ih _ ?_
  show 1≤max s _
  omega
theorem Qfm {L:List Itm} (hL:OrdL L) {l:List Hs}:redF L (redF L l)=redF L l:=by
 refine QEw (QKA L _) (QKA L _) fun h=>?_
 rw [QIe hL]
 refine⟨fun k=>k.1,fun k=>⟨k,fun q hq hn hb=>?_⟩⟩
 exact ((QIe hL).1 k).2 q (QFx hq) hn hb
def zedB:ByteArray:=⟨#[122,101,100]⟩
def zop:OpV:=⟨4,⟨#[116]⟩,0,0,⟨#[97,98,99]⟩⟩
def zch (q s:Int) (D:List Hs):ChV:=⟨zedB,q,s,D,⟨#[]⟩,[zop]⟩
theorem QgF:QA5 (QAy [zop])=([zop],0):=zK
theorem QgW:QAM [zop]=0:=zK
theorem QgK:(QAy [zop]).length≤100:=by decide+kernel
theorem Qen:QBP zedB=true:=zK
theorem Qfx:QAa [zop]=3:=zK
theorem QgE {q s:Int} {D:List Hs} (h1:1≤q) (h2:q≤1099511627776) (h3:1≤s) (h4:s≤1099511627776) (h5:D.length≤16) (h6:Rise D):chE2 (zch q s D)=0:=by
 have hE:chE (zch q s D)=0:=by
  rw [chE,if_neg (show ¬QBP (zch q s D).author=false from by show ¬QBP zedB=false;rw [Qen];decide),if_neg (show ¬numB (zch q s D).seq=false from by show ¬numB q=false;simp [numB];omega),
   if_neg (show ¬numB (zch q s D).start=false from by show ¬numB s=false;simp [numB];omega),if_neg (show ¬depB (zch q s D).deps=false from by show ¬depB D=false;rw [depB,QGZ.2 h6];simp;omega),
   if_neg (show ¬1024<(zch q s D).note.size from by show ¬1024<0;decide)]
  exact QgW
 have hl:(chB (zch q s D)).length≤65536:=by
  have y1:=QAA (show q.toNat<18446744073709551616 by omega)
  have y2:=QAA (show s.toNat<18446744073709551616 by omega)
  have y3:=QAA (show D.length<18446744073709551616 by omega)
  have y4:=Qeh D
  have y5:=QgK
  have y6:(lebB zedB).length=4:=by decide+kernel
  have y7:(lebB ⟨#[]⟩).length=1:=by decide+kernel
  have:chB (zch q s D)=1::(lebB zedB++(lebU q.toNat++(lebU s.toNat++(QCY D++(lebB ⟨#[]⟩++QAy [zop]))))):=by
   rw [chB];simp [zch]
  rw [this,QCY]
  simp only [List.length_cons,List.length_append]
  omega
 rw [chE2,if_neg (fun h=>h hE),if_neg zo]
theorem QgX {q s:Int} {D:List Hs} (hE:chE2 (zch q s D)=0) (hk:∀h∈D,hok h):QAd (chB (zch q s D))=(zch q s D,0):=QfX hE hk QgF
end Go.AW
