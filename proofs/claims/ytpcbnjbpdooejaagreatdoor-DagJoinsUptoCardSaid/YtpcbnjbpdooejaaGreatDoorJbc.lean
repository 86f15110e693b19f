/- A part of the proof: E15 D70 D71 D72. -/
import Derived.Test.YtpcbnjbpdooejaaGreatDoorJae
import Derived.Test.YtpcbnjbpdooejaaGreatDoorJbb
import Derived.Test.YtpcbnjbpdooejaaGreatDoorJba
import Derived.Test.YtpcbnjbpdooejaaGreatDoorJad
import Derived.Test.YtpcbnjbpdooejaaGreatDoorRows
import Derived.Lib.LaidTab
import Derived.Test.YtpcbnjbpdooejaaGreatDoorCards
import Derived.Test.YtpcbnjbpdooejaaGreatDoorTie
import Derived.WalkKit
import Derived.ProofKit
import Derived.OpenShut
import Derived.Deep.DeepHandedRow
set_option linter.unusedSimpArgs false
set_option linter.unusedVariables false
set_option maxRecDepth 100000
set_option maxHeartbeats 8000000
namespace Go.AW
theorem QL9 {L:List Itm} {h:Hs}:h∈QF L↔∃x∈L,x.h=h:=by rw [QF,List.mem_map]
theorem QP3 {L:List Itm} {x:Itm} {h:Hs} (hh:h∈QF (QBn L x)):h∈QF L∨h=x.h:=by
 rw [QBn] at hh
 split at hh
 ·rw [Qv] at hh
  simpa [QF] using hh
 ·exact .inl hh
theorem QQV {G G':GrV} (e:QEM G=some G'):(∀h∈QF G'.L,h∈QF G.L∨h∈QF G.W)∧∀h∈QF G'.W,h∈QF G.W:=by
 rw [QEM] at e
 split at e
 ·cases e
 ·rename_i h hr
  obtain⟨h1,h2⟩:=QB3 hr
  obtain⟨x,hx,hm,hxh⟩:=QA2 h1
  rw [hx] at e
  simp only [Option.some.injEq] at e
  subst e
  refine⟨fun k hk=>?_,fun k hk=>?_⟩
  ·rcases QP3 hk with q | q
   ·exact .inl q
   ·exact .inr (by rw [q,hxh];exact h1)
  ·obtain⟨y,hy,rfl⟩:=QL9.1 hk
   exact QL9.2 ⟨y,QF1 hy,rfl⟩
theorem QH0:∀{n:Nat} {G:GrV},(∀h∈QF (QEH n G).L,h∈QF G.L∨h∈QF G.W)∧∀h∈QF (QEH n G).W,h∈QF G.W
 | 0,G=>⟨fun _ h=>.inl h,fun _ h=>h⟩
 | n+1,G=>by
  rw [QEH]
  split
  ·exact⟨fun _ h=>.inl h,fun _ h=>h⟩
  ·rename_i G' e
   obtain⟨h1,h2⟩:=QQV e
   obtain⟨h3,h4⟩:=QH0 (n:=n) (G:=G')
   refine⟨fun h hh=>?_,fun h hh=>h2 h (h4 h hh)⟩
   rcases h3 h hh with k | k
   ·exact h1 h k
   ·exact .inr (h2 h k)
theorem QUP {G:GrV} {b:List UInt8} {h:Hs} (hh:h∈QF (addF G b).1.L∨h∈QF (addF G b).1.W):h∈QF G.L∨h∈QF G.W∨h=shaH b:=by
 have old:∀{q:Prop},(h∈QF G.L∨h∈QF G.W)→h∈QF G.L∨h∈QF G.W∨q:=fun k=>k.elim .inl fun k=>.inr (.inl k)
 rw [addF] at hh
 split at hh
 ·exact old hh
 ·split at hh
  ·exact old hh
  ·split at hh
   ·split at hh
    ·exact old hh
    ·rcases hh with k | k
     ·exact .inl k
     ·dsimp only at k
      rw [Qv,List.mem_append] at k
      rcases k with k | k
      ·exact .inr (.inl k)
      ·simp only [QF,List.map_cons,List.map_nil,List.mem_singleton] at k
       exact .inr (.inr k)
   ·split at hh
    ·exact old hh
    ·split at hh
     ·exact old hh
     ·dsimp only at hh
      obtain⟨h3,h4⟩:=QH0 (n:=G.W.length+1) (G:=⟨G.L++[mkI b],G.W⟩)
      have key:h∈QF (G.L++[mkI b])∨h∈QF G.W:=by
       rcases hh with k | k
       ·exact h3 h k
       ·exact .inr (h4 h k)
      rcases key with k | k
      ·rw [Qv,List.mem_append] at k
       rcases k with k | k
       ·exact .inl k
       ·simp only [QF,List.map_cons,List.map_nil,List.mem_singleton] at k
        exact .inr (.inr k)
      ·exact .inr (.inl k)
def Kin (all:List (List UInt8)) (G:GrV):Prop:=∀h,h∈QF G.L∨h∈QF G.W→h∈all.map shaH
theorem Kin.nil {all:List (List UInt8)}:Kin all ⟨[],[]⟩:=by rintro h (k | k)<;>simp [QF] at k
theorem Kin.add {all:List (List UInt8)} {G:GrV} {b:List UInt8} (h:Kin all G) (hb:b∈all):Kin all (addG G b):=by
 intro k hk
 rcases QUP hk with q | q | q
 ·exact h k (.inl q)
 ·exact h k (.inr q)
 ·rw [q];exact List.mem_map_of_mem hb
theorem Kin.fold {α:Type} {f:α→List UInt8} {all:List (List UInt8)}:∀{l:List α} {G:GrV},(∀a∈l,f a∈all)→Kin all G→Kin all (l.foldl (fun G o=>addG G (f o)) G)
 | [],_,_,h=>h
 | a::l,_,hf,h=>Kin.fold (f:=f) (l:=l) (fun b hb=>hf b (List.mem_cons_of_mem _ hb)) (h.add (hf a (List.mem_cons_self ..)))
theorem QOY {all:List (List UInt8)} {i:Nat} (hi:i<all.length):all.getD i []∈all:=by rw [QMi hi];exact List.getElem_mem hi
theorem QeJ {all:List (List UInt8)} {order:List UInt8}:Kin all (plA all order):=by
 rw [plA]
 split
 ·exact Kin.nil
 ·exact Kin.fold (fun o _=>QOY (Nat.mod_lt _ (by omega))) Kin.nil
theorem QRC {all:List (List UInt8)} {G:GrV} (h:Kin all G):∀k,k≤(all.length+1) / 2→Kin all (plB all G k)
 | 0,_=>h
 | k+1,hk=>(QRC h k (by omega)).add (QOY (by omega))
theorem Qdr {all:List (List UInt8)} {order:List UInt8}:Kin all (plF all order):=QRC QeJ _ (Nat.le_refl _)
theorem Kin.len {all:List (List UInt8)} {G:GrV} (h:Kin all G) (hG:GrOK G):G.L.length+G.W.length≤all.length:=by
 have hn:(QF G.L++QF G.W).Nodup:=List.nodup_append.2 ⟨hG.ord.nodup,hG.nd,fun a ha b hb e=>hG.dis b hb (e▸ha)⟩
 have:=List.Nodup.length_le_of_subset hn (l₂:=all.map shaH) fun x hx=>h x (List.mem_append.1 hx)
 rw [List.length_append,Qh,Qh,List.length_map] at this
 exact this
open Proofs
theorem QVu (l:List MadeV) (hl:l.length≤65536) (hm:∀m∈l,mdOK m) (order:List UInt8) (ho:order.length≤1048576):
  QE Tryz.prog gK 18 [.seq l.length 5 (flat mdc l),.seq order.length 1 (flat QC order)] (.tup [.rop (QBf (plF (bldF l).1 order)),grA (plF (bldF l).1 order)]):=by
 have h:=QY4 l hl hm order ho
 generalize plF (bldF l).1 order=G at*
 simp only [gO,grA] at h
 refine QE.of (by simp [idfL,idf,QJY,Qg]) (by simp [idf,idfL,QAn,grA,QIa]) (QM.useX [] h rfl zC zC ?_)
 (have X1:=@QBf.eq_1;have X2:=@grA.eq_1;first | exact zCN2 | refine zSN2 ?_)
 exact⟨_,rfl⟩
theorem QdR {l:List MadeV} (h:fewF l=true):l.length≤30:=by
 simp only [fewF,Bool.and_eq_true,decide_eq_true_eq] at h;exact h.1.1
theorem QeN (l:List MadeV) (hl:l.length≤1048576) (hm:∀m∈l,mdOK m) (a b:List UInt8) (ha:a.length≤1048576) (hb:b.length≤1048576):QE Tryz.prog gK 3 [.seq l.length 5 (flat mdc l),.seq a.length 1 (flat QC a),.seq b.length 1 (flat QC b)] (.v (.bool true)):=by
 refine QE.start Tryz.func3 rfl (by kernel_rfl) rfl Tryz.ntmps3 fol (by kernel_rfl) (by simp [idfL,idf,QZ QS,QS,Qg,Qy,QJY,Qg]) (by simp [idfL,idf,QZ QS,QS,Qg,Qy,QJY,Qg]) ?_
 refine zZ ?_
 refine ((Few_c l hl (fun m h=>(hm m h).2.2.1) (fun m h o k=>((hm m h).2.2.2 o k).2.1)).gam).useV ?_
 cases hf:fewF l
 ·refine zS ?_
  refine QGT.useV ?_
  exact zC
 have hl30:=QdR hf
 refine zS ?_
 refine QE.useV ((QVu l (by omega) hm [] (Nat.zero_le _)).preW (xs:=[.seq l.length 5 (flat mdc l),.v (.slice none 0 0)]) (by simp [idfL,idf,QJY]) (by simp [WkL,Wk,flat])) ?_
 have hG:=plF_ok (all:=(bldF l).1) (order:=[])
 have hn30:(plF (bldF l).1 []).L.length≤30:=by have:=Qdr.len hG;have:=(QM0 l).2;omega
 generalize plF (bldF l).1 []=G at*
 (have X1:=@grA.eq_1;refine zS1 ?_;clear X1)
 have hn:=hG.lenL
 have hpa:=(QOd G hG a ha).gam (γ:=gK)
 have hpb:=(QOd G hG b hb).gam (γ:=gK)
 simp only [grA] at hpa hpb
 have hxl:=QLP (L:=G.L) (ps:=a)
 have hyl:=QLP (L:=G.L) (ps:=b)
 generalize QKx G.L a=x at*
 generalize QKx G.L b=y at*
 refine QO.useV hpa rfl ?_
 refine zS ?_
 refine QO.useV hpb rfl ?_
 refine zS ?_
 have hP:=fun l h=>(Past_g G hG.ord hn hG.dL l h).gam (γ:=gK)
 have hR:=fun l h=>(QOm G hG.ord hn hG.dL l h).gam (γ:=gK)
 refine PNew.useV (hP x (by omega)) ?_
 (have X1:=@List.getElem?_cons_succ.{0};refine zS1 ?_;clear X1)
 refine PNew.useV (hP y (by omega)) ?_
 (have X1:=@List.getElem?_cons_succ.{0};refine zS1 ?_;clear X1)
 have hne:∀{l:List Hs},¬allL G.L l=true→0<l.length:=fun {l} h=>by
  cases l with
  | nil=>exact absurd rfl h
  | cons a l=>exact Nat.succ_pos _
 by_cases hx:allL G.L x=true
 ·have hkx:knoE G.L x=0:=if_pos hx
  have hpx:pasF G.L x=Q0 G.L x:=if_pos hx
  rw [hkx,hpx]
  (have X1:=@List.getElem?_cons_succ.{0};refine zS1 ?_;clear X1)
  by_cases hy:allL G.L y=true
  ·have hky:knoE G.L y=0:=if_pos hy
   have hpy:pasF G.L y=Q0 G.L y:=if_pos hy
   have hP1:∀l:List Hs,l.length≤1048576→allL G.L l=true→_:=fun l h k=>by
    have h1:=hP l h
    rw [knoE,pasF,if_pos k,if_pos k] at h1
    exact h1
   have hR1:∀l:List Hs,l.length≤256→allL G.L l=true→_:=fun l h k=>by
    have h1:=hR l h
    rw [knoE,reqF,if_pos k,if_pos k] at h1
    exact h1
   rw [hky,hpy]
   obtain⟨z,hz⟩:∃z,z=x++y:=⟨_,rfl⟩
   have hzl:x.length+y.length=z.length:=by rw [hz,List.length_append]
   have hzf:flat hcell x++flat hcell y=flat hcell z:=by rw [hz,Q4]
   have hzA:allL G.L z=true:=by rw [hz];exact QYy.2 ⟨hx,hy⟩
   have l1:(Q0 G.L z).length≤30:=Nat.le_trans (QHK hG.ord hzA) hn30
   have l2:(Q0 G.L x).length≤4096:=Nat.le_trans (QHK hG.ord hx) hn
   have l3:(Q0 G.L y).length≤4096:=Nat.le_trans (QHK hG.ord hy) hn
   have l4:(redF G.L z).length≤4096:=by rw [redF];exact Nat.le_trans (Nat.le_trans (QAp _) (List.length_filter_le _ _)) (by omega)
   have hw:=hP1 z (by omega) hzA
   have hagain:=hP1 (Q0 G.L x) (by omega) (QL0 hG.ord hx)
   have hu:=hR1 z (by omega) hzA
   have hv:=hP1 (redF G.L z) (by omega) (QVf hzA)
   have hm:=hR1 (Q0 G.L z) (by omega) (QL0 hG.ord hzA)
   rw [QTK hG.ord] at hagain
   rw [QX1 hG.ord hzA] at hv
   rw [QWc hG.ord hzA] at hm
   (have X1:=@List.getElem?_cons_succ.{0};have X2:=hzl;have X3:=hzf;refine zS3 ?_;clear X1 X2 X3)
   refine PNew.use (ids:=[1160]) hw (by have X1:=@QLW;exact zCN1) ?_
   (have X1:=@List.getElem?_cons_succ.{0};have X2:=hzl;have X3:=hzf;refine zS3 ?_;clear X1 X2 X3)
   refine PNew.useV hagain ?_
   (have X1:=@List.getElem?_cons_succ.{0};have X2:=hzl;have X3:=hzf;refine zS3 ?_;clear X1 X2 X3)
   refine PNew.use (ids:=[1486]) hu (by have X1:=@QLW;exact zCN1) ?_
   (have X1:=@List.getElem?_cons_succ.{0};refine zS1 ?_;clear X1)
   refine PNew.useV hv ?_
   (have X1:=@List.getElem?_cons_succ.{0};refine zS1 ?_;clear X1)
   refine PNew.useV hm ?_
   (have X1:=@List.getElem?_cons_succ.{0};refine zS1 ?_;clear X1)
   have hU:=(Qcz (Q0 G.L x) (Q0 G.L y) (by omega) (by omega)).gam (γ:=gK)
   rw [←QQu hG.ord,←hz] at hU
   have hMi:=(QYf (redF G.L z) (Q0 G.L z) (by omega) (by omega)).gam (γ:=gK)
   rw [Qbp hG.ord] at hMi
   have hS:=fun (q:List Hs) (h:q.length≤4096)=>(QaC q q (by omega) (by omega)).gam (γ:=gK)
   refine hU.useV ?_
   refine zS ?_
   refine (hS (Q0 G.L z) (by omega)).useV ?_
   refine zS ?_
   refine (hS (Q0 G.L x) (by omega)).useV ?_
   refine zS ?_
   refine (hS (Q0 G.L z) (by omega)).useV ?_
   refine zS ?_
   refine (hS (redF G.L z) (by omega)).useV ?_
   refine zS ?_
   refine PNew.useV hMi ?_
   refine zS ?_
   refine QGT.useV ?_
   exact zC
  ·have hky:knoE G.L y=44:=if_neg hy
   have hyn:=hne hy
   rw [hky]
   (have X1:=@List.getElem?_cons_succ.{0};refine zS1 ?_;clear X1)
   refine⟨fun _=>?_,fun h=>absurd h (by decide)⟩
   refine zS ?_
   refine⟨fun b1=>?_,fun b1=>?_⟩
   ·refine zS ?_
    refine⟨fun b2=>?_,fun b2=>absurd b2 (by omega)⟩
    refine zS ?_
    refine QGT.useV ?_
    first | exact zC | refine zS ?_
    try rfl
   ·refine zS ?_
    refine QGT.useV ?_
    first | exact zC | refine zS ?_
    try rfl
 ·have hkx:knoE G.L x=44:=if_neg hx
  have hxn:=hne hx
  rw [hkx]
  (have X1:=@List.getElem?_cons_succ.{0};refine zS1 ?_;clear X1)
  refine⟨fun h=>absurd h (by decide),fun _=>?_⟩
  refine zS ?_
  refine⟨fun b1=>absurd b1 (by omega),fun b1=>?_⟩
  refine zS ?_
  refine QGT.useV ?_
  first | exact zC | refine zS ?_
  try rfl
open Proofs Go.RowKit
theorem Rd.u8 {P:Program} {t:TypeId} (h:tint P t=some .u8):Rd P t QC (fun _=>1) (fun _=>True):=by
 intro H n d xs hx
 obtain⟨a,rfl,h1,h2⟩:=Rd.int h H n d xs hx
 have h3:0≤a∧a≤255:=by simpa [iok,Lit.wf,IntKind.min,IntKind.max,IntKind.signed,IntKind.bits] using h2
 refine⟨UInt8.ofNat a.toNat,?_,h1,trivial⟩
 have:((UInt8.ofNat a.toNat).toNat:Int)=a:=by
  rw [UInt8.toNat_ofNat']
  omega
 rw [QC,this];rfl
theorem Rd.bytes:Rd Tryz.prog 23 (fun l:List UInt8=>[.seq l.length 1 (flat QC l)]) (fun l=>(l.map fun _=>1).sum+1) (fun l=>∀a∈l,True):=Rd.slice QOA tsz_5 (Rd.u8 QOv)
def osz (o:OpV):Nat:=(o.name.size+1)+(o.text.size+1)+4
theorem Rd.op:Rd Tryz.prog 51 QX osz (fun o=>iok .i64 o.kind∧iok .i64 o.pos∧iok .i64 o.by_):=by
 intro H n d xs hx
 obtain⟨m,ps,rfl,h,hb⟩:=QLh QOi hx
 simp only [List.map_cons,List.map_nil] at h
 obtain⟨ds,a0,_,k0,rfl,h,e0,s0,o0⟩:=QBd (Rd.int QN0) h
 obtain⟨ds,a1,_,k1,rfl,h,e1,s1,o1⟩:=QBd (Rd.str QNz) h
 obtain⟨ds,a2,_,k2,rfl,h,e2,s2,o2⟩:=QBd (Rd.int QN0) h
 obtain⟨ds,a3,_,k3,rfl,h,e3,s3,o3⟩:=QBd (Rd.int QN0) h
 obtain⟨ds,a4,_,k4,rfl,h,e4,s4,o4⟩:=QBd (Rd.str QNz) h
 obtain rfl:=QZ6 h
 refine⟨⟨a0,a1,a2,a3,a4⟩,rfl,?_,o0,o2,o3⟩
 simp only [osz]
 omega
theorem Rd.ops:Rd Tryz.prog 52 (fun l:List OpV=>[.seq l.length 5 (flat QX l)]) (fun l=>(l.map osz).sum+1) (fun l=>∀a∈l,iok .i64 a.kind∧iok .i64 a.pos∧iok .i64 a.by_):=Rd.slice QN6 QaI Rd.op
def msz (m:MadeV):Nat:=((m.on.map fun _=>1).sum+1)+(m.note.size+1)+((m.ops.map osz).sum+1)+3
def mok (m:MadeV):Prop:=∀o∈m.ops,iok .i64 o.kind∧iok .i64 o.pos∧iok .i64 o.by_
theorem Rd.made:Rd Tryz.prog 115 mdc msz mok:=by
 intro H n d xs hx
 obtain⟨m,ps,rfl,h,hb⟩:=QLh QKE hx
 simp only [List.map_cons,List.map_nil] at h
 obtain⟨ds,a0,_,k0,rfl,h,e0,s0,o0⟩:=QBd (Rd.u8 QOv) h
 obtain⟨ds,a1,_,k1,rfl,h,e1,s1,o1⟩:=QBd Rd.bytes h
 obtain⟨ds,a2,_,k2,rfl,h,e2,s2,o2⟩:=QBd (Rd.str QNz) h
 obtain⟨ds,a3,_,k3,rfl,h,e3,s3,o3⟩:=QBd Rd.ops h
 obtain⟨ds,a4,_,k4,rfl,h,e4,s4,o4⟩:=QBd (Rd.u8 QOv) h
 obtain rfl:=QZ6 h
 refine⟨⟨a0,a1,a2,a3,a4⟩,rfl,?_,o3⟩
 simp only [msz]
 omega
theorem Rd.mades:Rd Tryz.prog 22 (fun l:List MadeV=>[.seq l.length 5 (flat mdc l)]) (fun l=>(l.map msz).sum+1) (fun l=>∀a∈l,mok a):=Rd.slice QOO QUF Rd.made
theorem QUw {α:Type} {f:α→Nat} {l:List α} {a:α} (h:a∈l):f a≤(l.map f).sum:=by
 induction l with
 | nil=>cases h
 | cons x l ih=>
  simp only [List.map_cons,List.sum_cons]
  rcases List.mem_cons.1 h with rfl | h
  ·omega
  ·have:=ih h;omega
theorem QIW {α:Type} {f:α→Nat} (hf:∀a,1≤f a) (l:List α):l.length≤(l.map f).sum:=by
 induction l with
 | nil=>simp
 | cons x l ih=>simp only [List.map_cons,List.sum_cons,List.length_cons];have:=hf x;omega
theorem QNl {n:Int} (h:iok .i64 n):-9223372036854775808≤n∧n<9223372036854775808:=by
 have h3:-9223372036854775808≤n∧n≤9223372036854775807:=by simpa [iok,Lit.wf,IntKind.min,IntKind.max,IntKind.signed,IntKind.bits] using h
 omega
theorem Qdz {l:List MadeV} (hb:(l.map msz).sum≤1048576) (ho:∀m∈l,mok m):l.length≤1048576∧∀m∈l,mdOK m:=by
 refine⟨Nat.le_trans (QIW (fun m=>by simp only [msz];omega) l) hb,fun m hm=>?_⟩
 have h1:msz m≤1048576:=Nat.le_trans (QUw (f:=msz) hm) hb
 have h2:=QIW (f:=fun _:UInt8=>1) (fun _=>Nat.le_refl _) m.on
 have h3:=QIW (f:=osz) (fun o=>by simp only [osz];omega) m.ops
 simp only [msz] at h1
 refine⟨by omega,by omega,by omega,fun o hm2=>?_⟩
 have h4:osz o≤(m.ops.map osz).sum:=QUw (f:=osz) hm2
 obtain⟨k1,k2,k3⟩:=ho m hm o hm2
 simp only [osz] at h4
 exact⟨by omega,by omega,QNl k1,QNl k2,QNl k3⟩
theorem QL6 {l:List UInt8} {n:Nat} (h:(l.map fun _=>1).sum+1≤n):l.length≤n:=by
 have:=QIW (f:=fun _:UInt8=>1) (fun _=>Nat.le_refl _) l
 omega
theorem QVA:Tryz.prog.globalNamed "stemma/sha.rounds"=some 1:=by kernel_rfl
theorem QaV:Tryz.prog.globalNamed "stemma/sha.begin"=some 0:=by kernel_rfl
theorem QZ0:(Tryz.prog.globals[1]?).map (·.type)=some 260:=by kernel_rfl
theorem Qby:(Tryz.prog.globals[0]?).map (·.type)=some 208:=by kernel_rfl
theorem Qad:Tryz.prog.cellsOf 260=64:=by kernel_rfl
theorem cells8:Tryz.prog.cellsOf 208=8:=by kernel_rfl
theorem QZ7:Tryz.prog.cellsOf 84=1:=by kernel_rfl
def zR:List Int:=kR.map fun a=>((a.toNat:Nat):Int)
def zB:List Int:=kB.map fun a=>((a.toNat:Nat):Int)
open Proofs.YtpcbnjbpdooejaaGreatDoor in
def QbE:List (String×DataW Unit):=[("stemma/sha.rounds",Rows.laid_stemma_sha_rounds),("stemma/sha.begin",Rows.laid_stemma_sha_begin)]
theorem QX5:QbE=[("stemma/sha.rounds",Lib.tabData .u32 zR),("stemma/sha.begin",Lib.tabData .u32 zB)]:=by kernel_rfl
theorem Qar {P:Program} {W:World} {n1 name:String} {d1:DataW Unit} {k:IntKind} {zs:List Int} {rest:List (String×DataW Unit)} {g:Nat} {t e:TypeId} {n:Nat}
  (hg:P.globalNamed name=some g) (hty:(P.globals[g]?).map (·.type)=some t) (ht:P.underlying t=some (.array n e)) (he:P.underlying e=some (.int k)) (hce:P.cellsOf e=1) (hct:P.cellsOf t=n)
  (h:laidMet P ((n1,d1)::(name,Lib.tabData k zs)::rest) W):Lib.TabIs P W name k zs:=by
 obtain⟨ps,⟨_,_,_,_,_,_,_,_,_,_,⟨g',t',cs,fuel,p,q,hg',ht',hvar,hd,_,_⟩,_⟩,_⟩:=h
 obtain rfl:=Option.some.inj (hg.symm.trans hg')
 obtain rfl:=Option.some.inj (hty.symm.trans ht')
 unfold Lib.TabIs
 rw [hvar,←Lib.cells_of_tab ht he hce hct hd]
theorem GOK.laid {W:World} (h:laidMetH Tryz.prog QbE W):GOK gK (Sall W) W:=by
 have h':laidMet Tryz.prog QbE W:=h
 rw [QX5] at h'
 have hR:=Lib.tabIs_of_head QVA QZ0 Tryz.underlying260 Tryz.underlying84 QZ7 Qad h'
 have hB:=Qar QaV Qby Tryz.underlying208 Tryz.underlying84 QZ7 cells8 h'
 have key:∀(g:Nat) (name:String) (zs:List Int),Lib.TabIs Tryz.prog W name .u32 zs→Tryz.prog.globalNamed name=some g→∀(j:Nat) (v:Value),(zs.map fun z=>Value.int .u32 z)[j]?=some v→Sall W g j∧W.cell? ⟨g,j,none⟩=some v∧v.oneCell'=true:=by
  intro g name zs hT hn j v hv
  rw [List.getElem?_map] at hv
  cases e:zs[j]? with
  | none=>rw [e] at hv;cases hv
  | some z=>
   rw [e] at hv
   simp only [Option.map_some,Option.some.injEq] at hv
   subst hv
   have hj:=(List.getElem?_eq_some_iff.1 e).1
   have hc:=hT.cell hn j hj
   rw [List.getD_eq_getElem?_getD,e,Option.getD_some] at hc
   refine⟨?_,hc,rfl⟩
   refine Classical.byContradiction fun hlt=>?_
   have hnone:W.heap[g]?=none:=by
    rw [Array.getElem?_eq_none]
    exact Nat.le_of_not_lt hlt
   simp [World.cell?,hnone] at hc
 refine⟨fun g vs hg j v hv=>?_,fun g N hg=>?_⟩
 ·simp only [gK,lk] at hg
  split at hg
  ·simp only [Option.some.injEq,GEnt.tab.injEq] at hg
   subst hg
   rename_i e
   refine key g "stemma/sha.begin" zB hB (by rw [←e];exact QaV) j v ?_
   rw [zB,List.map_map];exact hv
  ·split at hg
   ·simp only [Option.some.injEq,GEnt.tab.injEq] at hg
    subst hg
    rename_i e
    refine key g "stemma/sha.rounds" zR hR (by rw [←e];exact QVA) j v ?_
    rw [zR,List.map_map];exact hv
   ·cases hg
 ·simp only [gK,lk] at hg
  split at hg
  ·cases hg
  ·split at hg<;>cases hg
theorem QE.lawG {P:Program} {γ:GTab} {w:World} {f:FuncId} {xs:List AV} {args:Array Value} (hp:QE P γ f xs (.v (.bool true))) (hG:GOK γ (Sall w) w) (h:RepL (Sall w) μ0 w xs args.toList):
  Calls P f args w fun e w'=>e=.returned (.bool true)∧Below w.heap.size w w':=by
 refine (hp.2.2.2 (Sall w) w args.toList (fun b off h=>h) hG h).mono fun e w' he=>?_
 obtain⟨v,S',rfl,hE,hv⟩:=he
 simp only [Rep] at hv
 subst hv
 exact⟨rfl,hE.os,hE.tape.1,hE.output,hE.size,hE.heap⟩
end Go.AW
namespace Go.Proofs.YtpcbnjbpdooejaaGreatDoor.dagJoins
open Go.ChangeShapes Go.WideShapes Go.ChangeAt Go.RowKit Go.AW
mutual
theorem QIX {H:Type}:∀d:DataW H,Rows.uptoBulk d=bulk d
 | .lit l=>by cases l<;>simp [Rows.uptoBulk,bulk]
 | .nil=>by simp [Rows.uptoBulk,bulk]
 | .ptr d=>by simp [Rows.uptoBulk,bulk,QIX d]
 | .slice a b=>by simp [Rows.uptoBulk,bulk,bulkAll_eq a,bulkAll_eq b]
 | .agg a=>by simp [Rows.uptoBulk,bulk,bulkAll_eq a]
 | .iface _ d=>by simp [Rows.uptoBulk,bulk,QIX d]
 | .map es=>by simp [Rows.uptoBulk,bulk,bulkEntries_eq es]
 | .held _=>by simp [Rows.uptoBulk,bulk]
theorem bulkAll_eq {H:Type}:∀ds:List (DataW H),Rows.uptoBulkAll ds=bulkAll ds
 | []=>rfl
 | d::ds=>by simp [Rows.uptoBulkAll,bulkAll,QIX d,bulkAll_eq ds]
theorem bulkEntries_eq {H:Type}:∀es:List (Lit×DataW H),Rows.uptoBulkEntries es=bulkEntries es
 | []=>rfl
 | e::es=>by simp [Rows.uptoBulkEntries,bulkEntries,bulkEntry_eq e,bulkEntries_eq es]
theorem bulkEntry_eq {H:Type}:∀e:Lit×DataW H,Rows.uptoBulkEntry e=bulkEntry e
 | (l,d)=>by cases l<;>simp [Rows.uptoBulkEntry,bulkEntry,QIX d]
end
theorem own:ownKnob Tryz.prog.godebug=none:=by kernel_rfl
theorem laidOut:laidOutB Tryz.prog=true:=by kernel_rfl
theorem Qbf:QCk Tryz.prog 6 22=true:=by kernel_rfl
theorem QU7:QCk Tryz.prog 6 23=true:=by kernel_rfl
set_option maxRecDepth 100000 in
theorem contract (H:Type) (enc:TypeId×Value→H) (W:World) (base:Nat) (args:Array Value) (ds gs:List (DataW H)) (before:List MemPlace)
  (hval:∀(j:Nat) t v,Tryz.f3.params[j]?=some t→args[j]?=some v→Value.okWide Tryz.prog W .any base t v)
  (hW:DataW.Whole enc Tryz.prog Tryz.f3.params.toList Rows.dagJoinsSpec.vars false W args.toList ds gs before) (hk:Rows.uptoSmall H (ds++gs)=true) (hL:laidMetH Tryz.prog Rows.dagJoinsUptoRow.laid W):
  Calls Tryz.prog 3 args W fun e W'=>∃v,e=.returned v∧Rows.dagJoinsSpec.post enc Tryz.prog Tryz.f3 false true false false W args v W':=by
 have hW':=hW
 obtain⟨p,q,hA0,hV,rfl,hfz,hnd⟩:=hW
 have hA:DataW.TrodAll enc Tryz.prog W 0 (fun _=>true) true Tryz.f3.params.toList args.toList ds p:=hA0
 rw [Tryz.params3] at hA hval
 obtain⟨v0,vs0,d0,ds0,p0,q0,hargs,rfl,rfl,h0,r0⟩:=trodAll_cons hA
 obtain⟨v1,vs1,d1,ds1,p1,q1,rfl,rfl,rfl,h1,r1⟩:=trodAll_cons r0
 obtain⟨v2,vs2,d2,ds2,p2,q2,rfl,rfl,rfl,h2,r2⟩:=trodAll_cons r1
 obtain⟨rfl,rfl,rfl⟩:=trodAll_nil r2
 obtain rfl:args=#[v0,v1,v2]:=by cases args;simp_all
 obtain⟨rfl,rfl⟩:=trodVars_none hV
 clear hA0
 obtain⟨xs0,x0,a0,b0,c0,i0⟩:=QMX Qbf (hval 0 22 v0 rfl rfl) h0
 obtain⟨xs1,x1,a1,b1,c1,i1⟩:=QMX QU7 (hval 1 23 v1 rfl rfl) h1
 obtain⟨xs2,x2,a2,b2,c2,i2⟩:=QMX QU7 (hval 2 23 v2 rfl rfl) h2
 obtain⟨l,rfl,sl,ol⟩:=Rd.mades H _ _ _ a0
 obtain⟨a,rfl,sa,-⟩:=Rd.bytes H _ _ _ a1
 obtain⟨b,rfl,sb,-⟩:=Rd.bytes H _ _ _ a2
 dsimp only at sl sa sb
 have hk':bulkAll ([d0,d1,d2]++[])≤1048576:=by rw [←bulkAll_eq];exact of_decide_eq_true hk
 simp only [bulkAll,List.append_nil] at hk'
 obtain⟨hl,hm⟩:=Qdz (by omega) ol
 simp only [avOf,QRV,QR2,List.head?_cons,Option.some.injEq] at b0 b1 b2
 subst b0;subst b1;subst b2
 have hp:=QeN l hl hm a b (by have:=QL6 sa;omega) (by have:=QL6 sb;omega)
 refine (hp.lawG (w:=W) (args:=#[v0,v1,v2]) (GOK.laid hL) (by simp only [RepL];exact⟨v0,_,rfl,c0,v1,_,rfl,c1,v2,_,rfl,c2,rfl⟩)).mono fun e W' ⟨he,hb⟩=>?_
 subst he
 exact⟨_,rfl,QXf laidOut (by kernel_rfl) (by kernel_rfl) Tryz.underlying4 hW' rfl rfl hb⟩
noncomputable def QGV (os:Os):World:=
 { World.holding Tryz.prog os ⟨#[],#[],[]⟩ with heap:=(((World.holding Tryz.prog os ⟨#[],#[],[]⟩).heap.modify 0 fun
   | .cells _ t frozen=>.cells (zB.map fun z=>Value.int .u32 z).toArray t frozen
   | o=>o).modify 1 fun
   | .cells _ t frozen=>.cells (zR.map fun z=>Value.int .u32 z).toArray t frozen
   | o=>o) }
theorem QV8 (os:Os):laidMet Tryz.prog Rows.dagJoinsUptoRow.laid ((QGV os).forCall (fun _ _=>0) ⟨#[],#[.slice none 0 0,.slice none 0 0,.slice none 0 0],[]⟩).memory:=
 laidMet_of_run' 8 (by kernel_rfl) (by kernel_rfl)
theorem reads (os:Os) {H:Type} (enc:TypeId×Value→H):∃places,DataW.whole enc Tryz.prog ((QGV os).forCall (fun _ _=>0) ⟨#[],#[.slice none 0 0,.slice none 0 0,.slice none 0 0],[]⟩).memory Tryz.f3.params.toList Rows.dagJoinsSpec.vars false #[Value.slice none 0 0,.slice none 0 0,.slice none 0 0].toList 8=some ([.nil,.nil,.nil],[],places):=
 ⟨[],by kernel_rfl⟩
set_option maxRecDepth 100000 in
theorem lifted (os:Os) (started:os.Started) (H:Type) (enc:TypeId×Value→H) (F:Stop.Interp):
  ReturnsInHanded {} Tryz.checked os 3 .any ((Rows.OpenSpec.upto Rows.dagJoinsSpec).preRow enc Tryz.prog Tryz.f3 Rows.dagJoinsUptoRow.domain false Rows.dagJoinsUptoRow.laid) (((Rows.OpenSpec.upto Rows.dagJoinsSpec).at F).post enc Tryz.prog Tryz.f3 false true false false):=by
 obtain⟨places,hx⟩:=reads os enc
 refine returnsInHanded_of_row (C:=Tryz.checked) (s:=Rows.OpenSpec.upto Rows.dagJoinsSpec) own started (by kernel_rfl) Tryz.func3
  (witness_row_at (enc:=enc) (C:=Tryz.checked) false (QGV os) #[.slice none 0 0,.slice none 0 0,.slice none 0 0] rfl (by kernel_rfl) (by kernel_rfl) (by kernel_rfl)
   (OpenSpec.preRow_of_cond 8 hx (by kernel_rfl) (fun k hk=>by cases hk;kernel_rfl) (by kernel_rfl) (QV8 os))) ?_
 intro W base args ds gs before hval hW h1 hk h3 hL _ _
 exact contract H enc W base args ds gs before hval hW (hk _ rfl) hL
theorem Q8 {a b:Bool} (ha:a=true) (hb:b=true):(a&&b)=true:=by rw [ha,hb];rfl
theorem fact1:(fun (P:Program) (f:FuncId) (fn:Func) (s:ChangeSpec) (c:OpenClaim)=>(c.wf (OpenSpec.ofChange s):Bool)) Tryz.prog 3 Tryz.f3 ((Rows.OpenSpec.upto Rows.dagJoinsSpec).bare) (Rows.dagJoinsUptoRow)=true:=by kernel_rfl
theorem fact2:(fun (P:Program) (f:FuncId) (fn:Func) (s:ChangeSpec) (c:OpenClaim)=>(laidOutB P:Bool)) Tryz.prog 3 Tryz.f3 ((Rows.OpenSpec.upto Rows.dagJoinsSpec).bare) (Rows.dagJoinsUptoRow)=true:=by kernel_rfl
theorem fact3:(fun (P:Program) (f:FuncId) (fn:Func) (s:ChangeSpec) (c:OpenClaim)=>(mapsRowed P:Bool)) Tryz.prog 3 Tryz.f3 ((Rows.OpenSpec.upto Rows.dagJoinsSpec).bare) (Rows.dagJoinsUptoRow)=true:=by kernel_rfl
theorem fact4:(fun (P:Program) (f:FuncId) (fn:Func) (s:ChangeSpec) (c:OpenClaim)=>(fn.params.all (P.readableRec ·):Bool)) Tryz.prog 3 Tryz.f3 ((Rows.OpenSpec.upto Rows.dagJoinsSpec).bare) (Rows.dagJoinsUptoRow)=true:=by kernel_rfl
theorem fact5:(fun (P:Program) (f:FuncId) (fn:Func) (s:ChangeSpec) (c:OpenClaim)=>(namedTie P c.named s.vars:Bool)) Tryz.prog 3 Tryz.f3 ((Rows.OpenSpec.upto Rows.dagJoinsSpec).bare) (Rows.dagJoinsUptoRow)=true:=by kernel_rfl
theorem fact6:(fun (P:Program) (f:FuncId) (fn:Func) (s:ChangeSpec) (c:OpenClaim)=>((c.stops==[]):Bool)) Tryz.prog 3 Tryz.f3 ((Rows.OpenSpec.upto Rows.dagJoinsSpec).bare) (Rows.dagJoinsUptoRow)=true:=by kernel_rfl
theorem fact7:(fun (P:Program) (f:FuncId) (fn:Func) (s:ChangeSpec) (c:OpenClaim)=>((P.stops==[]):Bool)) Tryz.prog 3 Tryz.f3 ((Rows.OpenSpec.upto Rows.dagJoinsSpec).bare) (Rows.dagJoinsUptoRow)=true:=by kernel_rfl
theorem fact8:(fun (P:Program) (f:FuncId) (fn:Func) (s:ChangeSpec) (c:OpenClaim)=>((c.knobs==[]):Bool)) Tryz.prog 3 Tryz.f3 ((Rows.OpenSpec.upto Rows.dagJoinsSpec).bare) (Rows.dagJoinsUptoRow)=true:=by kernel_rfl
theorem fact9:(fun (P:Program) (f:FuncId) (fn:Func) (s:ChangeSpec) (c:OpenClaim)=>((P.stopKnobs==[]):Bool)) Tryz.prog 3 Tryz.f3 ((Rows.OpenSpec.upto Rows.dagJoinsSpec).bare) (Rows.dagJoinsUptoRow)=true:=by kernel_rfl
theorem fact10:(fun (P:Program) (f:FuncId) (fn:Func) (s:ChangeSpec) (c:OpenClaim)=>((c.inPlace==P.inPlace f):Bool)) Tryz.prog 3 Tryz.f3 ((Rows.OpenSpec.upto Rows.dagJoinsSpec).bare) (Rows.dagJoinsUptoRow)=true:=by kernel_rfl
theorem fact11:(fun (P:Program) (f:FuncId) (fn:Func) (s:ChangeSpec) (c:OpenClaim)=>((c.unfollowed==P.unfollowed f):Bool)) Tryz.prog 3 Tryz.f3 ((Rows.OpenSpec.upto Rows.dagJoinsSpec).bare) (Rows.dagJoinsUptoRow)=true:=by kernel_rfl
theorem fact12:(fun (P:Program) (f:FuncId) (fn:Func) (s:ChangeSpec) (c:OpenClaim)=>((c.recurses==P.recurses f):Bool)) Tryz.prog 3 Tryz.f3 ((Rows.OpenSpec.upto Rows.dagJoinsSpec).bare) (Rows.dagJoinsUptoRow)=true:=by kernel_rfl
theorem fact13:(fun (P:Program) (f:FuncId) (fn:Func) (s:ChangeSpec) (c:OpenClaim)=>((c.named==P.varsNamed f):Bool)) Tryz.prog 3 Tryz.f3 ((Rows.OpenSpec.upto Rows.dagJoinsSpec).bare) (Rows.dagJoinsUptoRow)=true:=by kernel_rfl
theorem fact14:(fun (P:Program) (f:FuncId) (fn:Func) (s:ChangeSpec) (c:OpenClaim)=>((c.maps==(fn.params.toList++s.plain.varTypes P).any (P.mapsRec ·)):Bool)) Tryz.prog 3 Tryz.f3 ((Rows.OpenSpec.upto Rows.dagJoinsSpec).bare) (Rows.dagJoinsUptoRow)=true:=by kernel_rfl
theorem fact15:(fun (P:Program) (f:FuncId) (fn:Func) (s:ChangeSpec) (c:OpenClaim)=>((c.ifaces==(fn.params.toList++s.plain.varTypes P).any (P.ifacesRec ·)):Bool)) Tryz.prog 3 Tryz.f3 ((Rows.OpenSpec.upto Rows.dagJoinsSpec).bare) (Rows.dagJoinsUptoRow)=true:=by kernel_rfl
theorem fact16:(fun (P:Program) (f:FuncId) (fn:Func) (s:ChangeSpec) (c:OpenClaim)=>((c.mapsOut==P.mapsAmong fn.resultTypes.toList):Bool)) Tryz.prog 3 Tryz.f3 ((Rows.OpenSpec.upto Rows.dagJoinsSpec).bare) (Rows.dagJoinsUptoRow)=true:=by kernel_rfl
theorem fact17:(fun (P:Program) (f:FuncId) (fn:Func) (s:ChangeSpec) (c:OpenClaim)=>((c.loops==(fn.params.toList++s.plain.varTypes P).any (P.loopsFrom ·)):Bool)) Tryz.prog 3 Tryz.f3 ((Rows.OpenSpec.upto Rows.dagJoinsSpec).bare) (Rows.dagJoinsUptoRow)=true:=by kernel_rfl
theorem fact18:(fun (P:Program) (f:FuncId) (fn:Func) (s:ChangeSpec) (c:OpenClaim)=>((c.wideKeys==(fn.params.toList++s.plain.varTypes P++fn.resultTypes.toList).any (P.wideKeysFrom ·)):Bool)) Tryz.prog 3 Tryz.f3 ((Rows.OpenSpec.upto Rows.dagJoinsSpec).bare) (Rows.dagJoinsUptoRow)=true:=by kernel_rfl
theorem fact19:(fun (P:Program) (f:FuncId) (fn:Func) (s:ChangeSpec) (c:OpenClaim)=>(s.vars.all (P.varReadable ·):Bool)) Tryz.prog 3 Tryz.f3 ((Rows.OpenSpec.upto Rows.dagJoinsSpec).bare) (Rows.dagJoinsUptoRow)=true:=by kernel_rfl
theorem fact20:(fun (P:Program) (f:FuncId) (fn:Func) (s:ChangeSpec) (c:OpenClaim)=>(fn.resultTypes.all (fun t=>P.readableRec t&&decide (t<P.types.size)):Bool)) Tryz.prog 3 Tryz.f3 ((Rows.OpenSpec.upto Rows.dagJoinsSpec).bare) (Rows.dagJoinsUptoRow)=true:=by kernel_rfl
theorem fact21:(fun (P:Program) (f:FuncId) (fn:Func) (s:ChangeSpec) (c:OpenClaim)=>((c.ifacesOut==fn.resultTypes.toList.any (P.ifacesRec ·)):Bool)) Tryz.prog 3 Tryz.f3 ((Rows.OpenSpec.upto Rows.dagJoinsSpec).bare) (Rows.dagJoinsUptoRow)=true:=by kernel_rfl
theorem fact22:(fun (P:Program) (f:FuncId) (fn:Func) (s:ChangeSpec) (c:OpenClaim)=>((c.loopsOut==fn.resultTypes.toList.any (P.loopsFrom ·)):Bool)) Tryz.prog 3 Tryz.f3 ((Rows.OpenSpec.upto Rows.dagJoinsSpec).bare) (Rows.dagJoinsUptoRow)=true:=by kernel_rfl
theorem fact23:(fun (P:Program) (f:FuncId) (fn:Func) (s:ChangeSpec) (c:OpenClaim)=>((c.plainKeys==P.plainKeys):Bool)) Tryz.prog 3 Tryz.f3 ((Rows.OpenSpec.upto Rows.dagJoinsSpec).bare) (Rows.dagJoinsUptoRow)=true:=by kernel_rfl
theorem fact24:(fun (P:Program) (f:FuncId) (fn:Func) (s:ChangeSpec) (c:OpenClaim)=>(c.shortTexts.isNone:Bool)) Tryz.prog 3 Tryz.f3 ((Rows.OpenSpec.upto Rows.dagJoinsSpec).bare) (Rows.dagJoinsUptoRow)=true:=by kernel_rfl
theorem fact25:(fun (P:Program) (f:FuncId) (fn:Func) (s:ChangeSpec) (c:OpenClaim)=>(P.stopsHeard:Bool)) Tryz.prog 3 Tryz.f3 ((Rows.OpenSpec.upto Rows.dagJoinsSpec).bare) (Rows.dagJoinsUptoRow)=true:=by kernel_rfl
theorem fact26:(fun (P:Program) (f:FuncId) (fn:Func) (s:ChangeSpec) (c:OpenClaim)=>(P.mayEnter:Bool)) Tryz.prog 3 Tryz.f3 ((Rows.OpenSpec.upto Rows.dagJoinsSpec).bare) (Rows.dagJoinsUptoRow)=true:=by kernel_rfl
theorem fact27:(fun (P:Program) (f:FuncId) (fn:Func) (s:ChangeSpec) (c:OpenClaim)=>((c.lifted==P.liftsFinal):Bool)) Tryz.prog 3 Tryz.f3 ((Rows.OpenSpec.upto Rows.dagJoinsSpec).bare) (Rows.dagJoinsUptoRow)=true:=by kernel_rfl
theorem fact28:(fun (P:Program) (f:FuncId) (fn:Func) (s:ChangeSpec) (c:OpenClaim)=>((P.make==some c.make):Bool)) Tryz.prog 3 Tryz.f3 ((Rows.OpenSpec.upto Rows.dagJoinsSpec).bare) (Rows.dagJoinsUptoRow)=true:=by kernel_rfl
theorem fact29:(fun (P:Program) (f:FuncId) (fn:Func) (s:ChangeSpec) (c:OpenClaim)=>((c.kinds==(if c.domain.isEmpty then [] else fn.params.toList.map fun t=>match P.underlying t with | some (.int k)=>some k | _=>none)):Bool)) Tryz.prog 3 Tryz.f3 ((Rows.OpenSpec.upto Rows.dagJoinsSpec).bare) (Rows.dagJoinsUptoRow)=true:=by kernel_rfl
theorem fact30:(fun (P:Program) (f:FuncId) (fn:Func) (s:ChangeSpec) (c:OpenClaim)=>((c.pinned==c.pinnedBy):Bool)) Tryz.prog 3 Tryz.f3 ((Rows.OpenSpec.upto Rows.dagJoinsSpec).bare) (Rows.dagJoinsUptoRow)=true:=by kernel_rfl
theorem fact31:(fun (P:Program) (f:FuncId) (fn:Func) (s:ChangeSpec) (c:OpenClaim)=>((c.veiled==(fn.params.toList++s.plain.varTypes P++fn.resultTypes.toList).any (P.veiledRec ·)):Bool)) Tryz.prog 3 Tryz.f3 ((Rows.OpenSpec.upto Rows.dagJoinsSpec).bare) (Rows.dagJoinsUptoRow)=true:=by kernel_rfl
theorem fact32:(fun (P:Program) (f:FuncId) (fn:Func) (s:ChangeSpec) (c:OpenClaim)=>(c.veiledFits P fn.params.toList (fn.params.toList++s.plain.varTypes P++fn.resultTypes.toList):Bool)) Tryz.prog 3 Tryz.f3 ((Rows.OpenSpec.upto Rows.dagJoinsSpec).bare) (Rows.dagJoinsUptoRow)=true:=by kernel_rfl
end Go.Proofs.YtpcbnjbpdooejaaGreatDoor.dagJoins
