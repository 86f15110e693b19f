/- A part of the proof: E18 E19 D77 D78 D82 D85 D86. -/
import Derived.Test.YtpcbnjbpdooejaaGreatDoorNae
import Derived.Test.YtpcbnjbpdooejaaGreatDoorNaz
import Derived.Test.YtpcbnjbpdooejaaGreatDoorNay
set_option linter.unusedSimpArgs false
set_option linter.unusedVariables false
set_option maxRecDepth 100000
set_option maxHeartbeats 8000000
namespace Go.AW
def zq (L:List Itm) (D:List Hs):Int:=seqF L zedB (Q0 L D)
def zs (L:List Itm) (D:List Hs):Int:=staF L (Q0 L D)
theorem znext {L:List Itm} {D:List Hs} (ha:allL L D=true):QAG L zedB D=(zq L D,zs L D,0):=by
 rw [QAG,if_neg (by rw [Qen];decide),if_neg (by rw [ha];decide)];rfl
theorem zfit {L:List Itm} (hL:OrdL L) {on:List Hs} (ha:allL L on=true) {q s:Int}:fitF L (zch q s (redF L on))=if q≠zq L (redF L on) then 42 else if s≠zs L (redF L on) then 43 else 0:=by
 have hn:=znext (QVf ha)
 rw [fitF]
 show (if redF L (redF L on)≠redF L on then 41 else if q≠(QAG L zedB (redF L on)).1 then 42 else if s≠(QAG L zedB (redF L on)).2.1 then 43 else 0)=_
 rw [Qfm hL,if_neg (fun h=>h rfl),hn]
theorem zadd {L:List Itm} (h:Ch L) (hlen:L.length<4096) {on:List Hs} (ha:allL L on=true) {q s:Int} (hE:chE2 (zch q s (redF L on))=0) (hn:shaH (chB (zch q s (redF L on)))∉QF L):
  addF ⟨L,[]⟩ (chB (zch q s (redF L on)))=if q≠zq L (redF L on) then (⟨L,[]⟩,QBl,42) else if s≠zs L (redF L on) then (⟨L,[]⟩,QBl,43) else (⟨L++[⟨shaH (chB (zch q s (redF L on))),zch q s (redF L on),chB (zch q s (redF L on))⟩],[]⟩,shaH (chB (zch q s (redF L on))),0):=by
 have hL:OrdL L:=h.ok.ord
 have hk:∀x∈redF L on,hok x:=fun x hx=>QTU h.ok (Q2.1 ha x (QFx hx))
 have hg:=QgX hE hk
 have hf:=zfit (q:=q) (s:=s) hL ha
 have hm:mkI (chB (zch q s (redF L on)))=⟨shaH (chB (zch q s (redF L on))),zch q s (redF L on),chB (zch q s (redF L on))⟩:=by rw [mkI,hg]
 rw [addF,hg]
 simp only
 rw [if_neg (fun h=>h rfl),if_neg (by rintro(k | k);exact hn k;simp [QF] at k),if_neg (by show ¬allL L (redF L on)=false;rw [QVf ha];decide),if_neg zo]
 by_cases e1:q=zq L (redF L on)
 ·rw [if_neg (fun k=>k e1)] at hf
  by_cases e2:s=zs L (redF L on)
  ·rw [if_neg (fun k=>k e2)] at hf
   rw [hf,if_neg (fun k=>k rfl),if_neg (fun k=>k e1),if_neg (fun k=>k e2),hm]
   exact Prod.ext Qel rfl
  ·rw [if_pos e2] at hf
   rw [hf,if_pos zD,if_neg (fun k=>k e1),if_pos e2]
 ·rw [if_pos e1] at hf
  rw [hf,if_pos zD,if_pos e1]
section
variable {L : List Itm} {D : List Hs} {h : Hs} {b : List UInt8} {c : ChV}
theorem QfS {x:Itm} {k:Hs} (hk:k∈QF L):chL (L++[x]) k=chL L k:=by
 obtain⟨y,hy,-, -⟩:=QA2 hk
 rw [chL,chL,Qek,hy];rfl
theorem Qet {x:Itm} (hx:x.h∉QF L):chL (L++[x]) x.h=x.c:=by
 rw [chL,Qek,QGh.2 hx]
 simp [getL]
theorem QgS (hL:OrdL L) {x:Itm} (hx:x.h∉QF L) (hd:∀d∈x.c.deps,d∈QF L) {l:List Hs} (hl:∀k∈l,k∈QF L) {k:Hs}:Bel (L++[x]) l k↔Bel L l k:=by
 constructor
 ·intro hb
  induction hb with
  | base h=>exact .base h
  | @dep y d hb hy hdy ih=>
   rcases List.mem_append.1 hy with q | q
   ·exact .dep ih q hdy
   ·rw [List.mem_singleton] at q
    subst q
    exact absurd (ih.mem hL hl) hx
 ·exact Bel.mono (fun y hy=>List.mem_append_left _ hy) fun y hy=>.base hy
theorem QfW (hL:OrdL L) {x:Itm} (hx:x.h∉QF L) (hd:∀d∈x.c.deps,d∈QF L):(Q0 (L++[x]) [x.h]).Perm (Q0 L x.c.deps++[x.h]):=by
 have hL2:OrdL (L++[x]):=.snoc hL hx hd
 have hpk:∀k∈Q0 L x.c.deps,k∈QF L:=fun k hk=>((Qp hL).1 hk).mem hL hd
 rw [List.perm_ext_iff_of_nodup (QAm _ _).nodup (List.nodup_append.2 ⟨(QAm _ _).nodup,by simp,fun a ha c hc e=>by
  rw [List.mem_singleton] at hc
  exact hx (by rw [←hc,←e];exact hpk a ha)⟩)]
 intro k
 have hdp:QBv (L++[x]) x.h=x.c.deps:=by rw [QBv,Qet hx]
 rw [Qp hL2,Bel.one hL2 (by rw [Qv];simp [QF]),hdp,QgS hL hx hd hd,List.mem_append,List.mem_singleton,Qp hL]
 exact Or.comm
theorem zmore (hL:OrdL L) {X:Itm} (hX:X.h∉QF L) (hD:allL L D=true) (hc:X.c=zch (zq L D) (zs L D) D):QAG (L++[X]) zedB [X.h]=(zq L D+1,zs L D+3,0):=by
 have hd:∀d∈X.c.deps,d∈QF L:=by rw [hc];exact Q2.1 hD
 have hp:=QfW hL hX hd
 have hpk:∀k∈Q0 L D,k∈QF L:=QA3 hL hD
 have hXc:X.c.deps=D:=by rw [hc];rfl
 rw [hXc] at hp
 have e1:∀(ps:List Hs),(∀k∈ps,k∈QF L)→∀s,ps.foldl (fun s h=>if (chL (L++[X]) h).author=zedB then max s ((chL (L++[X]) h).seq+1) else s) s=ps.foldl (fun s h=>if (chL L h).author=zedB then max s ((chL L h).seq+1) else s) s:=by
  intro ps
  induction ps with
  | nil=>intro _ s;rfl
  | cons p ps ih=>
   intro hk s
   rw [List.foldl_cons,List.foldl_cons,QfS (hk p (by simp))]
   exact ih (fun k h=>hk k (by simp [h])) _
 have e2:∀(ps:List Hs),(∀k∈ps,k∈QF L)→∀s,ps.foldl (fun s h=>max s ((chL (L++[X]) h).start+QAa (chL (L++[X]) h).ops)) s=ps.foldl (fun s h=>max s ((chL L h).start+QAa (chL L h).ops)) s:=by
  intro ps
  induction ps with
  | nil=>intro _ s;rfl
  | cons p ps ih=>
   intro hk s
   rw [List.foldl_cons,List.foldl_cons,QfS (hk p (by simp))]
   exact ih (fun k h=>hk k (by simp [h])) _
 have hq:seqF (L++[X]) zedB (Q0 (L++[X]) [X.h])=zq L D+1:=by
  rw [QLf hp,seqF,List.foldl_append,e1 _ hpk]
  show (if (chL (L++[X]) X.h).author=zedB then max (seqF L zedB (Q0 L D)) ((chL (L++[X]) X.h).seq+1) else _)=_
  rw [Qet hX,hc,if_pos (show (zch (zq L D) (zs L D) D).author=zedB from rfl)]
  show max (zq L D) (zq L D+1)=_
  omega
 have hs:staF (L++[X]) (Q0 (L++[X]) [X.h])=zs L D+3:=by
  rw [QKP hp,staF,List.foldl_append,e2 _ hpk]
  show max (staF L (Q0 L D)) ((chL (L++[X]) X.h).start+QAa (chL (L++[X]) X.h).ops)=_
  rw [Qet hX,hc]
  show max (zs L D) (zs L D+QAa [zop])=_
  rw [Qfx]
  omega
 rw [QAG,if_neg (by rw [Qen];decide),if_neg (by rw [Q2.2 (fun k hk=>by rw [List.mem_singleton] at hk;rw [hk,Qv];simp [QF])];decide),hq,hs]
theorem Qf0 (hL:OrdL L) {X:Itm} (hX:X.h∉QF L) (hd:∀d∈X.c.deps,d∈QF L):X.h∈heaF (L++[X]):=by
 rw [heaF,QBr,List.mem_filter]
 refine⟨by rw [Qv];simp [QF],?_⟩
 rw [Bool.not_eq_true',decide_eq_false_iff_not,Qe4]
 rintro⟨y,hy,hk⟩
 rcases List.mem_append.1 hy with q | q
 ·exact hX (hL.deps y q _ hk).1
 ·rw [List.mem_singleton] at q
  rw [q] at hk
  exact hX (hd _ hk)
end
theorem Kin.mono {a b:List (List UInt8)} {G:GrV} (h:Kin a G) (hs:∀x∈a,x∈b):Kin b G:=fun k hk=>by
 obtain⟨x,hx,rfl⟩:=List.mem_map.1 (h k hk)
 exact List.mem_map_of_mem (hs x hx)
theorem QgM (l:List MadeV):Kin (bldF l).1 (bldF l).2:=by
 suffices ∀(l:List MadeV) (q:List (List UInt8)×GrV),Kin q.1 q.2→Kin (l.foldl QC9 q).1 (l.foldl QC9 q).2 from this l _ Kin.nil
 intro l
 induction l with
 | nil=>exact fun q h=>h
 | cons m l ih=>
  intro q h
  refine ih _ ?_
  rw [QC9]
  split
  ·exact Kin.add (h.mono fun x hx=>List.mem_append_left _ hx) (List.mem_append_right _ (by simp))
  ·exact h
theorem QgZ (l:List MadeV):(bldF l).2.L.length≤l.length:=by
 have h1:=(QgM l).len (QM0 l).1
 have h2:=(QM0 l).2
 omega
theorem Qfz (l:List MadeV):(fitM l).length=l.length:=List.length_map ..
theorem zq_le {L:List Itm} (h:Ch L) (D:List Hs):1≤zq L D∧zq L D≤L.length+1∧1≤zs L D∧zs L D≤268435456*L.length+268435456:=by
 have hG:=h.ok
 have hb:=h.bnd
 have k:=Qez hb zo zo
 exact⟨Qfh,Qfb (fun q=>(k q).1) zo _ _,Qfg,QfN (L:=L) (fun y hy=>hG.bL hy) (fun q=>(k q).2) zo _⟩
theorem Qei {q s:Int} {D:List Hs} (h1:0≤q) (h2:q≤1099511627776) (h3:0≤s) (h4:s≤1099511627776) (h5:D.length≤16) (hk:∀h∈D,hok h):QES (zch q s D):=by
 refine⟨by show zedB.size≤_;decide,⟨by show _≤q;omega,by show q<_;omega⟩,⟨by show _≤s;omega,by show s<_;omega⟩,by show D.length≤_;omega,hk,by show 0≤_;omega,by show 1≤_;omega,?_⟩
 intro o ho
 have:o=zop:=by simpa [zch] using ho
 subst this
 exact⟨by decide,by decide,by decide,by decide,by decide⟩
open Proofs
open Proofs
def laR (c:ChV):AV:=if chE c=0 then .tup [.sl 0 0 (chB c).length 1,.v (.int .i64 0)] else .tup [.v (.slice none 0 0),.v (.int .i64 (chE c))]
def laO (c:ChV):List (Nat×AObj):=if chE c=0 then [(0,.cells 5 (flat QC (chB c)) true)] else []
theorem lay_m (c:ChV) (hs:QES c):QM Tryz.prog [] 79 [.agg (ccl c)] [] 0 (laR c) (laO c) 1:=by
 refine QM.start Tryz.func79 rfl zK rfl Tryz.ntmps79 fol zK zD ?_
 refine zz ?_
 (have X1:=@ccl.eq_1;refine zS1 ?_;clear X1)
 refine QD (ι:=Nat) (fun i=>⟨[(1,.rop (ccl c)),(18,.seq 5 2 [.clo (.func 140) [] [.rop (ccl c)],.v (.int .i64 30),.clo (.func 141) [] [.rop (ccl c)],.v (.int .i64 42),.clo (.func 143) [] [.rop (ccl c)],.v (.int .i64 43),.clo (.func 144) [] [.rop (ccl c)],.v (.int .i64 41),.clo (.func 145) [] [.rop (ccl c)],.v (.int .i64 5)]),(19,.v (.int .i64 5)),(20,.v (.int .i64 i))],⟨[],0,0,0⟩⟩)
  (fun i=>i≤5∧(1≤i→QBP c.author=true)∧(2≤i→numB c.seq=true)∧(3≤i→numB c.start=true)∧(4≤i→depB c.deps=true)∧(5≤i→c.note.size≤1024)) (fun i=>5 - i) 0 ⟨Nat.zero_le _,by omega,by omega,by omega,by omega,by omega⟩ ?_ ?_
 ·(have X1:=@ccl.eq_1;have X2:=@QLD;refine fzNM 0 [] [] ?_ ?_<;>first | exact zC2 | refine zS2 ?_)
  rfl
 rintro i ⟨hi,k1,k2,k3,k4,k5⟩
 obtain⟨z1,z2,z3,z4,z5,z6,z7,z8⟩:=hs
 refine zS ?_
 refine⟨fun h1=>?_,fun h1=>?_⟩
 ·have hcase:i=0∨i=1∨i=2∨i=3∨i=4:=by omega
  rcases hcase with rfl | rfl | rfl | rfl | rfl
  ·(have X1:=@zLL;have X2:=@zTT;refine zS2 ?_;clear X1 X2)
   refine (Qf7 c z1).useV ?_
   cases hb:QBP c.author
   ·have hE:chE c=30:=by rw [chE,if_pos hb]
    rw [laR,laO,hE]
    refine zS ?_
    refine fzNM 0 [] [] ?_ ?_<;>first | exact zC | refine zS ?_
    all_goals rfl
   ·refine zS ?_
    refine⟨1,⟨by decide,fun _=>by first | exact hb | trivial,by omega,by omega,by omega,by omega⟩,by show 5 - 1<5 - 0;decide,?_⟩
    (have X1:=@QLD;have X2:=@QJM;refine fzNM 0 [] [] ?_ ?_<;>first | exact zC2 | refine zS2 ?_)
    try rfl
  ·(have X1:=@zLL;have X2:=@zTT;refine zS2 ?_;clear X1 X2)
   refine (QgB c).useV ?_
   cases hb:numB c.seq
   ·have hE:chE c=42:=by rw [chE,if_neg (by rw [k1 zD];decide),if_pos hb]
    rw [laR,laO,hE]
    refine zS ?_
    refine fzNM 0 [] [] ?_ ?_<;>first | exact zC | refine zS ?_
    all_goals rfl
   ·refine zS ?_
    refine⟨2,⟨by decide,fun _=>k1 zD,fun _=>by first | exact hb | trivial,by omega,by omega,by omega⟩,by show 5 - 2<5 - 1;decide,?_⟩
    (have X1:=@QLD;have X2:=@QJM;refine fzNM 0 [] [] ?_ ?_<;>first | exact zC2 | refine zS2 ?_)
    try rfl
  ·(have X1:=@zLL;have X2:=@zTT;refine zS2 ?_;clear X1 X2)
   refine (Qf3 c).useV ?_
   cases hb:numB c.start
   ·have hE:chE c=43:=by rw [chE,if_neg (by rw [k1 zD];decide),if_neg (by rw [k2 zD];decide),if_pos hb]
    rw [laR,laO,hE]
    refine zS ?_
    refine fzNM 0 [] [] ?_ ?_<;>first | exact zC | refine zS ?_
    all_goals rfl
   ·refine zS ?_
    refine⟨3,⟨by decide,fun _=>k1 zD,fun _=>k2 zD,fun _=>by first | exact hb | trivial,by omega,by omega⟩,by show 5 - 3<5 - 2;decide,?_⟩
    (have X1:=@QLD;have X2:=@QJM;refine fzNM 0 [] [] ?_ ?_<;>first | exact zC2 | refine zS2 ?_)
    try rfl
  ·(have X1:=@zLL;have X2:=@zTT;refine zS2 ?_;clear X1 X2)
   refine (QgC c z4).useV ?_
   cases hb:depB c.deps
   ·have hE:chE c=41:=by rw [chE,if_neg (by rw [k1 zD];decide),if_neg (by rw [k2 zD];decide),if_neg (by rw [k3 zD];decide),if_pos hb]
    rw [laR,laO,hE]
    refine zS ?_
    refine fzNM 0 [] [] ?_ ?_<;>first | exact zC | refine zS ?_
    all_goals rfl
   ·refine zS ?_
    refine⟨4,⟨by decide,fun _=>k1 zD,fun _=>k2 zD,fun _=>k3 zD,fun _=>by first | exact hb | trivial,by omega⟩,by show 5 - 4<5 - 3;decide,?_⟩
    (have X1:=@QLD;have X2:=@QJM;refine fzNM 0 [] [] ?_ ?_<;>first | exact zC2 | refine zS2 ?_)
    try rfl
  ·(have X1:=@zLL;have X2:=@zTT;refine zS2 ?_;clear X1 X2)
   refine (Qf6 c z6).useV ?_
   cases hb:decide (c.note.size≤1024)
   ·have hE:chE c=5:=by rw [chE,if_neg (by rw [k1 zD];decide),if_neg (by rw [k2 zD];decide),if_neg (by rw [k3 zD];decide),if_neg (by rw [k4 zD];decide),if_pos (by simpa using hb)]
    rw [laR,laO,hE]
    refine zS ?_
    refine fzNM 0 [] [] ?_ ?_<;>first | exact zC | refine zS ?_
    all_goals rfl
   ·refine zS ?_
    refine⟨5,⟨by decide,fun _=>k1 zD,fun _=>k2 zD,fun _=>k3 zD,fun _=>k4 zD,fun _=>by simpa using hb⟩,by show 5 - 5<5 - 4;decide,?_⟩
    (have X1:=@QLD;have X2:=@QJM;refine fzNM 0 [] [] ?_ ?_<;>first | exact zC2 | refine zS2 ?_)
    try rfl
 ·obtain rfl:i=5:=by omega
  (have X1:=@ccl.eq_1;have X2:=@List.getElem?_cons_succ.{0};refine zS2 ?_;clear X1 X2)
  have hP:=Qfs c.ops z7 z8
  refine Fit.use (ids:=[]) (.inr hP) (QAE hP.1) ?_
  have q1:=k1 zD
  have q2:=k2 zD
  have q3:=k3 zD
  have q4:=k4 zD
  have q5:=k5 zD
  have hE:chE c=QAM c.ops:=by rw [chE,if_neg (by rw [q1];decide),if_neg (by rw [q2];decide),if_neg (by rw [q3];decide),if_neg (by rw [q4];decide),if_neg zo]
  by_cases he:QAM c.ops=0
  ·have hOR:QAb c.ops=QAy c.ops:=by rw [QAb,if_pos he]
   rw [laR,laO,hE,he,hOR,if_pos rfl,if_pos rfl]
   simp only [numB,decide_eq_true_eq] at q2 q3
   have w2:IntKind.u64.wrap c.seq=(c.seq.toNat:Nat):=by rw [QU zo zo];omega
   have w3:IntKind.u64.wrap c.start=(c.start.toNat:Nat):=by rw [QU zo zo];omega
   have t1:=QIN c.author zo
   have t5:=QIN c.note zo
   rw [show lebT c.author.data.toList=lebB c.author from rfl] at t1
   rw [show lebT c.note.data.toList=lebB c.note from rfl] at t5
   (have X1:=w2;have X2:=w3;have X3:=@List.getElem?_cons_succ.{0};have X4:=@List.drop_succ_cons.{0};refine zS4 ?_;clear X1 X2 X3 X4)
   refine QO.useN t1 rfl ?_
   (have X1:=w2;have X2:=w3;have X3:=@List.getElem?_cons_succ.{0};have X4:=@List.drop_succ_cons.{0};refine zS4 ?_;clear X1 X2 X3 X4)
   refine QO.useN (QCg c.seq.toNat zo) rfl ?_
   (have X1:=w2;have X2:=w3;have X3:=@List.getElem?_cons_succ.{0};have X4:=@List.drop_succ_cons.{0};refine zS4 ?_;clear X1 X2 X3 X4)
   refine QO.useN (QCg c.start.toNat zo) rfl ?_
   (have X1:=w2;have X2:=w3;have X3:=@List.getElem?_cons_succ.{0};have X4:=@List.drop_succ_cons.{0};refine zS4 ?_;clear X1 X2 X3 X4)
   refine QO.useN (QgA c.deps z4 z5) rfl ?_
   (have X1:=w2;have X2:=w3;have X3:=@List.getElem?_cons_succ.{0};have X4:=@List.drop_succ_cons.{0};refine zS4 ?_;clear X1 X2 X3 X4)
   refine QO.useN t5 rfl ?_
   (have X1:=w2;have X2:=w3;have X3:=@List.getElem?_cons_succ.{0};have X4:=@List.drop_succ_cons.{0};refine zS4 ?_;clear X1 X2 X3 X4)
   obtain⟨bs,hbs⟩:∃bs,bs=[[1],lebB c.author,lebU c.seq.toNat,lebU c.start.toNat,QCY c.deps,lebB c.note,QAy c.ops]:=⟨_,rfl⟩
   have hfl:flat QBs bs=[.seq 1 1 [.v (.int .u8 1)],.seq (lebB c.author).length 1 (flat QC (lebB c.author)),.seq (lebU c.seq.toNat).length 1 (flat QC (lebU c.seq.toNat)),.seq (lebU c.start.toNat).length 1 (flat QC (lebU c.start.toNat)),.seq (QCY c.deps).length 1 (flat QC (QCY c.deps)),.seq (lebB c.note).length 1 (flat QC (lebB c.note)),.seq (QAy c.ops).length 1 (flat QC (QAy c.ops))]:=by rw [hbs];rfl
   have hCB:chB c=bs.flatten:=by rw [hbs,chB]
   have hbl:bs.length=7:=by rw [hbs];rfl
   have y1:=QBc (s:=c.author) zo
   have y2:=QAA (show c.seq.toNat<18446744073709551616 by omega)
   have y3:=QAA (show c.start.toNat<18446744073709551616 by omega)
   have y4:=QBc (s:=c.note) zo
   have y5:=QAA (show c.deps.length<18446744073709551616 by omega)
   have y6:=QE0 c.deps
   have y7:=QHf c.ops he z8
   have y8:(QCY c.deps).length=(lebU c.deps.length).length+(c.deps.flatMap hB).length:=by rw [QCY,List.length_append]
   have hC:=QO6 bs zo (by rw [hbs];simp only [List.flatten_cons,List.flatten_nil,List.length_append,List.length_nil,List.length_cons];omega)
   rw [hbl,hfl] at hC
   rw [hCB]
   refine QO.useO (ids:=[242,223]) hC ?_ rfl rfl ?_ ?_
   ·exact zCN
   ·exact zC
   refine zS ?_
   exact fzN 0 [(0,243)] []
  ·rw [laR,laO,hE,if_neg he,if_neg he]
   refine zS ?_
   iterate 14 all_goals (try (refine And.intro (fun _=>?_) (fun _=>?_)<;>try first | exact zC | refine zS ?_))
   all_goals first
    | (exfalso;omega)
    | ((refine fzNM 0 [] [] ?_ ?_<;>first | exact zC | refine zS ?_);done)
    | ((refine fzNM 0 [] [] ?_ ?_<;>first | exact zC | refine zS ?_);rfl)
theorem Qf1 (c:ChV) (hs:QES c):PNew Tryz.prog [] 30 [.agg (ccl c)] (.tup [.seq (chR c).length 1 (flat QC (chR c)),.v (.int .i64 (chE2 c))]):=by
 refine PNew.startW Tryz.func30 rfl (by kernel_rfl) rfl Tryz.ntmps30 fol (by kernel_rfl) (by simp [idfL,idf,QZ QS,QS,Qg,Qy,QJM,Qg]) (by simp [idfL,idf,QZ QS,QS,Qg,Qy,QJM,Qg]) ?_
 refine zz ?_
 (have X1:=@ccl.eq_1;refine zS1 ?_;clear X1)
 have hlm:=lay_m c hs
 rw [ccl] at hlm
 by_cases he:chE c=0
 ·rw [laR,laO,if_pos he,if_pos he] at hlm
  refine QM.useX [] hlm rfl zC zC ?_
  refine zS ?_
  by_cases hl:65536<(chB c).length
  ·have h2:chE2 c=5:=by rw [chE2,if_neg (fun h=>h he),if_pos hl]
   have h3:chR c=[]:=by rw [chR,h2];rfl
   rw [h2,h3]
   iterate 14 all_goals (try (refine And.intro (fun _=>?_) (fun _=>?_)<;>try first | exact zC | refine zS ?_))
   all_goals first
    | (exfalso;omega)
    | rfl
  ·have h2:chE2 c=0:=by rw [chE2,if_neg (fun h=>h he),if_neg hl]
   have h3:chR c=chB c:=by rw [chR,if_pos h2]
   rw [h2,h3]
   iterate 14 all_goals (try (refine And.intro (fun _=>?_) (fun _=>?_)<;>try first | exact zC | refine zS ?_))
   all_goals first
    | (exfalso;omega)
    | rfl
 ·rw [laR,laO,if_neg he,if_neg he] at hlm
  have h2:chE2 c=chE c:=by rw [chE2,if_pos he]
  have h3:chR c=[]:=by rw [chR,h2,if_neg he]
  refine QM.useX [] hlm rfl zC zC ?_
  rw [h2,h3]
  refine zS ?_
  iterate 14 all_goals (try (refine And.intro (fun _=>?_) (fun _=>?_)<;>try first | exact zC | refine zS ?_))
  all_goals first
   | (exfalso;omega)
   | rfl
open Proofs
open Proofs
theorem QfO {l:List MadeV} {i:Nat} (hi:i<l.length):fitM (l.take (i+1))=fitM (l.take i)++[{ l[i] with bad:=0 }]:=by
 rw [List.take_succ_eq_append_getElem hi,fitM,List.map_append];rfl
def fitB (l:List MadeV):List (List UInt8):=(bldF (fitM l)).2.L.map (·.b)
theorem Qex {l:List MadeV} {m:MadeV}:flat mdc l++mdc m=flat mdc (l++[m]):=by simp [flat]
theorem QfE {l:List (List UInt8)} {b:List UInt8}:flat bc l++[.seq b.length 1 (flat QC b)]=flat bc (l++[b]):=by rw [Q7];rfl
theorem mdf_all {l:List MadeV} {n:Nat} (h:l.length≤n):(flat mdc l).take (n*5)=flat mdc l:=List.take_of_length_le (by rw [QP6];omega)
theorem QfY (l:List MadeV) (hl:l.length≤65536) (hm:∀m∈l,mdOK m):QE Tryz.prog [] 26 [.seq l.length 5 (flat mdc l)] (.seq (fitB l).length 1 (flat bc (fitB l))):=by
 refine QE.startW Tryz.func26 rfl zK rfl Tryz.ntmps26 fol zK (by simp [idfL,idf,QZ QS,QS,Qg,Qy,QJY,Qb4]) (by simp [idfL,idf,QZ QS,QS,Qg,Qy,QJY,Qb4]) ?_
 refine zZ ?_
 refine QD (ι:=Nat×List MadeV) (fun q=>⟨[(0,.seq l.length 5 (flat mdc l)),(3,.sl 0 0 q.2.length 5),(4,.v (.int .i64 q.1))],⟨[(0,.cells 115 (flat mdc q.2) true)],1,1,0⟩⟩) (fun q=>q.1≤l.length∧q.2=fitM (l.take q.1)) (fun q=>l.length - q.1) (0,[]) ⟨Nat.zero_le _,rfl⟩ ?_ ?_
 ·(have X1:=@QOx;exact fzN1 0 [] [])
 rintro⟨i,acc⟩ ⟨hi,hacc⟩
 dsimp only at hi hacc ⊢
 have hal:acc.length=i:=by rw [hacc,fitM,List.length_map,List.length_take];omega
 refine zS ?_
 refine⟨fun a1=>?_,fun a1=>?_⟩
 ·have hi1:i<l.length:=by omega
  have hnx:=QfO hi1
  rw [←hacc] at hnx
  (have X1:=@mdc.eq_1;refine zS1 ?_;clear X1)
  have hfm:flat mdc (acc++[{ l[i] with bad:=0 }])=flat mdc acc++mdc { l[i] with bad:=0 }:=Qex.symm
  refine⟨(i+1,acc++[{ l[i] with bad:=0 }]),⟨hi1,hnx.symm⟩,zO,?_⟩
  simp only [hfm]
  (have X1:=@List.length_append.{0};have X2:=@List.length_cons.{0};have X3:=@List.length_nil.{0};refine fzNM 0 [(0,166)] [] ?_ ?_<;>first | exact zC3 | refine zS3 ?_)
  all_goals first | rfl | trace_state
 have hii:i=l.length:=by omega
 rw [hii,List.take_length] at hacc
 have hG:GrOK (bldF acc).2:=(QM0 acc).1
 have hB:=QUM acc zo (fun m hm2=>by
  rw [hacc,fitM,List.mem_map] at hm2
  obtain⟨m',hm',rfl⟩:=hm2
  exact hm m' hm')
 refine zS ?_
 refine Qr.letgo (a:=[]) (c:=[]) (y:=.seq acc.length 5 (flat mdc acc)) (ids:=[0]) (u:=[(0,.dead)]) (by have X1:=@mdf_all;exact zCN1) rfl ?_
 refine hB.useV ?_
 rw [fitB,←hacc]
 generalize (bldF acc).2=G at*
 generalize (bldF acc).1=out0 at*
 have hn:=hG.lenL
 (have X1:=@grA.eq_1;refine zS1 ?_;clear X1)
 refine QD (ι:=Nat) (fun i=>⟨[(7,.ptr 0 0),(8,.sl 1 0 i 1),(9,.v (.int .i64 i))],⟨[(0,.cells 29 [.seq G.L.length 39 (flat itc G.L),.seq G.W.length 39 (flat itc G.W)] false),(1,.cells 23 (flat bc ((G.L.take i).map (·.b))) true)],2,2,0⟩⟩) (fun i=>i≤G.L.length) (fun i=>G.L.length - i) 0 (Nat.zero_le _) ?_ ?_
 ·(have X1:=@QOx;have X2:=@List.take_zero.{0};have X3:=@List.map_nil.{0,0};refine fzNM 0 [(0,55)] [] ?_ ?_<;>first | exact zC3 | refine zS3 ?_)
 intro k hk
 refine zS ?_
 refine⟨fun b1=>?_,fun b1=>?_⟩
 ·have hk1:k<G.L.length:=by omega
  (have X1:=@itc_b38;refine zS1 ?_;clear X1)
  have hnx:(G.L.take (k+1)).map (·.b)=(G.L.take k).map (·.b)++[G.L[k].b]:=by rw [List.take_succ_eq_append_getElem hk1,List.map_append];rfl
  have hfb:flat bc ((G.L.take k).map (·.b)++[G.L[k].b])=flat bc ((G.L.take k).map (·.b))++[.seq G.L[k].b.length 1 (flat QC G.L[k].b)]:=QfE.symm
  refine⟨k+1,hk1,zO,?_⟩
  simp only [hnx,hfb]
  refine fzNM 0 [(0,0),(1,94)] [] ?_ ?_<;>first | exact zC | refine zS ?_
 have hkk:k=G.L.length:=by omega
 subst hkk
 rw [List.take_length]
 first | exact zC | refine zS ?_
open Proofs
theorem Qeq {h:Hs}:QGI (.agg (hcell h))=true:=by
 rw [QGI,List.all_eq_true]
 intro x hx
 obtain⟨n,-, rfl⟩:=List.mem_map.1 hx
 rfl
theorem QgV (l:List MadeV) (hl:l.length≤1048576) (hm:∀m∈l,mdOK m) (ps:List UInt8) (hp:ps.length≤1048576) (by_:UInt8):QE Tryz.prog gK 4 [.seq l.length 5 (flat mdc l),.seq ps.length 1 (flat QC ps),.v (.int .u8 (by_.toNat:Nat))] (.v (.bool true)):=by
 refine QE.start Tryz.func4 rfl (by kernel_rfl) rfl Tryz.ntmps4 fol (by kernel_rfl) (by simp [idfL,idf,QZ QS,QS,Qg,Qy,QJY,Qg]) (by simp [idfL,idf,QZ QS,QS,Qg,Qy,QJY,Qg]) ?_
 refine zZ ?_
 refine ((Qfk l hl (fun m h=>(hm m h).2.2.1) (fun m h o k=>((hm m h).2.2.2 o k).2.1)).gam).useV ?_
 cases hf:fewF l
 ·refine zS ?_
  refine QGT.useV ?_
  exact zC
 have hl30:=QdR hf
 refine zS ?_
 have hF:=(QfY l zo hm).gam (γ:=gK)
 obtain⟨L,hL,hC⟩:=bld_ch hm
 have hLn:L.length≤30:=by
  have:=QgZ (fitM l)
  rw [hL,Qfz] at this
  exact Nat.le_trans this hl30
 have hfe:fitB l=L.map (·.b):=by rw [fitB,hL]
 have hG:GrOK ⟨L,[]⟩:=hC.ok
 rw [hfe] at hF
 have hM:=Qfn (L.map (·.b)) (by rw [List.length_map];omega) (fun b hb=>by
  obtain⟨x,hx,rfl⟩:=List.mem_map.1 hb
  exact (hG.bL hx).len)
 rw [hC.fil] at hM
 simp only [gO] at hM
 refine hF.useV ?_
 refine zS ?_
 refine QM.useX [] hM rfl zC zC ?_
 refine zS ?_
 have hB:=(QUM l zo hm).gam (γ:=gK)
 have hR:=(QM0 l).1
 refine hB.useV ?_
 generalize (bldF l).2=R at*
 generalize (bldF l).1=all at*
 (have X1:=@grA.eq_1;refine zS1 ?_;clear X1)
 have hpk:=(QOd R hR ps hp).gam (γ:=gK)
 have hhl:=QLP (L:=R.L) (ps:=ps)
 generalize QKx R.L ps=hs at*
 simp only [grA] at hpk
 refine hpk.useV ?_
 refine zS ?_
 refine QD (ι:=Nat×List Hs) (fun q=>⟨[(2,.v (.int .u8 (by_.toNat:Nat))),(7,.ptr 0 0),(10,.sl 4 0 q.2.length 32),(11,.seq hs.length 32 (flat hcell hs)),(12,.v (.int .i64 q.1))],⟨gO ⟨L,[]⟩++[(4,.cells 47 (flat hcell q.2) true)],5,5,0⟩⟩) (fun q=>q.1≤hs.length∧q.2=(hs.take q.1).filter (hasL L)) (fun q=>hs.length - q.1) (0,[]) ⟨Nat.zero_le _,rfl⟩ ?_ ?_
 ·simp only [gO,List.cons_append,List.nil_append]
  (have X1:=@QOx;refine fzNM 0 [(0,606),(1,607),(2,608),(3,609)] [0] ?_ ?_<;>first | exact zC1 | refine zS1 ?_)
 rintro⟨i,on⟩ ⟨hi,hon⟩
 dsimp only at hi hon ⊢
 have honl:on.length≤10:=by
  rw [hon]
  refine Nat.le_trans (List.length_filter_le _ _) ?_
  rw [List.length_take];omega
 simp only [gO,List.cons_append,List.nil_append]
 refine zS ?_
 refine⟨fun a1=>?_,fun a1=>?_⟩
 ·have hi1:i<hs.length:=by omega
  have hH:=(QcP ⟨L,[]⟩ hs[i]).gam (γ:=gK)
  rw [QBf] at hH
  refine zS ?_
  refine hH.use (ids:=[0,1,2,3]) zCN (.inl rfl) ?_
  have hnx:(hs.take (i+1)).filter (hasL L)=on++if hasL L hs[i]=true then [hs[i]] else []:=by
   rw [List.take_succ_eq_append_getElem hi1,List.filter_append,←hon,List.filter_cons,List.filter_nil]
  cases hb:hasL L hs[i]
  ·rw [hb,if_neg zD,List.append_nil] at hnx
   refine zS ?_
   refine⟨(i+1,on),⟨hi1,hnx.symm⟩,zO,?_⟩
   simp only [gO,List.cons_append,List.nil_append]
   refine fzNM 0 [(0,0),(1,1),(2,2),(3,3),(4,4)] [0] ?_ ?_<;>first | exact zC | refine zS ?_
  ·rw [hb,if_pos rfl] at hnx
   (have X1:=@QQd;refine zS1 ?_;clear X1)
   refine⟨(i+1,on++[hs[i]]),⟨hi1,hnx.symm⟩,zO,?_⟩
   simp only [gO,List.cons_append,List.nil_append]
   (have X1:=@List.length_append.{0};have X2:=@List.length_cons.{0};have X3:=@List.length_nil.{0};refine fzNM 0 [(0,0),(1,1),(2,2),(3,3),(4,478)] [0] ?_ ?_<;>first | exact zC3 | refine zS3 ?_)
 have hii:i=hs.length:=by omega
 rw [hii,List.take_length] at hon
 have hA:allL L on=true:=Q2.2 fun k hk=>by
  rw [hon] at hk
  have:=(List.mem_filter.1 hk).2
  exact of_decide_eq_true this
 clear hon hii
 obtain⟨D,hD⟩:∃D,D=redF L on:=⟨_,rfl⟩
 have hDl:D.length≤10:=by rw [hD,redF];exact Nat.le_trans (Nat.le_trans (QAp _) (List.length_filter_le _ _)) honl
 have hDa:allL L D=true:=by rw [hD];exact QVf hA
 have hRd:=(QOm ⟨L,[]⟩ hG.ord hG.lenL hG.dL on zo).gam (γ:=gK)
 rw [show reqF L on=D from (if_pos hA).trans hD.symm,show knoE L on=0 from if_pos hA,QBf] at hRd
 have hNx:=(QfR ⟨L,[]⟩ hG zedB zD D zo).gam (γ:=gK)
 rw [znext hDa,QBf] at hNx
 have hDk:∀k∈D,hok k:=fun k hk=>QTU hG (Q2.1 hDa k hk)
 have hDr:Rise D:=by rw [hD];exact QKA _ _
 obtain⟨z1,z2,z3,z4⟩:=zq_le hC D
 have hn8:by_.toNat<256:=by_.toNat_lt
 have hadd:∀{q' s':Int},chE2 (zch q' s' D)=0→shaH (chB (zch q' s' D))∉QF L→addF ⟨L,[]⟩ (chB (zch q' s' D))=if q'≠zq L D then (⟨L,[]⟩,QBl,42) else if s'≠zs L D then (⟨L,[]⟩,QBl,43) else (⟨L++[⟨shaH (chB (zch q' s' D)),zch q' s' D,chB (zch q' s' D)⟩],[]⟩,shaH (chB (zch q' s' D)),0):=fun hE hn=>by
  rw [hD] at hE hn ⊢
  exact zadd hC zo hA hE hn
 have hmore:=fun {X:Itm}=>zmore (L:=L) (D:=D) (X:=X) hG.ord
 obtain⟨q,hq⟩:∃q,q=zq L D:=⟨_,rfl⟩
 obtain⟨s,hs'⟩:∃s,s=zs L D:=⟨_,rfl⟩
 rw [←hq] at z1 z2 hNx
 rw [←hs'] at z3 z4 hNx
 obtain⟨n,hn⟩:∃n:Int,n=(by_.toNat:Nat):=⟨_,rfl⟩
 rw [←hn]
 have w1:IntKind.i64.wrap n=n:=QAN zo zo
 have w2:IntKind.i64.wrap (q+n)=q+n:=QAN zo zo
 have w3:IntKind.i64.wrap (s+n)=s+n:=QAN zo zo
 have E0:chE2 (zch q s D)=0:=QgE zo zo zo zo zo hDr
 have E1:chE2 (zch (q+n) s D)=0:=QgE zo zo zo zo zo hDr
 have E2:chE2 (zch q (s+n) D)=0:=QgE zo zo zo zo zo hDr
 have S0:=Qei (q:=q) (s:=s) (D:=D) zo zo zo zo zo hDk
 have S1:=Qei (q:=q+n) (s:=s) (D:=D) zo zo zo zo zo hDk
 have S2:=Qei (q:=q) (s:=s+n) (D:=D) zo zo zo zo zo hDk
 have zP:∀(q s:Int),chE2 (zch q s D)=0→QES (zch q s D)→PNew Tryz.prog gK 30 [.agg [.v (.string ⟨#[122,101,100]⟩),.v (.int .i64 q),.v (.int .i64 s),.seq D.length 32 (flat hcell D),.v (.string ByteArray.empty),.seq 1 5 [.v (.int .i64 4),.v (.string ⟨#[116]⟩),.v (.int .i64 0),.v (.int .i64 0),.v (.string ⟨#[97,98,99]⟩)]]] (.tup [.seq (chB (zch q s D)).length 1 (flat QC (chB (zch q s D))),.v (.int .i64 0)]):=fun q s hE hS=>by
  have h:=(Qf1 (zch q s D) hS).gam (γ:=gK)
  rw [chR,if_pos hE,hE] at h
  exact h
 have zH:∀(q s:Int),chE2 (zch q s D)=0→QES (zch q s D)→QE Tryz.prog gK 31 [.agg [.v (.string ⟨#[122,101,100]⟩),.v (.int .i64 q),.v (.int .i64 s),.seq D.length 32 (flat hcell D),.v (.string ByteArray.empty),.seq 1 5 [.v (.int .i64 4),.v (.string ⟨#[116]⟩),.v (.int .i64 0),.v (.int .i64 0),.v (.string ⟨#[97,98,99]⟩)]]] (.agg (hcell (shaH (chB (zch q s D))))):=fun q s hE hS=>by
  have h:=QgI (zch q s D) hS
  rw [chH,if_pos hE] at h
  exact h
 have P0:=zP _ _ E0 S0
 have P1:=zP _ _ E1 S1
 have P2:=zP _ _ E2 S2
 have H0:=zH _ _ E0 S0
 have H1:=zH _ _ E1 S1
 have H2:=zH _ _ E2 S2
 have A0:=fun k=>hadd (q':=q) (s':=s) E0 k
 have A1:=fun k=>hadd (q':=q+n) (s':=s) E1 k
 have A2:=fun k=>hadd (q':=q) (s':=s+n) E2 k
 have l0:=QWo E0
 have l1:=QWo E1
 have l2:=QWo E2
 obtain⟨X,hX⟩:∃X:Itm,X=⟨shaH (chB (zch q s D)),zch q s D,chB (zch q s D)⟩:=⟨_,rfl⟩
 have hXc:X.c=zch (zq L D) (zs L D) D:=by rw [hX,←hq,←hs']
 have hXh:X.h=shaH (chB (zch q s D)):=by rw [hX]
 have hXd:∀d∈X.c.deps,d∈QF L:=by rw [hXc];exact Q2.1 hDa
 rw [←hX] at A0
 rw [←hq,←hs'] at A0 A1 A2
 rw [←hXh] at A0 H0
 clear zP zH hadd hX E0 E1 E2 S0 S1 S2
 generalize chB (zch q s D)=b0 at*
 generalize chB (zch (q+n) s D)=b1 at*
 generalize chB (zch q (s+n) D)=b2 at*
 generalize hk1:shaH b1=k1 at*
 generalize hk2:shaH b2=k2 at*
 refine zS ?_
 refine PNew.use (ids:=[0,1,2,3,4]) hRd (by have X1:=@QLW;exact zCN1) ?_
 (have X1:=@List.getElem?_cons_succ.{0};refine zS1 ?_;clear X1)
 refine hNx.use (ids:=[0,1,2,3]) (by have X1:=@zedB.eq_1;exact zCN1) (.inl rfl) ?_
 (have X1:=@List.getElem?_cons_succ.{0};have X2:=w1;have X3:=w2;have X4:=w3;refine zS4 ?_;clear X1 X2 X3 X4)
 refine PNew.use (ids:=[906]) P0 zCN ?_
 (have X1:=@List.getElem?_cons_succ.{0};refine zS1 ?_;clear X1)
 refine PNew.use (ids:=[906]) P1 zCN ?_
 (have X1:=@List.getElem?_cons_succ.{0};refine zS1 ?_;clear X1)
 refine PNew.use (ids:=[906]) P2 zCN ?_
 (have X1:=@List.getElem?_cons_succ.{0};refine zS1 ?_;clear X1)
 refine H0.use (ids:=[906]) zCN (.inl Qeq) ?_
 refine zS ?_
 have hh:=fun k=>(QcP ⟨L,[]⟩ k).gam (γ:=gK)
 simp only [QBf] at hh
 refine (hh X.h).use (ids:=[0,1,2,3]) zCN (.inl rfl) ?_
 cases c0:hasL L X.h
 case true=>
  refine zS ?_
  refine QGT.useV ?_
  exact zC
 refine zS ?_
 refine H1.use (ids:=[906]) zCN (.inl Qeq) ?_
 refine zS ?_
 refine (hh k1).use (ids:=[0,1,2,3]) zCN (.inl rfl) ?_
 cases c1:hasL L k1
 case true=>
  refine zS ?_
  refine QGT.useV ?_
  exact zC
 refine zS ?_
 refine H2.use (ids:=[906]) zCN (.inl Qeq) ?_
 refine zS ?_
 refine (hh k2).use (ids:=[0,1,2,3]) zCN (.inl rfl) ?_
 cases c2:hasL L k2
 case true=>
  refine zS ?_
  refine QGT.useV ?_
  exact zC
 have n0:X.h∉QF L:=fun h=>by rw [hasL,decide_eq_true h] at c0;cases c0
 have n1:k1∉QF L:=fun h=>by rw [hasL,decide_eq_true h] at c1;cases c1
 have n2:k2∉QF L:=fun h=>by rw [hasL,decide_eq_true h] at c2;cases c2
 have A0:=A0 n0
 have A1:=A1 n1
 have A2:=A2 n2
 rw [if_neg (fun h=>h rfl),if_neg (fun h=>h rfl)] at A0
 have M0:=QXx ⟨L,[]⟩ hG b0 zo
 have M1:=QXx ⟨L,[]⟩ hG b1 zo
 have M2:=QXx ⟨L,[]⟩ hG b2 zo
 have e0:(((addF ⟨L,[]⟩ b0).2.2:Nat):Int)=0:=by rw [A0];rfl
 have g0:(addF ⟨L,[]⟩ b0).2.1=X.h:=by rw [A0]
 have G0:(addF ⟨L,[]⟩ b0).1=⟨L++[X],[]⟩:=by rw [A0]
 have hG1:GrOK ⟨L++[X],[]⟩:=by rw [←G0];exact QJO hG b0
 rw [e0,g0,G0] at M0
 have hN1:=(QfR ⟨L++[X],[]⟩ hG1 zedB zD [X.h] (by simp)).gam (γ:=gK)
 rw [show QAG (L++[X]) zedB [X.h]=(q+1,s+3,0) from by rw [hq,hs'];exact hmore n0 hDa (by rw [hXc]),QBf] at hN1
 have hHe:=(Qcx ⟨L++[X],[]⟩ hG1).gam (γ:=gK)
 rw [QBf] at hHe
 have hHl:(heaF (L++[X])).length≤4096:=Qev hG1
 have hHm:X.h∈heaF (L++[X]):=Qf0 hG.ord n0 hXd
 have hHs:=(Has_c (heaF (L++[X])) zo X.h).gam (γ:=gK)
 rw [decide_eq_true hHm] at hHs
 simp only [gO] at M0 M1 M2
 have w4:IntKind.i64.wrap (q+1)=q+1:=QAN zo zo
 have w5:IntKind.i64.wrap (s+3)=s+3:=QAN zo zo
 refine zS ?_
 refine⟨fun d1=>?_,fun d1=>?_⟩
 ·have hnp:n≠0:=by omega
  rw [if_pos zo] at A1
  rw [if_neg (fun h=>h rfl),if_pos zo] at A2
  have e1:(((addF ⟨L,[]⟩ b1).2.2:Nat):Int)=42:=by rw [A1];rfl
  have e2:(((addF ⟨L,[]⟩ b2).2.2:Nat):Int)=43:=by rw [A2];rfl
  have g1:(addF ⟨L,[]⟩ b1).2.1=QBl:=by rw [A1]
  have g2:(addF ⟨L,[]⟩ b2).2.1=QBl:=by rw [A2]
  have G1:(addF ⟨L,[]⟩ b1).1=⟨L,[]⟩:=by rw [A1]
  have G2:(addF ⟨L,[]⟩ b2).1=⟨L,[]⟩:=by rw [A2]
  rw [e1,g1,G1] at M1
  rw [e2,g2,G2] at M2
  refine zS ?_
  refine QM.useX [0,1,2,3] M1 rfl zC zC ?_
  (have X1:=@List.getElem?_cons_succ.{0};refine zS1 ?_;clear X1)
  refine QM.useX [0,1,2,3] M2 rfl zC zC ?_
  (have X1:=@List.getElem?_cons_succ.{0};refine zS1 ?_;clear X1)
  refine QM.useX [0,1,2,3] M0 rfl zC zC ?_
  (have X1:=@List.getElem?_cons_succ.{0};refine zS1 ?_;clear X1)
  refine hN1.use (ids:=[0,1,2,3,3811]) (by have X1:=@zedB.eq_1;have X2:=@flat.eq_1;exact zCN2) (.inl rfl) ?_
  (have X1:=@List.getElem?_cons_succ.{0};have X2:=w4;have X3:=w5;refine zS3 ?_;clear X1 X2 X3)
  refine QO.useNS (ids:=[0,1,2,3]) hHe zCN rfl rfl ?_
  (have X1:=w4;have X2:=w5;refine zS2 ?_;clear X1 X2)
  refine QO.useV hHs rfl ?_
  (have X1:=w4;have X2:=w5;refine zS2 ?_;clear X1 X2)
  refine QO.useV QGT rfl ?_
  (have X1:=w4;have X2:=w5;exact zC2)
 ·refine zS ?_
  refine QM.useX [0,1,2,3] M0 rfl zC zC ?_
  (have X1:=@List.getElem?_cons_succ.{0};refine zS1 ?_;clear X1)
  refine hN1.use (ids:=[0,1,2,3,3205]) (by have X1:=@zedB.eq_1;have X2:=@flat.eq_1;exact zCN2) (.inl rfl) ?_
  (have X1:=@List.getElem?_cons_succ.{0};have X2:=w4;have X3:=w5;refine zS3 ?_;clear X1 X2 X3)
  refine QO.useNS (ids:=[0,1,2,3]) hHe zCN rfl rfl ?_
  (have X1:=w4;have X2:=w5;refine zS2 ?_;clear X1 X2)
  refine QO.useV hHs rfl ?_
  (have X1:=w4;have X2:=w5;refine zS2 ?_;clear X1 X2)
  refine QO.useV QGT rfl ?_
  (have X1:=w4;have X2:=w5;exact zC2)
end Go.AW
