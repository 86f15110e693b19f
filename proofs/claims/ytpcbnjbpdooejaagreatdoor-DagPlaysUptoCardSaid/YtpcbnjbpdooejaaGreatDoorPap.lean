/- A part of the proof: D37 D38. -/
import Derived.Test.YtpcbnjbpdooejaaGreatDoorPae
import Derived.Test.YtpcbnjbpdooejaaGreatDoorPao
import Derived.Test.YtpcbnjbpdooejaaGreatDoorPah
set_option linter.unusedSimpArgs false
set_option linter.unusedVariables false
set_option maxRecDepth 100000
set_option maxHeartbeats 8000000
namespace Go.AW
open Proofs
structure ChV where
 author:ByteArray
 seq:Int
 start:Int
 deps:List Hs
 note:ByteArray
 ops:List OpV
 deriving DecidableEq
def ccl (c:ChV):List AV:=[.v (.string c.author),.v (.int .i64 c.seq),.v (.int .i64 c.start),.seq c.deps.length 32 (flat hcell c.deps),.v (.string c.note),.seq c.ops.length 5 (flat QX c.ops)]
theorem QJM (c:ChV):idfL (ccl c)=true:=by simp [ccl,idfL,idf,QZ QS,QFB]
attribute [push_cast] QJM
def QAa (l:List OpV):Int:=l.foldl (fun n o=>n+QDx o) 0
theorem QNd {fn:Fn} {f c:List AV}:QR (.clo fn f c)=some [.clo fn f c]:=(rfl)
attribute [push_cast] QNd
theorem QGf {o:OpV} (h:o.text.size≤1048576):0≤QDx o∧QDx o≤1048576:=by
 rw [QDx];split<;>omega
theorem QGu {l:List OpV} {o:OpV}:QAa (l++[o])=QAa l+QDx o:=by simp [QAa]
theorem QFN (l:List OpV) (h:∀o∈l,o.text.size≤1048576):0≤QAa l∧QAa l≤1048576*l.length:=by
 have key:∀(l:List OpV) (n:Int),(∀o∈l,o.text.size≤1048576)→n≤l.foldl (fun n o=>n+QDx o) n∧l.foldl (fun n o=>n+QDx o) n≤n+1048576*l.length:=by
  intro l
  induction l with
  | nil=>intro n _;simp
  | cons o l ih=>
   intro n h
   have h1:=ih (n+QDx o) fun p hp=>h p (by simp [hp])
   have h2:=QGf (h o (by simp))
   simp only [List.foldl_cons,List.length_cons]
   omega
 have:=key l 0 h
 rw [QAa];omega
theorem QIJ (n:Int):QE Tryz.prog [] 142 [.v (.int .i64 n)] (.v (.bool (decide (1≤n∧n≤1099511627776)))):=by
 refine QE.start Tryz.func142 rfl zK rfl Tryz.ntmps142 fol zK zI zI ?_
 refine zZ ?_
 iterate 14 all_goals (try (refine And.intro (fun _=>?_) (fun _=>?_)<;>try first | exact zC | refine zS ?_))
 all_goals first
  | (rw [decide_eq_false zo];done)
  | (
    by_cases h:n≤1099511627776
    ·rw [decide_eq_true h,decide_eq_true zo]
    ·rw [decide_eq_false h,decide_eq_false zo])
theorem QVn (c:ChV) (hl:c.ops.length≤1048576) (hs:∀o∈c.ops,o.text.size≤1048576):QE Tryz.prog [] 78 [.agg (ccl c)] (.v (.int .i64 (QAa c.ops))):=by
 refine QE.start Tryz.func78 rfl zK rfl Tryz.ntmps78 fol zK (by simp [idfL,idf,QZ QS,QS,Qg,Qy,QJM]) (by simp [idfL,idf,QZ QS,QS,Qg,Qy,QJM]) ?_
 refine zz ?_
 (have X1:=@ccl.eq_1;refine zS1 ?_;clear X1)
 refine QD (ι:=Nat) (fun i=>⟨[(3,.v (.int .i64 (QAa (c.ops.take i)))),(7,.seq c.ops.length 5 (flat QX c.ops)),(8,.v (.int .i64 c.ops.length)),(9,.v (.int .i64 i))],⟨[],0,0,0⟩⟩) (fun i=>i≤c.ops.length) (fun i=>c.ops.length - i) 0 (Nat.zero_le _) ?_ ?_
 ·(have X1:=@List.take_zero.{0};have X2:=@QAa.eq_1;have X3:=@List.foldl_nil.{0,0};have X4:=@ccl.eq_1;refine fzNM 0 [] [] ?_ ?_<;>first | exact zC4 | refine zS4 ?_)
  try rfl
 rintro i hi
 have hr:=QFN (c.ops.take i) fun o ho=>hs o (List.take_subset i _ ho)
 rw [List.length_take] at hr
 refine zS ?_
 refine⟨fun h1=>?_,fun h1=>?_⟩
 ·have hi1:i<c.ops.length:=by omega
  have hsz:=QGf (hs _ (List.getElem_mem hi1))
  (have X1:=@ccl.eq_1;refine zS1 ?_;clear X1)
  refine (Size_c c.ops[i]).useV ?_
  refine zS ?_
  refine⟨i+1,hi1,zO,?_⟩
  have hss:QAa (c.ops.take (i+1))=QAa (c.ops.take i)+QDx c.ops[i]:=by rw [List.take_succ_eq_append_getElem hi1,QGu]
  simp only [hss]
  (have X1:=@ccl.eq_1;exact fzN1 0 [] [])
 ·first | exact zC | refine zS ?_
  try rfl
theorem QUs (c:ChV) (hl:c.ops.length≤1048576) (hs:∀o∈c.ops,o.text.size≤1048576):QE Tryz.prog [] 104 [.agg (ccl c)] (.v (.int .i64 (QAa c.ops))):=by
 refine QE.start Tryz.func104 rfl zK rfl Tryz.ntmps104 fol zK (by simp [idfL,idf,QZ QS,QS,Qg,Qy,QJM]) (by simp [idfL,idf,QZ QS,QS,Qg,Qy,QJM]) ?_
 refine zz ?_
 (have X1:=@ccl.eq_1;refine zS1 ?_;clear X1)
 refine QD (ι:=Nat) (fun i=>⟨[(1,.rop (ccl c)),(3,.v (.int .i64 (QAa (c.ops.take i)))),(4,.v (.int .i64 i))],⟨[],0,0,0⟩⟩) (fun i=>i≤c.ops.length) (fun i=>c.ops.length - i) 0 (Nat.zero_le _) ?_ ?_
 ·(have X1:=@List.take_zero.{0};have X2:=@QAa.eq_1;have X3:=@List.foldl_nil.{0,0};have X4:=@ccl.eq_1;refine fzNM 0 [] [] ?_ ?_<;>first | exact zC4 | refine zS4 ?_)
  try rfl
 rintro i hi
 have hr:=QFN (c.ops.take i) fun o ho=>hs o (List.take_subset i _ ho)
 rw [List.length_take] at hr
 (have X1:=@ccl.eq_1;refine zS1 ?_;clear X1)
 refine⟨fun h1=>?_,fun h1=>?_⟩
 ·have hi1:i<c.ops.length:=by omega
  have hsz:=QGf (hs _ (List.getElem_mem hi1))
  (have X1:=@ccl.eq_1;have X2:=@List.getElem?_cons_succ.{0};refine zS2 ?_;clear X1 X2)
  refine (QbW c.ops[i]).useV ?_
  refine zS ?_
  refine⟨i+1,hi1,zO,?_⟩
  have hss:QAa (c.ops.take (i+1))=QAa (c.ops.take i)+QDx c.ops[i]:=by rw [List.take_succ_eq_append_getElem hi1,QGu]
  simp only [hss]
  (have X1:=@ccl.eq_1;exact fzN1 0 [] [])
 ·first | exact zC | refine zS ?_
  try rfl
def numB (n:Int):Bool:=decide (1≤n∧n≤1099511627776)
def depB (l:List Hs):Bool:=decide (l.length≤16)&&QDw l
def chE (c:ChV):Nat:=if QBP c.author=false then 30 else if numB c.seq=false then 42 else if numB c.start=false then 43 else if depB c.deps=false then 41 else if 1024<c.note.size then 5 else QAM c.ops
def chB (c:ChV):List UInt8:=[[1],lebB c.author,lebU c.seq.toNat,lebU c.start.toNat,QCY c.deps,lebB c.note,QAy c.ops].flatten
def chR1 (c:ChV):List UInt8:=if chE c=0 then chB c else []
def chE2 (c:ChV):Nat:=if chE c≠0 then chE c else if 65536<(chB c).length then 5 else 0
def chR (c:ChV):List UInt8:=if chE2 c=0 then chB c else []
def QES (c:ChV):Prop:=c.author.size≤1048576∧I64 c.seq∧I64 c.start∧c.deps.length≤1048576∧(∀h∈c.deps,hok h)∧c.note.size≤1048576∧c.ops.length≤1048576∧∀o∈c.ops,QCP o
theorem Qf7 (c:ChV) (h:c.author.size≤1048576):QE Tryz.prog [] 140 [.rop (ccl c)] (.v (.bool (QBP c.author))):=by
 refine QE.start Tryz.func140 rfl zK rfl Tryz.ntmps140 fol zK (by simp [idfL,idf,QZ QS,QS,Qg,Qy,QJM]) (by simp [idfL,idf,QZ QS,QS,Qg,Qy,QJM]) ?_
 refine zz ?_
 (have X1:=@ccl.eq_1;refine zS1 ?_;clear X1)
 refine (QTf c.author h).useV ?_
 exact zC
theorem QgB (c:ChV):QE Tryz.prog [] 141 [.rop (ccl c)] (.v (.bool (numB c.seq))):=by
 refine QE.start Tryz.func141 rfl zK rfl Tryz.ntmps141 fol zK (by simp [idfL,idf,QZ QS,QS,Qg,Qy,QJM]) (by simp [idfL,idf,QZ QS,QS,Qg,Qy,QJM]) ?_
 refine zz ?_
 (have X1:=@ccl.eq_1;have X2:=@List.getElem?_cons_succ.{0};refine zS2 ?_;clear X1 X2)
 refine (QIJ c.seq).useV ?_
 first | exact zC | refine zS ?_
 rfl
theorem Qf3 (c:ChV):QE Tryz.prog [] 143 [.rop (ccl c)] (.v (.bool (numB c.start))):=by
 refine QE.start Tryz.func143 rfl zK rfl Tryz.ntmps143 fol zK (by simp [idfL,idf,QZ QS,QS,Qg,Qy,QJM]) (by simp [idfL,idf,QZ QS,QS,Qg,Qy,QJM]) ?_
 refine zz ?_
 (have X1:=@ccl.eq_1;have X2:=@List.getElem?_cons_succ.{0};refine zS2 ?_;clear X1 X2)
 refine (QIJ c.start).useV ?_
 first | exact zC | refine zS ?_
 rfl
theorem QgC (c:ChV) (h:c.deps.length≤1048576):QE Tryz.prog [] 144 [.rop (ccl c)] (.v (.bool (depB c.deps))):=by
 refine QE.start Tryz.func144 rfl zK rfl Tryz.ntmps144 fol zK (by simp [idfL,idf,QZ QS,QS,Qg,Qy,QJM]) (by simp [idfL,idf,QZ QS,QS,Qg,Qy,QJM]) ?_
 refine zz ?_
 (have X1:=@ccl.eq_1;have X2:=@List.getElem?_cons_succ.{0};refine zS2 ?_;clear X1 X2)
 refine⟨fun h1=>?_,fun h1=>?_⟩
 ·(have X1:=@List.getElem?_cons_succ.{0};refine zS1 ?_;clear X1)
  refine (QO7 c.deps h).useV ?_
  rw [depB,decide_eq_true (show c.deps.length≤16 by omega),Bool.true_and]
  exact zC
 ·(have X1:=@List.getElem?_cons_succ.{0};refine zS1 ?_;clear X1)
  rw [depB,decide_eq_false (show ¬c.deps.length≤16 by omega),Bool.false_and]
theorem Qf6 (c:ChV) (h:c.note.size≤1048576):QE Tryz.prog [] 145 [.rop (ccl c)] (.v (.bool (decide (c.note.size≤1024)))):=by
 refine QE.start Tryz.func145 rfl zK rfl Tryz.ntmps145 fol zK (by simp [idfL,idf,QZ QS,QS,Qg,Qy,QJM]) (by simp [idfL,idf,QZ QS,QS,Qg,Qy,QJM]) ?_
 refine zz ?_
 (have X1:=@ccl.eq_1;have X2:=@List.getElem?_cons_succ.{0};refine zS2 ?_;clear X1 X2)
 by_cases h2:c.note.size≤1024
 ·rw [decide_eq_true h2,decide_eq_true zo]
 ·rw [decide_eq_false h2,decide_eq_false zo]
theorem tn0:(0:Int).toNat=0:=rfl
theorem tn1:((0:Int)+1).toNat=1:=rfl
theorem tn2:((0:Int)+1+1).toNat=2:=rfl
theorem tn3:((0:Int)+1+1+1).toNat=3:=rfl
theorem tn4:((0:Int)+1+1+1+1).toNat=4:=rfl
theorem zTT:(0:Int).toNat=0∧((0:Int)+1).toNat=1∧((0:Int)+1+1).toNat=2∧((0:Int)+1+1+1).toNat=3∧((0:Int)+1+1+1+1).toNat=4:=⟨tn0,tn1,tn2,tn3,tn4⟩
theorem zLL {α:Type}:(∀(a:α) (l:List α) (i:Nat),(a::l)[i+1]?=l[i]?)∧(∀(a:α) (l:List α) (i:Nat),(a::l).drop (i+1)=l.drop i)∧(∀(a:α) (l:List α),(a::l).length=l.length+1)∧([]:List α).length=0∧(∀(a:α) (l:List α) (i:Nat),(a::l).take (i+1)=a::l.take i)∧∀l:List α,l.take 0=[]:=⟨fun _ _ _=>List.getElem?_cons_succ,fun _ _ _=>List.drop_succ_cons,fun _ _=>rfl,rfl,fun _ _ _=>List.take_succ_cons,fun _=>List.take_zero⟩
theorem QD8 {α:Type} {f:α→List UInt8} {k:Nat}:∀(l:List α),(∀x∈l,(f x).length≤k)→(l.flatMap f).length≤k*l.length
 | [],_=>by simp
 | x::l,h=>by
  have h1:=h x (by simp)
  have h2:=QD8 l fun y hy=>h y (by simp [hy])
  simp only [List.flatMap_cons,List.length_append,List.length_cons,Nat.mul_add,Nat.mul_one]
  omega
theorem QEF {l:List OpV} (he:QAM l=0):l.length≤256∧∀o∈l,QBp o=true:=by
 rw [QAM] at he
 split at he
 ·cases he
 ·split at he
  ·rename_i h1 h2;exact⟨by omega,List.all_eq_true.1 h2⟩
  ·cases he
theorem QHr {o:OpV} (h:QBp o=true):o.name.size≤32:=by
 rw [QBp,Bool.and_eq_true,QBP] at h
 have:=h.1
 simp only [Bool.and_eq_true,decide_eq_true_eq] at this
 exact this.1.2.2
theorem QFM {o:OpV} (h:QBp o=true):o.text.size≤1024:=by
 have hb:QBP o.name=true:=by rw [QBp,Bool.and_eq_true] at h;exact h.1
 have:=(QBe hb).1 h
 omega
theorem QHf (l:List OpV) (he:QAM l=0) (hs:∀o∈l,QCP o):(QAy l).length≤400000:=by
 obtain⟨hl,hm⟩:=QEF he
 have hnl:=QFG l
 have hrm:∀(f:OpV→Int),(∀o∈l,-9223372036854775808≤f o∧f o<9223372036854775808)→∀x∈l.map f,-9223372036854775808≤x∧x<9223372036854775808:=fun f hf x hx=>by
  obtain⟨o,ho,rfl⟩:=List.mem_map.1 hx;exact hf o ho
 have b1:=QAV (l.map (·.kind)) (by simp;omega) (hrm _ fun o ho=>(hs o ho).2.2.1)
 have b2:=QAV (l.map fun o=>QC5 (QAT l) o.name) (by simp;omega) (hrm _ fun o _=>by have:=QDH (QAT l) o.name;constructor<;>omega)
 have b3:=QAV (QAU 0 (l.map (·.pos))) (by rw [Qn];simp;omega) (QCS _ _)
 have b4:=QAV (l.map (·.by_)) (by simp;omega) (hrm _ fun o ho=>(hs o ho).2.2.2.2)
 have b5:=QAA (show (QAT l).length<18446744073709551616 by omega)
 have b6:=QD8 (f:=lebB) (k:=42) (QAT l) fun s hs1=>by
  rcases QIt l [] s hs1 with h | ⟨o,h1,rfl⟩
  ·simp at h
  ·have:=QHr (hm o h1);have:=QBc (s:=o.name) zo;omega
 have b7:(QBJ l).length≤1034*l.length:=by
  have:=QD8 (f:=fun o=>lebB o.text) (k:=1034) (l.filter QA4) fun o ho=>by
   have:=QFM (hm o (List.mem_filter.1 ho).1);have:=QBc (s:=o.text) zo;omega
  have h2:=List.length_filter_le QA4 l
  rw [QBJ]
  have h3:=Nat.mul_le_mul_left 1034 h2
  omega
 rw [Qn] at b3
 simp only [List.length_map] at b1 b2 b3 b4
 rw [QAy]
 simp only [List.flatten_cons,List.flatten_nil,List.length_append,List.length_nil]
 omega
theorem lay_c (c:ChV) (hs:QES c):QE Tryz.prog [] 79 [.agg (ccl c)] (.tup [.seq (chR1 c).length 1 (flat QC (chR1 c)),.v (.int .i64 (chE c))]):=by
 refine QE.startW Tryz.func79 rfl zK rfl Tryz.ntmps79 fol zK (by simp [idfL,idf,QZ QS,QS,Qg,Qy,QJM]) (by simp [idfL,idf,QZ QS,QS,Qg,Qy,QJM]) ?_
 refine zz ?_
 (have X1:=@ccl.eq_1;refine zS1 ?_;clear X1)
 refine QD (ι:=Nat) (fun i=>⟨[(1,.rop (ccl c)),(18,.seq 5 2 [.clo (.func 140) [] [.rop (ccl c)],.v (.int .i64 30),.clo (.func 141) [] [.rop (ccl c)],.v (.int .i64 42),.clo (.func 143) [] [.rop (ccl c)],.v (.int .i64 43),.clo (.func 144) [] [.rop (ccl c)],.v (.int .i64 41),.clo (.func 145) [] [.rop (ccl c)],.v (.int .i64 5)]),(19,.v (.int .i64 5)),(20,.v (.int .i64 i))],⟨[],0,0,0⟩⟩)
  (fun i=>i≤5∧(1≤i→QBP c.author=true)∧(2≤i→numB c.seq=true)∧(3≤i→numB c.start=true)∧(4≤i→depB c.deps=true)∧(5≤i→c.note.size≤1024)) (fun i=>5 - i) 0 ⟨Nat.zero_le _,by omega,by omega,by omega,by omega,by omega⟩ ?_ ?_
 ·(have X1:=@ccl.eq_1;have X2:=@QLD;refine fzNM 0 [] [] ?_ ?_<;>first | exact zC2 | refine zS2 ?_)
  rfl
 rintro i ⟨hi,k1,k2,k3,k4,k5⟩
 obtain⟨z1,z2,z3,z4,z5,z6,z7,z8⟩:=hs
 refine zS ?_
 refine⟨fun h1=>?_,fun h1=>?_⟩
 ·have hcase:i=0∨i=1∨i=2∨i=3∨i=4:=by omega
  rcases hcase with rfl | rfl | rfl | rfl | rfl
  ·(have X1:=@zLL;have X2:=@zTT;refine zS2 ?_;clear X1 X2)
   refine (Qf7 c z1).useV ?_
   cases hb:QBP c.author
   ·have hE:chE c=30:=by rw [chE,if_pos hb]
    have hR:chR1 c=[]:=by rw [chR1,hE];rfl
    rw [hE,hR]
    first | exact zC | refine zS ?_
    try rfl
   ·refine zS ?_
    refine⟨1,⟨by decide,fun _=>by first | exact hb | trivial,by omega,by omega,by omega,by omega⟩,by show 5 - 1<5 - 0;decide,?_⟩
    (have X1:=@QLD;have X2:=@QJM;refine fzNM 0 [] [] ?_ ?_<;>first | exact zC2 | refine zS2 ?_)
    try rfl
  ·(have X1:=@zLL;have X2:=@zTT;refine zS2 ?_;clear X1 X2)
   refine (QgB c).useV ?_
   cases hb:numB c.seq
   ·have hE:chE c=42:=by rw [chE,if_neg (by rw [k1 zD];decide),if_pos hb]
    have hR:chR1 c=[]:=by rw [chR1,hE];rfl
    rw [hE,hR]
    first | exact zC | refine zS ?_
    try rfl
   ·refine zS ?_
    refine⟨2,⟨by decide,fun _=>k1 zD,fun _=>by first | exact hb | trivial,by omega,by omega,by omega⟩,by show 5 - 2<5 - 1;decide,?_⟩
    (have X1:=@QLD;have X2:=@QJM;refine fzNM 0 [] [] ?_ ?_<;>first | exact zC2 | refine zS2 ?_)
    try rfl
  ·(have X1:=@zLL;have X2:=@zTT;refine zS2 ?_;clear X1 X2)
   refine (Qf3 c).useV ?_
   cases hb:numB c.start
   ·have hE:chE c=43:=by rw [chE,if_neg (by rw [k1 zD];decide),if_neg (by rw [k2 zD];decide),if_pos hb]
    have hR:chR1 c=[]:=by rw [chR1,hE];rfl
    rw [hE,hR]
    first | exact zC | refine zS ?_
    try rfl
   ·refine zS ?_
    refine⟨3,⟨by decide,fun _=>k1 zD,fun _=>k2 zD,fun _=>by first | exact hb | trivial,by omega,by omega⟩,by show 5 - 3<5 - 2;decide,?_⟩
    (have X1:=@QLD;have X2:=@QJM;refine fzNM 0 [] [] ?_ ?_<;>first | exact zC2 | refine zS2 ?_)
    try rfl
  ·(have X1:=@zLL;have X2:=@zTT;refine zS2 ?_;clear X1 X2)
   refine (QgC c z4).useV ?_
   cases hb:depB c.deps
   ·have hE:chE c=41:=by rw [chE,if_neg (by rw [k1 zD];decide),if_neg (by rw [k2 zD];decide),if_neg (by rw [k3 zD];decide),if_pos hb]
    have hR:chR1 c=[]:=by rw [chR1,hE];rfl
    rw [hE,hR]
    first | exact zC | refine zS ?_
    try rfl
   ·refine zS ?_
    refine⟨4,⟨by decide,fun _=>k1 zD,fun _=>k2 zD,fun _=>k3 zD,fun _=>by first | exact hb | trivial,by omega⟩,by show 5 - 4<5 - 3;decide,?_⟩
    (have X1:=@QLD;have X2:=@QJM;refine fzNM 0 [] [] ?_ ?_<;>first | exact zC2 | refine zS2 ?_)
    try rfl
  ·(have X1:=@zLL;have X2:=@zTT;refine zS2 ?_;clear X1 X2)
   refine (Qf6 c z6).useV ?_
   cases hb:decide (c.note.size≤1024)
   ·have hE:chE c=5:=by rw [chE,if_neg (by rw [k1 zD];decide),if_neg (by rw [k2 zD];decide),if_neg (by rw [k3 zD];decide),if_neg (by rw [k4 zD];decide),if_pos (by simpa using hb)]
    have hR:chR1 c=[]:=by rw [chR1,hE];rfl
    rw [hE,hR]
    first | exact zC | refine zS ?_
    try rfl
   ·refine zS ?_
    refine⟨5,⟨by decide,fun _=>k1 zD,fun _=>k2 zD,fun _=>k3 zD,fun _=>k4 zD,fun _=>by simpa using hb⟩,by show 5 - 5<5 - 4;decide,?_⟩
    (have X1:=@QLD;have X2:=@QJM;refine fzNM 0 [] [] ?_ ?_<;>first | exact zC2 | refine zS2 ?_)
    try rfl
 ·obtain rfl:i=5:=by omega
  (have X1:=@ccl.eq_1;have X2:=@List.getElem?_cons_succ.{0};refine zS2 ?_;clear X1 X2)
  have hP:=Qfs c.ops z7 z8
  refine Fit.use (ids:=[]) (.inr hP) (QAE hP.1) ?_
  have q1:=k1 zD
  have q2:=k2 zD
  have q3:=k3 zD
  have q4:=k4 zD
  have q5:=k5 zD
  have hE:chE c=QAM c.ops:=by rw [chE,if_neg (by rw [q1];decide),if_neg (by rw [q2];decide),if_neg (by rw [q3];decide),if_neg (by rw [q4];decide),if_neg zo]
  by_cases he:QAM c.ops=0
  ·have hR:chR1 c=chB c:=by rw [chR1,hE,if_pos he]
   have hOR:QAb c.ops=QAy c.ops:=by rw [QAb,if_pos he]
   rw [hE,he,hR,hOR]
   simp only [numB,decide_eq_true_eq] at q2 q3
   have w2:IntKind.u64.wrap c.seq=(c.seq.toNat:Nat):=by rw [QU zo zo];omega
   have w3:IntKind.u64.wrap c.start=(c.start.toNat:Nat):=by rw [QU zo zo];omega
   have t1:=QIN c.author zo
   have t5:=QIN c.note zo
   rw [show lebT c.author.data.toList=lebB c.author from rfl] at t1
   rw [show lebT c.note.data.toList=lebB c.note from rfl] at t5
   (have X1:=w2;have X2:=w3;have X3:=@List.getElem?_cons_succ.{0};have X4:=@List.drop_succ_cons.{0};refine zS4 ?_;clear X1 X2 X3 X4)
   refine QO.useN t1 rfl ?_
   (have X1:=w2;have X2:=w3;have X3:=@List.getElem?_cons_succ.{0};have X4:=@List.drop_succ_cons.{0};refine zS4 ?_;clear X1 X2 X3 X4)
   refine QO.useN (QCg c.seq.toNat zo) rfl ?_
   (have X1:=w2;have X2:=w3;have X3:=@List.getElem?_cons_succ.{0};have X4:=@List.drop_succ_cons.{0};refine zS4 ?_;clear X1 X2 X3 X4)
   refine QO.useN (QCg c.start.toNat zo) rfl ?_
   (have X1:=w2;have X2:=w3;have X3:=@List.getElem?_cons_succ.{0};have X4:=@List.drop_succ_cons.{0};refine zS4 ?_;clear X1 X2 X3 X4)
   refine QO.useN (QgA c.deps z4 z5) rfl ?_
   (have X1:=w2;have X2:=w3;have X3:=@List.getElem?_cons_succ.{0};have X4:=@List.drop_succ_cons.{0};refine zS4 ?_;clear X1 X2 X3 X4)
   refine QO.useN t5 rfl ?_
   (have X1:=w2;have X2:=w3;have X3:=@List.getElem?_cons_succ.{0};have X4:=@List.drop_succ_cons.{0};refine zS4 ?_;clear X1 X2 X3 X4)
   obtain⟨bs,hbs⟩:∃bs,bs=[[1],lebB c.author,lebU c.seq.toNat,lebU c.start.toNat,QCY c.deps,lebB c.note,QAy c.ops]:=⟨_,rfl⟩
   have hfl:flat QBs bs=[.seq 1 1 [.v (.int .u8 1)],.seq (lebB c.author).length 1 (flat QC (lebB c.author)),.seq (lebU c.seq.toNat).length 1 (flat QC (lebU c.seq.toNat)),.seq (lebU c.start.toNat).length 1 (flat QC (lebU c.start.toNat)),.seq (QCY c.deps).length 1 (flat QC (QCY c.deps)),.seq (lebB c.note).length 1 (flat QC (lebB c.note)),.seq (QAy c.ops).length 1 (flat QC (QAy c.ops))]:=by rw [hbs];rfl
   have hCB:chB c=bs.flatten:=by rw [hbs,chB]
   have hbl:bs.length=7:=by rw [hbs];rfl
   have y1:=QBc (s:=c.author) zo
   have y2:=QAA (show c.seq.toNat<18446744073709551616 by omega)
   have y3:=QAA (show c.start.toNat<18446744073709551616 by omega)
   have y4:=QBc (s:=c.note) zo
   have y5:=QAA (show c.deps.length<18446744073709551616 by omega)
   have y6:=QE0 c.deps
   have y7:=QHf c.ops he z8
   have y8:(QCY c.deps).length=(lebU c.deps.length).length+(c.deps.flatMap hB).length:=by rw [QCY,List.length_append]
   have hC:=QWf bs zo (by rw [hbs];simp only [List.flatten_cons,List.flatten_nil,List.length_append,List.length_nil,List.length_cons];omega)
   rw [hbl,hfl] at hC
   rw [hCB]
   refine QO.useNS (ids:=[242,223]) hC ?_ rfl ?_ ?_
   ·exact zCN
   ·exact zC
   exact zC
  ·have hR:chR1 c=[]:=by rw [chR1,hE,if_neg he]
   rw [hE,hR]
   refine zS ?_
   iterate 14 all_goals (try (refine And.intro (fun _=>?_) (fun _=>?_)<;>try first | exact zC | refine zS ?_))
   all_goals first
    | (exfalso;omega)
    | rfl
open Proofs
theorem QDI {c:ChV} (h:chE2 c=0):chE c=0∧(chB c).length≤65536:=by
 rw [chE2] at h
 split at h
 ·rename_i h1;exact absurd h h1
 ·split at h
  ·cases h
  ·exact⟨by omega,by omega⟩
theorem Qf9 (c:ChV) (hs:QES c):QE Tryz.prog [] 30 [.agg (ccl c)] (.tup [.seq (chR c).length 1 (flat QC (chR c)),.v (.int .i64 (chE2 c))]):=by
 refine QE.startW Tryz.func30 rfl zK rfl Tryz.ntmps30 fol zK (by simp [idfL,idf,QZ QS,QS,Qg,Qy,QJM]) (by simp [idfL,idf,QZ QS,QS,Qg,Qy,QJM]) ?_
 refine zz ?_
 (have X1:=@ccl.eq_1;refine zS1 ?_;clear X1)
 refine (lay_c c hs).useV ?_
 by_cases he:chE c=0
 ·have hR1:chR1 c=chB c:=by rw [chR1,if_pos he]
  rw [he,hR1]
  refine zS ?_
  by_cases hl:65536<(chB c).length
  ·have h2:chE2 c=5:=by rw [chE2,if_neg (fun h=>h he),if_pos hl]
   have h3:chR c=[]:=by rw [chR,h2];rfl
   rw [h2,h3]
   iterate 14 all_goals (try (refine And.intro (fun _=>?_) (fun _=>?_)<;>try first | exact zC | refine zS ?_))
   all_goals first
    | (exfalso;omega)
    | rfl
  ·have h2:chE2 c=0:=by rw [chE2,if_neg (fun h=>h he),if_neg hl]
   have h3:chR c=chB c:=by rw [chR,if_pos h2]
   rw [h2,h3]
   iterate 14 all_goals (try (refine And.intro (fun _=>?_) (fun _=>?_)<;>try first | exact zC | refine zS ?_))
   all_goals first
    | (exfalso;omega)
    | rfl
 ·have hR1:chR1 c=[]:=by rw [chR1,if_neg he]
  have h2:chE2 c=chE c:=by rw [chE2,if_pos he]
  have h3:chR c=[]:=by rw [chR,h2,if_neg he]
  rw [hR1,h2,h3]
  refine zS ?_
  iterate 14 all_goals (try (refine And.intro (fun _=>?_) (fun _=>?_)<;>try first | exact zC | refine zS ?_))
  all_goals first
   | (exfalso;omega)
   | rfl
theorem QZ4 (c:ChV) (hs:QES c):QE Tryz.prog [] 138 [.agg (ccl c)] (.tup [.seq (chR c).length 1 (flat QC (chR c)),.v (.int .i64 (chE2 c))]):=by
 refine QE.startW Tryz.func138 rfl zK rfl Tryz.ntmps138 fol zK (by simp [idfL,idf,QZ QS,QS,Qg,Qy,QJM]) (by simp [idfL,idf,QZ QS,QS,Qg,Qy,QJM]) ?_
 refine zz ?_
 (have X1:=@ccl.eq_1;refine zS1 ?_;clear X1)
 obtain⟨z1,z2,z3,z4,z5,z6,z7,z8⟩:=hs
 refine (QMy c.author z1).useV ?_
 cases q1:QBP c.author
 ·have hE:chE c=30:=by rw [chE,if_pos q1]
  have h2:chE2 c=30:=by rw [chE2,if_pos (by rw [hE];decide),hE]
  have h3:chR c=[]:=by rw [chR,h2];rfl
  rw [h2,h3]
  first | exact zC | refine zS ?_
  rfl
 (have X1:=@List.getElem?_cons_succ.{0};refine zS1 ?_;clear X1)
 iterate 14 all_goals (try (refine And.intro (fun _=>?_) (fun _=>?_)<;>try (have X1:=@List.getElem?_cons_succ.{0};have X2:=@List.drop_succ_cons.{0};first | exact zC2 | refine zS2 ?_)))
 all_goals try first
  | (exfalso;omega)
  | (
    have hE:chE c=42:=by rw [chE,if_neg (by rw [q1];decide),if_pos (by rw [show numB c.seq=false from decide_eq_false zo])]
    have h2:chE2 c=42:=by rw [chE2,if_pos (by rw [hE];decide),hE]
    have h3:chR c=[]:=by rw [chR,h2];rfl
    rw [h2,h3]
    first | rfl | ((first | exact zC | refine zS ?_);rfl);done)
  | (
    have hE:chE c=43:=by rw [chE,if_neg (by rw [q1];decide),if_neg (by rw [show numB c.seq=true from decide_eq_true zo];decide),if_pos (by rw [show numB c.start=false from decide_eq_false zo])]
    have h2:chE2 c=43:=by rw [chE2,if_pos (by rw [hE];decide),hE]
    have h3:chR c=[]:=by rw [chR,h2];rfl
    rw [h2,h3]
    first | rfl | ((first | exact zC | refine zS ?_);rfl);done)
  | (
    have hlt:¬c.deps.length≤16:=by omega
    have hE:chE c=41:=by rw [chE,if_neg (by rw [q1];decide),if_neg (by rw [show numB c.seq=true from decide_eq_true zo];decide),if_neg (by rw [show numB c.start=true from decide_eq_true zo];decide),if_pos (by rw [depB,decide_eq_false hlt];rfl)]
    have h2:chE2 c=41:=by rw [chE2,if_pos (by rw [hE];decide),hE]
    have h3:chR c=[]:=by rw [chR,h2];rfl
    rw [h2,h3]
    first | rfl | ((first | exact zC | refine zS ?_);rfl);done)
 have n2:numB c.seq=true:=decide_eq_true zo
 have n3:numB c.start=true:=decide_eq_true zo
 have n4:c.deps.length≤16:=by omega
 refine (QLc c.deps z4).useV ?_
 cases q4:QDw c.deps
 ·have hE:chE c=41:=by rw [chE,if_neg (by rw [q1];decide),if_neg (by rw [n2];decide),if_neg (by rw [n3];decide),if_pos (by rw [depB,q4,Bool.and_false])]
  have h2:chE2 c=41:=by rw [chE2,if_pos (by rw [hE];decide),hE]
  have h3:chR c=[]:=by rw [chR,h2];rfl
  rw [h2,h3]
  first | exact zC | refine zS ?_
  first | rfl | ((first | exact zC | refine zS ?_);rfl)
 (have X1:=@List.getElem?_cons_succ.{0};refine zS1 ?_;clear X1)
 refine⟨fun h5=>?_,fun h5=>?_⟩
 ·have hE:chE c=5:=by rw [chE,if_neg (by rw [q1];decide),if_neg (by rw [n2];decide),if_neg (by rw [n3];decide),if_neg (by rw [depB,q4,decide_eq_true n4];decide),if_pos zo]
  have h2:chE2 c=5:=by rw [chE2,if_pos (by rw [hE];decide),hE]
  have h3:chR c=[]:=by rw [chR,h2];rfl
  rw [h2,h3]
  first | exact zC | refine zS ?_
  first | rfl | ((first | exact zC | refine zS ?_);rfl)
 have hE:chE c=QAM c.ops:=by rw [chE,if_neg (by rw [q1];decide),if_neg (by rw [n2];decide),if_neg (by rw [n3];decide),if_neg (by rw [depB,q4,decide_eq_true n4];decide),if_neg zo]
 (have X1:=@List.getElem?_cons_succ.{0};refine zS1 ?_;clear X1)
 have hP:=QaZ c.ops z7 z8
 refine Fit.use (ids:=[]) (.inr hP) (QAE hP.1) ?_
 by_cases he:QAM c.ops=0
 ·have hOR:QAb c.ops=QAy c.ops:=by rw [QAb,if_pos he]
  have y7:=QHf c.ops he z8
  rw [he] at hE
  rw [he,hOR]
  simp only [numB,decide_eq_true_eq] at n2 n3
  have w2:IntKind.u64.wrap c.seq=(c.seq.toNat:Nat):=by rw [QU zo zo];omega
  have w3:IntKind.u64.wrap c.start=(c.start.toNat:Nat):=by rw [QU zo zo];omega
  have y1:=QBc (s:=c.author) zo
  have y2:=QAA (show c.seq.toNat<18446744073709551616 by omega)
  have y3:=QAA (show c.start.toNat<18446744073709551616 by omega)
  have y4:=QBc (s:=c.note) zo
  have y5:=QAA (show c.deps.length<18446744073709551616 by omega)
  have y6:=QE0 c.deps
  have y8:(QCY c.deps).length=(lebU c.deps.length).length+(c.deps.flatMap hB).length:=by rw [QCY,List.length_append]
  (have X1:=w2;have X2:=w3;have X3:=@List.getElem?_cons_succ.{0};refine zS3 ?_;clear X1 X2 X3)
  refine POwn.useV (QGR c.author zo) ?_
  rw [show lebT c.author.data.toList=lebB c.author from rfl]
  have hc1:∀X:List UInt8,AV.v (.int .u8 1)::flat QC X=flat QC (1::X):=fun X=>rfl
  have t5:=QdO c.note zo
  rw [show lebT c.note.data.toList=lebB c.note from rfl] at t5
  (have X1:=w2;have X2:=w3;have X3:=@List.getElem?_cons_succ.{0};have X4:=hc1;have X5:=@List.length_cons.{0};refine zS5 ?_;clear X1 X2 X3 X4 X5)
  refine QO.useN (QIn c.seq.toNat zo) rfl ?_
  (have X1:=w2;have X2:=w3;have X3:=@List.getElem?_cons_succ.{0};have X4:=hc1;have X5:=@List.length_cons.{0};refine zS5 ?_;clear X1 X2 X3 X4 X5)
  refine QO.useN (QIn c.start.toNat zo) rfl ?_
  (have X1:=w2;have X2:=w3;have X3:=@List.getElem?_cons_succ.{0};have X4:=hc1;have X5:=@List.length_cons.{0};refine zS5 ?_;clear X1 X2 X3 X4 X5)
  refine QO.useN (Qdv c.deps z4 z5) rfl ?_
  (have X1:=w2;have X2:=w3;have X3:=@List.getElem?_cons_succ.{0};have X4:=hc1;have X5:=@List.length_cons.{0};refine zS5 ?_;clear X1 X2 X3 X4 X5)
  refine QO.useN t5 rfl ?_
  (have X1:=w2;have X2:=w3;have X3:=@List.getElem?_cons_succ.{0};have X4:=hc1;have X5:=@List.length_cons.{0};refine zS5 ?_;clear X1 X2 X3 X4 X5)
  have hlen:(chB c).length=1+(lebB c.author).length+(lebU c.seq.toNat).length+(lebU c.start.toNat).length+(QCY c.deps).length+(lebB c.note).length+(QAy c.ops).length:=by
   rw [chB];simp only [List.flatten_cons,List.flatten_nil,List.length_append,List.length_nil,List.length_cons];omega
  refine And.intro (fun h9=>?_) (fun h9=>?_)
  ·have h2:chE2 c=5:=by rw [chE2,if_neg (fun h=>h hE),if_pos zo]
   have h3:chR c=[]:=by rw [chR,h2];rfl
   rw [h2,h3]
   first | exact zC | refine zS ?_
   rfl
  ·have h2:chE2 c=0:=by rw [chE2,if_neg (fun h=>h hE),if_neg zo]
   have h3:chR c=chB c:=by rw [chR,if_pos h2]
   rw [h2,h3]
   (have X1:=hc1;refine zS1 ?_;clear X1)
   have hcb:chB c=1::(lebB c.author++(lebU c.seq.toNat++(lebU c.start.toNat++(QCY c.deps++(lebB c.note++QAy c.ops))))):=by
    rw [chB];simp only [List.flatten_cons,List.flatten_nil,List.append_nil,List.cons_append,List.nil_append]
   rw [←hcb,←hlen,QT,List.take_length]
 ·have h2:chE2 c=QAM c.ops:=by rw [chE2,if_pos (by rw [hE];exact he),hE]
  have h3:chR c=[]:=by rw [chR,h2,if_neg he]
  rw [h2,h3]
  refine zS ?_
  iterate 14 all_goals (try (refine And.intro (fun _=>?_) (fun _=>?_)<;>try first | exact zC | refine zS ?_))
  all_goals first
   | (exfalso;omega)
   | rfl
theorem QNI (c:ChV) (hs:QES c):QE Tryz.prog [] 75 [.agg (ccl c)] (.tup [.seq (chR c).length 1 (flat QC (chR c)),.v (.int .i64 (chE2 c))]):=by
 refine QE.start Tryz.func75 rfl zK rfl Tryz.ntmps75 fol zK (by simp [idfL,idf,QZ QS,QS,Qg,Qy,QJM]) (by simp [idfL,idf,QZ QS,QS,Qg,Qy,QJM]) ?_
 refine zz ?_
 (have X1:=@ccl.eq_1;refine zS1 ?_;clear X1)
 refine (QZ4 c hs).useV ?_
 exact zC
def shaH (b:List UInt8):Hs:=mkH (shaF b)
theorem QLe (b:List UInt8):hcell (shaH b)=flat QC (shaF b):=QIk (QEE b)
end Go.AW
