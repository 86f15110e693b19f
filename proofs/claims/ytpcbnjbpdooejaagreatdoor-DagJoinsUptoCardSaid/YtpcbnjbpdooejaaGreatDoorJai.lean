/- A part of the proof: D11 D12 D13 D14 D15 D16 D17. -/
import Derived.Test.YtpcbnjbpdooejaaGreatDoorJae
import Derived.Test.YtpcbnjbpdooejaaGreatDoorJah
import Derived.Test.YtpcbnjbpdooejaaGreatDoorJaf
set_option linter.unusedSimpArgs false
set_option linter.unusedVariables false
set_option maxRecDepth 100000
set_option maxHeartbeats 8000000
namespace Go.AW
open Proofs
set_option maxHeartbeats 4000000
theorem QCn:∀(b:List UInt8) (i:Nat) (n:UInt64),(getU i n b).2.1≤i+b.length∧(getU i n b).2.2≤4
 | [],i,n=>by simp [getU]
 | x::l,i,n=>by
  have h:=QCn l (i+1) (n|||shlU (x&&&~~~128).toNat (7*i))
  rw [getU]
  split
  ·simp
  ·split
   ·simp only [List.length_cons];omega
   ·simp only [List.length_cons];omega
def getT (b:List UInt8) (most:Nat):ByteArray×Nat×Nat:=
 let q:=getU 0 0 b
 if q.2.2≠0 then (⟨#[]⟩,0,q.2.2) else
 if most<q.1.toNat then (⟨#[]⟩,0,5) else
 if b.length - q.2.1<q.1.toNat then (⟨#[]⟩,0,3) else
 (⟨((b.drop q.2.1).take q.1.toNat).toArray⟩,q.2.1+q.1.toNat,0)
def gtR (q:ByteArray×Nat×Nat):AV:=.tup [.v (.string q.1),.v (.int .i64 q.2.1),.v (.int .i64 q.2.2)]
theorem QG9:∀l:List UInt8,QFQ (flat QC l)=some (l.map fun b=>.int .u8 b.toNat)
 | []=>rfl
 | x::l=>by
  have h:=QG9 l
  simp only [flat,List.flatMap_cons,QC,List.cons_append,List.nil_append,QFQ,List.map_cons] at h ⊢
  rw [h];rfl
theorem QAD {P : Program} {s d : TypeId} {find : Nat → Option AObj} {fr n : Nat} {l : List UInt8} (h1 : QDR P s = true) (h2 : tstr P d = true) : QC7 P s d find fr (.seq n 1 (flat QC l)) = some (.v (.string ⟨l.toArray⟩), []) := by
  have e : QC7 P s d find fr (.seq n 1 (flat QC l)) = if QDR P s ∧ tstr P d then match QFQ (flat QC l) with
          | some vs => if vs.all (QC6 .u8) then some (.v (.string ⟨(vs.map fun | .int _ n => UInt8.ofNat n.toNat | _ => 0).toArray⟩), []) else none
          | none => none else none := rfl
  rw [e, if_pos ⟨h1, h2⟩, QG9]
  have h3 : (l.map fun b => Value.int .u8 b.toNat).all (QC6 .u8) = true := by
    rw [List.all_eq_true]; intro v hv; obtain ⟨a, _, rfl⟩ := List.mem_map.1 hv; rfl
  simp only [h3, if_true]
  congr 6
  rw [List.map_map]
  refine (List.map_congr_left (fun a _ => ?_)).trans (List.map_id l)
  simp
theorem QCy (b:List UInt8) (most:Nat) (hb:b.length≤1152921504606846976) (hm:most≤1152921504606846976):QE Tryz.prog [] 115 [.seq b.length 1 (flat QC b),.v (.int .i64 most)] (gtR (getT b most)):=by
 refine QE.start Tryz.func115 rfl (by kernel_rfl) rfl Tryz.ntmps115 fol (by kernel_rfl) (by simp [idfL,idf,Qg]) (by simp [gtR,idfL,idf]) ?_
 refine zZ ?_
 refine (QAo b hb).useV ?_
 obtain⟨k1,k2⟩:=QCn b 0 0
 have hg:getT b most=getT b most:=rfl
 conv at hg=>rhs;rw [getT]
 generalize getU 0 0 b=q at hg k1 k2 ⊢
 obtain⟨n,k,e⟩:=q
 simp only at hg k1 k2
 rw [hg]
 have hn:=n.toNat_lt
 have hw1:IntKind.u64.wrap (most:Int)=most:=QU (by omega) (by omega)
 have hw2:IntKind.u64.wrap ((b.length:Int) - k)=(b.length:Int) - k:=QU (by omega) (by omega)
 (have X1:=@guR.eq_1;refine zS1 ?_;clear X1)
 refine⟨fun he=>?_,fun he=>?_⟩
 ·rw [if_pos (by omega)]
  (have X1:=@gtR.eq_1;exact zC1)
 ·rw [if_neg (by omega)]
  (have X1:=hw1;have X2:=hw2;refine zS2 ?_;clear X1 X2)
  refine⟨fun h1=>?_,fun h1=>by omega⟩
  (have X1:=hw1;have X2:=hw2;refine zS2 ?_;clear X1 X2)
  refine⟨fun h2=>?_,fun h2=>?_⟩
  ·rw [if_pos (by omega)]
   (have X1:=@gtR.eq_1;first | exact zC1 | refine zS1 ?_)
   rfl
  ·rw [if_neg (by omega)]
   (have X1:=hw1;have X2:=hw2;refine zS2 ?_;clear X1 X2)
   refine⟨fun h3=>?_,fun h3=>?_⟩
   ·rw [if_pos (by omega)]
    (have X1:=@gtR.eq_1;first | exact zC1 | refine zS1 ?_)
    rfl
   ·rw [if_neg (by omega)]
    have e2:((k:Int)+(n.toNat:Int)).toNat - k=n.toNat:=by omega
    have hc:∀f g,QC7 Tryz.prog 23 9 f g (.seq n.toNat 1 (List.take n.toNat (List.drop k (flat QC b))))=some (.v (.string ⟨((b.drop k).take n.toNat).toArray⟩),[]):=fun f g=>by
     rw [QL,QT];exact QAD (by kernel_rfl) (by kernel_rfl)
    (have X1:=hw1;have X2:=hw2;have X3:=e2;have X4:=hc;have X5:=@gtR.eq_1;exact zC5)
open Proofs
set_option maxHeartbeats 4000000
def QAe (b:List UInt8) (e:Nat):List AV:=[.seq b.length 1 (flat QC b),.v (.int .i64 e)]
theorem QKe (b:List UInt8) (used:Nat) (h:used≤b.length):
  QM Tryz.prog [] 167 [.ptr 0 0,.v (.int .i64 used),.v (.int .i64 0)] [(0,.cells 214 (QAe b 0) false)] 1 (.v (.bool true))
   [(0,.cells 214 (QAe (b.drop used) 0) false)] 1:=by
 refine QM.start Tryz.func167 rfl (by kernel_rfl) rfl Tryz.ntmps167 fol (by kernel_rfl) (Nat.le_refl _) ?_
 refine zz ?_
 have hd:List.take (b.length - used) (List.drop used (flat QC b))=flat QC (b.drop used):=by
  rw [QL,QT,List.take_of_length_le (by rw [List.length_drop];exact Nat.le_refl _)]
 (have X1:=@QAe.eq_1;have X2:=hd;have X3:=@List.length_drop.{0};refine zS3 ?_;clear X1 X2 X3)
 refine Ent.freezeN 1 [(0,0)] [] ?_ ?_ rfl rfl rfl (by decide) rfl rfl
 ·exact zC
 ·exact zC
theorem QDk (b:List UInt8) (used e1 e2:Nat) (h:e1=0→e2≠0):
  QM Tryz.prog [] 167 [.ptr 0 0,.v (.int .i64 used),.v (.int .i64 e2)] [(0,.cells 214 (QAe b e1) false)] 1 (.v (.bool false))
   [(0,.cells 214 (QAe b (if e1=0 then e2 else e1)) false)] 1:=by
 refine QM.start Tryz.func167 rfl (by kernel_rfl) rfl Tryz.ntmps167 fol (by kernel_rfl) (Nat.le_refl _) ?_
 refine zz ?_
 (have X1:=@QAe.eq_1;refine zS1 ?_;clear X1)
 refine⟨fun h1=>?_,fun h1=>?_⟩
 ·rw [if_pos (by omega)]
  have h2:=h (by omega)
  refine zS ?_
  refine⟨fun h3=>?_,fun h3=>by omega⟩
  refine zS ?_
  refine Ent.freezeN 1 [(0,0)] [] ?_ ?_ rfl rfl rfl (by decide) rfl rfl
  ·exact zC
  ·exact zC
 ·rw [if_neg (by omega)]
  refine zS ?_
  refine⟨fun h3=>?_,fun h3=>by omega⟩
  refine zS ?_
  refine Ent.freezeN 1 [(0,0)] [] ?_ ?_ rfl rfl rfl (by decide) rfl rfl
  ·exact zC
  ·exact zC
open Proofs
set_option maxHeartbeats 4000000
def ruF (b:List UInt8) (most:Nat):Nat×Nat×Nat:=
 let q:=getU 0 0 b
 (q.1.toNat,q.2.1,if q.2.2=0∧most<q.1.toNat then 5 else q.2.2)
theorem QKR:QLl Tryz.prog 150=some 0:=by kernel_rfl
attribute [push_cast] QKR
theorem QO3 (b:List UInt8) (used e1 e2:Nat) (h:e1≠0):
  QM Tryz.prog [] 167 [.ptr 0 0,.v (.int .i64 used),.v (.int .i64 e2)] [(0,.cells 214 (QAe b e1) false)] 1 (.v (.bool false))
   [(0,.cells 214 (QAe b e1) false)] 1:=by
 have:=QDk b used e1 e2 (by omega)
 rwa [if_neg h] at this
theorem Qaf (b:List UInt8) (e most:Nat) (hb:b.length≤1152921504606846976) (hm:most<18446744073709551616):
  QM Tryz.prog [] 110 [.ptr 0 0,.v (.int .u64 most)] [(0,.cells 214 (QAe b e) false)] 1
   (.v (.int .u64 (if e=0∧(ruF b most).2.2=0 then (ruF b most).1 else 0:Nat)))
   [(0,.cells 214 (if e=0∧(ruF b most).2.2=0 then QAe (b.drop (ruF b most).2.1) 0 else QAe b (if e=0 then (ruF b most).2.2 else e)) false)] 1:=by
 refine QM.start Tryz.func110 rfl (by kernel_rfl) rfl Tryz.ntmps110 fol (by kernel_rfl) (Nat.le_refl _) ?_
 refine zz ?_
 (have X1:=@QAe.eq_1;refine zS1 ?_;clear X1)
 refine (QAo b hb).useV ?_
 generalize hq:getU 0 0 b=q
 obtain⟨n,k,e2⟩:=q
 have hr:ruF b most=(n.toNat,k,if e2=0∧most<n.toNat then 5 else e2):=by rw [ruF,hq]
 have hk:k≤b.length:=by have:=(QCn b 0 0).1;rw [hq] at this;simpa using this
 (have X1:=@guR.eq_1;refine zS1 ?_;clear X1)
 refine⟨fun h1=>?_,fun h1=>?_⟩
 ·obtain rfl:e2=0:=by omega
  refine zS ?_
  refine⟨fun h2=>?_,fun h2=>?_⟩
  ·rw [if_pos ⟨rfl,by omega⟩] at hr
   rw [hr,if_neg (show ¬(e=0∧(n.toNat,k,5).2.2=0) by simp),if_neg (show ¬(e=0∧(n.toNat,k,5).2.2=0) by simp)]
   refine zS ?_
   refine QM.useX [0] (QDk b k e 5 (by omega)) rfl rfl ?_ ?_
   ·(have X1:=@QAe.eq_1;exact zC1)
   (have X1:=@QAe.eq_1;refine zS1 ?_;clear X1)
   refine Ent.freezeN 1 [(0,0)] [] ?_ ?_ rfl rfl rfl (by decide) rfl rfl
   ·exact zC
   ·exact zC
  ·rw [if_neg (by omega)] at hr
   rw [hr]
   by_cases he:e=0
   ·subst he
    rw [if_pos (show 0=0∧(n.toNat,k,0).2.2=0 from ⟨rfl,rfl⟩),if_pos (show 0=0∧(n.toNat,k,0).2.2=0 from ⟨rfl,rfl⟩)]
    refine zS ?_
    refine QM.useX [0] (QKe b k hk) rfl rfl ?_ ?_
    ·(have X1:=@QAe.eq_1;exact zC1)
    (have X1:=@QAe.eq_1;refine zS1 ?_;clear X1)
    refine Ent.freezeN 1 [(0,0)] [] ?_ ?_ rfl rfl rfl (by decide) rfl rfl
    ·exact zC
    ·exact zC
   ·rw [if_neg (fun h=>he h.1),if_neg (fun h=>he h.1),if_neg he]
    refine zS ?_
    refine QM.useX [0] (QO3 b k e 0 he) rfl rfl ?_ ?_
    ·(have X1:=@QAe.eq_1;exact zC1)
    (have X1:=@QAe.eq_1;refine zS1 ?_;clear X1)
    refine Ent.freezeN 1 [(0,0)] [] ?_ ?_ rfl rfl rfl (by decide) rfl rfl
    ·exact zC
    ·exact zC
 ·have he2:e2≠0:=by omega
  rw [if_neg (fun h=>he2 h.1)] at hr
  rw [hr,if_neg (fun h=>he2 h.2),if_neg (fun h=>he2 h.2)]
  refine zS ?_
  refine QM.useX [0] (QDk b k e e2 (by omega)) rfl rfl ?_ ?_
  ·(have X1:=@QAe.eq_1;exact zC1)
  (have X1:=@QAe.eq_1;refine zS1 ?_;clear X1)
  refine Ent.freezeN 1 [(0,0)] [] ?_ ?_ rfl rfl rfl (by decide) rfl rfl
  ·exact zC
  ·exact zC
open Proofs
set_option maxHeartbeats 4000000
theorem Qbb (b : List UInt8) (e : Nat) : QM Tryz.prog [] 112 [.ptr 0 0] [(0, .cells 214 (QAe b e) false)] 1 (.v (.int .i64 b.length))
      [(0, .cells 214 (QAe b e) false)] 1 := by
  refine QM.start Tryz.func112 rfl (by kernel_rfl) rfl Tryz.ntmps112 fol (by kernel_rfl) (Nat.le_refl _) ?_
  refine zz ?_
  (have X1:=@QAe.eq_1;refine zS1 ?_;clear X1)
  refine Ent.freezeN 1 [(0, 0)] [] ?_ ?_ rfl rfl rfl (by decide) rfl rfl
  · exact zC
  · exact zC
theorem RErr_c (b : List UInt8) (e : Nat) : QM Tryz.prog [] 114 [.ptr 0 0] [(0, .cells 214 (QAe b e) false)] 1 (.v (.int .i64 e))
      [(0, .cells 214 (QAe b e) false)] 1 := by
  refine QM.start Tryz.func114 rfl (by kernel_rfl) rfl Tryz.ntmps114 fol (by kernel_rfl) (Nat.le_refl _) ?_
  refine zz ?_
  (have X1:=@QAe.eq_1;refine zS1 ?_;clear X1)
  refine Ent.freezeN 1 [(0, 0)] [] ?_ ?_ rfl rfl rfl (by decide) rfl rfl
  · exact zC
  · exact zC
theorem QJi (b:List UInt8) (most:Nat):(getT b most).2.1≤b.length:=by
 have h:=(QCn b 0 0).1
 rw [getT]
 split
 ·exact Nat.zero_le _
 ·split
  ·exact Nat.zero_le _
  ·split
   ·exact Nat.zero_le _
   ·simp only;omega
theorem QeY (b:List UInt8) (e most:Nat) (hb:b.length≤1152921504606846976) (hm:most≤1152921504606846976):
  QM Tryz.prog [] 111 [.ptr 0 0,.v (.int .i64 most)] [(0,.cells 214 (QAe b e) false)] 1
   (.v (.string (if e=0∧(getT b most).2.2=0 then (getT b most).1 else ⟨#[]⟩)))
   [(0,.cells 214 (if e=0∧(getT b most).2.2=0 then QAe (b.drop (getT b most).2.1) 0 else QAe b (if e=0 then (getT b most).2.2 else e)) false)] 1:=by
 refine QM.start Tryz.func111 rfl (by kernel_rfl) rfl Tryz.ntmps111 fol (by kernel_rfl) (Nat.le_refl _) ?_
 refine zz ?_
 (have X1:=@QAe.eq_1;refine zS1 ?_;clear X1)
 refine (QCy b most hb hm).useV ?_
 have hk:=QJi b most
 generalize getT b most=q at hk ⊢
 obtain⟨s,k,e2⟩:=q
 simp only at hk
 (have X1:=@gtR.eq_1;refine zS1 ?_;clear X1)
 by_cases he2:e2=0
 ·subst he2
  by_cases he:e=0
  ·subst he
   rw [if_pos (show 0=0∧(s,k,0).2.2=0 from ⟨rfl,rfl⟩),if_pos (show 0=0∧(s,k,0).2.2=0 from ⟨rfl,rfl⟩)]
   refine QM.useX [0] (QKe b k hk) rfl rfl ?_ ?_
   ·(have X1:=@QAe.eq_1;exact zC1)
   (have X1:=@QAe.eq_1;refine zS1 ?_;clear X1)
   refine Ent.freezeN 1 [(0,0)] [] ?_ ?_ rfl rfl rfl (by decide) rfl rfl
   ·exact zC
   ·exact zC
  ·rw [if_neg (fun h=>he h.1),if_neg (fun h=>he h.1),if_neg he]
   refine QM.useX [0] (QO3 b k e 0 he) rfl rfl ?_ ?_
   ·(have X1:=@QAe.eq_1;exact zC1)
   (have X1:=@QAe.eq_1;refine zS1 ?_;clear X1)
   refine Ent.freezeN 1 [(0,0)] [] ?_ ?_ rfl rfl rfl (by decide) rfl rfl
   ·exact zC
   ·exact zC
 ·rw [if_neg (fun h=>he2 h.2),if_neg (fun h=>he2 h.2)]
  refine QM.useX [0] (QDk b k e e2 (by omega)) rfl rfl ?_ ?_
  ·(have X1:=@QAe.eq_1;exact zC1)
  (have X1:=@QAe.eq_1;refine zS1 ?_;clear X1)
  refine Ent.freezeN 1 [(0,0)] [] ?_ ?_ rfl rfl rfl (by decide) rfl rfl
  ·exact zC
  ·exact zC
open Proofs
set_option maxHeartbeats 4000000
theorem QQq (b:List UInt8) (hb:b.length≤70000000000000):QM Tryz.prog [] 109 [.seq b.length 1 (flat QC b)] [] 0 (.ptr 0 0) [(0,.cells 214 (QAe b 0) false)] 1:=by
 refine QM.start Tryz.func109 rfl (by kernel_rfl) rfl Tryz.ntmps109 fol (by kernel_rfl) (by decide) ?_
 refine zz ?_
 (have X1:=@QAe.eq_1;refine zS1 ?_;clear X1)
 refine⟨by decide,?_⟩
 refine Ent.freezeN 0 [(0,41)] [41] ?_ ?_ rfl rfl rfl (by decide) rfl rfl
 ·(have X1:=@Nat.sub_zero;exact zC1)
 ·(have X1:=@Nat.sub_zero;exact zC1)
open Proofs
set_option maxHeartbeats 4000000
def orI (a b:Int):Int:=IntKind.i64.wrap ((BitVec.ofInt 64 a|||BitVec.ofInt 64 b).toNat:Nat)
def shlI (a:Int) (s:Nat):Int:=IntKind.i64.wrap (a*2^s)
theorem QN2 {P:Program} {t:TypeId} {x y:Operand} {a b:Int}:pbin P .or t x y (.int .i64 a) (.int .i64 b)=some (.int .i64 (orI a b)):=rfl
def getI (i:Nat) (n:Int) (p:UInt8):List UInt8→Int×Nat×Nat
 | []=>(0,0,3)
 | x::l=>if i=9∧x.toNat≠0∧x.toNat≠127 then (0,0,4) else
  if 128≤x.toNat then getI (i+1) (orI n (shlI (x&&&~~~128).toNat (7*i))) x l else
  if 0<i∧(x.toNat=0∧(p&&&64).toNat=0∨x.toNat=127∧(p&&&64).toNat≠0) then (0,0,4) else
  (if (x&&&64).toNat≠0∧i<9 then orI (orI n (shlI (x&&&~~~128).toNat (7*i))) (shlI (-1) (7*(i+1))) else orI n (shlI (x&&&~~~128).toNat (7*i)),i+1,0)
def giR (q:Int×Nat×Nat):AV:=.tup [.v (.int .i64 q.1),.v (.int .i64 q.2.1),.v (.int .i64 q.2.2)]
theorem QKj (b : List UInt8) (hb : b.length ≤ 1152921504606846976) : QE Tryz.prog [] 214 [.seq b.length 1 (flat QC b)] (giR (getI 0 0 0 b)) := by
  refine QE.start Tryz.func214 rfl (by kernel_rfl) rfl Tryz.ntmps214 fol (by kernel_rfl) (by simp [idfL, idf, Qg]) (by simp [giR, idfL, idf]) ?_
  refine zZ ?_
  refine QD (ι := Nat × Int × UInt8) (fun q => ⟨[(0, .seq b.length 1 (flat QC b)), (2, .v (.int .i64 q.2.1)), (9, .seq b.length 1 (flat QC b)), (10, .v (.int .i64 b.length)), (11, .v (.int .i64 q.1))], ⟨[], 0, 0, 0⟩⟩)
    (fun q => q.1 ≤ b.length ∧ q.1 ≤ 9 ∧ (0 < q.1 → b[q.1 - 1]? = some q.2.2) ∧ getI q.1 q.2.1 q.2.2 (b.drop q.1) = getI 0 0 0 b) (fun q => b.length - q.1) (0, 0, 0) ⟨Nat.zero_le _, by decide, fun h => absurd h (by decide), rfl⟩ ?_ ?_
  · refine Ent.freezeN 0 [] [] ?_ ?_ rfl rfl rfl (by decide) rfl rfl
    · exact zC
    · exact zC
  rintro ⟨i, n, p⟩ ⟨h1, h2, h4, h3⟩
  simp only at h1 h2 h3 h4
  rw [← h3]
  refine zS ?_
  refine ⟨fun h => ?_, fun h => ?_⟩
  · have hi : i < b.length := by omega
    obtain ⟨x, l, hx⟩ : ∃ x l, b.drop i = x :: l := ⟨_, _, List.drop_eq_getElem_cons hi⟩
    have hg : (List.drop i (flat QC b))[0]? = some (.v (.int .u8 x.toNat)) := by
      rw [show List.drop i (flat QC b) = flat QC (b.drop i) from QL, hx]; rfl
    have hx8 := x.toNat_lt
    have hl : b.drop (i + 1) = l := by
      have := congrArg List.tail hx
      rwa [List.tail_drop, List.tail_cons] at this
    rw [hx, getI]
    have hsh : ∀ (u v : Operand) (a : Int), pbin Tryz.prog .shl 2 u v (.int .i64 a) (.int .u64 (7 * (i : Int))) = some (.int .i64 (shlI a (7 * i))) := fun u v a => by
      have e : pbin Tryz.prog .shl 2 u v (.int .i64 a) (.int .u64 (7 * (i : Int))) = prun Tryz.prog (Op.shift .shl .i64 a .u64 (7 * (i : Int))) := rfl
      rw [e]
      unfold Op.shift
      rw [if_neg (by omega)]
      show some (Value.int .i64 (IntKind.i64.wrap (a * 2 ^ (min (7 * (i : Int)).toNat 64)))) = _
      rw [show min (7 * (i : Int)).toNat 64 = 7 * i by omega]
      rfl
    have hs2 : ∀ (u v : Operand) (a : Int), 7 * ((i : Int) + 1) < 64 → pbin Tryz.prog .shl 2 u v (.int .i64 a) (.int .u64 (7 * ((i : Int) + 1))) = some (.int .i64 (shlI a (7 * (i + 1)))) := fun u v a hlt => by
      have e : pbin Tryz.prog .shl 2 u v (.int .i64 a) (.int .u64 (7 * ((i : Int) + 1))) = prun Tryz.prog (Op.shift .shl .i64 a .u64 (7 * ((i : Int) + 1))) := rfl
      rw [e]
      unfold Op.shift
      rw [if_neg (by omega)]
      show some (Value.int .i64 (IntKind.i64.wrap (a * 2 ^ (min (7 * ((i : Int) + 1)).toNat 64)))) = _
      rw [show min (7 * ((i : Int) + 1)).toNat 64 = 7 * (i + 1) by omega]
      rfl
    have hwr : IntKind.i64.wrap (((x &&& ~~~128).toNat : Nat) : Int) = ((x &&& ~~~128).toNat : Nat) := QAN (by omega) (by have := (x &&& ~~~128).toNat_lt; omega)
    have hgp : 0 < i → (List.drop ((i : Int) - 1).toNat (flat QC b))[0]? = some (.v (.int .u8 p.toNat)) := fun h0 => by
      have e := h4 h0
      rw [show ((i : Int) - 1).toNat = i - 1 by omega, show List.drop (i - 1) (flat QC b) = flat QC (b.drop (i - 1)) from QL, List.drop_eq_getElem_cons (show i - 1 < b.length by omega)]
      rw [List.getElem?_eq_getElem (show i - 1 < b.length by omega)] at e
      injection e with e
      rw [e]; rfl
    obtain ⟨v, hv⟩ : ∃ v, v = orI n (shlI (x &&& ~~~128).toNat (7 * i)) := ⟨_, rfl⟩
    rw [← hv]
    obtain ⟨r, hr⟩ : ∃ r, r = (if i = 9 ∧ x.toNat ≠ 0 ∧ x.toNat ≠ 127 then ((0 : Int), 0, 4) else
    if 128 ≤ x.toNat then getI (i + 1) v x l else
    if 0 < i ∧ (x.toNat = 0 ∧ (p &&& 64).toNat = 0 ∨ x.toNat = 127 ∧ (p &&& 64).toNat ≠ 0) then (0, 0, 4) else
    (if (x &&& 64).toNat ≠ 0 ∧ i < 9 then orI v (shlI (-1) (7 * (i + 1))) else v, i + 1, 0)) := ⟨_, rfl⟩
    rw [← hr]
    simp (maxSteps := 400000) (disch := first | omega | exact okT rfl | simp only [push_cast]) only [push_cast, ↓QG, ↓reduceIte, Nat.reduceAdd, Nat.reduceMul, Nat.reduceSub, Nat.reduceEqDiff, Nat.reduceBEq, Nat.reduceBNe, Nat.reduceLT, Nat.reduceLeDiff, reduceCtorEq, Op.operands, QA, QB, Nat.sub_zero, hg, QN2, hsh, hwr, ← hv, hgp, hs2]
    iterate 14 all_goals (try (refine And.intro (fun _ => ?_) (fun _ => ?_) <;> try simp (maxSteps := 400000) (disch := first | omega | exact okT rfl | simp only [push_cast]) only [push_cast, ↓QG, ↓reduceIte, Nat.reduceAdd, Nat.reduceMul, Nat.reduceSub, Nat.reduceEqDiff, Nat.reduceBEq, Nat.reduceBNe, Nat.reduceLT, Nat.reduceLeDiff, reduceCtorEq, Op.operands, QA, QB, Nat.sub_zero, hg, QN2, hsh, hwr, ← hv, hgp, hs2]))
    all_goals first
      | (exfalso; omega)
      | (have hr' : r = (0, 0, 4) := by rw [hr]; iterate 5 (try first | rw [if_pos (by omega)] | rw [if_neg (by omega)])
         rw [hr']; simp (maxSteps := 400000) (disch := first | omega | exact okT rfl | simp only [push_cast]) only [push_cast, ↓QG, ↓reduceIte, Nat.reduceAdd, Nat.reduceMul, Nat.reduceSub, Nat.reduceEqDiff, Nat.reduceBEq, Nat.reduceBNe, Nat.reduceLT, Nat.reduceLeDiff, reduceCtorEq, Op.operands, QA, QB, Nat.sub_zero, giR]; done)
      | (have hr' : r = (0, 0, 4) := by rw [hr]; iterate 5 (try first | rw [if_pos (by omega)] | rw [if_neg (by omega)])
         rw [hr']; simp (maxSteps := 400000) (disch := first | omega | exact okT rfl | simp only [push_cast]) only [push_cast, ↓QG, ↓reduceIte, Nat.reduceAdd, Nat.reduceMul, Nat.reduceSub, Nat.reduceEqDiff, Nat.reduceBEq, Nat.reduceBNe, Nat.reduceLT, Nat.reduceLeDiff, reduceCtorEq, Op.operands, QA, QB, Nat.sub_zero, giR]; rfl)
      | (have hr' : r = (v, i + 1, 0) := by rw [hr]; iterate 5 (try first | rw [if_pos (by omega)] | rw [if_neg (by omega)])
         rw [hr']; simp (maxSteps := 400000) (disch := first | omega | exact okT rfl | simp only [push_cast]) only [push_cast, ↓QG, ↓reduceIte, Nat.reduceAdd, Nat.reduceMul, Nat.reduceSub, Nat.reduceEqDiff, Nat.reduceBEq, Nat.reduceBNe, Nat.reduceLT, Nat.reduceLeDiff, reduceCtorEq, Op.operands, QA, QB, Nat.sub_zero, giR]; done)
      | (have hr' : r = (orI v (shlI (-1) (7 * (i + 1))), i + 1, 0) := by rw [hr]; iterate 5 (try first | rw [if_pos (by omega)] | rw [if_neg (by omega)])
         rw [hr']; simp (maxSteps := 400000) (disch := first | omega | exact okT rfl | simp only [push_cast]) only [push_cast, ↓QG, ↓reduceIte, Nat.reduceAdd, Nat.reduceMul, Nat.reduceSub, Nat.reduceEqDiff, Nat.reduceBEq, Nat.reduceBNe, Nat.reduceLT, Nat.reduceLeDiff, reduceCtorEq, Op.operands, QA, QB, Nat.sub_zero, giR]; done)
      | (refine ⟨(i + 1, v, x), ⟨zO, zO, fun _ => ?_, ?_⟩, zO, ?_⟩
         · show b[i + 1 - 1]? = some x
           have := List.getElem?_drop (xs := b) (i := i) (j := 0)
           rw [hx] at this
           simpa using this.symm
         · show getI (i + 1) _ x (b.drop (i + 1)) = _
           rw [hl, hr]; iterate 5 (try first | rw [if_pos (by omega)] | rw [if_neg (by omega)])
         refine Ent.freezeN 0 [] [] ?_ ?_ rfl rfl rfl (by decide) rfl rfl
         · exact zC
         · simp (maxSteps := 400000) (disch := first | omega | exact okT rfl | simp only [push_cast]) only [push_cast, ↓QG, ↓reduceIte, Nat.reduceAdd, Nat.reduceMul, Nat.reduceSub, Nat.reduceEqDiff, Nat.reduceBEq, Nat.reduceBNe, Nat.reduceLT, Nat.reduceLeDiff, reduceCtorEq, Op.operands, QA, QB, Nat.sub_zero])
  · have hi : b.drop i = [] := List.drop_eq_nil_of_le (by omega)
    rw [hi, getI]
    (have X1:=@giR.eq_1;first | exact zC1 | refine zS1 ?_)
    rfl
open Proofs
def nch (n:Nat):Bool:=decide (97≤n∧n≤122∨65≤n∧n≤90∨48≤n∧n≤57∨n=46∨n=95∨n=45)
def chN (s:ByteArray) (j:Nat):Nat:=(s.data.toList.getD j 0).toNat
def QBP (s:ByteArray):Bool:=decide (∀j,j<s.size→nch (chN s j)=true)&&decide (1≤s.size∧s.size≤32)&&decide (s≠⟨#[45]⟩)
theorem QSZ {s:ByteArray} (h1:∀j,j<s.size→nch (chN s j)=true) (h2:1≤s.size) (h3:s.size≤32) (h4:s≠⟨#[45]⟩):QBP s=true:=by
 simp only [QBP,Bool.and_eq_true,decide_eq_true_eq];exact⟨⟨h1,h2,h3⟩,h4⟩
theorem QDG {s:ByteArray} (h:(∃j,j<s.size∧nch (chN s j)=false)∨s.size<1∨32<s.size∨s=⟨#[45]⟩):QBP s=false:=by
 cases e:QBP s with
 | false=>rfl
 | true=>
  simp only [QBP,Bool.and_eq_true,decide_eq_true_eq] at e
  obtain⟨⟨h1,h2,h3⟩,h4⟩:=e
  rcases h with ⟨j,h5,h6⟩ | h | h | h
  ·rw [h1 j h5] at h6;cases h6
  ·omega
  ·omega
  ·exact absurd h h4
theorem QTf (s : ByteArray) (h : s.size ≤ 1048576) : QE Tryz.prog [] 77 [.v (.string s)] (.v (.bool (QBP s))) := by
  refine QE.start Tryz.func77 rfl (by kernel_rfl) rfl Tryz.ntmps77 fol (by kernel_rfl) rfl rfl ?_
  refine zZ ?_
  refine ⟨fun h1 => ?_, fun h1 => ?_⟩
  · refine zS ?_
    refine ⟨fun h2 => ?_, fun h2 => ?_⟩
    · refine zS ?_
      refine ⟨fun h3 => ?_, fun h3 => ?_⟩
      · refine zS ?_
        rw [QDG (.inr (.inr (.inr h3)))]
      · refine zS ?_
        refine QD (ι := Nat) (fun i => ⟨[(0, .v (.string s)), (18, .v (.int .i64 s.size)), (19, .v (.int .i64 i))], ⟨[], 0, 0, 0⟩⟩) (fun i => i ≤ s.size ∧ ∀ j, j < i → nch (chN s j) = true) (fun i => s.size - i) 0 ⟨Nat.zero_le _, fun j hj => absurd hj (Nat.not_lt_zero _)⟩ ?_ ?_
        · refine Ent.freeze [] ?_ ?_ rfl rfl rfl
          · exact zC
          · exact zC
        intro i ⟨hi, hall⟩
        refine zS ?_
        refine ⟨fun h4 => ?_, fun h4 => ?_⟩
        · have hi1 : i < s.size := by omega
          refine zS ?_
          generalize hc : (s.data.toList.getD i 0).toNat = c
          have hcn : chN s i = c := hc
          have good : (97 ≤ c ∧ c ≤ 122 ∨ 65 ≤ c ∧ c ≤ 90 ∨ 48 ≤ c ∧ c ≤ 57 ∨ c = 46 ∨ c = 95 ∨ c = 45) → ∀ j, j < i + 1 → nch (chN s j) = true := fun hg j hj => by
            rcases Nat.lt_or_ge j i with h5 | h5
            · exact hall j h5
            · obtain rfl : j = i := by omega
              rw [hcn]; exact decide_eq_true hg
          iterate 9 all_goals (try (refine ⟨fun h => ?_, fun h => ?_⟩ <;> simp (maxSteps := 400000) (disch := first | omega | exact okT rfl | simp only [push_cast]) only [push_cast, ↓QG, ↓reduceIte, Nat.reduceAdd, Nat.reduceMul, Nat.reduceSub, Nat.reduceEqDiff, Nat.reduceBEq, Nat.reduceBNe, Nat.reduceLT, Nat.reduceLeDiff, reduceCtorEq, Op.operands, QA, QB, Nat.sub_zero]))
          all_goals first
            | (rw [QDG (.inl ⟨i, hi1, by rw [hcn]; exact decide_eq_false (by omega)⟩)]; done)
            | (refine ⟨i + 1, ⟨zO, good (by omega)⟩, zO, ?_⟩
               refine Ent.freeze [] ?_ ?_ rfl rfl rfl
               · exact zC
               · simp (maxSteps := 400000) (disch := first | omega | exact okT rfl | simp only [push_cast]) only [push_cast, ↓QG, ↓reduceIte, Nat.reduceAdd, Nat.reduceMul, Nat.reduceSub, Nat.reduceEqDiff, Nat.reduceBEq, Nat.reduceBNe, Nat.reduceLT, Nat.reduceLeDiff, reduceCtorEq, Op.operands, QA, QB, Nat.sub_zero])
        · refine zS ?_
          have hi1 : i = s.size := by omega
          subst hi1
          rw [QSZ hall (by omega) (by omega) h3]
    · refine zS ?_
      rw [QDG (.inr (.inr (.inl (by omega))))]
  · refine zS ?_
    rw [QDG (.inr (.inl (by omega)))]
theorem QMy (s : ByteArray) (h : s.size ≤ 1048576) : QE Tryz.prog [] 103 [.v (.string s)] (.v (.bool (QBP s))) := by
  refine QE.start Tryz.func103 rfl (by kernel_rfl) rfl Tryz.ntmps103 fol (by kernel_rfl) rfl rfl ?_
  refine zZ ?_
  refine QD (ι := Nat) (fun i => ⟨[(0, .v (.string s)), (3, .v (.int .i64 i))], ⟨[], 0, 0, 0⟩⟩) (fun i => i ≤ s.size ∧ ∀ j, j < i → nch (chN s j) = true) (fun i => s.size - i) 0 ⟨Nat.zero_le _, fun j hj => absurd hj (Nat.not_lt_zero _)⟩ ?_ ?_
  · refine Ent.freeze [] ?_ ?_ rfl rfl rfl
    · exact zC
    · exact zC
  intro i ⟨hi, hall⟩
  refine zS ?_
  refine ⟨fun h4 => ?_, fun h4 => ?_⟩
  · have hi1 : i < s.size := by omega
    refine zS ?_
    generalize hc : (s.data.toList.getD i 0).toNat = c
    have hcn : chN s i = c := hc
    have good : (97 ≤ c ∧ c ≤ 122 ∨ 65 ≤ c ∧ c ≤ 90 ∨ 48 ≤ c ∧ c ≤ 57 ∨ c = 46 ∨ c = 95 ∨ c = 45) → ∀ j, j < i + 1 → nch (chN s j) = true := fun hg j hj => by
      rcases Nat.lt_or_ge j i with h5 | h5
      · exact hall j h5
      · obtain rfl : j = i := by omega
        rw [hcn]; exact decide_eq_true hg
    iterate 9 all_goals (try (refine ⟨fun h => ?_, fun h => ?_⟩ <;> simp (maxSteps := 400000) (disch := first | omega | exact okT rfl | simp only [push_cast]) only [push_cast, ↓QG, ↓reduceIte, Nat.reduceAdd, Nat.reduceMul, Nat.reduceSub, Nat.reduceEqDiff, Nat.reduceBEq, Nat.reduceBNe, Nat.reduceLT, Nat.reduceLeDiff, reduceCtorEq, Op.operands, QA, QB, Nat.sub_zero]))
    all_goals first
      | (rw [QDG (.inl ⟨i, hi1, by rw [hcn]; exact decide_eq_false (by omega)⟩)]; done)
      | (refine ⟨i + 1, ⟨zO, good (by omega)⟩, zO, ?_⟩
         refine Ent.freeze [] ?_ ?_ rfl rfl rfl
         · exact zC
         · simp (maxSteps := 400000) (disch := first | omega | exact okT rfl | simp only [push_cast]) only [push_cast, ↓QG, ↓reduceIte, Nat.reduceAdd, Nat.reduceMul, Nat.reduceSub, Nat.reduceEqDiff, Nat.reduceBEq, Nat.reduceBNe, Nat.reduceLT, Nat.reduceLeDiff, reduceCtorEq, Op.operands, QA, QB, Nat.sub_zero])
  · have hi1 : i = s.size := by omega
    subst hi1
    refine zS ?_
    iterate 4 all_goals (try (refine ⟨fun h => ?_, fun h => ?_⟩ <;> simp (maxSteps := 400000) (disch := first | omega | exact okT rfl | simp only [push_cast]) only [push_cast, ↓QG, ↓reduceIte, Nat.reduceAdd, Nat.reduceMul, Nat.reduceSub, Nat.reduceEqDiff, Nat.reduceBEq, Nat.reduceBNe, Nat.reduceLT, Nat.reduceLeDiff, reduceCtorEq, Op.operands, QA, QB, Nat.sub_zero]))
    all_goals first
      | (rw [QDG (.inr (.inl (by omega)))]; done)
      | (rw [QDG (.inr (.inr (.inl (by omega))))]; done)
      | (by_cases e : s = ⟨#[45]⟩
         · rw [QDG (.inr (.inr (.inr e)))]; simp [e]
         · rw [QSZ hall (by omega) (by omega) e]; simp [e])
end Go.AW
