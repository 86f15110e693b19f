/- Contracts: the law PatchSames. -/
import Derived.Test.YteoodenfggmpfaaCY6
namespace Go.AW
open Proofs

set_option linter.unusedSimpArgs false
set_option maxRecDepth 100000
set_option maxHeartbeats 4000000

theorem c13 : PCall Try.prog [] 13 [] (.v (.bool true)) := PCall.closed 100000 30 fol (by kernel_rfl)

theorem c4 (a b : List PatchV) (ha : a.length ≤ 1048576) (hb : b.length ≤ 1048576) (hav : ∀ p ∈ a, p.values.length ≤ 1048576 ∧ p.src.length ≤ 1048576) (hbv : ∀ p ∈ b, p.values.length ≤ 1048576 ∧ p.src.length ≤ 1048576) : PCall Try.prog [] 4 [.seq a.length 9 (flat pcell a), .seq b.length 9 (flat pcell b)] (.v (.bool true)) := by
  have big : ∀ {l : List PatchV}, (∀ p ∈ l, p.values.length ≤ 1048576 ∧ p.src.length ≤ 1048576) → ∀ p ∈ l, p.values.length ≤ 4611686018427387904 ∧ p.src.length ≤ 4611686018427387904 := fun h p hp => ⟨by have := (h p hp).1; omega, by have := (h p hp).2; omega⟩
  refine PCall.start Try.func4 rfl (by kernel_rfl) rfl Try.ntmps4 fol (by kernel_rfl) (by simp [idfL, idf, idfL_flat idfL_pcell]) rfl ?_
  simp only [List.zipIdx_cons, List.zipIdx_nil, List.map_cons, List.map_nil, Nat.zero_add]
  simp (maxSteps := 400000) (disch := first | omega | exact okT rfl | simp only [push_cast]) only [push_cast, ↓ite_cnd, ↓reduceIte, Nat.reduceAdd, Nat.reduceMul, Nat.reduceSub, Nat.reduceEqDiff, Nat.reduceBEq, Nat.reduceBNe, Nat.reduceLT, Nat.reduceLeDiff, reduceCtorEq, Op.operands, flat_take_succ, flat_take_all]
  refine PCall.useV (c14 _ _ (by omega) (big hav)) ?_
  simp (maxSteps := 400000) (disch := first | omega | exact okT rfl | simp only [push_cast]) only [push_cast, ↓ite_cnd, ↓reduceIte, Nat.reduceAdd, Nat.reduceMul, Nat.reduceSub, Nat.reduceEqDiff, Nat.reduceBEq, Nat.reduceBNe, Nat.reduceLT, Nat.reduceLeDiff, reduceCtorEq, Op.operands, flat_take_succ, flat_take_all]
  refine PCall.useV (c12 _ _ (by omega) (big hav)) ?_
  have e1 : (decide (b = a) : Bool) = decide (a = b) := by rw [decide_eq_decide]; exact eq_comm
  simp (maxSteps := 400000) (disch := first | omega | exact okT rfl | simp only [push_cast]) only [push_cast, ↓ite_cnd, ↓reduceIte, Nat.reduceAdd, Nat.reduceMul, Nat.reduceSub, Nat.reduceEqDiff, Nat.reduceBEq, Nat.reduceBNe, Nat.reduceLT, Nat.reduceLeDiff, reduceCtorEq, Op.operands, flat_take_succ, flat_take_all, decide_true]
  refine PCall.useV (c14 _ _ (by omega) (big hbv)) ?_
  simp (maxSteps := 400000) (disch := first | omega | exact okT rfl | simp only [push_cast]) only [push_cast, ↓ite_cnd, ↓reduceIte, Nat.reduceAdd, Nat.reduceMul, Nat.reduceSub, Nat.reduceEqDiff, Nat.reduceBEq, Nat.reduceBNe, Nat.reduceLT, Nat.reduceLeDiff, reduceCtorEq, Op.operands, flat_take_succ, flat_take_all]
  refine PCall.useV (c12 _ _ (by omega) (big hav)) ?_
  simp (maxSteps := 400000) (disch := first | omega | exact okT rfl | simp only [push_cast]) only [push_cast, ↓ite_cnd, ↓reduceIte, Nat.reduceAdd, Nat.reduceMul, Nat.reduceSub, Nat.reduceEqDiff, Nat.reduceBEq, Nat.reduceBNe, Nat.reduceLT, Nat.reduceLeDiff, reduceCtorEq, Op.operands, flat_take_succ, flat_take_all, decide_true, e1]
  refine PCall.useV (c6 _ (by omega) hav) ?_
  simp (maxSteps := 400000) (disch := first | omega | exact okT rfl | simp only [push_cast]) only [push_cast, ↓ite_cnd, ↓reduceIte, Nat.reduceAdd, Nat.reduceMul, Nat.reduceSub, Nat.reduceEqDiff, Nat.reduceBEq, Nat.reduceBNe, Nat.reduceLT, Nat.reduceLeDiff, reduceCtorEq, Op.operands, flat_take_succ, flat_take_all]
  refine PCall.useV (c14 _ _ (by omega) (big hav)) ?_
  simp (maxSteps := 400000) (disch := first | omega | exact okT rfl | simp only [push_cast]) only [push_cast, ↓ite_cnd, ↓reduceIte, Nat.reduceAdd, Nat.reduceMul, Nat.reduceSub, Nat.reduceEqDiff, Nat.reduceBEq, Nat.reduceBNe, Nat.reduceLT, Nat.reduceLeDiff, reduceCtorEq, Op.operands, flat_take_succ, flat_take_all, decide_true]
  refine PCall.useV c13 ?_
  simp (maxSteps := 400000) (disch := first | omega | exact okT rfl | simp only [push_cast]) only [push_cast, ↓ite_cnd, ↓reduceIte, Nat.reduceAdd, Nat.reduceMul, Nat.reduceSub, Nat.reduceEqDiff, Nat.reduceBEq, Nat.reduceBNe, Nat.reduceLT, Nat.reduceLeDiff, reduceCtorEq, Op.operands, flat_take_succ, flat_take_all, decide_true]
end Go.AW
