/- Contracts: names, clones. -/
import Derived.Test.YteoodenfggmpfaaCY1
import Derived.Test.YteoodenfggmpfaaFd
namespace Go.AW
open Proofs

set_option linter.unusedSimpArgs false
set_option linter.unusedVariables false
set_option maxRecDepth 100000
set_option maxHeartbeats 4000000

theorem c15 (hs : List ByteArray) (h : hs.length ≤ 1048576) : PNew Try.prog [] 15 [.seq hs.length 1 (flat scell hs)] (.seq hs.length 1 (flat scell hs)) := by
  refine PNew.startW Try.func15 rfl (by kernel_rfl) rfl Try.ntmps15 fol (by kernel_rfl) (by simp [idfL, idf, idfL_flat idfL_scell]) (by simp [idf, idfL_flat idfL_scell]) ?_
  simp only [List.zipIdx_cons, List.zipIdx_nil, List.map_cons, List.map_nil, Nat.zero_add]
  simp (maxSteps := 400000) (disch := first | omega | exact okT rfl | simp only [push_cast]) only [push_cast, ↓ite_cnd, ↓reduceIte, Nat.reduceAdd, Nat.reduceMul, Nat.reduceSub, Nat.reduceEqDiff, Nat.reduceBEq, Nat.reduceBNe, Nat.reduceLT, Nat.reduceLeDiff, reduceCtorEq, Op.operands, flat_take_succ, flat_take_all]
  intro h0
  obtain rfl := List.eq_nil_of_length_eq_zero h0
  simp [flat]

/-- May a letter stand in a name? -/
def nch (n : Nat) : Bool := decide (97 ≤ n ∧ n ≤ 122 ∨ 65 ≤ n ∧ n ≤ 90 ∨ 48 ≤ n ∧ n ≤ 57 ∨ n = 46 ∨ n = 95 ∨ n = 45)
def chN (s : ByteArray) (j : Nat) : Nat := (s.data.toList.getD j 0).toNat
def nameB (s : ByteArray) : Bool := decide (∀ j, j < s.size → nch (chN s j) = true) && decide (1 ≤ s.size ∧ s.size ≤ 32) && decide (s ≠ ⟨#[45]⟩)
theorem nameB_t {s : ByteArray} (h1 : ∀ j, j < s.size → nch (chN s j) = true) (h2 : 1 ≤ s.size) (h3 : s.size ≤ 32) (h4 : s ≠ ⟨#[45]⟩) : nameB s = true := by
  simp only [nameB, Bool.and_eq_true, decide_eq_true_eq]; exact ⟨⟨h1, h2, h3⟩, h4⟩
theorem nameB_f {s : ByteArray} (h : (∃ j, j < s.size ∧ nch (chN s j) = false) ∨ s.size < 1 ∨ 32 < s.size ∨ s = ⟨#[45]⟩) : nameB s = false := by
  cases e : nameB s with
  | false => rfl
  | true =>
    simp only [nameB, Bool.and_eq_true, decide_eq_true_eq] at e
    obtain ⟨⟨h1, h2, h3⟩, h4⟩ := e
    rcases h with ⟨j, h5, h6⟩ | h | h | h
    · rw [h1 j h5] at h6; cases h6
    · omega
    · omega
    · exact absurd h h4

theorem c16 (s : ByteArray) (h : s.size ≤ 1048576) : PCall Try.prog [] 16 [.v (.string s)] (.v (.bool (nameB s))) := by
  refine PCall.start Try.func16 rfl (by kernel_rfl) rfl Try.ntmps16 fol (by kernel_rfl) rfl rfl ?_
  simp only [List.zipIdx_cons, List.zipIdx_nil, List.map_cons, List.map_nil, Nat.zero_add]
  simp (maxSteps := 400000) (disch := first | omega | exact okT rfl | simp only [push_cast]) only [push_cast, ↓ite_cnd, ↓reduceIte, Nat.reduceAdd, Nat.reduceMul, Nat.reduceSub, Nat.reduceEqDiff, Nat.reduceBEq, Nat.reduceBNe, Nat.reduceLT, Nat.reduceLeDiff, reduceCtorEq, Op.operands, flat_take_succ, flat_take_all]
  refine ⟨fun h1 => ?_, fun h1 => ?_⟩
  · simp (maxSteps := 400000) (disch := first | omega | exact okT rfl | simp only [push_cast]) only [push_cast, ↓ite_cnd, ↓reduceIte, Nat.reduceAdd, Nat.reduceMul, Nat.reduceSub, Nat.reduceEqDiff, Nat.reduceBEq, Nat.reduceBNe, Nat.reduceLT, Nat.reduceLeDiff, reduceCtorEq, Op.operands, flat_take_succ, flat_take_all]
    refine ⟨fun h2 => ?_, fun h2 => ?_⟩
    · simp (maxSteps := 400000) (disch := first | omega | exact okT rfl | simp only [push_cast]) only [push_cast, ↓ite_cnd, ↓reduceIte, Nat.reduceAdd, Nat.reduceMul, Nat.reduceSub, Nat.reduceEqDiff, Nat.reduceBEq, Nat.reduceBNe, Nat.reduceLT, Nat.reduceLeDiff, reduceCtorEq, Op.operands, flat_take_succ, flat_take_all]
      refine ⟨fun h3 => ?_, fun h3 => ?_⟩
      · simp (maxSteps := 400000) (disch := first | omega | exact okT rfl | simp only [push_cast]) only [push_cast, ↓ite_cnd, ↓reduceIte, Nat.reduceAdd, Nat.reduceMul, Nat.reduceSub, Nat.reduceEqDiff, Nat.reduceBEq, Nat.reduceBNe, Nat.reduceLT, Nat.reduceLeDiff, reduceCtorEq, Op.operands, flat_take_succ, flat_take_all]
        rw [nameB_f (.inr (.inr (.inr h3)))]
      · simp (maxSteps := 400000) (disch := first | omega | exact okT rfl | simp only [push_cast]) only [push_cast, ↓ite_cnd, ↓reduceIte, Nat.reduceAdd, Nat.reduceMul, Nat.reduceSub, Nat.reduceEqDiff, Nat.reduceBEq, Nat.reduceBNe, Nat.reduceLT, Nat.reduceLeDiff, reduceCtorEq, Op.operands, flat_take_succ, flat_take_all]
        refine ev_loopI (ι := Nat) (fun i => ⟨[(0, .v (.string s)), (18, .v (.int .i64 s.size)), (19, .v (.int .i64 i))], ⟨[], 0, 0, 0⟩⟩) (fun i => i ≤ s.size ∧ ∀ j, j < i → nch (chN s j) = true) (fun i => s.size - i) 0 ⟨Nat.zero_le _, fun j hj => absurd hj (Nat.not_lt_zero _)⟩ ?_ ?_
        · refine Ent.freeze [] ?_ ?_ rfl rfl rfl
          · simp (maxSteps := 400000) (disch := first | omega | exact okT rfl | simp only [push_cast]) only [push_cast, ↓ite_cnd, ↓reduceIte, Nat.reduceAdd, Nat.reduceMul, Nat.reduceSub, Nat.reduceEqDiff, Nat.reduceBEq, Nat.reduceBNe, Nat.reduceLT, Nat.reduceLeDiff, reduceCtorEq, Op.operands, flat_take_succ, flat_take_all]
          · simp (maxSteps := 400000) (disch := first | omega | exact okT rfl | simp only [push_cast]) only [push_cast, ↓ite_cnd, ↓reduceIte, Nat.reduceAdd, Nat.reduceMul, Nat.reduceSub, Nat.reduceEqDiff, Nat.reduceBEq, Nat.reduceBNe, Nat.reduceLT, Nat.reduceLeDiff, reduceCtorEq, Op.operands, flat_take_succ, flat_take_all]
        intro i ⟨hi, hall⟩
        simp (maxSteps := 400000) (disch := first | omega | exact okT rfl | simp only [push_cast]) only [push_cast, ↓ite_cnd, ↓reduceIte, Nat.reduceAdd, Nat.reduceMul, Nat.reduceSub, Nat.reduceEqDiff, Nat.reduceBEq, Nat.reduceBNe, Nat.reduceLT, Nat.reduceLeDiff, reduceCtorEq, Op.operands, flat_take_succ, flat_take_all]
        refine ⟨fun h4 => ?_, fun h4 => ?_⟩
        · have hi1 : i < s.size := by omega
          simp (maxSteps := 400000) (disch := first | omega | exact okT rfl | simp only [push_cast]) only [push_cast, ↓ite_cnd, ↓reduceIte, Nat.reduceAdd, Nat.reduceMul, Nat.reduceSub, Nat.reduceEqDiff, Nat.reduceBEq, Nat.reduceBNe, Nat.reduceLT, Nat.reduceLeDiff, reduceCtorEq, Op.operands, flat_take_succ, flat_take_all]
          generalize hc : (s.data.toList.getD i 0).toNat = c
          have hcn : chN s i = c := hc
          have good : (97 ≤ c ∧ c ≤ 122 ∨ 65 ≤ c ∧ c ≤ 90 ∨ 48 ≤ c ∧ c ≤ 57 ∨ c = 46 ∨ c = 95 ∨ c = 45) → ∀ j, j < i + 1 → nch (chN s j) = true := fun hg j hj => by
            rcases Nat.lt_or_ge j i with h5 | h5
            · exact hall j h5
            · obtain rfl : j = i := by omega
              rw [hcn]; exact decide_eq_true hg
          iterate 9 all_goals (try (refine ⟨fun h => ?_, fun h => ?_⟩ <;> simp (maxSteps := 400000) (disch := first | omega | exact okT rfl | simp only [push_cast]) only [push_cast, ↓ite_cnd, ↓reduceIte, Nat.reduceAdd, Nat.reduceMul, Nat.reduceSub, Nat.reduceEqDiff, Nat.reduceBEq, Nat.reduceBNe, Nat.reduceLT, Nat.reduceLeDiff, reduceCtorEq, Op.operands, flat_take_succ, flat_take_all]))
          all_goals first
            | (rw [nameB_f (.inl ⟨i, hi1, by rw [hcn]; exact decide_eq_false (by omega)⟩)]; done)
            | (refine ⟨i + 1, ⟨by show i + 1 ≤ s.size; omega, good (by omega)⟩, by show s.size - (i + 1) < s.size - i; omega, ?_⟩
               refine Ent.freeze [] ?_ ?_ rfl rfl rfl
               · simp (maxSteps := 400000) (disch := first | omega | exact okT rfl | simp only [push_cast]) only [push_cast, ↓ite_cnd, ↓reduceIte, Nat.reduceAdd, Nat.reduceMul, Nat.reduceSub, Nat.reduceEqDiff, Nat.reduceBEq, Nat.reduceBNe, Nat.reduceLT, Nat.reduceLeDiff, reduceCtorEq, Op.operands, flat_take_succ, flat_take_all]
               · simp (maxSteps := 400000) (disch := first | omega | exact okT rfl | simp only [push_cast]) only [push_cast, ↓ite_cnd, ↓reduceIte, Nat.reduceAdd, Nat.reduceMul, Nat.reduceSub, Nat.reduceEqDiff, Nat.reduceBEq, Nat.reduceBNe, Nat.reduceLT, Nat.reduceLeDiff, reduceCtorEq, Op.operands, flat_take_succ, flat_take_all])
        · simp (maxSteps := 400000) (disch := first | omega | exact okT rfl | simp only [push_cast]) only [push_cast, ↓ite_cnd, ↓reduceIte, Nat.reduceAdd, Nat.reduceMul, Nat.reduceSub, Nat.reduceEqDiff, Nat.reduceBEq, Nat.reduceBNe, Nat.reduceLT, Nat.reduceLeDiff, reduceCtorEq, Op.operands, flat_take_succ, flat_take_all]
          have hi1 : i = s.size := by omega
          subst hi1
          rw [nameB_t hall (by omega) (by omega) h3]
    · simp (maxSteps := 400000) (disch := first | omega | exact okT rfl | simp only [push_cast]) only [push_cast, ↓ite_cnd, ↓reduceIte, Nat.reduceAdd, Nat.reduceMul, Nat.reduceSub, Nat.reduceEqDiff, Nat.reduceBEq, Nat.reduceBNe, Nat.reduceLT, Nat.reduceLeDiff, reduceCtorEq, Op.operands, flat_take_succ, flat_take_all]
      rw [nameB_f (.inr (.inr (.inl (by omega))))]
  · simp (maxSteps := 400000) (disch := first | omega | exact okT rfl | simp only [push_cast]) only [push_cast, ↓ite_cnd, ↓reduceIte, Nat.reduceAdd, Nat.reduceMul, Nat.reduceSub, Nat.reduceEqDiff, Nat.reduceBEq, Nat.reduceBNe, Nat.reduceLT, Nat.reduceLeDiff, reduceCtorEq, Op.operands, flat_take_succ, flat_take_all]
    rw [nameB_f (.inr (.inl (by omega)))]
end Go.AW
