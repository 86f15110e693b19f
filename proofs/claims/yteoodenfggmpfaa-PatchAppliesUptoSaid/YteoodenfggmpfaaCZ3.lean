/- Contracts: names that rise. -/
import Derived.Test.YteoodenfggmpfaaCZ2
import Derived.Test.YteoodenfggmpfaaFd
namespace Go.AW
open Proofs

set_option linter.unusedSimpArgs false
set_option linter.unusedVariables false
set_option maxRecDepth 100000
set_option maxHeartbeats 8000000

theorem c22 (e : EntryV) : PCall Try.prog [] 22 [.agg (ecell e)] (.v (.string e.key)) := by
  refine PCall.start Try.func22 rfl (by kernel_rfl) rfl Try.ntmps22 fol (by kernel_rfl) (by simp [idfL, idf, idfL_ecell]) rfl ?_
  simp only [List.zipIdx_cons, List.zipIdx_nil, List.map_cons, List.map_nil, Nat.zero_add]
  simp (maxSteps := 400000) (disch := first | omega | exact okT rfl | simp only [push_cast]) only [push_cast, ↓ite_cnd, ↓reduceIte, Nat.reduceAdd, Nat.reduceMul, Nat.reduceSub, Nat.reduceEqDiff, Nat.reduceBEq, Nat.reduceBNe, Nat.reduceLT, Nat.reduceLeDiff, reduceCtorEq, Op.operands, flat_take_succ, flat_take_all]
theorem c24 (e : CountV) : PCall Try.prog [] 24 [.agg (ccell e)] (.v (.string e.key)) := by
  refine PCall.start Try.func24 rfl (by kernel_rfl) rfl Try.ntmps24 fol (by kernel_rfl) (by simp [idfL, idf, idfL_ccell]) rfl ?_
  simp only [List.zipIdx_cons, List.zipIdx_nil, List.map_cons, List.map_nil, Nat.zero_add]
  simp (maxSteps := 400000) (disch := first | omega | exact okT rfl | simp only [push_cast]) only [push_cast, ↓ite_cnd, ↓reduceIte, Nat.reduceAdd, Nat.reduceMul, Nat.reduceSub, Nat.reduceEqDiff, Nat.reduceBEq, Nat.reduceBNe, Nat.reduceLT, Nat.reduceLeDiff, reduceCtorEq, Op.operands, flat_take_succ, flat_take_all]
theorem c26 (e : TextV) : PCall Try.prog [] 26 [.agg (tcell e)] (.v (.string e.name)) := by
  refine PCall.start Try.func26 rfl (by kernel_rfl) rfl Try.ntmps26 fol (by kernel_rfl) (by simp [idfL, idf, idfL_tcell]) rfl ?_
  simp only [List.zipIdx_cons, List.zipIdx_nil, List.map_cons, List.map_nil, Nat.zero_add]
  simp (maxSteps := 400000) (disch := first | omega | exact okT rfl | simp only [push_cast]) only [push_cast, ↓ite_cnd, ↓reduceIte, Nat.reduceAdd, Nat.reduceMul, Nat.reduceSub, Nat.reduceEqDiff, Nat.reduceBEq, Nat.reduceBNe, Nat.reduceLT, Nat.reduceLeDiff, reduceCtorEq, Op.operands, flat_take_succ, flat_take_all]

/-- May a row of names stand in a document? -/
def okAt (l : List ByteArray) (j : Nat) : Prop := nameB (l.getD j ⟨#[]⟩) = true ∧ (0 < j → SLt (l.getD (j - 1) ⟨#[]⟩) (l.getD j ⟨#[]⟩))
instance (l : List ByteArray) (j : Nat) : Decidable (okAt l j) := by unfold okAt; infer_instance
def namedB (l : List ByteArray) : Bool := decide (∀ j, j < l.length → okAt l j)
theorem namedB_t {l : List ByteArray} (h : ∀ j, j < l.length → okAt l j) : namedB l = true := decide_eq_true h
theorem namedB_f {l : List ByteArray} {i : Nat} (hi : i < l.length) (h : ¬ okAt l i) : namedB l = false := decide_eq_false fun g => h (g i hi)
theorem okAt_succ {l : List ByteArray} {i : Nat} (h : ∀ j, j < i → okAt l j) (h' : okAt l i) : ∀ j, j < i + 1 → okAt l j := fun j hj => by
  rcases Nat.lt_or_ge j i with h1 | h1
  · exact h j h1
  · obtain rfl : j = i := by omega
    exact h'

theorem c21 (hs : List EntryV) (h : hs.length ≤ 1048576) (hn : ∀ e ∈ hs, e.key.size ≤ 1048576) : PCall Try.prog [] 21 [.seq hs.length 2 (flat ecell hs), .v (.func (.func 22) #[] #[])] (.v (.bool (namedB (hs.map (·.key))))) := by
  refine PCall.start Try.func21 rfl (by kernel_rfl) rfl Try.ntmps21 fol (by kernel_rfl) (by simp [idfL, idf, idfL_flat idfL_ecell]) rfl ?_
  simp only [List.zipIdx_cons, List.zipIdx_nil, List.map_cons, List.map_nil, Nat.zero_add]
  simp (maxSteps := 400000) (disch := first | omega | exact okT rfl | simp only [push_cast]) only [push_cast, ↓ite_cnd, ↓reduceIte, Nat.reduceAdd, Nat.reduceMul, Nat.reduceSub, Nat.reduceEqDiff, Nat.reduceBEq, Nat.reduceBNe, Nat.reduceLT, Nat.reduceLeDiff, reduceCtorEq, Op.operands, flat_take_succ, flat_take_all]
  refine ev_loopI (ι := Nat) (fun i => ⟨[(0, .seq hs.length 2 (flat ecell hs)), (1, .v (.func (.func 22) #[] #[])), (7, .seq hs.length 2 (flat ecell hs)), (8, .v (.int .i64 hs.length)), (9, .v (.int .i64 i))], ⟨[], 0, 0, 0⟩⟩) (fun i => i ≤ hs.length ∧ ∀ j, j < i → okAt (hs.map (·.key)) j) (fun i => hs.length - i) 0 ⟨Nat.zero_le _, fun j hj => absurd hj (Nat.not_lt_zero _)⟩ ?_ ?_
  · exact Ent.val (by simp [idfE, idf, idfL_flat idfL_ecell]) (by simp [SubE, lk])
  intro i ⟨hi, hall⟩
  simp (maxSteps := 400000) (disch := first | omega | exact okT rfl | simp only [push_cast]) only [push_cast, ↓ite_cnd, ↓reduceIte, Nat.reduceAdd, Nat.reduceMul, Nat.reduceSub, Nat.reduceEqDiff, Nat.reduceBEq, Nat.reduceBNe, Nat.reduceLT, Nat.reduceLeDiff, reduceCtorEq, Op.operands, flat_take_succ, flat_take_all]
  refine ⟨fun h4 => ?_, fun h4 => ?_⟩
  · have hi1 : i < hs.length := by omega
    simp (maxSteps := 400000) (disch := first | omega | exact okT rfl | simp only [push_cast]) only [push_cast, ↓ite_cnd, ↓reduceIte, Nat.reduceAdd, Nat.reduceMul, Nat.reduceSub, Nat.reduceEqDiff, Nat.reduceBEq, Nat.reduceBNe, Nat.reduceLT, Nat.reduceLeDiff, reduceCtorEq, Op.operands, flat_take_succ, flat_take_all]
    have hk1 := hn hs[i] (List.getElem_mem hi1)
    have hgi : (hs.map (·.key)).getD i ⟨#[]⟩ = hs[i].key := by simp [hi1]
    refine evDC2.useV (c22 hs[i]) rfl ?_
    simp (maxSteps := 400000) (disch := first | omega | exact okT rfl | simp only [push_cast]) only [push_cast, ↓ite_cnd, ↓reduceIte, Nat.reduceAdd, Nat.reduceMul, Nat.reduceSub, Nat.reduceEqDiff, Nat.reduceBEq, Nat.reduceBNe, Nat.reduceLT, Nat.reduceLeDiff, reduceCtorEq, Op.operands, flat_take_succ, flat_take_all]
    refine evDC2.useV (c16 _ hk1) rfl ?_
    simp (maxSteps := 400000) (disch := first | omega | exact okT rfl | simp only [push_cast]) only [push_cast, ↓ite_cnd, ↓reduceIte, Nat.reduceAdd, Nat.reduceMul, Nat.reduceSub, Nat.reduceEqDiff, Nat.reduceBEq, Nat.reduceBNe, Nat.reduceLT, Nat.reduceLeDiff, reduceCtorEq, Op.operands, flat_take_succ, flat_take_all]
    have hil : i < (hs.map (·.key)).length := by simpa using hi1
    cases hb : nameB hs[i].key with
    | false =>
      have hno : ¬ okAt (hs.map (·.key)) i := fun g => by have := g.1; rw [hgi, hb] at this; cases this
      simp (maxSteps := 400000) (disch := first | omega | exact okT rfl | simp only [push_cast]) only [push_cast, ↓ite_cnd, ↓reduceIte, Nat.reduceAdd, Nat.reduceMul, Nat.reduceSub, Nat.reduceEqDiff, Nat.reduceBEq, Nat.reduceBNe, Nat.reduceLT, Nat.reduceLeDiff, reduceCtorEq, Op.operands, flat_take_succ, flat_take_all, Bool.not_false]
      rw [namedB_f hil hno]
    | true =>
      simp (maxSteps := 400000) (disch := first | omega | exact okT rfl | simp only [push_cast]) only [push_cast, ↓ite_cnd, ↓reduceIte, Nat.reduceAdd, Nat.reduceMul, Nat.reduceSub, Nat.reduceEqDiff, Nat.reduceBEq, Nat.reduceBNe, Nat.reduceLT, Nat.reduceLeDiff, reduceCtorEq, Op.operands, flat_take_succ, flat_take_all, Bool.not_true]
      refine ⟨fun h5 => ?_, fun h5 => ?_⟩
      · obtain ⟨j, rfl⟩ : ∃ j, i = j + 1 := ⟨i - 1, by omega⟩
        have hj1 : j < hs.length := by omega
        have e1 : (((j + 1 : Nat) : Int) - 1) = (j : Int) := by omega
        have hgj : (hs.map (·.key)).getD j ⟨#[]⟩ = hs[j].key := by simp [hj1]
        simp (maxSteps := 400000) (disch := first | omega | exact okT rfl | simp only [push_cast]) only [push_cast, ↓ite_cnd, ↓reduceIte, Nat.reduceAdd, Nat.reduceMul, Nat.reduceSub, Nat.reduceEqDiff, Nat.reduceBEq, Nat.reduceBNe, Nat.reduceLT, Nat.reduceLeDiff, reduceCtorEq, Op.operands, flat_take_succ, flat_take_all, e1, Int.add_sub_cancel]
        refine evDC2.useV (c22 hs[j]) rfl ?_
        simp (maxSteps := 400000) (disch := first | omega | exact okT rfl | simp only [push_cast]) only [push_cast, ↓ite_cnd, ↓reduceIte, Nat.reduceAdd, Nat.reduceMul, Nat.reduceSub, Nat.reduceEqDiff, Nat.reduceBEq, Nat.reduceBNe, Nat.reduceLT, Nat.reduceLeDiff, reduceCtorEq, Op.operands, flat_take_succ, flat_take_all, e1, Int.add_sub_cancel]
        refine evDC2.useV (c22 hs[j + 1]) rfl ?_
        simp (maxSteps := 400000) (disch := first | omega | exact okT rfl | simp only [push_cast]) only [push_cast, ↓ite_cnd, ↓reduceIte, Nat.reduceAdd, Nat.reduceMul, Nat.reduceSub, Nat.reduceEqDiff, Nat.reduceBEq, Nat.reduceBNe, Nat.reduceLT, Nat.reduceLeDiff, reduceCtorEq, Op.operands, flat_take_succ, flat_take_all]
        refine ⟨fun h6 => ?_, fun h6 => ?_⟩
        · have hno : ¬ okAt (hs.map (·.key)) (j + 1) := fun g => by have := g.2 (Nat.succ_pos _); rw [hgi, Nat.add_sub_cancel, hgj] at this; exact h6 this
          simp (maxSteps := 400000) (disch := first | omega | exact okT rfl | simp only [push_cast]) only [push_cast, ↓ite_cnd, ↓reduceIte, Nat.reduceAdd, Nat.reduceMul, Nat.reduceSub, Nat.reduceEqDiff, Nat.reduceBEq, Nat.reduceBNe, Nat.reduceLT, Nat.reduceLeDiff, reduceCtorEq, Op.operands, flat_take_succ, flat_take_all]
          rw [namedB_f hil hno]
        · have hok : okAt (hs.map (·.key)) (j + 1) := ⟨by rw [hgi]; exact hb, fun _ => by rw [hgi, Nat.add_sub_cancel, hgj]; first | exact h6 | exact Classical.byContradiction h6⟩
          simp (maxSteps := 400000) (disch := first | omega | exact okT rfl | simp only [push_cast]) only [push_cast, ↓ite_cnd, ↓reduceIte, Nat.reduceAdd, Nat.reduceMul, Nat.reduceSub, Nat.reduceEqDiff, Nat.reduceBEq, Nat.reduceBNe, Nat.reduceLT, Nat.reduceLeDiff, reduceCtorEq, Op.operands, flat_take_succ, flat_take_all]
          refine ⟨j + 1 + 1, ⟨by show j + 1 + 1 ≤ hs.length; omega, okAt_succ hall hok⟩, by show hs.length - (j + 1 + 1) < hs.length - (j + 1); omega, ?_⟩
          exact Ent.val (by simp [idfE, idf, idfL_flat idfL_ecell]) (by simp [SubE, lk])
      · have h0 : i = 0 := by omega
        subst h0
        have hok : okAt (hs.map (·.key)) 0 := ⟨by rw [hgi]; exact hb, fun h => absurd h (Nat.lt_irrefl _)⟩
        simp (maxSteps := 400000) (disch := first | omega | exact okT rfl | simp only [push_cast]) only [push_cast, ↓ite_cnd, ↓reduceIte, Nat.reduceAdd, Nat.reduceMul, Nat.reduceSub, Nat.reduceEqDiff, Nat.reduceBEq, Nat.reduceBNe, Nat.reduceLT, Nat.reduceLeDiff, reduceCtorEq, Op.operands, flat_take_succ, flat_take_all]
        refine ⟨1, ⟨by show 1 ≤ hs.length; omega, okAt_succ hall hok⟩, by show hs.length - 1 < hs.length - 0; omega, ?_⟩
        exact Ent.val (by simp [idfE, idf, idfL_flat idfL_ecell]) (by simp [SubE, lk])
  · have hi1 : i = hs.length := by omega
    subst hi1
    simp (maxSteps := 400000) (disch := first | omega | exact okT rfl | simp only [push_cast]) only [push_cast, ↓ite_cnd, ↓reduceIte, Nat.reduceAdd, Nat.reduceMul, Nat.reduceSub, Nat.reduceEqDiff, Nat.reduceBEq, Nat.reduceBNe, Nat.reduceLT, Nat.reduceLeDiff, reduceCtorEq, Op.operands, flat_take_succ, flat_take_all]
    rw [namedB_t (by simpa using hall)]
theorem c23 (hs : List CountV) (h : hs.length ≤ 1048576) (hn : ∀ e ∈ hs, e.key.size ≤ 1048576) : PCall Try.prog [] 23 [.seq hs.length 2 (flat ccell hs), .v (.func (.func 24) #[] #[])] (.v (.bool (namedB (hs.map (·.key))))) := by
  refine PCall.start Try.func23 rfl (by kernel_rfl) rfl Try.ntmps23 fol (by kernel_rfl) (by simp [idfL, idf, idfL_flat idfL_ccell]) rfl ?_
  simp only [List.zipIdx_cons, List.zipIdx_nil, List.map_cons, List.map_nil, Nat.zero_add]
  simp (maxSteps := 400000) (disch := first | omega | exact okT rfl | simp only [push_cast]) only [push_cast, ↓ite_cnd, ↓reduceIte, Nat.reduceAdd, Nat.reduceMul, Nat.reduceSub, Nat.reduceEqDiff, Nat.reduceBEq, Nat.reduceBNe, Nat.reduceLT, Nat.reduceLeDiff, reduceCtorEq, Op.operands, flat_take_succ, flat_take_all]
  refine ev_loopI (ι := Nat) (fun i => ⟨[(0, .seq hs.length 2 (flat ccell hs)), (1, .v (.func (.func 24) #[] #[])), (7, .seq hs.length 2 (flat ccell hs)), (8, .v (.int .i64 hs.length)), (9, .v (.int .i64 i))], ⟨[], 0, 0, 0⟩⟩) (fun i => i ≤ hs.length ∧ ∀ j, j < i → okAt (hs.map (·.key)) j) (fun i => hs.length - i) 0 ⟨Nat.zero_le _, fun j hj => absurd hj (Nat.not_lt_zero _)⟩ ?_ ?_
  · exact Ent.val (by simp [idfE, idf, idfL_flat idfL_ccell]) (by simp [SubE, lk])
  intro i ⟨hi, hall⟩
  simp (maxSteps := 400000) (disch := first | omega | exact okT rfl | simp only [push_cast]) only [push_cast, ↓ite_cnd, ↓reduceIte, Nat.reduceAdd, Nat.reduceMul, Nat.reduceSub, Nat.reduceEqDiff, Nat.reduceBEq, Nat.reduceBNe, Nat.reduceLT, Nat.reduceLeDiff, reduceCtorEq, Op.operands, flat_take_succ, flat_take_all]
  refine ⟨fun h4 => ?_, fun h4 => ?_⟩
  · have hi1 : i < hs.length := by omega
    simp (maxSteps := 400000) (disch := first | omega | exact okT rfl | simp only [push_cast]) only [push_cast, ↓ite_cnd, ↓reduceIte, Nat.reduceAdd, Nat.reduceMul, Nat.reduceSub, Nat.reduceEqDiff, Nat.reduceBEq, Nat.reduceBNe, Nat.reduceLT, Nat.reduceLeDiff, reduceCtorEq, Op.operands, flat_take_succ, flat_take_all]
    have hk1 := hn hs[i] (List.getElem_mem hi1)
    have hgi : (hs.map (·.key)).getD i ⟨#[]⟩ = hs[i].key := by simp [hi1]
    refine evDC2.useV (c24 hs[i]) rfl ?_
    simp (maxSteps := 400000) (disch := first | omega | exact okT rfl | simp only [push_cast]) only [push_cast, ↓ite_cnd, ↓reduceIte, Nat.reduceAdd, Nat.reduceMul, Nat.reduceSub, Nat.reduceEqDiff, Nat.reduceBEq, Nat.reduceBNe, Nat.reduceLT, Nat.reduceLeDiff, reduceCtorEq, Op.operands, flat_take_succ, flat_take_all]
    refine evDC2.useV (c16 _ hk1) rfl ?_
    simp (maxSteps := 400000) (disch := first | omega | exact okT rfl | simp only [push_cast]) only [push_cast, ↓ite_cnd, ↓reduceIte, Nat.reduceAdd, Nat.reduceMul, Nat.reduceSub, Nat.reduceEqDiff, Nat.reduceBEq, Nat.reduceBNe, Nat.reduceLT, Nat.reduceLeDiff, reduceCtorEq, Op.operands, flat_take_succ, flat_take_all]
    have hil : i < (hs.map (·.key)).length := by simpa using hi1
    cases hb : nameB hs[i].key with
    | false =>
      have hno : ¬ okAt (hs.map (·.key)) i := fun g => by have := g.1; rw [hgi, hb] at this; cases this
      simp (maxSteps := 400000) (disch := first | omega | exact okT rfl | simp only [push_cast]) only [push_cast, ↓ite_cnd, ↓reduceIte, Nat.reduceAdd, Nat.reduceMul, Nat.reduceSub, Nat.reduceEqDiff, Nat.reduceBEq, Nat.reduceBNe, Nat.reduceLT, Nat.reduceLeDiff, reduceCtorEq, Op.operands, flat_take_succ, flat_take_all, Bool.not_false]
      rw [namedB_f hil hno]
    | true =>
      simp (maxSteps := 400000) (disch := first | omega | exact okT rfl | simp only [push_cast]) only [push_cast, ↓ite_cnd, ↓reduceIte, Nat.reduceAdd, Nat.reduceMul, Nat.reduceSub, Nat.reduceEqDiff, Nat.reduceBEq, Nat.reduceBNe, Nat.reduceLT, Nat.reduceLeDiff, reduceCtorEq, Op.operands, flat_take_succ, flat_take_all, Bool.not_true]
      refine ⟨fun h5 => ?_, fun h5 => ?_⟩
      · obtain ⟨j, rfl⟩ : ∃ j, i = j + 1 := ⟨i - 1, by omega⟩
        have hj1 : j < hs.length := by omega
        have e1 : (((j + 1 : Nat) : Int) - 1) = (j : Int) := by omega
        have hgj : (hs.map (·.key)).getD j ⟨#[]⟩ = hs[j].key := by simp [hj1]
        simp (maxSteps := 400000) (disch := first | omega | exact okT rfl | simp only [push_cast]) only [push_cast, ↓ite_cnd, ↓reduceIte, Nat.reduceAdd, Nat.reduceMul, Nat.reduceSub, Nat.reduceEqDiff, Nat.reduceBEq, Nat.reduceBNe, Nat.reduceLT, Nat.reduceLeDiff, reduceCtorEq, Op.operands, flat_take_succ, flat_take_all, e1, Int.add_sub_cancel]
        refine evDC2.useV (c24 hs[j]) rfl ?_
        simp (maxSteps := 400000) (disch := first | omega | exact okT rfl | simp only [push_cast]) only [push_cast, ↓ite_cnd, ↓reduceIte, Nat.reduceAdd, Nat.reduceMul, Nat.reduceSub, Nat.reduceEqDiff, Nat.reduceBEq, Nat.reduceBNe, Nat.reduceLT, Nat.reduceLeDiff, reduceCtorEq, Op.operands, flat_take_succ, flat_take_all, e1, Int.add_sub_cancel]
        refine evDC2.useV (c24 hs[j + 1]) rfl ?_
        simp (maxSteps := 400000) (disch := first | omega | exact okT rfl | simp only [push_cast]) only [push_cast, ↓ite_cnd, ↓reduceIte, Nat.reduceAdd, Nat.reduceMul, Nat.reduceSub, Nat.reduceEqDiff, Nat.reduceBEq, Nat.reduceBNe, Nat.reduceLT, Nat.reduceLeDiff, reduceCtorEq, Op.operands, flat_take_succ, flat_take_all]
        refine ⟨fun h6 => ?_, fun h6 => ?_⟩
        · have hno : ¬ okAt (hs.map (·.key)) (j + 1) := fun g => by have := g.2 (Nat.succ_pos _); rw [hgi, Nat.add_sub_cancel, hgj] at this; exact h6 this
          simp (maxSteps := 400000) (disch := first | omega | exact okT rfl | simp only [push_cast]) only [push_cast, ↓ite_cnd, ↓reduceIte, Nat.reduceAdd, Nat.reduceMul, Nat.reduceSub, Nat.reduceEqDiff, Nat.reduceBEq, Nat.reduceBNe, Nat.reduceLT, Nat.reduceLeDiff, reduceCtorEq, Op.operands, flat_take_succ, flat_take_all]
          rw [namedB_f hil hno]
        · have hok : okAt (hs.map (·.key)) (j + 1) := ⟨by rw [hgi]; exact hb, fun _ => by rw [hgi, Nat.add_sub_cancel, hgj]; first | exact h6 | exact Classical.byContradiction h6⟩
          simp (maxSteps := 400000) (disch := first | omega | exact okT rfl | simp only [push_cast]) only [push_cast, ↓ite_cnd, ↓reduceIte, Nat.reduceAdd, Nat.reduceMul, Nat.reduceSub, Nat.reduceEqDiff, Nat.reduceBEq, Nat.reduceBNe, Nat.reduceLT, Nat.reduceLeDiff, reduceCtorEq, Op.operands, flat_take_succ, flat_take_all]
          refine ⟨j + 1 + 1, ⟨by show j + 1 + 1 ≤ hs.length; omega, okAt_succ hall hok⟩, by show hs.length - (j + 1 + 1) < hs.length - (j + 1); omega, ?_⟩
          exact Ent.val (by simp [idfE, idf, idfL_flat idfL_ccell]) (by simp [SubE, lk])
      · have h0 : i = 0 := by omega
        subst h0
        have hok : okAt (hs.map (·.key)) 0 := ⟨by rw [hgi]; exact hb, fun h => absurd h (Nat.lt_irrefl _)⟩
        simp (maxSteps := 400000) (disch := first | omega | exact okT rfl | simp only [push_cast]) only [push_cast, ↓ite_cnd, ↓reduceIte, Nat.reduceAdd, Nat.reduceMul, Nat.reduceSub, Nat.reduceEqDiff, Nat.reduceBEq, Nat.reduceBNe, Nat.reduceLT, Nat.reduceLeDiff, reduceCtorEq, Op.operands, flat_take_succ, flat_take_all]
        refine ⟨1, ⟨by show 1 ≤ hs.length; omega, okAt_succ hall hok⟩, by show hs.length - 1 < hs.length - 0; omega, ?_⟩
        exact Ent.val (by simp [idfE, idf, idfL_flat idfL_ccell]) (by simp [SubE, lk])
  · have hi1 : i = hs.length := by omega
    subst hi1
    simp (maxSteps := 400000) (disch := first | omega | exact okT rfl | simp only [push_cast]) only [push_cast, ↓ite_cnd, ↓reduceIte, Nat.reduceAdd, Nat.reduceMul, Nat.reduceSub, Nat.reduceEqDiff, Nat.reduceBEq, Nat.reduceBNe, Nat.reduceLT, Nat.reduceLeDiff, reduceCtorEq, Op.operands, flat_take_succ, flat_take_all]
    rw [namedB_t (by simpa using hall)]
theorem c25 (hs : List TextV) (h : hs.length ≤ 1048576) (hn : ∀ e ∈ hs, e.name.size ≤ 1048576) : PCall Try.prog [] 25 [.seq hs.length 2 (flat tcell hs), .v (.func (.func 26) #[] #[])] (.v (.bool (namedB (hs.map (·.name))))) := by
  refine PCall.start Try.func25 rfl (by kernel_rfl) rfl Try.ntmps25 fol (by kernel_rfl) (by simp [idfL, idf, idfL_flat idfL_tcell]) rfl ?_
  simp only [List.zipIdx_cons, List.zipIdx_nil, List.map_cons, List.map_nil, Nat.zero_add]
  simp (maxSteps := 400000) (disch := first | omega | exact okT rfl | simp only [push_cast]) only [push_cast, ↓ite_cnd, ↓reduceIte, Nat.reduceAdd, Nat.reduceMul, Nat.reduceSub, Nat.reduceEqDiff, Nat.reduceBEq, Nat.reduceBNe, Nat.reduceLT, Nat.reduceLeDiff, reduceCtorEq, Op.operands, flat_take_succ, flat_take_all]
  refine ev_loopI (ι := Nat) (fun i => ⟨[(0, .seq hs.length 2 (flat tcell hs)), (1, .v (.func (.func 26) #[] #[])), (7, .seq hs.length 2 (flat tcell hs)), (8, .v (.int .i64 hs.length)), (9, .v (.int .i64 i))], ⟨[], 0, 0, 0⟩⟩) (fun i => i ≤ hs.length ∧ ∀ j, j < i → okAt (hs.map (·.name)) j) (fun i => hs.length - i) 0 ⟨Nat.zero_le _, fun j hj => absurd hj (Nat.not_lt_zero _)⟩ ?_ ?_
  · exact Ent.val (by simp [idfE, idf, idfL_flat idfL_tcell]) (by simp [SubE, lk])
  intro i ⟨hi, hall⟩
  simp (maxSteps := 400000) (disch := first | omega | exact okT rfl | simp only [push_cast]) only [push_cast, ↓ite_cnd, ↓reduceIte, Nat.reduceAdd, Nat.reduceMul, Nat.reduceSub, Nat.reduceEqDiff, Nat.reduceBEq, Nat.reduceBNe, Nat.reduceLT, Nat.reduceLeDiff, reduceCtorEq, Op.operands, flat_take_succ, flat_take_all]
  refine ⟨fun h4 => ?_, fun h4 => ?_⟩
  · have hi1 : i < hs.length := by omega
    simp (maxSteps := 400000) (disch := first | omega | exact okT rfl | simp only [push_cast]) only [push_cast, ↓ite_cnd, ↓reduceIte, Nat.reduceAdd, Nat.reduceMul, Nat.reduceSub, Nat.reduceEqDiff, Nat.reduceBEq, Nat.reduceBNe, Nat.reduceLT, Nat.reduceLeDiff, reduceCtorEq, Op.operands, flat_take_succ, flat_take_all]
    have hk1 := hn hs[i] (List.getElem_mem hi1)
    have hgi : (hs.map (·.name)).getD i ⟨#[]⟩ = hs[i].name := by simp [hi1]
    refine evDC2.useV (c26 hs[i]) rfl ?_
    simp (maxSteps := 400000) (disch := first | omega | exact okT rfl | simp only [push_cast]) only [push_cast, ↓ite_cnd, ↓reduceIte, Nat.reduceAdd, Nat.reduceMul, Nat.reduceSub, Nat.reduceEqDiff, Nat.reduceBEq, Nat.reduceBNe, Nat.reduceLT, Nat.reduceLeDiff, reduceCtorEq, Op.operands, flat_take_succ, flat_take_all]
    refine evDC2.useV (c16 _ hk1) rfl ?_
    simp (maxSteps := 400000) (disch := first | omega | exact okT rfl | simp only [push_cast]) only [push_cast, ↓ite_cnd, ↓reduceIte, Nat.reduceAdd, Nat.reduceMul, Nat.reduceSub, Nat.reduceEqDiff, Nat.reduceBEq, Nat.reduceBNe, Nat.reduceLT, Nat.reduceLeDiff, reduceCtorEq, Op.operands, flat_take_succ, flat_take_all]
    have hil : i < (hs.map (·.name)).length := by simpa using hi1
    cases hb : nameB hs[i].name with
    | false =>
      have hno : ¬ okAt (hs.map (·.name)) i := fun g => by have := g.1; rw [hgi, hb] at this; cases this
      simp (maxSteps := 400000) (disch := first | omega | exact okT rfl | simp only [push_cast]) only [push_cast, ↓ite_cnd, ↓reduceIte, Nat.reduceAdd, Nat.reduceMul, Nat.reduceSub, Nat.reduceEqDiff, Nat.reduceBEq, Nat.reduceBNe, Nat.reduceLT, Nat.reduceLeDiff, reduceCtorEq, Op.operands, flat_take_succ, flat_take_all, Bool.not_false]
      rw [namedB_f hil hno]
    | true =>
      simp (maxSteps := 400000) (disch := first | omega | exact okT rfl | simp only [push_cast]) only [push_cast, ↓ite_cnd, ↓reduceIte, Nat.reduceAdd, Nat.reduceMul, Nat.reduceSub, Nat.reduceEqDiff, Nat.reduceBEq, Nat.reduceBNe, Nat.reduceLT, Nat.reduceLeDiff, reduceCtorEq, Op.operands, flat_take_succ, flat_take_all, Bool.not_true]
      refine ⟨fun h5 => ?_, fun h5 => ?_⟩
      · obtain ⟨j, rfl⟩ : ∃ j, i = j + 1 := ⟨i - 1, by omega⟩
        have hj1 : j < hs.length := by omega
        have e1 : (((j + 1 : Nat) : Int) - 1) = (j : Int) := by omega
        have hgj : (hs.map (·.name)).getD j ⟨#[]⟩ = hs[j].name := by simp [hj1]
        simp (maxSteps := 400000) (disch := first | omega | exact okT rfl | simp only [push_cast]) only [push_cast, ↓ite_cnd, ↓reduceIte, Nat.reduceAdd, Nat.reduceMul, Nat.reduceSub, Nat.reduceEqDiff, Nat.reduceBEq, Nat.reduceBNe, Nat.reduceLT, Nat.reduceLeDiff, reduceCtorEq, Op.operands, flat_take_succ, flat_take_all, e1, Int.add_sub_cancel]
        refine evDC2.useV (c26 hs[j]) rfl ?_
        simp (maxSteps := 400000) (disch := first | omega | exact okT rfl | simp only [push_cast]) only [push_cast, ↓ite_cnd, ↓reduceIte, Nat.reduceAdd, Nat.reduceMul, Nat.reduceSub, Nat.reduceEqDiff, Nat.reduceBEq, Nat.reduceBNe, Nat.reduceLT, Nat.reduceLeDiff, reduceCtorEq, Op.operands, flat_take_succ, flat_take_all, e1, Int.add_sub_cancel]
        refine evDC2.useV (c26 hs[j + 1]) rfl ?_
        simp (maxSteps := 400000) (disch := first | omega | exact okT rfl | simp only [push_cast]) only [push_cast, ↓ite_cnd, ↓reduceIte, Nat.reduceAdd, Nat.reduceMul, Nat.reduceSub, Nat.reduceEqDiff, Nat.reduceBEq, Nat.reduceBNe, Nat.reduceLT, Nat.reduceLeDiff, reduceCtorEq, Op.operands, flat_take_succ, flat_take_all]
        refine ⟨fun h6 => ?_, fun h6 => ?_⟩
        · have hno : ¬ okAt (hs.map (·.name)) (j + 1) := fun g => by have := g.2 (Nat.succ_pos _); rw [hgi, Nat.add_sub_cancel, hgj] at this; exact h6 this
          simp (maxSteps := 400000) (disch := first | omega | exact okT rfl | simp only [push_cast]) only [push_cast, ↓ite_cnd, ↓reduceIte, Nat.reduceAdd, Nat.reduceMul, Nat.reduceSub, Nat.reduceEqDiff, Nat.reduceBEq, Nat.reduceBNe, Nat.reduceLT, Nat.reduceLeDiff, reduceCtorEq, Op.operands, flat_take_succ, flat_take_all]
          rw [namedB_f hil hno]
        · have hok : okAt (hs.map (·.name)) (j + 1) := ⟨by rw [hgi]; exact hb, fun _ => by rw [hgi, Nat.add_sub_cancel, hgj]; first | exact h6 | exact Classical.byContradiction h6⟩
          simp (maxSteps := 400000) (disch := first | omega | exact okT rfl | simp only [push_cast]) only [push_cast, ↓ite_cnd, ↓reduceIte, Nat.reduceAdd, Nat.reduceMul, Nat.reduceSub, Nat.reduceEqDiff, Nat.reduceBEq, Nat.reduceBNe, Nat.reduceLT, Nat.reduceLeDiff, reduceCtorEq, Op.operands, flat_take_succ, flat_take_all]
          refine ⟨j + 1 + 1, ⟨by show j + 1 + 1 ≤ hs.length; omega, okAt_succ hall hok⟩, by show hs.length - (j + 1 + 1) < hs.length - (j + 1); omega, ?_⟩
          exact Ent.val (by simp [idfE, idf, idfL_flat idfL_tcell]) (by simp [SubE, lk])
      · have h0 : i = 0 := by omega
        subst h0
        have hok : okAt (hs.map (·.name)) 0 := ⟨by rw [hgi]; exact hb, fun h => absurd h (Nat.lt_irrefl _)⟩
        simp (maxSteps := 400000) (disch := first | omega | exact okT rfl | simp only [push_cast]) only [push_cast, ↓ite_cnd, ↓reduceIte, Nat.reduceAdd, Nat.reduceMul, Nat.reduceSub, Nat.reduceEqDiff, Nat.reduceBEq, Nat.reduceBNe, Nat.reduceLT, Nat.reduceLeDiff, reduceCtorEq, Op.operands, flat_take_succ, flat_take_all]
        refine ⟨1, ⟨by show 1 ≤ hs.length; omega, okAt_succ hall hok⟩, by show hs.length - 1 < hs.length - 0; omega, ?_⟩
        exact Ent.val (by simp [idfE, idf, idfL_flat idfL_tcell]) (by simp [SubE, lk])
  · have hi1 : i = hs.length := by omega
    subst hi1
    simp (maxSteps := 400000) (disch := first | omega | exact okT rfl | simp only [push_cast]) only [push_cast, ↓ite_cnd, ↓reduceIte, Nat.reduceAdd, Nat.reduceMul, Nat.reduceSub, Nat.reduceEqDiff, Nat.reduceBEq, Nat.reduceBNe, Nat.reduceLT, Nat.reduceLeDiff, reduceCtorEq, Op.operands, flat_take_succ, flat_take_all]
    rw [namedB_t (by simpa using hall)]
end Go.AW
