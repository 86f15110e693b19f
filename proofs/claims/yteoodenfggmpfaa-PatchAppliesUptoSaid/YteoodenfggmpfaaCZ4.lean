/- Contracts: may a document be? -/
import Derived.Test.YteoodenfggmpfaaCZ3
namespace Go.AW
open Proofs

set_option linter.unusedSimpArgs false
set_option linter.unusedVariables false
set_option maxRecDepth 100000
set_option maxHeartbeats 8000000

theorem c27 (hs : List ByteArray) (h : hs.length ≤ 1048576) (hn : ∀ e ∈ hs, e.size ≤ 1048576) : PCall Try.prog [] 27 [.seq hs.length 1 (flat scell hs)] (.v (.bool (namedB hs))) := by
  refine PCall.start Try.func27 rfl (by kernel_rfl) rfl Try.ntmps27 fol (by kernel_rfl) (by simp [idfL, idf, idfL_flat idfL_scell]) rfl ?_
  simp only [List.zipIdx_cons, List.zipIdx_nil, List.map_cons, List.map_nil, Nat.zero_add]
  simp (maxSteps := 400000) (disch := first | omega | exact okT rfl | simp only [push_cast]) only [push_cast, ↓ite_cnd, ↓reduceIte, Nat.reduceAdd, Nat.reduceMul, Nat.reduceSub, Nat.reduceEqDiff, Nat.reduceBEq, Nat.reduceBNe, Nat.reduceLT, Nat.reduceLeDiff, reduceCtorEq, Op.operands, flat_take_succ, flat_take_all]
  refine ev_loopI (ι := Nat) (fun i => ⟨[(0, .seq hs.length 1 (flat scell hs)), (3, .v (.int .i64 i))], ⟨[], 0, 0, 0⟩⟩) (fun i => i ≤ hs.length ∧ ∀ j, j < i → okAt hs j) (fun i => hs.length - i) 0 ⟨Nat.zero_le _, fun j hj => absurd hj (Nat.not_lt_zero _)⟩ ?_ ?_
  · exact Ent.val (by simp [idfE, idf, idfL_flat idfL_scell]) (by simp [SubE, lk])
  intro i ⟨hi, hall⟩
  simp (maxSteps := 400000) (disch := first | omega | exact okT rfl | simp only [push_cast]) only [push_cast, ↓ite_cnd, ↓reduceIte, Nat.reduceAdd, Nat.reduceMul, Nat.reduceSub, Nat.reduceEqDiff, Nat.reduceBEq, Nat.reduceBNe, Nat.reduceLT, Nat.reduceLeDiff, reduceCtorEq, Op.operands, flat_take_succ, flat_take_all]
  refine ⟨fun h4 => ?_, fun h4 => ?_⟩
  · have hi1 : i < hs.length := by omega
    simp (maxSteps := 400000) (disch := first | omega | exact okT rfl | simp only [push_cast]) only [push_cast, ↓ite_cnd, ↓reduceIte, Nat.reduceAdd, Nat.reduceMul, Nat.reduceSub, Nat.reduceEqDiff, Nat.reduceBEq, Nat.reduceBNe, Nat.reduceLT, Nat.reduceLeDiff, reduceCtorEq, Op.operands, flat_take_succ, flat_take_all]
    have hk1 := hn hs[i] (List.getElem_mem hi1)
    have hgi : hs.getD i ⟨#[]⟩ = hs[i] := by simp [hi1]
    refine evDC2.useV (c36 _ hk1) rfl ?_
    simp (maxSteps := 400000) (disch := first | omega | exact okT rfl | simp only [push_cast]) only [push_cast, ↓ite_cnd, ↓reduceIte, Nat.reduceAdd, Nat.reduceMul, Nat.reduceSub, Nat.reduceEqDiff, Nat.reduceBEq, Nat.reduceBNe, Nat.reduceLT, Nat.reduceLeDiff, reduceCtorEq, Op.operands, flat_take_succ, flat_take_all]
    cases hb : nameB hs[i] with
    | false =>
      have hno : ¬ okAt hs i := fun g => by have := g.1; rw [hgi, hb] at this; cases this
      simp (maxSteps := 400000) (disch := first | omega | exact okT rfl | simp only [push_cast]) only [push_cast, ↓ite_cnd, ↓reduceIte, Nat.reduceAdd, Nat.reduceMul, Nat.reduceSub, Nat.reduceEqDiff, Nat.reduceBEq, Nat.reduceBNe, Nat.reduceLT, Nat.reduceLeDiff, reduceCtorEq, Op.operands, flat_take_succ, flat_take_all, Bool.not_false]
      rw [namedB_f hi1 hno]
    | true =>
      simp (maxSteps := 400000) (disch := first | omega | exact okT rfl | simp only [push_cast]) only [push_cast, ↓ite_cnd, ↓reduceIte, Nat.reduceAdd, Nat.reduceMul, Nat.reduceSub, Nat.reduceEqDiff, Nat.reduceBEq, Nat.reduceBNe, Nat.reduceLT, Nat.reduceLeDiff, reduceCtorEq, Op.operands, flat_take_succ, flat_take_all, Bool.not_true]
      refine ⟨fun h5 => ?_, fun h5 => ?_⟩
      · obtain ⟨j, rfl⟩ : ∃ j, i = j + 1 := ⟨i - 1, by omega⟩
        have hj1 : j < hs.length := by omega
        have e1 : (((j + 1 : Nat) : Int) - 1) = (j : Int) := by omega
        have hgj : hs.getD j ⟨#[]⟩ = hs[j] := by simp [hj1]
        simp (maxSteps := 400000) (disch := first | omega | exact okT rfl | simp only [push_cast]) only [push_cast, ↓ite_cnd, ↓reduceIte, Nat.reduceAdd, Nat.reduceMul, Nat.reduceSub, Nat.reduceEqDiff, Nat.reduceBEq, Nat.reduceBNe, Nat.reduceLT, Nat.reduceLeDiff, reduceCtorEq, Op.operands, flat_take_succ, flat_take_all, e1, Int.add_sub_cancel]
        refine ⟨fun h6 => ?_, fun h6 => ?_⟩
        · have hno : ¬ okAt hs (j + 1) := fun g => by have := g.2 (Nat.succ_pos _); rw [hgi, Nat.add_sub_cancel, hgj] at this; exact h6 this
          simp (maxSteps := 400000) (disch := first | omega | exact okT rfl | simp only [push_cast]) only [push_cast, ↓ite_cnd, ↓reduceIte, Nat.reduceAdd, Nat.reduceMul, Nat.reduceSub, Nat.reduceEqDiff, Nat.reduceBEq, Nat.reduceBNe, Nat.reduceLT, Nat.reduceLeDiff, reduceCtorEq, Op.operands, flat_take_succ, flat_take_all]
          rw [namedB_f hi1 hno]
        · have hok : okAt hs (j + 1) := ⟨by rw [hgi]; exact hb, fun _ => by rw [hgi, Nat.add_sub_cancel, hgj]; first | exact h6 | exact Classical.byContradiction h6⟩
          simp (maxSteps := 400000) (disch := first | omega | exact okT rfl | simp only [push_cast]) only [push_cast, ↓ite_cnd, ↓reduceIte, Nat.reduceAdd, Nat.reduceMul, Nat.reduceSub, Nat.reduceEqDiff, Nat.reduceBEq, Nat.reduceBNe, Nat.reduceLT, Nat.reduceLeDiff, reduceCtorEq, Op.operands, flat_take_succ, flat_take_all]
          refine ⟨j + 1 + 1, ⟨by show j + 1 + 1 ≤ hs.length; omega, okAt_succ hall hok⟩, by show hs.length - (j + 1 + 1) < hs.length - (j + 1); omega, ?_⟩
          exact Ent.val (by simp [idfE, idf, idfL_flat idfL_scell]) (by simp [SubE, lk])
      · have h0 : i = 0 := by omega
        subst h0
        have hok : okAt hs 0 := ⟨by rw [hgi]; exact hb, fun h => absurd h (Nat.lt_irrefl _)⟩
        simp (maxSteps := 400000) (disch := first | omega | exact okT rfl | simp only [push_cast]) only [push_cast, ↓ite_cnd, ↓reduceIte, Nat.reduceAdd, Nat.reduceMul, Nat.reduceSub, Nat.reduceEqDiff, Nat.reduceBEq, Nat.reduceBNe, Nat.reduceLT, Nat.reduceLeDiff, reduceCtorEq, Op.operands, flat_take_succ, flat_take_all]
        refine ⟨1, ⟨by show 1 ≤ hs.length; omega, okAt_succ hall hok⟩, by show hs.length - 1 < hs.length - 0; omega, ?_⟩
        exact Ent.val (by simp [idfE, idf, idfL_flat idfL_scell]) (by simp [SubE, lk])
  · have hi1 : i = hs.length := by omega
    subst hi1
    simp (maxSteps := 400000) (disch := first | omega | exact okT rfl | simp only [push_cast]) only [push_cast, ↓ite_cnd, ↓reduceIte, Nat.reduceAdd, Nat.reduceMul, Nat.reduceSub, Nat.reduceEqDiff, Nat.reduceBEq, Nat.reduceBNe, Nat.reduceLT, Nat.reduceLeDiff, reduceCtorEq, Op.operands, flat_take_succ, flat_take_all]
    rw [namedB_t hall]

def hasV (e : EntryV) : Bool := decide (0 < e.values.length)
def hasC (t : TextV) : Bool := !decide (t.chars = ⟨#[]⟩)
def checkB (d : DocV) : Bool := namedB (d.entries.map (·.key)) && namedB (d.counts.map (·.key)) && namedB (d.texts.map (·.name)) && d.entries.all hasV && d.texts.all hasC
structure DocOK (d : DocV) : Prop where
  le : d.entries.length ≤ 1048576
  lc : d.counts.length ≤ 1048576
  lt : d.texts.length ≤ 1048576
  ke : ∀ e ∈ d.entries, e.key.size ≤ 1048576
  kc : ∀ e ∈ d.counts, e.key.size ≤ 1048576
  kt : ∀ e ∈ d.texts, e.name.size ≤ 1048576
  ve : ∀ e ∈ d.entries, e.values.length ≤ 1048576
  ct : ∀ e ∈ d.texts, e.chars.size ≤ 1048576
theorem all_take {α : Type} {f : α → Bool} {l : List α} {i : Nat} (h : i < l.length) : (l.take (i + 1)).all f = ((l.take i).all f && f l[i]) := by
  rw [List.take_succ_eq_append_getElem h, List.all_append]; simp

theorem c10 (d : DocV) (hd : DocOK d) : PCall Try.prog [] 10 [.agg (docL d)] (.v (.int .i64 (if checkB d then 0 else 2))) := by
  have p1 := c21 d.entries hd.le hd.ke
  have p2 := c23 d.counts hd.lc hd.kc
  have p3 := c25 d.texts hd.lt hd.kt
  have hck : checkB d = (namedB (d.entries.map (·.key)) && namedB (d.counts.map (·.key)) && namedB (d.texts.map (·.name)) && d.entries.all hasV && d.texts.all hasC) := rfl
  generalize namedB (d.entries.map (·.key)) = b1 at p1 hck
  generalize namedB (d.counts.map (·.key)) = b2 at p2 hck
  generalize namedB (d.texts.map (·.name)) = b3 at p3 hck
  rw [hck]
  refine PCall.start Try.func10 rfl (by kernel_rfl) rfl Try.ntmps10 fol (by kernel_rfl) (by simp [idfL, idf, idfL_docL]) rfl ?_
  simp only [List.zipIdx_cons, List.zipIdx_nil, List.map_cons, List.map_nil, Nat.zero_add]
  --C10
  have hle := hd.le
  have hlt := hd.lt
  simp (maxSteps := 400000) (disch := first | omega | exact okT rfl | simp only [push_cast]) only [push_cast, ↓ite_cnd, ↓reduceIte, Nat.reduceAdd, Nat.reduceMul, Nat.reduceSub, Nat.reduceEqDiff, Nat.reduceBEq, Nat.reduceBNe, Nat.reduceLT, Nat.reduceLeDiff, reduceCtorEq, Op.operands, flat_take_succ, flat_take_all]
  refine PCall.useV p1 ?_
  cases b1 with
  | false =>
    simp (maxSteps := 400000) (disch := first | omega | exact okT rfl | simp only [push_cast]) only [push_cast, ↓ite_cnd, ↓reduceIte, Nat.reduceAdd, Nat.reduceMul, Nat.reduceSub, Nat.reduceEqDiff, Nat.reduceBEq, Nat.reduceBNe, Nat.reduceLT, Nat.reduceLeDiff, reduceCtorEq, Op.operands, flat_take_succ, flat_take_all]
    refine ev_loopI (ι := Nat) (fun i => ⟨[(1, .ptr 0 0), (3, .v (.bool (false && (d.entries.take i).all hasV))), (22, .seq d.entries.length 2 (flat ecell d.entries)), (23, .v (.int .i64 d.entries.length)), (24, .v (.int .i64 i))], ⟨[(0, .cells 26 (docL d) false)], 1, 1, 0⟩⟩) (fun i => i ≤ d.entries.length) (fun i => d.entries.length - i) 0 (Nat.zero_le _) ?_ ?_
    · refine Ent.freeze [(0, 1)] ?_ ?_ rfl rfl rfl
      · simp (maxSteps := 400000) (disch := first | omega | exact okT rfl | simp only [push_cast]) only [push_cast, ↓ite_cnd, ↓reduceIte, Nat.reduceAdd, Nat.reduceMul, Nat.reduceSub, Nat.reduceEqDiff, Nat.reduceBEq, Nat.reduceBNe, Nat.reduceLT, Nat.reduceLeDiff, reduceCtorEq, Op.operands, flat_take_succ, flat_take_all]
        try rfl
      · simp (maxSteps := 400000) (disch := first | omega | exact okT rfl | simp only [push_cast]) only [push_cast, ↓ite_cnd, ↓reduceIte, Nat.reduceAdd, Nat.reduceMul, Nat.reduceSub, Nat.reduceEqDiff, Nat.reduceBEq, Nat.reduceBNe, Nat.reduceLT, Nat.reduceLeDiff, reduceCtorEq, Op.operands, flat_take_succ, flat_take_all]
        try rfl
    intro i hi
    simp (maxSteps := 400000) (disch := first | omega | exact okT rfl | simp only [push_cast]) only [push_cast, ↓ite_cnd, ↓reduceIte, Nat.reduceAdd, Nat.reduceMul, Nat.reduceSub, Nat.reduceEqDiff, Nat.reduceBEq, Nat.reduceBNe, Nat.reduceLT, Nat.reduceLeDiff, reduceCtorEq, Op.operands, flat_take_succ, flat_take_all]
    refine ⟨fun h4 => ?_, fun h4 => ?_⟩
    · have hi1 : i < d.entries.length := by omega
      simp (maxSteps := 400000) (disch := first | omega | exact okT rfl | simp only [push_cast]) only [push_cast, ↓ite_cnd, ↓reduceIte, Nat.reduceAdd, Nat.reduceMul, Nat.reduceSub, Nat.reduceEqDiff, Nat.reduceBEq, Nat.reduceBNe, Nat.reduceLT, Nat.reduceLeDiff, reduceCtorEq, Op.operands, flat_take_succ, flat_take_all]
      cases hB : (false && (d.entries.take i).all hasV) with
      | true =>
        have e2 : (false && (d.entries.take (i + 1)).all hasV) = decide (0 < d.entries[i].values.length) := by rw [all_take hi1, ← Bool.and_assoc, hB]; rfl
        simp (maxSteps := 400000) (disch := first | omega | exact okT rfl | simp only [push_cast]) only [push_cast, ↓ite_cnd, ↓reduceIte, Nat.reduceAdd, Nat.reduceMul, Nat.reduceSub, Nat.reduceEqDiff, Nat.reduceBEq, Nat.reduceBNe, Nat.reduceLT, Nat.reduceLeDiff, reduceCtorEq, Op.operands, flat_take_succ, flat_take_all]
        refine ⟨i + 1, by show i + 1 ≤ d.entries.length; omega, by show d.entries.length - (i + 1) < d.entries.length - i; omega, ?_⟩
        refine Ent.freeze [(0, 0)] ?_ ?_ rfl rfl rfl
        · simp (maxSteps := 400000) (disch := first | omega | exact okT rfl | simp only [push_cast]) only [push_cast, ↓ite_cnd, ↓reduceIte, Nat.reduceAdd, Nat.reduceMul, Nat.reduceSub, Nat.reduceEqDiff, Nat.reduceBEq, Nat.reduceBNe, Nat.reduceLT, Nat.reduceLeDiff, reduceCtorEq, Op.operands, flat_take_succ, flat_take_all, e2]
          try simp
        · simp (maxSteps := 400000) (disch := first | omega | exact okT rfl | simp only [push_cast]) only [push_cast, ↓ite_cnd, ↓reduceIte, Nat.reduceAdd, Nat.reduceMul, Nat.reduceSub, Nat.reduceEqDiff, Nat.reduceBEq, Nat.reduceBNe, Nat.reduceLT, Nat.reduceLeDiff, reduceCtorEq, Op.operands, flat_take_succ, flat_take_all, e2]
          try rfl
      | false =>
        have e2 : (false && (d.entries.take (i + 1)).all hasV) = false := by rw [all_take hi1, ← Bool.and_assoc, hB]; rfl
        simp (maxSteps := 400000) (disch := first | omega | exact okT rfl | simp only [push_cast]) only [push_cast, ↓ite_cnd, ↓reduceIte, Nat.reduceAdd, Nat.reduceMul, Nat.reduceSub, Nat.reduceEqDiff, Nat.reduceBEq, Nat.reduceBNe, Nat.reduceLT, Nat.reduceLeDiff, reduceCtorEq, Op.operands, flat_take_succ, flat_take_all]
        refine ⟨i + 1, by show i + 1 ≤ d.entries.length; omega, by show d.entries.length - (i + 1) < d.entries.length - i; omega, ?_⟩
        refine Ent.freeze [(0, 0)] ?_ ?_ rfl rfl rfl
        · simp (maxSteps := 400000) (disch := first | omega | exact okT rfl | simp only [push_cast]) only [push_cast, ↓ite_cnd, ↓reduceIte, Nat.reduceAdd, Nat.reduceMul, Nat.reduceSub, Nat.reduceEqDiff, Nat.reduceBEq, Nat.reduceBNe, Nat.reduceLT, Nat.reduceLeDiff, reduceCtorEq, Op.operands, flat_take_succ, flat_take_all, e2]
        · simp (maxSteps := 400000) (disch := first | omega | exact okT rfl | simp only [push_cast]) only [push_cast, ↓ite_cnd, ↓reduceIte, Nat.reduceAdd, Nat.reduceMul, Nat.reduceSub, Nat.reduceEqDiff, Nat.reduceBEq, Nat.reduceBNe, Nat.reduceLT, Nat.reduceLeDiff, reduceCtorEq, Op.operands, flat_take_succ, flat_take_all, e2]
          try rfl
    · have hi1 : i = d.entries.length := by omega
      subst hi1
      simp (maxSteps := 400000) (disch := first | omega | exact okT rfl | simp only [push_cast]) only [push_cast, ↓ite_cnd, ↓reduceIte, Nat.reduceAdd, Nat.reduceMul, Nat.reduceSub, Nat.reduceEqDiff, Nat.reduceBEq, Nat.reduceBNe, Nat.reduceLT, Nat.reduceLeDiff, reduceCtorEq, Op.operands, flat_take_succ, flat_take_all]
      refine ev_loopI (ι := Nat) (fun i => ⟨[(3, .v (.bool (false && d.entries.all hasV && (d.texts.take i).all hasC))), (37, .seq d.texts.length 2 (flat tcell d.texts)), (38, .v (.int .i64 d.texts.length)), (39, .v (.int .i64 i))], ⟨[], 0, 0, 0⟩⟩) (fun i => i ≤ d.texts.length) (fun i => d.texts.length - i) 0 (Nat.zero_le _) ?_ ?_
      · refine Ent.freeze [] ?_ ?_ rfl rfl rfl
        · simp (maxSteps := 400000) (disch := first | omega | exact okT rfl | simp only [push_cast]) only [push_cast, ↓ite_cnd, ↓reduceIte, Nat.reduceAdd, Nat.reduceMul, Nat.reduceSub, Nat.reduceEqDiff, Nat.reduceBEq, Nat.reduceBNe, Nat.reduceLT, Nat.reduceLeDiff, reduceCtorEq, Op.operands, flat_take_succ, flat_take_all, List.take_length]
          try simp
        · simp (maxSteps := 400000) (disch := first | omega | exact okT rfl | simp only [push_cast]) only [push_cast, ↓ite_cnd, ↓reduceIte, Nat.reduceAdd, Nat.reduceMul, Nat.reduceSub, Nat.reduceEqDiff, Nat.reduceBEq, Nat.reduceBNe, Nat.reduceLT, Nat.reduceLeDiff, reduceCtorEq, Op.operands, flat_take_succ, flat_take_all]
      intro i hi
      simp (maxSteps := 400000) (disch := first | omega | exact okT rfl | simp only [push_cast]) only [push_cast, ↓ite_cnd, ↓reduceIte, Nat.reduceAdd, Nat.reduceMul, Nat.reduceSub, Nat.reduceEqDiff, Nat.reduceBEq, Nat.reduceBNe, Nat.reduceLT, Nat.reduceLeDiff, reduceCtorEq, Op.operands, flat_take_succ, flat_take_all]
      refine ⟨fun h4 => ?_, fun h4 => ?_⟩
      · have hi1 : i < d.texts.length := by omega
        simp (maxSteps := 400000) (disch := first | omega | exact okT rfl | simp only [push_cast]) only [push_cast, ↓ite_cnd, ↓reduceIte, Nat.reduceAdd, Nat.reduceMul, Nat.reduceSub, Nat.reduceEqDiff, Nat.reduceBEq, Nat.reduceBNe, Nat.reduceLT, Nat.reduceLeDiff, reduceCtorEq, Op.operands, flat_take_succ, flat_take_all]
        cases hB : (false && d.entries.all hasV && (d.texts.take i).all hasC) with
        | true =>
          have e2 : (false && d.entries.all hasV && (d.texts.take (i + 1)).all hasC) = !decide (d.texts[i].chars = ⟨#[]⟩) := by rw [all_take hi1, ← Bool.and_assoc, hB]; rfl
          simp (maxSteps := 400000) (disch := first | omega | exact okT rfl | simp only [push_cast]) only [push_cast, ↓ite_cnd, ↓reduceIte, Nat.reduceAdd, Nat.reduceMul, Nat.reduceSub, Nat.reduceEqDiff, Nat.reduceBEq, Nat.reduceBNe, Nat.reduceLT, Nat.reduceLeDiff, reduceCtorEq, Op.operands, flat_take_succ, flat_take_all]
          refine ⟨i + 1, by show i + 1 ≤ d.texts.length; omega, by show d.texts.length - (i + 1) < d.texts.length - i; omega, ?_⟩
          refine Ent.freeze [] ?_ ?_ rfl rfl rfl
          · simp (maxSteps := 400000) (disch := first | omega | exact okT rfl | simp only [push_cast]) only [push_cast, ↓ite_cnd, ↓reduceIte, Nat.reduceAdd, Nat.reduceMul, Nat.reduceSub, Nat.reduceEqDiff, Nat.reduceBEq, Nat.reduceBNe, Nat.reduceLT, Nat.reduceLeDiff, reduceCtorEq, Op.operands, flat_take_succ, flat_take_all, e2]
          · simp (maxSteps := 400000) (disch := first | omega | exact okT rfl | simp only [push_cast]) only [push_cast, ↓ite_cnd, ↓reduceIte, Nat.reduceAdd, Nat.reduceMul, Nat.reduceSub, Nat.reduceEqDiff, Nat.reduceBEq, Nat.reduceBNe, Nat.reduceLT, Nat.reduceLeDiff, reduceCtorEq, Op.operands, flat_take_succ, flat_take_all, e2]
        | false =>
          have e2 : (false && d.entries.all hasV && (d.texts.take (i + 1)).all hasC) = false := by rw [all_take hi1, ← Bool.and_assoc, hB]; rfl
          simp (maxSteps := 400000) (disch := first | omega | exact okT rfl | simp only [push_cast]) only [push_cast, ↓ite_cnd, ↓reduceIte, Nat.reduceAdd, Nat.reduceMul, Nat.reduceSub, Nat.reduceEqDiff, Nat.reduceBEq, Nat.reduceBNe, Nat.reduceLT, Nat.reduceLeDiff, reduceCtorEq, Op.operands, flat_take_succ, flat_take_all]
          refine ⟨i + 1, by show i + 1 ≤ d.texts.length; omega, by show d.texts.length - (i + 1) < d.texts.length - i; omega, ?_⟩
          refine Ent.freeze [] ?_ ?_ rfl rfl rfl
          · simp (maxSteps := 400000) (disch := first | omega | exact okT rfl | simp only [push_cast]) only [push_cast, ↓ite_cnd, ↓reduceIte, Nat.reduceAdd, Nat.reduceMul, Nat.reduceSub, Nat.reduceEqDiff, Nat.reduceBEq, Nat.reduceBNe, Nat.reduceLT, Nat.reduceLeDiff, reduceCtorEq, Op.operands, flat_take_succ, flat_take_all, e2]
          · simp (maxSteps := 400000) (disch := first | omega | exact okT rfl | simp only [push_cast]) only [push_cast, ↓ite_cnd, ↓reduceIte, Nat.reduceAdd, Nat.reduceMul, Nat.reduceSub, Nat.reduceEqDiff, Nat.reduceBEq, Nat.reduceBNe, Nat.reduceLT, Nat.reduceLeDiff, reduceCtorEq, Op.operands, flat_take_succ, flat_take_all, e2]
      · have hi1 : i = d.texts.length := by omega
        subst hi1
        simp (maxSteps := 400000) (disch := first | omega | exact okT rfl | simp only [push_cast]) only [push_cast, ↓ite_cnd, ↓reduceIte, Nat.reduceAdd, Nat.reduceMul, Nat.reduceSub, Nat.reduceEqDiff, Nat.reduceBEq, Nat.reduceBNe, Nat.reduceLT, Nat.reduceLeDiff, reduceCtorEq, Op.operands, flat_take_succ, flat_take_all, List.take_length]
        cases d.entries.all hasV <;> cases d.texts.all hasC <;> simp (maxSteps := 400000) (disch := first | omega | exact okT rfl | simp only [push_cast]) only [push_cast, ↓ite_cnd, ↓reduceIte, Nat.reduceAdd, Nat.reduceMul, Nat.reduceSub, Nat.reduceEqDiff, Nat.reduceBEq, Nat.reduceBNe, Nat.reduceLT, Nat.reduceLeDiff, reduceCtorEq, Op.operands, flat_take_succ, flat_take_all, Bool.not_false, Bool.not_true, Bool.and_true, Bool.and_false, Bool.true_and, Bool.false_and]
        all_goals try simp
  | true =>
    simp (maxSteps := 400000) (disch := first | omega | exact okT rfl | simp only [push_cast]) only [push_cast, ↓ite_cnd, ↓reduceIte, Nat.reduceAdd, Nat.reduceMul, Nat.reduceSub, Nat.reduceEqDiff, Nat.reduceBEq, Nat.reduceBNe, Nat.reduceLT, Nat.reduceLeDiff, reduceCtorEq, Op.operands, flat_take_succ, flat_take_all]
    refine PCall.useV p2 ?_
    cases b2 with
    | false =>
      simp (maxSteps := 400000) (disch := first | omega | exact okT rfl | simp only [push_cast]) only [push_cast, ↓ite_cnd, ↓reduceIte, Nat.reduceAdd, Nat.reduceMul, Nat.reduceSub, Nat.reduceEqDiff, Nat.reduceBEq, Nat.reduceBNe, Nat.reduceLT, Nat.reduceLeDiff, reduceCtorEq, Op.operands, flat_take_succ, flat_take_all]
      refine ev_loopI (ι := Nat) (fun i => ⟨[(1, .ptr 0 0), (3, .v (.bool (false && (d.entries.take i).all hasV))), (22, .seq d.entries.length 2 (flat ecell d.entries)), (23, .v (.int .i64 d.entries.length)), (24, .v (.int .i64 i))], ⟨[(0, .cells 26 (docL d) false)], 1, 1, 0⟩⟩) (fun i => i ≤ d.entries.length) (fun i => d.entries.length - i) 0 (Nat.zero_le _) ?_ ?_
      · refine Ent.freeze [(0, 1)] ?_ ?_ rfl rfl rfl
        · simp (maxSteps := 400000) (disch := first | omega | exact okT rfl | simp only [push_cast]) only [push_cast, ↓ite_cnd, ↓reduceIte, Nat.reduceAdd, Nat.reduceMul, Nat.reduceSub, Nat.reduceEqDiff, Nat.reduceBEq, Nat.reduceBNe, Nat.reduceLT, Nat.reduceLeDiff, reduceCtorEq, Op.operands, flat_take_succ, flat_take_all]
          try rfl
        · simp (maxSteps := 400000) (disch := first | omega | exact okT rfl | simp only [push_cast]) only [push_cast, ↓ite_cnd, ↓reduceIte, Nat.reduceAdd, Nat.reduceMul, Nat.reduceSub, Nat.reduceEqDiff, Nat.reduceBEq, Nat.reduceBNe, Nat.reduceLT, Nat.reduceLeDiff, reduceCtorEq, Op.operands, flat_take_succ, flat_take_all]
          try rfl
      intro i hi
      simp (maxSteps := 400000) (disch := first | omega | exact okT rfl | simp only [push_cast]) only [push_cast, ↓ite_cnd, ↓reduceIte, Nat.reduceAdd, Nat.reduceMul, Nat.reduceSub, Nat.reduceEqDiff, Nat.reduceBEq, Nat.reduceBNe, Nat.reduceLT, Nat.reduceLeDiff, reduceCtorEq, Op.operands, flat_take_succ, flat_take_all]
      refine ⟨fun h4 => ?_, fun h4 => ?_⟩
      · have hi1 : i < d.entries.length := by omega
        simp (maxSteps := 400000) (disch := first | omega | exact okT rfl | simp only [push_cast]) only [push_cast, ↓ite_cnd, ↓reduceIte, Nat.reduceAdd, Nat.reduceMul, Nat.reduceSub, Nat.reduceEqDiff, Nat.reduceBEq, Nat.reduceBNe, Nat.reduceLT, Nat.reduceLeDiff, reduceCtorEq, Op.operands, flat_take_succ, flat_take_all]
        cases hB : (false && (d.entries.take i).all hasV) with
        | true =>
          have e2 : (false && (d.entries.take (i + 1)).all hasV) = decide (0 < d.entries[i].values.length) := by rw [all_take hi1, ← Bool.and_assoc, hB]; rfl
          simp (maxSteps := 400000) (disch := first | omega | exact okT rfl | simp only [push_cast]) only [push_cast, ↓ite_cnd, ↓reduceIte, Nat.reduceAdd, Nat.reduceMul, Nat.reduceSub, Nat.reduceEqDiff, Nat.reduceBEq, Nat.reduceBNe, Nat.reduceLT, Nat.reduceLeDiff, reduceCtorEq, Op.operands, flat_take_succ, flat_take_all]
          refine ⟨i + 1, by show i + 1 ≤ d.entries.length; omega, by show d.entries.length - (i + 1) < d.entries.length - i; omega, ?_⟩
          refine Ent.freeze [(0, 0)] ?_ ?_ rfl rfl rfl
          · simp (maxSteps := 400000) (disch := first | omega | exact okT rfl | simp only [push_cast]) only [push_cast, ↓ite_cnd, ↓reduceIte, Nat.reduceAdd, Nat.reduceMul, Nat.reduceSub, Nat.reduceEqDiff, Nat.reduceBEq, Nat.reduceBNe, Nat.reduceLT, Nat.reduceLeDiff, reduceCtorEq, Op.operands, flat_take_succ, flat_take_all, e2]
            try simp
          · simp (maxSteps := 400000) (disch := first | omega | exact okT rfl | simp only [push_cast]) only [push_cast, ↓ite_cnd, ↓reduceIte, Nat.reduceAdd, Nat.reduceMul, Nat.reduceSub, Nat.reduceEqDiff, Nat.reduceBEq, Nat.reduceBNe, Nat.reduceLT, Nat.reduceLeDiff, reduceCtorEq, Op.operands, flat_take_succ, flat_take_all, e2]
            try rfl
        | false =>
          have e2 : (false && (d.entries.take (i + 1)).all hasV) = false := by rw [all_take hi1, ← Bool.and_assoc, hB]; rfl
          simp (maxSteps := 400000) (disch := first | omega | exact okT rfl | simp only [push_cast]) only [push_cast, ↓ite_cnd, ↓reduceIte, Nat.reduceAdd, Nat.reduceMul, Nat.reduceSub, Nat.reduceEqDiff, Nat.reduceBEq, Nat.reduceBNe, Nat.reduceLT, Nat.reduceLeDiff, reduceCtorEq, Op.operands, flat_take_succ, flat_take_all]
          refine ⟨i + 1, by show i + 1 ≤ d.entries.length; omega, by show d.entries.length - (i + 1) < d.entries.length - i; omega, ?_⟩
          refine Ent.freeze [(0, 0)] ?_ ?_ rfl rfl rfl
          · simp (maxSteps := 400000) (disch := first | omega | exact okT rfl | simp only [push_cast]) only [push_cast, ↓ite_cnd, ↓reduceIte, Nat.reduceAdd, Nat.reduceMul, Nat.reduceSub, Nat.reduceEqDiff, Nat.reduceBEq, Nat.reduceBNe, Nat.reduceLT, Nat.reduceLeDiff, reduceCtorEq, Op.operands, flat_take_succ, flat_take_all, e2]
          · simp (maxSteps := 400000) (disch := first | omega | exact okT rfl | simp only [push_cast]) only [push_cast, ↓ite_cnd, ↓reduceIte, Nat.reduceAdd, Nat.reduceMul, Nat.reduceSub, Nat.reduceEqDiff, Nat.reduceBEq, Nat.reduceBNe, Nat.reduceLT, Nat.reduceLeDiff, reduceCtorEq, Op.operands, flat_take_succ, flat_take_all, e2]
            try rfl
      · have hi1 : i = d.entries.length := by omega
        subst hi1
        simp (maxSteps := 400000) (disch := first | omega | exact okT rfl | simp only [push_cast]) only [push_cast, ↓ite_cnd, ↓reduceIte, Nat.reduceAdd, Nat.reduceMul, Nat.reduceSub, Nat.reduceEqDiff, Nat.reduceBEq, Nat.reduceBNe, Nat.reduceLT, Nat.reduceLeDiff, reduceCtorEq, Op.operands, flat_take_succ, flat_take_all]
        refine ev_loopI (ι := Nat) (fun i => ⟨[(3, .v (.bool (false && d.entries.all hasV && (d.texts.take i).all hasC))), (37, .seq d.texts.length 2 (flat tcell d.texts)), (38, .v (.int .i64 d.texts.length)), (39, .v (.int .i64 i))], ⟨[], 0, 0, 0⟩⟩) (fun i => i ≤ d.texts.length) (fun i => d.texts.length - i) 0 (Nat.zero_le _) ?_ ?_
        · refine Ent.freeze [] ?_ ?_ rfl rfl rfl
          · simp (maxSteps := 400000) (disch := first | omega | exact okT rfl | simp only [push_cast]) only [push_cast, ↓ite_cnd, ↓reduceIte, Nat.reduceAdd, Nat.reduceMul, Nat.reduceSub, Nat.reduceEqDiff, Nat.reduceBEq, Nat.reduceBNe, Nat.reduceLT, Nat.reduceLeDiff, reduceCtorEq, Op.operands, flat_take_succ, flat_take_all, List.take_length]
            try simp
          · simp (maxSteps := 400000) (disch := first | omega | exact okT rfl | simp only [push_cast]) only [push_cast, ↓ite_cnd, ↓reduceIte, Nat.reduceAdd, Nat.reduceMul, Nat.reduceSub, Nat.reduceEqDiff, Nat.reduceBEq, Nat.reduceBNe, Nat.reduceLT, Nat.reduceLeDiff, reduceCtorEq, Op.operands, flat_take_succ, flat_take_all]
        intro i hi
        simp (maxSteps := 400000) (disch := first | omega | exact okT rfl | simp only [push_cast]) only [push_cast, ↓ite_cnd, ↓reduceIte, Nat.reduceAdd, Nat.reduceMul, Nat.reduceSub, Nat.reduceEqDiff, Nat.reduceBEq, Nat.reduceBNe, Nat.reduceLT, Nat.reduceLeDiff, reduceCtorEq, Op.operands, flat_take_succ, flat_take_all]
        refine ⟨fun h4 => ?_, fun h4 => ?_⟩
        · have hi1 : i < d.texts.length := by omega
          simp (maxSteps := 400000) (disch := first | omega | exact okT rfl | simp only [push_cast]) only [push_cast, ↓ite_cnd, ↓reduceIte, Nat.reduceAdd, Nat.reduceMul, Nat.reduceSub, Nat.reduceEqDiff, Nat.reduceBEq, Nat.reduceBNe, Nat.reduceLT, Nat.reduceLeDiff, reduceCtorEq, Op.operands, flat_take_succ, flat_take_all]
          cases hB : (false && d.entries.all hasV && (d.texts.take i).all hasC) with
          | true =>
            have e2 : (false && d.entries.all hasV && (d.texts.take (i + 1)).all hasC) = !decide (d.texts[i].chars = ⟨#[]⟩) := by rw [all_take hi1, ← Bool.and_assoc, hB]; rfl
            simp (maxSteps := 400000) (disch := first | omega | exact okT rfl | simp only [push_cast]) only [push_cast, ↓ite_cnd, ↓reduceIte, Nat.reduceAdd, Nat.reduceMul, Nat.reduceSub, Nat.reduceEqDiff, Nat.reduceBEq, Nat.reduceBNe, Nat.reduceLT, Nat.reduceLeDiff, reduceCtorEq, Op.operands, flat_take_succ, flat_take_all]
            refine ⟨i + 1, by show i + 1 ≤ d.texts.length; omega, by show d.texts.length - (i + 1) < d.texts.length - i; omega, ?_⟩
            refine Ent.freeze [] ?_ ?_ rfl rfl rfl
            · simp (maxSteps := 400000) (disch := first | omega | exact okT rfl | simp only [push_cast]) only [push_cast, ↓ite_cnd, ↓reduceIte, Nat.reduceAdd, Nat.reduceMul, Nat.reduceSub, Nat.reduceEqDiff, Nat.reduceBEq, Nat.reduceBNe, Nat.reduceLT, Nat.reduceLeDiff, reduceCtorEq, Op.operands, flat_take_succ, flat_take_all, e2]
            · simp (maxSteps := 400000) (disch := first | omega | exact okT rfl | simp only [push_cast]) only [push_cast, ↓ite_cnd, ↓reduceIte, Nat.reduceAdd, Nat.reduceMul, Nat.reduceSub, Nat.reduceEqDiff, Nat.reduceBEq, Nat.reduceBNe, Nat.reduceLT, Nat.reduceLeDiff, reduceCtorEq, Op.operands, flat_take_succ, flat_take_all, e2]
          | false =>
            have e2 : (false && d.entries.all hasV && (d.texts.take (i + 1)).all hasC) = false := by rw [all_take hi1, ← Bool.and_assoc, hB]; rfl
            simp (maxSteps := 400000) (disch := first | omega | exact okT rfl | simp only [push_cast]) only [push_cast, ↓ite_cnd, ↓reduceIte, Nat.reduceAdd, Nat.reduceMul, Nat.reduceSub, Nat.reduceEqDiff, Nat.reduceBEq, Nat.reduceBNe, Nat.reduceLT, Nat.reduceLeDiff, reduceCtorEq, Op.operands, flat_take_succ, flat_take_all]
            refine ⟨i + 1, by show i + 1 ≤ d.texts.length; omega, by show d.texts.length - (i + 1) < d.texts.length - i; omega, ?_⟩
            refine Ent.freeze [] ?_ ?_ rfl rfl rfl
            · simp (maxSteps := 400000) (disch := first | omega | exact okT rfl | simp only [push_cast]) only [push_cast, ↓ite_cnd, ↓reduceIte, Nat.reduceAdd, Nat.reduceMul, Nat.reduceSub, Nat.reduceEqDiff, Nat.reduceBEq, Nat.reduceBNe, Nat.reduceLT, Nat.reduceLeDiff, reduceCtorEq, Op.operands, flat_take_succ, flat_take_all, e2]
            · simp (maxSteps := 400000) (disch := first | omega | exact okT rfl | simp only [push_cast]) only [push_cast, ↓ite_cnd, ↓reduceIte, Nat.reduceAdd, Nat.reduceMul, Nat.reduceSub, Nat.reduceEqDiff, Nat.reduceBEq, Nat.reduceBNe, Nat.reduceLT, Nat.reduceLeDiff, reduceCtorEq, Op.operands, flat_take_succ, flat_take_all, e2]
        · have hi1 : i = d.texts.length := by omega
          subst hi1
          simp (maxSteps := 400000) (disch := first | omega | exact okT rfl | simp only [push_cast]) only [push_cast, ↓ite_cnd, ↓reduceIte, Nat.reduceAdd, Nat.reduceMul, Nat.reduceSub, Nat.reduceEqDiff, Nat.reduceBEq, Nat.reduceBNe, Nat.reduceLT, Nat.reduceLeDiff, reduceCtorEq, Op.operands, flat_take_succ, flat_take_all, List.take_length]
          cases d.entries.all hasV <;> cases d.texts.all hasC <;> simp (maxSteps := 400000) (disch := first | omega | exact okT rfl | simp only [push_cast]) only [push_cast, ↓ite_cnd, ↓reduceIte, Nat.reduceAdd, Nat.reduceMul, Nat.reduceSub, Nat.reduceEqDiff, Nat.reduceBEq, Nat.reduceBNe, Nat.reduceLT, Nat.reduceLeDiff, reduceCtorEq, Op.operands, flat_take_succ, flat_take_all, Bool.not_false, Bool.not_true, Bool.and_true, Bool.and_false, Bool.true_and, Bool.false_and]
          all_goals try simp
    | true =>
      simp (maxSteps := 400000) (disch := first | omega | exact okT rfl | simp only [push_cast]) only [push_cast, ↓ite_cnd, ↓reduceIte, Nat.reduceAdd, Nat.reduceMul, Nat.reduceSub, Nat.reduceEqDiff, Nat.reduceBEq, Nat.reduceBNe, Nat.reduceLT, Nat.reduceLeDiff, reduceCtorEq, Op.operands, flat_take_succ, flat_take_all]
      refine PCall.useV p3 ?_
      cases b3 with
      | false =>
        simp (maxSteps := 400000) (disch := first | omega | exact okT rfl | simp only [push_cast]) only [push_cast, ↓ite_cnd, ↓reduceIte, Nat.reduceAdd, Nat.reduceMul, Nat.reduceSub, Nat.reduceEqDiff, Nat.reduceBEq, Nat.reduceBNe, Nat.reduceLT, Nat.reduceLeDiff, reduceCtorEq, Op.operands, flat_take_succ, flat_take_all]
        refine ev_loopI (ι := Nat) (fun i => ⟨[(1, .ptr 0 0), (3, .v (.bool (false && (d.entries.take i).all hasV))), (22, .seq d.entries.length 2 (flat ecell d.entries)), (23, .v (.int .i64 d.entries.length)), (24, .v (.int .i64 i))], ⟨[(0, .cells 26 (docL d) false)], 1, 1, 0⟩⟩) (fun i => i ≤ d.entries.length) (fun i => d.entries.length - i) 0 (Nat.zero_le _) ?_ ?_
        · refine Ent.freeze [(0, 1)] ?_ ?_ rfl rfl rfl
          · simp (maxSteps := 400000) (disch := first | omega | exact okT rfl | simp only [push_cast]) only [push_cast, ↓ite_cnd, ↓reduceIte, Nat.reduceAdd, Nat.reduceMul, Nat.reduceSub, Nat.reduceEqDiff, Nat.reduceBEq, Nat.reduceBNe, Nat.reduceLT, Nat.reduceLeDiff, reduceCtorEq, Op.operands, flat_take_succ, flat_take_all]
            try rfl
          · simp (maxSteps := 400000) (disch := first | omega | exact okT rfl | simp only [push_cast]) only [push_cast, ↓ite_cnd, ↓reduceIte, Nat.reduceAdd, Nat.reduceMul, Nat.reduceSub, Nat.reduceEqDiff, Nat.reduceBEq, Nat.reduceBNe, Nat.reduceLT, Nat.reduceLeDiff, reduceCtorEq, Op.operands, flat_take_succ, flat_take_all]
            try rfl
        intro i hi
        simp (maxSteps := 400000) (disch := first | omega | exact okT rfl | simp only [push_cast]) only [push_cast, ↓ite_cnd, ↓reduceIte, Nat.reduceAdd, Nat.reduceMul, Nat.reduceSub, Nat.reduceEqDiff, Nat.reduceBEq, Nat.reduceBNe, Nat.reduceLT, Nat.reduceLeDiff, reduceCtorEq, Op.operands, flat_take_succ, flat_take_all]
        refine ⟨fun h4 => ?_, fun h4 => ?_⟩
        · have hi1 : i < d.entries.length := by omega
          simp (maxSteps := 400000) (disch := first | omega | exact okT rfl | simp only [push_cast]) only [push_cast, ↓ite_cnd, ↓reduceIte, Nat.reduceAdd, Nat.reduceMul, Nat.reduceSub, Nat.reduceEqDiff, Nat.reduceBEq, Nat.reduceBNe, Nat.reduceLT, Nat.reduceLeDiff, reduceCtorEq, Op.operands, flat_take_succ, flat_take_all]
          cases hB : (false && (d.entries.take i).all hasV) with
          | true =>
            have e2 : (false && (d.entries.take (i + 1)).all hasV) = decide (0 < d.entries[i].values.length) := by rw [all_take hi1, ← Bool.and_assoc, hB]; rfl
            simp (maxSteps := 400000) (disch := first | omega | exact okT rfl | simp only [push_cast]) only [push_cast, ↓ite_cnd, ↓reduceIte, Nat.reduceAdd, Nat.reduceMul, Nat.reduceSub, Nat.reduceEqDiff, Nat.reduceBEq, Nat.reduceBNe, Nat.reduceLT, Nat.reduceLeDiff, reduceCtorEq, Op.operands, flat_take_succ, flat_take_all]
            refine ⟨i + 1, by show i + 1 ≤ d.entries.length; omega, by show d.entries.length - (i + 1) < d.entries.length - i; omega, ?_⟩
            refine Ent.freeze [(0, 0)] ?_ ?_ rfl rfl rfl
            · simp (maxSteps := 400000) (disch := first | omega | exact okT rfl | simp only [push_cast]) only [push_cast, ↓ite_cnd, ↓reduceIte, Nat.reduceAdd, Nat.reduceMul, Nat.reduceSub, Nat.reduceEqDiff, Nat.reduceBEq, Nat.reduceBNe, Nat.reduceLT, Nat.reduceLeDiff, reduceCtorEq, Op.operands, flat_take_succ, flat_take_all, e2]
              try simp
            · simp (maxSteps := 400000) (disch := first | omega | exact okT rfl | simp only [push_cast]) only [push_cast, ↓ite_cnd, ↓reduceIte, Nat.reduceAdd, Nat.reduceMul, Nat.reduceSub, Nat.reduceEqDiff, Nat.reduceBEq, Nat.reduceBNe, Nat.reduceLT, Nat.reduceLeDiff, reduceCtorEq, Op.operands, flat_take_succ, flat_take_all, e2]
              try rfl
          | false =>
            have e2 : (false && (d.entries.take (i + 1)).all hasV) = false := by rw [all_take hi1, ← Bool.and_assoc, hB]; rfl
            simp (maxSteps := 400000) (disch := first | omega | exact okT rfl | simp only [push_cast]) only [push_cast, ↓ite_cnd, ↓reduceIte, Nat.reduceAdd, Nat.reduceMul, Nat.reduceSub, Nat.reduceEqDiff, Nat.reduceBEq, Nat.reduceBNe, Nat.reduceLT, Nat.reduceLeDiff, reduceCtorEq, Op.operands, flat_take_succ, flat_take_all]
            refine ⟨i + 1, by show i + 1 ≤ d.entries.length; omega, by show d.entries.length - (i + 1) < d.entries.length - i; omega, ?_⟩
            refine Ent.freeze [(0, 0)] ?_ ?_ rfl rfl rfl
            · simp (maxSteps := 400000) (disch := first | omega | exact okT rfl | simp only [push_cast]) only [push_cast, ↓ite_cnd, ↓reduceIte, Nat.reduceAdd, Nat.reduceMul, Nat.reduceSub, Nat.reduceEqDiff, Nat.reduceBEq, Nat.reduceBNe, Nat.reduceLT, Nat.reduceLeDiff, reduceCtorEq, Op.operands, flat_take_succ, flat_take_all, e2]
            · simp (maxSteps := 400000) (disch := first | omega | exact okT rfl | simp only [push_cast]) only [push_cast, ↓ite_cnd, ↓reduceIte, Nat.reduceAdd, Nat.reduceMul, Nat.reduceSub, Nat.reduceEqDiff, Nat.reduceBEq, Nat.reduceBNe, Nat.reduceLT, Nat.reduceLeDiff, reduceCtorEq, Op.operands, flat_take_succ, flat_take_all, e2]
              try rfl
        · have hi1 : i = d.entries.length := by omega
          subst hi1
          simp (maxSteps := 400000) (disch := first | omega | exact okT rfl | simp only [push_cast]) only [push_cast, ↓ite_cnd, ↓reduceIte, Nat.reduceAdd, Nat.reduceMul, Nat.reduceSub, Nat.reduceEqDiff, Nat.reduceBEq, Nat.reduceBNe, Nat.reduceLT, Nat.reduceLeDiff, reduceCtorEq, Op.operands, flat_take_succ, flat_take_all]
          refine ev_loopI (ι := Nat) (fun i => ⟨[(3, .v (.bool (false && d.entries.all hasV && (d.texts.take i).all hasC))), (37, .seq d.texts.length 2 (flat tcell d.texts)), (38, .v (.int .i64 d.texts.length)), (39, .v (.int .i64 i))], ⟨[], 0, 0, 0⟩⟩) (fun i => i ≤ d.texts.length) (fun i => d.texts.length - i) 0 (Nat.zero_le _) ?_ ?_
          · refine Ent.freeze [] ?_ ?_ rfl rfl rfl
            · simp (maxSteps := 400000) (disch := first | omega | exact okT rfl | simp only [push_cast]) only [push_cast, ↓ite_cnd, ↓reduceIte, Nat.reduceAdd, Nat.reduceMul, Nat.reduceSub, Nat.reduceEqDiff, Nat.reduceBEq, Nat.reduceBNe, Nat.reduceLT, Nat.reduceLeDiff, reduceCtorEq, Op.operands, flat_take_succ, flat_take_all, List.take_length]
              try simp
            · simp (maxSteps := 400000) (disch := first | omega | exact okT rfl | simp only [push_cast]) only [push_cast, ↓ite_cnd, ↓reduceIte, Nat.reduceAdd, Nat.reduceMul, Nat.reduceSub, Nat.reduceEqDiff, Nat.reduceBEq, Nat.reduceBNe, Nat.reduceLT, Nat.reduceLeDiff, reduceCtorEq, Op.operands, flat_take_succ, flat_take_all]
          intro i hi
          simp (maxSteps := 400000) (disch := first | omega | exact okT rfl | simp only [push_cast]) only [push_cast, ↓ite_cnd, ↓reduceIte, Nat.reduceAdd, Nat.reduceMul, Nat.reduceSub, Nat.reduceEqDiff, Nat.reduceBEq, Nat.reduceBNe, Nat.reduceLT, Nat.reduceLeDiff, reduceCtorEq, Op.operands, flat_take_succ, flat_take_all]
          refine ⟨fun h4 => ?_, fun h4 => ?_⟩
          · have hi1 : i < d.texts.length := by omega
            simp (maxSteps := 400000) (disch := first | omega | exact okT rfl | simp only [push_cast]) only [push_cast, ↓ite_cnd, ↓reduceIte, Nat.reduceAdd, Nat.reduceMul, Nat.reduceSub, Nat.reduceEqDiff, Nat.reduceBEq, Nat.reduceBNe, Nat.reduceLT, Nat.reduceLeDiff, reduceCtorEq, Op.operands, flat_take_succ, flat_take_all]
            cases hB : (false && d.entries.all hasV && (d.texts.take i).all hasC) with
            | true =>
              have e2 : (false && d.entries.all hasV && (d.texts.take (i + 1)).all hasC) = !decide (d.texts[i].chars = ⟨#[]⟩) := by rw [all_take hi1, ← Bool.and_assoc, hB]; rfl
              simp (maxSteps := 400000) (disch := first | omega | exact okT rfl | simp only [push_cast]) only [push_cast, ↓ite_cnd, ↓reduceIte, Nat.reduceAdd, Nat.reduceMul, Nat.reduceSub, Nat.reduceEqDiff, Nat.reduceBEq, Nat.reduceBNe, Nat.reduceLT, Nat.reduceLeDiff, reduceCtorEq, Op.operands, flat_take_succ, flat_take_all]
              refine ⟨i + 1, by show i + 1 ≤ d.texts.length; omega, by show d.texts.length - (i + 1) < d.texts.length - i; omega, ?_⟩
              refine Ent.freeze [] ?_ ?_ rfl rfl rfl
              · simp (maxSteps := 400000) (disch := first | omega | exact okT rfl | simp only [push_cast]) only [push_cast, ↓ite_cnd, ↓reduceIte, Nat.reduceAdd, Nat.reduceMul, Nat.reduceSub, Nat.reduceEqDiff, Nat.reduceBEq, Nat.reduceBNe, Nat.reduceLT, Nat.reduceLeDiff, reduceCtorEq, Op.operands, flat_take_succ, flat_take_all, e2]
              · simp (maxSteps := 400000) (disch := first | omega | exact okT rfl | simp only [push_cast]) only [push_cast, ↓ite_cnd, ↓reduceIte, Nat.reduceAdd, Nat.reduceMul, Nat.reduceSub, Nat.reduceEqDiff, Nat.reduceBEq, Nat.reduceBNe, Nat.reduceLT, Nat.reduceLeDiff, reduceCtorEq, Op.operands, flat_take_succ, flat_take_all, e2]
            | false =>
              have e2 : (false && d.entries.all hasV && (d.texts.take (i + 1)).all hasC) = false := by rw [all_take hi1, ← Bool.and_assoc, hB]; rfl
              simp (maxSteps := 400000) (disch := first | omega | exact okT rfl | simp only [push_cast]) only [push_cast, ↓ite_cnd, ↓reduceIte, Nat.reduceAdd, Nat.reduceMul, Nat.reduceSub, Nat.reduceEqDiff, Nat.reduceBEq, Nat.reduceBNe, Nat.reduceLT, Nat.reduceLeDiff, reduceCtorEq, Op.operands, flat_take_succ, flat_take_all]
              refine ⟨i + 1, by show i + 1 ≤ d.texts.length; omega, by show d.texts.length - (i + 1) < d.texts.length - i; omega, ?_⟩
              refine Ent.freeze [] ?_ ?_ rfl rfl rfl
              · simp (maxSteps := 400000) (disch := first | omega | exact okT rfl | simp only [push_cast]) only [push_cast, ↓ite_cnd, ↓reduceIte, Nat.reduceAdd, Nat.reduceMul, Nat.reduceSub, Nat.reduceEqDiff, Nat.reduceBEq, Nat.reduceBNe, Nat.reduceLT, Nat.reduceLeDiff, reduceCtorEq, Op.operands, flat_take_succ, flat_take_all, e2]
              · simp (maxSteps := 400000) (disch := first | omega | exact okT rfl | simp only [push_cast]) only [push_cast, ↓ite_cnd, ↓reduceIte, Nat.reduceAdd, Nat.reduceMul, Nat.reduceSub, Nat.reduceEqDiff, Nat.reduceBEq, Nat.reduceBNe, Nat.reduceLT, Nat.reduceLeDiff, reduceCtorEq, Op.operands, flat_take_succ, flat_take_all, e2]
          · have hi1 : i = d.texts.length := by omega
            subst hi1
            simp (maxSteps := 400000) (disch := first | omega | exact okT rfl | simp only [push_cast]) only [push_cast, ↓ite_cnd, ↓reduceIte, Nat.reduceAdd, Nat.reduceMul, Nat.reduceSub, Nat.reduceEqDiff, Nat.reduceBEq, Nat.reduceBNe, Nat.reduceLT, Nat.reduceLeDiff, reduceCtorEq, Op.operands, flat_take_succ, flat_take_all, List.take_length]
            cases d.entries.all hasV <;> cases d.texts.all hasC <;> simp (maxSteps := 400000) (disch := first | omega | exact okT rfl | simp only [push_cast]) only [push_cast, ↓ite_cnd, ↓reduceIte, Nat.reduceAdd, Nat.reduceMul, Nat.reduceSub, Nat.reduceEqDiff, Nat.reduceBEq, Nat.reduceBNe, Nat.reduceLT, Nat.reduceLeDiff, reduceCtorEq, Op.operands, flat_take_succ, flat_take_all, Bool.not_false, Bool.not_true, Bool.and_true, Bool.and_false, Bool.true_and, Bool.false_and]
            all_goals try simp
      | true =>
        simp (maxSteps := 400000) (disch := first | omega | exact okT rfl | simp only [push_cast]) only [push_cast, ↓ite_cnd, ↓reduceIte, Nat.reduceAdd, Nat.reduceMul, Nat.reduceSub, Nat.reduceEqDiff, Nat.reduceBEq, Nat.reduceBNe, Nat.reduceLT, Nat.reduceLeDiff, reduceCtorEq, Op.operands, flat_take_succ, flat_take_all]
        refine ev_loopI (ι := Nat) (fun i => ⟨[(1, .ptr 0 0), (3, .v (.bool ((d.entries.take i).all hasV))), (22, .seq d.entries.length 2 (flat ecell d.entries)), (23, .v (.int .i64 d.entries.length)), (24, .v (.int .i64 i))], ⟨[(0, .cells 26 (docL d) false)], 1, 1, 0⟩⟩) (fun i => i ≤ d.entries.length) (fun i => d.entries.length - i) 0 (Nat.zero_le _) ?_ ?_
        · refine Ent.freeze [(0, 1)] ?_ ?_ rfl rfl rfl
          · simp (maxSteps := 400000) (disch := first | omega | exact okT rfl | simp only [push_cast]) only [push_cast, ↓ite_cnd, ↓reduceIte, Nat.reduceAdd, Nat.reduceMul, Nat.reduceSub, Nat.reduceEqDiff, Nat.reduceBEq, Nat.reduceBNe, Nat.reduceLT, Nat.reduceLeDiff, reduceCtorEq, Op.operands, flat_take_succ, flat_take_all]
            try rfl
          · simp (maxSteps := 400000) (disch := first | omega | exact okT rfl | simp only [push_cast]) only [push_cast, ↓ite_cnd, ↓reduceIte, Nat.reduceAdd, Nat.reduceMul, Nat.reduceSub, Nat.reduceEqDiff, Nat.reduceBEq, Nat.reduceBNe, Nat.reduceLT, Nat.reduceLeDiff, reduceCtorEq, Op.operands, flat_take_succ, flat_take_all]
            try rfl
        intro i hi
        simp (maxSteps := 400000) (disch := first | omega | exact okT rfl | simp only [push_cast]) only [push_cast, ↓ite_cnd, ↓reduceIte, Nat.reduceAdd, Nat.reduceMul, Nat.reduceSub, Nat.reduceEqDiff, Nat.reduceBEq, Nat.reduceBNe, Nat.reduceLT, Nat.reduceLeDiff, reduceCtorEq, Op.operands, flat_take_succ, flat_take_all]
        refine ⟨fun h4 => ?_, fun h4 => ?_⟩
        · have hi1 : i < d.entries.length := by omega
          simp (maxSteps := 400000) (disch := first | omega | exact okT rfl | simp only [push_cast]) only [push_cast, ↓ite_cnd, ↓reduceIte, Nat.reduceAdd, Nat.reduceMul, Nat.reduceSub, Nat.reduceEqDiff, Nat.reduceBEq, Nat.reduceBNe, Nat.reduceLT, Nat.reduceLeDiff, reduceCtorEq, Op.operands, flat_take_succ, flat_take_all]
          cases hB : ((d.entries.take i).all hasV) with
          | true =>
            have e2 : ((d.entries.take (i + 1)).all hasV) = decide (0 < d.entries[i].values.length) := by rw [all_take hi1, hB]; rfl
            simp (maxSteps := 400000) (disch := first | omega | exact okT rfl | simp only [push_cast]) only [push_cast, ↓ite_cnd, ↓reduceIte, Nat.reduceAdd, Nat.reduceMul, Nat.reduceSub, Nat.reduceEqDiff, Nat.reduceBEq, Nat.reduceBNe, Nat.reduceLT, Nat.reduceLeDiff, reduceCtorEq, Op.operands, flat_take_succ, flat_take_all]
            refine ⟨i + 1, by show i + 1 ≤ d.entries.length; omega, by show d.entries.length - (i + 1) < d.entries.length - i; omega, ?_⟩
            refine Ent.freeze [(0, 0)] ?_ ?_ rfl rfl rfl
            · simp (maxSteps := 400000) (disch := first | omega | exact okT rfl | simp only [push_cast]) only [push_cast, ↓ite_cnd, ↓reduceIte, Nat.reduceAdd, Nat.reduceMul, Nat.reduceSub, Nat.reduceEqDiff, Nat.reduceBEq, Nat.reduceBNe, Nat.reduceLT, Nat.reduceLeDiff, reduceCtorEq, Op.operands, flat_take_succ, flat_take_all, e2]
              try simp
            · simp (maxSteps := 400000) (disch := first | omega | exact okT rfl | simp only [push_cast]) only [push_cast, ↓ite_cnd, ↓reduceIte, Nat.reduceAdd, Nat.reduceMul, Nat.reduceSub, Nat.reduceEqDiff, Nat.reduceBEq, Nat.reduceBNe, Nat.reduceLT, Nat.reduceLeDiff, reduceCtorEq, Op.operands, flat_take_succ, flat_take_all, e2]
              try rfl
          | false =>
            have e2 : ((d.entries.take (i + 1)).all hasV) = false := by rw [all_take hi1, hB]; rfl
            simp (maxSteps := 400000) (disch := first | omega | exact okT rfl | simp only [push_cast]) only [push_cast, ↓ite_cnd, ↓reduceIte, Nat.reduceAdd, Nat.reduceMul, Nat.reduceSub, Nat.reduceEqDiff, Nat.reduceBEq, Nat.reduceBNe, Nat.reduceLT, Nat.reduceLeDiff, reduceCtorEq, Op.operands, flat_take_succ, flat_take_all]
            refine ⟨i + 1, by show i + 1 ≤ d.entries.length; omega, by show d.entries.length - (i + 1) < d.entries.length - i; omega, ?_⟩
            refine Ent.freeze [(0, 0)] ?_ ?_ rfl rfl rfl
            · simp (maxSteps := 400000) (disch := first | omega | exact okT rfl | simp only [push_cast]) only [push_cast, ↓ite_cnd, ↓reduceIte, Nat.reduceAdd, Nat.reduceMul, Nat.reduceSub, Nat.reduceEqDiff, Nat.reduceBEq, Nat.reduceBNe, Nat.reduceLT, Nat.reduceLeDiff, reduceCtorEq, Op.operands, flat_take_succ, flat_take_all, e2]
            · simp (maxSteps := 400000) (disch := first | omega | exact okT rfl | simp only [push_cast]) only [push_cast, ↓ite_cnd, ↓reduceIte, Nat.reduceAdd, Nat.reduceMul, Nat.reduceSub, Nat.reduceEqDiff, Nat.reduceBEq, Nat.reduceBNe, Nat.reduceLT, Nat.reduceLeDiff, reduceCtorEq, Op.operands, flat_take_succ, flat_take_all, e2]
              try rfl
        · have hi1 : i = d.entries.length := by omega
          subst hi1
          simp (maxSteps := 400000) (disch := first | omega | exact okT rfl | simp only [push_cast]) only [push_cast, ↓ite_cnd, ↓reduceIte, Nat.reduceAdd, Nat.reduceMul, Nat.reduceSub, Nat.reduceEqDiff, Nat.reduceBEq, Nat.reduceBNe, Nat.reduceLT, Nat.reduceLeDiff, reduceCtorEq, Op.operands, flat_take_succ, flat_take_all]
          refine ev_loopI (ι := Nat) (fun i => ⟨[(3, .v (.bool (d.entries.all hasV && (d.texts.take i).all hasC))), (37, .seq d.texts.length 2 (flat tcell d.texts)), (38, .v (.int .i64 d.texts.length)), (39, .v (.int .i64 i))], ⟨[], 0, 0, 0⟩⟩) (fun i => i ≤ d.texts.length) (fun i => d.texts.length - i) 0 (Nat.zero_le _) ?_ ?_
          · refine Ent.freeze [] ?_ ?_ rfl rfl rfl
            · simp (maxSteps := 400000) (disch := first | omega | exact okT rfl | simp only [push_cast]) only [push_cast, ↓ite_cnd, ↓reduceIte, Nat.reduceAdd, Nat.reduceMul, Nat.reduceSub, Nat.reduceEqDiff, Nat.reduceBEq, Nat.reduceBNe, Nat.reduceLT, Nat.reduceLeDiff, reduceCtorEq, Op.operands, flat_take_succ, flat_take_all, List.take_length]
              try simp
            · simp (maxSteps := 400000) (disch := first | omega | exact okT rfl | simp only [push_cast]) only [push_cast, ↓ite_cnd, ↓reduceIte, Nat.reduceAdd, Nat.reduceMul, Nat.reduceSub, Nat.reduceEqDiff, Nat.reduceBEq, Nat.reduceBNe, Nat.reduceLT, Nat.reduceLeDiff, reduceCtorEq, Op.operands, flat_take_succ, flat_take_all]
          intro i hi
          simp (maxSteps := 400000) (disch := first | omega | exact okT rfl | simp only [push_cast]) only [push_cast, ↓ite_cnd, ↓reduceIte, Nat.reduceAdd, Nat.reduceMul, Nat.reduceSub, Nat.reduceEqDiff, Nat.reduceBEq, Nat.reduceBNe, Nat.reduceLT, Nat.reduceLeDiff, reduceCtorEq, Op.operands, flat_take_succ, flat_take_all]
          refine ⟨fun h4 => ?_, fun h4 => ?_⟩
          · have hi1 : i < d.texts.length := by omega
            simp (maxSteps := 400000) (disch := first | omega | exact okT rfl | simp only [push_cast]) only [push_cast, ↓ite_cnd, ↓reduceIte, Nat.reduceAdd, Nat.reduceMul, Nat.reduceSub, Nat.reduceEqDiff, Nat.reduceBEq, Nat.reduceBNe, Nat.reduceLT, Nat.reduceLeDiff, reduceCtorEq, Op.operands, flat_take_succ, flat_take_all]
            cases hB : (d.entries.all hasV && (d.texts.take i).all hasC) with
            | true =>
              have e2 : (d.entries.all hasV && (d.texts.take (i + 1)).all hasC) = !decide (d.texts[i].chars = ⟨#[]⟩) := by rw [all_take hi1, ← Bool.and_assoc, hB]; rfl
              simp (maxSteps := 400000) (disch := first | omega | exact okT rfl | simp only [push_cast]) only [push_cast, ↓ite_cnd, ↓reduceIte, Nat.reduceAdd, Nat.reduceMul, Nat.reduceSub, Nat.reduceEqDiff, Nat.reduceBEq, Nat.reduceBNe, Nat.reduceLT, Nat.reduceLeDiff, reduceCtorEq, Op.operands, flat_take_succ, flat_take_all]
              refine ⟨i + 1, by show i + 1 ≤ d.texts.length; omega, by show d.texts.length - (i + 1) < d.texts.length - i; omega, ?_⟩
              refine Ent.freeze [] ?_ ?_ rfl rfl rfl
              · simp (maxSteps := 400000) (disch := first | omega | exact okT rfl | simp only [push_cast]) only [push_cast, ↓ite_cnd, ↓reduceIte, Nat.reduceAdd, Nat.reduceMul, Nat.reduceSub, Nat.reduceEqDiff, Nat.reduceBEq, Nat.reduceBNe, Nat.reduceLT, Nat.reduceLeDiff, reduceCtorEq, Op.operands, flat_take_succ, flat_take_all, e2]
              · simp (maxSteps := 400000) (disch := first | omega | exact okT rfl | simp only [push_cast]) only [push_cast, ↓ite_cnd, ↓reduceIte, Nat.reduceAdd, Nat.reduceMul, Nat.reduceSub, Nat.reduceEqDiff, Nat.reduceBEq, Nat.reduceBNe, Nat.reduceLT, Nat.reduceLeDiff, reduceCtorEq, Op.operands, flat_take_succ, flat_take_all, e2]
            | false =>
              have e2 : (d.entries.all hasV && (d.texts.take (i + 1)).all hasC) = false := by rw [all_take hi1, ← Bool.and_assoc, hB]; rfl
              simp (maxSteps := 400000) (disch := first | omega | exact okT rfl | simp only [push_cast]) only [push_cast, ↓ite_cnd, ↓reduceIte, Nat.reduceAdd, Nat.reduceMul, Nat.reduceSub, Nat.reduceEqDiff, Nat.reduceBEq, Nat.reduceBNe, Nat.reduceLT, Nat.reduceLeDiff, reduceCtorEq, Op.operands, flat_take_succ, flat_take_all]
              refine ⟨i + 1, by show i + 1 ≤ d.texts.length; omega, by show d.texts.length - (i + 1) < d.texts.length - i; omega, ?_⟩
              refine Ent.freeze [] ?_ ?_ rfl rfl rfl
              · simp (maxSteps := 400000) (disch := first | omega | exact okT rfl | simp only [push_cast]) only [push_cast, ↓ite_cnd, ↓reduceIte, Nat.reduceAdd, Nat.reduceMul, Nat.reduceSub, Nat.reduceEqDiff, Nat.reduceBEq, Nat.reduceBNe, Nat.reduceLT, Nat.reduceLeDiff, reduceCtorEq, Op.operands, flat_take_succ, flat_take_all, e2]
              · simp (maxSteps := 400000) (disch := first | omega | exact okT rfl | simp only [push_cast]) only [push_cast, ↓ite_cnd, ↓reduceIte, Nat.reduceAdd, Nat.reduceMul, Nat.reduceSub, Nat.reduceEqDiff, Nat.reduceBEq, Nat.reduceBNe, Nat.reduceLT, Nat.reduceLeDiff, reduceCtorEq, Op.operands, flat_take_succ, flat_take_all, e2]
          · have hi1 : i = d.texts.length := by omega
            subst hi1
            simp (maxSteps := 400000) (disch := first | omega | exact okT rfl | simp only [push_cast]) only [push_cast, ↓ite_cnd, ↓reduceIte, Nat.reduceAdd, Nat.reduceMul, Nat.reduceSub, Nat.reduceEqDiff, Nat.reduceBEq, Nat.reduceBNe, Nat.reduceLT, Nat.reduceLeDiff, reduceCtorEq, Op.operands, flat_take_succ, flat_take_all, List.take_length]
            cases d.entries.all hasV <;> cases d.texts.all hasC <;> simp (maxSteps := 400000) (disch := first | omega | exact okT rfl | simp only [push_cast]) only [push_cast, ↓ite_cnd, ↓reduceIte, Nat.reduceAdd, Nat.reduceMul, Nat.reduceSub, Nat.reduceEqDiff, Nat.reduceBEq, Nat.reduceBNe, Nat.reduceLT, Nat.reduceLeDiff, reduceCtorEq, Op.operands, flat_take_succ, flat_take_all, Bool.not_false, Bool.not_true, Bool.and_true, Bool.and_false, Bool.true_and, Bool.false_and]
            all_goals try simp
end Go.AW
