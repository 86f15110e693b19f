/- Contracts: patches, as the document says. -/
import Derived.Test.YteoodenfggmpfaaCZ11
import Derived.Test.YteoodenfggmpfaaFe
namespace Go.AW
open Proofs

set_option linter.unusedSimpArgs false
set_option linter.unusedVariables false
set_option maxRecDepth 100000
set_option maxHeartbeats 8000000

def putsN (l : List PatchV) : Nat := (l.map fun p => p.put.size).sum
/-- What patches do to a document, one after another; none: they can't be. -/
def manyF (o : Option DocV) (l : List PatchV) : Option DocV := l.foldl (fun o p => o.bind fun d => oneF d p) o
def noDoc : DocV := ⟨[], [], []⟩
def applyR (d : DocV) (l : List PatchV) : DocV × Int := if checkB d then (match manyF (some d) l with | some d' => (d', 0) | none => (noDoc, 4)) else (noDoc, 2)

theorem c8 (d : DocV) (l : List PatchV) (hl : l.length ≤ 1048576) (hd : DocB d l.length (putsN l)) (hp : ∀ p ∈ l, PatOK p) : PCall Try.prog [] 8 [.agg (docL d), .seq l.length 9 (flat pcell l)] (.tup [.agg (docL (applyR d l).1), .v (.int .i64 (applyR d l).2)]) := by
  refine PCall.startW Try.func8 rfl (by kernel_rfl) rfl Try.ntmps8 fol (by kernel_rfl) (by simp [idfL, idf, idfL_docL, idfL_flat idfL_pcell]) (by simp [idfL, idf, idfL_docL]) ?_
  simp only [List.zipIdx_cons, List.zipIdx_nil, List.map_cons, List.map_nil, Nat.zero_add]
  simp (maxSteps := 400000) (disch := first | omega | exact okT rfl | simp only [push_cast]) only [push_cast, ↓ite_cnd, ↓reduceIte, Nat.reduceAdd, Nat.reduceMul, Nat.reduceSub, Nat.reduceEqDiff, Nat.reduceBEq, Nat.reduceBNe, Nat.reduceLT, Nat.reduceLeDiff, reduceCtorEq, Op.operands, flat_take_succ, flat_take_all]
  refine PCall.useV (c11 d hd.ok) ?_
  cases hc : checkB d with
  | false =>
    have e : applyR d l = (noDoc, 2) := by simp [applyR, hc]
    simp (maxSteps := 400000) (disch := first | omega | exact okT rfl | simp only [push_cast]) only [push_cast, ↓ite_cnd, ↓reduceIte, Nat.reduceAdd, Nat.reduceMul, Nat.reduceSub, Nat.reduceEqDiff, Nat.reduceBEq, Nat.reduceBNe, Nat.reduceLT, Nat.reduceLeDiff, reduceCtorEq, Op.operands, flat_take_succ, flat_take_all]
    refine ⟨fun _ => ?_, fun h => absurd h (by decide)⟩
    simp (maxSteps := 400000) (disch := first | omega | exact okT rfl | simp only [push_cast]) only [push_cast, ↓ite_cnd, ↓reduceIte, Nat.reduceAdd, Nat.reduceMul, Nat.reduceSub, Nat.reduceEqDiff, Nat.reduceBEq, Nat.reduceBNe, Nat.reduceLT, Nat.reduceLeDiff, reduceCtorEq, Op.operands, flat_take_succ, flat_take_all]
    rw [e]
    exact ⟨by simp [docL, noDoc, WkL, Wk_nil, flat], rfl⟩
  | true =>
    have e : applyR d l = (match manyF (some d) l with | some d' => (d', 0) | none => (noDoc, 4)) := by simp [applyR, hc]
    simp (maxSteps := 400000) (disch := first | omega | exact okT rfl | simp only [push_cast]) only [push_cast, ↓ite_cnd, ↓reduceIte, Nat.reduceAdd, Nat.reduceMul, Nat.reduceSub, Nat.reduceEqDiff, Nat.reduceBEq, Nat.reduceBNe, Nat.reduceLT, Nat.reduceLeDiff, reduceCtorEq, Op.operands, flat_take_succ, flat_take_all]
    refine PCall.useV (c5 d hd.ok) ?_
    simp (maxSteps := 400000) (disch := first | omega | exact okT rfl | simp only [push_cast]) only [push_cast, ↓ite_cnd, ↓reduceIte, Nat.reduceAdd, Nat.reduceMul, Nat.reduceSub, Nat.reduceEqDiff, Nat.reduceBEq, Nat.reduceBNe, Nat.reduceLT, Nat.reduceLeDiff, reduceCtorEq, Op.operands, flat_take_succ, flat_take_all]
    refine ev_loopI (ι := Nat × DocV) (fun s => ⟨[(1, .seq l.length 9 (flat pcell l)), (4, .ptr 0 0), (7, .ptr 1 0), (9, .v (.int .i64 s.1))], ⟨[(0, .cells 26 [.v (.slice none 0 0), .v (.slice none 0 0), .v (.slice none 0 0)] false), (1, .cells 26 (docL s.2) false)], 2, 2, 0⟩⟩) (fun s => s.1 ≤ l.length ∧ manyF (some d) (l.take s.1) = some s.2 ∧ DocB s.2 (l.length - s.1) (putsN (l.drop s.1))) (fun s => l.length - s.1) (0, d) ⟨Nat.zero_le _, by simp [manyF], by simpa using hd⟩ ?_ ?_
    · refine Ent.freeze [(0, 4), (1, 118)] ?_ ?_ rfl rfl rfl
      · simp (maxSteps := 400000) (disch := first | omega | exact okT rfl | simp only [push_cast]) only [push_cast, ↓ite_cnd, ↓reduceIte, Nat.reduceAdd, Nat.reduceMul, Nat.reduceSub, Nat.reduceEqDiff, Nat.reduceBEq, Nat.reduceBNe, Nat.reduceLT, Nat.reduceLeDiff, reduceCtorEq, Op.operands, flat_take_succ, flat_take_all]
      · simp (maxSteps := 400000) (disch := first | omega | exact okT rfl | simp only [push_cast]) only [push_cast, ↓ite_cnd, ↓reduceIte, Nat.reduceAdd, Nat.reduceMul, Nat.reduceSub, Nat.reduceEqDiff, Nat.reduceBEq, Nat.reduceBNe, Nat.reduceLT, Nat.reduceLeDiff, reduceCtorEq, Op.operands, flat_take_succ, flat_take_all]
        try rfl
    rintro ⟨i, c⟩ ⟨hi, hm, hB⟩
    dsimp only at hi hm hB ⊢
    simp (maxSteps := 400000) (disch := first | omega | exact okT rfl | simp only [push_cast]) only [push_cast, ↓ite_cnd, ↓reduceIte, Nat.reduceAdd, Nat.reduceMul, Nat.reduceSub, Nat.reduceEqDiff, Nat.reduceBEq, Nat.reduceBNe, Nat.reduceLT, Nat.reduceLeDiff, reduceCtorEq, Op.operands, flat_take_succ, flat_take_all]
    refine ⟨fun h4 => ?_, fun h4 => ?_⟩
    · have hi1 : i < l.length := by omega
      have hpi := hp l[i] (List.getElem_mem hi1)
      have hdr : l.drop i = l[i] :: l.drop (i + 1) := List.drop_eq_getElem_cons hi1
      have hms : manyF (some d) (l.take (i + 1)) = oneF c l[i] := by
        rw [List.take_succ_eq_append_getElem hi1]
        simp only [manyF, List.foldl_append] at hm ⊢
        rw [hm]; rfl
      have hB' : DocB c (l.length - (i + 1) + 1) (putsN (l.drop (i + 1)) + l[i].put.size) := by
        have e1 : l.length - (i + 1) + 1 = l.length - i := by omega
        have e2 : putsN (l.drop (i + 1)) + l[i].put.size = putsN (l.drop i) := by rw [hdr]; simp only [putsN, List.map_cons, List.sum_cons]; omega
        rw [e1, e2]; exact hB
      simp (maxSteps := 400000) (disch := first | omega | exact okT rfl | simp only [push_cast]) only [push_cast, ↓ite_cnd, ↓reduceIte, Nat.reduceAdd, Nat.reduceMul, Nat.reduceSub, Nat.reduceEqDiff, Nat.reduceBEq, Nat.reduceBNe, Nat.reduceLT, Nat.reduceLeDiff, reduceCtorEq, Op.operands, flat_take_succ, flat_take_all]
      refine evDC2.useV (c19 c hB.ok l[i] hpi) rfl ?_
      cases ho : oneF c l[i] with
      | some c' =>
        simp (maxSteps := 400000) (disch := first | omega | exact okT rfl | simp only [push_cast]) only [push_cast, ↓ite_cnd, ↓reduceIte, Nat.reduceAdd, Nat.reduceMul, Nat.reduceSub, Nat.reduceEqDiff, Nat.reduceBEq, Nat.reduceBNe, Nat.reduceLT, Nat.reduceLeDiff, reduceCtorEq, Op.operands, flat_take_succ, flat_take_all, Option.isSome_some, Option.getD_some]
        refine ⟨(i + 1, c'), ⟨by show i + 1 ≤ l.length; omega, by show manyF (some d) (l.take (i + 1)) = some c'; rw [hms, ho], oneF_B hB' hpi ho⟩, by show l.length - (i + 1) < l.length - i; omega, ?_⟩
        refine Ent.freeze [(0, 0), (1, 1)] ?_ ?_ rfl rfl rfl
        · simp (maxSteps := 400000) (disch := first | omega | exact okT rfl | simp only [push_cast]) only [push_cast, ↓ite_cnd, ↓reduceIte, Nat.reduceAdd, Nat.reduceMul, Nat.reduceSub, Nat.reduceEqDiff, Nat.reduceBEq, Nat.reduceBNe, Nat.reduceLT, Nat.reduceLeDiff, reduceCtorEq, Op.operands, flat_take_succ, flat_take_all]
        · simp (maxSteps := 400000) (disch := first | omega | exact okT rfl | simp only [push_cast]) only [push_cast, ↓ite_cnd, ↓reduceIte, Nat.reduceAdd, Nat.reduceMul, Nat.reduceSub, Nat.reduceEqDiff, Nat.reduceBEq, Nat.reduceBNe, Nat.reduceLT, Nat.reduceLeDiff, reduceCtorEq, Op.operands, flat_take_succ, flat_take_all]
          try rfl
      | none =>
        have hall : manyF (some d) l = none := by
          have : l = l.take (i + 1) ++ l.drop (i + 1) := (List.take_append_drop _ _).symm
          rw [this]
          simp only [manyF, List.foldl_append] at hms ⊢
          rw [hms, ho]
          generalize l.drop (i + 1) = k
          induction k with
          | nil => rfl
          | cons p k ih => simpa using ih
        simp (maxSteps := 400000) (disch := first | omega | exact okT rfl | simp only [push_cast]) only [push_cast, ↓ite_cnd, ↓reduceIte, Nat.reduceAdd, Nat.reduceMul, Nat.reduceSub, Nat.reduceEqDiff, Nat.reduceBEq, Nat.reduceBNe, Nat.reduceLT, Nat.reduceLeDiff, reduceCtorEq, Op.operands, flat_take_succ, flat_take_all, Option.isSome_none, Option.getD_none]
        rw [e, hall]
        exact ⟨by simp [docL, noDoc, WkL, Wk_nil, flat], rfl⟩
    · have hi1 : i = l.length := by omega
      subst hi1
      rw [List.take_length] at hm
      simp (maxSteps := 400000) (disch := first | omega | exact okT rfl | simp only [push_cast]) only [push_cast, ↓ite_cnd, ↓reduceIte, Nat.reduceAdd, Nat.reduceMul, Nat.reduceSub, Nat.reduceEqDiff, Nat.reduceBEq, Nat.reduceBNe, Nat.reduceLT, Nat.reduceLeDiff, reduceCtorEq, Op.operands, flat_take_succ, flat_take_all]
      rw [e, hm]
      exact ⟨Wk_refl.go _, rfl⟩
end Go.AW
