/- Contracts: may a document be, as the document says. -/
import Derived.Test.YteoodenfggmpfaaCZ4
namespace Go.AW
open Proofs

set_option linter.unusedSimpArgs false
set_option linter.unusedVariables false
set_option maxRecDepth 100000
set_option maxHeartbeats 8000000

theorem snap_sl1 {f : Nat → Option AObj} {o n : Nat} {E : TypeId} {l : List ByteArray} {ap : Bool} (h : f o = some (.cells E (flat scell l) ap)) (hn : n = l.length) : snapArgs f [.sl o 0 n 1] = some ([.seq l.length 1 (flat scell l)], [o]) := by
  subst hn
  simp [snapArgs, snap, h, snapL, idfL_sflat, sflat_length, List.take_of_length_le]

theorem c11 (d : DocV) (hd : DocOK d) : PCall Try.prog [] 11 [.agg (docL d)] (.v (.int .i64 (if checkB d then 0 else 2))) := by
  have hle := hd.le
  have hlt := hd.lt
  have hlc := hd.lc
  have p1 := c27 (d.entries.map (·.key)) (by simpa using hle) (by simpa using hd.ke)
  have p2 := c27 (d.counts.map (·.key)) (by simpa using hlc) (by simpa using hd.kc)
  have p3 := c27 (d.texts.map (·.name)) (by simpa using hlt) (by simpa using hd.kt)
  have hck : checkB d = (namedB (d.entries.map (·.key)) && namedB (d.counts.map (·.key)) && namedB (d.texts.map (·.name)) && d.entries.all hasV && d.texts.all hasC) := rfl
  generalize hk1 : d.entries.map (·.key) = k1 at p1 hck
  generalize hk2 : d.counts.map (·.key) = k2 at p2 hck
  generalize hk3 : d.texts.map (·.name) = k3 at p3 hck
  generalize namedB k1 = b1 at p1 hck
  generalize namedB k2 = b2 at p2 hck
  generalize namedB k3 = b3 at p3 hck
  have l1 : k1.length = d.entries.length := by rw [← hk1]; simp
  have l2 : k2.length = d.counts.length := by rw [← hk2]; simp
  have l3 : k3.length = d.texts.length := by rw [← hk3]; simp
  refine PCall.start Try.func11 rfl (by kernel_rfl) rfl Try.ntmps11 fol (by kernel_rfl) (by simp [idfL, idf, idfL_docL]) rfl ?_
  simp only [List.zipIdx_cons, List.zipIdx_nil, List.map_cons, List.map_nil, Nat.zero_add]
  simp (maxSteps := 400000) (disch := first | omega | exact okT rfl | simp only [push_cast]) only [push_cast, ↓ite_cnd, ↓reduceIte, Nat.reduceAdd, Nat.reduceMul, Nat.reduceSub, Nat.reduceEqDiff, Nat.reduceBEq, Nat.reduceBNe, Nat.reduceLT, Nat.reduceLeDiff, reduceCtorEq, Op.operands, flat_take_succ, flat_take_all]
  refine ev_loopI (ι := Nat) (fun i => ⟨[(1, .ptr 0 0), (3, .sl 1 0 i 1), (4, .v (.slice none 0 0)), (5, .v (.slice none 0 0)), (6, .v (.int .i64 i))], ⟨[(0, .cells 26 (docL d) false), (1, .cells 9 (flat scell (k1.take i)) true)], 2, 2, 0⟩⟩) (fun i => i ≤ d.entries.length ∧ (d.entries.take i).all hasV = true) (fun i => d.entries.length - i) 0 ⟨Nat.zero_le _, by simp⟩ ?_ ?_
  · refine Ent.freeze [(0, 1)] ?_ ?_ rfl rfl rfl
    · simp (maxSteps := 400000) (disch := first | omega | exact okT rfl | simp only [push_cast]) only [push_cast, ↓ite_cnd, ↓reduceIte, Nat.reduceAdd, Nat.reduceMul, Nat.reduceSub, Nat.reduceEqDiff, Nat.reduceBEq, Nat.reduceBNe, Nat.reduceLT, Nat.reduceLeDiff, reduceCtorEq, Op.operands, flat_take_succ, flat_take_all]
    · simp (maxSteps := 400000) (disch := first | omega | exact okT rfl | simp only [push_cast]) only [push_cast, ↓ite_cnd, ↓reduceIte, Nat.reduceAdd, Nat.reduceMul, Nat.reduceSub, Nat.reduceEqDiff, Nat.reduceBEq, Nat.reduceBNe, Nat.reduceLT, Nat.reduceLeDiff, reduceCtorEq, Op.operands, flat_take_succ, flat_take_all]
      try rfl
  have e0 : k1.take d.entries.length = k1 := by rw [← l1, List.take_length]
  intro i ⟨hi, hall⟩
  simp (maxSteps := 400000) (disch := first | omega | exact okT rfl | simp only [push_cast]) only [push_cast, ↓ite_cnd, ↓reduceIte, Nat.reduceAdd, Nat.reduceMul, Nat.reduceSub, Nat.reduceEqDiff, Nat.reduceBEq, Nat.reduceBNe, Nat.reduceLT, Nat.reduceLeDiff, reduceCtorEq, Op.operands, flat_take_succ, flat_take_all]
  refine ⟨fun h4 => ?_, fun h4 => ?_⟩
  · have hi1 : i < d.entries.length := by omega
    have e3 : flat scell (k1.take (i + 1)) = flat scell (k1.take i) ++ [.v (.string d.entries[i].key)] := by
      rw [flat_take_succ (by omega)]; subst hk1; simp [scell]
    have e4 : min i k1.length = i := by omega
    simp (maxSteps := 400000) (disch := first | omega | exact okT rfl | simp only [push_cast]) only [push_cast, ↓ite_cnd, ↓reduceIte, Nat.reduceAdd, Nat.reduceMul, Nat.reduceSub, Nat.reduceEqDiff, Nat.reduceBEq, Nat.reduceBNe, Nat.reduceLT, Nat.reduceLeDiff, reduceCtorEq, Op.operands, flat_take_succ, flat_take_all, e4]
    refine ⟨fun h5 => ?_, fun h5 => ?_⟩
    · have hf : d.entries.all hasV = false := by
        rw [List.all_eq_false]
        exact ⟨d.entries[i], List.getElem_mem hi1, by simp only [hasV, decide_eq_true_eq]; omega⟩
      simp (maxSteps := 400000) (disch := first | omega | exact okT rfl | simp only [push_cast]) only [push_cast, ↓ite_cnd, ↓reduceIte, Nat.reduceAdd, Nat.reduceMul, Nat.reduceSub, Nat.reduceEqDiff, Nat.reduceBEq, Nat.reduceBNe, Nat.reduceLT, Nat.reduceLeDiff, reduceCtorEq, Op.operands, flat_take_succ, flat_take_all]
      simp [hck, hf]
    · have hv : hasV d.entries[i] = true := by simp only [hasV, decide_eq_true_eq]; omega
      simp (maxSteps := 400000) (disch := first | omega | exact okT rfl | simp only [push_cast]) only [push_cast, ↓ite_cnd, ↓reduceIte, Nat.reduceAdd, Nat.reduceMul, Nat.reduceSub, Nat.reduceEqDiff, Nat.reduceBEq, Nat.reduceBNe, Nat.reduceLT, Nat.reduceLeDiff, reduceCtorEq, Op.operands, flat_take_succ, flat_take_all]
      refine ⟨i + 1, ⟨by show i + 1 ≤ d.entries.length; omega, by rw [all_take hi1, hall, hv]; rfl⟩, by show d.entries.length - (i + 1) < d.entries.length - i; omega, ?_⟩
      refine Ent.freeze [(0, 0), (1, 111)] ?_ ?_ rfl rfl rfl
      · simp (maxSteps := 400000) (disch := first | omega | exact okT rfl | simp only [push_cast]) only [push_cast, ↓ite_cnd, ↓reduceIte, Nat.reduceAdd, Nat.reduceMul, Nat.reduceSub, Nat.reduceEqDiff, Nat.reduceBEq, Nat.reduceBNe, Nat.reduceLT, Nat.reduceLeDiff, reduceCtorEq, Op.operands, flat_take_succ, flat_take_all]
      · simp (maxSteps := 400000) (disch := first | omega | exact okT rfl | simp only [push_cast]) only [push_cast, ↓ite_cnd, ↓reduceIte, Nat.reduceAdd, Nat.reduceMul, Nat.reduceSub, Nat.reduceEqDiff, Nat.reduceBEq, Nat.reduceBNe, Nat.reduceLT, Nat.reduceLeDiff, reduceCtorEq, Op.operands, flat_take_succ, flat_take_all, e3]
        try exact ⟨rfl, rfl⟩
  · have hi1 : i = d.entries.length := by omega
    subst hi1
    rw [List.take_length] at hall
    simp (maxSteps := 400000) (disch := first | omega | exact okT rfl | simp only [push_cast]) only [push_cast, ↓ite_cnd, ↓reduceIte, Nat.reduceAdd, Nat.reduceMul, Nat.reduceSub, Nat.reduceEqDiff, Nat.reduceBEq, Nat.reduceBNe, Nat.reduceLT, Nat.reduceLeDiff, reduceCtorEq, Op.operands, flat_take_succ, flat_take_all, List.take_length, e0]
    refine ev_loopI (ι := Nat) (fun i => ⟨[(1, .ptr 0 0), (3, .sl 1 0 d.entries.length 1), (4, .sl 2 0 i 1), (5, .v (.slice none 0 0)), (7, .v (.int .i64 i))], ⟨[(0, .cells 26 (docL d) false), (1, .cells 9 (flat scell k1) true), (2, .cells 9 (flat scell (k2.take i)) true)], 3, 3, 0⟩⟩) (fun i => i ≤ d.counts.length) (fun i => d.counts.length - i) 0 (Nat.zero_le _) ?_ ?_
    · refine Ent.freeze [(0, 0), (1, 1)] ?_ ?_ rfl rfl rfl
      · simp (maxSteps := 400000) (disch := first | omega | exact okT rfl | simp only [push_cast]) only [push_cast, ↓ite_cnd, ↓reduceIte, Nat.reduceAdd, Nat.reduceMul, Nat.reduceSub, Nat.reduceEqDiff, Nat.reduceBEq, Nat.reduceBNe, Nat.reduceLT, Nat.reduceLeDiff, reduceCtorEq, Op.operands, flat_take_succ, flat_take_all]
      · simp (maxSteps := 400000) (disch := first | omega | exact okT rfl | simp only [push_cast]) only [push_cast, ↓ite_cnd, ↓reduceIte, Nat.reduceAdd, Nat.reduceMul, Nat.reduceSub, Nat.reduceEqDiff, Nat.reduceBEq, Nat.reduceBNe, Nat.reduceLT, Nat.reduceLeDiff, reduceCtorEq, Op.operands, flat_take_succ, flat_take_all]
        try exact ⟨rfl, rfl⟩
    have e0 : k2.take d.counts.length = k2 := by rw [← l2, List.take_length]
    intro i hi
    simp (maxSteps := 400000) (disch := first | omega | exact okT rfl | simp only [push_cast]) only [push_cast, ↓ite_cnd, ↓reduceIte, Nat.reduceAdd, Nat.reduceMul, Nat.reduceSub, Nat.reduceEqDiff, Nat.reduceBEq, Nat.reduceBNe, Nat.reduceLT, Nat.reduceLeDiff, reduceCtorEq, Op.operands, flat_take_succ, flat_take_all]
    refine ⟨fun h4 => ?_, fun h4 => ?_⟩
    · have hi1 : i < d.counts.length := by omega
      have e3 : flat scell (k2.take (i + 1)) = flat scell (k2.take i) ++ [.v (.string d.counts[i].key)] := by
        rw [flat_take_succ (by omega)]; subst hk2; simp [scell]
      have e4 : min i k2.length = i := by omega
      simp (maxSteps := 400000) (disch := first | omega | exact okT rfl | simp only [push_cast]) only [push_cast, ↓ite_cnd, ↓reduceIte, Nat.reduceAdd, Nat.reduceMul, Nat.reduceSub, Nat.reduceEqDiff, Nat.reduceBEq, Nat.reduceBNe, Nat.reduceLT, Nat.reduceLeDiff, reduceCtorEq, Op.operands, flat_take_succ, flat_take_all, e4]
      refine ⟨i + 1, by show i + 1 ≤ d.counts.length; omega, by show d.counts.length - (i + 1) < d.counts.length - i; omega, ?_⟩
      refine Ent.freeze [(0, 0), (1, 1), (2, 136)] ?_ ?_ rfl rfl rfl
      · simp (maxSteps := 400000) (disch := first | omega | exact okT rfl | simp only [push_cast]) only [push_cast, ↓ite_cnd, ↓reduceIte, Nat.reduceAdd, Nat.reduceMul, Nat.reduceSub, Nat.reduceEqDiff, Nat.reduceBEq, Nat.reduceBNe, Nat.reduceLT, Nat.reduceLeDiff, reduceCtorEq, Op.operands, flat_take_succ, flat_take_all]
      · simp (maxSteps := 400000) (disch := first | omega | exact okT rfl | simp only [push_cast]) only [push_cast, ↓ite_cnd, ↓reduceIte, Nat.reduceAdd, Nat.reduceMul, Nat.reduceSub, Nat.reduceEqDiff, Nat.reduceBEq, Nat.reduceBNe, Nat.reduceLT, Nat.reduceLeDiff, reduceCtorEq, Op.operands, flat_take_succ, flat_take_all, e3]
        try exact ⟨rfl, rfl⟩
    · have hi1 : i = d.counts.length := by omega
      subst hi1
      simp (maxSteps := 400000) (disch := first | omega | exact okT rfl | simp only [push_cast]) only [push_cast, ↓ite_cnd, ↓reduceIte, Nat.reduceAdd, Nat.reduceMul, Nat.reduceSub, Nat.reduceEqDiff, Nat.reduceBEq, Nat.reduceBNe, Nat.reduceLT, Nat.reduceLeDiff, reduceCtorEq, Op.operands, flat_take_succ, flat_take_all, List.take_length, e0]
      refine ev_loopI (ι := Nat) (fun i => ⟨[(1, .ptr 0 0), (3, .sl 1 0 d.entries.length 1), (4, .sl 2 0 d.counts.length 1), (5, .sl 3 0 i 1), (8, .v (.int .i64 i))], ⟨[(0, .cells 26 (docL d) false), (1, .cells 9 (flat scell k1) true), (2, .cells 9 (flat scell k2) true), (3, .cells 9 (flat scell (k3.take i)) true)], 4, 4, 0⟩⟩) (fun i => i ≤ d.texts.length ∧ (d.texts.take i).all hasC = true) (fun i => d.texts.length - i) 0 ⟨Nat.zero_le _, by simp⟩ ?_ ?_
      · refine Ent.freeze [(0, 0), (1, 1), (2, 2)] ?_ ?_ rfl rfl rfl
        · simp (maxSteps := 400000) (disch := first | omega | exact okT rfl | simp only [push_cast]) only [push_cast, ↓ite_cnd, ↓reduceIte, Nat.reduceAdd, Nat.reduceMul, Nat.reduceSub, Nat.reduceEqDiff, Nat.reduceBEq, Nat.reduceBNe, Nat.reduceLT, Nat.reduceLeDiff, reduceCtorEq, Op.operands, flat_take_succ, flat_take_all]
        · simp (maxSteps := 400000) (disch := first | omega | exact okT rfl | simp only [push_cast]) only [push_cast, ↓ite_cnd, ↓reduceIte, Nat.reduceAdd, Nat.reduceMul, Nat.reduceSub, Nat.reduceEqDiff, Nat.reduceBEq, Nat.reduceBNe, Nat.reduceLT, Nat.reduceLeDiff, reduceCtorEq, Op.operands, flat_take_succ, flat_take_all]
          try exact ⟨rfl, rfl⟩
      have e0 : k3.take d.texts.length = k3 := by rw [← l3, List.take_length]
      intro i ⟨hi, hall3⟩
      simp (maxSteps := 400000) (disch := first | omega | exact okT rfl | simp only [push_cast]) only [push_cast, ↓ite_cnd, ↓reduceIte, Nat.reduceAdd, Nat.reduceMul, Nat.reduceSub, Nat.reduceEqDiff, Nat.reduceBEq, Nat.reduceBNe, Nat.reduceLT, Nat.reduceLeDiff, reduceCtorEq, Op.operands, flat_take_succ, flat_take_all]
      refine ⟨fun h4 => ?_, fun h4 => ?_⟩
      · have hi1 : i < d.texts.length := by omega
        have e3 : flat scell (k3.take (i + 1)) = flat scell (k3.take i) ++ [.v (.string d.texts[i].name)] := by
          rw [flat_take_succ (by omega)]; subst hk3; simp [scell]
        have e4 : min i k3.length = i := by omega
        simp (maxSteps := 400000) (disch := first | omega | exact okT rfl | simp only [push_cast]) only [push_cast, ↓ite_cnd, ↓reduceIte, Nat.reduceAdd, Nat.reduceMul, Nat.reduceSub, Nat.reduceEqDiff, Nat.reduceBEq, Nat.reduceBNe, Nat.reduceLT, Nat.reduceLeDiff, reduceCtorEq, Op.operands, flat_take_succ, flat_take_all, e4]
        refine ⟨fun h5 => ?_, fun h5 => ?_⟩
        · have hf : d.texts.all hasC = false := by
            rw [List.all_eq_false]
            exact ⟨d.texts[i], List.getElem_mem hi1, by simp [hasC, h5]⟩
          simp (maxSteps := 400000) (disch := first | omega | exact okT rfl | simp only [push_cast]) only [push_cast, ↓ite_cnd, ↓reduceIte, Nat.reduceAdd, Nat.reduceMul, Nat.reduceSub, Nat.reduceEqDiff, Nat.reduceBEq, Nat.reduceBNe, Nat.reduceLT, Nat.reduceLeDiff, reduceCtorEq, Op.operands, flat_take_succ, flat_take_all]
          simp [hck, hf]
        · have hv : hasC d.texts[i] = true := by simp [hasC, h5]
          simp (maxSteps := 400000) (disch := first | omega | exact okT rfl | simp only [push_cast]) only [push_cast, ↓ite_cnd, ↓reduceIte, Nat.reduceAdd, Nat.reduceMul, Nat.reduceSub, Nat.reduceEqDiff, Nat.reduceBEq, Nat.reduceBNe, Nat.reduceLT, Nat.reduceLeDiff, reduceCtorEq, Op.operands, flat_take_succ, flat_take_all]
          refine ⟨i + 1, ⟨by show i + 1 ≤ d.texts.length; omega, by rw [all_take hi1, hall3, hv]; rfl⟩, by show d.texts.length - (i + 1) < d.texts.length - i; omega, ?_⟩
          refine Ent.freeze [(0, 0), (1, 1), (2, 2), (3, 153)] ?_ ?_ rfl rfl rfl
          · simp (maxSteps := 400000) (disch := first | omega | exact okT rfl | simp only [push_cast]) only [push_cast, ↓ite_cnd, ↓reduceIte, Nat.reduceAdd, Nat.reduceMul, Nat.reduceSub, Nat.reduceEqDiff, Nat.reduceBEq, Nat.reduceBNe, Nat.reduceLT, Nat.reduceLeDiff, reduceCtorEq, Op.operands, flat_take_succ, flat_take_all]
          · simp (maxSteps := 400000) (disch := first | omega | exact okT rfl | simp only [push_cast]) only [push_cast, ↓ite_cnd, ↓reduceIte, Nat.reduceAdd, Nat.reduceMul, Nat.reduceSub, Nat.reduceEqDiff, Nat.reduceBEq, Nat.reduceBNe, Nat.reduceLT, Nat.reduceLeDiff, reduceCtorEq, Op.operands, flat_take_succ, flat_take_all, e3]
            try exact ⟨rfl, rfl⟩
      · have hi1 : i = d.texts.length := by omega
        subst hi1
        rw [List.take_length] at hall3
        simp (maxSteps := 400000) (disch := first | omega | exact okT rfl | simp only [push_cast]) only [push_cast, ↓ite_cnd, ↓reduceIte, Nat.reduceAdd, Nat.reduceMul, Nat.reduceSub, Nat.reduceEqDiff, Nat.reduceBEq, Nat.reduceBNe, Nat.reduceLT, Nat.reduceLeDiff, reduceCtorEq, Op.operands, flat_take_succ, flat_take_all, List.take_length, e0]
        refine PCall.use p1 (snap_sl1 rfl l1.symm) (.inl rfl) ?_
        cases b1 with
        | false =>
          simp (maxSteps := 400000) (disch := first | omega | exact okT rfl | simp only [push_cast]) only [push_cast, ↓ite_cnd, ↓reduceIte, Nat.reduceAdd, Nat.reduceMul, Nat.reduceSub, Nat.reduceEqDiff, Nat.reduceBEq, Nat.reduceBNe, Nat.reduceLT, Nat.reduceLeDiff, reduceCtorEq, Op.operands, flat_take_succ, flat_take_all, Bool.not_false]
          simp [hck]
        | true =>
          simp (maxSteps := 400000) (disch := first | omega | exact okT rfl | simp only [push_cast]) only [push_cast, ↓ite_cnd, ↓reduceIte, Nat.reduceAdd, Nat.reduceMul, Nat.reduceSub, Nat.reduceEqDiff, Nat.reduceBEq, Nat.reduceBNe, Nat.reduceLT, Nat.reduceLeDiff, reduceCtorEq, Op.operands, flat_take_succ, flat_take_all, Bool.not_true]
          refine PCall.use p2 (snap_sl1 rfl l2.symm) (.inl rfl) ?_
          cases b2 with
          | false =>
            simp (maxSteps := 400000) (disch := first | omega | exact okT rfl | simp only [push_cast]) only [push_cast, ↓ite_cnd, ↓reduceIte, Nat.reduceAdd, Nat.reduceMul, Nat.reduceSub, Nat.reduceEqDiff, Nat.reduceBEq, Nat.reduceBNe, Nat.reduceLT, Nat.reduceLeDiff, reduceCtorEq, Op.operands, flat_take_succ, flat_take_all, Bool.not_false]
            simp [hck]
          | true =>
            simp (maxSteps := 400000) (disch := first | omega | exact okT rfl | simp only [push_cast]) only [push_cast, ↓ite_cnd, ↓reduceIte, Nat.reduceAdd, Nat.reduceMul, Nat.reduceSub, Nat.reduceEqDiff, Nat.reduceBEq, Nat.reduceBNe, Nat.reduceLT, Nat.reduceLeDiff, reduceCtorEq, Op.operands, flat_take_succ, flat_take_all, Bool.not_true]
            refine PCall.use p3 (snap_sl1 rfl l3.symm) (.inl rfl) ?_
            cases b3 with
            | false =>
              simp (maxSteps := 400000) (disch := first | omega | exact okT rfl | simp only [push_cast]) only [push_cast, ↓ite_cnd, ↓reduceIte, Nat.reduceAdd, Nat.reduceMul, Nat.reduceSub, Nat.reduceEqDiff, Nat.reduceBEq, Nat.reduceBNe, Nat.reduceLT, Nat.reduceLeDiff, reduceCtorEq, Op.operands, flat_take_succ, flat_take_all, Bool.not_false]
              simp [hck]
            | true =>
              simp (maxSteps := 400000) (disch := first | omega | exact okT rfl | simp only [push_cast]) only [push_cast, ↓ite_cnd, ↓reduceIte, Nat.reduceAdd, Nat.reduceMul, Nat.reduceSub, Nat.reduceEqDiff, Nat.reduceBEq, Nat.reduceBNe, Nat.reduceLT, Nat.reduceLeDiff, reduceCtorEq, Op.operands, flat_take_succ, flat_take_all, Bool.not_true]
              simp [hck, hall, hall3]
end Go.AW
