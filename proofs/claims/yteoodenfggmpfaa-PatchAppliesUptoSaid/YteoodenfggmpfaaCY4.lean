/- Contracts: patch.Same and what it calls. -/
import Derived.Test.YteoodenfggmpfaaCY3
namespace Go.AW
open Proofs

set_option linter.unusedSimpArgs false
set_option maxRecDepth 100000
set_option maxHeartbeats 4000000

theorem c31 (hs ks : List ByteArray) (h : hs.length ≤ 4611686018427387904) : PCall Try.prog [] 31 [.seq hs.length 1 (flat scell hs), .seq ks.length 1 (flat scell ks)] (.v (.bool (decide (hs = ks)))) := by
  refine PCall.start Try.func31 rfl (by kernel_rfl) rfl Try.ntmps31 fol (by kernel_rfl) (by simp [idfL, idf, idfL_flat idfL_scell]) rfl ?_
  simp only [List.zipIdx_cons, List.zipIdx_nil, List.map_cons, List.map_nil, Nat.zero_add]
  simp (maxSteps := 400000) (disch := first | omega | exact okT rfl | simp only [push_cast]) only [push_cast, ↓ite_cnd, ↓reduceIte, Nat.reduceAdd, Nat.reduceMul, Nat.reduceSub, Nat.reduceEqDiff, Nat.reduceBEq, Nat.reduceBNe, Nat.reduceLT, Nat.reduceLeDiff, reduceCtorEq, Op.operands, flat_take_succ, flat_take_all]
  refine ⟨fun h => ?_, fun h => ?_⟩
  · have hne : hs ≠ ks := fun e => h (by rw [e])
    simp (maxSteps := 400000) (disch := first | omega | exact okT rfl | simp only [push_cast]) only [push_cast, ↓ite_cnd, ↓reduceIte, Nat.reduceAdd, Nat.reduceMul, Nat.reduceSub, Nat.reduceEqDiff, Nat.reduceBEq, Nat.reduceBNe, Nat.reduceLT, Nat.reduceLeDiff, reduceCtorEq, Op.operands, flat_take_succ, flat_take_all]
    simp [hne]
  · have hlen : hs.length = ks.length := by omega
    simp (maxSteps := 400000) (disch := first | omega | exact okT rfl | simp only [push_cast]) only [push_cast, ↓ite_cnd, ↓reduceIte, Nat.reduceAdd, Nat.reduceMul, Nat.reduceSub, Nat.reduceEqDiff, Nat.reduceBEq, Nat.reduceBNe, Nat.reduceLT, Nat.reduceLeDiff, reduceCtorEq, Op.operands, flat_take_succ, flat_take_all]
    refine ev_loopI (ι := Nat) (fun i => ⟨[(0, .seq hs.length 1 (flat scell hs)), (1, .seq ks.length 1 (flat scell ks)), (11, .seq hs.length 1 (flat scell hs)), (12, .v (.int .i64 hs.length)), (13, .v (.int .i64 i))], ⟨[], 0, 0, 0⟩⟩) (fun i => i ≤ hs.length ∧ hs.take i = ks.take i) (fun i => hs.length - i) 0 ⟨Nat.zero_le _, by simp⟩ (Ent.val (by simp [idfE, idf, idfL_flat idfL_scell]) (by simp [SubE, lk])) ?_
    intro i hi
    simp (maxSteps := 400000) (disch := first | omega | exact okT rfl | simp only [push_cast]) only [push_cast, ↓ite_cnd, ↓reduceIte, Nat.reduceAdd, Nat.reduceMul, Nat.reduceSub, Nat.reduceEqDiff, Nat.reduceBEq, Nat.reduceBNe, Nat.reduceLT, Nat.reduceLeDiff, reduceCtorEq, Op.operands, flat_take_succ, flat_take_all]
    refine ⟨fun h => ?_, fun h => ?_⟩
    · have hi1 : i < hs.length := by omega
      have hi2 : i < ks.length := by omega
      simp (maxSteps := 400000) (disch := first | omega | exact okT rfl | simp only [push_cast]) only [push_cast, ↓ite_cnd, ↓reduceIte, Nat.reduceAdd, Nat.reduceMul, Nat.reduceSub, Nat.reduceEqDiff, Nat.reduceBEq, Nat.reduceBNe, Nat.reduceLT, Nat.reduceLeDiff, reduceCtorEq, Op.operands, flat_take_succ, flat_take_all]
      refine ⟨fun hne => ?_, fun heq => ?_⟩
      · have : hs ≠ ks := fun e => hne (by subst e; rfl)
        simp (maxSteps := 400000) (disch := first | omega | exact okT rfl | simp only [push_cast]) only [push_cast, ↓ite_cnd, ↓reduceIte, Nat.reduceAdd, Nat.reduceMul, Nat.reduceSub, Nat.reduceEqDiff, Nat.reduceBEq, Nat.reduceBNe, Nat.reduceLT, Nat.reduceLeDiff, reduceCtorEq, Op.operands, flat_take_succ, flat_take_all]
        simp [this]
      · simp (maxSteps := 400000) (disch := first | omega | exact okT rfl | simp only [push_cast]) only [push_cast, ↓ite_cnd, ↓reduceIte, Nat.reduceAdd, Nat.reduceMul, Nat.reduceSub, Nat.reduceEqDiff, Nat.reduceBEq, Nat.reduceBNe, Nat.reduceLT, Nat.reduceLeDiff, reduceCtorEq, Op.operands, flat_take_succ, flat_take_all]
        refine ⟨i + 1, ⟨by omega, ?_⟩, by show hs.length - (i + 1) < hs.length - i; omega, Ent.val (by simp [idfE, idf, idfL_flat idfL_scell]) ?_⟩
        · rw [List.take_succ_eq_append_getElem hi1, List.take_succ_eq_append_getElem hi2, hi.2, heq]
        simp [SubE, lk, wrap_i64 (n := (i : Int) + 1) (by omega) (by omega)]
    · have hi1 : i = hs.length := by omega
      have : hs = ks := by
        have h2 := hi.2
        rw [hi1, List.take_length, hlen, List.take_length] at h2
        exact h2
      simp (maxSteps := 400000) (disch := first | omega | exact okT rfl | simp only [push_cast]) only [push_cast, ↓ite_cnd, ↓reduceIte, Nat.reduceAdd, Nat.reduceMul, Nat.reduceSub, Nat.reduceEqDiff, Nat.reduceBEq, Nat.reduceBNe, Nat.reduceLT, Nat.reduceLeDiff, reduceCtorEq, Op.operands, flat_take_succ, flat_take_all]
      simp [this]

theorem c32 (hs ks : List Hs) (h : hs.length ≤ 4611686018427387904) : PCall Try.prog [] 32 [.seq hs.length 32 (flat hcell hs), .seq ks.length 32 (flat hcell ks)] (.v (.bool (decide (hs = ks)))) := by
  refine PCall.start Try.func32 rfl (by kernel_rfl) rfl Try.ntmps32 fol (by kernel_rfl) (by simp [idfL, idf, idfL_flat idfL_hcell]) rfl ?_
  simp only [List.zipIdx_cons, List.zipIdx_nil, List.map_cons, List.map_nil, Nat.zero_add]
  simp (maxSteps := 400000) (disch := first | omega | exact okT rfl | simp only [push_cast]) only [push_cast, ↓ite_cnd, ↓reduceIte, Nat.reduceAdd, Nat.reduceMul, Nat.reduceSub, Nat.reduceEqDiff, Nat.reduceBEq, Nat.reduceBNe, Nat.reduceLT, Nat.reduceLeDiff, reduceCtorEq, Op.operands, flat_take_succ, flat_take_all]
  refine ⟨fun h => ?_, fun h => ?_⟩
  · have hne : hs ≠ ks := fun e => h (by rw [e])
    simp (maxSteps := 400000) (disch := first | omega | exact okT rfl | simp only [push_cast]) only [push_cast, ↓ite_cnd, ↓reduceIte, Nat.reduceAdd, Nat.reduceMul, Nat.reduceSub, Nat.reduceEqDiff, Nat.reduceBEq, Nat.reduceBNe, Nat.reduceLT, Nat.reduceLeDiff, reduceCtorEq, Op.operands, flat_take_succ, flat_take_all]
    simp [hne]
  · have hlen : hs.length = ks.length := by omega
    simp (maxSteps := 400000) (disch := first | omega | exact okT rfl | simp only [push_cast]) only [push_cast, ↓ite_cnd, ↓reduceIte, Nat.reduceAdd, Nat.reduceMul, Nat.reduceSub, Nat.reduceEqDiff, Nat.reduceBEq, Nat.reduceBNe, Nat.reduceLT, Nat.reduceLeDiff, reduceCtorEq, Op.operands, flat_take_succ, flat_take_all]
    refine ev_loopI (ι := Nat) (fun i => ⟨[(0, .seq hs.length 32 (flat hcell hs)), (1, .seq ks.length 32 (flat hcell ks)), (11, .seq hs.length 32 (flat hcell hs)), (12, .v (.int .i64 hs.length)), (13, .v (.int .i64 i))], ⟨[], 0, 0, 0⟩⟩) (fun i => i ≤ hs.length ∧ hs.take i = ks.take i) (fun i => hs.length - i) 0 ⟨Nat.zero_le _, by simp⟩ (Ent.val (by simp [idfE, idf, idfL_flat idfL_hcell]) (by simp [SubE, lk])) ?_
    intro i hi
    simp (maxSteps := 400000) (disch := first | omega | exact okT rfl | simp only [push_cast]) only [push_cast, ↓ite_cnd, ↓reduceIte, Nat.reduceAdd, Nat.reduceMul, Nat.reduceSub, Nat.reduceEqDiff, Nat.reduceBEq, Nat.reduceBNe, Nat.reduceLT, Nat.reduceLeDiff, reduceCtorEq, Op.operands, flat_take_succ, flat_take_all]
    refine ⟨fun h => ?_, fun h => ?_⟩
    · have hi1 : i < hs.length := by omega
      have hi2 : i < ks.length := by omega
      simp (maxSteps := 400000) (disch := first | omega | exact okT rfl | simp only [push_cast]) only [push_cast, ↓ite_cnd, ↓reduceIte, Nat.reduceAdd, Nat.reduceMul, Nat.reduceSub, Nat.reduceEqDiff, Nat.reduceBEq, Nat.reduceBNe, Nat.reduceLT, Nat.reduceLeDiff, reduceCtorEq, Op.operands, flat_take_succ, flat_take_all]
      refine ⟨fun hne => ?_, fun heq => ?_⟩
      · have : hs ≠ ks := fun e => hne (by subst e; rfl)
        simp (maxSteps := 400000) (disch := first | omega | exact okT rfl | simp only [push_cast]) only [push_cast, ↓ite_cnd, ↓reduceIte, Nat.reduceAdd, Nat.reduceMul, Nat.reduceSub, Nat.reduceEqDiff, Nat.reduceBEq, Nat.reduceBNe, Nat.reduceLT, Nat.reduceLeDiff, reduceCtorEq, Op.operands, flat_take_succ, flat_take_all]
        simp [this]
      · simp (maxSteps := 400000) (disch := first | omega | exact okT rfl | simp only [push_cast]) only [push_cast, ↓ite_cnd, ↓reduceIte, Nat.reduceAdd, Nat.reduceMul, Nat.reduceSub, Nat.reduceEqDiff, Nat.reduceBEq, Nat.reduceBNe, Nat.reduceLT, Nat.reduceLeDiff, reduceCtorEq, Op.operands, flat_take_succ, flat_take_all]
        refine ⟨i + 1, ⟨by omega, ?_⟩, by show hs.length - (i + 1) < hs.length - i; omega, Ent.val (by simp [idfE, idf, idfL_flat idfL_hcell]) ?_⟩
        · rw [List.take_succ_eq_append_getElem hi1, List.take_succ_eq_append_getElem hi2, hi.2, heq]
        simp [SubE, lk, wrap_i64 (n := (i : Int) + 1) (by omega) (by omega)]
    · have hi1 : i = hs.length := by omega
      have : hs = ks := by
        have h2 := hi.2
        rw [hi1, List.take_length, hlen, List.take_length] at h2
        exact h2
      simp (maxSteps := 400000) (disch := first | omega | exact okT rfl | simp only [push_cast]) only [push_cast, ↓ite_cnd, ↓reduceIte, Nat.reduceAdd, Nat.reduceMul, Nat.reduceSub, Nat.reduceEqDiff, Nat.reduceBEq, Nat.reduceBNe, Nat.reduceLT, Nat.reduceLeDiff, reduceCtorEq, Op.operands, flat_take_succ, flat_take_all]
      simp [this]

theorem c30 (p q : PatchV) (hpv : p.values.length ≤ 4611686018427387904 ∧ p.src.length ≤ 4611686018427387904) : PCall Try.prog [] 30 [.agg (pcell p), .agg (pcell q)] (.v (.bool (decide (p = q)))) := by
  refine PCall.start Try.func30 rfl (by kernel_rfl) rfl Try.ntmps30 fol (by kernel_rfl) (by simp [idfL, idf, idfL_pcell]) rfl ?_
  simp only [List.zipIdx_cons, List.zipIdx_nil, List.map_cons, List.map_nil, Nat.zero_add]
  simp (maxSteps := 400000) (disch := first | omega | exact okT rfl | simp only [push_cast]) only [push_cast, ↓ite_cnd, ↓reduceIte, Nat.reduceAdd, Nat.reduceMul, Nat.reduceSub, Nat.reduceEqDiff, Nat.reduceBEq, Nat.reduceBNe, Nat.reduceLT, Nat.reduceLeDiff, reduceCtorEq, Op.operands, flat_take_succ, flat_take_all]
  have fin : p ≠ q → AV.v (Value.bool false) = AV.v (Value.bool (decide (p = q))) := fun h => by simp [h]
  refine ⟨fun h0 => ?_, fun h0 => ?_⟩
  case refine_2 => simp (maxSteps := 400000) (disch := first | omega | exact okT rfl | simp only [push_cast]) only [push_cast, ↓ite_cnd, ↓reduceIte, Nat.reduceAdd, Nat.reduceMul, Nat.reduceSub, Nat.reduceEqDiff, Nat.reduceBEq, Nat.reduceBNe, Nat.reduceLT, Nat.reduceLeDiff, reduceCtorEq, Op.operands, flat_take_succ, flat_take_all]; exact fin (fun e => h0 (by rw [e]))
  simp (maxSteps := 400000) (disch := first | omega | exact okT rfl | simp only [push_cast]) only [push_cast, ↓ite_cnd, ↓reduceIte, Nat.reduceAdd, Nat.reduceMul, Nat.reduceSub, Nat.reduceEqDiff, Nat.reduceBEq, Nat.reduceBNe, Nat.reduceLT, Nat.reduceLeDiff, reduceCtorEq, Op.operands, flat_take_succ, flat_take_all]
  refine ⟨fun h1 => ?_, fun h1 => ?_⟩
  case refine_2 => simp (maxSteps := 400000) (disch := first | omega | exact okT rfl | simp only [push_cast]) only [push_cast, ↓ite_cnd, ↓reduceIte, Nat.reduceAdd, Nat.reduceMul, Nat.reduceSub, Nat.reduceEqDiff, Nat.reduceBEq, Nat.reduceBNe, Nat.reduceLT, Nat.reduceLeDiff, reduceCtorEq, Op.operands, flat_take_succ, flat_take_all]; exact fin (fun e => h1 (by rw [e]))
  simp (maxSteps := 400000) (disch := first | omega | exact okT rfl | simp only [push_cast]) only [push_cast, ↓ite_cnd, ↓reduceIte, Nat.reduceAdd, Nat.reduceMul, Nat.reduceSub, Nat.reduceEqDiff, Nat.reduceBEq, Nat.reduceBNe, Nat.reduceLT, Nat.reduceLeDiff, reduceCtorEq, Op.operands, flat_take_succ, flat_take_all]
  refine ⟨fun h2 => ?_, fun h2 => ?_⟩
  case refine_2 => simp (maxSteps := 400000) (disch := first | omega | exact okT rfl | simp only [push_cast]) only [push_cast, ↓ite_cnd, ↓reduceIte, Nat.reduceAdd, Nat.reduceMul, Nat.reduceSub, Nat.reduceEqDiff, Nat.reduceBEq, Nat.reduceBNe, Nat.reduceLT, Nat.reduceLeDiff, reduceCtorEq, Op.operands, flat_take_succ, flat_take_all]; exact fin (fun e => h2 (by rw [e]))
  simp (maxSteps := 400000) (disch := first | omega | exact okT rfl | simp only [push_cast]) only [push_cast, ↓ite_cnd, ↓reduceIte, Nat.reduceAdd, Nat.reduceMul, Nat.reduceSub, Nat.reduceEqDiff, Nat.reduceBEq, Nat.reduceBNe, Nat.reduceLT, Nat.reduceLeDiff, reduceCtorEq, Op.operands, flat_take_succ, flat_take_all]
  refine ⟨fun h3 => ?_, fun h3 => ?_⟩
  case refine_2 => simp (maxSteps := 400000) (disch := first | omega | exact okT rfl | simp only [push_cast]) only [push_cast, ↓ite_cnd, ↓reduceIte, Nat.reduceAdd, Nat.reduceMul, Nat.reduceSub, Nat.reduceEqDiff, Nat.reduceBEq, Nat.reduceBNe, Nat.reduceLT, Nat.reduceLeDiff, reduceCtorEq, Op.operands, flat_take_succ, flat_take_all]; exact fin (fun e => h3 (by rw [e]))
  simp (maxSteps := 400000) (disch := first | omega | exact okT rfl | simp only [push_cast]) only [push_cast, ↓ite_cnd, ↓reduceIte, Nat.reduceAdd, Nat.reduceMul, Nat.reduceSub, Nat.reduceEqDiff, Nat.reduceBEq, Nat.reduceBNe, Nat.reduceLT, Nat.reduceLeDiff, reduceCtorEq, Op.operands, flat_take_succ, flat_take_all]
  refine ⟨fun h4 => ?_, fun h4 => ?_⟩
  case refine_2 => simp (maxSteps := 400000) (disch := first | omega | exact okT rfl | simp only [push_cast]) only [push_cast, ↓ite_cnd, ↓reduceIte, Nat.reduceAdd, Nat.reduceMul, Nat.reduceSub, Nat.reduceEqDiff, Nat.reduceBEq, Nat.reduceBNe, Nat.reduceLT, Nat.reduceLeDiff, reduceCtorEq, Op.operands, flat_take_succ, flat_take_all]; exact fin (fun e => h4 (by rw [e]))
  simp (maxSteps := 400000) (disch := first | omega | exact okT rfl | simp only [push_cast]) only [push_cast, ↓ite_cnd, ↓reduceIte, Nat.reduceAdd, Nat.reduceMul, Nat.reduceSub, Nat.reduceEqDiff, Nat.reduceBEq, Nat.reduceBNe, Nat.reduceLT, Nat.reduceLeDiff, reduceCtorEq, Op.operands, flat_take_succ, flat_take_all]
  refine ⟨fun h5 => ?_, fun h5 => ?_⟩
  case refine_2 => simp (maxSteps := 400000) (disch := first | omega | exact okT rfl | simp only [push_cast]) only [push_cast, ↓ite_cnd, ↓reduceIte, Nat.reduceAdd, Nat.reduceMul, Nat.reduceSub, Nat.reduceEqDiff, Nat.reduceBEq, Nat.reduceBNe, Nat.reduceLT, Nat.reduceLeDiff, reduceCtorEq, Op.operands, flat_take_succ, flat_take_all]; exact fin (fun e => h5 (by rw [e]))
  simp (maxSteps := 400000) (disch := first | omega | exact okT rfl | simp only [push_cast]) only [push_cast, ↓ite_cnd, ↓reduceIte, Nat.reduceAdd, Nat.reduceMul, Nat.reduceSub, Nat.reduceEqDiff, Nat.reduceBEq, Nat.reduceBNe, Nat.reduceLT, Nat.reduceLeDiff, reduceCtorEq, Op.operands, flat_take_succ, flat_take_all]
  refine ⟨fun h6 => ?_, fun h6 => ?_⟩
  case refine_2 => simp (maxSteps := 400000) (disch := first | omega | exact okT rfl | simp only [push_cast]) only [push_cast, ↓ite_cnd, ↓reduceIte, Nat.reduceAdd, Nat.reduceMul, Nat.reduceSub, Nat.reduceEqDiff, Nat.reduceBEq, Nat.reduceBNe, Nat.reduceLT, Nat.reduceLeDiff, reduceCtorEq, Op.operands, flat_take_succ, flat_take_all]; exact fin (fun e => h6 (by rw [e]))
  simp (maxSteps := 400000) (disch := first | omega | exact okT rfl | simp only [push_cast]) only [push_cast, ↓ite_cnd, ↓reduceIte, Nat.reduceAdd, Nat.reduceMul, Nat.reduceSub, Nat.reduceEqDiff, Nat.reduceBEq, Nat.reduceBNe, Nat.reduceLT, Nat.reduceLeDiff, reduceCtorEq, Op.operands, flat_take_succ, flat_take_all]
  refine PCall.useV (c31 _ _ hpv.1) ?_
  simp (maxSteps := 400000) (disch := first | omega | exact okT rfl | simp only [push_cast]) only [push_cast, ↓ite_cnd, ↓reduceIte, Nat.reduceAdd, Nat.reduceMul, Nat.reduceSub, Nat.reduceEqDiff, Nat.reduceBEq, Nat.reduceBNe, Nat.reduceLT, Nat.reduceLeDiff, reduceCtorEq, Op.operands, flat_take_succ, flat_take_all]
  refine ⟨fun h7 => ?_, fun h7 => ?_⟩
  case refine_2 => simp (maxSteps := 400000) (disch := first | omega | exact okT rfl | simp only [push_cast]) only [push_cast, ↓ite_cnd, ↓reduceIte, Nat.reduceAdd, Nat.reduceMul, Nat.reduceSub, Nat.reduceEqDiff, Nat.reduceBEq, Nat.reduceBNe, Nat.reduceLT, Nat.reduceLeDiff, reduceCtorEq, Op.operands, flat_take_succ, flat_take_all]; exact fin (fun e => h7 (by rw [e]))
  simp (maxSteps := 400000) (disch := first | omega | exact okT rfl | simp only [push_cast]) only [push_cast, ↓ite_cnd, ↓reduceIte, Nat.reduceAdd, Nat.reduceMul, Nat.reduceSub, Nat.reduceEqDiff, Nat.reduceBEq, Nat.reduceBNe, Nat.reduceLT, Nat.reduceLeDiff, reduceCtorEq, Op.operands, flat_take_succ, flat_take_all]
  refine PCall.useV (c32 _ _ hpv.2) ?_
  simp (maxSteps := 400000) (disch := first | omega | exact okT rfl | simp only [push_cast]) only [push_cast, ↓ite_cnd, ↓reduceIte, Nat.reduceAdd, Nat.reduceMul, Nat.reduceSub, Nat.reduceEqDiff, Nat.reduceBEq, Nat.reduceBNe, Nat.reduceLT, Nat.reduceLeDiff, reduceCtorEq, Op.operands, flat_take_succ, flat_take_all]
  obtain ⟨a1, a2, a3, a4, a5, a6, a7, a8, a9⟩ := p
  obtain ⟨b1, b2, b3, b4, b5, b6, b7, b8, b9⟩ := q
  simp only at h0 h1 h2 h3 h4 h5 h6 h7
  subst h0 h1 h2 h3 h4 h5 h6 h7
  simp
end Go.AW
