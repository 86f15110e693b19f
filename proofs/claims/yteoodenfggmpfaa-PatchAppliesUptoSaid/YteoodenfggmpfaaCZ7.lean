/- Contracts: documents held against each other. -/
import Derived.Test.YteoodenfggmpfaaCZ6
import Derived.Test.YteoodenfggmpfaaCY7
namespace Go.AW
open Proofs

set_option linter.unusedSimpArgs false
set_option linter.unusedVariables false
set_option maxRecDepth 100000
set_option maxHeartbeats 8000000

def cval (p : CountV) : Value := .agg #[.string p.key, .int .i64 p.n]
theorem val_ccell {p : CountV} : AV.val? (.agg (ccell p)) = some (cval p) := (rfl)
theorem ceq_run (d : Nat) (p q : CountV) : prun Try.prog (Op.equalIn (d + 2) 55 (cval p) (cval q)) = some (decide (p = q)) := by
  obtain ⟨p, a⟩ := p
  obtain ⟨q, b⟩ := q
  have h1 : prun Try.prog (underlying 55) = Try.prog.underlying 55 := by rw [Try.underlying55]; kernel_rfl
  have h2 : prun Try.prog program = some Try.prog := rfl
  have h3 : Try.prog.stoodInHeld 55 = false := by kernel_rfl
  have h4 : ∀ (p : ByteArray) (a : Int), prun Try.prog (part 9 #[.string p, .int .i64 a] 0) = some (.string p) := fun p a => by kernel_rfl
  have h5 : ∀ (p : ByteArray) (a : Int), prun Try.prog (part 3 #[.string p, .int .i64 a] 1) = some (.int .i64 a) := fun p a => by kernel_rfl
  have h6 : ∀ p q, prun Try.prog (Op.equalIn (d + 1) 9 (.string p) (.string q)) = some (decide (p = q)) := fun p q => by
    have : prun Try.prog (Op.equalIn (d + 1) 9 (.string p) (.string q)) = some (p == q) := by kernel_rfl
    rw [this, bbeq]
  have h7 : ∀ (a b : Int), prun Try.prog (Op.equalIn (d + 1) 3 (.int .i64 a) (.int .i64 b)) = some (decide (a = b)) := fun a b => by
    have : prun Try.prog (Op.equalIn (d + 1) 3 (.int .i64 a) (.int .i64 b)) = some (a == b) := by kernel_rfl
    rw [this]; simp [bbeq, ibeq]
  unfold cval
  dsimp only
  rw [Op.equalIn, prun_bind, h1, Try.underlying55]
  simp only [CountV.mk.injEq]
  simp [prun_bind, prun_ite, prun_pure, h2, h3, h4, h5, h6]
  by_cases h : p = q
  · simp [h, prun_bind, prun_ite, prun_pure, h4, h5, h7]
    by_cases h' : a = b <;> simp [h', prun_pure]
  · simp [h, prun_bind, prun_ite, prun_pure, h4, h5, h7]
theorem pbin_cneq {p q : CountV} {x y : Operand} : pbin Try.prog .neq 55 x y (cval p) (cval q) = some (.bool (!decide (p = q))) := by
  have h1 : tkt Try.prog 55 = none := by kernel_rfl
  have h2 : Try.prog.eqGuardType Try.prog.depth 55 = false := by kernel_rfl
  have h3 : prun Try.prog program = some Try.prog := rfl
  have h4 : prun Try.prog (Op.equal 55 (cval p) (cval q)) = some (decide (p = q)) := ceq_run 9998 p q
  simp only [pbin, keqA, h1, prun_bind]
  have e1 : prun Try.prog (eqGuard .neq 55 x y (cval p) (cval q)) = some () := by
    simp [eqGuard, cval, prun_bind, h3, h2, prun_pure]
  have e2 : binOp .neq 55 (cval p) (cval q) = (do pure (.bool (!(← Op.equal 55 (cval p) (cval q))))) := rfl
  rw [e1, e2]
  simp [prun_bind, prun_map, h4, prun_pure]
theorem binA_cneq {p q : CountV} {x y : Operand} : binA Try.prog .neq 55 x y (.agg (ccell p)) (.agg (ccell q)) = some (.v (.bool (!decide (p = q))), []) := by
  simp only [binA, val_ccell, pbin_cneq, Option.map_some]
attribute [push_cast] val_ccell pbin_cneq binA_cneq

def tval (p : TextV) : Value := .agg #[.string p.name, .string p.chars]
theorem val_tcell {p : TextV} : AV.val? (.agg (tcell p)) = some (tval p) := (rfl)
theorem teq_run (d : Nat) (p q : TextV) : prun Try.prog (Op.equalIn (d + 2) 57 (tval p) (tval q)) = some (decide (p = q)) := by
  obtain ⟨p, a⟩ := p
  obtain ⟨q, b⟩ := q
  have h1 : prun Try.prog (underlying 57) = Try.prog.underlying 57 := by rw [Try.underlying57]; kernel_rfl
  have h2 : prun Try.prog program = some Try.prog := rfl
  have h3 : Try.prog.stoodInHeld 57 = false := by kernel_rfl
  have h4 : ∀ (p : ByteArray) (a : ByteArray), prun Try.prog (part 9 #[.string p, .string a] 0) = some (.string p) := fun p a => by kernel_rfl
  have h5 : ∀ (p : ByteArray) (a : ByteArray), prun Try.prog (part 9 #[.string p, .string a] 1) = some (.string a) := fun p a => by kernel_rfl
  have h6 : ∀ p q, prun Try.prog (Op.equalIn (d + 1) 9 (.string p) (.string q)) = some (decide (p = q)) := fun p q => by
    have : prun Try.prog (Op.equalIn (d + 1) 9 (.string p) (.string q)) = some (p == q) := by kernel_rfl
    rw [this, bbeq]
  have h7 : ∀ (a b : ByteArray), prun Try.prog (Op.equalIn (d + 1) 9 (.string a) (.string b)) = some (decide (a = b)) := fun a b => by
    have : prun Try.prog (Op.equalIn (d + 1) 9 (.string a) (.string b)) = some (a == b) := by kernel_rfl
    rw [this]; simp [bbeq, ibeq]
  unfold tval
  dsimp only
  rw [Op.equalIn, prun_bind, h1, Try.underlying57]
  simp only [TextV.mk.injEq]
  simp [prun_bind, prun_ite, prun_pure, h2, h3, h4, h5, h6]
  by_cases h : p = q
  · simp [h, prun_bind, prun_ite, prun_pure, h4, h5, h7]
    by_cases h' : a = b <;> simp [h', prun_pure]
  · simp [h, prun_bind, prun_ite, prun_pure, h4, h5, h7]
theorem pbin_tneq {p q : TextV} {x y : Operand} : pbin Try.prog .neq 57 x y (tval p) (tval q) = some (.bool (!decide (p = q))) := by
  have h1 : tkt Try.prog 57 = none := by kernel_rfl
  have h2 : Try.prog.eqGuardType Try.prog.depth 57 = false := by kernel_rfl
  have h3 : prun Try.prog program = some Try.prog := rfl
  have h4 : prun Try.prog (Op.equal 57 (tval p) (tval q)) = some (decide (p = q)) := teq_run 9998 p q
  simp only [pbin, keqA, h1, prun_bind]
  have e1 : prun Try.prog (eqGuard .neq 57 x y (tval p) (tval q)) = some () := by
    simp [eqGuard, tval, prun_bind, h3, h2, prun_pure]
  have e2 : binOp .neq 57 (tval p) (tval q) = (do pure (.bool (!(← Op.equal 57 (tval p) (tval q))))) := rfl
  rw [e1, e2]
  simp [prun_bind, prun_map, h4, prun_pure]
theorem binA_tneq {p q : TextV} {x y : Operand} : binA Try.prog .neq 57 x y (.agg (tcell p)) (.agg (tcell q)) = some (.v (.bool (!decide (p = q))), []) := by
  simp only [binA, val_tcell, pbin_tneq, Option.map_some]
attribute [push_cast] val_tcell pbin_tneq binA_tneq

theorem take_all {α : Type} {l k : List α} (hl : l.length = k.length) (h : l.take l.length = k.take l.length) : l = k := by
  rw [List.take_length] at h
  rw [h, hl, List.take_length]
theorem take_step {α : Type} {l k : List α} {i : Nat} (h : l.take i = k.take i) (h1 : i < l.length) (h2 : i < k.length) (he : l[i] = k[i]) : l.take (i + 1) = k.take (i + 1) := by
  rw [List.take_succ_eq_append_getElem h1, List.take_succ_eq_append_getElem h2, h, he]

theorem c9 (a b : DocV) (ha : DocOK a) (hb : DocOK b) : PCall Try.prog [] 9 [.agg (docL a), .agg (docL b)] (.v (.bool (decide (a = b)))) := by
  have hle := ha.le
  have hlt := ha.lt
  have hlc := ha.lc
  have fin : a ≠ b → decide (a = b) = false := fun h => decide_eq_false h
  refine PCall.start Try.func9 rfl (by kernel_rfl) rfl Try.ntmps9 fol (by kernel_rfl) (by simp [idfL, idf, idfL_docL]) rfl ?_
  simp only [List.zipIdx_cons, List.zipIdx_nil, List.map_cons, List.map_nil, Nat.zero_add]
  simp (maxSteps := 400000) (disch := first | omega | exact okT rfl | simp only [push_cast]) only [push_cast, ↓ite_cnd, ↓reduceIte, Nat.reduceAdd, Nat.reduceMul, Nat.reduceSub, Nat.reduceEqDiff, Nat.reduceBEq, Nat.reduceBNe, Nat.reduceLT, Nat.reduceLeDiff, reduceCtorEq, Op.operands, flat_take_succ, flat_take_all]
  refine ⟨fun h1 => ?_, fun h1 => ?_⟩
  case refine_2 =>
    have hne : a ≠ b := fun e => h1 (by rw [e])
    simp (maxSteps := 400000) (disch := first | omega | exact okT rfl | simp only [push_cast]) only [push_cast, ↓ite_cnd, ↓reduceIte, Nat.reduceAdd, Nat.reduceMul, Nat.reduceSub, Nat.reduceEqDiff, Nat.reduceBEq, Nat.reduceBNe, Nat.reduceLT, Nat.reduceLeDiff, reduceCtorEq, Op.operands, flat_take_succ, flat_take_all]
    rw [fin hne]
  simp (maxSteps := 400000) (disch := first | omega | exact okT rfl | simp only [push_cast]) only [push_cast, ↓ite_cnd, ↓reduceIte, Nat.reduceAdd, Nat.reduceMul, Nat.reduceSub, Nat.reduceEqDiff, Nat.reduceBEq, Nat.reduceBNe, Nat.reduceLT, Nat.reduceLeDiff, reduceCtorEq, Op.operands, flat_take_succ, flat_take_all]
  refine ⟨fun h2 => ?_, fun h2 => ?_⟩
  case refine_2 =>
    have hne : a ≠ b := fun e => h2 (by rw [e])
    simp (maxSteps := 400000) (disch := first | omega | exact okT rfl | simp only [push_cast]) only [push_cast, ↓ite_cnd, ↓reduceIte, Nat.reduceAdd, Nat.reduceMul, Nat.reduceSub, Nat.reduceEqDiff, Nat.reduceBEq, Nat.reduceBNe, Nat.reduceLT, Nat.reduceLeDiff, reduceCtorEq, Op.operands, flat_take_succ, flat_take_all]
    rw [fin hne]
  simp (maxSteps := 400000) (disch := first | omega | exact okT rfl | simp only [push_cast]) only [push_cast, ↓ite_cnd, ↓reduceIte, Nat.reduceAdd, Nat.reduceMul, Nat.reduceSub, Nat.reduceEqDiff, Nat.reduceBEq, Nat.reduceBNe, Nat.reduceLT, Nat.reduceLeDiff, reduceCtorEq, Op.operands, flat_take_succ, flat_take_all]
  refine ⟨fun h3 => ?_, fun h3 => ?_⟩
  case refine_1 =>
    have hne : a ≠ b := fun e => h3 (by rw [e])
    simp (maxSteps := 400000) (disch := first | omega | exact okT rfl | simp only [push_cast]) only [push_cast, ↓ite_cnd, ↓reduceIte, Nat.reduceAdd, Nat.reduceMul, Nat.reduceSub, Nat.reduceEqDiff, Nat.reduceBEq, Nat.reduceBNe, Nat.reduceLT, Nat.reduceLeDiff, reduceCtorEq, Op.operands, flat_take_succ, flat_take_all]
    rw [fin hne]
  simp (maxSteps := 400000) (disch := first | omega | exact okT rfl | simp only [push_cast]) only [push_cast, ↓ite_cnd, ↓reduceIte, Nat.reduceAdd, Nat.reduceMul, Nat.reduceSub, Nat.reduceEqDiff, Nat.reduceBEq, Nat.reduceBNe, Nat.reduceLT, Nat.reduceLeDiff, reduceCtorEq, Op.operands, flat_take_succ, flat_take_all]
  have l1 : a.entries.length = b.entries.length := by omega
  have l2 : a.counts.length = b.counts.length := by omega
  have l3 : a.texts.length = b.texts.length := by omega
  refine ev_loopI (ι := Nat) (fun i => ⟨[(2, .ptr 0 0), (3, .ptr 1 0), (5, .v (.int .i64 i))], ⟨[(0, .cells 26 (docL a) false), (1, .cells 26 (docL b) false)], 2, 2, 0⟩⟩) (fun i => i ≤ a.entries.length ∧ a.entries.take i = b.entries.take i) (fun i => a.entries.length - i) 0 ⟨Nat.zero_le _, by simp⟩ ?_ ?_
  · refine Ent.freeze [(0, 2), (1, 3)] ?_ ?_ rfl rfl rfl
    · simp (maxSteps := 400000) (disch := first | omega | exact okT rfl | simp only [push_cast]) only [push_cast, ↓ite_cnd, ↓reduceIte, Nat.reduceAdd, Nat.reduceMul, Nat.reduceSub, Nat.reduceEqDiff, Nat.reduceBEq, Nat.reduceBNe, Nat.reduceLT, Nat.reduceLeDiff, reduceCtorEq, Op.operands, flat_take_succ, flat_take_all]
    · simp (maxSteps := 400000) (disch := first | omega | exact okT rfl | simp only [push_cast]) only [push_cast, ↓ite_cnd, ↓reduceIte, Nat.reduceAdd, Nat.reduceMul, Nat.reduceSub, Nat.reduceEqDiff, Nat.reduceBEq, Nat.reduceBNe, Nat.reduceLT, Nat.reduceLeDiff, reduceCtorEq, Op.operands, flat_take_succ, flat_take_all]
      try exact ⟨rfl, rfl⟩
  intro i ⟨hi, hall⟩
  simp (maxSteps := 400000) (disch := first | omega | exact okT rfl | simp only [push_cast]) only [push_cast, ↓ite_cnd, ↓reduceIte, Nat.reduceAdd, Nat.reduceMul, Nat.reduceSub, Nat.reduceEqDiff, Nat.reduceBEq, Nat.reduceBNe, Nat.reduceLT, Nat.reduceLeDiff, reduceCtorEq, Op.operands, flat_take_succ, flat_take_all]
  refine ⟨fun h4 => ?_, fun h4 => ?_⟩
  · have hi1 : i < a.entries.length := by omega
    have hi2 : i < b.entries.length := by omega
    have hva := ha.ve a.entries[i] (List.getElem_mem hi1)
    have hx : a.entries[i] ≠ b.entries[i] → a ≠ b := fun h e => h (by subst e; rfl)
    simp (maxSteps := 400000) (disch := first | omega | exact okT rfl | simp only [push_cast]) only [push_cast, ↓ite_cnd, ↓reduceIte, Nat.reduceAdd, Nat.reduceMul, Nat.reduceSub, Nat.reduceEqDiff, Nat.reduceBEq, Nat.reduceBNe, Nat.reduceLT, Nat.reduceLeDiff, reduceCtorEq, Op.operands, flat_take_succ, flat_take_all]
    refine ⟨fun h5 => ?_, fun h5 => ?_⟩
    case refine_2 =>
      have hne := hx (fun e => h5 (by rw [e]))
      simp (maxSteps := 400000) (disch := first | omega | exact okT rfl | simp only [push_cast]) only [push_cast, ↓ite_cnd, ↓reduceIte, Nat.reduceAdd, Nat.reduceMul, Nat.reduceSub, Nat.reduceEqDiff, Nat.reduceBEq, Nat.reduceBNe, Nat.reduceLT, Nat.reduceLeDiff, reduceCtorEq, Op.operands, flat_take_succ, flat_take_all]
      rw [fin hne]
    simp (maxSteps := 400000) (disch := first | omega | exact okT rfl | simp only [push_cast]) only [push_cast, ↓ite_cnd, ↓reduceIte, Nat.reduceAdd, Nat.reduceMul, Nat.reduceSub, Nat.reduceEqDiff, Nat.reduceBEq, Nat.reduceBNe, Nat.reduceLT, Nat.reduceLeDiff, reduceCtorEq, Op.operands, flat_take_succ, flat_take_all]
    refine evDC2.useV (c20 _ _ (by omega)) rfl ?_
    simp (maxSteps := 400000) (disch := first | omega | exact okT rfl | simp only [push_cast]) only [push_cast, ↓ite_cnd, ↓reduceIte, Nat.reduceAdd, Nat.reduceMul, Nat.reduceSub, Nat.reduceEqDiff, Nat.reduceBEq, Nat.reduceBNe, Nat.reduceLT, Nat.reduceLeDiff, reduceCtorEq, Op.operands, flat_take_succ, flat_take_all]
    refine ⟨fun h6 => ?_, fun h6 => ?_⟩
    case refine_1 =>
      have hne := hx (fun e => h6 (by rw [e]))
      simp (maxSteps := 400000) (disch := first | omega | exact okT rfl | simp only [push_cast]) only [push_cast, ↓ite_cnd, ↓reduceIte, Nat.reduceAdd, Nat.reduceMul, Nat.reduceSub, Nat.reduceEqDiff, Nat.reduceBEq, Nat.reduceBNe, Nat.reduceLT, Nat.reduceLeDiff, reduceCtorEq, Op.operands, flat_take_succ, flat_take_all]
      rw [fin hne]
    have he : a.entries[i] = b.entries[i] := by
      generalize a.entries[i] = p at *; generalize b.entries[i] = q at *
      cases p; cases q; simp_all
    simp (maxSteps := 400000) (disch := first | omega | exact okT rfl | simp only [push_cast]) only [push_cast, ↓ite_cnd, ↓reduceIte, Nat.reduceAdd, Nat.reduceMul, Nat.reduceSub, Nat.reduceEqDiff, Nat.reduceBEq, Nat.reduceBNe, Nat.reduceLT, Nat.reduceLeDiff, reduceCtorEq, Op.operands, flat_take_succ, flat_take_all]
    refine ⟨i + 1, ⟨by show i + 1 ≤ a.entries.length; omega, take_step hall hi1 hi2 he⟩, by show a.entries.length - (i + 1) < a.entries.length - i; omega, ?_⟩
    refine Ent.freeze [(0, 0), (1, 1)] ?_ ?_ rfl rfl rfl
    · simp (maxSteps := 400000) (disch := first | omega | exact okT rfl | simp only [push_cast]) only [push_cast, ↓ite_cnd, ↓reduceIte, Nat.reduceAdd, Nat.reduceMul, Nat.reduceSub, Nat.reduceEqDiff, Nat.reduceBEq, Nat.reduceBNe, Nat.reduceLT, Nat.reduceLeDiff, reduceCtorEq, Op.operands, flat_take_succ, flat_take_all]
    · simp (maxSteps := 400000) (disch := first | omega | exact okT rfl | simp only [push_cast]) only [push_cast, ↓ite_cnd, ↓reduceIte, Nat.reduceAdd, Nat.reduceMul, Nat.reduceSub, Nat.reduceEqDiff, Nat.reduceBEq, Nat.reduceBNe, Nat.reduceLT, Nat.reduceLeDiff, reduceCtorEq, Op.operands, flat_take_succ, flat_take_all]
      try exact ⟨rfl, rfl⟩
  have hi1 : i = a.entries.length := by omega
  subst hi1
  have q1 := take_all l1 hall
  simp (maxSteps := 400000) (disch := first | omega | exact okT rfl | simp only [push_cast]) only [push_cast, ↓ite_cnd, ↓reduceIte, Nat.reduceAdd, Nat.reduceMul, Nat.reduceSub, Nat.reduceEqDiff, Nat.reduceBEq, Nat.reduceBNe, Nat.reduceLT, Nat.reduceLeDiff, reduceCtorEq, Op.operands, flat_take_succ, flat_take_all]
  refine ev_loopI (ι := Nat) (fun i => ⟨[(2, .ptr 0 0), (3, .ptr 1 0), (6, .v (.int .i64 i))], ⟨[(0, .cells 26 (docL a) false), (1, .cells 26 (docL b) false)], 2, 2, 0⟩⟩) (fun i => i ≤ a.counts.length ∧ a.counts.take i = b.counts.take i) (fun i => a.counts.length - i) 0 ⟨Nat.zero_le _, by simp⟩ ?_ ?_
  · refine Ent.freeze [(0, 0), (1, 1)] ?_ ?_ rfl rfl rfl
    · simp (maxSteps := 400000) (disch := first | omega | exact okT rfl | simp only [push_cast]) only [push_cast, ↓ite_cnd, ↓reduceIte, Nat.reduceAdd, Nat.reduceMul, Nat.reduceSub, Nat.reduceEqDiff, Nat.reduceBEq, Nat.reduceBNe, Nat.reduceLT, Nat.reduceLeDiff, reduceCtorEq, Op.operands, flat_take_succ, flat_take_all]
    · simp (maxSteps := 400000) (disch := first | omega | exact okT rfl | simp only [push_cast]) only [push_cast, ↓ite_cnd, ↓reduceIte, Nat.reduceAdd, Nat.reduceMul, Nat.reduceSub, Nat.reduceEqDiff, Nat.reduceBEq, Nat.reduceBNe, Nat.reduceLT, Nat.reduceLeDiff, reduceCtorEq, Op.operands, flat_take_succ, flat_take_all]
      try exact ⟨rfl, rfl⟩
  intro i ⟨hi, hall⟩
  simp (maxSteps := 400000) (disch := first | omega | exact okT rfl | simp only [push_cast]) only [push_cast, ↓ite_cnd, ↓reduceIte, Nat.reduceAdd, Nat.reduceMul, Nat.reduceSub, Nat.reduceEqDiff, Nat.reduceBEq, Nat.reduceBNe, Nat.reduceLT, Nat.reduceLeDiff, reduceCtorEq, Op.operands, flat_take_succ, flat_take_all]
  refine ⟨fun h4 => ?_, fun h4 => ?_⟩
  · have hi1 : i < a.counts.length := by omega
    have hi2 : i < b.counts.length := by omega
    have hx : a.counts[i] ≠ b.counts[i] → a ≠ b := fun h e => h (by subst e; rfl)
    simp (maxSteps := 400000) (disch := first | omega | exact okT rfl | simp only [push_cast]) only [push_cast, ↓ite_cnd, ↓reduceIte, Nat.reduceAdd, Nat.reduceMul, Nat.reduceSub, Nat.reduceEqDiff, Nat.reduceBEq, Nat.reduceBNe, Nat.reduceLT, Nat.reduceLeDiff, reduceCtorEq, Op.operands, flat_take_succ, flat_take_all]
    refine ⟨fun h5 => ?_, fun h5 => ?_⟩
    case refine_1 =>
      have hne := hx h5
      simp (maxSteps := 400000) (disch := first | omega | exact okT rfl | simp only [push_cast]) only [push_cast, ↓ite_cnd, ↓reduceIte, Nat.reduceAdd, Nat.reduceMul, Nat.reduceSub, Nat.reduceEqDiff, Nat.reduceBEq, Nat.reduceBNe, Nat.reduceLT, Nat.reduceLeDiff, reduceCtorEq, Op.operands, flat_take_succ, flat_take_all]
      rw [fin hne]
    simp (maxSteps := 400000) (disch := first | omega | exact okT rfl | simp only [push_cast]) only [push_cast, ↓ite_cnd, ↓reduceIte, Nat.reduceAdd, Nat.reduceMul, Nat.reduceSub, Nat.reduceEqDiff, Nat.reduceBEq, Nat.reduceBNe, Nat.reduceLT, Nat.reduceLeDiff, reduceCtorEq, Op.operands, flat_take_succ, flat_take_all]
    refine ⟨i + 1, ⟨by show i + 1 ≤ a.counts.length; omega, take_step hall hi1 hi2 h5⟩, by show a.counts.length - (i + 1) < a.counts.length - i; omega, ?_⟩
    refine Ent.freeze [(0, 0), (1, 1)] ?_ ?_ rfl rfl rfl
    · simp (maxSteps := 400000) (disch := first | omega | exact okT rfl | simp only [push_cast]) only [push_cast, ↓ite_cnd, ↓reduceIte, Nat.reduceAdd, Nat.reduceMul, Nat.reduceSub, Nat.reduceEqDiff, Nat.reduceBEq, Nat.reduceBNe, Nat.reduceLT, Nat.reduceLeDiff, reduceCtorEq, Op.operands, flat_take_succ, flat_take_all]
    · simp (maxSteps := 400000) (disch := first | omega | exact okT rfl | simp only [push_cast]) only [push_cast, ↓ite_cnd, ↓reduceIte, Nat.reduceAdd, Nat.reduceMul, Nat.reduceSub, Nat.reduceEqDiff, Nat.reduceBEq, Nat.reduceBNe, Nat.reduceLT, Nat.reduceLeDiff, reduceCtorEq, Op.operands, flat_take_succ, flat_take_all]
      try exact ⟨rfl, rfl⟩
  have hi1 : i = a.counts.length := by omega
  subst hi1
  have q2 := take_all l2 hall
  simp (maxSteps := 400000) (disch := first | omega | exact okT rfl | simp only [push_cast]) only [push_cast, ↓ite_cnd, ↓reduceIte, Nat.reduceAdd, Nat.reduceMul, Nat.reduceSub, Nat.reduceEqDiff, Nat.reduceBEq, Nat.reduceBNe, Nat.reduceLT, Nat.reduceLeDiff, reduceCtorEq, Op.operands, flat_take_succ, flat_take_all]
  refine ev_loopI (ι := Nat) (fun i => ⟨[(2, .ptr 0 0), (3, .ptr 1 0), (7, .v (.int .i64 i))], ⟨[(0, .cells 26 (docL a) false), (1, .cells 26 (docL b) false)], 2, 2, 0⟩⟩) (fun i => i ≤ a.texts.length ∧ a.texts.take i = b.texts.take i) (fun i => a.texts.length - i) 0 ⟨Nat.zero_le _, by simp⟩ ?_ ?_
  · refine Ent.freeze [(0, 0), (1, 1)] ?_ ?_ rfl rfl rfl
    · simp (maxSteps := 400000) (disch := first | omega | exact okT rfl | simp only [push_cast]) only [push_cast, ↓ite_cnd, ↓reduceIte, Nat.reduceAdd, Nat.reduceMul, Nat.reduceSub, Nat.reduceEqDiff, Nat.reduceBEq, Nat.reduceBNe, Nat.reduceLT, Nat.reduceLeDiff, reduceCtorEq, Op.operands, flat_take_succ, flat_take_all]
    · simp (maxSteps := 400000) (disch := first | omega | exact okT rfl | simp only [push_cast]) only [push_cast, ↓ite_cnd, ↓reduceIte, Nat.reduceAdd, Nat.reduceMul, Nat.reduceSub, Nat.reduceEqDiff, Nat.reduceBEq, Nat.reduceBNe, Nat.reduceLT, Nat.reduceLeDiff, reduceCtorEq, Op.operands, flat_take_succ, flat_take_all]
      try exact ⟨rfl, rfl⟩
  intro i ⟨hi, hall⟩
  simp (maxSteps := 400000) (disch := first | omega | exact okT rfl | simp only [push_cast]) only [push_cast, ↓ite_cnd, ↓reduceIte, Nat.reduceAdd, Nat.reduceMul, Nat.reduceSub, Nat.reduceEqDiff, Nat.reduceBEq, Nat.reduceBNe, Nat.reduceLT, Nat.reduceLeDiff, reduceCtorEq, Op.operands, flat_take_succ, flat_take_all]
  refine ⟨fun h4 => ?_, fun h4 => ?_⟩
  · have hi1 : i < a.texts.length := by omega
    have hi2 : i < b.texts.length := by omega
    have hx : a.texts[i] ≠ b.texts[i] → a ≠ b := fun h e => h (by subst e; rfl)
    simp (maxSteps := 400000) (disch := first | omega | exact okT rfl | simp only [push_cast]) only [push_cast, ↓ite_cnd, ↓reduceIte, Nat.reduceAdd, Nat.reduceMul, Nat.reduceSub, Nat.reduceEqDiff, Nat.reduceBEq, Nat.reduceBNe, Nat.reduceLT, Nat.reduceLeDiff, reduceCtorEq, Op.operands, flat_take_succ, flat_take_all]
    refine ⟨fun h5 => ?_, fun h5 => ?_⟩
    case refine_1 =>
      have hne := hx h5
      simp (maxSteps := 400000) (disch := first | omega | exact okT rfl | simp only [push_cast]) only [push_cast, ↓ite_cnd, ↓reduceIte, Nat.reduceAdd, Nat.reduceMul, Nat.reduceSub, Nat.reduceEqDiff, Nat.reduceBEq, Nat.reduceBNe, Nat.reduceLT, Nat.reduceLeDiff, reduceCtorEq, Op.operands, flat_take_succ, flat_take_all]
      rw [fin hne]
    simp (maxSteps := 400000) (disch := first | omega | exact okT rfl | simp only [push_cast]) only [push_cast, ↓ite_cnd, ↓reduceIte, Nat.reduceAdd, Nat.reduceMul, Nat.reduceSub, Nat.reduceEqDiff, Nat.reduceBEq, Nat.reduceBNe, Nat.reduceLT, Nat.reduceLeDiff, reduceCtorEq, Op.operands, flat_take_succ, flat_take_all]
    refine ⟨i + 1, ⟨by show i + 1 ≤ a.texts.length; omega, take_step hall hi1 hi2 h5⟩, by show a.texts.length - (i + 1) < a.texts.length - i; omega, ?_⟩
    refine Ent.freeze [(0, 0), (1, 1)] ?_ ?_ rfl rfl rfl
    · simp (maxSteps := 400000) (disch := first | omega | exact okT rfl | simp only [push_cast]) only [push_cast, ↓ite_cnd, ↓reduceIte, Nat.reduceAdd, Nat.reduceMul, Nat.reduceSub, Nat.reduceEqDiff, Nat.reduceBEq, Nat.reduceBNe, Nat.reduceLT, Nat.reduceLeDiff, reduceCtorEq, Op.operands, flat_take_succ, flat_take_all]
    · simp (maxSteps := 400000) (disch := first | omega | exact okT rfl | simp only [push_cast]) only [push_cast, ↓ite_cnd, ↓reduceIte, Nat.reduceAdd, Nat.reduceMul, Nat.reduceSub, Nat.reduceEqDiff, Nat.reduceBEq, Nat.reduceBNe, Nat.reduceLT, Nat.reduceLeDiff, reduceCtorEq, Op.operands, flat_take_succ, flat_take_all]
      try exact ⟨rfl, rfl⟩
  have hi1 : i = a.texts.length := by omega
  subst hi1
  have q3 := take_all l3 hall
  have q : a = b := by cases a; cases b; simp_all
  simp (maxSteps := 400000) (disch := first | omega | exact okT rfl | simp only [push_cast]) only [push_cast, ↓ite_cnd, ↓reduceIte, Nat.reduceAdd, Nat.reduceMul, Nat.reduceSub, Nat.reduceEqDiff, Nat.reduceBEq, Nat.reduceBNe, Nat.reduceLT, Nat.reduceLeDiff, reduceCtorEq, Op.operands, flat_take_succ, flat_take_all]
  simp [q]
end Go.AW
