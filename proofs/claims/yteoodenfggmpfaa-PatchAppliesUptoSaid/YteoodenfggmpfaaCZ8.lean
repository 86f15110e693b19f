/- Contracts: a document with or without a thing. -/
import Derived.Test.YteoodenfggmpfaaCZ7
namespace Go.AW
open Proofs

set_option linter.unusedSimpArgs false
set_option linter.unusedVariables false
set_option maxRecDepth 100000
set_option maxHeartbeats 8000000

section
variable {α : Type} (nm : α → ByteArray) (key : ByteArray) (x : α)
/-- One thing of a row, where another one comes in. -/
def insS (r : List α × Bool) (e : α) : List α × Bool :=
  let r' := if r.2 = false ∧ ¬ SLt (nm e) key then (r.1 ++ [x], true) else r
  (if nm e = key then r'.1 else r'.1 ++ [e], r'.2)
def insF (done : Bool) (l : List α) : List α × Bool := l.foldl (insS nm key x) ([], done)
/-- A row with a thing (or, where it is done, without it). -/
def insL (done : Bool) (l : List α) : List α := if (insF nm key x done l).2 then (insF nm key x done l).1 else (insF nm key x done l).1 ++ [x]
variable {nm key x}
theorem insF_succ {done : Bool} {l : List α} {i : Nat} (h : i < l.length) : insF nm key x done (l.take (i + 1)) = insS nm key x (insF nm key x done (l.take i)) l[i] := by
  unfold insF
  rw [List.take_succ_eq_append_getElem h, List.foldl_append]; rfl
theorem insS_le (r : List α × Bool) (e : α) : (insS nm key x r e).1.length ≤ r.1.length + 2 := by
  have h : ∀ r' : List α × Bool, r'.1.length ≤ r.1.length + 1 → (if nm e = key then r'.1 else r'.1 ++ [e]).length ≤ r.1.length + 2 := by
    intro r' h
    split
    · omega
    · simp; omega
  refine h _ ?_
  split <;> simp
theorem insF_le {done : Bool} {l : List α} {i : Nat} (hi : i ≤ l.length) : (insF nm key x done (l.take i)).1.length ≤ 2 * i := by
  induction i with
  | zero => simp [insF]
  | succ i ih =>
    have h1 := ih (by omega)
    have h2 := insS_le (nm := nm) (key := key) (x := x) (insF nm key x done (l.take i)) l[i]
    rw [insF_succ (by omega)]
    omega
end

theorem c37 (d : DocV) (hd : DocOK d) (key : ByteArray) (v : List ByteArray) (hv : v.length ≤ 1048576) : PCall Try.prog [] 37 [.agg (docL d), .v (.string key), .seq v.length 1 (flat scell v)] (.agg (docL { d with entries := insL (·.key) key ⟨key, v⟩ (decide (v.length = 0)) d.entries })) := by
  have hle := hd.le
  refine PCall.start Try.func37 rfl (by kernel_rfl) rfl Try.ntmps37 fol (by kernel_rfl) (by simp [idfL, idf, idfL_docL, idfL_flat idfL_scell]) (by simp [idfL, idf, idfL_docL]) ?_
  simp only [List.zipIdx_cons, List.zipIdx_nil, List.map_cons, List.map_nil, Nat.zero_add]
  simp (maxSteps := 400000) (disch := first | omega | exact okT rfl | simp only [push_cast]) only [push_cast, ↓ite_cnd, ↓reduceIte, Nat.reduceAdd, Nat.reduceMul, Nat.reduceSub, Nat.reduceEqDiff, Nat.reduceBEq, Nat.reduceBNe, Nat.reduceLT, Nat.reduceLeDiff, reduceCtorEq, Op.operands, flat_take_succ, flat_take_all]
  refine ev_loopI (ι := Nat) (fun i => ⟨[(1, .v (.string key)), (2, .seq v.length 1 (flat scell v)), (3, .ptr 0 0), (6, .ptr 1 0), (7, .sl 2 0 (insF (·.key) key ⟨key, v⟩ (decide (v.length = 0)) (d.entries.take i)).1.length 2), (8, .v (.bool (insF (·.key) key ⟨key, v⟩ (decide (v.length = 0)) (d.entries.take i)).2)), (9, .v (.int .i64 i))], ⟨[(0, .cells 26 (docL d) false), (1, .cells 26 [.v (.slice none 0 0), .v (.slice none 0 0), .v (.slice none 0 0)] false), (2, .cells 40 (flat ecell (insF (·.key) key ⟨key, v⟩ (decide (v.length = 0)) (d.entries.take i)).1) true)], 3, 3, 0⟩⟩) (fun i => i ≤ d.entries.length) (fun i => d.entries.length - i) 0 (Nat.zero_le _) ?_ ?_
  · refine Ent.freeze [(0, 0 + 3), (1, 0 + 6)] ?_ ?_ rfl rfl rfl
    · simp (maxSteps := 400000) (disch := first | omega | exact okT rfl | simp only [push_cast]) only [push_cast, ↓ite_cnd, ↓reduceIte, Nat.reduceAdd, Nat.reduceMul, Nat.reduceSub, Nat.reduceEqDiff, Nat.reduceBEq, Nat.reduceBNe, Nat.reduceLT, Nat.reduceLeDiff, reduceCtorEq, Op.operands, flat_take_succ, flat_take_all, insF, List.take_zero, List.foldl_nil]
      try simp
    · simp (maxSteps := 400000) (disch := first | omega | exact okT rfl | simp only [push_cast]) only [push_cast, ↓ite_cnd, ↓reduceIte, Nat.reduceAdd, Nat.reduceMul, Nat.reduceSub, Nat.reduceEqDiff, Nat.reduceBEq, Nat.reduceBNe, Nat.reduceLT, Nat.reduceLeDiff, reduceCtorEq, Op.operands, flat_take_succ, flat_take_all, insF, List.take_zero, List.foldl_nil]
      try exact ⟨rfl, rfl⟩
  intro i hi
  have hfl := insF_le (nm := (·.key)) (key := key) (x := ⟨key, v⟩) (done := (decide (v.length = 0))) hi
  simp (maxSteps := 400000) (disch := first | omega | exact okT rfl | simp only [push_cast]) only [push_cast, ↓ite_cnd, ↓reduceIte, Nat.reduceAdd, Nat.reduceMul, Nat.reduceSub, Nat.reduceEqDiff, Nat.reduceBEq, Nat.reduceBNe, Nat.reduceLT, Nat.reduceLeDiff, reduceCtorEq, Op.operands, flat_take_succ, flat_take_all]
  refine ⟨fun h4 => ?_, fun h4 => ?_⟩
  · have hi1 : i < d.entries.length := by omega
    have hfs := insF_succ (nm := (·.key)) (key := key) (x := ⟨key, v⟩) (done := (decide (v.length = 0))) hi1
    generalize hr : insF (·.key) key ⟨key, v⟩ (decide (v.length = 0)) (d.entries.take i) = r at hfs hfl ⊢
    obtain ⟨out, dn⟩ := r
    dsimp only at hfl ⊢
    simp only [insS] at hfs
    simp (maxSteps := 400000) (disch := first | omega | exact okT rfl | simp only [push_cast]) only [push_cast, ↓ite_cnd, ↓reduceIte, Nat.reduceAdd, Nat.reduceMul, Nat.reduceSub, Nat.reduceEqDiff, Nat.reduceBEq, Nat.reduceBNe, Nat.reduceLT, Nat.reduceLeDiff, reduceCtorEq, Op.operands, flat_take_succ, flat_take_all]
    cases dn with
    | true =>
      simp (maxSteps := 400000) (disch := first | omega | exact okT rfl | simp only [push_cast]) only [push_cast, ↓ite_cnd, ↓reduceIte, Nat.reduceAdd, Nat.reduceMul, Nat.reduceSub, Nat.reduceEqDiff, Nat.reduceBEq, Nat.reduceBNe, Nat.reduceLT, Nat.reduceLeDiff, reduceCtorEq, Op.operands, flat_take_succ, flat_take_all, Bool.not_true]
      refine ⟨fun h5 => ?_, fun h5 => ?_⟩
      · have hfs' : insF (·.key) key ⟨key, v⟩ (decide (v.length = 0)) (d.entries.take (i + 1)) = (out ++ [d.entries[i]], true) := by rw [hfs]; simp_all
        simp (maxSteps := 400000) (disch := first | omega | exact okT rfl | simp only [push_cast]) only [push_cast, ↓ite_cnd, ↓reduceIte, Nat.reduceAdd, Nat.reduceMul, Nat.reduceSub, Nat.reduceEqDiff, Nat.reduceBEq, Nat.reduceBNe, Nat.reduceLT, Nat.reduceLeDiff, reduceCtorEq, Op.operands, flat_take_succ, flat_take_all]
        refine ⟨i + 1, by show i + 1 ≤ d.entries.length; omega, by show d.entries.length - (i + 1) < d.entries.length - i; omega, ?_⟩
        refine Ent.freeze [(0, 0), (1, 1), (2, 251)] ?_ ?_ rfl rfl rfl
        · simp (maxSteps := 400000) (disch := first | omega | exact okT rfl | simp only [push_cast]) only [push_cast, ↓ite_cnd, ↓reduceIte, Nat.reduceAdd, Nat.reduceMul, Nat.reduceSub, Nat.reduceEqDiff, Nat.reduceBEq, Nat.reduceBNe, Nat.reduceLT, Nat.reduceLeDiff, reduceCtorEq, Op.operands, flat_take_succ, flat_take_all, hfs', List.length_append]
          try simp
        · simp (maxSteps := 400000) (disch := first | omega | exact okT rfl | simp only [push_cast]) only [push_cast, ↓ite_cnd, ↓reduceIte, Nat.reduceAdd, Nat.reduceMul, Nat.reduceSub, Nat.reduceEqDiff, Nat.reduceBEq, Nat.reduceBNe, Nat.reduceLT, Nat.reduceLeDiff, reduceCtorEq, Op.operands, flat_take_succ, flat_take_all, hfs', flat_append, flat_cons, flat_nil, List.append_nil]
          try exact ⟨rfl, rfl⟩
          try exact ⟨rfl, rfl, rfl⟩
          try rfl
      · have hfs' : insF (·.key) key ⟨key, v⟩ (decide (v.length = 0)) (d.entries.take (i + 1)) = (out, true) := by rw [hfs]; simp_all
        simp (maxSteps := 400000) (disch := first | omega | exact okT rfl | simp only [push_cast]) only [push_cast, ↓ite_cnd, ↓reduceIte, Nat.reduceAdd, Nat.reduceMul, Nat.reduceSub, Nat.reduceEqDiff, Nat.reduceBEq, Nat.reduceBNe, Nat.reduceLT, Nat.reduceLeDiff, reduceCtorEq, Op.operands, flat_take_succ, flat_take_all]
        refine ⟨i + 1, by show i + 1 ≤ d.entries.length; omega, by show d.entries.length - (i + 1) < d.entries.length - i; omega, ?_⟩
        refine Ent.freeze [(0, 0), (1, 1), (2, 2)] ?_ ?_ rfl rfl rfl
        · simp (maxSteps := 400000) (disch := first | omega | exact okT rfl | simp only [push_cast]) only [push_cast, ↓ite_cnd, ↓reduceIte, Nat.reduceAdd, Nat.reduceMul, Nat.reduceSub, Nat.reduceEqDiff, Nat.reduceBEq, Nat.reduceBNe, Nat.reduceLT, Nat.reduceLeDiff, reduceCtorEq, Op.operands, flat_take_succ, flat_take_all, hfs', List.length_append]
          try simp
        · simp (maxSteps := 400000) (disch := first | omega | exact okT rfl | simp only [push_cast]) only [push_cast, ↓ite_cnd, ↓reduceIte, Nat.reduceAdd, Nat.reduceMul, Nat.reduceSub, Nat.reduceEqDiff, Nat.reduceBEq, Nat.reduceBNe, Nat.reduceLT, Nat.reduceLeDiff, reduceCtorEq, Op.operands, flat_take_succ, flat_take_all, hfs', flat_append, flat_cons, flat_nil, List.append_nil]
          try exact ⟨rfl, rfl⟩
          try exact ⟨rfl, rfl, rfl⟩
          try rfl
    | false =>
      simp (maxSteps := 400000) (disch := first | omega | exact okT rfl | simp only [push_cast]) only [push_cast, ↓ite_cnd, ↓reduceIte, Nat.reduceAdd, Nat.reduceMul, Nat.reduceSub, Nat.reduceEqDiff, Nat.reduceBEq, Nat.reduceBNe, Nat.reduceLT, Nat.reduceLeDiff, reduceCtorEq, Op.operands, flat_take_succ, flat_take_all, Bool.not_false]
      refine ⟨fun h6 => ?_, fun h6 => ?_⟩
      · simp (maxSteps := 400000) (disch := first | omega | exact okT rfl | simp only [push_cast]) only [push_cast, ↓ite_cnd, ↓reduceIte, Nat.reduceAdd, Nat.reduceMul, Nat.reduceSub, Nat.reduceEqDiff, Nat.reduceBEq, Nat.reduceBNe, Nat.reduceLT, Nat.reduceLeDiff, reduceCtorEq, Op.operands, flat_take_succ, flat_take_all]
        refine ⟨fun h5 => ?_, fun h5 => ?_⟩
        · have hfs' : insF (·.key) key ⟨key, v⟩ (decide (v.length = 0)) (d.entries.take (i + 1)) = (out ++ [⟨key, v⟩] ++ [d.entries[i]], true) := by rw [hfs]; simp_all
          simp (maxSteps := 400000) (disch := first | omega | exact okT rfl | simp only [push_cast]) only [push_cast, ↓ite_cnd, ↓reduceIte, Nat.reduceAdd, Nat.reduceMul, Nat.reduceSub, Nat.reduceEqDiff, Nat.reduceBEq, Nat.reduceBNe, Nat.reduceLT, Nat.reduceLeDiff, reduceCtorEq, Op.operands, flat_take_succ, flat_take_all]
          refine ⟨i + 1, by show i + 1 ≤ d.entries.length; omega, by show d.entries.length - (i + 1) < d.entries.length - i; omega, ?_⟩
          refine Ent.freeze [(0, 0), (1, 1), (2, 381)] ?_ ?_ rfl rfl rfl
          · simp (maxSteps := 400000) (disch := first | omega | exact okT rfl | simp only [push_cast]) only [push_cast, ↓ite_cnd, ↓reduceIte, Nat.reduceAdd, Nat.reduceMul, Nat.reduceSub, Nat.reduceEqDiff, Nat.reduceBEq, Nat.reduceBNe, Nat.reduceLT, Nat.reduceLeDiff, reduceCtorEq, Op.operands, flat_take_succ, flat_take_all, hfs', List.length_append]
            try simp
          · simp (maxSteps := 400000) (disch := first | omega | exact okT rfl | simp only [push_cast]) only [push_cast, ↓ite_cnd, ↓reduceIte, Nat.reduceAdd, Nat.reduceMul, Nat.reduceSub, Nat.reduceEqDiff, Nat.reduceBEq, Nat.reduceBNe, Nat.reduceLT, Nat.reduceLeDiff, reduceCtorEq, Op.operands, flat_take_succ, flat_take_all, hfs', flat_append, flat_cons, flat_nil, List.append_nil]
            try exact ⟨rfl, rfl⟩
            try exact ⟨rfl, rfl, rfl⟩
            try rfl
        · have hfs' : insF (·.key) key ⟨key, v⟩ (decide (v.length = 0)) (d.entries.take (i + 1)) = (out ++ [⟨key, v⟩], true) := by rw [hfs]; simp_all
          simp (maxSteps := 400000) (disch := first | omega | exact okT rfl | simp only [push_cast]) only [push_cast, ↓ite_cnd, ↓reduceIte, Nat.reduceAdd, Nat.reduceMul, Nat.reduceSub, Nat.reduceEqDiff, Nat.reduceBEq, Nat.reduceBNe, Nat.reduceLT, Nat.reduceLeDiff, reduceCtorEq, Op.operands, flat_take_succ, flat_take_all]
          refine ⟨i + 1, by show i + 1 ≤ d.entries.length; omega, by show d.entries.length - (i + 1) < d.entries.length - i; omega, ?_⟩
          refine Ent.freeze [(0, 0), (1, 1), (2, 170)] ?_ ?_ rfl rfl rfl
          · simp (maxSteps := 400000) (disch := first | omega | exact okT rfl | simp only [push_cast]) only [push_cast, ↓ite_cnd, ↓reduceIte, Nat.reduceAdd, Nat.reduceMul, Nat.reduceSub, Nat.reduceEqDiff, Nat.reduceBEq, Nat.reduceBNe, Nat.reduceLT, Nat.reduceLeDiff, reduceCtorEq, Op.operands, flat_take_succ, flat_take_all, hfs', List.length_append]
            try simp
          · simp (maxSteps := 400000) (disch := first | omega | exact okT rfl | simp only [push_cast]) only [push_cast, ↓ite_cnd, ↓reduceIte, Nat.reduceAdd, Nat.reduceMul, Nat.reduceSub, Nat.reduceEqDiff, Nat.reduceBEq, Nat.reduceBNe, Nat.reduceLT, Nat.reduceLeDiff, reduceCtorEq, Op.operands, flat_take_succ, flat_take_all, hfs', flat_append, flat_cons, flat_nil, List.append_nil]
            try exact ⟨rfl, rfl⟩
            try exact ⟨rfl, rfl, rfl⟩
            try rfl
      · simp (maxSteps := 400000) (disch := first | omega | exact okT rfl | simp only [push_cast]) only [push_cast, ↓ite_cnd, ↓reduceIte, Nat.reduceAdd, Nat.reduceMul, Nat.reduceSub, Nat.reduceEqDiff, Nat.reduceBEq, Nat.reduceBNe, Nat.reduceLT, Nat.reduceLeDiff, reduceCtorEq, Op.operands, flat_take_succ, flat_take_all]
        refine ⟨fun h5 => ?_, fun h5 => ?_⟩
        · have hfs' : insF (·.key) key ⟨key, v⟩ (decide (v.length = 0)) (d.entries.take (i + 1)) = (out ++ [d.entries[i]], false) := by rw [hfs]; simp_all
          simp (maxSteps := 400000) (disch := first | omega | exact okT rfl | simp only [push_cast]) only [push_cast, ↓ite_cnd, ↓reduceIte, Nat.reduceAdd, Nat.reduceMul, Nat.reduceSub, Nat.reduceEqDiff, Nat.reduceBEq, Nat.reduceBNe, Nat.reduceLT, Nat.reduceLeDiff, reduceCtorEq, Op.operands, flat_take_succ, flat_take_all]
          refine ⟨i + 1, by show i + 1 ≤ d.entries.length; omega, by show d.entries.length - (i + 1) < d.entries.length - i; omega, ?_⟩
          refine Ent.freeze [(0, 0), (1, 1), (2, 251)] ?_ ?_ rfl rfl rfl
          · simp (maxSteps := 400000) (disch := first | omega | exact okT rfl | simp only [push_cast]) only [push_cast, ↓ite_cnd, ↓reduceIte, Nat.reduceAdd, Nat.reduceMul, Nat.reduceSub, Nat.reduceEqDiff, Nat.reduceBEq, Nat.reduceBNe, Nat.reduceLT, Nat.reduceLeDiff, reduceCtorEq, Op.operands, flat_take_succ, flat_take_all, hfs', List.length_append]
            try simp
          · simp (maxSteps := 400000) (disch := first | omega | exact okT rfl | simp only [push_cast]) only [push_cast, ↓ite_cnd, ↓reduceIte, Nat.reduceAdd, Nat.reduceMul, Nat.reduceSub, Nat.reduceEqDiff, Nat.reduceBEq, Nat.reduceBNe, Nat.reduceLT, Nat.reduceLeDiff, reduceCtorEq, Op.operands, flat_take_succ, flat_take_all, hfs', flat_append, flat_cons, flat_nil, List.append_nil]
            try exact ⟨rfl, rfl⟩
            try exact ⟨rfl, rfl, rfl⟩
            try rfl
        · have hfs' : insF (·.key) key ⟨key, v⟩ (decide (v.length = 0)) (d.entries.take (i + 1)) = (out, false) := by rw [hfs]; simp_all
          simp (maxSteps := 400000) (disch := first | omega | exact okT rfl | simp only [push_cast]) only [push_cast, ↓ite_cnd, ↓reduceIte, Nat.reduceAdd, Nat.reduceMul, Nat.reduceSub, Nat.reduceEqDiff, Nat.reduceBEq, Nat.reduceBNe, Nat.reduceLT, Nat.reduceLeDiff, reduceCtorEq, Op.operands, flat_take_succ, flat_take_all]
          refine ⟨i + 1, by show i + 1 ≤ d.entries.length; omega, by show d.entries.length - (i + 1) < d.entries.length - i; omega, ?_⟩
          refine Ent.freeze [(0, 0), (1, 1), (2, 2)] ?_ ?_ rfl rfl rfl
          · simp (maxSteps := 400000) (disch := first | omega | exact okT rfl | simp only [push_cast]) only [push_cast, ↓ite_cnd, ↓reduceIte, Nat.reduceAdd, Nat.reduceMul, Nat.reduceSub, Nat.reduceEqDiff, Nat.reduceBEq, Nat.reduceBNe, Nat.reduceLT, Nat.reduceLeDiff, reduceCtorEq, Op.operands, flat_take_succ, flat_take_all, hfs', List.length_append]
            try simp
          · simp (maxSteps := 400000) (disch := first | omega | exact okT rfl | simp only [push_cast]) only [push_cast, ↓ite_cnd, ↓reduceIte, Nat.reduceAdd, Nat.reduceMul, Nat.reduceSub, Nat.reduceEqDiff, Nat.reduceBEq, Nat.reduceBNe, Nat.reduceLT, Nat.reduceLeDiff, reduceCtorEq, Op.operands, flat_take_succ, flat_take_all, hfs', flat_append, flat_cons, flat_nil, List.append_nil]
            try exact ⟨rfl, rfl⟩
            try exact ⟨rfl, rfl, rfl⟩
            try rfl
  · have hi1 : i = d.entries.length := by omega
    subst hi1
    rw [List.take_length] at hfl
    simp (maxSteps := 400000) (disch := first | omega | exact okT rfl | simp only [push_cast]) only [push_cast, ↓ite_cnd, ↓reduceIte, Nat.reduceAdd, Nat.reduceMul, Nat.reduceSub, Nat.reduceEqDiff, Nat.reduceBEq, Nat.reduceBNe, Nat.reduceLT, Nat.reduceLeDiff, reduceCtorEq, Op.operands, flat_take_succ, flat_take_all, List.take_length]
    generalize hr : insF (·.key) key ⟨key, v⟩ (decide (v.length = 0)) d.entries = r at hfl ⊢
    obtain ⟨out, dn⟩ := r
    have hL : insL (·.key) key ⟨key, v⟩ (decide (v.length = 0)) d.entries = if dn then out else out ++ [⟨key, v⟩] := by simp only [insL, hr]
    dsimp only at hfl ⊢
    rw [hL]
    cases dn with
    | true =>
      simp (maxSteps := 400000) (disch := first | omega | exact okT rfl | simp only [push_cast]) only [push_cast, ↓ite_cnd, ↓reduceIte, Nat.reduceAdd, Nat.reduceMul, Nat.reduceSub, Nat.reduceEqDiff, Nat.reduceBEq, Nat.reduceBNe, Nat.reduceLT, Nat.reduceLeDiff, reduceCtorEq, Op.operands, flat_take_succ, flat_take_all, Bool.not_true]
      try simp [docL]
    | false =>
      simp (maxSteps := 400000) (disch := first | omega | exact okT rfl | simp only [push_cast]) only [push_cast, ↓ite_cnd, ↓reduceIte, Nat.reduceAdd, Nat.reduceMul, Nat.reduceSub, Nat.reduceEqDiff, Nat.reduceBEq, Nat.reduceBNe, Nat.reduceLT, Nat.reduceLeDiff, reduceCtorEq, Op.operands, flat_take_succ, flat_take_all, Bool.not_false]
      try simp [docL, flat_append, flat_cons, flat_nil, ecell, ccell, tcell]
      try exact List.take_of_length_le (by simp only [List.length_append, eflat_length, ctflat_length, tflat_length, List.length_cons, List.length_nil]; omega)

theorem c38 (d : DocV) (hd : DocOK d) (key : ByteArray) (n : Int) (gone : Bool) : PCall Try.prog [] 38 [.agg (docL d), .v (.string key), .v (.int .i64 n), .v (.bool gone)] (.agg (docL { d with counts := insL (·.key) key ⟨key, n⟩ gone d.counts })) := by
  have hle := hd.lc
  refine PCall.start Try.func38 rfl (by kernel_rfl) rfl Try.ntmps38 fol (by kernel_rfl) (by simp [idfL, idf, idfL_docL, idfL_flat idfL_scell]) (by simp [idfL, idf, idfL_docL]) ?_
  simp only [List.zipIdx_cons, List.zipIdx_nil, List.map_cons, List.map_nil, Nat.zero_add]
  simp (maxSteps := 400000) (disch := first | omega | exact okT rfl | simp only [push_cast]) only [push_cast, ↓ite_cnd, ↓reduceIte, Nat.reduceAdd, Nat.reduceMul, Nat.reduceSub, Nat.reduceEqDiff, Nat.reduceBEq, Nat.reduceBNe, Nat.reduceLT, Nat.reduceLeDiff, reduceCtorEq, Op.operands, flat_take_succ, flat_take_all]
  refine ev_loopI (ι := Nat) (fun i => ⟨[(1, .v (.string key)), (2, .v (.int .i64 n)), (3, .v (.bool gone)), (4, .ptr 0 0), (8, .ptr 1 0), (9, .sl 2 0 (insF (·.key) key ⟨key, n⟩ gone (d.counts.take i)).1.length 2), (10, .v (.bool (insF (·.key) key ⟨key, n⟩ gone (d.counts.take i)).2)), (11, .v (.int .i64 i))], ⟨[(0, .cells 26 (docL d) false), (1, .cells 26 [.v (.slice none 0 0), .v (.slice none 0 0), .v (.slice none 0 0)] false), (2, .cells 55 (flat ccell (insF (·.key) key ⟨key, n⟩ gone (d.counts.take i)).1) true)], 3, 3, 0⟩⟩) (fun i => i ≤ d.counts.length) (fun i => d.counts.length - i) 0 (Nat.zero_le _) ?_ ?_
  · refine Ent.freeze [(0, 0 + 4), (1, 0 + 8)] ?_ ?_ rfl rfl rfl
    · simp (maxSteps := 400000) (disch := first | omega | exact okT rfl | simp only [push_cast]) only [push_cast, ↓ite_cnd, ↓reduceIte, Nat.reduceAdd, Nat.reduceMul, Nat.reduceSub, Nat.reduceEqDiff, Nat.reduceBEq, Nat.reduceBNe, Nat.reduceLT, Nat.reduceLeDiff, reduceCtorEq, Op.operands, flat_take_succ, flat_take_all, insF, List.take_zero, List.foldl_nil]
      try simp
    · simp (maxSteps := 400000) (disch := first | omega | exact okT rfl | simp only [push_cast]) only [push_cast, ↓ite_cnd, ↓reduceIte, Nat.reduceAdd, Nat.reduceMul, Nat.reduceSub, Nat.reduceEqDiff, Nat.reduceBEq, Nat.reduceBNe, Nat.reduceLT, Nat.reduceLeDiff, reduceCtorEq, Op.operands, flat_take_succ, flat_take_all, insF, List.take_zero, List.foldl_nil]
      try exact ⟨rfl, rfl⟩
  intro i hi
  have hfl := insF_le (nm := (·.key)) (key := key) (x := ⟨key, n⟩) (done := gone) hi
  simp (maxSteps := 400000) (disch := first | omega | exact okT rfl | simp only [push_cast]) only [push_cast, ↓ite_cnd, ↓reduceIte, Nat.reduceAdd, Nat.reduceMul, Nat.reduceSub, Nat.reduceEqDiff, Nat.reduceBEq, Nat.reduceBNe, Nat.reduceLT, Nat.reduceLeDiff, reduceCtorEq, Op.operands, flat_take_succ, flat_take_all]
  refine ⟨fun h4 => ?_, fun h4 => ?_⟩
  · have hi1 : i < d.counts.length := by omega
    have hfs := insF_succ (nm := (·.key)) (key := key) (x := ⟨key, n⟩) (done := gone) hi1
    generalize hr : insF (·.key) key ⟨key, n⟩ gone (d.counts.take i) = r at hfs hfl ⊢
    obtain ⟨out, dn⟩ := r
    dsimp only at hfl ⊢
    simp only [insS] at hfs
    simp (maxSteps := 400000) (disch := first | omega | exact okT rfl | simp only [push_cast]) only [push_cast, ↓ite_cnd, ↓reduceIte, Nat.reduceAdd, Nat.reduceMul, Nat.reduceSub, Nat.reduceEqDiff, Nat.reduceBEq, Nat.reduceBNe, Nat.reduceLT, Nat.reduceLeDiff, reduceCtorEq, Op.operands, flat_take_succ, flat_take_all]
    cases dn with
    | true =>
      simp (maxSteps := 400000) (disch := first | omega | exact okT rfl | simp only [push_cast]) only [push_cast, ↓ite_cnd, ↓reduceIte, Nat.reduceAdd, Nat.reduceMul, Nat.reduceSub, Nat.reduceEqDiff, Nat.reduceBEq, Nat.reduceBNe, Nat.reduceLT, Nat.reduceLeDiff, reduceCtorEq, Op.operands, flat_take_succ, flat_take_all, Bool.not_true]
      refine ⟨fun h5 => ?_, fun h5 => ?_⟩
      · have hfs' : insF (·.key) key ⟨key, n⟩ gone (d.counts.take (i + 1)) = (out ++ [d.counts[i]], true) := by rw [hfs]; simp_all
        simp (maxSteps := 400000) (disch := first | omega | exact okT rfl | simp only [push_cast]) only [push_cast, ↓ite_cnd, ↓reduceIte, Nat.reduceAdd, Nat.reduceMul, Nat.reduceSub, Nat.reduceEqDiff, Nat.reduceBEq, Nat.reduceBNe, Nat.reduceLT, Nat.reduceLeDiff, reduceCtorEq, Op.operands, flat_take_succ, flat_take_all]
        refine ⟨i + 1, by show i + 1 ≤ d.counts.length; omega, by show d.counts.length - (i + 1) < d.counts.length - i; omega, ?_⟩
        refine Ent.freeze [(0, 0), (1, 1), (2, 251)] ?_ ?_ rfl rfl rfl
        · simp (maxSteps := 400000) (disch := first | omega | exact okT rfl | simp only [push_cast]) only [push_cast, ↓ite_cnd, ↓reduceIte, Nat.reduceAdd, Nat.reduceMul, Nat.reduceSub, Nat.reduceEqDiff, Nat.reduceBEq, Nat.reduceBNe, Nat.reduceLT, Nat.reduceLeDiff, reduceCtorEq, Op.operands, flat_take_succ, flat_take_all, hfs', List.length_append]
          try simp
        · simp (maxSteps := 400000) (disch := first | omega | exact okT rfl | simp only [push_cast]) only [push_cast, ↓ite_cnd, ↓reduceIte, Nat.reduceAdd, Nat.reduceMul, Nat.reduceSub, Nat.reduceEqDiff, Nat.reduceBEq, Nat.reduceBNe, Nat.reduceLT, Nat.reduceLeDiff, reduceCtorEq, Op.operands, flat_take_succ, flat_take_all, hfs', flat_append, flat_cons, flat_nil, List.append_nil]
          try exact ⟨rfl, rfl⟩
          try exact ⟨rfl, rfl, rfl⟩
          try rfl
      · have hfs' : insF (·.key) key ⟨key, n⟩ gone (d.counts.take (i + 1)) = (out, true) := by rw [hfs]; simp_all
        simp (maxSteps := 400000) (disch := first | omega | exact okT rfl | simp only [push_cast]) only [push_cast, ↓ite_cnd, ↓reduceIte, Nat.reduceAdd, Nat.reduceMul, Nat.reduceSub, Nat.reduceEqDiff, Nat.reduceBEq, Nat.reduceBNe, Nat.reduceLT, Nat.reduceLeDiff, reduceCtorEq, Op.operands, flat_take_succ, flat_take_all]
        refine ⟨i + 1, by show i + 1 ≤ d.counts.length; omega, by show d.counts.length - (i + 1) < d.counts.length - i; omega, ?_⟩
        refine Ent.freeze [(0, 0), (1, 1), (2, 2)] ?_ ?_ rfl rfl rfl
        · simp (maxSteps := 400000) (disch := first | omega | exact okT rfl | simp only [push_cast]) only [push_cast, ↓ite_cnd, ↓reduceIte, Nat.reduceAdd, Nat.reduceMul, Nat.reduceSub, Nat.reduceEqDiff, Nat.reduceBEq, Nat.reduceBNe, Nat.reduceLT, Nat.reduceLeDiff, reduceCtorEq, Op.operands, flat_take_succ, flat_take_all, hfs', List.length_append]
          try simp
        · simp (maxSteps := 400000) (disch := first | omega | exact okT rfl | simp only [push_cast]) only [push_cast, ↓ite_cnd, ↓reduceIte, Nat.reduceAdd, Nat.reduceMul, Nat.reduceSub, Nat.reduceEqDiff, Nat.reduceBEq, Nat.reduceBNe, Nat.reduceLT, Nat.reduceLeDiff, reduceCtorEq, Op.operands, flat_take_succ, flat_take_all, hfs', flat_append, flat_cons, flat_nil, List.append_nil]
          try exact ⟨rfl, rfl⟩
          try exact ⟨rfl, rfl, rfl⟩
          try rfl
    | false =>
      simp (maxSteps := 400000) (disch := first | omega | exact okT rfl | simp only [push_cast]) only [push_cast, ↓ite_cnd, ↓reduceIte, Nat.reduceAdd, Nat.reduceMul, Nat.reduceSub, Nat.reduceEqDiff, Nat.reduceBEq, Nat.reduceBNe, Nat.reduceLT, Nat.reduceLeDiff, reduceCtorEq, Op.operands, flat_take_succ, flat_take_all, Bool.not_false]
      refine ⟨fun h6 => ?_, fun h6 => ?_⟩
      · simp (maxSteps := 400000) (disch := first | omega | exact okT rfl | simp only [push_cast]) only [push_cast, ↓ite_cnd, ↓reduceIte, Nat.reduceAdd, Nat.reduceMul, Nat.reduceSub, Nat.reduceEqDiff, Nat.reduceBEq, Nat.reduceBNe, Nat.reduceLT, Nat.reduceLeDiff, reduceCtorEq, Op.operands, flat_take_succ, flat_take_all]
        refine ⟨fun h5 => ?_, fun h5 => ?_⟩
        · have hfs' : insF (·.key) key ⟨key, n⟩ gone (d.counts.take (i + 1)) = (out ++ [⟨key, n⟩] ++ [d.counts[i]], true) := by rw [hfs]; simp_all
          simp (maxSteps := 400000) (disch := first | omega | exact okT rfl | simp only [push_cast]) only [push_cast, ↓ite_cnd, ↓reduceIte, Nat.reduceAdd, Nat.reduceMul, Nat.reduceSub, Nat.reduceEqDiff, Nat.reduceBEq, Nat.reduceBNe, Nat.reduceLT, Nat.reduceLeDiff, reduceCtorEq, Op.operands, flat_take_succ, flat_take_all]
          refine ⟨i + 1, by show i + 1 ≤ d.counts.length; omega, by show d.counts.length - (i + 1) < d.counts.length - i; omega, ?_⟩
          refine Ent.freeze [(0, 0), (1, 1), (2, 381)] ?_ ?_ rfl rfl rfl
          · simp (maxSteps := 400000) (disch := first | omega | exact okT rfl | simp only [push_cast]) only [push_cast, ↓ite_cnd, ↓reduceIte, Nat.reduceAdd, Nat.reduceMul, Nat.reduceSub, Nat.reduceEqDiff, Nat.reduceBEq, Nat.reduceBNe, Nat.reduceLT, Nat.reduceLeDiff, reduceCtorEq, Op.operands, flat_take_succ, flat_take_all, hfs', List.length_append]
            try simp
          · simp (maxSteps := 400000) (disch := first | omega | exact okT rfl | simp only [push_cast]) only [push_cast, ↓ite_cnd, ↓reduceIte, Nat.reduceAdd, Nat.reduceMul, Nat.reduceSub, Nat.reduceEqDiff, Nat.reduceBEq, Nat.reduceBNe, Nat.reduceLT, Nat.reduceLeDiff, reduceCtorEq, Op.operands, flat_take_succ, flat_take_all, hfs', flat_append, flat_cons, flat_nil, List.append_nil]
            try exact ⟨rfl, rfl⟩
            try exact ⟨rfl, rfl, rfl⟩
            try rfl
        · have hfs' : insF (·.key) key ⟨key, n⟩ gone (d.counts.take (i + 1)) = (out ++ [⟨key, n⟩], true) := by rw [hfs]; simp_all
          simp (maxSteps := 400000) (disch := first | omega | exact okT rfl | simp only [push_cast]) only [push_cast, ↓ite_cnd, ↓reduceIte, Nat.reduceAdd, Nat.reduceMul, Nat.reduceSub, Nat.reduceEqDiff, Nat.reduceBEq, Nat.reduceBNe, Nat.reduceLT, Nat.reduceLeDiff, reduceCtorEq, Op.operands, flat_take_succ, flat_take_all]
          refine ⟨i + 1, by show i + 1 ≤ d.counts.length; omega, by show d.counts.length - (i + 1) < d.counts.length - i; omega, ?_⟩
          refine Ent.freeze [(0, 0), (1, 1), (2, 170)] ?_ ?_ rfl rfl rfl
          · simp (maxSteps := 400000) (disch := first | omega | exact okT rfl | simp only [push_cast]) only [push_cast, ↓ite_cnd, ↓reduceIte, Nat.reduceAdd, Nat.reduceMul, Nat.reduceSub, Nat.reduceEqDiff, Nat.reduceBEq, Nat.reduceBNe, Nat.reduceLT, Nat.reduceLeDiff, reduceCtorEq, Op.operands, flat_take_succ, flat_take_all, hfs', List.length_append]
            try simp
          · simp (maxSteps := 400000) (disch := first | omega | exact okT rfl | simp only [push_cast]) only [push_cast, ↓ite_cnd, ↓reduceIte, Nat.reduceAdd, Nat.reduceMul, Nat.reduceSub, Nat.reduceEqDiff, Nat.reduceBEq, Nat.reduceBNe, Nat.reduceLT, Nat.reduceLeDiff, reduceCtorEq, Op.operands, flat_take_succ, flat_take_all, hfs', flat_append, flat_cons, flat_nil, List.append_nil]
            try exact ⟨rfl, rfl⟩
            try exact ⟨rfl, rfl, rfl⟩
            try rfl
      · simp (maxSteps := 400000) (disch := first | omega | exact okT rfl | simp only [push_cast]) only [push_cast, ↓ite_cnd, ↓reduceIte, Nat.reduceAdd, Nat.reduceMul, Nat.reduceSub, Nat.reduceEqDiff, Nat.reduceBEq, Nat.reduceBNe, Nat.reduceLT, Nat.reduceLeDiff, reduceCtorEq, Op.operands, flat_take_succ, flat_take_all]
        refine ⟨fun h5 => ?_, fun h5 => ?_⟩
        · have hfs' : insF (·.key) key ⟨key, n⟩ gone (d.counts.take (i + 1)) = (out ++ [d.counts[i]], false) := by rw [hfs]; simp_all
          simp (maxSteps := 400000) (disch := first | omega | exact okT rfl | simp only [push_cast]) only [push_cast, ↓ite_cnd, ↓reduceIte, Nat.reduceAdd, Nat.reduceMul, Nat.reduceSub, Nat.reduceEqDiff, Nat.reduceBEq, Nat.reduceBNe, Nat.reduceLT, Nat.reduceLeDiff, reduceCtorEq, Op.operands, flat_take_succ, flat_take_all]
          refine ⟨i + 1, by show i + 1 ≤ d.counts.length; omega, by show d.counts.length - (i + 1) < d.counts.length - i; omega, ?_⟩
          refine Ent.freeze [(0, 0), (1, 1), (2, 251)] ?_ ?_ rfl rfl rfl
          · simp (maxSteps := 400000) (disch := first | omega | exact okT rfl | simp only [push_cast]) only [push_cast, ↓ite_cnd, ↓reduceIte, Nat.reduceAdd, Nat.reduceMul, Nat.reduceSub, Nat.reduceEqDiff, Nat.reduceBEq, Nat.reduceBNe, Nat.reduceLT, Nat.reduceLeDiff, reduceCtorEq, Op.operands, flat_take_succ, flat_take_all, hfs', List.length_append]
            try simp
          · simp (maxSteps := 400000) (disch := first | omega | exact okT rfl | simp only [push_cast]) only [push_cast, ↓ite_cnd, ↓reduceIte, Nat.reduceAdd, Nat.reduceMul, Nat.reduceSub, Nat.reduceEqDiff, Nat.reduceBEq, Nat.reduceBNe, Nat.reduceLT, Nat.reduceLeDiff, reduceCtorEq, Op.operands, flat_take_succ, flat_take_all, hfs', flat_append, flat_cons, flat_nil, List.append_nil]
            try exact ⟨rfl, rfl⟩
            try exact ⟨rfl, rfl, rfl⟩
            try rfl
        · have hfs' : insF (·.key) key ⟨key, n⟩ gone (d.counts.take (i + 1)) = (out, false) := by rw [hfs]; simp_all
          simp (maxSteps := 400000) (disch := first | omega | exact okT rfl | simp only [push_cast]) only [push_cast, ↓ite_cnd, ↓reduceIte, Nat.reduceAdd, Nat.reduceMul, Nat.reduceSub, Nat.reduceEqDiff, Nat.reduceBEq, Nat.reduceBNe, Nat.reduceLT, Nat.reduceLeDiff, reduceCtorEq, Op.operands, flat_take_succ, flat_take_all]
          refine ⟨i + 1, by show i + 1 ≤ d.counts.length; omega, by show d.counts.length - (i + 1) < d.counts.length - i; omega, ?_⟩
          refine Ent.freeze [(0, 0), (1, 1), (2, 2)] ?_ ?_ rfl rfl rfl
          · simp (maxSteps := 400000) (disch := first | omega | exact okT rfl | simp only [push_cast]) only [push_cast, ↓ite_cnd, ↓reduceIte, Nat.reduceAdd, Nat.reduceMul, Nat.reduceSub, Nat.reduceEqDiff, Nat.reduceBEq, Nat.reduceBNe, Nat.reduceLT, Nat.reduceLeDiff, reduceCtorEq, Op.operands, flat_take_succ, flat_take_all, hfs', List.length_append]
            try simp
          · simp (maxSteps := 400000) (disch := first | omega | exact okT rfl | simp only [push_cast]) only [push_cast, ↓ite_cnd, ↓reduceIte, Nat.reduceAdd, Nat.reduceMul, Nat.reduceSub, Nat.reduceEqDiff, Nat.reduceBEq, Nat.reduceBNe, Nat.reduceLT, Nat.reduceLeDiff, reduceCtorEq, Op.operands, flat_take_succ, flat_take_all, hfs', flat_append, flat_cons, flat_nil, List.append_nil]
            try exact ⟨rfl, rfl⟩
            try exact ⟨rfl, rfl, rfl⟩
            try rfl
  · have hi1 : i = d.counts.length := by omega
    subst hi1
    rw [List.take_length] at hfl
    simp (maxSteps := 400000) (disch := first | omega | exact okT rfl | simp only [push_cast]) only [push_cast, ↓ite_cnd, ↓reduceIte, Nat.reduceAdd, Nat.reduceMul, Nat.reduceSub, Nat.reduceEqDiff, Nat.reduceBEq, Nat.reduceBNe, Nat.reduceLT, Nat.reduceLeDiff, reduceCtorEq, Op.operands, flat_take_succ, flat_take_all, List.take_length]
    generalize hr : insF (·.key) key ⟨key, n⟩ gone d.counts = r at hfl ⊢
    obtain ⟨out, dn⟩ := r
    have hL : insL (·.key) key ⟨key, n⟩ gone d.counts = if dn then out else out ++ [⟨key, n⟩] := by simp only [insL, hr]
    dsimp only at hfl ⊢
    rw [hL]
    cases dn with
    | true =>
      simp (maxSteps := 400000) (disch := first | omega | exact okT rfl | simp only [push_cast]) only [push_cast, ↓ite_cnd, ↓reduceIte, Nat.reduceAdd, Nat.reduceMul, Nat.reduceSub, Nat.reduceEqDiff, Nat.reduceBEq, Nat.reduceBNe, Nat.reduceLT, Nat.reduceLeDiff, reduceCtorEq, Op.operands, flat_take_succ, flat_take_all, Bool.not_true]
      try simp [docL]
    | false =>
      simp (maxSteps := 400000) (disch := first | omega | exact okT rfl | simp only [push_cast]) only [push_cast, ↓ite_cnd, ↓reduceIte, Nat.reduceAdd, Nat.reduceMul, Nat.reduceSub, Nat.reduceEqDiff, Nat.reduceBEq, Nat.reduceBNe, Nat.reduceLT, Nat.reduceLeDiff, reduceCtorEq, Op.operands, flat_take_succ, flat_take_all, Bool.not_false]
      try simp [docL, flat_append, flat_cons, flat_nil, ecell, ccell, tcell]
      try exact List.take_of_length_le (by simp only [List.length_append, eflat_length, ctflat_length, tflat_length, List.length_cons, List.length_nil]; omega)

theorem c40 (d : DocV) (hd : DocOK d) (key : ByteArray) (s : ByteArray) : PCall Try.prog [] 40 [.agg (docL d), .v (.string key), .v (.string s)] (.agg (docL { d with texts := insL (·.name) key ⟨key, s⟩ (decide (s = ⟨#[]⟩)) d.texts })) := by
  have hle := hd.lt
  refine PCall.start Try.func40 rfl (by kernel_rfl) rfl Try.ntmps40 fol (by kernel_rfl) (by simp [idfL, idf, idfL_docL, idfL_flat idfL_scell]) (by simp [idfL, idf, idfL_docL]) ?_
  simp only [List.zipIdx_cons, List.zipIdx_nil, List.map_cons, List.map_nil, Nat.zero_add]
  simp (maxSteps := 400000) (disch := first | omega | exact okT rfl | simp only [push_cast]) only [push_cast, ↓ite_cnd, ↓reduceIte, Nat.reduceAdd, Nat.reduceMul, Nat.reduceSub, Nat.reduceEqDiff, Nat.reduceBEq, Nat.reduceBNe, Nat.reduceLT, Nat.reduceLeDiff, reduceCtorEq, Op.operands, flat_take_succ, flat_take_all]
  refine ev_loopI (ι := Nat) (fun i => ⟨[(1, .v (.string key)), (2, .v (.string s)), (3, .ptr 0 0), (6, .ptr 1 0), (7, .sl 2 0 (insF (·.name) key ⟨key, s⟩ (decide (s = ⟨#[]⟩)) (d.texts.take i)).1.length 2), (8, .v (.bool (insF (·.name) key ⟨key, s⟩ (decide (s = ⟨#[]⟩)) (d.texts.take i)).2)), (9, .v (.int .i64 i))], ⟨[(0, .cells 26 (docL d) false), (1, .cells 26 [.v (.slice none 0 0), .v (.slice none 0 0), .v (.slice none 0 0)] false), (2, .cells 57 (flat tcell (insF (·.name) key ⟨key, s⟩ (decide (s = ⟨#[]⟩)) (d.texts.take i)).1) true)], 3, 3, 0⟩⟩) (fun i => i ≤ d.texts.length) (fun i => d.texts.length - i) 0 (Nat.zero_le _) ?_ ?_
  · refine Ent.freeze [(0, 0 + 3), (1, 0 + 6)] ?_ ?_ rfl rfl rfl
    · simp (maxSteps := 400000) (disch := first | omega | exact okT rfl | simp only [push_cast]) only [push_cast, ↓ite_cnd, ↓reduceIte, Nat.reduceAdd, Nat.reduceMul, Nat.reduceSub, Nat.reduceEqDiff, Nat.reduceBEq, Nat.reduceBNe, Nat.reduceLT, Nat.reduceLeDiff, reduceCtorEq, Op.operands, flat_take_succ, flat_take_all, insF, List.take_zero, List.foldl_nil]
      try simp
    · simp (maxSteps := 400000) (disch := first | omega | exact okT rfl | simp only [push_cast]) only [push_cast, ↓ite_cnd, ↓reduceIte, Nat.reduceAdd, Nat.reduceMul, Nat.reduceSub, Nat.reduceEqDiff, Nat.reduceBEq, Nat.reduceBNe, Nat.reduceLT, Nat.reduceLeDiff, reduceCtorEq, Op.operands, flat_take_succ, flat_take_all, insF, List.take_zero, List.foldl_nil]
      try exact ⟨rfl, rfl⟩
  intro i hi
  have hfl := insF_le (nm := (·.name)) (key := key) (x := ⟨key, s⟩) (done := (decide (s = ⟨#[]⟩))) hi
  simp (maxSteps := 400000) (disch := first | omega | exact okT rfl | simp only [push_cast]) only [push_cast, ↓ite_cnd, ↓reduceIte, Nat.reduceAdd, Nat.reduceMul, Nat.reduceSub, Nat.reduceEqDiff, Nat.reduceBEq, Nat.reduceBNe, Nat.reduceLT, Nat.reduceLeDiff, reduceCtorEq, Op.operands, flat_take_succ, flat_take_all]
  refine ⟨fun h4 => ?_, fun h4 => ?_⟩
  · have hi1 : i < d.texts.length := by omega
    have hfs := insF_succ (nm := (·.name)) (key := key) (x := ⟨key, s⟩) (done := (decide (s = ⟨#[]⟩))) hi1
    generalize hr : insF (·.name) key ⟨key, s⟩ (decide (s = ⟨#[]⟩)) (d.texts.take i) = r at hfs hfl ⊢
    obtain ⟨out, dn⟩ := r
    dsimp only at hfl ⊢
    simp only [insS] at hfs
    simp (maxSteps := 400000) (disch := first | omega | exact okT rfl | simp only [push_cast]) only [push_cast, ↓ite_cnd, ↓reduceIte, Nat.reduceAdd, Nat.reduceMul, Nat.reduceSub, Nat.reduceEqDiff, Nat.reduceBEq, Nat.reduceBNe, Nat.reduceLT, Nat.reduceLeDiff, reduceCtorEq, Op.operands, flat_take_succ, flat_take_all]
    cases dn with
    | true =>
      simp (maxSteps := 400000) (disch := first | omega | exact okT rfl | simp only [push_cast]) only [push_cast, ↓ite_cnd, ↓reduceIte, Nat.reduceAdd, Nat.reduceMul, Nat.reduceSub, Nat.reduceEqDiff, Nat.reduceBEq, Nat.reduceBNe, Nat.reduceLT, Nat.reduceLeDiff, reduceCtorEq, Op.operands, flat_take_succ, flat_take_all, Bool.not_true]
      refine ⟨fun h5 => ?_, fun h5 => ?_⟩
      · have hfs' : insF (·.name) key ⟨key, s⟩ (decide (s = ⟨#[]⟩)) (d.texts.take (i + 1)) = (out ++ [d.texts[i]], true) := by rw [hfs]; simp_all
        simp (maxSteps := 400000) (disch := first | omega | exact okT rfl | simp only [push_cast]) only [push_cast, ↓ite_cnd, ↓reduceIte, Nat.reduceAdd, Nat.reduceMul, Nat.reduceSub, Nat.reduceEqDiff, Nat.reduceBEq, Nat.reduceBNe, Nat.reduceLT, Nat.reduceLeDiff, reduceCtorEq, Op.operands, flat_take_succ, flat_take_all]
        refine ⟨i + 1, by show i + 1 ≤ d.texts.length; omega, by show d.texts.length - (i + 1) < d.texts.length - i; omega, ?_⟩
        refine Ent.freeze [(0, 0), (1, 1), (2, 247)] ?_ ?_ rfl rfl rfl
        · simp (maxSteps := 400000) (disch := first | omega | exact okT rfl | simp only [push_cast]) only [push_cast, ↓ite_cnd, ↓reduceIte, Nat.reduceAdd, Nat.reduceMul, Nat.reduceSub, Nat.reduceEqDiff, Nat.reduceBEq, Nat.reduceBNe, Nat.reduceLT, Nat.reduceLeDiff, reduceCtorEq, Op.operands, flat_take_succ, flat_take_all, hfs', List.length_append]
          try simp
        · simp (maxSteps := 400000) (disch := first | omega | exact okT rfl | simp only [push_cast]) only [push_cast, ↓ite_cnd, ↓reduceIte, Nat.reduceAdd, Nat.reduceMul, Nat.reduceSub, Nat.reduceEqDiff, Nat.reduceBEq, Nat.reduceBNe, Nat.reduceLT, Nat.reduceLeDiff, reduceCtorEq, Op.operands, flat_take_succ, flat_take_all, hfs', flat_append, flat_cons, flat_nil, List.append_nil]
          try exact ⟨rfl, rfl⟩
          try exact ⟨rfl, rfl, rfl⟩
          try rfl
      · have hfs' : insF (·.name) key ⟨key, s⟩ (decide (s = ⟨#[]⟩)) (d.texts.take (i + 1)) = (out, true) := by rw [hfs]; simp_all
        simp (maxSteps := 400000) (disch := first | omega | exact okT rfl | simp only [push_cast]) only [push_cast, ↓ite_cnd, ↓reduceIte, Nat.reduceAdd, Nat.reduceMul, Nat.reduceSub, Nat.reduceEqDiff, Nat.reduceBEq, Nat.reduceBNe, Nat.reduceLT, Nat.reduceLeDiff, reduceCtorEq, Op.operands, flat_take_succ, flat_take_all]
        refine ⟨i + 1, by show i + 1 ≤ d.texts.length; omega, by show d.texts.length - (i + 1) < d.texts.length - i; omega, ?_⟩
        refine Ent.freeze [(0, 0), (1, 1), (2, 2)] ?_ ?_ rfl rfl rfl
        · simp (maxSteps := 400000) (disch := first | omega | exact okT rfl | simp only [push_cast]) only [push_cast, ↓ite_cnd, ↓reduceIte, Nat.reduceAdd, Nat.reduceMul, Nat.reduceSub, Nat.reduceEqDiff, Nat.reduceBEq, Nat.reduceBNe, Nat.reduceLT, Nat.reduceLeDiff, reduceCtorEq, Op.operands, flat_take_succ, flat_take_all, hfs', List.length_append]
          try simp
        · simp (maxSteps := 400000) (disch := first | omega | exact okT rfl | simp only [push_cast]) only [push_cast, ↓ite_cnd, ↓reduceIte, Nat.reduceAdd, Nat.reduceMul, Nat.reduceSub, Nat.reduceEqDiff, Nat.reduceBEq, Nat.reduceBNe, Nat.reduceLT, Nat.reduceLeDiff, reduceCtorEq, Op.operands, flat_take_succ, flat_take_all, hfs', flat_append, flat_cons, flat_nil, List.append_nil]
          try exact ⟨rfl, rfl⟩
          try exact ⟨rfl, rfl, rfl⟩
          try rfl
    | false =>
      simp (maxSteps := 400000) (disch := first | omega | exact okT rfl | simp only [push_cast]) only [push_cast, ↓ite_cnd, ↓reduceIte, Nat.reduceAdd, Nat.reduceMul, Nat.reduceSub, Nat.reduceEqDiff, Nat.reduceBEq, Nat.reduceBNe, Nat.reduceLT, Nat.reduceLeDiff, reduceCtorEq, Op.operands, flat_take_succ, flat_take_all, Bool.not_false]
      refine ⟨fun h6 => ?_, fun h6 => ?_⟩
      · simp (maxSteps := 400000) (disch := first | omega | exact okT rfl | simp only [push_cast]) only [push_cast, ↓ite_cnd, ↓reduceIte, Nat.reduceAdd, Nat.reduceMul, Nat.reduceSub, Nat.reduceEqDiff, Nat.reduceBEq, Nat.reduceBNe, Nat.reduceLT, Nat.reduceLeDiff, reduceCtorEq, Op.operands, flat_take_succ, flat_take_all]
        refine ⟨fun h5 => ?_, fun h5 => ?_⟩
        · have hfs' : insF (·.name) key ⟨key, s⟩ (decide (s = ⟨#[]⟩)) (d.texts.take (i + 1)) = (out ++ [⟨key, s⟩] ++ [d.texts[i]], true) := by rw [hfs]; simp_all
          simp (maxSteps := 400000) (disch := first | omega | exact okT rfl | simp only [push_cast]) only [push_cast, ↓ite_cnd, ↓reduceIte, Nat.reduceAdd, Nat.reduceMul, Nat.reduceSub, Nat.reduceEqDiff, Nat.reduceBEq, Nat.reduceBNe, Nat.reduceLT, Nat.reduceLeDiff, reduceCtorEq, Op.operands, flat_take_succ, flat_take_all]
          refine ⟨i + 1, by show i + 1 ≤ d.texts.length; omega, by show d.texts.length - (i + 1) < d.texts.length - i; omega, ?_⟩
          refine Ent.freeze [(0, 0), (1, 1), (2, 375)] ?_ ?_ rfl rfl rfl
          · simp (maxSteps := 400000) (disch := first | omega | exact okT rfl | simp only [push_cast]) only [push_cast, ↓ite_cnd, ↓reduceIte, Nat.reduceAdd, Nat.reduceMul, Nat.reduceSub, Nat.reduceEqDiff, Nat.reduceBEq, Nat.reduceBNe, Nat.reduceLT, Nat.reduceLeDiff, reduceCtorEq, Op.operands, flat_take_succ, flat_take_all, hfs', List.length_append]
            try simp
          · simp (maxSteps := 400000) (disch := first | omega | exact okT rfl | simp only [push_cast]) only [push_cast, ↓ite_cnd, ↓reduceIte, Nat.reduceAdd, Nat.reduceMul, Nat.reduceSub, Nat.reduceEqDiff, Nat.reduceBEq, Nat.reduceBNe, Nat.reduceLT, Nat.reduceLeDiff, reduceCtorEq, Op.operands, flat_take_succ, flat_take_all, hfs', flat_append, flat_cons, flat_nil, List.append_nil]
            try exact ⟨rfl, rfl⟩
            try exact ⟨rfl, rfl, rfl⟩
            try rfl
        · have hfs' : insF (·.name) key ⟨key, s⟩ (decide (s = ⟨#[]⟩)) (d.texts.take (i + 1)) = (out ++ [⟨key, s⟩], true) := by rw [hfs]; simp_all
          simp (maxSteps := 400000) (disch := first | omega | exact okT rfl | simp only [push_cast]) only [push_cast, ↓ite_cnd, ↓reduceIte, Nat.reduceAdd, Nat.reduceMul, Nat.reduceSub, Nat.reduceEqDiff, Nat.reduceBEq, Nat.reduceBNe, Nat.reduceLT, Nat.reduceLeDiff, reduceCtorEq, Op.operands, flat_take_succ, flat_take_all]
          refine ⟨i + 1, by show i + 1 ≤ d.texts.length; omega, by show d.texts.length - (i + 1) < d.texts.length - i; omega, ?_⟩
          refine Ent.freeze [(0, 0), (1, 1), (2, 167)] ?_ ?_ rfl rfl rfl
          · simp (maxSteps := 400000) (disch := first | omega | exact okT rfl | simp only [push_cast]) only [push_cast, ↓ite_cnd, ↓reduceIte, Nat.reduceAdd, Nat.reduceMul, Nat.reduceSub, Nat.reduceEqDiff, Nat.reduceBEq, Nat.reduceBNe, Nat.reduceLT, Nat.reduceLeDiff, reduceCtorEq, Op.operands, flat_take_succ, flat_take_all, hfs', List.length_append]
            try simp
          · simp (maxSteps := 400000) (disch := first | omega | exact okT rfl | simp only [push_cast]) only [push_cast, ↓ite_cnd, ↓reduceIte, Nat.reduceAdd, Nat.reduceMul, Nat.reduceSub, Nat.reduceEqDiff, Nat.reduceBEq, Nat.reduceBNe, Nat.reduceLT, Nat.reduceLeDiff, reduceCtorEq, Op.operands, flat_take_succ, flat_take_all, hfs', flat_append, flat_cons, flat_nil, List.append_nil]
            try exact ⟨rfl, rfl⟩
            try exact ⟨rfl, rfl, rfl⟩
            try rfl
      · simp (maxSteps := 400000) (disch := first | omega | exact okT rfl | simp only [push_cast]) only [push_cast, ↓ite_cnd, ↓reduceIte, Nat.reduceAdd, Nat.reduceMul, Nat.reduceSub, Nat.reduceEqDiff, Nat.reduceBEq, Nat.reduceBNe, Nat.reduceLT, Nat.reduceLeDiff, reduceCtorEq, Op.operands, flat_take_succ, flat_take_all]
        refine ⟨fun h5 => ?_, fun h5 => ?_⟩
        · have hfs' : insF (·.name) key ⟨key, s⟩ (decide (s = ⟨#[]⟩)) (d.texts.take (i + 1)) = (out ++ [d.texts[i]], false) := by rw [hfs]; simp_all
          simp (maxSteps := 400000) (disch := first | omega | exact okT rfl | simp only [push_cast]) only [push_cast, ↓ite_cnd, ↓reduceIte, Nat.reduceAdd, Nat.reduceMul, Nat.reduceSub, Nat.reduceEqDiff, Nat.reduceBEq, Nat.reduceBNe, Nat.reduceLT, Nat.reduceLeDiff, reduceCtorEq, Op.operands, flat_take_succ, flat_take_all]
          refine ⟨i + 1, by show i + 1 ≤ d.texts.length; omega, by show d.texts.length - (i + 1) < d.texts.length - i; omega, ?_⟩
          refine Ent.freeze [(0, 0), (1, 1), (2, 247)] ?_ ?_ rfl rfl rfl
          · simp (maxSteps := 400000) (disch := first | omega | exact okT rfl | simp only [push_cast]) only [push_cast, ↓ite_cnd, ↓reduceIte, Nat.reduceAdd, Nat.reduceMul, Nat.reduceSub, Nat.reduceEqDiff, Nat.reduceBEq, Nat.reduceBNe, Nat.reduceLT, Nat.reduceLeDiff, reduceCtorEq, Op.operands, flat_take_succ, flat_take_all, hfs', List.length_append]
            try simp
          · simp (maxSteps := 400000) (disch := first | omega | exact okT rfl | simp only [push_cast]) only [push_cast, ↓ite_cnd, ↓reduceIte, Nat.reduceAdd, Nat.reduceMul, Nat.reduceSub, Nat.reduceEqDiff, Nat.reduceBEq, Nat.reduceBNe, Nat.reduceLT, Nat.reduceLeDiff, reduceCtorEq, Op.operands, flat_take_succ, flat_take_all, hfs', flat_append, flat_cons, flat_nil, List.append_nil]
            try exact ⟨rfl, rfl⟩
            try exact ⟨rfl, rfl, rfl⟩
            try rfl
        · have hfs' : insF (·.name) key ⟨key, s⟩ (decide (s = ⟨#[]⟩)) (d.texts.take (i + 1)) = (out, false) := by rw [hfs]; simp_all
          simp (maxSteps := 400000) (disch := first | omega | exact okT rfl | simp only [push_cast]) only [push_cast, ↓ite_cnd, ↓reduceIte, Nat.reduceAdd, Nat.reduceMul, Nat.reduceSub, Nat.reduceEqDiff, Nat.reduceBEq, Nat.reduceBNe, Nat.reduceLT, Nat.reduceLeDiff, reduceCtorEq, Op.operands, flat_take_succ, flat_take_all]
          refine ⟨i + 1, by show i + 1 ≤ d.texts.length; omega, by show d.texts.length - (i + 1) < d.texts.length - i; omega, ?_⟩
          refine Ent.freeze [(0, 0), (1, 1), (2, 2)] ?_ ?_ rfl rfl rfl
          · simp (maxSteps := 400000) (disch := first | omega | exact okT rfl | simp only [push_cast]) only [push_cast, ↓ite_cnd, ↓reduceIte, Nat.reduceAdd, Nat.reduceMul, Nat.reduceSub, Nat.reduceEqDiff, Nat.reduceBEq, Nat.reduceBNe, Nat.reduceLT, Nat.reduceLeDiff, reduceCtorEq, Op.operands, flat_take_succ, flat_take_all, hfs', List.length_append]
            try simp
          · simp (maxSteps := 400000) (disch := first | omega | exact okT rfl | simp only [push_cast]) only [push_cast, ↓ite_cnd, ↓reduceIte, Nat.reduceAdd, Nat.reduceMul, Nat.reduceSub, Nat.reduceEqDiff, Nat.reduceBEq, Nat.reduceBNe, Nat.reduceLT, Nat.reduceLeDiff, reduceCtorEq, Op.operands, flat_take_succ, flat_take_all, hfs', flat_append, flat_cons, flat_nil, List.append_nil]
            try exact ⟨rfl, rfl⟩
            try exact ⟨rfl, rfl, rfl⟩
            try rfl
  · have hi1 : i = d.texts.length := by omega
    subst hi1
    rw [List.take_length] at hfl
    simp (maxSteps := 400000) (disch := first | omega | exact okT rfl | simp only [push_cast]) only [push_cast, ↓ite_cnd, ↓reduceIte, Nat.reduceAdd, Nat.reduceMul, Nat.reduceSub, Nat.reduceEqDiff, Nat.reduceBEq, Nat.reduceBNe, Nat.reduceLT, Nat.reduceLeDiff, reduceCtorEq, Op.operands, flat_take_succ, flat_take_all, List.take_length]
    generalize hr : insF (·.name) key ⟨key, s⟩ (decide (s = ⟨#[]⟩)) d.texts = r at hfl ⊢
    obtain ⟨out, dn⟩ := r
    have hL : insL (·.name) key ⟨key, s⟩ (decide (s = ⟨#[]⟩)) d.texts = if dn then out else out ++ [⟨key, s⟩] := by simp only [insL, hr]
    dsimp only at hfl ⊢
    rw [hL]
    cases dn with
    | true =>
      simp (maxSteps := 400000) (disch := first | omega | exact okT rfl | simp only [push_cast]) only [push_cast, ↓ite_cnd, ↓reduceIte, Nat.reduceAdd, Nat.reduceMul, Nat.reduceSub, Nat.reduceEqDiff, Nat.reduceBEq, Nat.reduceBNe, Nat.reduceLT, Nat.reduceLeDiff, reduceCtorEq, Op.operands, flat_take_succ, flat_take_all, Bool.not_true]
      try simp [docL]
    | false =>
      simp (maxSteps := 400000) (disch := first | omega | exact okT rfl | simp only [push_cast]) only [push_cast, ↓ite_cnd, ↓reduceIte, Nat.reduceAdd, Nat.reduceMul, Nat.reduceSub, Nat.reduceEqDiff, Nat.reduceBEq, Nat.reduceBNe, Nat.reduceLT, Nat.reduceLeDiff, reduceCtorEq, Op.operands, flat_take_succ, flat_take_all, Bool.not_false]
      try simp [docL, flat_append, flat_cons, flat_nil, ecell, ccell, tcell]
      try exact List.take_of_length_le (by simp only [List.length_append, eflat_length, ctflat_length, tflat_length, List.length_cons, List.length_nil]; omega)
end Go.AW
