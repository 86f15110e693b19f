/- Contracts: the keys of a map, rising. -/
import Derived.Test.YteoodenfggmpfaaCZ14
namespace Go.AW
open Proofs

set_option linter.unusedSimpArgs false
set_option linter.unusedVariables false
set_option maxRecDepth 100000
set_option maxHeartbeats 8000000

theorem flat_snoc {α : Type} {f : α → List AV} {l : List α} {x : α} : flat f (l ++ [x]) = flat f l ++ f x := by simp [flat]
theorem idfL_get : ∀ {xs : List AV} {i : Nat} {x : AV}, idfL xs = true → xs[i]? = some x → idf x = true
  | [], i, x, _, h => by simp at h
  | y :: xs, 0, x, hi, h => by simp only [idfL, Bool.and_eq_true] at hi; simp at h; subst h; exact hi.1
  | y :: xs, i + 1, x, hi, h => by simp only [idfL, Bool.and_eq_true] at hi; simp at h; exact idfL_get hi.2 h
theorem idfL_erase {xs : List AV} (hi : idfL xs = true) (i : Nat) : idfL (xs.eraseIdx i) = true := by
  rw [List.eraseIdx_eq_take_drop_succ]
  rw [idfL_append, idfL_take _ _ hi, idfL_drop _ _ hi]; rfl
theorem perm_move {α : Type} {acc rest ks : List α} {i : Nat} {x : α} (h : (acc ++ rest).Perm ks) (hx : rest[i]? = some x) : ((acc ++ [x]) ++ rest.eraseIdx i).Perm ks := by
  have hi : i < rest.length := (List.getElem?_eq_some_iff.1 hx).1
  have e : rest[i] = x := (List.getElem?_eq_some_iff.1 hx).2
  refine List.Perm.trans ?_ h
  rw [List.append_assoc]
  refine List.Perm.append_left acc ?_
  have h1 : rest = rest.take i ++ x :: rest.drop (i + 1) := by rw [← e, List.getElem_cons_drop, List.take_append_drop]
  rw [List.eraseIdx_eq_take_drop_succ]
  conv => rhs; rw [h1]
  exact (List.perm_middle (a := x) (l₁ := rest.take i) (l₂ := rest.drop (i + 1))).symm
theorem sortB_perm {acc ks : List ByteArray} (h : acc.Perm ks) : sortB acc = sortB ks := by
  unfold sortB
  congr 1
  have total : ∀ a b : List UInt8, (decide (a ≤ b) || decide (b ≤ a)) = true := fun a b => by
    rcases List.le_total a b with h | h <;> simp [h]
  have trans : ∀ a b c : List UInt8, decide (a ≤ b) = true → decide (b ≤ c) = true → decide (a ≤ c) = true := fun a b c h1 h2 => by
    simp only [decide_eq_true_eq] at *; exact List.le_trans h1 h2
  refine List.Perm.eq_of_pairwise (le := fun a b => decide (a ≤ b) = true) (fun a b _ _ h1 h2 => ?_) (List.pairwise_mergeSort trans total _) (List.pairwise_mergeSort trans total _) ?_
  · simp only [decide_eq_true_eq] at h1 h2; exact List.le_antisymm h1 h2
  · exact ((List.mergeSort_perm _ _).trans (h.map _)).trans (List.mergeSort_perm _ _).symm

theorem c33 (ks : List ByteArray) (xs : List AV) (hx : idfL xs = true) (hl : xs.length = ks.length) (hk : ks.length ≤ 4194304) : PCall Try.prog [] 33 [.mv .strK (ks.map Value.string) xs] (.seq ks.length 1 (flat scell (sortB ks))) := by
  refine PCall.start Try.func33 rfl (by kernel_rfl) rfl Try.ntmps33 fol (by kernel_rfl) (by simp [idfL, idf, hx]) (by simp [idf, idfL_flat idfL_scell]) ?_
  simp only [List.zipIdx_cons, List.zipIdx_nil, List.map_cons, List.map_nil, Nat.zero_add]
  simp (maxSteps := 400000) (disch := first | omega | exact okT rfl | simp only [push_cast]) only [push_cast, ↓ite_cnd, ↓reduceIte, Nat.reduceAdd, Nat.reduceMul, Nat.reduceSub, Nat.reduceEqDiff, Nat.reduceBEq, Nat.reduceBNe, Nat.reduceLT, Nat.reduceLeDiff, reduceCtorEq, Op.operands, flat_take_succ, flat_take_all, List.length_map, Int.toNat_zero]
  refine ev_loopI (ι := Option (Value × AV) × List ByteArray × List AV × List ByteArray) (fun s => ⟨[(9, .it 0), (3, .sl 1 0 s.2.2.2.length 1)], ⟨[(0, .miter s.1 (s.2.1.map Value.string) s.2.2.1), (1, .cells 9 (flat scell s.2.2.2) true)], 2, 2, 0⟩⟩)
    (fun s => s.2.2.1.length = s.2.1.length ∧ (s.2.2.2 ++ s.2.1).Perm ks ∧ idfL s.2.2.1 = true ∧ ∀ p, s.1 = some p → idf p.2 = true) (fun s => s.2.1.length) (none, ks, xs, []) ⟨hl, by simp, hx, fun p h => by cases h⟩ ?_ ?_
  · refine Ent.intro [(0, 51), (1, 28)] ?_ ?_ ?_ rfl (Nat.zero_le _) (Nat.zero_le _)
    · simp [EntE, lk, renA, rho']
    · simp [EntO, lk, renO, rho', renL, flat, renL_idf _ xs hx]
    · simp [injOn, rho', lk]
  rintro ⟨last, rest, ys, acc⟩ ⟨hyl, hp, hyi, hli⟩
  dsimp only at hyl hp hyi hli ⊢
  have hpl := hp.length_eq
  simp only [List.length_append] at hpl
  simp (maxSteps := 400000) (disch := first | omega | exact okT rfl | simp only [push_cast]) only [push_cast, ↓ite_cnd, ↓reduceIte, Nat.reduceAdd, Nat.reduceMul, Nat.reduceSub, Nat.reduceEqDiff, Nat.reduceBEq, Nat.reduceBNe, Nat.reduceLT, Nat.reduceLeDiff, reduceCtorEq, Op.operands, flat_take_succ, flat_take_all]
  refine ⟨fun h => ?_, fun i k x hki hxi ks' xs' l hf => ?_⟩
  · have hr : rest = [] := by simpa using h
    subst hr
    simp (maxSteps := 400000) (disch := first | omega | exact okT rfl | simp only [push_cast]) only [push_cast, ↓ite_cnd, ↓reduceIte, Nat.reduceAdd, Nat.reduceMul, Nat.reduceSub, Nat.reduceEqDiff, Nat.reduceBEq, Nat.reduceBNe, Nat.reduceLT, Nat.reduceLeDiff, reduceCtorEq, Op.operands, flat_take_succ, flat_take_all]
    refine sort_call (zs := acc) (ap := true) rfl (by simp at hpl; omega) ?_
    simp (maxSteps := 400000) (disch := first | omega | exact okT rfl | simp only [push_cast]) only [push_cast, ↓ite_cnd, ↓reduceIte, Nat.reduceAdd, Nat.reduceMul, Nat.reduceSub, Nat.reduceEqDiff, Nat.reduceBEq, Nat.reduceBNe, Nat.reduceLT, Nat.reduceLeDiff, reduceCtorEq, Op.operands, flat_take_succ, flat_take_all]
    have hal : acc.length = ks.length := by simpa using hpl
    have hpp : acc.Perm ks := by simpa using hp
    have hs := sortB_perm hpp
    have e1 : List.take acc.length (flat scell (sortB acc)) = flat scell (sortB acc) := List.take_of_length_le (by rw [flat_length scell_length, sortB_length]; omega)
    rw [Cnd_T (by rw [sortB_length]; omega), e1, hs, hal]
    simp (maxSteps := 400000) (disch := first | omega | exact okT rfl | simp only [push_cast]) only [push_cast, ↓ite_cnd, ↓reduceIte, Nat.reduceAdd, Nat.reduceMul, Nat.reduceSub, Nat.reduceEqDiff, Nat.reduceBEq, Nat.reduceBNe, Nat.reduceLT, Nat.reduceLeDiff, reduceCtorEq, Op.operands, flat_take_succ, flat_take_all]
  · simp [Mem.find, lk] at hf
    obtain ⟨rfl, rfl, rfl⟩ := hf
    rw [List.getElem?_map] at hki
    cases hri : rest[i]? with
    | none => rw [hri] at hki; cases hki
    | some nm =>
    rw [hri] at hki
    simp only [Option.map_some, Option.some.injEq] at hki
    subst hki
    have hil : i < rest.length := (List.getElem?_eq_some_iff.1 hri).1
    have hxd := idfL_get hyi hxi
    simp (maxSteps := 400000) (disch := first | omega | exact okT rfl | simp only [push_cast]) only [push_cast, ↓ite_cnd, ↓reduceIte, Nat.reduceAdd, Nat.reduceMul, Nat.reduceSub, Nat.reduceEqDiff, Nat.reduceBEq, Nat.reduceBNe, Nat.reduceLT, Nat.reduceLeDiff, reduceCtorEq, Op.operands, flat_take_succ, flat_take_all]
    refine ⟨(some (.string nm, x), rest.eraseIdx i, ys.eraseIdx i, acc ++ [nm]), ⟨by simp only; rw [List.length_eraseIdx, List.length_eraseIdx, hyl], perm_move hp hri, idfL_erase hyi i, fun p h => by cases h; exact hxd⟩, ?_, ?_⟩
    · simp only; rw [List.length_eraseIdx, if_pos hil]; omega
    refine Ent.intro [(0, 0), (1, 61)] ?_ ?_ ?_ rfl (Nat.zero_le _) (Nat.zero_le _)
    · simp [EntE, lk, renA, rho']
    · simp [EntO, lk, renO, rho', renL_idf _ _ (idfL_erase hyi i), renA_idf _ x hxd, eraseIdx_mapL, flat_snoc, scell, renL_idf, idfL_append, idfL_flat idfL_scell, idfL, idf]
    · simp [injOn, rho', lk]
theorem c34 (ks : List ByteArray) (xs : List AV) (hx : idfL xs = true) (hl : xs.length = ks.length) (hk : ks.length ≤ 4194304) : PCall Try.prog [] 34 [.mv .strK (ks.map Value.string) xs] (.seq ks.length 1 (flat scell (sortB ks))) := by
  refine PCall.start Try.func34 rfl (by kernel_rfl) rfl Try.ntmps34 fol (by kernel_rfl) (by simp [idfL, idf, hx]) (by simp [idf, idfL_flat idfL_scell]) ?_
  simp only [List.zipIdx_cons, List.zipIdx_nil, List.map_cons, List.map_nil, Nat.zero_add]
  simp (maxSteps := 400000) (disch := first | omega | exact okT rfl | simp only [push_cast]) only [push_cast, ↓ite_cnd, ↓reduceIte, Nat.reduceAdd, Nat.reduceMul, Nat.reduceSub, Nat.reduceEqDiff, Nat.reduceBEq, Nat.reduceBNe, Nat.reduceLT, Nat.reduceLeDiff, reduceCtorEq, Op.operands, flat_take_succ, flat_take_all, List.length_map, Int.toNat_zero]
  refine ev_loopI (ι := Option (Value × AV) × List ByteArray × List AV × List ByteArray) (fun s => ⟨[(9, .it 0), (3, .sl 1 0 s.2.2.2.length 1)], ⟨[(0, .miter s.1 (s.2.1.map Value.string) s.2.2.1), (1, .cells 9 (flat scell s.2.2.2) true)], 2, 2, 0⟩⟩)
    (fun s => s.2.2.1.length = s.2.1.length ∧ (s.2.2.2 ++ s.2.1).Perm ks ∧ idfL s.2.2.1 = true ∧ ∀ p, s.1 = some p → idf p.2 = true) (fun s => s.2.1.length) (none, ks, xs, []) ⟨hl, by simp, hx, fun p h => by cases h⟩ ?_ ?_
  · refine Ent.intro [(0, 51), (1, 28)] ?_ ?_ ?_ rfl (Nat.zero_le _) (Nat.zero_le _)
    · simp [EntE, lk, renA, rho']
    · simp [EntO, lk, renO, rho', renL, flat, renL_idf _ xs hx]
    · simp [injOn, rho', lk]
  rintro ⟨last, rest, ys, acc⟩ ⟨hyl, hp, hyi, hli⟩
  dsimp only at hyl hp hyi hli ⊢
  have hpl := hp.length_eq
  simp only [List.length_append] at hpl
  simp (maxSteps := 400000) (disch := first | omega | exact okT rfl | simp only [push_cast]) only [push_cast, ↓ite_cnd, ↓reduceIte, Nat.reduceAdd, Nat.reduceMul, Nat.reduceSub, Nat.reduceEqDiff, Nat.reduceBEq, Nat.reduceBNe, Nat.reduceLT, Nat.reduceLeDiff, reduceCtorEq, Op.operands, flat_take_succ, flat_take_all]
  refine ⟨fun h => ?_, fun i k x hki hxi ks' xs' l hf => ?_⟩
  · have hr : rest = [] := by simpa using h
    subst hr
    simp (maxSteps := 400000) (disch := first | omega | exact okT rfl | simp only [push_cast]) only [push_cast, ↓ite_cnd, ↓reduceIte, Nat.reduceAdd, Nat.reduceMul, Nat.reduceSub, Nat.reduceEqDiff, Nat.reduceBEq, Nat.reduceBNe, Nat.reduceLT, Nat.reduceLeDiff, reduceCtorEq, Op.operands, flat_take_succ, flat_take_all]
    refine sort_call (zs := acc) (ap := true) rfl (by simp at hpl; omega) ?_
    simp (maxSteps := 400000) (disch := first | omega | exact okT rfl | simp only [push_cast]) only [push_cast, ↓ite_cnd, ↓reduceIte, Nat.reduceAdd, Nat.reduceMul, Nat.reduceSub, Nat.reduceEqDiff, Nat.reduceBEq, Nat.reduceBNe, Nat.reduceLT, Nat.reduceLeDiff, reduceCtorEq, Op.operands, flat_take_succ, flat_take_all]
    have hal : acc.length = ks.length := by simpa using hpl
    have hpp : acc.Perm ks := by simpa using hp
    have hs := sortB_perm hpp
    have e1 : List.take acc.length (flat scell (sortB acc)) = flat scell (sortB acc) := List.take_of_length_le (by rw [flat_length scell_length, sortB_length]; omega)
    rw [Cnd_T (by rw [sortB_length]; omega), e1, hs, hal]
    simp (maxSteps := 400000) (disch := first | omega | exact okT rfl | simp only [push_cast]) only [push_cast, ↓ite_cnd, ↓reduceIte, Nat.reduceAdd, Nat.reduceMul, Nat.reduceSub, Nat.reduceEqDiff, Nat.reduceBEq, Nat.reduceBNe, Nat.reduceLT, Nat.reduceLeDiff, reduceCtorEq, Op.operands, flat_take_succ, flat_take_all]
  · simp [Mem.find, lk] at hf
    obtain ⟨rfl, rfl, rfl⟩ := hf
    rw [List.getElem?_map] at hki
    cases hri : rest[i]? with
    | none => rw [hri] at hki; cases hki
    | some nm =>
    rw [hri] at hki
    simp only [Option.map_some, Option.some.injEq] at hki
    subst hki
    have hil : i < rest.length := (List.getElem?_eq_some_iff.1 hri).1
    have hxd := idfL_get hyi hxi
    simp (maxSteps := 400000) (disch := first | omega | exact okT rfl | simp only [push_cast]) only [push_cast, ↓ite_cnd, ↓reduceIte, Nat.reduceAdd, Nat.reduceMul, Nat.reduceSub, Nat.reduceEqDiff, Nat.reduceBEq, Nat.reduceBNe, Nat.reduceLT, Nat.reduceLeDiff, reduceCtorEq, Op.operands, flat_take_succ, flat_take_all]
    refine ⟨(some (.string nm, x), rest.eraseIdx i, ys.eraseIdx i, acc ++ [nm]), ⟨by simp only; rw [List.length_eraseIdx, List.length_eraseIdx, hyl], perm_move hp hri, idfL_erase hyi i, fun p h => by cases h; exact hxd⟩, ?_, ?_⟩
    · simp only; rw [List.length_eraseIdx, if_pos hil]; omega
    refine Ent.intro [(0, 0), (1, 61)] ?_ ?_ ?_ rfl (Nat.zero_le _) (Nat.zero_le _)
    · simp [EntE, lk, renA, rho']
    · simp [EntO, lk, renO, rho', renL_idf _ _ (idfL_erase hyi i), renA_idf _ x hxd, eraseIdx_mapL, flat_snoc, scell, renL_idf, idfL_append, idfL_flat idfL_scell, idfL, idf]
    · simp [injOn, rho', lk]
theorem c35 (ks : List ByteArray) (xs : List AV) (hx : idfL xs = true) (hl : xs.length = ks.length) (hk : ks.length ≤ 4194304) : PCall Try.prog [] 35 [.mv .strK (ks.map Value.string) xs] (.seq ks.length 1 (flat scell (sortB ks))) := by
  refine PCall.start Try.func35 rfl (by kernel_rfl) rfl Try.ntmps35 fol (by kernel_rfl) (by simp [idfL, idf, hx]) (by simp [idf, idfL_flat idfL_scell]) ?_
  simp only [List.zipIdx_cons, List.zipIdx_nil, List.map_cons, List.map_nil, Nat.zero_add]
  simp (maxSteps := 400000) (disch := first | omega | exact okT rfl | simp only [push_cast]) only [push_cast, ↓ite_cnd, ↓reduceIte, Nat.reduceAdd, Nat.reduceMul, Nat.reduceSub, Nat.reduceEqDiff, Nat.reduceBEq, Nat.reduceBNe, Nat.reduceLT, Nat.reduceLeDiff, reduceCtorEq, Op.operands, flat_take_succ, flat_take_all, List.length_map, Int.toNat_zero]
  refine ev_loopI (ι := Option (Value × AV) × List ByteArray × List AV × List ByteArray) (fun s => ⟨[(9, .it 0), (3, .sl 1 0 s.2.2.2.length 1)], ⟨[(0, .miter s.1 (s.2.1.map Value.string) s.2.2.1), (1, .cells 9 (flat scell s.2.2.2) true)], 2, 2, 0⟩⟩)
    (fun s => s.2.2.1.length = s.2.1.length ∧ (s.2.2.2 ++ s.2.1).Perm ks ∧ idfL s.2.2.1 = true ∧ ∀ p, s.1 = some p → idf p.2 = true) (fun s => s.2.1.length) (none, ks, xs, []) ⟨hl, by simp, hx, fun p h => by cases h⟩ ?_ ?_
  · refine Ent.intro [(0, 51), (1, 28)] ?_ ?_ ?_ rfl (Nat.zero_le _) (Nat.zero_le _)
    · simp [EntE, lk, renA, rho']
    · simp [EntO, lk, renO, rho', renL, flat, renL_idf _ xs hx]
    · simp [injOn, rho', lk]
  rintro ⟨last, rest, ys, acc⟩ ⟨hyl, hp, hyi, hli⟩
  dsimp only at hyl hp hyi hli ⊢
  have hpl := hp.length_eq
  simp only [List.length_append] at hpl
  simp (maxSteps := 400000) (disch := first | omega | exact okT rfl | simp only [push_cast]) only [push_cast, ↓ite_cnd, ↓reduceIte, Nat.reduceAdd, Nat.reduceMul, Nat.reduceSub, Nat.reduceEqDiff, Nat.reduceBEq, Nat.reduceBNe, Nat.reduceLT, Nat.reduceLeDiff, reduceCtorEq, Op.operands, flat_take_succ, flat_take_all]
  refine ⟨fun h => ?_, fun i k x hki hxi ks' xs' l hf => ?_⟩
  · have hr : rest = [] := by simpa using h
    subst hr
    simp (maxSteps := 400000) (disch := first | omega | exact okT rfl | simp only [push_cast]) only [push_cast, ↓ite_cnd, ↓reduceIte, Nat.reduceAdd, Nat.reduceMul, Nat.reduceSub, Nat.reduceEqDiff, Nat.reduceBEq, Nat.reduceBNe, Nat.reduceLT, Nat.reduceLeDiff, reduceCtorEq, Op.operands, flat_take_succ, flat_take_all]
    refine sort_call (zs := acc) (ap := true) rfl (by simp at hpl; omega) ?_
    simp (maxSteps := 400000) (disch := first | omega | exact okT rfl | simp only [push_cast]) only [push_cast, ↓ite_cnd, ↓reduceIte, Nat.reduceAdd, Nat.reduceMul, Nat.reduceSub, Nat.reduceEqDiff, Nat.reduceBEq, Nat.reduceBNe, Nat.reduceLT, Nat.reduceLeDiff, reduceCtorEq, Op.operands, flat_take_succ, flat_take_all]
    have hal : acc.length = ks.length := by simpa using hpl
    have hpp : acc.Perm ks := by simpa using hp
    have hs := sortB_perm hpp
    have e1 : List.take acc.length (flat scell (sortB acc)) = flat scell (sortB acc) := List.take_of_length_le (by rw [flat_length scell_length, sortB_length]; omega)
    rw [Cnd_T (by rw [sortB_length]; omega), e1, hs, hal]
    simp (maxSteps := 400000) (disch := first | omega | exact okT rfl | simp only [push_cast]) only [push_cast, ↓ite_cnd, ↓reduceIte, Nat.reduceAdd, Nat.reduceMul, Nat.reduceSub, Nat.reduceEqDiff, Nat.reduceBEq, Nat.reduceBNe, Nat.reduceLT, Nat.reduceLeDiff, reduceCtorEq, Op.operands, flat_take_succ, flat_take_all]
  · simp [Mem.find, lk] at hf
    obtain ⟨rfl, rfl, rfl⟩ := hf
    rw [List.getElem?_map] at hki
    cases hri : rest[i]? with
    | none => rw [hri] at hki; cases hki
    | some nm =>
    rw [hri] at hki
    simp only [Option.map_some, Option.some.injEq] at hki
    subst hki
    have hil : i < rest.length := (List.getElem?_eq_some_iff.1 hri).1
    have hxd := idfL_get hyi hxi
    simp (maxSteps := 400000) (disch := first | omega | exact okT rfl | simp only [push_cast]) only [push_cast, ↓ite_cnd, ↓reduceIte, Nat.reduceAdd, Nat.reduceMul, Nat.reduceSub, Nat.reduceEqDiff, Nat.reduceBEq, Nat.reduceBNe, Nat.reduceLT, Nat.reduceLeDiff, reduceCtorEq, Op.operands, flat_take_succ, flat_take_all]
    refine ⟨(some (.string nm, x), rest.eraseIdx i, ys.eraseIdx i, acc ++ [nm]), ⟨by simp only; rw [List.length_eraseIdx, List.length_eraseIdx, hyl], perm_move hp hri, idfL_erase hyi i, fun p h => by cases h; exact hxd⟩, ?_, ?_⟩
    · simp only; rw [List.length_eraseIdx, if_pos hil]; omega
    refine Ent.intro [(0, 0), (1, 61)] ?_ ?_ ?_ rfl (Nat.zero_le _) (Nat.zero_le _)
    · simp [EntE, lk, renA, rho']
    · simp [EntO, lk, renO, rho', renL_idf _ _ (idfL_erase hyi i), renA_idf _ x hxd, eraseIdx_mapL, flat_snoc, scell, renL_idf, idfL_append, idfL_flat idfL_scell, idfL, idf]
    · simp [injOn, rho', lk]
end Go.AW
