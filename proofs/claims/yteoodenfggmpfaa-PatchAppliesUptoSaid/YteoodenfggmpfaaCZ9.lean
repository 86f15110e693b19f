/- Contracts: one patch, as the document says. -/
import Derived.Test.YteoodenfggmpfaaCZ8
namespace Go.AW
open Proofs

set_option linter.unusedSimpArgs false
set_option linter.unusedVariables false
set_option maxRecDepth 100000
set_option maxHeartbeats 8000000

def charsF (l : List TextV) (name : ByteArray) : ByteArray := match l.find? (fun t => decide (t.name = name)) with
  | some t => t.chars
  | none => ⟨#[]⟩
theorem charsF_at {l : List TextV} {name : ByteArray} {i : Nat} (hi : i < l.length) (h : ∀ j (hj : j < i), (l[j]'(by omega)).name ≠ name) (he : l[i].name = name) : charsF l name = l[i].chars := by
  have : l.find? (fun t => decide (t.name = name)) = some l[i] := by
    rw [List.find?_eq_some_iff_getElem]
    exact ⟨by simp [he], i, hi, rfl, fun j hj => by simpa using h j hj⟩
  simp only [charsF, this]
theorem charsF_no {l : List TextV} {name : ByteArray} (h : ∀ j (hj : j < l.length), l[j].name ≠ name) : charsF l name = ⟨#[]⟩ := by
  have : l.find? (fun t => decide (t.name = name)) = none := by
    rw [List.find?_eq_none]
    intro x hx
    obtain ⟨j, hj, rfl⟩ := List.getElem_of_mem hx
    simpa using h j hj
  simp only [charsF, this]

theorem c39 (d : DocV) (hd : DocOK d) (name : ByteArray) : PCall Try.prog [] 39 [.agg (docL d), .v (.string name)] (.v (.string (charsF d.texts name))) := by
  have hlt := hd.lt
  refine PCall.start Try.func39 rfl (by kernel_rfl) rfl Try.ntmps39 fol (by kernel_rfl) (by simp [idfL, idf, idfL_docL]) rfl ?_
  simp only [List.zipIdx_cons, List.zipIdx_nil, List.map_cons, List.map_nil, Nat.zero_add]
  simp (maxSteps := 400000) (disch := first | omega | exact okT rfl | simp only [push_cast]) only [push_cast, ↓ite_cnd, ↓reduceIte, Nat.reduceAdd, Nat.reduceMul, Nat.reduceSub, Nat.reduceEqDiff, Nat.reduceBEq, Nat.reduceBNe, Nat.reduceLT, Nat.reduceLeDiff, reduceCtorEq, Op.operands, flat_take_succ, flat_take_all]
  refine ev_loopI (ι := Nat) (fun i => ⟨[(1, .v (.string name)), (2, .ptr 0 0), (5, .v (.int .i64 i))], ⟨[(0, .cells 26 (docL d) false)], 1, 1, 0⟩⟩) (fun i => i ≤ d.texts.length ∧ ∀ j, (hj : j < i) → (h : j < d.texts.length) → d.texts[j].name ≠ name) (fun i => d.texts.length - i) 0 ⟨Nat.zero_le _, fun j hj => absurd hj (Nat.not_lt_zero _)⟩ ?_ ?_
  · refine Ent.freeze [(0, 2)] ?_ ?_ rfl rfl rfl
    · simp (maxSteps := 400000) (disch := first | omega | exact okT rfl | simp only [push_cast]) only [push_cast, ↓ite_cnd, ↓reduceIte, Nat.reduceAdd, Nat.reduceMul, Nat.reduceSub, Nat.reduceEqDiff, Nat.reduceBEq, Nat.reduceBNe, Nat.reduceLT, Nat.reduceLeDiff, reduceCtorEq, Op.operands, flat_take_succ, flat_take_all]
    · simp (maxSteps := 400000) (disch := first | omega | exact okT rfl | simp only [push_cast]) only [push_cast, ↓ite_cnd, ↓reduceIte, Nat.reduceAdd, Nat.reduceMul, Nat.reduceSub, Nat.reduceEqDiff, Nat.reduceBEq, Nat.reduceBNe, Nat.reduceLT, Nat.reduceLeDiff, reduceCtorEq, Op.operands, flat_take_succ, flat_take_all]
      try rfl
  intro i ⟨hi, hall⟩
  simp (maxSteps := 400000) (disch := first | omega | exact okT rfl | simp only [push_cast]) only [push_cast, ↓ite_cnd, ↓reduceIte, Nat.reduceAdd, Nat.reduceMul, Nat.reduceSub, Nat.reduceEqDiff, Nat.reduceBEq, Nat.reduceBNe, Nat.reduceLT, Nat.reduceLeDiff, reduceCtorEq, Op.operands, flat_take_succ, flat_take_all]
  refine ⟨fun h4 => ?_, fun h4 => ?_⟩
  · have hi1 : i < d.texts.length := by omega
    simp (maxSteps := 400000) (disch := first | omega | exact okT rfl | simp only [push_cast]) only [push_cast, ↓ite_cnd, ↓reduceIte, Nat.reduceAdd, Nat.reduceMul, Nat.reduceSub, Nat.reduceEqDiff, Nat.reduceBEq, Nat.reduceBNe, Nat.reduceLT, Nat.reduceLeDiff, reduceCtorEq, Op.operands, flat_take_succ, flat_take_all]
    refine ⟨fun h5 => ?_, fun h5 => ?_⟩
    · simp (maxSteps := 400000) (disch := first | omega | exact okT rfl | simp only [push_cast]) only [push_cast, ↓ite_cnd, ↓reduceIte, Nat.reduceAdd, Nat.reduceMul, Nat.reduceSub, Nat.reduceEqDiff, Nat.reduceBEq, Nat.reduceBNe, Nat.reduceLT, Nat.reduceLeDiff, reduceCtorEq, Op.operands, flat_take_succ, flat_take_all]
      rw [charsF_at hi1 (fun j hj => hall j hj (by omega)) h5]
    · simp (maxSteps := 400000) (disch := first | omega | exact okT rfl | simp only [push_cast]) only [push_cast, ↓ite_cnd, ↓reduceIte, Nat.reduceAdd, Nat.reduceMul, Nat.reduceSub, Nat.reduceEqDiff, Nat.reduceBEq, Nat.reduceBNe, Nat.reduceLT, Nat.reduceLeDiff, reduceCtorEq, Op.operands, flat_take_succ, flat_take_all]
      refine ⟨i + 1, ⟨by show i + 1 ≤ d.texts.length; omega, fun j hj h => ?_⟩, by show d.texts.length - (i + 1) < d.texts.length - i; omega, ?_⟩
      · rcases Nat.lt_or_ge j i with h6 | h6
        · exact hall j h6 h
        · obtain rfl : j = i := by omega
          exact h5
      refine Ent.freeze [(0, 0)] ?_ ?_ rfl rfl rfl
      · simp (maxSteps := 400000) (disch := first | omega | exact okT rfl | simp only [push_cast]) only [push_cast, ↓ite_cnd, ↓reduceIte, Nat.reduceAdd, Nat.reduceMul, Nat.reduceSub, Nat.reduceEqDiff, Nat.reduceBEq, Nat.reduceBNe, Nat.reduceLT, Nat.reduceLeDiff, reduceCtorEq, Op.operands, flat_take_succ, flat_take_all]
      · simp (maxSteps := 400000) (disch := first | omega | exact okT rfl | simp only [push_cast]) only [push_cast, ↓ite_cnd, ↓reduceIte, Nat.reduceAdd, Nat.reduceMul, Nat.reduceSub, Nat.reduceEqDiff, Nat.reduceBEq, Nat.reduceBNe, Nat.reduceLT, Nat.reduceLeDiff, reduceCtorEq, Op.operands, flat_take_succ, flat_take_all]
        try rfl
  · have hi1 : i = d.texts.length := by omega
    subst hi1
    simp (maxSteps := 400000) (disch := first | omega | exact okT rfl | simp only [push_cast]) only [push_cast, ↓ite_cnd, ↓reduceIte, Nat.reduceAdd, Nat.reduceMul, Nat.reduceSub, Nat.reduceEqDiff, Nat.reduceBEq, Nat.reduceBNe, Nat.reduceLT, Nat.reduceLeDiff, reduceCtorEq, Op.operands, flat_take_succ, flat_take_all]
    rw [charsF_no (fun j hj => hall j hj hj)]

theorem charsF_le {d : DocV} (hd : DocOK d) (name : ByteArray) : (charsF d.texts name).size ≤ 1048576 := by
  unfold charsF
  split
  · rename_i t ht
    exact hd.ct t (List.mem_of_find?_eq_some ht)
  · exact Nat.zero_le _
theorem snapArgs_ci {f : Nat → Option AObj} {x : AV} {xs ys : List AV} {ids : List Nat} (h : idf x = true) (h2 : snapArgs f xs = some (ys, ids)) : snapArgs f (x :: xs) = some (x :: ys, ids) := by
  simp [snapArgs, snap_idf h, h2]

/-- What a patch does to a document; none: it can't be. -/
def oneF (d : DocV) (p : PatchV) : Option DocV :=
  if nameB p.name = false then none
  else if p.kind = 1 then (if p.gone = decide (p.values.length = 0) then some { d with entries := insL (·.key) p.name ⟨p.name, p.values⟩ (decide (p.values.length = 0)) d.entries } else none)
  else if p.kind = 2 then (if p.gone = true ∧ p.by_ ≠ 0 then none else some { d with counts := insL (·.key) p.name ⟨p.name, p.by_⟩ p.gone d.counts })
  else if p.kind = 3 then
    (if p.gone = true ∨ p.at_ < 0 ∨ ((charsF d.texts p.name).size : Int) < p.at_ ∨ p.cut < 0 ∨ ((charsF d.texts p.name).size : Int) - p.at_ < p.cut then none
    else some { d with texts := insL (·.name) p.name ⟨p.name, (charsF d.texts p.name).extract 0 p.at_.toNat ++ p.put ++ (charsF d.texts p.name).extract (p.at_.toNat + p.cut.toNat) (charsF d.texts p.name).size⟩ (decide ((charsF d.texts p.name).extract 0 p.at_.toNat ++ p.put ++ (charsF d.texts p.name).extract (p.at_.toNat + p.cut.toNat) (charsF d.texts p.name).size = ⟨#[]⟩)) d.texts })
  else none
structure PatOK (p : PatchV) : Prop where
  n : p.name.size ≤ 1048576
  v : p.values.length ≤ 1048576
  s : p.put.size ≤ 1048576
  c0 : -9223372036854775808 ≤ p.cut
  c1 : p.cut ≤ 9223372036854775807
  a0 : -9223372036854775808 ≤ p.at_
  a1 : p.at_ ≤ 9223372036854775807

theorem c19 (d : DocV) (hd : DocOK d) (p : PatchV) (hp : PatOK p) : PCall Try.prog [] 19 [.agg (docL d), .agg (pcell p)] (.tup [.agg (docL ((oneF d p).getD d)), .v (.bool (oneF d p).isSome)]) := by
  refine PCall.start Try.func19 rfl (by kernel_rfl) rfl Try.ntmps19 fol (by kernel_rfl) (by simp [idfL, idf, idfL_docL, idfL_pcell]) (by simp [idfL, idf, idfL_docL]) ?_
  simp only [List.zipIdx_cons, List.zipIdx_nil, List.map_cons, List.map_nil, Nat.zero_add]
  simp (maxSteps := 400000) (disch := first | omega | exact okT rfl | simp only [push_cast]) only [push_cast, ↓ite_cnd, ↓reduceIte, Nat.reduceAdd, Nat.reduceMul, Nat.reduceSub, Nat.reduceEqDiff, Nat.reduceBEq, Nat.reduceBNe, Nat.reduceLT, Nat.reduceLeDiff, reduceCtorEq, Op.operands, flat_take_succ, flat_take_all]
  refine PCall.useV (c36 _ hp.n) ?_
  cases hn : nameB p.name with
  | false =>
    have e : oneF d p = none := by simp [oneF, hn]
    simp (maxSteps := 400000) (disch := first | omega | exact okT rfl | simp only [push_cast]) only [push_cast, ↓ite_cnd, ↓reduceIte, Nat.reduceAdd, Nat.reduceMul, Nat.reduceSub, Nat.reduceEqDiff, Nat.reduceBEq, Nat.reduceBNe, Nat.reduceLT, Nat.reduceLeDiff, reduceCtorEq, Op.operands, flat_take_succ, flat_take_all, Bool.not_false]
    try simp [e]
  | true =>
    simp (maxSteps := 400000) (disch := first | omega | exact okT rfl | simp only [push_cast]) only [push_cast, ↓ite_cnd, ↓reduceIte, Nat.reduceAdd, Nat.reduceMul, Nat.reduceSub, Nat.reduceEqDiff, Nat.reduceBEq, Nat.reduceBNe, Nat.reduceLT, Nat.reduceLeDiff, reduceCtorEq, Op.operands, flat_take_succ, flat_take_all, Bool.not_true]
    refine ⟨fun k1 => ?_, fun k1 => ?_⟩
    · have hv := hp.v
      simp (maxSteps := 400000) (disch := first | omega | exact okT rfl | simp only [push_cast]) only [push_cast, ↓ite_cnd, ↓reduceIte, Nat.reduceAdd, Nat.reduceMul, Nat.reduceSub, Nat.reduceEqDiff, Nat.reduceBEq, Nat.reduceBNe, Nat.reduceLT, Nat.reduceLeDiff, reduceCtorEq, Op.operands, flat_take_succ, flat_take_all]
      refine ⟨fun h5 => ?_, fun h5 => ?_⟩
      · have h5' : ¬ p.gone = decide (p.values.length = 0) := by simpa using h5
        have e : oneF d p = none := by unfold oneF; rw [if_neg (by rw [hn]; simp), if_pos k1, if_neg h5']
        simp (maxSteps := 400000) (disch := first | omega | exact okT rfl | simp only [push_cast]) only [push_cast, ↓ite_cnd, ↓reduceIte, Nat.reduceAdd, Nat.reduceMul, Nat.reduceSub, Nat.reduceEqDiff, Nat.reduceBEq, Nat.reduceBNe, Nat.reduceLT, Nat.reduceLeDiff, reduceCtorEq, Op.operands, flat_take_succ, flat_take_all]
        try simp [e]
      · have h5' : p.gone = decide (p.values.length = 0) := by simpa using h5
        have e : oneF d p = some { d with entries := insL (·.key) p.name ⟨p.name, p.values⟩ (decide (p.values.length = 0)) d.entries } := by unfold oneF; rw [if_neg (by rw [hn]; simp), if_pos k1, if_pos h5']
        simp (maxSteps := 400000) (disch := first | omega | exact okT rfl | simp only [push_cast]) only [push_cast, ↓ite_cnd, ↓reduceIte, Nat.reduceAdd, Nat.reduceMul, Nat.reduceSub, Nat.reduceEqDiff, Nat.reduceBEq, Nat.reduceBNe, Nat.reduceLT, Nat.reduceLeDiff, reduceCtorEq, Op.operands, flat_take_succ, flat_take_all]
        refine evDC2.useF (u := [(560, .dead)]) (c37 d hd p.name p.values hv) rfl (snapArgs_ci (by simp [idf, idfL_docL]) (snapArgs_ci rfl (snap_sl1 (o := 560) rfl rfl))) rfl rfl rfl ?_
        simp (maxSteps := 400000) (disch := first | omega | exact okT rfl | simp only [push_cast]) only [push_cast, ↓ite_cnd, ↓reduceIte, Nat.reduceAdd, Nat.reduceMul, Nat.reduceSub, Nat.reduceEqDiff, Nat.reduceBEq, Nat.reduceBNe, Nat.reduceLT, Nat.reduceLeDiff, reduceCtorEq, Op.operands, flat_take_succ, flat_take_all, Call.operands]
        simp [e]
    · simp (maxSteps := 400000) (disch := first | omega | exact okT rfl | simp only [push_cast]) only [push_cast, ↓ite_cnd, ↓reduceIte, Nat.reduceAdd, Nat.reduceMul, Nat.reduceSub, Nat.reduceEqDiff, Nat.reduceBEq, Nat.reduceBNe, Nat.reduceLT, Nat.reduceLeDiff, reduceCtorEq, Op.operands, flat_take_succ, flat_take_all]
      refine ⟨fun k2 => ?_, fun k2 => ?_⟩
      · simp (maxSteps := 400000) (disch := first | omega | exact okT rfl | simp only [push_cast]) only [push_cast, ↓ite_cnd, ↓reduceIte, Nat.reduceAdd, Nat.reduceMul, Nat.reduceSub, Nat.reduceEqDiff, Nat.reduceBEq, Nat.reduceBNe, Nat.reduceLT, Nat.reduceLeDiff, reduceCtorEq, Op.operands, flat_take_succ, flat_take_all]
        cases hg : p.gone with
        | true =>
          simp (maxSteps := 400000) (disch := first | omega | exact okT rfl | simp only [push_cast]) only [push_cast, ↓ite_cnd, ↓reduceIte, Nat.reduceAdd, Nat.reduceMul, Nat.reduceSub, Nat.reduceEqDiff, Nat.reduceBEq, Nat.reduceBNe, Nat.reduceLT, Nat.reduceLeDiff, reduceCtorEq, Op.operands, flat_take_succ, flat_take_all]
          refine ⟨fun h5 => ?_, fun h5 => ?_⟩
          · have e : oneF d p = none := by unfold oneF; rw [if_neg (by rw [hn]; simp), if_neg k1, if_pos k2, if_pos ⟨hg, h5⟩]
            simp (maxSteps := 400000) (disch := first | omega | exact okT rfl | simp only [push_cast]) only [push_cast, ↓ite_cnd, ↓reduceIte, Nat.reduceAdd, Nat.reduceMul, Nat.reduceSub, Nat.reduceEqDiff, Nat.reduceBEq, Nat.reduceBNe, Nat.reduceLT, Nat.reduceLeDiff, reduceCtorEq, Op.operands, flat_take_succ, flat_take_all]
            try simp [e]
          · have e : oneF d p = some { d with counts := insL (·.key) p.name ⟨p.name, p.by_⟩ p.gone d.counts } := by unfold oneF; rw [if_neg (by rw [hn]; simp), if_neg k1, if_pos k2, if_neg (fun h => h.2 h5)]
            simp (maxSteps := 400000) (disch := first | omega | exact okT rfl | simp only [push_cast]) only [push_cast, ↓ite_cnd, ↓reduceIte, Nat.reduceAdd, Nat.reduceMul, Nat.reduceSub, Nat.reduceEqDiff, Nat.reduceBEq, Nat.reduceBNe, Nat.reduceLT, Nat.reduceLeDiff, reduceCtorEq, Op.operands, flat_take_succ, flat_take_all]
            refine PCall.useV (c38 d hd p.name p.by_ p.gone) ?_
            simp (maxSteps := 400000) (disch := first | omega | exact okT rfl | simp only [push_cast]) only [push_cast, ↓ite_cnd, ↓reduceIte, Nat.reduceAdd, Nat.reduceMul, Nat.reduceSub, Nat.reduceEqDiff, Nat.reduceBEq, Nat.reduceBNe, Nat.reduceLT, Nat.reduceLeDiff, reduceCtorEq, Op.operands, flat_take_succ, flat_take_all]
            simp [e]
        | false =>
          have e : oneF d p = some { d with counts := insL (·.key) p.name ⟨p.name, p.by_⟩ p.gone d.counts } := by simp [oneF, hn, k1, k2, hg]
          simp (maxSteps := 400000) (disch := first | omega | exact okT rfl | simp only [push_cast]) only [push_cast, ↓ite_cnd, ↓reduceIte, Nat.reduceAdd, Nat.reduceMul, Nat.reduceSub, Nat.reduceEqDiff, Nat.reduceBEq, Nat.reduceBNe, Nat.reduceLT, Nat.reduceLeDiff, reduceCtorEq, Op.operands, flat_take_succ, flat_take_all]
          refine PCall.useV (c38 d hd p.name p.by_ p.gone) ?_
          simp (maxSteps := 400000) (disch := first | omega | exact okT rfl | simp only [push_cast]) only [push_cast, ↓ite_cnd, ↓reduceIte, Nat.reduceAdd, Nat.reduceMul, Nat.reduceSub, Nat.reduceEqDiff, Nat.reduceBEq, Nat.reduceBNe, Nat.reduceLT, Nat.reduceLeDiff, reduceCtorEq, Op.operands, flat_take_succ, flat_take_all]
          simp [e, hg]
      · simp (maxSteps := 400000) (disch := first | omega | exact okT rfl | simp only [push_cast]) only [push_cast, ↓ite_cnd, ↓reduceIte, Nat.reduceAdd, Nat.reduceMul, Nat.reduceSub, Nat.reduceEqDiff, Nat.reduceBEq, Nat.reduceBNe, Nat.reduceLT, Nat.reduceLeDiff, reduceCtorEq, Op.operands, flat_take_succ, flat_take_all]
        refine ⟨fun k3 => ?_, fun k3 => ?_⟩
        · simp (maxSteps := 400000) (disch := first | omega | exact okT rfl | simp only [push_cast]) only [push_cast, ↓ite_cnd, ↓reduceIte, Nat.reduceAdd, Nat.reduceMul, Nat.reduceSub, Nat.reduceEqDiff, Nat.reduceBEq, Nat.reduceBNe, Nat.reduceLT, Nat.reduceLeDiff, reduceCtorEq, Op.operands, flat_take_succ, flat_take_all]
          refine PCall.useV (c39 d hd p.name) ?_
          have hsz := charsF_le hd p.name
          have b1 := hp.a0
          have b2 := hp.a1
          have b3 := hp.c0
          have b4 := hp.c1
          have b5 := hp.s
          generalize hcs : charsF d.texts p.name = cs at hsz
          have bad : (p.gone = true ∨ p.at_ < 0 ∨ ((charsF d.texts p.name).size : Int) < p.at_ ∨ p.cut < 0 ∨ ((charsF d.texts p.name).size : Int) - p.at_ < p.cut) → oneF d p = none := fun h => by
            unfold oneF; rw [if_neg (by rw [hn]; simp), if_neg k1, if_neg k2, if_pos k3, if_pos h]
          have good : ¬ (p.gone = true ∨ p.at_ < 0 ∨ ((charsF d.texts p.name).size : Int) < p.at_ ∨ p.cut < 0 ∨ ((charsF d.texts p.name).size : Int) - p.at_ < p.cut) → oneF d p = some { d with texts := insL (·.name) p.name ⟨p.name, (charsF d.texts p.name).extract 0 p.at_.toNat ++ p.put ++ (charsF d.texts p.name).extract (p.at_.toNat + p.cut.toNat) (charsF d.texts p.name).size⟩ (decide ((charsF d.texts p.name).extract 0 p.at_.toNat ++ p.put ++ (charsF d.texts p.name).extract (p.at_.toNat + p.cut.toNat) (charsF d.texts p.name).size = ⟨#[]⟩)) d.texts } := fun h => by
            unfold oneF; rw [if_neg (by rw [hn]; simp), if_neg k1, if_neg k2, if_pos k3, if_neg h]
          rw [hcs] at bad good
          simp (maxSteps := 400000) (disch := first | omega | exact okT rfl | simp only [push_cast]) only [push_cast, ↓ite_cnd, ↓reduceIte, Nat.reduceAdd, Nat.reduceMul, Nat.reduceSub, Nat.reduceEqDiff, Nat.reduceBEq, Nat.reduceBNe, Nat.reduceLT, Nat.reduceLeDiff, reduceCtorEq, Op.operands, flat_take_succ, flat_take_all]
          cases hg : p.gone with
          | true =>
            have e := bad (.inl hg)
            simp (maxSteps := 400000) (disch := first | omega | exact okT rfl | simp only [push_cast]) only [push_cast, ↓ite_cnd, ↓reduceIte, Nat.reduceAdd, Nat.reduceMul, Nat.reduceSub, Nat.reduceEqDiff, Nat.reduceBEq, Nat.reduceBNe, Nat.reduceLT, Nat.reduceLeDiff, reduceCtorEq, Op.operands, flat_take_succ, flat_take_all]
            try simp [e]
          | false =>
          simp (maxSteps := 400000) (disch := first | omega | exact okT rfl | simp only [push_cast]) only [push_cast, ↓ite_cnd, ↓reduceIte, Nat.reduceAdd, Nat.reduceMul, Nat.reduceSub, Nat.reduceEqDiff, Nat.reduceBEq, Nat.reduceBNe, Nat.reduceLT, Nat.reduceLeDiff, reduceCtorEq, Op.operands, flat_take_succ, flat_take_all]
          iterate 5 all_goals (try (refine ⟨fun h => ?_, fun h => ?_⟩ <;> simp (maxSteps := 400000) (disch := first | omega | exact okT rfl | simp only [push_cast]) only [push_cast, ↓ite_cnd, ↓reduceIte, Nat.reduceAdd, Nat.reduceMul, Nat.reduceSub, Nat.reduceEqDiff, Nat.reduceBEq, Nat.reduceBNe, Nat.reduceLT, Nat.reduceLeDiff, reduceCtorEq, Op.operands, flat_take_succ, flat_take_all]))
          all_goals (try (have e := bad (.inr (by omega)); simp [e]; done))
          have e := good (by rw [hg]; simp; omega)
          have x1 : (cs.extract 0 p.at_.toNat).size ≤ cs.size := by rw [ByteArray.size_extract]; omega
          have x2 : (cs.extract (p.at_ + p.cut).toNat cs.size).size ≤ cs.size := by rw [ByteArray.size_extract]; omega
          have x3 : (p.at_ + p.cut).toNat = p.at_.toNat + p.cut.toNat := by omega
          refine ⟨by omega, by omega, ?_⟩
          refine evDC2.useV (c40 d hd p.name _) rfl ?_
          simp (maxSteps := 400000) (disch := first | omega | exact okT rfl | simp only [push_cast]) only [push_cast, ↓ite_cnd, ↓reduceIte, Nat.reduceAdd, Nat.reduceMul, Nat.reduceSub, Nat.reduceEqDiff, Nat.reduceBEq, Nat.reduceBNe, Nat.reduceLT, Nat.reduceLeDiff, reduceCtorEq, Op.operands, flat_take_succ, flat_take_all]
          simp [e, x3]
        · have e : oneF d p = none := by simp [oneF, hn, k1, k2, k3]
          simp (maxSteps := 400000) (disch := first | omega | exact okT rfl | simp only [push_cast]) only [push_cast, ↓ite_cnd, ↓reduceIte, Nat.reduceAdd, Nat.reduceMul, Nat.reduceSub, Nat.reduceEqDiff, Nat.reduceBEq, Nat.reduceBNe, Nat.reduceLT, Nat.reduceLeDiff, reduceCtorEq, Op.operands, flat_take_succ, flat_take_all]
          try simp [e]
end Go.AW
