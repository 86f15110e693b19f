/- Contracts: the law PatchApplies. -/
import Derived.Test.YteoodenfggmpfaaCZ21
import Derived.Test.YteoodenfggmpfaaCY7
namespace Go.AW
open Proofs

set_option linter.unusedSimpArgs false
set_option linter.unusedVariables false
set_option maxRecDepth 100000
set_option maxHeartbeats 8000000

theorem manyF_B : ∀ (l : List PatchV) {d d' : DocV}, DocB d l.length (putsN l) → (∀ p ∈ l, PatOK p) → manyF (some d) l = some d' → DocOK d'
  | [], d, d', h, _, e => by simp [manyF] at e; subst e; exact h.ok
  | p :: l, d, d', h, hp, e => by
    have e1 : manyF (some d) (p :: l) = manyF (oneF d p) l := rfl
    rw [e1] at e
    have h' : DocB d (l.length + 1) (putsN l + p.put.size) := by
      have : putsN (p :: l) = putsN l + p.put.size := by simp only [putsN, List.map_cons, List.sum_cons]; omega
      rw [← this]; exact h
    cases ho : oneF d p with
    | none =>
      rw [ho] at e
      have hn : ∀ l : List PatchV, manyF none l = none := fun l => by
        induction l with
        | nil => rfl
        | cons p l ih => simpa [manyF] using ih
      rw [hn] at e; cases e
    | some d1 =>
      rw [ho] at e
      exact manyF_B l (oneF_B h' (hp p (by simp)) ho) (fun q hq => hp q (by simp [hq])) e
theorem noDoc_ok : DocOK noDoc := ⟨by simp [noDoc], by simp [noDoc], by simp [noDoc], by simp [noDoc], by simp [noDoc], by simp [noDoc], by simp [noDoc], by simp [noDoc]⟩
theorem applyR_ok {d : DocV} {l : List PatchV} (hd : DocB d l.length (putsN l)) (hp : ∀ p ∈ l, PatOK p) : DocOK (applyR d l).1 := by
  unfold applyR
  split
  · split
    · rename_i h; exact manyF_B l hd hp h
    · exact noDoc_ok
  · exact noDoc_ok

theorem docL_on (T : Nat → Prop) (d : DocV) : (docL d).map (AV.on T false) = [.on T false (.seq d.entries.length 2 (flat ecell d.entries)), .on T false (.seq d.counts.length 2 (flat ccell d.counts)), .on T false (.seq d.texts.length 2 (flat tcell d.texts))] := (rfl)
theorem idfL_onD (T : Nat → Prop) (d : DocV) : idfL [.agg ((docL d).map (AV.on T false))] = true := by simp [idfL, idf, docL, idfL_eflat, idfL_ctflat, idfL_tflat]
theorem untL_on (T : Nat → Prop) (d : DocV) : untL [.agg ((docL d).map (AV.on T false))] = [.agg (docL d)] := by
  simp [docL, untL, unt, untL_flat untL_ecell, untL_flat untL_ccell, untL_flat untL_tcell]
theorem untL_onP (T : Nat → Prop) (l : List PatchV) : untL [.on T false (.seq l.length 9 (flat pcell l))] = [.seq l.length 9 (flat pcell l)] := by
  simp [untL, unt, untL_flat untL_pcell]
theorem untL_on2 (T T' : Nat → Prop) (d : DocV) (l : List PatchV) : untL [.agg ((docL d).map (AV.on T false)), .on T' false (.seq l.length 9 (flat pcell l))] = [.agg (docL d), .seq l.length 9 (flat pcell l)] := by
  simp [docL, untL, unt, untL_flat untL_ecell, untL_flat untL_ccell, untL_flat untL_tcell, untL_flat untL_pcell]
theorem renL_bg {ρ : Nat → Nat} (h : ρ 4 = 4) : ∀ {es : List EntryV}, renL ρ (flat (bgcell 4) es) = flat (bgcell 4) es
  | [] => rfl
  | e :: es => by
    have e1 : flat (bgcell 4) (e :: es) = .top :: .bs 4 e.values.length :: flat (bgcell 4) es := rfl
    rw [e1]
    simp only [renL, renA, h, renL_bg h]
section
variable {P : Program} {t : TypeId} {find : Nat → Option AObj}
theorem indexAddr_bs {o n : Nat} {k : IntKind} {i : Int} : indexAddrF P t (.bs o n) (.v (.int k i)) = match telem P t with | some e => if tsz P e = 1 ∧ tok P e = true then if 0 ≤ i ∧ i < n then some (.bp o) else none else none | none => none := by
  unfold indexAddrF; cases telem P t <;> cases tarr P t <;> rfl
def storeB (P : Program) (t : TypeId) (o : Nat) (cs : Option (List AV)) (ob : Option AObj) : Option Upd := match cs, ob with
  | some [_], some .bag => if tok P t ∧ tsz P t = 1 then some [(o, .bag)] else none
  | _, _ => none
theorem storeF_bp {o : Nat} {y : AV} : storeF P find t (.bp o) y = storeB P t o (cellsOf y) (find o) := by
  unfold storeF storeB
  cases cellsOf y with
  | none => rfl
  | some cs =>
    cases cs with
    | nil => rfl
    | cons c cs =>
      cases cs with
      | nil =>
        cases hx : find o with
        | none => simp only [hx]
        | some ob => cases ob <;> simp only [hx]
      | cons _ _ => rfl
theorem storeB_bag {o : Nat} {c : AV} : storeB P t o (some [c]) (some .bag) = if tok P t ∧ tsz P t = 1 then some [(o, .bag)] else none := (rfl)
theorem bg_drop {es : List EntryV} {i : Nat} (hi : i < es.length) : (flat (bgcell 4) es).drop (i * 2) = bgcell 4 es[i] ++ flat (bgcell 4) (es.drop (i + 1)) := flat_drop (f := bgcell 4) (sz := 2) bgcell_length es i hi
theorem bg_get {es : List EntryV} {i : Nat} (hi : i < es.length) : (flat (bgcell 4) es)[i * 2 + 1]? = some (.bs 4 es[i].values.length) := by
  have := bg_drop hi
  rw [← List.getElem?_drop, this]
  rfl
theorem bg_length {es : List EntryV} : (flat (bgcell 4) es).length = es.length * 2 := flat_length bgcell_length es
attribute [push_cast] indexAddr_bs storeF_bp storeB_bag bg_get bg_length
end
theorem c3 (d : DocV) (l : List PatchV) (hl : l.length ≤ 1048576) (hd : DocB d l.length (putsN l)) (hp : ∀ p ∈ l, PatOK p) (hv : ∀ p ∈ l, p.values.length ≤ 1048576 ∧ p.src.length ≤ 1048576) : PCall Try.prog [] 3 [.agg (docL d), .seq l.length 9 (flat pcell l)] (.v (.bool true)) := by
  refine PCall.thawed (L2 := .seq l.length 9 (flat pcell l)) (es := (applyR d l).1.entries) Try.func3 rfl (by kernel_rfl) rfl Try.ntmps3 fol (by kernel_rfl) (by kernel_rfl) (by kernel_rfl) (idfL_docL d) (by simp [idf, idfL_flat idfL_pcell]) (by simp [idf, idfL_flat idfL_pcell]) (fun T0 => ?_) ?_
  · simp (maxSteps := 400000) (disch := first | omega | exact okT rfl | simp only [push_cast]) only [push_cast, ↓ite_cnd, ↓reduceIte, Nat.reduceAdd, Nat.reduceMul, Nat.reduceSub, Nat.reduceEqDiff, Nat.reduceBEq, Nat.reduceBNe, Nat.reduceLT, Nat.reduceLeDiff, reduceCtorEq, Op.operands, flat_take_succ, flat_take_all, docL_on]
    refine PCall.useT ((c5 d hd.ok).pre (idfL_onD _ d) (untL_on T0 d)) fun T1 => ?_
    simp (maxSteps := 400000) (disch := first | omega | exact okT rfl | simp only [push_cast]) only [push_cast, ↓ite_cnd, ↓reduceIte, Nat.reduceAdd, Nat.reduceMul, Nat.reduceSub, Nat.reduceEqDiff, Nat.reduceBEq, Nat.reduceBNe, Nat.reduceLT, Nat.reduceLeDiff, reduceCtorEq, Op.operands, flat_take_succ, flat_take_all, docL_on]
    refine PCall.useT ((c6 l hl hv).pre (by simp [idfL, idf, idfL_flat idfL_pcell]) (untL_onP T0 l)) fun T2 => ?_
    simp (maxSteps := 400000) (disch := first | omega | exact okT rfl | simp only [push_cast]) only [push_cast, ↓ite_cnd, ↓reduceIte, Nat.reduceAdd, Nat.reduceMul, Nat.reduceSub, Nat.reduceEqDiff, Nat.reduceBEq, Nat.reduceBNe, Nat.reduceLT, Nat.reduceLeDiff, reduceCtorEq, Op.operands, flat_take_succ, flat_take_all, docL_on]
    have hres := fun N => (c7 N d l hl hd hp).pre (xs := [.agg ((docL d).map (AV.on T1 false)), .on T2 false (.seq l.length 9 (flat pcell l))]) (by simp [idfL, idf, idfL_flat idfL_pcell, docL, idfL_eflat, idfL_ctflat, idfL_tflat]) (untL_on2 T1 T2 d l)
    simp only [applyP_eq, docL_on] at hres
    refine PDoc.useN hres fun N hN => ?_
    have hN0 : ∀ b, N b → ¬ T0 b := hN 0 T0 rfl
    have hN1 : ∀ b, N b → ¬ T1 b := hN 165 T1 rfl
    have hN2 : ∀ b, N b → ¬ T2 b := hN 166 T2 rfl
    clear hN hres
    simp (maxSteps := 400000) (disch := first | omega | exact okT rfl | simp only [push_cast]) only [push_cast, ↓ite_cnd, ↓reduceIte, Nat.reduceAdd, Nat.reduceMul, Nat.reduceSub, Nat.reduceEqDiff, Nat.reduceBEq, Nat.reduceBNe, Nat.reduceLT, Nat.reduceLeDiff, reduceCtorEq, Op.operands, flat_take_succ, flat_take_all, docL_on, Option.map_some]
    refine PCall.useV ((c8 d l hl hd hp).pre (by simp [idfL, idf, idfL_flat idfL_pcell, idfL_eflat, idfL_ctflat, idfL_tflat]) (untL_on2 T0 T0 d l)) ?_
    have hxok := applyR_ok hd hp
    generalize hX : applyR d l = X at hxok
    obtain ⟨x, er⟩ := X
    dsimp only at hxok
    simp (maxSteps := 400000) (disch := first | omega | exact okT rfl | simp only [push_cast]) only [push_cast, ↓ite_cnd, ↓reduceIte, Nat.reduceAdd, Nat.reduceMul, Nat.reduceSub, Nat.reduceEqDiff, Nat.reduceBEq, Nat.reduceBNe, Nat.reduceLT, Nat.reduceLeDiff, reduceCtorEq, Op.operands, flat_take_succ, flat_take_all, docL_on]
    have hsame := (c9 x x hxok hxok).pre (xs := [.agg [.seq x.entries.length 2 (flat (ecellN N) x.entries), .seq x.counts.length 2 (flat ccell x.counts), .seq x.texts.length 2 (flat tcell x.texts)], .agg (docL x)]) (by simp [idfL, idf, idfL_docL, idfL_eflatN, idfL_ctflat, idfL_tflat]) (by simp [untL, unt, untL_docL, untL_flat untL_ecellN, untL_flat untL_ccell, untL_flat untL_tcell]; simp [docL])
    refine evDC2.useS (ids := [249]) hsame ?_ rfl rfl (by rfl) ?_
    · simp [snapArgs, snap, snapL, idfL, idf, idfL_docL, snapM, Mem.find, lk, idfL_eflatN, idfL_ctflat, idfL_tflat, eflatN_length]
      exact List.take_of_length_le (by rw [eflatN_length]; omega)
    simp (maxSteps := 400000) (disch := first | omega | exact okT rfl | simp only [push_cast]) only [push_cast, ↓ite_cnd, ↓reduceIte, Nat.reduceAdd, Nat.reduceMul, Nat.reduceSub, Nat.reduceEqDiff, Nat.reduceBEq, Nat.reduceBNe, Nat.reduceLT, Nat.reduceLeDiff, reduceCtorEq, Op.operands, flat_take_succ, flat_take_all, docL_on, decide_true, Bool.not_true, Bool.not_false]
    refine evDC2.useV ((c10 d hd.ok).pre (xs := [.agg ((docL d).map (AV.on T1 false))]) (idfL_onD _ d) (untL_on T1 d)) rfl ?_
    simp (maxSteps := 400000) (disch := first | omega | exact okT rfl | simp only [push_cast]) only [push_cast, ↓ite_cnd, ↓reduceIte, Nat.reduceAdd, Nat.reduceMul, Nat.reduceSub, Nat.reduceEqDiff, Nat.reduceBEq, Nat.reduceBNe, Nat.reduceLT, Nat.reduceLeDiff, reduceCtorEq, Op.operands, flat_take_succ, flat_take_all, docL_on, decide_true, Bool.not_true, Bool.not_false]
    refine evDC2.useV ((c11 d hd.ok).pre (xs := [.agg ((docL d).map (AV.on T0 false))]) (idfL_onD _ d) (untL_on T0 d)) rfl ?_
    simp (maxSteps := 400000) (disch := first | omega | exact okT rfl | simp only [push_cast]) only [push_cast, ↓ite_cnd, ↓reduceIte, Nat.reduceAdd, Nat.reduceMul, Nat.reduceSub, Nat.reduceEqDiff, Nat.reduceBEq, Nat.reduceBNe, Nat.reduceLT, Nat.reduceLeDiff, reduceCtorEq, Op.operands, flat_take_succ, flat_take_all, docL_on, decide_true, Bool.not_true, Bool.not_false]
    refine ⟨T1, T2, N, fun b hb => ⟨hN0 b hb, hN1 b hb, hN2 b hb⟩, 3, 88, 174, 249, .seq x.counts.length 2 (flat ccell x.counts), .seq x.texts.length 2 (flat tcell x.texts), rfl, rfl, rfl, rfl, rfl, rfl, rfl, rfl, rfl, by decide⟩
  · have hxok := applyR_ok hd hp
    have hle := hxok.le
    have hve := hxok.ve
    clear hxok
    generalize (applyR d l).1.entries = es at hle hve
    unfold thawSt
    simp (maxSteps := 400000) (disch := first | omega | exact okT rfl | simp only [push_cast]) only [push_cast, ↓ite_cnd, ↓reduceIte, Nat.reduceAdd, Nat.reduceMul, Nat.reduceSub, Nat.reduceEqDiff, Nat.reduceBEq, Nat.reduceBNe, Nat.reduceLT, Nat.reduceLeDiff, reduceCtorEq, Op.operands, flat_take_succ, flat_take_all]
    refine ev_loopI (ι := Nat) (fun i => ⟨[(1, .seq l.length 9 (flat pcell l)), (2, .ptr 0 0), (5, .ptr 1 0), (6, .seq l.length 9 (flat pcell l)), (7, .ptr 2 0), (11, .v (.int .i64 i))], ⟨[(0, .cells 26 (docL d) false), (1, .cells 26 (docL d) false), (2, .cells 26 [.sl 3 0 es.length 2, .top, .top] false), (3, .cells 40 (flat (bgcell 4) es) true), (4, .bag)], 5, 5, 0⟩⟩) (fun i => i ≤ es.length) (fun i => es.length - i) 0 (Nat.zero_le _) ?_ ?_
    · refine Ent.intro [(0, 0), (1, 1), (2, 2), (3, 3), (4, 4)] ?_ ?_ ?_ rfl (Nat.zero_le _) (Nat.zero_le _)
      · simp [EntE, lk, renA, rho', renL_idf _ _ (idfL_flat idfL_pcell l)]
      · simp [EntO, lk, renO, rho', renL, renA, renL_idf _ _ (idfL_docL d), renL_bg]
      · simp [injOn, rho', lk]
    intro i hi
    simp (maxSteps := 400000) (disch := first | omega | exact okT rfl | simp only [push_cast]) only [push_cast, ↓ite_cnd, ↓reduceIte, Nat.reduceAdd, Nat.reduceMul, Nat.reduceSub, Nat.reduceEqDiff, Nat.reduceBEq, Nat.reduceBNe, Nat.reduceLT, Nat.reduceLeDiff, reduceCtorEq, Op.operands, flat_take_succ, flat_take_all]
    refine ⟨fun h4 => ?_, fun h4 => ?_⟩
    · have hi1 : i < es.length := by omega
      have hvi := hve es[i] (List.getElem_mem hi1)
      simp (maxSteps := 400000) (disch := first | omega | exact okT rfl | simp only [push_cast]) only [push_cast, ↓ite_cnd, ↓reduceIte, Nat.reduceAdd, Nat.reduceMul, Nat.reduceSub, Nat.reduceEqDiff, Nat.reduceBEq, Nat.reduceBNe, Nat.reduceLT, Nat.reduceLeDiff, reduceCtorEq, Op.operands, flat_take_succ, flat_take_all]
      refine ev_loopI (ι := Nat) (fun k => ⟨[(1, .seq l.length 9 (flat pcell l)), (2, .ptr 0 0), (5, .ptr 1 0), (6, .seq l.length 9 (flat pcell l)), (7, .ptr 2 0), (11, .v (.int .i64 i)), (12, .v (.int .i64 k))], ⟨[(0, .cells 26 (docL d) false), (1, .cells 26 (docL d) false), (2, .cells 26 [.sl 3 0 es.length 2, .top, .top] false), (3, .cells 40 (flat (bgcell 4) es) true), (4, .bag)], 5, 5, 0⟩⟩) (fun k => k ≤ es[i].values.length) (fun k => es[i].values.length - k) 0 (Nat.zero_le _) ?_ ?_
      · refine Ent.intro [(0, 0), (1, 1), (2, 2), (3, 3), (4, 4)] ?_ ?_ ?_ rfl (Nat.zero_le _) (Nat.zero_le _)
        · simp [EntE, lk, renA, rho', renL_idf _ _ (idfL_flat idfL_pcell l)]
        · simp [EntO, lk, renO, rho', renL, renA, renL_idf _ _ (idfL_docL d), renL_bg]
        · simp [injOn, rho', lk]
      intro k hk
      simp (maxSteps := 400000) (disch := first | omega | exact okT rfl | simp only [push_cast]) only [push_cast, ↓ite_cnd, ↓reduceIte, Nat.reduceAdd, Nat.reduceMul, Nat.reduceSub, Nat.reduceEqDiff, Nat.reduceBEq, Nat.reduceBNe, Nat.reduceLT, Nat.reduceLeDiff, reduceCtorEq, Op.operands, flat_take_succ, flat_take_all]
      refine ⟨fun h5 => ?_, fun h5 => ?_⟩
      · have hk1 : k < es[i].values.length := by omega
        simp (maxSteps := 400000) (disch := first | omega | exact okT rfl | simp only [push_cast]) only [push_cast, ↓ite_cnd, ↓reduceIte, Nat.reduceAdd, Nat.reduceMul, Nat.reduceSub, Nat.reduceEqDiff, Nat.reduceBEq, Nat.reduceBNe, Nat.reduceLT, Nat.reduceLeDiff, reduceCtorEq, Op.operands, flat_take_succ, flat_take_all]
        refine ⟨k + 1, by show k + 1 ≤ es[i].values.length; omega, by show es[i].values.length - (k + 1) < es[i].values.length - k; omega, ?_⟩
        refine Ent.intro [(0, 0), (1, 1), (2, 2), (3, 3), (4, 4)] ?_ ?_ ?_ rfl (Nat.zero_le _) (Nat.zero_le _)
        · simp [EntE, lk, renA, rho', renL_idf _ _ (idfL_flat idfL_pcell l)]
        · simp [EntO, lk, renO, rho', renL, renA, renL_idf _ _ (idfL_docL d), renL_bg]
        · simp [injOn, rho', lk]
      · simp (maxSteps := 400000) (disch := first | omega | exact okT rfl | simp only [push_cast]) only [push_cast, ↓ite_cnd, ↓reduceIte, Nat.reduceAdd, Nat.reduceMul, Nat.reduceSub, Nat.reduceEqDiff, Nat.reduceBEq, Nat.reduceBNe, Nat.reduceLT, Nat.reduceLeDiff, reduceCtorEq, Op.operands, flat_take_succ, flat_take_all]
        refine ⟨i + 1, by show i + 1 ≤ es.length; omega, by show es.length - (i + 1) < es.length - i; omega, ?_⟩
        refine Ent.intro [(0, 0), (1, 1), (2, 2), (3, 3), (4, 4)] ?_ ?_ ?_ rfl (Nat.zero_le _) (Nat.zero_le _)
        · simp [EntE, lk, renA, rho', renL_idf _ _ (idfL_flat idfL_pcell l)]
        · simp [EntO, lk, renO, rho', renL, renA, renL_idf _ _ (idfL_docL d), renL_bg]
        · simp [injOn, rho', lk]
    · have big : ∀ p ∈ l, p.values.length ≤ 4611686018427387904 ∧ p.src.length ≤ 4611686018427387904 := fun p hp => ⟨by have := (hv p hp).1; omega, by have := (hv p hp).2; omega⟩
      simp (maxSteps := 400000) (disch := first | omega | exact okT rfl | simp only [push_cast]) only [push_cast, ↓ite_cnd, ↓reduceIte, Nat.reduceAdd, Nat.reduceMul, Nat.reduceSub, Nat.reduceEqDiff, Nat.reduceBEq, Nat.reduceBNe, Nat.reduceLT, Nat.reduceLeDiff, reduceCtorEq, Op.operands, flat_take_succ, flat_take_all]
      refine PCall.useV (c9 d d hd.ok hd.ok) ?_
      simp (maxSteps := 400000) (disch := first | omega | exact okT rfl | simp only [push_cast]) only [push_cast, ↓ite_cnd, ↓reduceIte, Nat.reduceAdd, Nat.reduceMul, Nat.reduceSub, Nat.reduceEqDiff, Nat.reduceBEq, Nat.reduceBNe, Nat.reduceLT, Nat.reduceLeDiff, reduceCtorEq, Op.operands, flat_take_succ, flat_take_all, decide_true]
      refine PCall.useV (c12 l l (by omega) big) ?_
      simp (maxSteps := 400000) (disch := first | omega | exact okT rfl | simp only [push_cast]) only [push_cast, ↓ite_cnd, ↓reduceIte, Nat.reduceAdd, Nat.reduceMul, Nat.reduceSub, Nat.reduceEqDiff, Nat.reduceBEq, Nat.reduceBNe, Nat.reduceLT, Nat.reduceLeDiff, reduceCtorEq, Op.operands, flat_take_succ, flat_take_all, decide_true]
      refine PCall.useV c13 ?_
      simp (maxSteps := 400000) (disch := first | omega | exact okT rfl | simp only [push_cast]) only [push_cast, ↓ite_cnd, ↓reduceIte, Nat.reduceAdd, Nat.reduceMul, Nat.reduceSub, Nat.reduceEqDiff, Nat.reduceBEq, Nat.reduceBNe, Nat.reduceLT, Nat.reduceLeDiff, reduceCtorEq, Op.operands, flat_take_succ, flat_take_all, decide_true]
end Go.AW
