/- Contracts: patch.Apply. -/
import Derived.Test.YteoodenfggmpfaaCZ16
namespace Go.AW
open Proofs

set_option linter.unusedSimpArgs false
set_option linter.unusedVariables false
set_option maxRecDepth 100000
set_option maxHeartbeats 8000000

def aset {α : Type} : List (ByteArray × α) → ByteArray → α → List (ByteArray × α)
  | [], k, v => [(k, v)]
  | (n, x) :: l, k, v => if n = k then (n, v) :: l else (n, x) :: aset l k v
def adel {α : Type} : List (ByteArray × α) → ByteArray → List (ByteArray × α)
  | [], _ => []
  | (n, x) :: l, k => if n = k then l else (n, x) :: adel l k
theorem mhas_keys {α : Type} {k : ByteArray} {v : α} : ∀ {l : List (ByteArray × α)}, (if mhas (keysV l) (.string k) = true then keysV l else keysV l ++ [.string k]) = keysV (aset l k v)
  | [] => rfl
  | (n, x) :: l => by
    have ih := mhas_keys (k := k) (v := v) (l := l)
    simp only [keysV, List.map_cons, mhas, keq_str, aset] at ih ⊢
    by_cases h : n = k
    · subst h; simp
    · have h' : ¬ k = n := fun e => h e.symm
      simp only [h, h', decide_false, Bool.false_or, if_false, List.map_cons]
      rw [← ih]
      by_cases hm : mhas (List.map Value.string (List.map (fun x => x.fst) l)) (Value.string k) = true
      · simp only [hm, if_true]
      · simp only [hm, if_false, List.cons_append]
        rfl
theorem mset_keys {α : Type} {g : α → AV} {k : ByteArray} {v : α} : ∀ {l : List (ByteArray × α)}, mset (keysV l) (l.map fun e => g e.2) (.string k) (g v) = (aset l k v).map fun e => g e.2
  | [] => rfl
  | (n, x) :: l => by
    have ih := mset_keys (g := g) (k := k) (v := v) (l := l)
    simp only [keysV, List.map_cons, mset, keq_str, aset] at ih ⊢
    by_cases h : n = k
    · subst h; simp
    · have h' : ¬ k = n := fun e => h e.symm
      simp only [h, h', decide_false, Bool.false_eq_true, if_false, List.map_cons, ih]
theorem mdelK_keys {α : Type} {k : ByteArray} : ∀ {l : List (ByteArray × α)}, mdelK (keysV l) (.string k) = keysV (adel l k)
  | [] => rfl
  | (n, x) :: l => by
    have ih := mdelK_keys (k := k) (l := l)
    simp only [keysV, List.map_cons, mdelK, keq_str, adel] at ih ⊢
    by_cases h : n = k
    · subst h; simp
    · have h' : ¬ k = n := fun e => h e.symm
      simp only [h, h', decide_false, Bool.false_eq_true, if_false, List.map_cons, ih]
theorem mdelX_keys {α : Type} {g : α → AV} {k : ByteArray} : ∀ {l : List (ByteArray × α)}, mdelX (keysV l) (l.map fun e => g e.2) (.string k) = (adel l k).map fun e => g e.2
  | [] => rfl
  | (n, x) :: l => by
    have ih := mdelX_keys (g := g) (k := k) (l := l)
    simp only [keysV, List.map_cons, mdelX, keq_str, adel] at ih ⊢
    by_cases h : n = k
    · subst h; simp
    · have h' : ¬ k = n := fun e => h e.symm
      simp only [h, h', decide_false, Bool.false_eq_true, if_false, List.map_cons, ih]
section
variable {N : Nat → Prop} {k : ByteArray}
theorem mapE_set {l : List (ByteArray × List ByteArray)} {v : List ByteArray} : AObj.map .strK (if mhas (keysV l) (.string k) = true then keysV l else keysV l ++ [.string k]) (mset (keysV l) (l.map fun e => vsq N e.2) (.string k) (vsq N v)) = .map .strK (keysV (aset l k v)) ((aset l k v).map fun e => vsq N e.2) := by
  rw [mhas_keys (v := v), mset_keys]
theorem mapC_set {l : List (ByteArray × Int)} {v : Int} : AObj.map .strK (if mhas (keysV l) (.string k) = true then keysV l else keysV l ++ [.string k]) (mset (keysV l) (l.map fun e => AV.v (.int .i64 e.2)) (.string k) (.v (.int .i64 v))) = .map .strK (keysV (aset l k v)) ((aset l k v).map fun e => AV.v (.int .i64 e.2)) := by
  rw [mhas_keys (v := v), mset_keys (g := fun n => AV.v (.int .i64 n))]
theorem mapT_set {l : List (ByteArray × ByteArray)} {v : ByteArray} : AObj.map .strK (if mhas (keysV l) (.string k) = true then keysV l else keysV l ++ [.string k]) (mset (keysV l) (l.map fun e => AV.v (.string e.2)) (.string k) (.v (.string v))) = .map .strK (keysV (aset l k v)) ((aset l k v).map fun e => AV.v (.string e.2)) := by
  rw [mhas_keys (v := v), mset_keys (g := fun n => AV.v (.string n))]
theorem mapC_del {l : List (ByteArray × Int)} : AObj.map .strK (mdelK (keysV l) (.string k)) (mdelX (keysV l) (l.map fun e => AV.v (.int .i64 e.2)) (.string k)) = .map .strK (keysV (adel l k)) ((adel l k).map fun e => AV.v (.int .i64 e.2)) := by
  rw [mdelK_keys, mdelX_keys (g := fun n => AV.v (.int .i64 n))]
end
theorem snapM_E {N : Nat → Prop} {f : Nat → Option AObj} {l : List (ByteArray × List ByteArray)} : snapM (snap f 12) (l.map fun e => vsq N e.2) = some (l.map fun e => vsq N e.2, []) := snapM_idf (n := 11) idfL_ents
theorem snapM_C {f : Nat → Option AObj} {l : List (ByteArray × Int)} : snapM (snap f 12) (l.map fun e => AV.v (.int .i64 e.2)) = some (l.map fun e => AV.v (.int .i64 e.2), []) := snapM_idf (n := 11) idfL_cnts
theorem snapM_T {f : Nat → Option AObj} {l : List (ByteArray × ByteArray)} : snapM (snap f 12) (l.map fun e => AV.v (.string e.2)) = some (l.map fun e => AV.v (.string e.2), []) := snapM_idf (n := 11) idfL_txts
attribute [push_cast] snapM_E snapM_C snapM_T
theorem getT_v {l : List (ByteArray × ByteArray)} {k : ByteArray} : ((aget l k).map fun n => AV.v (.string n)).getD (.v (.string ⟨#[]⟩)) = .v (.string ((aget l k).getD ⟨#[]⟩)) := by cases aget l k <;> rfl
attribute [push_cast] getT_v
theorem cellsOf_mp {o : Nat} : cellsOf (.mp o) = some [.mp o] := (rfl)
attribute [push_cast] cellsOf_mp mapE_set mapC_set mapT_set mapC_del

/-- What the program's desk does with a patch; none: it can't be. -/
def doF (D : DeskV) (p : PatchV) : Option DeskV :=
  if p.kind = 1 then (if p.gone = decide (p.values.length = 0) then some { D with ents := aset D.ents p.name p.values } else none)
  else if p.kind = 2 then (if p.gone = true ∧ p.by_ ≠ 0 then none else some { D with cnts := if p.gone = true then adel (aset D.cnts p.name p.by_) p.name else aset D.cnts p.name p.by_ })
  else if p.kind = 3 then
    (if p.gone = true ∨ p.at_ < 0 ∨ ((((aget D.txts p.name).getD ⟨#[]⟩).size : Int) < p.at_) ∨ p.cut < 0 ∨ (((aget D.txts p.name).getD ⟨#[]⟩).size : Int) - p.at_ < p.cut then none
    else some { D with txts := aset D.txts p.name (((aget D.txts p.name).getD ⟨#[]⟩).extract 0 p.at_.toNat ++ p.put ++ ((aget D.txts p.name).getD ⟨#[]⟩).extract (p.at_.toNat + p.cut.toNat) ((aget D.txts p.name).getD ⟨#[]⟩).size) })
  else none
def stepP (D : DeskV) (p : PatchV) : Option DeskV := if nameB p.name = true then doF D p else none
def manyP (o : Option DeskV) (l : List PatchV) : Option DeskV := l.foldl (fun o p => o.bind fun D => stepP D p) o
def desk0 (d : DocV) : DeskV := ⟨d.entries.foldl (fun a e => aset a e.key e.values) [], d.counts.foldl (fun a e => aset a e.key e.n) [], d.texts.foldl (fun a e => aset a e.name e.chars) []⟩
def applyP (d : DocV) (l : List PatchV) : DocV × Int := if checkB d = true then (match manyP (some (desk0 d)) l with | some D => (docR D, 0) | none => (noDoc, 4)) else (noDoc, 2)

def eA (l : List EntryV) : List (ByteArray × List ByteArray) := l.foldl (fun a e => aset a e.key e.values) []
def cA (l : List CountV) : List (ByteArray × Int) := l.foldl (fun a e => aset a e.key e.n) []
def tA (l : List TextV) : List (ByteArray × ByteArray) := l.foldl (fun a e => aset a e.name e.chars) []
theorem eA_succ {l : List EntryV} {i : Nat} (hi : i < l.length) : eA (l.take (i + 1)) = aset (eA (l.take i)) l[i].key l[i].values := by
  rw [List.take_succ_eq_append_getElem hi, eA, List.foldl_append]; rfl
theorem cA_succ {l : List CountV} {i : Nat} (hi : i < l.length) : cA (l.take (i + 1)) = aset (cA (l.take i)) l[i].key l[i].n := by
  rw [List.take_succ_eq_append_getElem hi, cA, List.foldl_append]; rfl
theorem tA_succ {l : List TextV} {i : Nat} (hi : i < l.length) : tA (l.take (i + 1)) = aset (tA (l.take i)) l[i].name l[i].chars := by
  rw [List.take_succ_eq_append_getElem hi, tA, List.foldl_append]; rfl
structure DeskB (D : DeskV) (k c : Nat) : Prop where
  le : D.ents.length + k ≤ 2097152
  lc : D.cnts.length + k ≤ 2097152
  lt : D.txts.length + k ≤ 2097152
  ct : ∀ e ∈ D.txts, e.2.size + c ≤ 1048576
  cc : c ≤ 1048576
theorem c15N {N : Nat → Prop} (v : List ByteArray) (h : v.length ≤ 1048576) : PCall Try.prog [(1000000, .fut N)] 15 [.seq v.length 1 (flat scell v)] (vsq N v) := PNew.onN (g := 1000000) rfl (c15 v h).gam

theorem endD_err {N : Nat → Prop} {env : List (Nat × AV)} {mem : Mem} {ex : Exit} (h4 : oneRes Try.prog env mem (.cell 4 26) = some (.agg [.v (.slice none 0 0), .v (.slice none 0 0), .v (.slice none 0 0)])) (h5 : lk env 5 = some (.v (.int .i64 4))) :
    endD Try.prog [ResultVar.cell 4 26, ResultVar.tmp 5] noDoc.entries.length 2 (.seq noDoc.counts.length 2 (flat ccell noDoc.counts)) (.seq noDoc.texts.length 2 (flat tcell noDoc.texts)) (some (.int .i64 4)) 40 (flat (ecellN N) noDoc.entries) ex ⟨env, mem⟩ := by
  obtain ⟨objs, next, base, wid⟩ := mem
  refine ⟨.v (.slice none 0 0), .v (.slice none 0 0), .v (.slice none 0 0), ?_, .v (.slice none 0 0), .v (.slice none 0 0), by simp [Wk_nil, noDoc, flat], by simp [Wk_nil, noDoc, flat], ?_⟩
  · rw [resA_two, manyRes_cons, manyRes_cons, manyRes_nil, h4, oneRes_tmp, h5]
    rfl
  · refine Ent.freeze [] ?_ ?_ rfl rfl rfl
    · simp (maxSteps := 400000) (disch := first | omega | exact okT rfl | simp only [push_cast]) only [push_cast, ↓ite_cnd, ↓reduceIte, Nat.reduceAdd, Nat.reduceMul, Nat.reduceSub, Nat.reduceEqDiff, Nat.reduceBEq, Nat.reduceBNe, Nat.reduceLT, Nat.reduceLeDiff, reduceCtorEq, Op.operands, flat_take_succ, flat_take_all, noDoc]
      try rfl
    · simp (maxSteps := 400000) (disch := first | omega | exact okT rfl | simp only [push_cast]) only [push_cast, ↓ite_cnd, ↓reduceIte, Nat.reduceAdd, Nat.reduceMul, Nat.reduceSub, Nat.reduceEqDiff, Nat.reduceBEq, Nat.reduceBNe, Nat.reduceLT, Nat.reduceLeDiff, reduceCtorEq, Op.operands, flat_take_succ, flat_take_all, noDoc, flat]
      try rfl
theorem manyP_none {l : List PatchV} : manyP none l = none := by
  induction l with
  | nil => rfl
  | cons p l ih => simpa [manyP] using ih
theorem manyP_step {D0 : DeskV} {l : List PatchV} {i : Nat} {D : DeskV} (hi : i < l.length) (hm : manyP (some D0) (l.take i) = some D) : manyP (some D0) (l.take (i + 1)) = stepP D l[i] := by
  rw [List.take_succ_eq_append_getElem hi]
  simp only [manyP, List.foldl_append] at hm ⊢
  rw [hm]; rfl
theorem manyP_fail {D0 : DeskV} {l : List PatchV} {i : Nat} {D : DeskV} (hi : i < l.length) (hm : manyP (some D0) (l.take i) = some D) (hs : stepP D l[i] = none) : manyP (some D0) l = none := by
  have h1 := manyP_step hi hm
  have h2 : l = l.take (i + 1) ++ l.drop (i + 1) := (List.take_append_drop _ _).symm
  have h3 : manyP (some D0) l = manyP (manyP (some D0) (l.take (i + 1))) (l.drop (i + 1)) := by
    conv => lhs; rw [h2]
    simp only [manyP, List.foldl_append]
  rw [h3, h1, hs, manyP_none]
theorem aset_len {α : Type} {k : ByteArray} {v : α} : ∀ {l : List (ByteArray × α)}, (aset l k v).length ≤ l.length + 1
  | [] => by simp [aset]
  | (n, x) :: l => by
    have := aset_len (k := k) (v := v) (l := l)
    unfold aset
    split <;> simp <;> omega
theorem adel_len {α : Type} {k : ByteArray} : ∀ {l : List (ByteArray × α)}, (adel l k).length ≤ l.length
  | [] => by simp [adel]
  | (n, x) :: l => by
    have := adel_len (k := k) (l := l)
    unfold adel
    split <;> simp <;> omega
theorem aset_mem {α : Type} {k : ByteArray} {v : α} : ∀ {l : List (ByteArray × α)} {e : ByteArray × α}, e ∈ aset l k v → e ∈ l ∨ e.2 = v
  | [], e, h => by simp [aset] at h; right; rw [h]
  | (n, x) :: l, e, h => by
    unfold aset at h
    split at h
    · rcases List.mem_cons.1 h with h | h
      · right; rw [h]
      · left; exact List.mem_cons_of_mem _ h
    · rcases List.mem_cons.1 h with h | h
      · left; rw [h]; exact List.mem_cons_self
      · rcases aset_mem h with h | h
        · left; exact List.mem_cons_of_mem _ h
        · right; exact h
theorem aget_in {α : Type} {l : List (ByteArray × α)} {k : ByteArray} {v : α} (h : aget l k = some v) : ∃ e ∈ l, e.2 = v := by
  unfold aget at h
  cases hf : l.find? fun e => decide (e.1 = k) with
  | none => rw [hf] at h; cases h
  | some e => rw [hf] at h; simp at h; exact ⟨e, List.mem_of_find?_eq_some hf, h⟩
theorem DeskB.get {D : DeskV} {k c : Nat} (h : DeskB D k c) (n : ByteArray) : ((aget D.txts n).getD ⟨#[]⟩).size + c ≤ 1048576 := by
  cases ha : aget D.txts n with
  | none => have := h.cc; have h0 : (⟨#[]⟩ : ByteArray).size = 0 := rfl; simp only [Option.getD_none]; omega
  | some v => obtain ⟨e, he, rfl⟩ := aget_in ha; exact h.ct e he
theorem doF_B {D D' : DeskV} {p : PatchV} {k c : Nat} (h : DeskB D (k + 1) (c + p.put.size)) (he : doF D p = some D') : DeskB D' k c := by
  have hg := h.get p.name
  obtain ⟨h1, h2, h3, h4, h5⟩ := h
  unfold doF at he
  split at he
  · split at he
    · simp only [Option.some.injEq] at he
      subst he
      have := aset_len (k := p.name) (v := p.values) (l := D.ents)
      exact ⟨by dsimp only; omega, by dsimp only; omega, by dsimp only; omega, fun e he => by have := h4 e he; omega, by omega⟩
    · cases he
  · split at he
    · split at he
      · cases he
      · simp only [Option.some.injEq] at he
        subst he
        have h6 := aset_len (k := p.name) (v := p.by_) (l := D.cnts)
        refine ⟨by dsimp only; omega, ?_, by dsimp only; omega, fun e he => by have := h4 e he; omega, by omega⟩
        dsimp only
        split
        · have := adel_len (k := p.name) (l := aset D.cnts p.name p.by_)
          omega
        · omega
    · split at he
      · split at he
        · cases he
        · rename_i hbad
          simp only [not_or] at hbad
          simp only [Option.some.injEq] at he
          subst he
          refine ⟨by dsimp only; omega, by dsimp only; omega, ?_, fun e he => ?_, by omega⟩
          · dsimp only
            refine Nat.le_trans (Nat.add_le_add_right aset_len k) (by omega)
          · rcases aset_mem he with h | h
            · have := h4 e h; omega
            · rw [h]
              simp only [ByteArray.size_append, ByteArray.size_extract]
              omega
      · cases he
theorem foldl_len {α β : Type} {f : List β → α → List β} (hf : ∀ a e, (f a e).length ≤ a.length + 1) : ∀ (l : List α) (a : List β), (l.foldl f a).length ≤ a.length + l.length
  | [], a => by simp
  | x :: l, a => by
    have h1 := foldl_len hf l (f a x)
    have h2 := hf a x
    simp only [List.foldl_cons, List.length_cons]; omega
theorem tA_mem : ∀ (l : List TextV) (a : List (ByteArray × ByteArray)) (e : ByteArray × ByteArray), e ∈ l.foldl (fun a e => aset a e.name e.chars) a → e ∈ a ∨ ∃ t ∈ l, e.2 = t.chars
  | [], a, e, h => .inl h
  | x :: l, a, e, h => by
    simp only [List.foldl_cons] at h
    rcases tA_mem l _ e h with h | ⟨t, h1, h2⟩
    · rcases aset_mem h with h | h
      · exact .inl h
      · exact .inr ⟨x, by simp, h⟩
    · exact .inr ⟨t, by simp [h1], h2⟩
theorem desk0_B {d : DocV} {k c : Nat} (h : DocB d k c) (hk : k ≤ 1048576) : DeskB (desk0 d) k c := by
  obtain ⟨h1, h2, h3, h4, h5, h6, h7, h8, h9⟩ := h
  refine ⟨?_, ?_, ?_, fun e he => ?_, h9⟩
  · have := foldl_len (f := fun a (e : EntryV) => aset a e.key e.values) (fun a e => aset_len) d.entries []
    simp only [desk0, List.length_nil] at *; omega
  · have := foldl_len (f := fun a (e : CountV) => aset a e.key e.n) (fun a e => aset_len) d.counts []
    simp only [desk0, List.length_nil] at *; omega
  · have := foldl_len (f := fun a (e : TextV) => aset a e.name e.chars) (fun a e => aset_len) d.texts []
    simp only [desk0, List.length_nil] at *; omega
  · rcases tA_mem _ _ _ he with h | ⟨t, ht, h⟩
    · cases h
    · rw [h]; exact h8 t ht

theorem c7 (N : Nat → Prop) (d : DocV) (l : List PatchV) (hl : l.length ≤ 1048576) (hd : DocB d l.length (putsN l)) (hp : ∀ p ∈ l, PatOK p) :
    PDoc Try.prog [(1000000, .fut N)] 7 [.agg (docL d), .seq l.length 9 (flat pcell l)] (applyP d l).1.entries.length 2 (.seq (applyP d l).1.counts.length 2 (flat ccell (applyP d l).1.counts)) (.seq (applyP d l).1.texts.length 2 (flat tcell (applyP d l).1.texts)) (some (.int .i64 (applyP d l).2)) 40 (flat (ecellN N) (applyP d l).1.entries) := by
  refine PDoc.start Try.func7 rfl (by kernel_rfl) rfl Try.ntmps7 fol (by kernel_rfl) (by simp [idfL, idf, idfL_docL, idfL_flat idfL_pcell]) (by simp [idf, idfL_ctflat]) (by simp [idf, idfL_tflat]) idfL_eflatN ?_
  simp only [List.zipIdx_cons, List.zipIdx_nil, List.map_cons, List.map_nil, Nat.zero_add]
  simp (maxSteps := 400000) (disch := first | omega | exact okT rfl | simp only [push_cast]) only [push_cast, ↓ite_cnd, ↓reduceIte, Nat.reduceAdd, Nat.reduceMul, Nat.reduceSub, Nat.reduceEqDiff, Nat.reduceBEq, Nat.reduceBNe, Nat.reduceLT, Nat.reduceLeDiff, reduceCtorEq, Op.operands, flat_take_succ, flat_take_all]
  refine PCall.useV (c10 d hd.ok).gam ?_
  cases hc : checkB d with
  | false =>
    have e : applyP d l = (noDoc, 2) := by simp [applyP, hc]
    simp (maxSteps := 400000) (disch := first | omega | exact okT rfl | simp only [push_cast]) only [push_cast, ↓ite_cnd, ↓reduceIte, Nat.reduceAdd, Nat.reduceMul, Nat.reduceSub, Nat.reduceEqDiff, Nat.reduceBEq, Nat.reduceBNe, Nat.reduceLT, Nat.reduceLeDiff, reduceCtorEq, Op.operands, flat_take_succ, flat_take_all]
    refine ⟨fun _ => ?_, fun h => absurd h (by decide)⟩
    simp (maxSteps := 400000) (disch := first | omega | exact okT rfl | simp only [push_cast]) only [push_cast, ↓ite_cnd, ↓reduceIte, Nat.reduceAdd, Nat.reduceMul, Nat.reduceSub, Nat.reduceEqDiff, Nat.reduceBEq, Nat.reduceBNe, Nat.reduceLT, Nat.reduceLeDiff, reduceCtorEq, Op.operands, flat_take_succ, flat_take_all]
    rw [e]
    refine ⟨.v (.slice none 0 0), .v (.slice none 0 0), .v (.slice none 0 0), ?_, .v (.slice none 0 0), .v (.slice none 0 0), by simp [Wk_nil, noDoc, flat], by simp [Wk_nil, noDoc, flat], ?_⟩
    · simp (maxSteps := 400000) (disch := first | omega | exact okT rfl | simp only [push_cast]) only [push_cast, ↓ite_cnd, ↓reduceIte, Nat.reduceAdd, Nat.reduceMul, Nat.reduceSub, Nat.reduceEqDiff, Nat.reduceBEq, Nat.reduceBNe, Nat.reduceLT, Nat.reduceLeDiff, reduceCtorEq, Op.operands, flat_take_succ, flat_take_all]
      try rfl
    · refine Ent.freeze [] ?_ ?_ rfl rfl rfl
      · simp (maxSteps := 400000) (disch := first | omega | exact okT rfl | simp only [push_cast]) only [push_cast, ↓ite_cnd, ↓reduceIte, Nat.reduceAdd, Nat.reduceMul, Nat.reduceSub, Nat.reduceEqDiff, Nat.reduceBEq, Nat.reduceBNe, Nat.reduceLT, Nat.reduceLeDiff, reduceCtorEq, Op.operands, flat_take_succ, flat_take_all, noDoc]
        try rfl
      · simp (maxSteps := 400000) (disch := first | omega | exact okT rfl | simp only [push_cast]) only [push_cast, ↓ite_cnd, ↓reduceIte, Nat.reduceAdd, Nat.reduceMul, Nat.reduceSub, Nat.reduceEqDiff, Nat.reduceBEq, Nat.reduceBNe, Nat.reduceLT, Nat.reduceLeDiff, reduceCtorEq, Op.operands, flat_take_succ, flat_take_all, noDoc, flat]
        try rfl
  | true =>
    have e : applyP d l = (match manyP (some (desk0 d)) l with | some D => (docR D, 0) | none => (noDoc, 4)) := by simp [applyP, hc]
    have hle := hd.ok.le
    have hlc := hd.ok.lc
    have hlt := hd.ok.lt
    simp (maxSteps := 400000) (disch := first | omega | exact okT rfl | simp only [push_cast]) only [push_cast, ↓ite_cnd, ↓reduceIte, Nat.reduceAdd, Nat.reduceMul, Nat.reduceSub, Nat.reduceEqDiff, Nat.reduceBEq, Nat.reduceBNe, Nat.reduceLT, Nat.reduceLeDiff, reduceCtorEq, Op.operands, flat_take_succ, flat_take_all]
    refine ev_loopI (ι := Nat) (fun i => ⟨[(1, .seq l.length 9 (flat pcell l)), (2, .ptr 0 0), (4, .ptr 1 0), (5, .v (.int .i64 0)), (7, .ptr 2 0), (28, .seq d.entries.length 2 (flat ecell d.entries)), (29, .v (.int .i64 d.entries.length)), (30, .v (.int .i64 i))],
      ⟨[(0, .cells 26 (docL d) false), (1, .cells 26 [.v (.slice none 0 0), .v (.slice none 0 0), .v (.slice none 0 0)] false), (2, .cells 52 [.mp 3, .mp 4, .mp 5] false), (3, .map .strK (keysV (eA (d.entries.take i))) ((eA (d.entries.take i)).map fun e => vsq N e.2)), (4, .map .strK [] []), (5, .map .strK [] [])], 6, 6, 0⟩⟩) (fun i => i ≤ d.entries.length) (fun i => d.entries.length - i) 0 (Nat.zero_le _) ?_ ?_
    · refine Ent.freezeD [(0, 2), (1, 4), (2, 314), (3, 310), (4, 311), (5, 312)] [2] ?_ ?_ rfl rfl rfl
      · simp (maxSteps := 400000) (disch := first | omega | exact okT rfl | simp only [push_cast]) only [push_cast, ↓ite_cnd, ↓reduceIte, Nat.reduceAdd, Nat.reduceMul, Nat.reduceSub, Nat.reduceEqDiff, Nat.reduceBEq, Nat.reduceBNe, Nat.reduceLT, Nat.reduceLeDiff, reduceCtorEq, Op.operands, flat_take_succ, flat_take_all]
      · simp (maxSteps := 400000) (disch := first | omega | exact okT rfl | simp only [push_cast]) only [push_cast, ↓ite_cnd, ↓reduceIte, Nat.reduceAdd, Nat.reduceMul, Nat.reduceSub, Nat.reduceEqDiff, Nat.reduceBEq, Nat.reduceBNe, Nat.reduceLT, Nat.reduceLeDiff, reduceCtorEq, Op.operands, flat_take_succ, flat_take_all]
        first | exact ⟨rfl, rfl⟩ | exact trivial | done
    intro i hi
    simp (maxSteps := 400000) (disch := first | omega | exact okT rfl | simp only [push_cast]) only [push_cast, ↓ite_cnd, ↓reduceIte, Nat.reduceAdd, Nat.reduceMul, Nat.reduceSub, Nat.reduceEqDiff, Nat.reduceBEq, Nat.reduceBNe, Nat.reduceLT, Nat.reduceLeDiff, reduceCtorEq, Op.operands, flat_take_succ, flat_take_all]
    refine ⟨fun h4 => ?_, fun h4 => ?_⟩
    · have hi1 : i < d.entries.length := by omega
      have hve := hd.ve d.entries[i] (List.getElem_mem hi1)
      simp (maxSteps := 400000) (disch := first | omega | exact okT rfl | simp only [push_cast]) only [push_cast, ↓ite_cnd, ↓reduceIte, Nat.reduceAdd, Nat.reduceMul, Nat.reduceSub, Nat.reduceEqDiff, Nat.reduceBEq, Nat.reduceBNe, Nat.reduceLT, Nat.reduceLeDiff, reduceCtorEq, Op.operands, flat_take_succ, flat_take_all]
      refine evDC2.useV (c15N _ hve) rfl ?_
      simp (maxSteps := 400000) (disch := first | omega | exact okT rfl | simp only [push_cast]) only [push_cast, ↓ite_cnd, ↓reduceIte, Nat.reduceAdd, Nat.reduceMul, Nat.reduceSub, Nat.reduceEqDiff, Nat.reduceBEq, Nat.reduceBNe, Nat.reduceLT, Nat.reduceLeDiff, reduceCtorEq, Op.operands, flat_take_succ, flat_take_all]
      refine ⟨i + 1, by show i + 1 ≤ d.entries.length; omega, by show d.entries.length - (i + 1) < d.entries.length - i; omega, ?_⟩
      dsimp only
      rw [eA_succ hi1]
      refine Ent.freezeD [(0, 0), (1, 1), (2, 2), (3, 3), (4, 4), (5, 5)] [2] ?_ ?_ rfl rfl rfl
      · simp (maxSteps := 400000) (disch := first | omega | exact okT rfl | simp only [push_cast]) only [push_cast, ↓ite_cnd, ↓reduceIte, Nat.reduceAdd, Nat.reduceMul, Nat.reduceSub, Nat.reduceEqDiff, Nat.reduceBEq, Nat.reduceBNe, Nat.reduceLT, Nat.reduceLeDiff, reduceCtorEq, Op.operands, flat_take_succ, flat_take_all]
      · simp (maxSteps := 400000) (disch := first | omega | exact okT rfl | simp only [push_cast]) only [push_cast, ↓ite_cnd, ↓reduceIte, Nat.reduceAdd, Nat.reduceMul, Nat.reduceSub, Nat.reduceEqDiff, Nat.reduceBEq, Nat.reduceBNe, Nat.reduceLT, Nat.reduceLeDiff, reduceCtorEq, Op.operands, flat_take_succ, flat_take_all]
        first | exact ⟨rfl, rfl⟩ | exact trivial | done
    have hi1 : i = d.entries.length := by omega
    subst hi1
    simp (maxSteps := 400000) (disch := first | omega | exact okT rfl | simp only [push_cast]) only [push_cast, ↓ite_cnd, ↓reduceIte, Nat.reduceAdd, Nat.reduceMul, Nat.reduceSub, Nat.reduceEqDiff, Nat.reduceBEq, Nat.reduceBNe, Nat.reduceLT, Nat.reduceLeDiff, reduceCtorEq, Op.operands, flat_take_succ, flat_take_all, List.take_length]
    clear h4 hi
    refine ev_loopI (ι := Nat) (fun i => ⟨[(1, .seq l.length 9 (flat pcell l)), (2, .ptr 0 0), (4, .ptr 1 0), (5, .v (.int .i64 0)), (7, .ptr 2 0), (45, .seq d.counts.length 2 (flat ccell d.counts)), (46, .v (.int .i64 d.counts.length)), (47, .v (.int .i64 i))],
      ⟨[(0, .cells 26 (docL d) false), (1, .cells 26 [.v (.slice none 0 0), .v (.slice none 0 0), .v (.slice none 0 0)] false), (2, .cells 52 [.mp 3, .mp 4, .mp 5] false), (3, .map .strK (keysV (eA d.entries)) ((eA d.entries).map fun e => vsq N e.2)), (4, .map .strK (keysV (cA (d.counts.take i))) ((cA (d.counts.take i)).map fun e => AV.v (.int .i64 e.2))), (5, .map .strK [] [])], 6, 6, 0⟩⟩) (fun i => i ≤ d.counts.length) (fun i => d.counts.length - i) 0 (Nat.zero_le _) ?_ ?_
    · refine Ent.freezeD [(0, 0), (1, 1), (2, 2), (3, 3), (4, 4), (5, 5)] [2] ?_ ?_ rfl rfl rfl
      · simp (maxSteps := 400000) (disch := first | omega | exact okT rfl | simp only [push_cast]) only [push_cast, ↓ite_cnd, ↓reduceIte, Nat.reduceAdd, Nat.reduceMul, Nat.reduceSub, Nat.reduceEqDiff, Nat.reduceBEq, Nat.reduceBNe, Nat.reduceLT, Nat.reduceLeDiff, reduceCtorEq, Op.operands, flat_take_succ, flat_take_all]
      · simp (maxSteps := 400000) (disch := first | omega | exact okT rfl | simp only [push_cast]) only [push_cast, ↓ite_cnd, ↓reduceIte, Nat.reduceAdd, Nat.reduceMul, Nat.reduceSub, Nat.reduceEqDiff, Nat.reduceBEq, Nat.reduceBNe, Nat.reduceLT, Nat.reduceLeDiff, reduceCtorEq, Op.operands, flat_take_succ, flat_take_all, idfL_ents]
        first | exact ⟨rfl, rfl⟩ | exact trivial | done
    intro i hi
    simp (maxSteps := 400000) (disch := first | omega | exact okT rfl | simp only [push_cast]) only [push_cast, ↓ite_cnd, ↓reduceIte, Nat.reduceAdd, Nat.reduceMul, Nat.reduceSub, Nat.reduceEqDiff, Nat.reduceBEq, Nat.reduceBNe, Nat.reduceLT, Nat.reduceLeDiff, reduceCtorEq, Op.operands, flat_take_succ, flat_take_all]
    refine ⟨fun h4 => ?_, fun h4 => ?_⟩
    · have hi1 : i < d.counts.length := by omega
      simp (maxSteps := 400000) (disch := first | omega | exact okT rfl | simp only [push_cast]) only [push_cast, ↓ite_cnd, ↓reduceIte, Nat.reduceAdd, Nat.reduceMul, Nat.reduceSub, Nat.reduceEqDiff, Nat.reduceBEq, Nat.reduceBNe, Nat.reduceLT, Nat.reduceLeDiff, reduceCtorEq, Op.operands, flat_take_succ, flat_take_all]
      refine ⟨i + 1, by show i + 1 ≤ d.counts.length; omega, by show d.counts.length - (i + 1) < d.counts.length - i; omega, ?_⟩
      dsimp only
      rw [cA_succ hi1]
      refine Ent.freezeD [(0, 0), (1, 1), (2, 2), (3, 3), (4, 4), (5, 5)] [2] ?_ ?_ rfl rfl rfl
      · simp (maxSteps := 400000) (disch := first | omega | exact okT rfl | simp only [push_cast]) only [push_cast, ↓ite_cnd, ↓reduceIte, Nat.reduceAdd, Nat.reduceMul, Nat.reduceSub, Nat.reduceEqDiff, Nat.reduceBEq, Nat.reduceBNe, Nat.reduceLT, Nat.reduceLeDiff, reduceCtorEq, Op.operands, flat_take_succ, flat_take_all]
      · simp (maxSteps := 400000) (disch := first | omega | exact okT rfl | simp only [push_cast]) only [push_cast, ↓ite_cnd, ↓reduceIte, Nat.reduceAdd, Nat.reduceMul, Nat.reduceSub, Nat.reduceEqDiff, Nat.reduceBEq, Nat.reduceBNe, Nat.reduceLT, Nat.reduceLeDiff, reduceCtorEq, Op.operands, flat_take_succ, flat_take_all, idfL_ents, idfL_cnts]
        first | exact ⟨rfl, rfl⟩ | exact trivial | done
    have hi1 : i = d.counts.length := by omega
    subst hi1
    simp (maxSteps := 400000) (disch := first | omega | exact okT rfl | simp only [push_cast]) only [push_cast, ↓ite_cnd, ↓reduceIte, Nat.reduceAdd, Nat.reduceMul, Nat.reduceSub, Nat.reduceEqDiff, Nat.reduceBEq, Nat.reduceBNe, Nat.reduceLT, Nat.reduceLeDiff, reduceCtorEq, Op.operands, flat_take_succ, flat_take_all, List.take_length]
    clear h4 hi
    refine ev_loopI (ι := Nat) (fun i => ⟨[(1, .seq l.length 9 (flat pcell l)), (2, .ptr 0 0), (4, .ptr 1 0), (5, .v (.int .i64 0)), (7, .ptr 2 0), (61, .seq d.texts.length 2 (flat tcell d.texts)), (62, .v (.int .i64 d.texts.length)), (63, .v (.int .i64 i))],
      ⟨[(0, .cells 26 (docL d) false), (1, .cells 26 [.v (.slice none 0 0), .v (.slice none 0 0), .v (.slice none 0 0)] false), (2, .cells 52 [.mp 3, .mp 4, .mp 5] false), (3, .map .strK (keysV (eA d.entries)) ((eA d.entries).map fun e => vsq N e.2)), (4, .map .strK (keysV (cA d.counts)) ((cA d.counts).map fun e => AV.v (.int .i64 e.2))), (5, .map .strK (keysV (tA (d.texts.take i))) ((tA (d.texts.take i)).map fun e => AV.v (.string e.2)))], 6, 6, 0⟩⟩) (fun i => i ≤ d.texts.length) (fun i => d.texts.length - i) 0 (Nat.zero_le _) ?_ ?_
    · refine Ent.freezeD [(0, 0), (1, 1), (2, 2), (3, 3), (4, 4), (5, 5)] [2] ?_ ?_ rfl rfl rfl
      · simp (maxSteps := 400000) (disch := first | omega | exact okT rfl | simp only [push_cast]) only [push_cast, ↓ite_cnd, ↓reduceIte, Nat.reduceAdd, Nat.reduceMul, Nat.reduceSub, Nat.reduceEqDiff, Nat.reduceBEq, Nat.reduceBNe, Nat.reduceLT, Nat.reduceLeDiff, reduceCtorEq, Op.operands, flat_take_succ, flat_take_all]
      · simp (maxSteps := 400000) (disch := first | omega | exact okT rfl | simp only [push_cast]) only [push_cast, ↓ite_cnd, ↓reduceIte, Nat.reduceAdd, Nat.reduceMul, Nat.reduceSub, Nat.reduceEqDiff, Nat.reduceBEq, Nat.reduceBNe, Nat.reduceLT, Nat.reduceLeDiff, reduceCtorEq, Op.operands, flat_take_succ, flat_take_all, idfL_ents, idfL_cnts]
        first | exact ⟨rfl, rfl⟩ | exact trivial | done
    intro i hi
    simp (maxSteps := 400000) (disch := first | omega | exact okT rfl | simp only [push_cast]) only [push_cast, ↓ite_cnd, ↓reduceIte, Nat.reduceAdd, Nat.reduceMul, Nat.reduceSub, Nat.reduceEqDiff, Nat.reduceBEq, Nat.reduceBNe, Nat.reduceLT, Nat.reduceLeDiff, reduceCtorEq, Op.operands, flat_take_succ, flat_take_all]
    refine ⟨fun h4 => ?_, fun h4 => ?_⟩
    · have hi1 : i < d.texts.length := by omega
      simp (maxSteps := 400000) (disch := first | omega | exact okT rfl | simp only [push_cast]) only [push_cast, ↓ite_cnd, ↓reduceIte, Nat.reduceAdd, Nat.reduceMul, Nat.reduceSub, Nat.reduceEqDiff, Nat.reduceBEq, Nat.reduceBNe, Nat.reduceLT, Nat.reduceLeDiff, reduceCtorEq, Op.operands, flat_take_succ, flat_take_all]
      refine ⟨i + 1, by show i + 1 ≤ d.texts.length; omega, by show d.texts.length - (i + 1) < d.texts.length - i; omega, ?_⟩
      dsimp only
      rw [tA_succ hi1]
      refine Ent.freezeD [(0, 0), (1, 1), (2, 2), (3, 3), (4, 4), (5, 5)] [2] ?_ ?_ rfl rfl rfl
      · simp (maxSteps := 400000) (disch := first | omega | exact okT rfl | simp only [push_cast]) only [push_cast, ↓ite_cnd, ↓reduceIte, Nat.reduceAdd, Nat.reduceMul, Nat.reduceSub, Nat.reduceEqDiff, Nat.reduceBEq, Nat.reduceBNe, Nat.reduceLT, Nat.reduceLeDiff, reduceCtorEq, Op.operands, flat_take_succ, flat_take_all]
      · simp (maxSteps := 400000) (disch := first | omega | exact okT rfl | simp only [push_cast]) only [push_cast, ↓ite_cnd, ↓reduceIte, Nat.reduceAdd, Nat.reduceMul, Nat.reduceSub, Nat.reduceEqDiff, Nat.reduceBEq, Nat.reduceBNe, Nat.reduceLT, Nat.reduceLeDiff, reduceCtorEq, Op.operands, flat_take_succ, flat_take_all, idfL_ents, idfL_cnts, idfL_txts]
        first | exact ⟨rfl, rfl⟩ | exact trivial | done
    have hi1 : i = d.texts.length := by omega
    subst hi1
    simp (maxSteps := 400000) (disch := first | omega | exact okT rfl | simp only [push_cast]) only [push_cast, ↓ite_cnd, ↓reduceIte, Nat.reduceAdd, Nat.reduceMul, Nat.reduceSub, Nat.reduceEqDiff, Nat.reduceBEq, Nat.reduceBNe, Nat.reduceLT, Nat.reduceLeDiff, reduceCtorEq, Op.operands, flat_take_succ, flat_take_all, List.take_length]
    clear h4 hi
    have h0 : desk0 d = ⟨eA d.entries, cA d.counts, tA d.texts⟩ := rfl
    refine ev_loopI (ι := Nat × DeskV) (fun s => ⟨[(4, .ptr 0 0), (5, .v (.int .i64 0)), (7, .ptr 1 0), (76, .seq l.length 9 (flat pcell l)), (77, .v (.int .i64 l.length)), (78, .v (.int .i64 s.1))],
      ⟨[(0, .cells 26 [.v (.slice none 0 0), .v (.slice none 0 0), .v (.slice none 0 0)] false), (1, .cells 52 [.mp 2, .mp 3, .mp 4] false), (2, .map .strK (keysV s.2.ents) (s.2.ents.map fun e => vsq N e.2)), (3, .map .strK (keysV s.2.cnts) (s.2.cnts.map fun e => AV.v (.int .i64 e.2))), (4, .map .strK (keysV s.2.txts) (s.2.txts.map fun e => AV.v (.string e.2)))], 5, 5, 0⟩⟩)
      (fun s => s.1 ≤ l.length ∧ manyP (some (desk0 d)) (l.take s.1) = some s.2 ∧ DeskB s.2 (l.length - s.1) (putsN (l.drop s.1))) (fun s => l.length - s.1) (0, desk0 d) ⟨Nat.zero_le _, by simp [manyP], by simpa using desk0_B hd hl⟩ ?_ ?_
    · refine Ent.freezeD [(0, 1), (1, 2), (2, 3), (3, 4), (4, 5)] [1] ?_ ?_ rfl rfl rfl
      · simp (maxSteps := 400000) (disch := first | omega | exact okT rfl | simp only [push_cast]) only [push_cast, ↓ite_cnd, ↓reduceIte, Nat.reduceAdd, Nat.reduceMul, Nat.reduceSub, Nat.reduceEqDiff, Nat.reduceBEq, Nat.reduceBNe, Nat.reduceLT, Nat.reduceLeDiff, reduceCtorEq, Op.operands, flat_take_succ, flat_take_all]
      · simp (maxSteps := 400000) (disch := first | omega | exact okT rfl | simp only [push_cast]) only [push_cast, ↓ite_cnd, ↓reduceIte, Nat.reduceAdd, Nat.reduceMul, Nat.reduceSub, Nat.reduceEqDiff, Nat.reduceBEq, Nat.reduceBNe, Nat.reduceLT, Nat.reduceLeDiff, reduceCtorEq, Op.operands, flat_take_succ, flat_take_all, idfL_ents, idfL_cnts, idfL_txts, h0]
        first | exact ⟨rfl, rfl⟩ | exact trivial | done
    rintro ⟨i, D⟩ ⟨hi, hm, hB⟩
    dsimp only at hi hm hB ⊢
    simp (maxSteps := 400000) (disch := first | omega | exact okT rfl | simp only [push_cast]) only [push_cast, ↓ite_cnd, ↓reduceIte, Nat.reduceAdd, Nat.reduceMul, Nat.reduceSub, Nat.reduceEqDiff, Nat.reduceBEq, Nat.reduceBNe, Nat.reduceLT, Nat.reduceLeDiff, reduceCtorEq, Op.operands, flat_take_succ, flat_take_all]
    refine ⟨fun h4 => ?_, fun h4 => ?_⟩
    case refine_2 =>
      have hi1 : i = l.length := by omega
      subst hi1
      rw [List.take_length] at hm
      simp (maxSteps := 400000) (disch := first | omega | exact okT rfl | simp only [push_cast]) only [push_cast, ↓ite_cnd, ↓reduceIte, Nat.reduceAdd, Nat.reduceMul, Nat.reduceSub, Nat.reduceEqDiff, Nat.reduceBEq, Nat.reduceBNe, Nat.reduceLT, Nat.reduceLeDiff, reduceCtorEq, Op.operands, flat_take_succ, flat_take_all]
      refine PDoc.useF (ids := [1, 2, 3, 4]) (u := [(1, .dead), (2, .dead), (3, .dead), (4, .dead)]) (c18 N D (by have := hB.le; omega) (by have := hB.lc; omega) (by have := hB.lt; omega)) ?_ rfl ?_
      · simp [snapArgs, snap, Mem.find, lk, snapL, idfL, idf, snapM, idfL_ents, idfL_cnts, idfL_txts, mvE, mvC, mvT]
      · simp (maxSteps := 400000) (disch := first | omega | exact okT rfl | simp only [push_cast]) only [push_cast, ↓ite_cnd, ↓reduceIte, Nat.reduceAdd, Nat.reduceMul, Nat.reduceSub, Nat.reduceEqDiff, Nat.reduceBEq, Nat.reduceBNe, Nat.reduceLT, Nat.reduceLeDiff, reduceCtorEq, Op.operands, flat_take_succ, flat_take_all, List.cons_append, List.nil_append, Option.map_none]
        rw [e, hm]
        refine ⟨.sl 197 0 (docR D).entries.length 2, .seq (docR D).counts.length 2 (flat ccell (docR D).counts), .seq (docR D).texts.length 2 (flat tcell (docR D).texts), ?_, _, _, Wk_refl _, Wk_refl _, ?_⟩
        · simp (maxSteps := 400000) (disch := first | omega | exact okT rfl | simp only [push_cast]) only [push_cast, ↓ite_cnd, ↓reduceIte, Nat.reduceAdd, Nat.reduceMul, Nat.reduceSub, Nat.reduceEqDiff, Nat.reduceBEq, Nat.reduceBNe, Nat.reduceLT, Nat.reduceLeDiff, reduceCtorEq, Op.operands, flat_take_succ, flat_take_all, Option.map_some]
          try rfl
        · refine Ent.freeze [(0, 197)] ?_ ?_ rfl rfl rfl
          · simp (maxSteps := 400000) (disch := first | omega | exact okT rfl | simp only [push_cast]) only [push_cast, ↓ite_cnd, ↓reduceIte, Nat.reduceAdd, Nat.reduceMul, Nat.reduceSub, Nat.reduceEqDiff, Nat.reduceBEq, Nat.reduceBNe, Nat.reduceLT, Nat.reduceLeDiff, reduceCtorEq, Op.operands, flat_take_succ, flat_take_all]
          · simp (maxSteps := 400000) (disch := first | omega | exact okT rfl | simp only [push_cast]) only [push_cast, ↓ite_cnd, ↓reduceIte, Nat.reduceAdd, Nat.reduceMul, Nat.reduceSub, Nat.reduceEqDiff, Nat.reduceBEq, Nat.reduceBNe, Nat.reduceLT, Nat.reduceLeDiff, reduceCtorEq, Op.operands, flat_take_succ, flat_take_all]
            try rfl
    · have hi1 : i < l.length := by omega
      have hpi := hp l[i] (List.getElem_mem hi1)
      simp (maxSteps := 400000) (disch := first | omega | exact okT rfl | simp only [push_cast]) only [push_cast, ↓ite_cnd, ↓reduceIte, Nat.reduceAdd, Nat.reduceMul, Nat.reduceSub, Nat.reduceEqDiff, Nat.reduceBEq, Nat.reduceBNe, Nat.reduceLT, Nat.reduceLeDiff, reduceCtorEq, Op.operands, flat_take_succ, flat_take_all]
      refine PCall.useV (c16 _ hpi.n).gam ?_
      have hsuc := manyP_step hi1 hm
      have hfail := fun hs => manyP_fail hi1 hm hs
      have hputs : putsN (l.drop i) = putsN (l.drop (i + 1)) + l[i].put.size := by
        rw [List.drop_eq_getElem_cons hi1]
        simp only [putsN, List.map_cons, List.sum_cons]; omega
      have hB2 : DeskB D (l.length - (i + 1) + 1) (putsN (l.drop (i + 1)) + l[i].put.size) := by
        rw [← hputs, show l.length - (i + 1) + 1 = l.length - i by omega]; exact hB
      have hnext : ∀ D', stepP D l[i] = some D' → doF D l[i] = some D' → i + 1 ≤ l.length ∧ manyP (some (desk0 d)) (l.take (i + 1)) = some D' ∧ DeskB D' (l.length - (i + 1)) (putsN (l.drop (i + 1))) := fun D' h1 h2 => ⟨hi1, by rw [hsuc, h1], doF_B hB2 h2⟩
      clear hsuc hputs hB
      generalize l[i] = p at *
      cases hn : nameB p.name with
      | false =>
        have hall := hfail (by simp [stepP, hn])
        simp (maxSteps := 400000) (disch := first | omega | exact okT rfl | simp only [push_cast]) only [push_cast, ↓ite_cnd, ↓reduceIte, Nat.reduceAdd, Nat.reduceMul, Nat.reduceSub, Nat.reduceEqDiff, Nat.reduceBEq, Nat.reduceBNe, Nat.reduceLT, Nat.reduceLeDiff, reduceCtorEq, Op.operands, flat_take_succ, flat_take_all, Bool.not_false]
        rw [e, hall]
        refine endD_err ?_ rfl
        simp (maxSteps := 400000) (disch := first | omega | exact okT rfl | simp only [push_cast]) only [push_cast, ↓ite_cnd, ↓reduceIte, Nat.reduceAdd, Nat.reduceMul, Nat.reduceSub, Nat.reduceEqDiff, Nat.reduceBEq, Nat.reduceBNe, Nat.reduceLT, Nat.reduceLeDiff, reduceCtorEq, Op.operands, flat_take_succ, flat_take_all]
      | true =>
        have hst : stepP D p = doF D p := by simp [stepP, hn]
        rw [hst] at hfail hnext
        simp (maxSteps := 400000) (disch := first | omega | exact okT rfl | simp only [push_cast]) only [push_cast, ↓ite_cnd, ↓reduceIte, Nat.reduceAdd, Nat.reduceMul, Nat.reduceSub, Nat.reduceEqDiff, Nat.reduceBEq, Nat.reduceBNe, Nat.reduceLT, Nat.reduceLeDiff, reduceCtorEq, Op.operands, flat_take_succ, flat_take_all, Bool.not_true]
        refine ACalls.start Try.func17 rfl (by kernel_rfl) rfl Try.ntmps17 fol (by kernel_rfl) ?_
        simp only [List.zipIdx_cons, List.zipIdx_nil, List.map_cons, List.map_nil, Nat.zero_add]
        simp (maxSteps := 400000) (disch := first | omega | exact okT rfl | simp only [push_cast]) only [push_cast, ↓ite_cnd, ↓reduceIte, Nat.reduceAdd, Nat.reduceMul, Nat.reduceSub, Nat.reduceEqDiff, Nat.reduceBEq, Nat.reduceBNe, Nat.reduceLT, Nat.reduceLeDiff, reduceCtorEq, Op.operands, flat_take_succ, flat_take_all]
        refine ⟨fun k1 => ?_, fun k1 => ?_⟩
        · simp (maxSteps := 400000) (disch := first | omega | exact okT rfl | simp only [push_cast]) only [push_cast, ↓ite_cnd, ↓reduceIte, Nat.reduceAdd, Nat.reduceMul, Nat.reduceSub, Nat.reduceEqDiff, Nat.reduceBEq, Nat.reduceBNe, Nat.reduceLT, Nat.reduceLeDiff, reduceCtorEq, Op.operands, flat_take_succ, flat_take_all]
          refine evDC2.useV (c15N _ hpi.v) rfl ?_
          have hvl := hpi.v
          simp (maxSteps := 400000) (disch := first | omega | exact okT rfl | simp only [push_cast]) only [push_cast, ↓ite_cnd, ↓reduceIte, Nat.reduceAdd, Nat.reduceMul, Nat.reduceSub, Nat.reduceEqDiff, Nat.reduceBEq, Nat.reduceBNe, Nat.reduceLT, Nat.reduceLeDiff, reduceCtorEq, Op.operands, flat_take_succ, flat_take_all]
          refine ⟨fun h5 => ?_, fun h5 => ?_⟩
          · have h5' : ¬ p.gone = decide (p.values.length = 0) := by simpa using h5
            have he : doF D p = none := by unfold doF; rw [if_pos k1, if_neg h5']
            simp (maxSteps := 400000) (disch := first | omega | exact okT rfl | simp only [push_cast]) only [push_cast, ↓ite_cnd, ↓reduceIte, Nat.reduceAdd, Nat.reduceMul, Nat.reduceSub, Nat.reduceEqDiff, Nat.reduceBEq, Nat.reduceBNe, Nat.reduceLT, Nat.reduceLeDiff, reduceCtorEq, Op.operands, flat_take_succ, flat_take_all]
            rw [e, hfail he]
            refine endD_err ?_ rfl
            simp (maxSteps := 400000) (disch := first | omega | exact okT rfl | simp only [push_cast]) only [push_cast, ↓ite_cnd, ↓reduceIte, Nat.reduceAdd, Nat.reduceMul, Nat.reduceSub, Nat.reduceEqDiff, Nat.reduceBEq, Nat.reduceBNe, Nat.reduceLT, Nat.reduceLeDiff, reduceCtorEq, Op.operands, flat_take_succ, flat_take_all]
          · have h5' : p.gone = decide (p.values.length = 0) := by simpa using h5
            have he : doF D p = some { D with ents := aset D.ents p.name p.values } := by unfold doF; rw [if_pos k1, if_pos h5']
            simp (maxSteps := 400000) (disch := first | omega | exact okT rfl | simp only [push_cast]) only [push_cast, ↓ite_cnd, ↓reduceIte, Nat.reduceAdd, Nat.reduceMul, Nat.reduceSub, Nat.reduceEqDiff, Nat.reduceBEq, Nat.reduceBNe, Nat.reduceLT, Nat.reduceLeDiff, reduceCtorEq, Op.operands, flat_take_succ, flat_take_all]
            refine ⟨(i + 1, { D with ents := aset D.ents p.name p.values }), hnext _ he he, by show l.length - (i + 1) < l.length - i; omega, ?_⟩
            refine Ent.freezeD [(0, 0), (1, 1), (2, 2), (3, 3), (4, 4)] [1] ?_ ?_ rfl rfl rfl
            · simp (maxSteps := 400000) (disch := first | omega | exact okT rfl | simp only [push_cast]) only [push_cast, ↓ite_cnd, ↓reduceIte, Nat.reduceAdd, Nat.reduceMul, Nat.reduceSub, Nat.reduceEqDiff, Nat.reduceBEq, Nat.reduceBNe, Nat.reduceLT, Nat.reduceLeDiff, reduceCtorEq, Op.operands, flat_take_succ, flat_take_all]
            · simp (maxSteps := 400000) (disch := first | omega | exact okT rfl | simp only [push_cast]) only [push_cast, ↓ite_cnd, ↓reduceIte, Nat.reduceAdd, Nat.reduceMul, Nat.reduceSub, Nat.reduceEqDiff, Nat.reduceBEq, Nat.reduceBNe, Nat.reduceLT, Nat.reduceLeDiff, reduceCtorEq, Op.operands, flat_take_succ, flat_take_all, idfL_ents, idfL_cnts, idfL_txts]
              try trivial
        · simp (maxSteps := 400000) (disch := first | omega | exact okT rfl | simp only [push_cast]) only [push_cast, ↓ite_cnd, ↓reduceIte, Nat.reduceAdd, Nat.reduceMul, Nat.reduceSub, Nat.reduceEqDiff, Nat.reduceBEq, Nat.reduceBNe, Nat.reduceLT, Nat.reduceLeDiff, reduceCtorEq, Op.operands, flat_take_succ, flat_take_all]
          refine ⟨fun k2 => ?_, fun k2 => ?_⟩
          · simp (maxSteps := 400000) (disch := first | omega | exact okT rfl | simp only [push_cast]) only [push_cast, ↓ite_cnd, ↓reduceIte, Nat.reduceAdd, Nat.reduceMul, Nat.reduceSub, Nat.reduceEqDiff, Nat.reduceBEq, Nat.reduceBNe, Nat.reduceLT, Nat.reduceLeDiff, reduceCtorEq, Op.operands, flat_take_succ, flat_take_all]
            cases hg : p.gone with
            | true =>
              simp (maxSteps := 400000) (disch := first | omega | exact okT rfl | simp only [push_cast]) only [push_cast, ↓ite_cnd, ↓reduceIte, Nat.reduceAdd, Nat.reduceMul, Nat.reduceSub, Nat.reduceEqDiff, Nat.reduceBEq, Nat.reduceBNe, Nat.reduceLT, Nat.reduceLeDiff, reduceCtorEq, Op.operands, flat_take_succ, flat_take_all, hg, Bool.not_true, Bool.not_false]
              refine ⟨fun h5 => ?_, fun h5 => ?_⟩
              · have he : doF D p = none := by unfold doF; rw [if_neg k1, if_pos k2, if_pos ⟨hg, h5⟩]
                simp (maxSteps := 400000) (disch := first | omega | exact okT rfl | simp only [push_cast]) only [push_cast, ↓ite_cnd, ↓reduceIte, Nat.reduceAdd, Nat.reduceMul, Nat.reduceSub, Nat.reduceEqDiff, Nat.reduceBEq, Nat.reduceBNe, Nat.reduceLT, Nat.reduceLeDiff, reduceCtorEq, Op.operands, flat_take_succ, flat_take_all, hg, Bool.not_true, Bool.not_false]
                rw [e, hfail he]
                refine endD_err ?_ rfl
                simp (maxSteps := 400000) (disch := first | omega | exact okT rfl | simp only [push_cast]) only [push_cast, ↓ite_cnd, ↓reduceIte, Nat.reduceAdd, Nat.reduceMul, Nat.reduceSub, Nat.reduceEqDiff, Nat.reduceBEq, Nat.reduceBNe, Nat.reduceLT, Nat.reduceLeDiff, reduceCtorEq, Op.operands, flat_take_succ, flat_take_all]
              · have he : doF D p = some { D with cnts := adel (aset D.cnts p.name p.by_) p.name } := by unfold doF; rw [if_neg k1, if_pos k2, if_neg (fun h => h.2 h5), if_pos hg]
                simp (maxSteps := 400000) (disch := first | omega | exact okT rfl | simp only [push_cast]) only [push_cast, ↓ite_cnd, ↓reduceIte, Nat.reduceAdd, Nat.reduceMul, Nat.reduceSub, Nat.reduceEqDiff, Nat.reduceBEq, Nat.reduceBNe, Nat.reduceLT, Nat.reduceLeDiff, reduceCtorEq, Op.operands, flat_take_succ, flat_take_all, hg, Bool.not_true, Bool.not_false]
                refine ⟨(i + 1, { D with cnts := adel (aset D.cnts p.name p.by_) p.name }), hnext _ he he, by show l.length - (i + 1) < l.length - i; omega, ?_⟩
                refine Ent.freezeD [(0, 0), (1, 1), (2, 2), (3, 3), (4, 4)] [1] ?_ ?_ rfl rfl rfl
                · simp (maxSteps := 400000) (disch := first | omega | exact okT rfl | simp only [push_cast]) only [push_cast, ↓ite_cnd, ↓reduceIte, Nat.reduceAdd, Nat.reduceMul, Nat.reduceSub, Nat.reduceEqDiff, Nat.reduceBEq, Nat.reduceBNe, Nat.reduceLT, Nat.reduceLeDiff, reduceCtorEq, Op.operands, flat_take_succ, flat_take_all]
                · simp (maxSteps := 400000) (disch := first | omega | exact okT rfl | simp only [push_cast]) only [push_cast, ↓ite_cnd, ↓reduceIte, Nat.reduceAdd, Nat.reduceMul, Nat.reduceSub, Nat.reduceEqDiff, Nat.reduceBEq, Nat.reduceBNe, Nat.reduceLT, Nat.reduceLeDiff, reduceCtorEq, Op.operands, flat_take_succ, flat_take_all, idfL_ents, idfL_cnts, idfL_txts]
                  try trivial
            | false =>
              have he : doF D p = some { D with cnts := aset D.cnts p.name p.by_ } := by unfold doF; rw [if_neg k1, if_pos k2, if_neg (fun h => by rw [hg] at h; cases h.1), if_neg (by rw [hg]; simp)]
              simp (maxSteps := 400000) (disch := first | omega | exact okT rfl | simp only [push_cast]) only [push_cast, ↓ite_cnd, ↓reduceIte, Nat.reduceAdd, Nat.reduceMul, Nat.reduceSub, Nat.reduceEqDiff, Nat.reduceBEq, Nat.reduceBNe, Nat.reduceLT, Nat.reduceLeDiff, reduceCtorEq, Op.operands, flat_take_succ, flat_take_all, hg, Bool.not_true, Bool.not_false]
              refine ⟨(i + 1, { D with cnts := aset D.cnts p.name p.by_ }), hnext _ he he, by show l.length - (i + 1) < l.length - i; omega, ?_⟩
              refine Ent.freezeD [(0, 0), (1, 1), (2, 2), (3, 3), (4, 4)] [1] ?_ ?_ rfl rfl rfl
              · simp (maxSteps := 400000) (disch := first | omega | exact okT rfl | simp only [push_cast]) only [push_cast, ↓ite_cnd, ↓reduceIte, Nat.reduceAdd, Nat.reduceMul, Nat.reduceSub, Nat.reduceEqDiff, Nat.reduceBEq, Nat.reduceBNe, Nat.reduceLT, Nat.reduceLeDiff, reduceCtorEq, Op.operands, flat_take_succ, flat_take_all]
              · simp (maxSteps := 400000) (disch := first | omega | exact okT rfl | simp only [push_cast]) only [push_cast, ↓ite_cnd, ↓reduceIte, Nat.reduceAdd, Nat.reduceMul, Nat.reduceSub, Nat.reduceEqDiff, Nat.reduceBEq, Nat.reduceBNe, Nat.reduceLT, Nat.reduceLeDiff, reduceCtorEq, Op.operands, flat_take_succ, flat_take_all, idfL_ents, idfL_cnts, idfL_txts]
                try trivial
          · simp (maxSteps := 400000) (disch := first | omega | exact okT rfl | simp only [push_cast]) only [push_cast, ↓ite_cnd, ↓reduceIte, Nat.reduceAdd, Nat.reduceMul, Nat.reduceSub, Nat.reduceEqDiff, Nat.reduceBEq, Nat.reduceBNe, Nat.reduceLT, Nat.reduceLeDiff, reduceCtorEq, Op.operands, flat_take_succ, flat_take_all]
            refine ⟨fun k3 => ?_, fun k3 => ?_⟩
            · have b1 := hpi.a0
              have b2 := hpi.a1
              have b3 := hpi.c0
              have b4 := hpi.c1
              have hget := hB2.get p.name
              have bad : (p.gone = true ∨ p.at_ < 0 ∨ ((((aget D.txts p.name).getD ⟨#[]⟩).size : Int) < p.at_) ∨ p.cut < 0 ∨ (((aget D.txts p.name).getD ⟨#[]⟩).size : Int) - p.at_ < p.cut) → doF D p = none := fun h => by unfold doF; rw [if_neg k1, if_neg k2, if_pos k3, if_pos h]
              have good : ¬ (p.gone = true ∨ p.at_ < 0 ∨ ((((aget D.txts p.name).getD ⟨#[]⟩).size : Int) < p.at_) ∨ p.cut < 0 ∨ (((aget D.txts p.name).getD ⟨#[]⟩).size : Int) - p.at_ < p.cut) → doF D p = some { D with txts := aset D.txts p.name (((aget D.txts p.name).getD ⟨#[]⟩).extract 0 p.at_.toNat ++ p.put ++ ((aget D.txts p.name).getD ⟨#[]⟩).extract (p.at_.toNat + p.cut.toNat) ((aget D.txts p.name).getD ⟨#[]⟩).size) } := fun h => by unfold doF; rw [if_neg k1, if_neg k2, if_pos k3, if_neg h]
              simp (maxSteps := 400000) (disch := first | omega | exact okT rfl | simp only [push_cast]) only [push_cast, ↓ite_cnd, ↓reduceIte, Nat.reduceAdd, Nat.reduceMul, Nat.reduceSub, Nat.reduceEqDiff, Nat.reduceBEq, Nat.reduceBNe, Nat.reduceLT, Nat.reduceLeDiff, reduceCtorEq, Op.operands, flat_take_succ, flat_take_all, or_true, true_and]
              cases hg : p.gone with
              | true =>
                have he := bad (.inl hg)
                simp (maxSteps := 400000) (disch := first | omega | exact okT rfl | simp only [push_cast]) only [push_cast, ↓ite_cnd, ↓reduceIte, Nat.reduceAdd, Nat.reduceMul, Nat.reduceSub, Nat.reduceEqDiff, Nat.reduceBEq, Nat.reduceBNe, Nat.reduceLT, Nat.reduceLeDiff, reduceCtorEq, Op.operands, flat_take_succ, flat_take_all, hg, Bool.not_true, Bool.not_false]
                rw [e, hfail he]
                refine endD_err ?_ rfl
                simp (maxSteps := 400000) (disch := first | omega | exact okT rfl | simp only [push_cast]) only [push_cast, ↓ite_cnd, ↓reduceIte, Nat.reduceAdd, Nat.reduceMul, Nat.reduceSub, Nat.reduceEqDiff, Nat.reduceBEq, Nat.reduceBNe, Nat.reduceLT, Nat.reduceLeDiff, reduceCtorEq, Op.operands, flat_take_succ, flat_take_all]
              | false =>
              simp (maxSteps := 400000) (disch := first | omega | exact okT rfl | simp only [push_cast]) only [push_cast, ↓ite_cnd, ↓reduceIte, Nat.reduceAdd, Nat.reduceMul, Nat.reduceSub, Nat.reduceEqDiff, Nat.reduceBEq, Nat.reduceBNe, Nat.reduceLT, Nat.reduceLeDiff, reduceCtorEq, Op.operands, flat_take_succ, flat_take_all, hg, Bool.not_true, Bool.not_false]
              iterate 5 all_goals (try (refine ⟨fun h => ?_, fun h => ?_⟩ <;> simp (maxSteps := 400000) (disch := first | omega | exact okT rfl | simp only [push_cast]) only [push_cast, ↓ite_cnd, ↓reduceIte, Nat.reduceAdd, Nat.reduceMul, Nat.reduceSub, Nat.reduceEqDiff, Nat.reduceBEq, Nat.reduceBNe, Nat.reduceLT, Nat.reduceLeDiff, reduceCtorEq, Op.operands, flat_take_succ, flat_take_all, hg]))
              all_goals (try (have he := bad (.inr (by omega)); rw [e, hfail he]; refine endD_err ?_ rfl; simp (maxSteps := 400000) (disch := first | omega | exact okT rfl | simp only [push_cast]) only [push_cast, ↓ite_cnd, ↓reduceIte, Nat.reduceAdd, Nat.reduceMul, Nat.reduceSub, Nat.reduceEqDiff, Nat.reduceBEq, Nat.reduceBNe, Nat.reduceLT, Nat.reduceLeDiff, reduceCtorEq, Op.operands, flat_take_succ, flat_take_all]; done))
              have he := good (by rw [hg]; simp; omega)
              have x1 : (((aget D.txts p.name).getD ⟨#[]⟩).extract 0 p.at_.toNat).size ≤ ((aget D.txts p.name).getD ⟨#[]⟩).size := by rw [ByteArray.size_extract]; omega
              have x2 : (((aget D.txts p.name).getD ⟨#[]⟩).extract (p.at_ + p.cut).toNat ((aget D.txts p.name).getD ⟨#[]⟩).size).size ≤ ((aget D.txts p.name).getD ⟨#[]⟩).size := by rw [ByteArray.size_extract]; omega
              have x3 : (p.at_ + p.cut).toNat = p.at_.toNat + p.cut.toNat := by omega
              refine ⟨by omega, by omega, ?_⟩
              simp (maxSteps := 400000) (disch := first | omega | exact okT rfl | simp only [push_cast]) only [push_cast, ↓ite_cnd, ↓reduceIte, Nat.reduceAdd, Nat.reduceMul, Nat.reduceSub, Nat.reduceEqDiff, Nat.reduceBEq, Nat.reduceBNe, Nat.reduceLT, Nat.reduceLeDiff, reduceCtorEq, Op.operands, flat_take_succ, flat_take_all, hg, x3, Bool.not_true, Bool.not_false]
              refine ⟨(i + 1, { D with txts := aset D.txts p.name (((aget D.txts p.name).getD ⟨#[]⟩).extract 0 p.at_.toNat ++ p.put ++ ((aget D.txts p.name).getD ⟨#[]⟩).extract (p.at_.toNat + p.cut.toNat) ((aget D.txts p.name).getD ⟨#[]⟩).size) }), hnext _ he he, by show l.length - (i + 1) < l.length - i; omega, ?_⟩
              refine Ent.freezeD [(0, 0), (1, 1), (2, 2), (3, 3), (4, 4)] [1] ?_ ?_ rfl rfl rfl
              · simp (maxSteps := 400000) (disch := first | omega | exact okT rfl | simp only [push_cast]) only [push_cast, ↓ite_cnd, ↓reduceIte, Nat.reduceAdd, Nat.reduceMul, Nat.reduceSub, Nat.reduceEqDiff, Nat.reduceBEq, Nat.reduceBNe, Nat.reduceLT, Nat.reduceLeDiff, reduceCtorEq, Op.operands, flat_take_succ, flat_take_all]
              · simp (maxSteps := 400000) (disch := first | omega | exact okT rfl | simp only [push_cast]) only [push_cast, ↓ite_cnd, ↓reduceIte, Nat.reduceAdd, Nat.reduceMul, Nat.reduceSub, Nat.reduceEqDiff, Nat.reduceBEq, Nat.reduceBNe, Nat.reduceLT, Nat.reduceLeDiff, reduceCtorEq, Op.operands, flat_take_succ, flat_take_all, idfL_ents, idfL_cnts, idfL_txts]
                try trivial
            · have he : doF D p = none := by unfold doF; rw [if_neg k1, if_neg k2, if_neg k3]
              simp (maxSteps := 400000) (disch := first | omega | exact okT rfl | simp only [push_cast]) only [push_cast, ↓ite_cnd, ↓reduceIte, Nat.reduceAdd, Nat.reduceMul, Nat.reduceSub, Nat.reduceEqDiff, Nat.reduceBEq, Nat.reduceBNe, Nat.reduceLT, Nat.reduceLeDiff, reduceCtorEq, Op.operands, flat_take_succ, flat_take_all]
              rw [e, hfail he]
              refine endD_err ?_ rfl
              simp (maxSteps := 400000) (disch := first | omega | exact okT rfl | simp only [push_cast]) only [push_cast, ↓ite_cnd, ↓reduceIte, Nat.reduceAdd, Nat.reduceMul, Nat.reduceSub, Nat.reduceEqDiff, Nat.reduceBEq, Nat.reduceBNe, Nat.reduceLT, Nat.reduceLeDiff, reduceCtorEq, Op.operands, flat_take_succ, flat_take_all]
end Go.AW
