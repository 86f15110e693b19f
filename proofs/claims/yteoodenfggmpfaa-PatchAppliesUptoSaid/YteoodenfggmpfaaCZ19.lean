/- What the program does with patches is what the document says: joined. -/
import Derived.Test.YteoodenfggmpfaaCZ18
namespace Go.AW

section
variable {α : Type} {nm : α → ByteArray} {p : ByteArray → List α}
open Classical in
theorem fd_flat {k : ByteArray} (hp : ∀ k, ∀ e ∈ p k, nm e = k) : ∀ {ks : List ByteArray}, fd nm (ks.flatMap p) k = if k ∈ ks then (p k).head? else none
  | [] => by simp [fd]
  | n :: ks => by
    have ih := fd_flat (k := k) hp (ks := ks)
    rw [List.flatMap_cons, fd_app, ih]
    by_cases h : k = n
    · subst h
      have : fd nm (p k) k = (p k).head? := by
        cases hk : p k with
        | nil => simp [fd]
        | cons e l => have := hp k e (by rw [hk]; exact List.mem_cons_self); simp [fd, this]
      rw [this]
      cases (p k).head? <;> simp
    · have : fd nm (p n) k = none := fd_none fun e he h2 => h (h2.symm.trans (hp n e he))
      rw [this]
      simp [h]
theorem rising_flat (hp : ∀ k, ∀ e ∈ p k, nm e = k) (h1 : ∀ k, (p k).length ≤ 1) : ∀ {ks : List ByteArray}, Rising id ks → Rising nm (ks.flatMap p)
  | [], _ => List.Pairwise.nil
  | n :: ks, h => by
    unfold Rising at h ⊢
    rw [List.pairwise_cons] at h
    rw [List.flatMap_cons, List.pairwise_append]
    refine ⟨?_, rising_flat hp h1 h.2, fun a ha b hb => ?_⟩
    · have := h1 n
      cases hn : p n with
      | nil => exact List.Pairwise.nil
      | cons e l =>
        rw [hn] at this
        have : l = [] := List.eq_nil_of_length_eq_zero (by simpa using this)
        subst this
        exact List.pairwise_singleton _ _
    · rw [List.mem_flatMap] at hb
      obtain ⟨m, hm, hb⟩ := hb
      rw [hp n a ha, hp m b hb]
      exact h.1 m hm
end
theorem rising_sortB {ks : List ByteArray} (h : ks.Nodup) : Rising id (sortB ks) := by
  have total : ∀ a b : List UInt8, (decide (a ≤ b) || decide (b ≤ a)) = true := fun a b => by
    rcases List.le_total a b with h | h <;> simp [h]
  have trans : ∀ a b c : List UInt8, decide (a ≤ b) = true → decide (b ≤ c) = true → decide (a ≤ c) = true := fun a b c h1 h2 => by
    simp only [decide_eq_true_eq] at *; exact List.le_trans h1 h2
  have hs := List.pairwise_mergeSort trans total (ks.map (·.data.toList))
  have hn : ((ks.map (·.data.toList)).mergeSort fun x y => decide (x ≤ y)).Nodup := by
    rw [(List.mergeSort_perm _ _).nodup_iff]
    unfold List.Nodup at *
    rw [List.pairwise_map]
    exact h.imp fun hne he => hne (data_inj he)
  unfold Rising sortB
  rw [List.pairwise_map]
  have := hs.and hn
  refine this.imp fun {a b} h => ?_
  obtain ⟨h1, h2⟩ := h
  simp only [decide_eq_true_eq] at h1
  show a.toArray.toList < b.toArray.toList
  simp only [List.toList_toArray]
  rcases Classical.em (a < b) with h3 | h3
  · exact h3
  · exact absurd (List.le_antisymm h1 (List.not_lt.1 h3)) h2
theorem mem_sortB' {l : List ByteArray} {k : ByteArray} (h : k ∈ l) : k ∈ sortB l := by
  simp only [sortB, List.mem_map]
  refine ⟨k.data.toList, (List.mergeSort_perm _ _).mem_iff.2 (List.mem_map.2 ⟨k, h, rfl⟩), by simp⟩

theorem pE_nm (D : DeskV) (k : ByteArray) : ∀ e ∈ pE D k, e.key = k := by
  intro e he
  unfold pE at he
  split at he
  · split at he
    · cases he
    · simp at he; rw [he]
  · cases he
theorem pC_nm (D : DeskV) (k : ByteArray) : ∀ e ∈ pCn D k, e.key = k := by
  intro e he
  unfold pCn at he
  split at he
  · simp at he; rw [he]
  · cases he
theorem pT_nm (D : DeskV) (k : ByteArray) : ∀ e ∈ pT D k, e.name = k := by
  intro e he
  unfold pT at he
  split at he
  · split at he
    · cases he
    · simp at he; rw [he]
  · cases he

/-- A desk and a document say the same. -/
structure DRel (D : DeskV) (c : DocV) : Prop where
  ne : NodK D.ents
  nc : NodK D.cnts
  nt : NodK D.txts
  re : Rising (·.key) c.entries
  rc : Rising (·.key) c.counts
  rt : Rising (·.name) c.texts
  le : ∀ k, fd (·.key) c.entries k = (pE D k).head?
  lc : ∀ k, fd (·.key) c.counts k = (pCn D k).head?
  lt : ∀ k, fd (·.name) c.texts k = (pT D k).head?

theorem docR_eq {D : DeskV} {c : DocV} (h : DRel D c) : docR D = c := by
  obtain ⟨h1, h2, h3, h4, h5, h6, h7, h8, h9⟩ := h
  have e1 : (docR D).entries = c.entries := rising_ext (nm := (·.key)) (rising_flat (pE_nm D) (pE_le D) (rising_sortB h1)) h4 fun k => by
    rw [h7]
    show fd (·.key) ((sortB (D.ents.map (·.1))).flatMap (pE D)) k = _
    rw [fd_flat (pE_nm D)]
    split
    · rfl
    · rename_i hk
      have : aget D.ents k = none := aget_none fun hm => hk (mem_sortB' hm)
      simp [pE, this]
  have e2 : (docR D).counts = c.counts := rising_ext (nm := (·.key)) (rising_flat (pC_nm D) (pCn_le D) (rising_sortB h2)) h5 fun k => by
    rw [h8]
    show fd (·.key) ((sortB (D.cnts.map (·.1))).flatMap (pCn D)) k = _
    rw [fd_flat (pC_nm D)]
    split
    · rfl
    · rename_i hk
      have : aget D.cnts k = none := aget_none fun hm => hk (mem_sortB' hm)
      simp [pCn, this]
  have e3 : (docR D).texts = c.texts := rising_ext (nm := (·.name)) (rising_flat (pT_nm D) (pT_le D) (rising_sortB h3)) h6 fun k => by
    rw [h9]
    show fd (·.name) ((sortB (D.txts.map (·.1))).flatMap (pT D)) k = _
    rw [fd_flat (pT_nm D)]
    split
    · rfl
    · rename_i hk
      have : aget D.txts k = none := aget_none fun hm => hk (mem_sortB' hm)
      simp [pT, this]
  cases hd : docR D with
  | mk a b t =>
    rw [hd] at e1 e2 e3
    cases c
    simp only at e1 e2 e3
    rw [e1, e2, e3]

theorem pE_set {D : DeskV} {n k : ByteArray} {v : List ByteArray} : (pE { D with ents := aset D.ents n v } k).head? = if k = n then (if decide (v.length = 0) = true then none else some ⟨n, v⟩) else (pE D k).head? := by
  unfold pE
  dsimp only
  rw [aget_aset]
  by_cases h : k = n
  · subst h
    simp only [if_true]
    by_cases h0 : v.length = 0 <;> simp [h0]
  · simp [h]
theorem pT_set {D : DeskV} {n k : ByteArray} {v : ByteArray} : (pT { D with txts := aset D.txts n v } k).head? = if k = n then (if decide (v = ⟨#[]⟩) = true then none else some ⟨n, v⟩) else (pT D k).head? := by
  unfold pT
  dsimp only
  rw [aget_aset]
  by_cases h : k = n
  · subst h
    simp only [if_true]
    by_cases h0 : v = ⟨#[]⟩ <;> simp [h0]
  · simp [h]
theorem pC_set {D : DeskV} {n k : ByteArray} {v : Int} : (pCn { D with cnts := aset D.cnts n v } k).head? = if k = n then some ⟨n, v⟩ else (pCn D k).head? := by
  unfold pCn
  dsimp only
  rw [aget_aset]
  by_cases h : k = n
  · subst h; simp
  · simp [h]
theorem pC_del {D : DeskV} {n k : ByteArray} {v : Int} (hn : NodK D.cnts) : (pCn { D with cnts := adel (aset D.cnts n v) n } k).head? = if k = n then none else (pCn D k).head? := by
  unfold pCn
  dsimp only
  rw [aget_adel hn.aset, aget_aset]
  by_cases h : k = n
  · subst h; simp
  · simp [h]
theorem chars_rel {D : DeskV} {c : DocV} (h : DRel D c) (n : ByteArray) : charsF c.texts n = (aget D.txts n).getD ⟨#[]⟩ := by
  have hl := h.lt n
  unfold fd at hl
  unfold charsF
  rw [hl]
  unfold pT
  cases aget D.txts n with
  | none => rfl
  | some v =>
    simp only [Option.getD_some]
    by_cases h0 : v = ⟨#[]⟩ <;> simp [h0]

theorem rel_step {D : DeskV} {c : DocV} (h : DRel D c) (p : PatchV) : (∃ D' c', stepP D p = some D' ∧ oneF c p = some c' ∧ DRel D' c') ∨ (stepP D p = none ∧ oneF c p = none) := by
  unfold stepP oneF
  cases hn : nameB p.name with
  | false => right; simp
  | true =>
    simp only [if_true, Bool.true_eq_false, if_false]
    unfold doF
    split
    · split
      · left
        refine ⟨_, _, rfl, rfl, ⟨h.ne.aset, h.nc, h.nt, rising_insL (x := (⟨p.name, p.values⟩ : EntryV)) (key := p.name) rfl _ h.re, h.rc, h.rt, fun k => ?_, h.lc, h.lt⟩⟩
        exact (fd_insL (nm := fun e : EntryV => e.key) (key := p.name) (x := ⟨p.name, p.values⟩) rfl _ _ k).trans (by rw [h.le]; exact pE_set.symm)
      · right; exact ⟨rfl, rfl⟩
    · split
      · split
        · right; exact ⟨rfl, rfl⟩
        · left
          refine ⟨_, _, rfl, rfl, ⟨h.ne, ?_, h.nt, h.re, rising_insL (x := (⟨p.name, p.by_⟩ : CountV)) (key := p.name) rfl _ h.rc, h.rt, h.le, fun k => ?_, h.lt⟩⟩
          · dsimp only
            split
            · exact h.nc.aset.adel
            · exact h.nc.aset
          · refine (fd_insL (nm := fun e : CountV => e.key) (key := p.name) (x := ⟨p.name, p.by_⟩) rfl _ _ k).trans ?_
            rw [h.lc]
            cases hg : p.gone with
            | true => simp only [if_true]; rw [pC_del h.nc]
            | false => simp only [Bool.false_eq_true, if_false]; rw [pC_set]
      · split
        · rw [chars_rel h]
          split
          · right; exact ⟨rfl, rfl⟩
          · left
            refine ⟨_, _, rfl, rfl, ⟨h.ne, h.nc, h.nt.aset, h.re, h.rc, rising_insL (nm := fun t : TextV => t.name) (key := p.name) (by rfl) _ h.rt, h.le, h.lc, fun k => ?_⟩⟩
            exact (fd_insL (nm := fun t : TextV => t.name) (key := p.name) (by rfl) _ _ k).trans (by rw [h.lt]; exact pT_set.symm)
        · right; exact ⟨rfl, rfl⟩
theorem rel_many : ∀ (l : List PatchV) {D : DeskV} {c : DocV}, DRel D c → (∃ D' c', manyP (some D) l = some D' ∧ manyF (some c) l = some c' ∧ DRel D' c') ∨ (manyP (some D) l = none ∧ manyF (some c) l = none)
  | [], D, c, h => .inl ⟨D, c, rfl, rfl, h⟩
  | p :: l, D, c, h => by
    have e1 : manyP (some D) (p :: l) = manyP (stepP D p) l := rfl
    have e2 : manyF (some c) (p :: l) = manyF (oneF c p) l := rfl
    rw [e1, e2]
    rcases rel_step h p with ⟨D', c', h1, h2, h3⟩ | ⟨h1, h2⟩
    · rw [h1, h2]; exact rel_many l h3
    · rw [h1, h2]
      right
      refine ⟨manyP_none, ?_⟩
      clear e1 e2
      induction l with
      | nil => rfl
      | cons p l ih => simpa [manyF] using ih

theorem rising_named {α : Type} {nm : α → ByteArray} {l : List α} (h : namedB (l.map nm) = true) : Rising nm l := by
  have h := of_decide_eq_true h
  refine rising_adj fun j h0 hj => ?_
  have := (h j (by simpa using hj)).2 h0
  simp only [List.getD_eq_getElem?_getD, List.getElem?_map] at this
  rw [List.getElem?_eq_getElem hj, List.getElem?_eq_getElem (by omega : j - 1 < l.length)] at this
  exact this
theorem rel_start {d : DocV} (h : checkB d = true) : DRel (desk0 d) d := by
  unfold checkB at h
  simp only [Bool.and_eq_true, List.all_eq_true] at h
  obtain ⟨⟨⟨⟨h1, h2⟩, h3⟩, h4⟩, h5⟩ := h
  have r1 := rising_named (nm := fun e : EntryV => e.key) h1
  have r2 := rising_named (nm := fun e : CountV => e.key) h2
  have r3 := rising_named (nm := fun e : TextV => e.name) h3
  have n0 : ∀ {β : Type}, NodK ([] : List (ByteArray × β)) := by intro β; simp [NodK]
  refine ⟨nodk_foldl _ _ n0, nodk_foldl _ _ n0, nodk_foldl _ _ n0, r1, r2, r3, fun k => ?_, fun k => ?_, fun k => ?_⟩
  · unfold pE desk0
    dsimp only
    rw [aget_foldl _ _ r1]
    cases hf : fd (fun e : EntryV => e.key) d.entries k with
    | none => simp [aget]
    | some e =>
      obtain ⟨hm, hk⟩ := fd_mem hf
      have := h4 e hm
      have h0 : ¬ e.values.length = 0 := by have := of_decide_eq_true this; omega
      simp only [Option.map_some, Option.some_or, if_neg h0, List.head?_cons, ← hk]
  · unfold pCn desk0
    dsimp only
    rw [aget_foldl _ _ r2]
    cases hf : fd (fun e : CountV => e.key) d.counts k with
    | none => simp [aget]
    | some e =>
      obtain ⟨hm, hk⟩ := fd_mem hf
      simp only [Option.map_some, Option.some_or, List.head?_cons, ← hk]
  · unfold pT desk0
    dsimp only
    rw [aget_foldl _ _ r3]
    cases hf : fd (fun e : TextV => e.name) d.texts k with
    | none => simp [aget]
    | some e =>
      obtain ⟨hm, hk⟩ := fd_mem hf
      have := h5 e hm
      have h0 : ¬ e.chars = ⟨#[]⟩ := by unfold hasC at this; simpa using this
      simp only [Option.map_some, Option.some_or, if_neg h0, List.head?_cons, ← hk]

theorem applyP_eq (d : DocV) (l : List PatchV) : applyP d l = applyR d l := by
  unfold applyP applyR
  cases hc : checkB d with
  | false => rfl
  | true =>
    simp only [if_true]
    rcases rel_many l (rel_start hc) with ⟨D, c, h1, h2, h3⟩ | ⟨h1, h2⟩
    · rw [h1, h2]; simp only; rw [docR_eq h3]
    · rw [h1, h2]
end Go.AW
