/- What the program does with patches is what the document says: plain. -/
import Derived.Test.YteoodenfggmpfaaCZ17
namespace Go.AW

section
variable {α : Type} {nm : α → ByteArray} {key : ByteArray} {x : α}
def Rising (nm : α → ByteArray) (l : List α) : Prop := l.Pairwise fun a b => SLt (nm a) (nm b)
def fd (nm : α → ByteArray) (l : List α) (k : ByteArray) : Option α := l.find? fun e => decide (nm e = k)

theorem insF_t (l : List α) (out : List α) : l.foldl (insS nm key x) (out, true) = (out ++ l.filter fun e => decide (nm e ≠ key), true) := by
  induction l generalizing out with
  | nil => simp
  | cons e l ih =>
    simp only [List.foldl_cons]
    have : insS nm key x (out, true) e = (if nm e = key then out else out ++ [e], true) := by simp [insS]
    rw [this, ih]
    by_cases h : nm e = key <;> simp [h]
def insE (x : α) (r : List α × Bool) : List α := bif r.2 then r.1 else r.1 ++ [x]
theorem insF_f (l : List α) (out : List α) : insE x (l.foldl (insS nm key x) (out, false)) = out ++ (l.takeWhile fun e => decide (SLt (nm e) key)) ++ [x] ++ ((l.dropWhile fun e => decide (SLt (nm e) key)).filter fun e => decide (nm e ≠ key)) := by
  induction l generalizing out with
  | nil => simp [insE]
  | cons e l ih =>
    simp only [List.foldl_cons]
    by_cases h : SLt (nm e) key
    · have hne : nm e ≠ key := fun he => by rw [he] at h; exact SLt.irrefl _ h
      have : insS nm key x (out, false) e = (out ++ [e], false) := by simp [insS, h, hne]
      rw [this, ih]
      simp [h]
    · have : insS nm key x (out, false) e = (if nm e = key then out ++ [x] else out ++ [x] ++ [e], true) := by simp [insS, h]
      rw [this, insF_t]
      have e1 : (e :: l).takeWhile (fun e => decide (SLt (nm e) key)) = [] := by simp [h]
      have e2 : (e :: l).dropWhile (fun e => decide (SLt (nm e) key)) = e :: l := by simp [h]
      rw [e1, e2]
      by_cases h2 : nm e = key <;> simp [h2, insE]
theorem insL_t (l : List α) : insL nm key x true l = l.filter fun e => decide (nm e ≠ key) := by
  unfold insL insF
  rw [insF_t]; simp
theorem insL_f (l : List α) : insL nm key x false l = (l.takeWhile fun e => decide (SLt (nm e) key)) ++ [x] ++ ((l.dropWhile fun e => decide (SLt (nm e) key)).filter fun e => decide (nm e ≠ key)) := by
  have := insF_f (nm := nm) (key := key) (x := x) l []
  rw [List.nil_append] at this
  rw [← this]
  unfold insL insF insE
  cases (l.foldl (insS nm key x) ([], false)).2 <;> rfl

theorem fd_filter (l : List α) (k : ByteArray) : fd nm (l.filter fun e => decide (nm e ≠ key)) k = if k = key then none else fd nm l k := by
  induction l with
  | nil => simp [fd]
  | cons e l ih =>
    unfold fd at ih ⊢
    by_cases h : nm e = key
    · rw [List.filter_cons_of_neg (by simpa using h), ih]
      by_cases hk : k = key
      · simp [hk]
      · rw [if_neg hk, if_neg hk, List.find?_cons_of_neg (by simp; intro h2; exact hk (h2.symm.trans h))]
    · rw [List.filter_cons_of_pos (by simpa using h)]
      by_cases hk : nm e = k
      · rw [List.find?_cons_of_pos (by simpa using hk), List.find?_cons_of_pos (by simpa using hk), if_neg (fun h2 => h (hk.trans h2))]
      · rw [List.find?_cons_of_neg (by simpa using hk), List.find?_cons_of_neg (by simpa using hk), ih]
theorem fd_app (l m : List α) (k : ByteArray) : fd nm (l ++ m) k = (fd nm l k).or (fd nm m k) := by simp [fd, List.find?_append]
theorem fd_none {l : List α} {k : ByteArray} (h : ∀ e ∈ l, nm e ≠ k) : fd nm l k = none := by
  unfold fd
  rw [List.find?_eq_none]
  intro e he
  simpa using h e he
theorem takeWhile_lt {l : List α} {e : α} (h : e ∈ l.takeWhile fun e => decide (SLt (nm e) key)) : SLt (nm e) key := by
  have := List.all_takeWhile (p := fun e => decide (SLt (nm e) key)) (l := l)
  rw [List.all_eq_true] at this
  simpa using this e h
theorem fd_insL (hx : nm x = key) (done : Bool) (l : List α) (k : ByteArray) : fd nm (insL nm key x done l) k = if k = key then (if done then none else some x) else fd nm l k := by
  cases done with
  | true => rw [insL_t, fd_filter]; simp
  | false =>
    rw [insL_f, fd_app, fd_app, fd_filter]
    by_cases hk : k = key
    · subst hk
      rw [fd_none (l := l.takeWhile _) (fun e he h2 => by have := takeWhile_lt he; rw [h2] at this; exact SLt.irrefl _ this)]
      simp [fd, hx]
    · have h1 : fd nm [x] k = none := fd_none (fun e he h2 => by simp at he; subst he; exact hk (h2.symm.trans hx))
      rw [h1, if_neg hk, if_neg hk]
      conv => rhs; rw [← List.takeWhile_append_dropWhile (p := fun e => decide (SLt (nm e) key)) (l := l), fd_app]
      cases fd nm (l.takeWhile fun e => decide (SLt (nm e) key)) k <;> simp
theorem rising_insL (hx : nm x = key) (done : Bool) {l : List α} (h : Rising nm l) : Rising nm (insL nm key x done l) := by
  cases done with
  | true => rw [insL_t]; exact h.filter _
  | false =>
    rw [insL_f]
    have hs : Rising nm ((l.takeWhile fun e => decide (SLt (nm e) key)) ++ (l.dropWhile fun e => decide (SLt (nm e) key))) := by rw [List.takeWhile_append_dropWhile]; exact h
    unfold Rising at *
    rw [List.pairwise_append] at hs
    obtain ⟨h1, h2, h3⟩ := hs
    have hge : ∀ e ∈ (l.dropWhile fun e => decide (SLt (nm e) key)).filter (fun e => decide (nm e ≠ key)), SLt key (nm e) := by
      intro e he
      rw [List.mem_filter] at he
      obtain ⟨he, hne⟩ := he
      simp only [decide_eq_true_eq] at hne
      have hn : ¬ SLt (nm e) key := by
        cases hd : l.dropWhile (fun e => decide (SLt (nm e) key)) with
        | nil => rw [hd] at he; cases he
        | cons y ys =>
          have hy : ¬ SLt (nm y) key := by
            have := List.head?_dropWhile_not (fun e => decide (SLt (nm e) key)) l
            rw [hd] at this
            simpa using this
          rw [hd] at he h2
          rcases List.mem_cons.1 he with h | h
          · rw [h]; exact hy
          · have := (List.pairwise_cons.1 h2).1 e h
            exact fun hlt => hy (this.trans hlt)
      by_cases hlt : SLt key (nm e)
      · exact hlt
      · exact absurd (SLt.tri hn hlt) hne
    rw [List.pairwise_append]
    refine ⟨?_, h2.filter _, fun a ha b hb => ?_⟩
    · rw [List.pairwise_append]
      exact ⟨h1, List.pairwise_singleton _ _, fun a ha b hb => by simp at hb; subst hb; rw [hx]; exact takeWhile_lt ha⟩
    · have hb' := hge b hb
      rcases List.mem_append.1 ha with h | h
      · exact (takeWhile_lt h).trans hb'
      · simp at h; subst h; rw [hx]; exact hb'

theorem fd_mem {l : List α} {k : ByteArray} {e : α} (h : fd nm l k = some e) : e ∈ l ∧ nm e = k := ⟨List.mem_of_find?_eq_some h, by simpa using List.find?_some h⟩
/-- Two rising rows with the same look-ups are one. -/
theorem rising_ext : ∀ {l m : List α}, Rising nm l → Rising nm m → (∀ k, fd nm l k = fd nm m k) → l = m
  | [], [], _, _, _ => rfl
  | [], b :: m, _, _, h => by have := h (nm b); simp [fd] at this
  | a :: l, [], _, _, h => by have := h (nm a); simp [fd] at this
  | a :: l, b :: m, h1, h2, h => by
    unfold Rising at h1 h2
    rw [List.pairwise_cons] at h1 h2
    have ha : fd nm (b :: m) (nm a) = some a := by rw [← h]; simp [fd]
    have hb : fd nm (a :: l) (nm b) = some b := by rw [h]; simp [fd]
    have hab : a = b := by
      rcases List.mem_cons.1 (fd_mem ha).1 with h3 | h3
      · exact h3
      · rcases List.mem_cons.1 (fd_mem hb).1 with h4 | h4
        · exact h4.symm
        · exact absurd (h1.1 b h4) (SLt.asymm (h2.1 a h3))
    subst hab
    congr 1
    refine rising_ext h1.2 h2.2 fun k => ?_
    have hk := h k
    unfold fd at hk ⊢
    by_cases he : nm a = k
    · have e1 : ∀ {l : List α}, (∀ c ∈ l, SLt (nm a) (nm c)) → l.find? (fun e => decide (nm e = k)) = none := fun {l} hl => by
        rw [List.find?_eq_none]
        intro c hc
        have := hl c hc
        simp only [decide_eq_true_eq]
        intro h3
        rw [he, h3] at this
        exact SLt.irrefl _ this
      rw [e1 h1.1, e1 h2.1]
    · rwa [List.find?_cons_of_neg (by simpa using he), List.find?_cons_of_neg (by simpa using he)] at hk

theorem rising_adj {l : List α} (h : ∀ j, 0 < j → (hj : j < l.length) → SLt (nm (l[j - 1]'(by omega))) (nm l[j])) : Rising nm l := by
  induction l with
  | nil => exact List.Pairwise.nil
  | cons a l ih =>
    have h2 : Rising nm l := ih fun j hj hl => by
      have := h (j + 1) (by omega) (by simp; omega)
      obtain ⟨j', rfl⟩ : ∃ j', j = j' + 1 := ⟨j - 1, by omega⟩
      simpa using this
    unfold Rising
    rw [List.pairwise_cons]
    refine ⟨fun b hb => ?_, h2⟩
    cases l with
    | nil => cases hb
    | cons c l =>
      have hc : SLt (nm a) (nm c) := h 1 (by omega) (by simp)
      rcases List.mem_cons.1 hb with h3 | h3
      · rw [h3]; exact hc
      · unfold Rising at h2
        exact hc.trans ((List.pairwise_cons.1 h2).1 b h3)
end

/-! The desk's rows. -/
section
variable {β : Type}
theorem aget_aset {l : List (ByteArray × β)} {k n : ByteArray} {v : β} : aget (aset l k v) n = if n = k then some v else aget l n := by
  induction l with
  | nil =>
    by_cases h : n = k
    · subst h; simp [aset, aget]
    · simp [aset, aget, h, Ne.symm h]
  | cons p l ih =>
    obtain ⟨m, y⟩ := p
    unfold aset
    by_cases h : m = k
    · rw [if_pos h]
      by_cases h2 : n = k
      · subst h2; simp [aget, h]
      · have : ¬ m = n := fun e => h2 (e.symm.trans h)
        simp [aget, h2, this]
    · rw [if_neg h]
      unfold aget at ih ⊢
      by_cases h2 : m = n
      · subst h2
        simp [h]
      · rw [List.find?_cons_of_neg (by simpa using h2), List.find?_cons_of_neg (by simpa using h2)]
        exact ih
def NodK (l : List (ByteArray × β)) : Prop := (l.map (·.1)).Nodup
theorem aset_keys {l : List (ByteArray × β)} {k n : ByteArray} {v : β} (h : n ∈ (aset l k v).map (·.1)) : n ∈ l.map (·.1) ∨ n = k := by
  induction l with
  | nil => simp [aset] at h; exact .inr h
  | cons p l ih =>
    obtain ⟨m, y⟩ := p
    unfold aset at h
    split at h
    · left; simpa using h
    · simp only [List.map_cons, List.mem_cons] at h ⊢
      rcases h with h | h
      · exact .inl (.inl h)
      · rcases ih h with h | h
        · exact .inl (.inr h)
        · exact .inr h
theorem NodK.aset {l : List (ByteArray × β)} {k : ByteArray} {v : β} (h : NodK l) : NodK (aset l k v) := by
  induction l with
  | nil => simp [NodK, Go.AW.aset]
  | cons p l ih =>
    obtain ⟨m, y⟩ := p
    unfold Go.AW.aset
    unfold NodK at h ih ⊢
    simp only [List.map_cons, List.nodup_cons] at h
    split
    · simpa using h
    · rename_i hne
      simp only [List.map_cons, List.nodup_cons]
      refine ⟨fun hm => ?_, ih h.2⟩
      rcases aset_keys hm with h3 | h3
      · exact h.1 h3
      · exact hne h3
theorem adel_sub {l : List (ByteArray × β)} {k : ByteArray} : (adel l k).Sublist l := by
  induction l with
  | nil => exact List.Sublist.refl _
  | cons p l ih =>
    obtain ⟨m, y⟩ := p
    unfold adel
    split
    · exact List.sublist_cons_self _ _
    · exact ih.cons_cons _
theorem NodK.adel {l : List (ByteArray × β)} {k : ByteArray} (h : NodK l) : NodK (adel l k) := by
  unfold NodK at *
  exact (adel_sub.map _).nodup h
theorem aget_none {l : List (ByteArray × β)} {n : ByteArray} (h : n ∉ l.map (·.1)) : aget l n = none := by
  unfold aget
  have : l.find? (fun e => decide (e.1 = n)) = none := by
    rw [List.find?_eq_none]
    intro e he
    simp only [decide_eq_true_eq]
    intro h2
    exact h (List.mem_map.2 ⟨e, he, h2⟩)
  rw [this]; rfl
theorem aget_adel {l : List (ByteArray × β)} {k n : ByteArray} (h : NodK l) : aget (adel l k) n = if n = k then none else aget l n := by
  induction l with
  | nil => simp [adel, aget]
  | cons p l ih =>
    obtain ⟨m, y⟩ := p
    unfold NodK at h
    simp only [List.map_cons, List.nodup_cons] at h
    unfold adel
    by_cases h1 : m = k
    · rw [if_pos h1]
      by_cases h2 : n = k
      · rw [if_pos h2, h2, ← h1]; exact aget_none h.1
      · have : ¬ m = n := fun e => h2 (e.symm.trans h1)
        simp [aget, h2, this]
    · rw [if_neg h1]
      have ih := ih h.2
      unfold aget at ih ⊢
      by_cases h2 : m = n
      · subst h2; simp [h1]
      · rw [List.find?_cons_of_neg (by simpa using h2), List.find?_cons_of_neg (by simpa using h2)]
        exact ih
theorem nodk_foldl {α : Type} {nm : α → ByteArray} {vl : α → β} : ∀ (l : List α) (a : List (ByteArray × β)), NodK a → NodK (l.foldl (fun a e => aset a (nm e) (vl e)) a)
  | [], a, h => h
  | x :: l, a, h => by simp only [List.foldl_cons]; exact nodk_foldl l _ h.aset
theorem aget_foldl {α : Type} {nm : α → ByteArray} {vl : α → β} {k : ByteArray} : ∀ (l : List α) (a : List (ByteArray × β)), Rising nm l → aget (l.foldl (fun a e => aset a (nm e) (vl e)) a) k = ((fd nm l k).map vl).or (aget a k)
  | [], a, _ => by simp [fd]
  | x :: l, a, h => by
    unfold Rising at h
    rw [List.pairwise_cons] at h
    simp only [List.foldl_cons]
    rw [aget_foldl l _ h.2, aget_aset]
    by_cases hk : nm x = k
    · subst hk
      have : fd nm l (nm x) = none := fd_none fun e he h2 => by have := h.1 e he; rw [h2] at this; exact SLt.irrefl _ this
      rw [this]
      simp [fd]
    · rw [if_neg (fun h => hk h.symm)]
      unfold fd
      rw [List.find?_cons_of_neg (by simpa using hk)]
end
end Go.AW
