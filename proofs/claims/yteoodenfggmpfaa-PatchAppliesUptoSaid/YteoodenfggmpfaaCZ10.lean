/- Rows with and without a thing: how long, of what. -/
import Derived.Test.YteoodenfggmpfaaCZ9
namespace Go.AW
section
variable {α : Type} {nm : α → ByteArray} {key : ByteArray} {x : α}
theorem insS_len (r : List α × Bool) (e : α) {i : Nat} (h : r.1.length ≤ i + (bif r.2 then 1 else 0)) : (insS nm key x r e).1.length ≤ i + 1 + (bif (insS nm key x r e).2 then 1 else 0) := by
  obtain ⟨out, dn⟩ := r
  unfold insS
  cases dn with
  | true =>
    simp only [Bool.true_eq_false, false_and, if_false, cond_true] at h ⊢
    split
    · omega
    · simp only [List.length_append, List.length_cons, List.length_nil]; omega
  | false =>
    simp only [true_and, cond_false] at h ⊢
    by_cases h1 : SLt (nm e) key
    · simp only [h1, not_true_eq_false, if_false, cond_false]
      split
      · omega
      · simp only [List.length_append, List.length_cons, List.length_nil]; omega
    · simp only [h1, not_false_eq_true, if_true, cond_true]
      split
      · simp only [List.length_append, List.length_cons, List.length_nil]; omega
      · simp only [List.length_append, List.length_cons, List.length_nil]; omega
theorem insF_len {done : Bool} {l : List α} {i : Nat} (hi : i ≤ l.length) : (insF nm key x done (l.take i)).1.length ≤ i + (bif (insF nm key x done (l.take i)).2 then 1 else 0) := by
  induction i with
  | zero => simp [insF]
  | succ i ih =>
    rw [insF_succ (by omega)]
    exact insS_len _ _ (ih (by omega))
theorem insL_len {done : Bool} {l : List α} : (insL nm key x done l).length ≤ l.length + 1 := by
  have h := insF_len (nm := nm) (key := key) (x := x) (done := done) (Nat.le_refl l.length)
  rw [List.take_length] at h
  unfold insL
  cases h2 : (insF nm key x done l).2 with
  | true => rw [h2] at h; simpa using h
  | false => rw [h2] at h; simpa using h
theorem insS_mem {r : List α × Bool} {e y : α} (h : y ∈ (insS nm key x r e).1) : y ∈ r.1 ∨ y = x ∨ y = e := by
  unfold insS at h
  obtain ⟨out, dn⟩ := r
  simp only at h ⊢
  split at h <;> split at h <;> simp at h <;> grind
theorem insF_mem {done : Bool} {l : List α} {y : α} {i : Nat} (hi : i ≤ l.length) (h : y ∈ (insF nm key x done (l.take i)).1) : y ∈ l ∨ y = x := by
  induction i with
  | zero => simp [insF] at h
  | succ i ih =>
    rw [insF_succ (by omega)] at h
    rcases insS_mem h with h | h | h
    · exact ih (by omega) h
    · exact .inr h
    · exact .inl (by rw [h]; exact List.getElem_mem _)
theorem insL_mem {done : Bool} {l : List α} {y : α} (h : y ∈ insL nm key x done l) : y ∈ l ∨ y = x := by
  have hf := fun h => insF_mem (nm := nm) (key := key) (x := x) (done := done) (y := y) (Nat.le_refl l.length) h
  rw [List.take_length] at hf
  unfold insL at h
  split at h
  · exact hf h
  · rcases List.mem_append.1 h with h | h
    · exact hf h
    · exact .inr (by simpa using h)
end
end Go.AW
