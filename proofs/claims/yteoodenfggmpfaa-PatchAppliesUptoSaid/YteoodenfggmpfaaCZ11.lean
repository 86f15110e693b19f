/- Documents stay small along patches. -/
import Derived.Test.YteoodenfggmpfaaCZ10
namespace Go.AW
/-- Small enough for k patches more that put c characters together. -/
structure DocB (d : DocV) (k c : Nat) : Prop where
  le : d.entries.length + k ≤ 1048576
  lc : d.counts.length + k ≤ 1048576
  lt : d.texts.length + k ≤ 1048576
  ke : ∀ e ∈ d.entries, e.key.size ≤ 1048576
  kc : ∀ e ∈ d.counts, e.key.size ≤ 1048576
  kt : ∀ e ∈ d.texts, e.name.size ≤ 1048576
  ve : ∀ e ∈ d.entries, e.values.length ≤ 1048576
  ct : ∀ e ∈ d.texts, e.chars.size + c ≤ 1048576
  cc : c ≤ 1048576
theorem DocB.ok {d : DocV} {k c : Nat} (h : DocB d k c) : DocOK d :=
  ⟨by have := h.le; omega, by have := h.lc; omega, by have := h.lt; omega, h.ke, h.kc, h.kt, h.ve, fun e he => by have := h.ct e he; omega⟩
theorem charsF_B {d : DocV} {k c : Nat} (h : DocB d k c) (name : ByteArray) : (charsF d.texts name).size + c ≤ 1048576 := by
  unfold charsF
  split
  · rename_i t ht
    exact h.ct t (List.mem_of_find?_eq_some ht)
  · have h0 : (⟨#[]⟩ : ByteArray).size = 0 := rfl
    have := h.cc; omega
theorem oneF_B {d d' : DocV} {p : PatchV} {k c : Nat} (h : DocB d (k + 1) (c + p.put.size)) (hp : PatOK p) (he : oneF d p = some d') : DocB d' k c := by
  obtain ⟨h1, h2, h3, h4, h5, h6, h7, h8, h9⟩ := h
  have hch := charsF_B ⟨h1, h2, h3, h4, h5, h6, h7, h8, h9⟩ p.name
  unfold oneF at he
  split at he
  · cases he
  · split at he
    · split at he
      · simp only [Option.some.injEq] at he
        subst he
        refine ⟨?_, by dsimp only; omega, by dsimp only; omega, fun e he => ?_, h5, h6, fun e he => ?_, fun e he => ?_, by omega⟩
        · have := insL_len (nm := (·.key)) (key := p.name) (x := (⟨p.name, p.values⟩ : EntryV)) (done := decide (p.values.length = 0)) (l := d.entries)
          dsimp only; omega
        · rcases insL_mem he with h | h
          · exact h4 e h
          · subst h; exact hp.n
        · rcases insL_mem he with h | h
          · exact h7 e h
          · subst h; exact hp.v
        · have := h8 e he; omega
      · cases he
    · split at he
      · split at he
        · cases he
        · simp only [Option.some.injEq] at he
          subst he
          refine ⟨by dsimp only; omega, ?_, by dsimp only; omega, h4, fun e he => ?_, h6, h7, fun e he => ?_, by omega⟩
          · have := insL_len (nm := (·.key)) (key := p.name) (x := (⟨p.name, p.by_⟩ : CountV)) (done := p.gone) (l := d.counts)
            dsimp only; omega
          · rcases insL_mem he with h | h
            · exact h5 e h
            · subst h; exact hp.n
          · have := h8 e he; omega
      · split at he
        · split at he
          · cases he
          · rename_i hbad
            simp only [not_or] at hbad
            simp only [Option.some.injEq] at he
            subst he
            refine ⟨by dsimp only; omega, by dsimp only; omega, ?_, h4, h5, fun e he => ?_, h7, fun e he => ?_, by omega⟩
            · dsimp only
              refine Nat.le_trans (Nat.add_le_add_right insL_len k) (by omega)
            · rcases insL_mem he with h | h
              · exact h6 e h
              · subst h; exact hp.n
            · rcases insL_mem he with h | h
              · have := h8 e h; omega
              · subst h
                simp only [ByteArray.size_append, ByteArray.size_extract]
                omega
        · cases he
end Go.AW
