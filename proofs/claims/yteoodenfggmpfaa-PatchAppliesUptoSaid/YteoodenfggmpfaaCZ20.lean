/- What is sealed is opened: the values of a result may be written. -/
import Derived.Test.YteoodenfggmpfaaFe
import Derived.Test.YteoodenfggmpfaaCZ19
namespace Go.AW
open Proofs

def bgcell (o : Nat) (e : EntryV) : List AV := [.top, .bs o e.values.length]
theorem bgcell_length {o : Nat} (e : EntryV) : (bgcell o e).length = 2 := (rfl)

def ThawAt (T0 T1 T2 N : Nat → Prop) (D0 : List AV) (L0 L2 : AV) (es : List EntryV) (σ : St) : Prop :=
  ∃ o2 o5 o7 o1 c t, lk σ.env 1 = some (.on T0 false L0) ∧ lk σ.env 2 = some (.ptr o2 0) ∧ lk σ.env 5 = some (.ptr o5 0) ∧ lk σ.env 6 = some (.on T2 false L2) ∧ lk σ.env 7 = some (.ptr o7 0) ∧
    σ.mem.find o2 = some (.cells 26 (D0.map (.on T0 false)) false) ∧ σ.mem.find o5 = some (.cells 26 (D0.map (.on T1 false)) false) ∧ σ.mem.find o7 = some (.cells 26 [.sl o1 0 es.length 2, c, t] false) ∧ σ.mem.find o1 = some (.cells 40 (flat (ecellN N) es) true) ∧
    (o2 ≠ o5 ∧ o2 ≠ o7 ∧ o2 ≠ o1 ∧ o5 ≠ o7 ∧ o5 ≠ o1 ∧ o7 ≠ o1)

def thawSt (D0 : List AV) (L0 L2 : AV) (es : List EntryV) : St :=
  ⟨[(1, L0), (2, .ptr 0 0), (5, .ptr 1 0), (6, L2), (7, .ptr 2 0)],
    ⟨[(0, .cells 26 D0 false), (1, .cells 26 D0 false), (2, .cells 26 [.sl 3 0 es.length 2, .top, .top] false), (3, .cells 40 (flat (bgcell 4) es) true), (4, .bag)], 5, 5, 0⟩⟩

section
variable {S S' : Nat → Nat → Prop} {μ μ' : Nat → Option (Nat × Nat)} {w : World}
theorem idf_any {x : AV} {v : Value} (hS : ∀ b off, S b off → S' b off) (hi : idf x = true) (r : Rep S μ w x v) : Rep S' μ' w x v := Rep.idf1 _ _ hi (Rep.idf0 hS _ _ hi r)
theorem on_any {T : Nat → Prop} {x : AV} {v : Value} (hS : ∀ b off, S b off → T b → S' b off) (hi : idf x = true) (r : Rep S μ w (.on T false x) v) : Rep S' μ' w x v := by
  simp only [Rep] at r
  exact idf_any (fun b off h => hS b off h.1 h.2.1) hi r
theorem onL_any {T : Nat → Prop} (hS : ∀ b off, S b off → T b → S' b off) : ∀ {xs : List AV} {vs : List Value}, idfL xs = true → RepL S μ w (xs.map (.on T false)) vs → RepL S' μ' w xs vs
  | [], vs, _, r => by simpa [RepL] using r
  | x :: xs, vs, hi, r => by
    simp only [List.map_cons, RepL, idfL, Bool.and_eq_true] at *
    obtain ⟨y, zs, e, r1, r2⟩ := r
    exact ⟨y, zs, e, on_any hS hi.1 r1, onL_any hS hi.2 r2⟩
theorem flat_bgcell {N : Nat → Prop} {o : Nat} (h : ∀ v y, Rep S μ w (vsq N v) y → Rep S' μ' w (.bs o v.length) y) : ∀ {es : List EntryV} {vs : List Value}, RepL S μ w (flat (ecellN N) es) vs → RepL S' μ' w (flat (bgcell o) es) vs
  | [], vs, r => by simpa [flat, RepL] using r
  | e :: es, vs, r => by
    have e1 : flat (ecellN N) (e :: es) = .v (.string e.key) :: vsq N e.values :: flat (ecellN N) es := rfl
    have e2 : flat (bgcell o) (e :: es) = .top :: .bs o e.values.length :: flat (bgcell o) es := rfl
    rw [e1] at r
    rw [e2]
    simp only [RepL] at r ⊢
    obtain ⟨y1, z1, rfl, r1, y2, z2, rfl, r2, r3⟩ := r
    exact ⟨y1, _, rfl, by simp [Rep], y2, _, rfl, h _ _ r2, flat_bgcell h r3⟩
end

theorem Rep.ptr_inv {S : Nat → Nat → Prop} {μ : Nat → Option (Nat × Nat)} {w : World} {o off : Nat} {v : Value} (h : Rep S μ w (.ptr o off) v) : ∃ b bo, μ o = some (b, bo) ∧ v = .pointer (some ⟨b, bo + off, none⟩) := by simpa only [Rep] using h

/-- What is sealed is opened. -/
theorem thaw {T0 T1 T2 N : Nat → Prop} {D0 : List AV} {L0 L2 : AV} {es : List EntryV} {σ : St} {S : Nat → Nat → Prop} {μ : Nat → Option (Nat × Nat)} {w : World} {a : Act} (hD : idfL D0 = true) (hL0 : idf L0 = true) (hL2 : idf L2 = true)
    (hT : ∀ b, N b → ¬ T0 b ∧ ¬ T1 b ∧ ¬ T2 b) (h : ThawAt T0 T1 T2 N D0 L0 L2 es σ) (hA : RA [] S μ w σ.mem σ.env a) :
    ∃ S' μ', RA [] S' μ' w (thawSt D0 L0 L2 es).mem (thawSt D0 L0 L2 es).env a ∧ ∀ b, Owned (thawSt D0 L0 L2 es).mem μ' b → Owned σ.mem μ b ∨ N b := by
  obtain ⟨o2, o5, o7, o1, c, t, l1, l2, l5, l6, l7, f2, f5, f7, f1, n25, n27, n21, n57, n51, n71⟩ := h
  have hr := hA.rm
  obtain ⟨b2, i2, m2, _⟩ := (hA.env _ _ l2).ptr_inv
  obtain ⟨b5, i5, m5, _⟩ := (hA.env _ _ l5).ptr_inv
  obtain ⟨b7, i7, m7, p7⟩ := (hA.env _ _ l7).ptr_inv
  obtain ⟨code, hcode⟩ := bits_of (fun b => N b ∧ (∃ off, S b off) ∧ 0 < bsize w b ∧ Uf w b) w.heap.size
  let S' : Nat → Nat → Prop := fun b off => S b off ∧ ¬ N b
  let μ' : Nat → Option (Nat × Nat) := fun o => match o with
    | 0 => μ o2
    | 1 => μ o5
    | 2 => μ o7
    | 3 => μ o1
    | 4 => some (b7, code)
    | _ => none
  have hsz : ∀ b, 0 < bsize w b → b < w.heap.size := fun b hb => by
    rcases Nat.lt_or_ge b w.heap.size with h | h
    · exact h
    · simp [bsize, Array.getElem?_eq_none h] at hb
  have own0 : ∀ {o b i E xs ap}, σ.mem.find o = some (.cells E xs ap) → μ o = some (b, i) → ∀ off, ¬ S b off := fun hf hm => by
    obtain ⟨ys, c, fz, _, _, _, _, _, _, g⟩ := obj_cells hr hf hm
    exact g
  have hval : ∀ v y, Rep S μ w (vsq N v) y → Rep S' μ' w (.bs 4 v.length) y := fun v y r => by
    simp only [vsq, Rep] at r ⊢
    obtain ⟨base, cap, rfl, hn, hl, r⟩ := r
    refine ⟨base, cap, rfl, hn, ?_⟩
    rcases r with r | ⟨b, off, rfl, r⟩
    · exact .inl r
    · rcases Nat.eq_zero_or_pos v.length with h0 | hpos
      · exact .inl h0
      · have hlen : (flat scell v).length = v.length := by rw [flat_length scell_length]; omega
        have hg : ∀ j, j < v.length → (S b (off + j) ∧ N b ∧ (True → b < w.heap.size ∧ Uf w b)) ∧ ∃ u, w.cell? ⟨b, off + j, none⟩ = some u := fun j hj => by
          obtain ⟨g1, u, g2, _⟩ := r.get (List.getElem?_eq_getElem (by rw [hlen]; exact hj))
          exact ⟨g1, u, g2⟩
        obtain ⟨⟨s0, n0, u0⟩, _⟩ := hg 0 hpos
        obtain ⟨_, u, hu⟩ := hg (v.length - 1) (by omega)
        have hb : off + v.length ≤ bsize w b := by
          unfold World.cell? at hu
          unfold bsize
          cases hx : w.heap[b]? with
          | none => rw [hx] at hu; simp at hu
          | some ob =>
            rw [hx] at hu
            cases ob <;> simp at hu ⊢
            rename_i c E fz
            have : off + (v.length - 1) < c.size := by
              rcases Nat.lt_or_ge (off + (v.length - 1)) c.size with h | h
              · exact h
              · rw [Array.getElem?_eq_none h] at hu; simp at hu
            omega
        exact .inr ⟨b, off, b7, code, rfl, (hcode b).2 ⟨(u0 trivial).1, n0, ⟨_, s0⟩, by omega, (u0 trivial).2⟩, rfl, hb⟩
  have hS1 : ∀ {T : Nat → Prop}, (∀ b, N b → ¬ T b) → ∀ b off, S b off → T b → S' b off := fun hT b off hs ht => ⟨hs, fun hn => hT b hn ht⟩
  have hT0 := hS1 (T := T0) fun b hb => (hT b hb).1
  have hT1 := hS1 (T := T1) fun b hb => (hT b hb).2.1
  have hT2 := hS1 (T := T2) fun b hb => (hT b hb).2.2
  have cells : ∀ {o o' : Nat} {E xs xs' ap}, σ.mem.find o = some (.cells E xs ap) → μ' o' = μ o → (∀ ys, RepL S μ w xs ys → RepL S' μ' w xs' ys) → RepO S' μ' w o' (.cells E xs' ap) := by
    intro o o' E xs xs' ap hf hm hx
    have hob := (hr.obj _ _ hf).2
    simp only [RepO] at hob ⊢
    rcases hob with ⟨g1, rfl⟩ | ⟨b, bo, ys, c, fz, g1, g2, g3, g4, g5, g6, g7, g8⟩
    · have := (hx [] (by simp [RepL])).length
      exact .inl ⟨hm.trans g1, List.eq_nil_of_length_eq_zero (by simpa using this.symm)⟩
    · exact .inr ⟨b, bo, ys, c, fz, hm.trans g1, g2, g3, hx ys g4, g5, g6, g7, fun off hs => g8 off hs.1⟩
  have hfind : ∀ {o ob}, (thawSt D0 L0 L2 es).mem.find o = some ob → (o = 0 ∧ ob = .cells 26 D0 false) ∨ (o = 1 ∧ ob = .cells 26 D0 false) ∨ (o = 2 ∧ ob = .cells 26 [.sl 3 0 es.length 2, .top, .top] false) ∨ (o = 3 ∧ ob = .cells 40 (flat (bgcell 4) es) true) ∨ (o = 4 ∧ ob = .bag) := by
    intro o ob h
    simp only [thawSt, Mem.find, lk] at h
    split at h
    · rename_i e; cases h; exact .inl ⟨e.symm, rfl⟩
    · split at h
      · rename_i e; cases h; exact .inr (.inl ⟨e.symm, rfl⟩)
      · split at h
        · rename_i e; cases h; exact .inr (.inr (.inl ⟨e.symm, rfl⟩))
        · split at h
          · rename_i e; cases h; exact .inr (.inr (.inr (.inl ⟨e.symm, rfl⟩)))
          · split at h
            · rename_i e; cases h; exact .inr (.inr (.inr (.inr ⟨e.symm, rfl⟩)))
            · cases h
  have hμ : ∀ {q b bo}, μ' q = some (b, bo) → (q = 4 ∧ b = b7) ∨ ∃ o E xs ap, μ o = some (b, bo) ∧ σ.mem.find o = some (.cells E xs ap) ∧ ((q = 0 ∧ o = o2) ∨ (q = 1 ∧ o = o5) ∨ (q = 2 ∧ o = o7) ∨ (q = 3 ∧ o = o1)) := by
    intro q b bo h
    match q, h with
    | 0, h => exact .inr ⟨o2, _, _, _, h, f2, .inl ⟨rfl, rfl⟩⟩
    | 1, h => exact .inr ⟨o5, _, _, _, h, f5, .inr (.inl ⟨rfl, rfl⟩)⟩
    | 2, h => exact .inr ⟨o7, _, _, _, h, f7, .inr (.inr (.inl ⟨rfl, rfl⟩))⟩
    | 3, h => exact .inr ⟨o1, _, _, _, h, f1, .inr (.inr (.inr ⟨rfl, rfl⟩))⟩
    | 4, h => cases h; exact .inl ⟨rfl, rfl⟩
    | _ + 5, h => cases h
  have hbag : RepO S' μ' w 4 .bag := by
    simp only [RepO]
    refine ⟨b7, code, rfl, fun b ht => ?_⟩
    obtain ⟨g0, g1, ⟨off0, g2⟩, g3, g4⟩ := (hcode b).1 ht
    refine ⟨g3, g4, fun off hs => hs.2 g1, fun q bo hq => ?_⟩
    rcases hμ hq with ⟨_, rfl⟩ | ⟨o, E, xs, ap, h1, h2, _⟩
    · exact own0 f7 m7 _ g2
    · exact own0 h2 h1 _ g2
  refine ⟨S', μ', ⟨⟨fun o ob hf => ?_, fun o o' ob ob' hf hf' ho ho' hne b i j hi hj => ?_, fun b off hs => hr.old b off hs.1, fun o ho => ?_, fun o h1 h2 => ?_, Nat.le_refl _, fun o b bo h => ?_⟩, fun x y hx => ?_, hA.defers⟩, fun b hb => ?_⟩
  · rcases hfind hf with ⟨rfl, rfl⟩ | ⟨rfl, rfl⟩ | ⟨rfl, rfl⟩ | ⟨rfl, rfl⟩ | ⟨rfl, rfl⟩
    · exact ⟨by show 0 < 5; omega, cells f2 rfl fun ys r => onL_any hT0 hD r⟩
    · exact ⟨by show 1 < 5; omega, cells f5 rfl fun ys r => onL_any hT1 hD r⟩
    · refine ⟨by show 2 < 5; omega, cells f7 rfl fun ys r => ?_⟩
      simp only [RepL] at r ⊢
      obtain ⟨y1, z1, rfl, r1, y2, z2, rfl, r2, y3, z3, rfl, r3, rfl⟩ := r
      refine ⟨y1, _, rfl, ?_, y2, _, rfl, by simp [Rep], y3, _, rfl, by simp [Rep], rfl⟩
      simp only [Rep] at r1 ⊢
      exact r1
    · exact ⟨by show 3 < 5; omega, cells f1 rfl fun ys r => flat_bgcell hval r⟩
    · exact ⟨by show 4 < 5; omega, hbag⟩
  · rcases hμ hi with ⟨rfl, rfl⟩ | ⟨q, E, xs, ap, g1, g2, g3⟩
    · rcases hfind hf with ⟨e, _⟩ | ⟨e, _⟩ | ⟨e, _⟩ | ⟨e, _⟩ | ⟨e, rfl⟩ <;> first | (cases e; done) | cases ho
    rcases hμ hj with ⟨rfl, rfl⟩ | ⟨q', E', xs', ap', k1, k2, k3⟩
    · rcases hfind hf' with ⟨e, _⟩ | ⟨e, _⟩ | ⟨e, _⟩ | ⟨e, _⟩ | ⟨e, rfl⟩ <;> first | (cases e; done) | cases ho'
    have hqq : q ≠ q' := by
      rcases g3 with ⟨rfl, rfl⟩ | ⟨rfl, rfl⟩ | ⟨rfl, rfl⟩ | ⟨rfl, rfl⟩ <;> rcases k3 with ⟨rfl, rfl⟩ | ⟨rfl, rfl⟩ | ⟨rfl, rfl⟩ | ⟨rfl, rfl⟩ <;> first | exact absurd rfl hne | assumption | exact Ne.symm (by assumption)
    exact hr.inj q q' _ _ g2 k2 rfl rfl hqq b i j g1 k1
  · match o, ho with
    | 0, ho => exact absurd ho (by show ¬ 5 ≤ 0; omega)
    | 1, ho => exact absurd ho (by show ¬ 5 ≤ 1; omega)
    | 2, ho => exact absurd ho (by show ¬ 5 ≤ 2; omega)
    | 3, ho => exact absurd ho (by show ¬ 5 ≤ 3; omega)
    | 4, ho => exact absurd ho (by show ¬ 5 ≤ 4; omega)
    | _ + 5, _ => rfl
  · simp only [thawSt] at h1 h2; omega
  · rcases hμ h with ⟨_, rfl⟩ | ⟨q, E, xs, ap, g1, _⟩
    · exact hr.bk _ _ _ m7
    · exact hr.bk _ _ _ g1
  · simp only [thawSt, lk] at hx
    have e1 := hA.env _ _ l1
    have e2 := hA.env _ _ l2
    have e5 := hA.env _ _ l5
    have e6 := hA.env _ _ l6
    have e7 := hA.env _ _ l7
    split at hx
    · rename_i e; subst e; cases hx; exact on_any hT0 hL0 e1
    · split at hx
      · rename_i e; subst e; cases hx; simp only [Rep] at e2 ⊢; exact e2
      · split at hx
        · rename_i e; subst e; cases hx; simp only [Rep] at e5 ⊢; exact e5
        · split at hx
          · rename_i e; subst e; cases hx; exact on_any hT2 hL2 e6
          · split at hx
            · rename_i e; subst e; cases hx; simp only [Rep] at e7 ⊢; exact e7
            · cases hx
  · rcases hb with ⟨o, ob, bo, h1, h2, h3⟩ | ⟨o, b0, code', h1, h2, h3⟩
    · rcases hμ h3 with ⟨rfl, rfl⟩ | ⟨q, E, xs, ap, g1, g2, _⟩
      · rcases hfind h1 with ⟨e, _⟩ | ⟨e, _⟩ | ⟨e, _⟩ | ⟨e, _⟩ | ⟨e, rfl⟩ <;> first | (cases e; done) | cases h2
      · exact .inl (.inl ⟨q, _, bo, g2, rfl, g1⟩)
    · rcases hfind h1 with ⟨_, e⟩ | ⟨_, e⟩ | ⟨_, e⟩ | ⟨_, e⟩ | ⟨rfl, _⟩ <;> first | (cases e; done) | skip
      cases h2
      exact .inr ((hcode b).1 h3).2.1
end Go.AW
