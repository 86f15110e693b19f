/- Abstract values and an evaluator over the given code, proved right: part Fd. -/
import Derived.Test.YteoodenfggmpfaaFc
import Derived.Carry
import Derived.ChangeSame
import Derived.OpenShut
/- Objects become values at a loop's head. -/
namespace Go.AW
variable {P : Program} {γ : GTab} {S : Nat → Nat → Prop} {μ : Nat → Option (Nat × Nat)} {w : World}

/-- The objects that are not kept. -/
def unkept (keep : List (Nat × Nat)) (objs : List (Nat × AObj)) : List (Nat × AObj) := objs.filter fun p => !(keep.any fun q => q.2 == p.1)
theorem lk_unkept {keep : List (Nat × Nat)} : ∀ {objs : List (Nat × AObj)} {o : Nat} {ob : AObj}, lk (unkept keep objs) o = some ob → lk objs o = some ob ∧ (keep.any fun q => q.2 == o) = false
  | [], o, ob, h => by simp [unkept, lk] at h
  | (p, x) :: objs, o, ob, h => by
    simp only [unkept, List.filter_cons] at h
    split at h
    · rename_i hk
      simp only [lk] at h
      split at h
      · rename_i e; subst e
        exact ⟨by simpa [lk] using h, by simpa using hk⟩
      · rename_i e
        have := lk_unkept (keep := keep) h
        exact ⟨by simp only [lk, if_neg e]; exact this.1, this.2⟩
    · rename_i hk
      have := lk_unkept (keep := keep) h
      refine ⟨?_, this.2⟩
      simp only [lk]
      split
      · rename_i e; subst e
        rw [this.2] at hk; simp at hk
      · exact this.1

def keptA (keep : List (Nat × Nat)) : AV → Option AV
  | .ptr o off => (keep.find? fun q => q.2 == o).map fun q => .ptr q.1 off
  | .sl o off n sz => (keep.find? fun q => q.2 == o).map fun q => .sl q.1 off n sz
  | .mp o => (keep.find? fun q => q.2 == o).map fun q => .mp q.1
  | _ => none
/-- A nil slice may be read as an empty slice of an object that is nowhere. -/
def nilA (y : AV) : AV → Bool
  | .v (.slice none 0 0) => match y with
    | .sl _ _ 0 _ => true
    | _ => false
  | _ => false
def FzV (keep : List (Nat × Nat)) (f : Nat → Option AObj) : Option AV → AV → Prop
  | some x, y => nilA y x = true ∨ match keptA keep x with
    | some z => z = y
    | none => ∃ ids, snap f 12 x = some (y, ids)
  | none, _ => False
def FzE (keep : List (Nat × Nat)) (f : Nat → Option AObj) (env : List (Nat × AV)) : List (Nat × AV) → Prop
  | [] => True
  | (t, x) :: e => FzV keep f (lk env t) x ∧ FzE keep f env e
def FzB (f : Nat → Option AObj) : Option AObj → AObj → Prop
  | some (.cells E xs ap), .cells E' ys ap' => E = E' ∧ ap = ap' ∧ ∃ ids, snapL (snap f 12) xs = some (ys, ids)
  | some (.map kt ks xs), .map kt' ks' ys => kt = kt' ∧ ks = ks' ∧ ∃ ids, snapL (snap f 12) xs = some (ys, ids)
  | _, _ => False
def nilO : AObj → Bool
  | .cells _ [] _ => true
  | _ => false
def FzO1 (keep : List (Nat × Nat)) (f : Nat → Option AObj) (objs : List (Nat × AObj)) (o : Nat) (x : AObj) : Prop := match lk keep o with
  | some q => FzB f (lk objs q) x
  | none => nilO x = true
def FzO (keep : List (Nat × Nat)) (f : Nat → Option AObj) (objs : List (Nat × AObj)) : List (Nat × AObj) → Prop
  | [] => True
  | (o, x) :: e => FzO1 keep f objs o x ∧ FzO keep f objs e

theorem FzE.get {keep : List (Nat × Nat)} {f : Nat → Option AObj} {env : List (Nat × AV)} : ∀ {e : List (Nat × AV)}, FzE keep f env e → ∀ {t x}, lk e t = some x → FzV keep f (lk env t) x
  | [], _, t, x, h => by simp [lk] at h
  | (t', x') :: e, hE, t, x, h => by
    simp only [lk] at h
    split at h
    · rename_i e; subst e; simp only [Option.some.injEq] at h; subst h; exact hE.1
    · exact hE.2.get h
theorem FzO.get {keep : List (Nat × Nat)} {f : Nat → Option AObj} {objs : List (Nat × AObj)} : ∀ {e : List (Nat × AObj)}, FzO keep f objs e → ∀ {t x}, lk e t = some x → FzO1 keep f objs t x
  | [], _, t, x, h => by simp [lk] at h
  | (t', x') :: e, hE, t, x, h => by
    simp only [lk] at h
    split at h
    · rename_i e; subst e; simp only [Option.some.injEq] at h; subst h; exact hE.1
    · exact hE.2.get h

def kInj : List (Nat × Nat) → Bool
  | [] => true
  | (a, q) :: e => e.all (fun p => p.2 != q && p.1 != a) && kInj e

theorem lk_inj : ∀ {keep : List (Nat × Nat)}, kInj keep = true → ∀ {a b q : Nat}, lk keep a = some q → lk keep b = some q → a = b
  | [], _, a, b, q, h, _ => by simp [lk] at h
  | (c, r) :: keep, hn, a, b, q, ha, hb => by
    simp only [kInj, Bool.and_eq_true, List.all_eq_true] at hn
    simp only [lk] at ha hb
    split at ha
    · rename_i e1
      split at hb
      · rename_i e2; exact e1.symm.trans e2
      · simp only [Option.some.injEq] at ha
        have := (hn.1 _ (lk_mem hb)).1
        rw [ha] at this; simp at this
    · split at hb
      · simp only [Option.some.injEq] at hb
        have := (hn.1 _ (lk_mem ha)).1
        rw [hb] at this; simp at this
      · exact lk_inj hn.2 ha hb

theorem find_lk : ∀ {keep : List (Nat × Nat)}, kInj keep = true → ∀ {o : Nat} {q : Nat × Nat}, (keep.find? fun q => q.2 == o) = some q → lk keep q.1 = some o
  | [], _, o, q, h => by simp at h
  | (c, r) :: keep, hn, o, q, h => by
    simp only [kInj, Bool.and_eq_true, List.all_eq_true] at hn
    simp only [List.find?_cons] at h
    split at h
    · rename_i e
      simp only [Option.some.injEq] at h
      subst h
      simp only [lk, if_true]
      rw [eq_of_beq e]
    · have := find_lk hn.2 h
      simp only [lk]
      rw [if_neg (fun e => by have h2 := (hn.1 _ (lk_mem this)).2; rw [e] at h2; simp at h2)]
      exact this

theorem keep_any : ∀ {keep : List (Nat × Nat)} {a q : Nat}, lk keep a = some q → (keep.any fun p => p.2 == q) = true
  | keep, a, q, h => by
    rw [List.any_eq_true]
    exact ⟨_, lk_mem h, by simp⟩

/-- WHAT IS NOT KEPT BECOMES A VALUE. -/
theorem Ent.freeze (keep : List (Nat × Nat)) {env env' : List (Nat × AV)} {objs objs' : List (Nat × AObj)} {next base wid next' : Nat}
    (hE : FzE keep (lk (unkept keep objs)) env env') (hO : FzO keep (lk (unkept keep objs)) objs objs') (hk : kInj keep = true) (hn : (keep.all fun p => decide (p.1 < next')) = true) (hn' : (objs'.all fun p => decide (p.1 < next')) = true) : Ent 0 ⟨env, ⟨objs, next, base, wid⟩⟩ ⟨env', ⟨objs', next', next', 0⟩⟩ := by
  intro S μ w a hr henv
  have hr2 : RM S μ w ⟨unkept keep objs, next, next, 0⟩ := ⟨fun o ob h => hr.obj o ob (lk_unkept h).1, fun o o' ob ob' h h' => hr.inj o o' ob ob' (lk_unkept h).1 (lk_unkept h').1, hr.old, hr.fr, fun o h1 h2 => by simp only at h1 h2; omega, Nat.le_refl _, hr.bk⟩
  let T : Nat → Nat → Prop := fun b off => S b off ∨ Owned ⟨unkept keep objs, next, next, 0⟩ μ b
  let ν : Nat → Option (Nat × Nat) := fun o => (lk keep o).bind μ
  have hsn := snap_repX (T := T) hr2 (fun b off h => .inl h) (fun b h off => .inr h) 12
  have hsl := snapL_rep (T := T) (fun b off h => .inl h) hsn
  have hown : ∀ b, Owned ⟨unkept keep objs, next, next, 0⟩ μ b → Owned ⟨objs, next, base, wid⟩ μ b := fun b ⟨o, ob, bo, h1, h2, h3⟩ => ⟨o, ob, bo, (lk_unkept h1).1, h2, h3⟩
  have hnot : ∀ {q b bo : Nat} {ob : AObj}, (keep.any fun p => p.2 == q) = true → lk objs q = some ob → ob.own = true → μ q = some (b, bo) → (∀ off, ¬ S b off) → ∀ off, ¬ T b off := by
    intro q b bo ob hq hf hob hμ hS off h
    rcases h with h | ⟨o, ob', bo', h1, h2, h3⟩
    · exact hS off h
    · have hl := lk_unkept h1
      have hne : o ≠ q := fun e => by rw [e, hq] at hl; cases hl.2
      exact hr.inj o q ob' ob hl.1 hf h2 hob hne b bo' bo h3 hμ
  have hob : ∀ o ob, lk objs' o = some ob → (∃ q x, lk keep o = some q ∧ lk objs q = some x ∧ x.own = ob.own ∧ RepO T ν w o ob) ∨ (ν o = none ∧ RepO T ν w o ob) := by
    intro o ob ho
    have hB := hO.get ho
    unfold FzO1 at hB
    split at hB
    · rename_i q hq
      left
      have hν : ν o = μ q := by show (lk keep o).bind μ = μ q; rw [hq]; rfl
      cases hx : lk objs q with
      | none => rw [hx] at hB; simp [FzB] at hB
      | some x =>
        rw [hx] at hB
        have hobj := (hr.obj q x hx).2
        refine ⟨q, x, hq, hx, ?_, ?_⟩
        · cases x <;> cases ob <;> simp [FzB] at hB <;> rfl
        · cases x <;> cases ob <;> simp only [FzB] at hB
          · obtain ⟨rfl, rfl, ids, hs⟩ := hB
            simp only [RepO] at hobj ⊢
            rcases hobj with ⟨h1, h2⟩ | ⟨b, bo, ys, c, fz, e1, e2, e3, e4, e5, e6, e7, e8⟩
            · subst h2
              obtain ⟨k1, k2⟩ := hsl _ _ _ [] hs (by simp [RepL])
              exact .inl ⟨hν.trans h1, by have := k2.length; simpa using this.symm⟩
            · obtain ⟨k1, k2⟩ := hsl _ _ _ _ hs e4
              exact .inr ⟨b, bo, ys, c, fz, hν.trans e1, e2, e3, RepL.idf1 _ _ k1 k2, e5, e6, e7, hnot (keep_any hq) hx rfl e1 e8⟩
          · obtain ⟨rfl, rfl, ids, hs⟩ := hB
            simp only [RepO] at hobj ⊢
            obtain ⟨b, bo, es, clock, e1, e2, e3, e4, e5, e6⟩ := hobj
            obtain ⟨k1, k2⟩ := hsl _ _ _ _ hs e5
            exact ⟨b, bo, es, clock, hν.trans e1, e2, e3, e4, RepL.idf1 _ _ k1 k2, hnot (keep_any hq) hx rfl e1 e6⟩
    · rename_i hq
      right
      have hν : ν o = none := by show (lk keep o).bind μ = none; rw [hq]; rfl
      refine ⟨hν, ?_⟩
      unfold nilO at hB
      split at hB
      · simp only [RepO]; exact .inl ⟨hν, trivial⟩
      · cases hB
  have hlt : ∀ {o q}, lk keep o = some q → o < next' := fun h => by
    rw [List.all_eq_true] at hn
    simpa using hn _ (lk_mem h)
  refine ⟨T, ν, ⟨fun o ob h => ?_, fun o o' ob ob' h h' ho ho' hne b i j hi hj => ?_, fun b off h => ?_, fun o ho => ?_, fun o h1 h2 => by simp only at h1 h2; omega, Nat.le_refl _, fun o b bo h => ?_⟩, fun t x ht => ?_, fun b off h => .inl h, fun b off h => ?_, fun o ho => by omega, fun o ho => by omega, Nat.zero_le _, rfl, fun b hb => ?_⟩
  · refine ⟨by rw [List.all_eq_true] at hn'; simpa using hn' _ (lk_mem h), ?_⟩
    rcases hob o ob h with ⟨q, x, h1, h2, h3, h4⟩ | ⟨_, h4⟩
    · exact h4
    · exact h4
  · rcases hob o ob h with ⟨q, x, h1, h2, h3, h4⟩ | ⟨h4, _⟩
    case inr => rw [h4] at hi; cases hi
    rcases hob o' ob' h' with ⟨q', x', g1, g2, g3, g4⟩ | ⟨g4, _⟩
    case inr => rw [g4] at hj; cases hj
    have e1 : ν o = μ q := by show (lk keep o).bind μ = μ q; rw [h1]; rfl
    have e2 : ν o' = μ q' := by show (lk keep o').bind μ = μ q'; rw [g1]; rfl
    refine hr.inj q q' x x' h2 g2 (h3.trans ho) (g3.trans ho') (fun e => hne (lk_inj hk h1 (e ▸ g1))) b i j (e1 ▸ hi) (e2 ▸ hj)
  · rcases h with h | ⟨o, ob, bo, _, _, h⟩
    · exact hr.old _ _ h
    · exact hr.bk _ _ _ h
  · show (lk keep o).bind μ = none
    cases hq : lk keep o with
    | none => rfl
    | some q => have := hlt hq; have ho' : next' ≤ o := ho; omega
  · change (lk keep o).bind μ = some (b, bo) at h
    cases hq : lk keep o with
    | none => rw [hq] at h; cases h
    | some q => rw [hq] at h; exact hr.bk _ _ _ h
  · have hV := hE.get ht
    cases hx : lk env t with
    | none => rw [hx] at hV; exact hV.elim
    | some y =>
      rw [hx] at hV
      have hy := henv t y hx
      simp only [FzV] at hV
      rcases hV with hV | hV
      · unfold nilA at hV
        split at hV
        · split at hV
          · simp only [Rep] at hy ⊢
            exact ⟨none, 0, hy, Nat.le_refl _, .inl rfl⟩
          · cases hV
        · cases hV
      split at hV
      · rename_i z hz
        subst hV
        have hmu : ∀ {o : Nat} {q : Nat × Nat}, (keep.find? fun q => q.2 == o) = some q → ν q.1 = μ o := fun h => by
          show (lk keep _).bind μ = _
          rw [find_lk hk h]; rfl
        cases y <;> simp only [keptA, Option.map_eq_some_iff, reduceCtorEq] at hz
        · obtain ⟨q, h1, rfl⟩ := hz
          simp only [Rep] at hy ⊢
          rw [hmu h1]; exact hy
        · obtain ⟨q, h1, rfl⟩ := hz
          simp only [Rep] at hy ⊢
          rw [hmu h1]; exact hy
        · obtain ⟨q, h1, rfl⟩ := hz
          simp only [Rep] at hy ⊢
          rw [hmu h1]; exact hy
      · obtain ⟨ids, hs⟩ := hV
        obtain ⟨k1, k2⟩ := hsn _ _ _ _ hs hy
        exact Rep.idf1 _ _ k1 k2
  · rcases h with h | h
    · exact .inl h
    · exact .inr (hown _ h)
  · obtain ⟨o, ob, bo, h1, h2, h3⟩ := hb
    rcases hob o ob h1 with ⟨q, x, g1, g2, g3, g4⟩ | ⟨g4, _⟩
    case inr => rw [g4] at h3; cases h3
    exact ⟨q, x, bo, g2, g3.trans h2, by change (lk keep o).bind μ = _ at h3; rw [g1] at h3; exact h3⟩

end Go.AW
/- Patches. -/
namespace Go.AW

structure PatchV where
  kind : Int
  name : ByteArray
  values : List ByteArray
  by_ : Int
  gone : Bool
  at_ : Int
  cut : Int
  put : ByteArray
  src : List Hs
  deriving DecidableEq

def pcell (p : PatchV) : List AV := [.v (.int .i64 p.kind), .v (.string p.name), .seq p.values.length 1 (flat scell p.values), .v (.int .i64 p.by_), .v (.bool p.gone), .v (.int .i64 p.at_), .v (.int .i64 p.cut), .v (.string p.put), .seq p.src.length 32 (flat hcell p.src)]
theorem pcell_length (p : PatchV) : (pcell p).length = 9 := (rfl)
theorem idfL_pcell (p : PatchV) : idfL (pcell p) = true := by simp [pcell, idfL, idf, idfL_flat idfL_hcell, idfL_flat idfL_scell]
theorem pflat_drop (l : List PatchV) (i : Nat) (hi : i < l.length) : (flat pcell l).drop (i * 9) = pcell l[i] ++ flat pcell (l.drop (i + 1)) := flat_drop (f := pcell) (sz := 9) pcell_length l i hi
theorem pcell_take {p : PatchV} {l : List AV} : (pcell p ++ l).take 9 = pcell p := (rfl)
theorem pcell_0 {p : PatchV} : (pcell p)[0]? = some (.v (.int .i64 p.kind)) := (rfl)
theorem pcell_1 {p : PatchV} : (pcell p)[1]? = some (.v (.string p.name)) := (rfl)
theorem pcell_2 {p : PatchV} : (pcell p)[2]? = some (.seq p.values.length 1 (flat scell p.values)) := (rfl)
theorem pcell_3 {p : PatchV} : (pcell p)[3]? = some (.v (.int .i64 p.by_)) := (rfl)
theorem pcell_4 {p : PatchV} : (pcell p)[4]? = some (.v (.bool p.gone)) := (rfl)
theorem pcell_5 {p : PatchV} : (pcell p)[5]? = some (.v (.int .i64 p.at_)) := (rfl)
theorem pcell_6 {p : PatchV} : (pcell p)[6]? = some (.v (.int .i64 p.cut)) := (rfl)
theorem pcell_7 {p : PatchV} : (pcell p)[7]? = some (.v (.string p.put)) := (rfl)
theorem pcell_8 {p : PatchV} : (pcell p)[8]? = some (.seq p.src.length 32 (flat hcell p.src)) := (rfl)
attribute [push_cast] pcell_0 pcell_1 pcell_2 pcell_3 pcell_4 pcell_5 pcell_6 pcell_7 pcell_8 ne_eq not_false_eq_true not_true_eq_false
attribute [push_cast] pflat_drop pcell_take pcell_length
end Go.AW
/- More rules: objects, fields, appends. -/
namespace Go.AW
variable {P : Program} {γ : GTab} {t : TypeId}

theorem allocA_some {zs : List Value} {e f : Nat} : allocA (some zs) e f = some (.ptr f 0, [(f, .cells e (zs.map .v) false)]) := (rfl)
theorem boxA_some {cs : List AV} {e f : Nat} : boxA (some cs) e f = some (.ptr f 0, [(f, .cells e cs false)]) := (rfl)
theorem freshOf_some {objs : List (Nat × AObj)} {n b w d : Nat} : freshOf ⟨objs, n, b, w⟩ (some d) = b + d := (rfl)
theorem freshOf_none {objs : List (Nat × AObj)} {n b w : Nat} : freshOf ⟨objs, n, b, w⟩ none = b := (rfl)
theorem updOK_some {objs : List (Nat × AObj)} {n b w d : Nat} {u : Upd} : updOK ⟨objs, n, b, w⟩ (some d) u = ((lk u (b + d)).isNone || (lk objs (b + d)).isNone) := (rfl)
theorem updOK_none {objs : List (Nat × AObj)} {n b w : Nat} {u : Upd} : updOK ⟨objs, n, b, w⟩ none u = (lk u b).isNone := (rfl)
theorem upd_mk {objs : List (Nat × AObj)} {n b w : Nat} {u : Upd} : Mem.upd ⟨objs, n, b, w⟩ u = ⟨u ++ objs, n, b, w⟩ := (rfl)
theorem wrOf_cons {o : Nat} {x : AObj} {u : Upd} : wrOf ((o, x) :: u) = o :: wrOf u := (rfl)
theorem fieldAddr_ptr {fs : List (Nat × TypeId)} {f o off : Nat} : fieldAddrA P (some fs) f (.ptr o off) = (fs[f]?).bind fun fl => if tok P fl.2 ∧ tsz P fl.2 ≠ 0 then some (.ptr o (off + fl.1), []) else none := by
  simp only [fieldAddrA]; cases fs[f]? <;> rfl
theorem fieldAddr_rop {fs : List (Nat × TypeId)} {f : Nat} {xs : List AV} : fieldAddrA P (some fs) f (.rop xs) = (fs[f]?).bind fun fl => if tok P fl.2 ∧ tsz P fl.2 ≠ 0 then some (.rop (xs.drop fl.1), []) else none := by
  simp only [fieldAddrA]; cases fs[f]? <;> rfl
def storeO (P : Program) (t : TypeId) (o off : Nat) (cs : Option (List AV)) (ob : Option AObj) : Option Upd := match cs, ob with
  | some cs, some (.cells E ys ap) => if tok P t ∧ cs.length = tsz P t ∧ off + tsz P t ≤ ys.length then some [(o, .cells E (setL ys off cs) ap)] else none
  | _, _ => none
theorem storeF_ptr {find : Nat → Option AObj} {o off : Nat} {y : AV} : storeF P find t (.ptr o off) y = storeO P t o off (cellsOf y) (find o) := by
  unfold storeF storeO
  cases cellsOf y
  · rfl
  · rename_i cs
    simp only
    cases find o with
    | none => rfl
    | some ob => cases ob <;> rfl
theorem storeO_cells {o off : Nat} {cs : List AV} {E : TypeId} {ys : List AV} {ap : Bool} : storeO P t o off (some cs) (some (.cells E ys ap)) = if tok P t ∧ cs.length = tsz P t ∧ off + tsz P t ≤ ys.length then some [(o, .cells E (setL ys off cs) ap)] else none := (rfl)
theorem cellsOf_agg {xs : List AV} : cellsOf (.agg xs) = some xs := (rfl)
theorem cellsOf_seq {n z : Nat} {xs : List AV} : cellsOf (.seq n z xs) = some [.seq n z xs] := (rfl)
theorem cellsOf_sl {o off n z : Nat} : cellsOf (.sl o off n z) = some [.sl o off n z] := (rfl)
theorem cellsOf_int {k : IntKind} {n : Int} : cellsOf (.v (.int k n)) = some [.v (.int k n)] := (rfl)
theorem cellsOf_bool {b : Bool} : cellsOf (.v (.bool b)) = some [.v (.bool b)] := (rfl)
theorem cellsOf_string {b : ByteArray} : cellsOf (.v (.string b)) = some [.v (.string b)] := (rfl)
theorem cellsOf_nilsl : cellsOf (.v (.slice none 0 0)) = some [.v (.slice none 0 0)] := (rfl)
theorem setL_nil {ys : List AV} {off : Nat} : setL ys off [] = ys := (rfl)
theorem setL_all : ∀ {ys cs : List AV}, cs.length = ys.length → setL ys 0 cs = cs := by
  intro ys cs h
  have key : ∀ (cs pre ys : List AV), cs.length = ys.length → setL (pre ++ ys) pre.length cs = pre ++ cs := by
    intro cs
    induction cs with
    | nil => intro pre ys h; cases ys with
      | nil => simp [setL]
      | cons _ _ => simp at h
    | cons c cs ih =>
      intro pre ys h
      cases ys with
      | nil => simp at h
      | cons y ys =>
        simp only [setL]
        have := ih (pre ++ [c]) ys (by simpa using h)
        simp only [List.length_append, List.length_cons, List.length_nil, Nat.zero_add, List.append_assoc, List.cons_append, List.nil_append] at this
        rw [← this]
        congr 1
        rw [List.set_append_right _ _ (Nat.le_refl _)]
        simp
  simpa using key cs [] ys h
theorem setL_one {ys : List AV} {off : Nat} {c : AV} : setL ys off [c] = ys.set off c := (rfl)
theorem okLog_cons {all : Array Oper} {i : Nat} {rd wr : List Nat} {e : Nat × List Nat × List Nat} {log : Log} : okLog all i rd wr (e :: log) = ((!(meet wr e.2.1 || meet wr e.2.2 || meet rd e.2.2) || ordB all all.size e.1 i) && okLog all i rd wr log) := (rfl)
theorem okLog_nil' {all : Array Oper} {i : Nat} {rd wr : List Nat} : okLog all i rd wr [] = true := (rfl)
theorem meet_nil {b : List Nat} : meet [] b = false := (rfl)
theorem meet_nil' {b : List Nat} : meet b [] = false := by unfold meet; simp
theorem meet_cons {x : Nat} {a b : List Nat} : meet (x :: a) b = (b.contains x || meet a b) := (rfl)
theorem partA_pcell {p : PatchV} (i : Nat) (h : tagg P t = some false) : partA P t (pcell p) i = (pcell p)[i]? := partA_one h
theorem setL_pcell {a b c d e f g h i : AV} {q : PatchV} : setL [a, b, c, d, e, f, g, h, i] 0 (pcell q) = pcell q := (rfl)
theorem setL_pp {p q : PatchV} : setL (pcell p) 0 (pcell q) = pcell q := (rfl)
attribute [push_cast] setL_pcell setL_pp
theorem setL_map {zs : List Value} {cs : List AV} (h : cs.length = zs.length) : setL (zs.map .v) 0 cs = cs := setL_all (by simpa using h)

attribute [push_cast] cond_false cond_true
attribute [push_cast] allocA_some boxA_some freshOf_some freshOf_none updOK_some updOK_none upd_mk wrOf_cons fieldAddr_ptr fieldAddr_rop storeF_ptr storeO_cells cellsOf_agg cellsOf_seq cellsOf_sl cellsOf_int cellsOf_bool cellsOf_string cellsOf_nilsl setL_nil setL_one
attribute [push_cast] okLog_nil'
def okLogT (all : Array Oper) (i : Nat) (rd wr : List Nat) (log : Log) : Prop := okLog all i rd wr log = true
theorem okT {all : Array Oper} {i : Nat} {rd wr : List Nat} {log : Log} (h : okLog all i rd wr log = true) : okLogT all i rd wr log := h
theorem okLog_ok {all : Array Oper} {i : Nat} {rd wr : List Nat} {log : Log} (h : okLogT all i rd wr log) : okLog all i rd wr log = true := h
attribute [push_cast low] okLog_ok
attribute [push_cast] List.length_cons List.length_nil Option.isNone_some Option.isNone_none Bool.or_true Bool.true_or Bool.or_false Bool.false_or Bool.not_false Bool.not_true Bool.and_true Bool.true_and List.contains_cons List.contains_nil
end Go.AW
/- Calls, as the evaluator's goals meet them. -/
namespace Go.AW
variable {P : Program} {γ : GTab} {m : Mem}

theorem calleeOf_v {g : FuncId} : calleeOf (.v (.func (.func g) #[] #[])) = some (g, [], []) := (rfl)
theorem calleeOf_clo {g : FuncId} {a c : List AV} : calleeOf (.clo (.func g) a c) = some (g, a, c) := (rfl)
theorem snapArgs_idf {find : Nat → Option AObj} : ∀ {xs : List AV}, idfL xs = true → snapArgs find xs = some (xs, [])
  | [], _ => rfl
  | x :: xs, h => by
    simp only [idfL, Bool.and_eq_true] at h
    simp only [snapArgs, snap_idf h.1, snapArgs_idf h.2, List.append_nil]
/-- A call by contract, its arguments without objects. -/
theorem PCall.useV {g : FuncId} {xs : List AV} {x : AV} {K : AV → Mem → Prop} (hp : PCall P γ g xs x) (hK : K x m) : ACalls P γ g xs m K :=
  PCall.use hp (snapArgs_idf hp.1) (.inr rfl) hK
theorem retTo_eq {dst : Option Nat} {env : List (Nat × AV)} {K : St → Prop} {x : AV} : retTo dst env K x m = K ⟨putE dst x env, m⟩ := (rfl)
attribute [push_cast] calleeOf_v calleeOf_clo retTo_eq
end Go.AW
/- More rules: built slices, appends. -/
namespace Go.AW
theorem unf_v {x : Value} : unf (.v x) = .v x := (rfl)
theorem unf_agg {x : List AV} : unf (.agg x) = .agg x := (rfl)
theorem unf_tup {x : List AV} : unf (.tup x) = .tup x := (rfl)
theorem unf_seq {n z : Nat} {x : List AV} : unf (.seq n z x) = .seq n z x := (rfl)
theorem unf_full {n z : Nat} {x : List AV} : unf (.full n z x) = .seq n z x := (rfl)
theorem unf_sl {o off n z : Nat} : unf (.sl o off n z) = .sl o off n z := (rfl)
theorem unf_slc {o off n z : Nat} : unf (.slc o off n z) = .sl o off n z := (rfl)
theorem unf_rop {x : List AV} : unf (.rop x) = .rop x := (rfl)
theorem unf_ptr {o off : Nat} : unf (.ptr o off) = .ptr o off := (rfl)
theorem unf_mp {o : Nat} : unf (.mp o) = .mp o := (rfl)
theorem unf_mv {k : KT} {ks : List Value} {x : List AV} : unf (.mv k ks x) = .mv k ks x := (rfl)
theorem unf_it {o : Nat} : unf (.it o) = .it o := (rfl)
theorem unf_clo {f : Fn} {a b : List AV} : unf (.clo f a b) = .clo f a b := (rfl)
theorem unf_ifc {t : TypeId} {x : AV} : unf (.ifc t x) = .ifc t x := (rfl)
theorem unf_top : unf .top = .top := (rfl)
attribute [push_cast] unf_v unf_agg unf_tup unf_seq unf_full unf_sl unf_slc unf_rop unf_ptr unf_mp unf_mv unf_it unf_clo unf_ifc unf_top
theorem builtinG_append {P : Program} {find : Nat → Option AObj} {fr : Nat} {sT xT : TypeId} {s x : AV} : builtinG P find fr .append [sT, xT].toArray [s, x] = appendG P find fr sT xT s (unf x) := (rfl)
theorem builtinG_len {P : Program} {find : Nat → Option AObj} {fr : Nat} {ts : Array TypeId} {xs : List AV} : builtinG P find fr .len ts xs = builtinF P find fr .len ts (xs.map unf) := (rfl)
theorem builtinG_copy {P : Program} {find : Nat → Option AObj} {fr : Nat} {ts : Array TypeId} {xs : List AV} : builtinG P find fr .copy ts xs = builtinF P find fr .copy ts (xs.map unf) := (rfl)
theorem builtinG_min {P : Program} {find : Nat → Option AObj} {fr : Nat} {ts : Array TypeId} {xs : List AV} : builtinG P find fr .min ts xs = builtinF P find fr .min ts (xs.map unf) := (rfl)
theorem builtinG_max {P : Program} {find : Nat → Option AObj} {fr : Nat} {ts : Array TypeId} {xs : List AV} : builtinG P find fr .max ts xs = builtinF P find fr .max ts (xs.map unf) := (rfl)
theorem builtinG_delete {P : Program} {find : Nat → Option AObj} {fr : Nat} {ts : Array TypeId} {xs : List AV} : builtinG P find fr .delete ts xs = builtinF P find fr .delete ts (xs.map unf) := (rfl)
theorem appendG_v {P : Program} {find : Nat → Option AObj} {fr : Nat} {sT xT : TypeId} {s : Value} {x : AV} : appendG P find fr sT xT (.v s) x = appendF P find fr sT xT (.v s) x := (rfl)
theorem appendG_sl {P : Program} {find : Nat → Option AObj} {fr : Nat} {sT xT : TypeId} {o off n z : Nat} {x : AV} : appendG P find fr sT xT (.sl o off n z) x = appendF P find fr sT xT (.sl o off n z) x := (rfl)
theorem appendGB_some {P : Program} {e fr z n0 n : Nat} {ys xs : List AV} : appendGB P e fr z (some (n0, ys)) (some (n, xs)) = if z = tsz P e ∧ tok P e ∧ tzok P e ∧ 0 < tby P e ∧ (n0 = 0 ∨ 0 < n) ∧ (n0 + n) * tby P e ≤ 70368744177664 ∧ tby P e ≤ 1048576 then
      some (.sl fr 0 (n0 + n) (tsz P e), [(fr, .cells e (ys ++ xs) true)]) else none := rfl
attribute [push_cast] builtinG_append builtinG_len builtinG_copy builtinG_min builtinG_max builtinG_delete appendG_v appendG_sl appendGB_some
variable {P : Program} {γ : GTab} {t : TypeId} {env : List (Nat × AV)} {m : Mem} {dst : Option Nat}

def buildSliceA (P : Program) (e : Option TypeId) (n fresh : Nat) (parts : List (Nat × AV)) : Option (AV × Upd) := match e with
    | some e => match tz P e with
      | some zs => if tok P e ∧ zs.length = tsz P e ∧ n * tsz P e ≤ 16777216 then
          (fillA (fun i => some (i * tsz P e, tsz P e)) ((List.replicate n (zs.map AV.v)).flatten) parts).map fun cs => (.sl fresh 0 n (tsz P e), [(fresh, .cells e cs true)])
        else none
      | none => none
    | none => none
theorem stepE_buildSlice {n : Nat} {parts : List (Nat × Operand)} : stepE P γ env m dst (.buildSlice t n parts.toArray) = buildSliceA P (telem P t) n (freshOf m dst) (parts.map fun p => (p.1, unf (rho γ env p.2))) := by
  simp only [stepE, stepF, stepF0, buildSliceA]
  cases telem P t with
  | none => rfl
  | some e => cases tz P e <;> rfl
def fillB (place : Nat → Option (Nat × Nat)) (cells : List AV) (pl : Option (Nat × Nat)) (cs : Option (List AV)) (rest : List (Nat × AV)) : Option (List AV) := match pl, cs with
    | some (off, size), some cs => if cs.length = size then if off + size ≤ cells.length then fillA place (setL cells off cs) rest else none else none
    | _, _ => none
theorem fillA_nil {place : Nat → Option (Nat × Nat)} {cells : List AV} : fillA place cells [] = some cells := (rfl)
theorem fillA_cons {place : Nat → Option (Nat × Nat)} {cells : List AV} {i : Nat} {x : AV} {rest : List (Nat × AV)} : fillA place cells ((i, x) :: rest) = fillB place cells (place i) (cellsOf x) rest := by
  simp only [fillA, fillB]
  rfl
theorem fillB_some {place : Nat → Option (Nat × Nat)} {cells cs : List AV} {off size : Nat} {rest : List (Nat × AV)} : fillB place cells (some (off, size)) (some cs) rest = if cs.length = size then if off + size ≤ cells.length then fillA place (setL cells off cs) rest else none else none := (rfl)
def appendC (P : Program) (e : TypeId) (fresh : Nat) (n : Nat) (xs : List AV) (o off n0 z : Nat) (ob : Option AObj) : Option (AV × Upd) := match ob with
        | some (.cells E ys true) =>
          if z = tsz P e ∧ E = e ∧ tok P e ∧ tzok P e ∧ 0 < tby P e ∧ off + n0 * tsz P e = ys.length ∧ (n0 + n) * tby P e ≤ 70368744177664 ∧ tby P e ≤ 1048576 then
            some (.sl fresh 0 (n0 + n) (tsz P e), [(o, .dead), (fresh, .cells e (ys.drop off ++ xs) true)]) else none
        | _ => none
def appendB (P : Program) (e : TypeId) (find : Nat → Option AObj) (fresh : Nat) (src : Option (Nat × List AV)) (s : AV) : Option (AV × Upd) := match src with
    | some (n, xs) => match s with
      | .v (.slice none 0 0) =>
        if tok P e ∧ tzok P e ∧ 0 < tby P e ∧ n * tby P e ≤ 70368744177664 ∧ tby P e ≤ 1048576 then some (.sl fresh 0 n (tsz P e), [(fresh, .cells e xs true)]) else none
      | .sl o off n0 z => appendC P e fresh n xs o off n0 z (find o)
      | _ => none
    | none => none
theorem appendF_eq {find : Nat → Option AObj} {fresh : Nat} {sT xT e : TypeId} {s x : AV} (he : telem P sT = some e) (hi : tisint P xT = some false) : appendF P find fresh sT xT s x = appendB P e find fresh (srcS find (tsz P e) x) s := by
  simp only [appendF, he, hi, appendB, appendC]
  rfl
def appendFA (P : Program) (find : Nat → Option AObj) (fresh : Nat) (te : Option TypeId) (ti : Option Bool) (s x : AV) : Option (AV × Upd) := match te, ti with
  | some e, some false => appendB P e find fresh (srcS find (tsz P e) x) s
  | _, _ => none
theorem appendF_A {find : Nat → Option AObj} {fresh : Nat} {sT xT : TypeId} {s x : AV} : appendF P find fresh sT xT s x = appendFA P find fresh (telem P sT) (tisint P xT) s x := by
  unfold appendFA
  cases he : telem P sT with
  | none => simp only [appendF, he]
  | some e => cases hi : tisint P xT with
    | none => simp only [appendF, he, hi]
    | some b => cases b
                · exact appendF_eq he hi
                · simp only [appendF, he, hi]
theorem appendFA_some {find : Nat → Option AObj} {fresh : Nat} {e : TypeId} {s x : AV} : appendFA P find fresh (some e) (some false) s x = appendB P e find fresh (srcS find (tsz P e) x) s := (rfl)
def appendGE (P : Program) (fr z : Nat) (te : Option TypeId) (ti : Option Bool) (old : Option (Nat × List AV)) (src : Nat → Option (Nat × List AV)) : Option (AV × Upd) := match te, ti with
  | some e, some false => appendGB P e fr z old (src (tsz P e))
  | _, _ => none
theorem appendG_full {find : Nat → Option AObj} {fr : Nat} {sT xT : TypeId} {n z : Nat} {l : List AV} {x : AV} : appendG P find fr sT xT (.full n z l) x = appendGE P fr z (telem P sT) (tisint P xT) (some (n, l)) fun z => srcS find z x := by
  simp only [appendG, appendGA, rdS, appendGE]
  cases telem P sT <;> cases tisint P xT <;> rfl
theorem appendG_slc {find : Nat → Option AObj} {fr : Nat} {sT xT : TypeId} {o off n z : Nat} {x : AV} : appendG P find fr sT xT (.slc o off n z) x = appendGE P fr z (telem P sT) (tisint P xT) (rdS find (.sl o off n z)) fun z => srcS find z x := by
  simp only [appendG, appendGA, appendGE]
  cases telem P sT <;> cases tisint P xT <;> rfl
theorem appendGE_some {fr z : Nat} {e : TypeId} {old : Option (Nat × List AV)} {src : Nat → Option (Nat × List AV)} : appendGE P fr z (some e) (some false) old src = appendGB P e fr z old (src (tsz P e)) := (rfl)
attribute [push_cast] appendF_A appendFA_some appendG_full appendG_slc appendGE_some
theorem append_b {find : Nat → Option AObj} {fresh : Nat} {sT xT : TypeId} {s x : AV} : builtinF P find fresh .append [sT, xT].toArray [s, x] = appendF P find fresh sT xT s x := (rfl)
theorem appendB_nil {e : TypeId} {find : Nat → Option AObj} {fresh n : Nat} {xs : List AV} : appendB P e find fresh (some (n, xs)) (.v (.slice none 0 0)) = if tok P e ∧ tzok P e ∧ 0 < tby P e ∧ n * tby P e ≤ 70368744177664 ∧ tby P e ≤ 1048576 then some (.sl fresh 0 n (tsz P e), [(fresh, .cells e xs true)]) else none := (rfl)
theorem appendB_sl {e : TypeId} {find : Nat → Option AObj} {fresh n o off n0 z : Nat} {xs : List AV} : appendB P e find fresh (some (n, xs)) (.sl o off n0 z) = appendC P e fresh n xs o off n0 z (find o) := (rfl)
theorem appendC_cells {e E : TypeId} {fresh n o off n0 z : Nat} {xs ys : List AV} : appendC P e fresh n xs o off n0 z (some (.cells E ys true)) = if z = tsz P e ∧ E = e ∧ tok P e ∧ tzok P e ∧ 0 < tby P e ∧ off + n0 * tsz P e = ys.length ∧ (n0 + n) * tby P e ≤ 70368744177664 ∧ tby P e ≤ 1048576 then some (.sl fresh 0 (n0 + n) (tsz P e), [(o, .dead), (fresh, .cells e (ys.drop off ++ xs) true)]) else none := (rfl)
theorem srcS_seq {find : Nat → Option AObj} {sz n z : Nat} {xs : List AV} : srcS find sz (.seq n z xs) = if z = sz then some (n, xs) else none := (rfl)
theorem srcS_nil {find : Nat → Option AObj} {sz : Nat} : srcS find sz (.v (.slice none 0 0)) = some (0, []) := (rfl)
theorem srcS_sl {find : Nat → Option AObj} {sz o off n z : Nat} : srcS find sz (.sl o off n z) = if z = sz then rdS find (.sl o off n z) else none := (rfl)
def rdO (off n sz : Nat) (ob : Option AObj) : Option (Nat × List AV) := match ob with
    | some (.cells _ ys _) => if off + n * sz ≤ ys.length then some (n, (ys.drop off).take (n * sz)) else none
    | some (.imm ys) => if off + n * sz ≤ ys.length then some (n, (ys.drop off).take (n * sz)) else none
    | _ => none
theorem rdS_sl {find : Nat → Option AObj} {o off n sz : Nat} : rdS find (.sl o off n sz) = rdO off n sz (find o) := (rfl)
theorem rdO_cells {off n sz : Nat} {E : TypeId} {ys : List AV} {ap : Bool} : rdO off n sz (some (.cells E ys ap)) = if off + n * sz ≤ ys.length then some (n, (ys.drop off).take (n * sz)) else none := (rfl)
theorem len_sl {find : Nat → Option AObj} {fr o off n sz : Nat} {t : TypeId} {ts : List TypeId} : builtinF P find fr .len (t :: ts).toArray [.sl o off n sz] = match tarr P t with | some (n, _) => some (.v (.int .i64 n), []) | none => if tlenk P t = some 0 then some (.v (.int .i64 n), []) else none := by
  simp [builtinF, lenA]
  cases tarr P t <;> simp
attribute [push_cast] rdS_sl rdO_cells len_sl
attribute [push_cast] srcS_seq srcS_nil srcS_sl
attribute [push_cast] append_b appendB_nil appendB_sl appendC_cells
attribute [push_cast] stepE_buildSlice fillA_nil fillA_cons fillB_some List.replicate_zero List.replicate_succ List.flatten_nil List.flatten_cons
end Go.AW
/- A call gone into; a closed call, run by the kernel. -/
namespace Go.AW
variable {P : Program} {γ : GTab}

/-- All that was there is there still. -/
def keepsAll (m : Mem) (objs : List (Nat × AObj)) : Bool := m.objs.all fun p => (lk objs p.1).isSome

theorem keepsAll_find {m : Mem} {objs : List (Nat × AObj)} (h : keepsAll m objs = true) {o : Nat} (ho : m.find o ≠ none) : lk objs o ≠ none := by
  obtain ⟨x, hx⟩ := Option.ne_none_iff_exists'.1 ho
  unfold keepsAll at h
  rw [List.all_eq_true] at h
  have := h _ (lk_mem hx)
  intro e
  simp only [e] at this
  cases this

def endA (P : Program) (rs : List ResultVar) (m : Mem) (K : AV → Mem → Prop) (_ : Exit) (σ : St) : Prop :=
  ∃ y, resA P rs σ.env σ.mem = some y ∧ keepsAll m σ.mem.objs = true ∧ K y ⟨σ.mem.objs, σ.mem.next, m.base, m.wid⟩

/-- What a call does, by its code. -/
theorem ACalls.enter {f : FuncId} {fn : Func} {c : Code} {xs : List AV} {m : Mem} {K : AV → Mem → Prop} (hf : P.funcs[f]? = some fn) (hb : fn.body = some c) (hn : (fn.name == "runtime.NumGoroutine") = false) (hm : P.follows .mixedOrders = true) (hd : dOK c = true)
    (h : ev P γ m.next fn.ntmps [.code c, .fin (endA P fn.results.toList m K)] ⟨(xs.zipIdx.map fun p => (p.2, p.1)), m.close⟩) : ACalls P γ f xs m K := by
  refine ⟨⟨fn, hf, hn, by rw [hb]; rfl⟩, fun S μ w vs hr hG hxs => ?_⟩
  refine calls_of_wp hf hb ?_
  have hRM : RM S μ w m.close := ⟨hr.obj, hr.inj, hr.old, hr.fr, fun o h1 h2 => by simp only [Mem.close] at h1 h2; omega, by simp [Mem.close], hr.bk⟩
  have hExt : Ext m.next m S μ w m.close S μ w := ⟨rfl, rfl, rfl, Nat.le_refl _, fun _ _ => rfl, fun _ _ h => h, Nat.le_refl _, fun _ _ h => h, fun _ _ _ h => .inl h, fun _ _ _ => rfl, fun _ _ _ _ _ h => h, fun _ _ h => ⟨rfl, h⟩, fun _ => Nat.le_refl _⟩
  have hRX : RX γ fn.ntmps m.next m S μ w ⟨(xs.zipIdx.map fun p => (p.2, p.1)), m.close⟩ { tmps := vs.toArray ++ Array.replicate (fn.ntmps - vs.toArray.size) undef, defers := [] } w :=
    ⟨S, μ, ⟨hRM, args_env hxs, rfl⟩, hG, hExt, by simp; omega, Nat.le_refl _, Nat.zero_le _⟩
  have fin : ∀ (e : Exit) (σ : St) (a : Act) (w' : World), endA P fn.results.toList m K e σ → RX γ fn.ntmps m.next m S μ w σ a w' → a.defers = [] ∧ ∃ v, (results fn a.tmps).run P w' = .ok v w' ∧
      ∃ v0 x m' S' μ', Ending.returned v = .returned v0 ∧ m'.base = m.base ∧ m'.wid = m.wid ∧ RM S' μ' w' m' ∧ Ext m.next m S μ w m' S' μ' w' ∧ Rep S' μ' w' x v0 ∧ K x m' := by
    intro e σ a w' hE hR
    obtain ⟨S', μ', hA, hG', hX, _, _, _⟩ := hR
    obtain ⟨y, h1, hk, h2⟩ := hE
    obtain ⟨v, h3, h4⟩ := res_run hA.rm hA.env h1
    have hle := hr.le
    have hnx : m.next ≤ σ.mem.next := hX.next
    refine ⟨hA.defers, v, h3, v, y, ⟨σ.mem.objs, σ.mem.next, m.base, m.wid⟩, S', μ', rfl, rfl, rfl, ⟨hA.rm.obj, hA.rm.inj, hA.rm.old, hA.rm.fr, fun o h5 h6 h7 => ?_, by show m.base + m.wid ≤ σ.mem.next; omega, hA.rm.bk⟩, hX.same (fun _ => rfl) rfl, h4, h2⟩
    simp only at h5 h6
    rw [hX.ids o (by omega)] at h7
    exact keepsAll_find hk (hr.win o h5 h6 h7)
  refine wp_mono (ev_sound hm _ c [.fin (endA P fn.results.toList m K)] _ _ w hd (Nat.le_refl _) h hRX) fun e a w' hp => ?_
  cases e with
  | normal =>
    obtain ⟨σ, h1, h2⟩ := hp
    rw [ev] at h1
    exact fin .normal σ a w' h1 h2
  | ret =>
    obtain ⟨σ, Q, h1, h2, h3⟩ := hp
    simp only [retK, Option.some.injEq] at h1
    subst h1
    exact fin .ret σ a w' h2 h3
  | exit id =>
    obtain ⟨σ, k', h1, _⟩ := hp
    simp [exitK] at h1
  | _ => exact hp.elim

/-! Runs. -/
inductive RI where
  | code (c : Code)
  | blk (id : Nat)
  | scp
  | lp (c : Code)

def exitR (id : Nat) : List RI → Option (List RI)
  | .blk id' :: k => if id' = id then some k else exitR id k
  | _ :: k => exitR id k
  | [] => none

def dstB (m : Mem) : Option Nat → Bool
  | some d => decide (d < m.wid)
  | none => true
theorem dstB_ok {m : Mem} {d : Option Nat} (h : dstB m d = true) : dstOK m d := by
  cases d with
  | none => trivial
  | some d => simpa [dstB, dstOK] using h

def rS (r : Option (AV × Upd)) (dst : Option Nat) (σ : St) : Option St :=
  match r with
  | some (x, u) => if dstB σ.mem dst && updOK σ.mem dst u then some ⟨putE dst x σ.env, σ.mem.upd u⟩ else none
  | none => none
def rN (r : Option Nat) (neg : Bool) (dst : Option Nat) (σ : St) (other : Option St) : Option St :=
  match r with
  | some n => if dstB σ.mem dst && decide (n ≠ 0) then some ⟨putE dst (.v (.bool neg)) σ.env, σ.mem⟩ else none
  | none => other
def rNx (o : Nat) (dst : Option Nat) (σ : St) (ob : Option AObj) : Option St :=
  match ob with
  | some (.miter _ [] _) => if dstB σ.mem dst then some ⟨putE dst (.tup [.v (.bool false)]) σ.env, σ.mem⟩ else none
  | some (.miter _ [k] [x]) => if dstB σ.mem dst then some ⟨putE dst (.tup [.v (.bool true), .v k, x]) σ.env, σ.mem.upd [(o, .miter (some (k, x)) [] [])]⟩ else none
  | _ => none
def rNext (x : AV) (isStr : Bool) (dst : Option Nat) (σ : St) : Option St :=
  match x, isStr with
  | .it o, false => rNx o dst σ (σ.mem.find o)
  | _, _ => none
abbrev CallF := FuncId → List AV → Mem → Option (AV × Mem)
def emptyMem : Mem := ⟨[], 0, 0, 0⟩
def pC (call : CallF) (g : FuncId) (xs : List AV) : Option AV :=
  if idfL xs then (call g xs emptyMem).bind fun p => (snap p.2.find 12 (unf p.1)).bind fun q => if idf q.1 then some q.1 else none else none
def pN (call : CallF) (g : FuncId) (xs : List AV) : Option AV :=
  if idfL xs then (call g xs emptyMem).bind fun p => (snapN p.2.find 12 (unf p.1)).bind fun q => if idf q then some q else none else none
/-- A call: gone into, or else by what it makes. -/
def cc (call : CallF) (g : FuncId) (xs : List AV) (m : Mem) : Option (AV × Mem) :=
  match call g xs m with
  | some p => some p
  | none => match snapArgs m.find xs with
    | some p => (pN call g p.1).map fun r => (r, m)
    | none => none
def rC (call : CallF) (r : Option (FuncId × List AV × List AV)) (args : List AV) (dst : Option Nat) (σ : St) : Option St :=
  match r with
  | some (g, a, c) => if dstB σ.mem dst then (cc call g ((a ++ args ++ c).map unf) σ.mem).map fun p => ⟨putE dst p.1 σ.env, p.2⟩ else none
  | none => none
def rO (P : Program) (γ : GTab) (call : CallF) (o : Oper) (σ : St) : Option St :=
  match o.op with
  | .call { callee := .value f, args, .. } => rC call (calleeOf (rho γ σ.env f)) (args.toList.map (rho γ σ.env)) o.dst σ
  | .binOp .eql t x y _ => rN (nilSl P t (unf (rho γ σ.env x)) (rho γ σ.env y)) false o.dst σ (rS (stepF P (rho γ σ.env) σ.mem.find (freshOf σ.mem o.dst) o.op) o.dst σ)
  | .binOp .neq t x y _ => rN (nilSl P t (unf (rho γ σ.env x)) (rho γ σ.env y)) true o.dst σ (rS (stepF P (rho γ σ.env) σ.mem.find (freshOf σ.mem o.dst) o.op) o.dst σ)
  | .next x isStr => rNext (rho γ σ.env x) isStr o.dst σ
  | _ => rS (stepF P (rho γ σ.env) σ.mem.find (freshOf σ.mem o.dst) o.op) o.dst σ
def rG (P : Program) (γ : GTab) (call : CallF) (all : Array Oper) (o : Oper) (σ : St) : Option St :=
  match o.guard with
  | none => rO P γ call o σ
  | some (j, want) => match (all[j]?).bind (·.dst) with
    | some d => match (lk σ.env d).bind boolA with
      | some b => if b = want then rO P γ call o ⟨(d, .v (.bool want)) :: σ.env, σ.mem⟩ else some ⟨putE o.dst (.v undef) ((d, .v (.bool (!want))) :: σ.env), σ.mem⟩
      | none => none
    | none => none
def rL (P : Program) (γ : GTab) (call : CallF) (all : Array Oper) : List Oper → St → Option St
  | [], σ => some ⟨σ.env, σ.mem.close⟩
  | o :: l, σ => (rG P γ call all o σ).bind (rL P γ call all l)

def rDS (all : Array Oper) (i : Nat) (fp : List Nat) (log : Log) (r : Option (AV × Upd)) (dst : Option Nat) (σ : St) : Option (Log × St) :=
  match r with
  | some (x, u) => if dstB σ.mem dst && updOK σ.mem dst u && okLog all i fp (wrOf u) log then some ((i, fp, wrOf u) :: log, ⟨putE dst x σ.env, σ.mem.upd u⟩) else none
  | none => none
def rDC2 (call : CallF) (all : Array Oper) (i : Nat) (log : Log) (g : FuncId) (r : Option (List AV × List Nat)) (dst : Option Nat) (σ : St) : Option (Log × St) :=
  match r with
  | some (xs, ids) => if dstB σ.mem dst && okLog all i ids [] log then match pN call g xs with
    | some r => some ((i, ids, []) :: log, ⟨putE dst r σ.env, σ.mem⟩)
    | none => match pC call g xs with
      | some r => if scalar r || ids.isEmpty then some ((i, ids, []) :: log, ⟨putE dst r σ.env, σ.mem⟩) else none
      | none => none
    else none
  | none => none
def rDC (call : CallF) (all : Array Oper) (i : Nat) (log : Log) (r : Option (FuncId × List AV × List AV)) (args : List AV) (dst : Option Nat) (σ : St) : Option (Log × St) :=
  match r with
  | some (g, a, c) => rDC2 call all i log g (snapArgs σ.mem.find ((a ++ args ++ c).map unf)) dst σ
  | none => none
def rDO (P : Program) (γ : GTab) (call : CallF) (all : Array Oper) (i : Nat) (log : Log) (o : Oper) (σ : St) : Option (Log × St) :=
  match o.op with
  | .call { callee := .value f, args, .. } => rDC call all i log (calleeOf (rho γ σ.env f)) (args.toList.map (rho γ σ.env)) o.dst σ
  | _ => rDS all i (fpOf γ σ.env o.op) log (stepF P (rho γ σ.env) σ.mem.find (freshOf σ.mem o.dst) o.op) o.dst σ
def rDG (P : Program) (γ : GTab) (call : CallF) (all : Array Oper) (i : Nat) (log : Log) (o : Oper) (σ : St) : Option (Log × St) :=
  match o.guard with
  | none => rDO P γ call all i log o σ
  | some (j, want) => match (all[j]?).bind (·.dst) with
    | some d => match (lk σ.env d).bind boolA with
      | some b => if b = want then rDO P γ call all i log o ⟨(d, .v (.bool want)) :: σ.env, σ.mem⟩ else some (log, ⟨putE o.dst (.v undef) ((d, .v (.bool (!want))) :: σ.env), σ.mem⟩)
      | none => none
    | none => none
def rDL (P : Program) (γ : GTab) (call : CallF) (all : Array Oper) : Nat → List Oper → Log → St → Option St
  | _, [], _, σ => some ⟨σ.env, σ.mem.close⟩
  | i, o :: l, log, σ => (rDG P γ call all i log o σ).bind fun p => rDL P γ call all (i + 1) l p.1 p.2

def headOK (n0 : Nat) (σ : St) : Bool := decide (σ.mem.wid = 0) && decide (n0 ≤ σ.mem.base)

def rk (P : Program) (γ : GTab) (call : CallF) (n0 N : Nat) : Nat → List RI → St → Option St
  | 0, _, _ => none
  | _ + 1, [], σ => some σ
  | n + 1, .blk _ :: k, σ => rk P γ call n0 N n k σ
  | n + 1, .scp :: k, σ => rk P γ call n0 N n k σ
  | n + 1, .lp c :: k, σ => if headOK n0 σ then rk P γ call n0 N n (.code c :: .lp c :: k) σ else none
  | n + 1, .code (.region _ ops false) :: k, σ => (rL P γ call ops ops.toList ⟨σ.env, σ.mem.open_ N⟩).bind (rk P γ call n0 N n k)
  | n + 1, .code (.region _ ops true) :: k, σ => (rDL P γ call ops 0 ops.toList [] ⟨σ.env, σ.mem.open_ N⟩).bind (rk P γ call n0 N n k)
  | n + 1, .code (.seq a b) :: k, σ => rk P γ call n0 N n (.code a :: .code b :: k) σ
  | n + 1, .code (.cond c a b) :: k, σ => match boolA (rho γ σ.env c) with
    | some true => rk P γ call n0 N n (.code a :: k) ⟨condE σ.env c true, σ.mem⟩
    | some false => rk P γ call n0 N n (.code b :: k) ⟨condE σ.env c false, σ.mem⟩
    | none => none
  | n + 1, .code (.block id c) :: k, σ => rk P γ call n0 N n (.code c :: .blk id :: k) σ
  | n + 1, .code (.loop c) :: k, σ => if headOK n0 σ then rk P γ call n0 N n (.code c :: .lp c :: k) σ else none
  | n + 1, .code (.exit id) :: k, σ => match exitR id k with
    | some k' => rk P γ call n0 N n k' σ
    | none => none
  | n + 1, .code (.scope c) :: k, σ => rk P γ call n0 N n (.code c :: .scp :: k) σ
  | n + 1, .code (.label _) :: k, σ => rk P γ call n0 N n k σ
  | n + 1, .code .skip :: k, σ => rk P γ call n0 N n k σ
  | _ + 1, .code .ret :: _, σ => some σ
  | _ + 1, .code _ :: _, _ => none

def rcF (P : Program) (γ : GTab) (call : CallF) (fuel : Nat) (fn : Option Func) (xs : List AV) (m : Mem) : Option (AV × Mem) :=
  match fn with
  | some fn => match fn.body with
    | some c => if (fn.name == "runtime.NumGoroutine") = false ∧ dOK c = true then
        match rk P γ call m.next fn.ntmps fuel [.code c] ⟨(xs.zipIdx.map fun p => (p.2, p.1)), m.close⟩ with
        | some σ => match resA P fn.results.toList σ.env σ.mem with
          | some y => if keepsAll m σ.mem.objs then some (y, ⟨σ.mem.objs, σ.mem.next, m.base, m.wid⟩) else none
          | none => none
        | none => none
      else none
    | none => none
  | none => none
/-- A closed call, run. -/
def rc (P : Program) (γ : GTab) (fuel : Nat) : Nat → CallF
  | 0 => fun _ _ _ => none
  | d + 1 => fun g xs m => rcF P γ (rc P γ fuel d) fuel P.funcs[g]? xs m

/-! They are right. -/
def CallOK (P : Program) (γ : GTab) (call : CallF) : Prop := ∀ g xs m x m', call g xs m = some (x, m') → ∀ K : AV → Mem → Prop, K x m' → ACalls P γ g xs m K

theorem rS_ok {r : Option (AV × Upd)} {dst : Option Nat} {σ σ' : St} {K : St → Prop} (h : rS r dst σ = some σ') (hK : K σ') : evS r dst σ K := by
  unfold rS at h
  split at h
  · split at h
    · rename_i hc
      simp only [Bool.and_eq_true] at hc
      simp only [Option.some.injEq] at h
      subst h
      exact ⟨dstB_ok hc.1, hc.2, hK⟩
    · cases h
  · cases h

theorem PCall.of_run {call : CallF} (hc : CallOK P γ call) {g : FuncId} {xs : List AV} {r : AV} (h : pC call g xs = some r) : PCall P γ g xs r := by
  unfold pC at h
  split at h
  · rename_i hx
    simp only [Option.bind_eq_some_iff] at h
    obtain ⟨⟨x, m'⟩, h1, ⟨y, ids⟩, h2, h3⟩ := h
    simp only [Option.ite_none_right_eq_some, Option.some.injEq] at h3
    obtain ⟨hidf, rfl⟩ := h3
    have hA := hc g xs emptyMem x m' h1 (fun x0 m0 => x0 = x ∧ m0 = m') ⟨rfl, rfl⟩
    have hrm0 : ∀ (S : Nat → Nat → Prop) (w : World), (∀ b off, S b off → b < w.heap.size) → RM S μ0 w emptyMem := fun S w hold => ⟨fun o ob h => by simp [Mem.find, lk, emptyMem] at h, fun o o' ob ob' h => by simp [Mem.find, lk, emptyMem] at h, hold, fun _ _ => rfl, fun o _ h => by simp [emptyMem] at h, Nat.le_refl _, fun o b bo h => by simp [μ0] at h⟩
    refine ⟨hx, hidf, hA.1, fun S w vs hold hG hxs => ?_⟩
    refine (hA.2 S μ0 w vs (hrm0 S w hold) hG hxs).mono fun e w' he => ?_
    obtain ⟨v, x0, m0, S', μ', rfl, _, _, hrm, hX, hrep, rfl, rfl⟩ := he
    refine ⟨v, (fun b off => S b off ∨ (w.heap.size ≤ b ∧ b < w'.heap.size)), rfl, ⟨hX.os, hX.tape, hX.output, hX.size, fun b off h => .inl h, fun b off hb h => ?_, fun b off h => ?_, fun b hb => ?_⟩, ?_⟩
    · rcases h with h | h
      · exact h
      · omega
    · rcases h with h | h
      · have := hold _ _ h; have := hX.size; omega
      · exact h.2
    · exact (hX.blk b hb (fun ⟨o, ob, bo, h, _⟩ => by simp [Mem.find, lk, emptyMem] at h)).1
    · refine (snap_repX hrm (fun b off hs => ?_) (fun b ho off => ?_) 12 (unf x0) y ids v h2 (unf_rep hrep)).2
      · rcases Nat.lt_or_ge b w.heap.size with hlt | hge
        · rcases hX.new b off hlt hs with h | ⟨o, ob, bo, h, _⟩
          · exact .inl h
          · simp [Mem.find, lk, emptyMem] at h
        · exact .inr ⟨hge, hrm.old _ _ hs⟩
      · rcases Nat.lt_or_ge b w.heap.size with hlt | hge
        · exact absurd ho (hX.blk b hlt (fun ⟨o, ob, bo, h, _⟩ => by simp [Mem.find, lk, emptyMem] at h)).2
        · obtain ⟨o, ob, bo, _, _, h⟩ := ho
          exact .inr ⟨hge, hrm.bk _ _ _ h⟩
  · cases h

theorem PNew.of_run {call : CallF} (hc : CallOK P γ call) {g : FuncId} {xs : List AV} {r : AV} (h : pN call g xs = some r) : PNew P γ g xs r := by
  unfold pN at h
  split at h
  · rename_i hx
    simp only [Option.bind_eq_some_iff] at h
    obtain ⟨⟨x, m'⟩, h1, y, h2, h3⟩ := h
    simp only [Option.ite_none_right_eq_some, Option.some.injEq] at h3
    obtain ⟨hidf, rfl⟩ := h3
    exact PNew.of hx hidf (hc g xs emptyMem x m' h1 (fun y0 m => snapN m.find 12 (unf y0) = some y) h2)
  · cases h
theorem cc_ok {call : CallF} (hc : CallOK P γ call) {g : FuncId} {xs : List AV} {m m' : Mem} {x : AV} (h : cc call g xs m = some (x, m')) {K : AV → Mem → Prop} (hK : K x m') : ACalls P γ g xs m K := by
  unfold cc at h
  split at h
  · rename_i p hp
    simp only [Option.some.injEq] at h
    subst h
    exact hc _ _ _ _ _ hp _ hK
  · split at h
    · rename_i p hp
      simp only [Option.map_eq_some_iff, Prod.mk.injEq] at h
      obtain ⟨r, h1, rfl, rfl⟩ := h
      exact Fit.use (.inr (PNew.of_run hc h1)) hp hK
    · cases h
theorem rC_ok {call : CallF} (hc : CallOK P γ call) {r : Option (FuncId × List AV × List AV)} {args : List AV} {dst : Option Nat} {σ σ' : St} {K : St → Prop} (h : rC call r args dst σ = some σ') (hK : K σ') : evC P γ r args dst σ K := by
  unfold rC at h
  split at h
  · rename_i g a c
    split at h
    · rename_i hd
      simp only [Option.map_eq_some_iff] at h
      obtain ⟨⟨x, m'⟩, h1, rfl⟩ := h
      exact ⟨dstB_ok hd, cc_ok hc h1 hK⟩
    · cases h
  · cases h
theorem rNx_ok {o : Nat} {ob : Option AObj} {dst : Option Nat} {σ σ' : St} {K : St → Prop} (h : rNx o dst σ ob = some σ') (hK : K σ') : evNx o dst σ K ob := by
  unfold rNx at h
  unfold evNx
  split at h
  · split at h
    · rename_i hd
      simp only [Option.some.injEq] at h
      subst h
      exact ⟨dstB_ok hd, fun _ => hK, fun i k x hk _ => by simp at hk⟩
    · cases h
  · rename_i k x
    split at h
    · rename_i hd
      simp only [Option.some.injEq] at h
      subst h
      refine ⟨dstB_ok hd, fun h => absurd h (by simp), fun i k' x' hk hx => ?_⟩
      cases i with
      | zero => simp at hk hx; subst hk; subst hx; exact hK
      | succ i => simp at hk
    · cases h
  · cases h
theorem rNext_ok {x : AV} {b : Bool} {dst : Option Nat} {σ σ' : St} {K : St → Prop} (h : rNext x b dst σ = some σ') (hK : K σ') : evNext x b dst σ K := by
  cases x with
  | it o => cases b with
    | false => exact rNx_ok h hK
    | true => cases h
  | _ => cases h
theorem rN_ok {r : Option Nat} {neg : Bool} {dst : Option Nat} {σ σ' : St} {K : St → Prop} {x : Option St} {y : Prop} (hxy : x = some σ' → y) (h : rN r neg dst σ x = some σ') (hK : K σ') : evN r neg dst σ K y := by
  unfold rN at h
  split at h
  · rename_i n
    split at h
    · rename_i hd
      simp only [Bool.and_eq_true, decide_eq_true_eq] at hd
      simp only [Option.some.injEq] at h
      subst h
      exact ⟨dstB_ok hd.1, fun e => (hd.2 e).elim, hK⟩
    · cases h
  · exact hxy h
theorem rO_plain {call : CallF} {dst : Option Nat} {op : Op} {ty : TypeId} {pos : String} {after : Array Edge} {gd : Option (Nat × Bool)} {σ : St} (h : plainOp op = true) : rO P γ call ⟨dst, op, ty, pos, after, gd⟩ σ = rS (stepF P (rho γ σ.env) σ.mem.find (freshOf σ.mem dst) op) dst σ := by
  unfold rO
  split
  · rename_i f args ts e; simp only at e; subst e; simp [plainOp] at h
  · rename_i e; simp only at e; subst e; simp [plainOp] at h
  · rename_i e; simp only at e; subst e; simp [plainOp] at h
  · rename_i e; simp only at e; subst e; simp [plainOp] at h
  · rfl
theorem rDO_plain {call : CallF} {all : Array Oper} {i : Nat} {log : Log} {dst : Option Nat} {op : Op} {ty : TypeId} {pos : String} {after : Array Edge} {gd : Option (Nat × Bool)} {σ : St} (h : callOp op = false) : rDO P γ call all i log ⟨dst, op, ty, pos, after, gd⟩ σ = rDS all i (fpOf γ σ.env op) log (stepF P (rho γ σ.env) σ.mem.find (freshOf σ.mem dst) op) dst σ := by
  unfold rDO
  split
  · rename_i f args ts e; simp only at e; subst e; simp [callOp] at h
  · rfl
theorem rO_ok {call : CallF} (hc : CallOK P γ call) {o : Oper} {σ σ' : St} {K : St → Prop} (h : rO P γ call o σ = some σ') (hK : K σ') : evO P γ o σ K := by
  obtain ⟨dst, op, ty, pos, after, guard⟩ := o
  cases op with
  | call c =>
    obtain ⟨callee, args, ts⟩ := c
    cases callee with
    | value f => exact rC_ok hc h hK
    | builtin b => rw [rO_plain rfl] at h; obtain ⟨env, m⟩ := σ; rw [evO_plain rfl]; exact rS_ok h hK
    | invoke r q => simp [rO, rS, stepF, stepF0] at h
  | binOp b t x y yT =>
    cases b with
    | eql => exact rN_ok (fun h => rS_ok h hK) h hK
    | neq => exact rN_ok (fun h => rS_ok h hK) h hK
    | _ => rw [rO_plain rfl] at h; obtain ⟨env, m⟩ := σ; rw [evO_plain rfl]; exact rS_ok h hK
  | next x b => exact rNext_ok h hK
  | go c => simp [rO, rS, stepF, stepF0] at h
  | defer c => simp [rO, rS, stepF, stepF0] at h
  | _ => rw [rO_plain rfl] at h; obtain ⟨env, m⟩ := σ; rw [evO_plain rfl]; exact rS_ok h hK

theorem boolA_ev {r : Option AV} {b want : Bool} {yes no : Prop} (h : r.bind boolA = some b) (hy : b = want → yes) (hn : b = (!want) → no) : evB r want yes no := by
  unfold evB
  rw [h]
  exact ⟨hy, hn⟩

theorem rG_ok {call : CallF} (hc : CallOK P γ call) {all : Array Oper} {o : Oper} {σ σ' : St} {K : St → Prop} (h : rG P γ call all o σ = some σ') (hK : K σ') : evG P γ all o σ K := by
  unfold rG at h
  unfold evG
  cases hg : o.guard with
  | none =>
    rw [hg] at h
    exact rO_ok hc h hK
  | some p =>
    obtain ⟨j, want⟩ := p
    rw [hg] at h
    simp only at h ⊢
    cases hd : (all[j]?).bind (·.dst) with
    | none => rw [hd] at h; cases h
    | some d =>
      rw [hd] at h
      simp only at h ⊢
      cases hb : (lk σ.env d).bind boolA with
      | none => rw [hb] at h; cases h
      | some b =>
        rw [hb] at h
        simp only at h
        split at h
        · rename_i e
          subst e
          exact boolA_ev hb (fun _ => rO_ok hc h hK) (fun e => by cases b <;> cases e)
        · rename_i e
          simp only [Option.some.injEq] at h
          subst h
          exact boolA_ev hb (fun e' => (e e').elim) (fun _ => hK)

theorem rL_ok {call : CallF} (hc : CallOK P γ call) {n0 N : Nat} {all : Array Oper} {k : List KI} : ∀ {l : List Oper} {σ σ' : St}, rL P γ call all l σ = some σ' → ev P γ n0 N k σ' → ev P γ n0 N (.ops all l :: k) σ
  | [], σ, σ', h, hK => by
    simp only [rL, Option.some.injEq] at h
    subst h
    rw [ev]; exact hK
  | o :: l, σ, σ', h, hK => by
    simp only [rL, Option.bind_eq_some_iff] at h
    obtain ⟨σ1, h1, h2⟩ := h
    rw [ev]
    exact rG_ok hc h1 (rL_ok hc h2 hK)

theorem rDS_ok {all : Array Oper} {i : Nat} {fp : List Nat} {log : Log} {r : Option (AV × Upd)} {dst : Option Nat} {σ : St} {p : Log × St} {K : Log → St → Prop} (h : rDS all i fp log r dst σ = some p) (hK : K p.1 p.2) : evDS all i fp log r dst σ K := by
  unfold rDS at h
  split at h
  · split at h
    · rename_i hc
      simp only [Bool.and_eq_true] at hc
      simp only [Option.some.injEq] at h
      subst h
      exact ⟨dstB_ok hc.1.1, hc.1.2, hc.2, hK⟩
    · cases h
  · cases h
theorem rDC2_ok {call : CallF} (hc : CallOK P γ call) {all : Array Oper} {i : Nat} {log : Log} {g : FuncId} {r : Option (List AV × List Nat)} {dst : Option Nat} {σ : St} {p : Log × St} {K : Log → St → Prop} (h : rDC2 call all i log g r dst σ = some p) (hK : K p.1 p.2) : evDC2 P γ all i log g r dst σ K := by
  unfold rDC2 at h
  split at h
  · rename_i xs ids
    split at h
    · rename_i hd
      simp only [Bool.and_eq_true] at hd
      split at h
      · rename_i r hr
        simp only [Option.some.injEq] at h
        subst h
        exact ⟨dstB_ok hd.1, hd.2, r, .inr (PNew.of_run hc hr), hK⟩
      · split at h
        · rename_i r hr
          split at h
          · rename_i hs
            simp only [Option.some.injEq] at h
            subst h
            refine ⟨dstB_ok hd.1, hd.2, r, .inl ⟨PCall.of_run hc hr, ?_⟩, hK⟩
            simpa [Bool.or_eq_true, List.isEmpty_iff] using hs
          · cases h
        · cases h
    · cases h
  · cases h
theorem rDO_ok {call : CallF} (hc : CallOK P γ call) {all : Array Oper} {i : Nat} {log : Log} {o : Oper} {σ : St} {p : Log × St} {K : Log → St → Prop} (h : rDO P γ call all i log o σ = some p) (hK : K p.1 p.2) : evDO P γ all i log o σ K := by
  obtain ⟨dst, op, ty, pos, after, guard⟩ := o
  cases op with
  | call c =>
    obtain ⟨callee, args, ts⟩ := c
    cases callee with
    | value f =>
      have h' : rDC call all i log (calleeOf (rho γ σ.env f)) (args.toList.map (rho γ σ.env)) dst σ = some p := h
      show evDC P γ all i log (calleeOf (rho γ σ.env f)) (args.toList.map (rho γ σ.env)) dst σ K
      unfold rDC at h'
      unfold evDC
      cases hcf : calleeOf (rho γ σ.env f) with
      | none => rw [hcf] at h'; cases h'
      | some q =>
        obtain ⟨g, a, c⟩ := q
        rw [hcf] at h'
        exact rDC2_ok hc h' hK
    | _ => rw [rDO_plain rfl] at h; obtain ⟨env, m⟩ := σ; rw [evDO_plain rfl]; exact rDS_ok h hK
  | _ => rw [rDO_plain rfl] at h; obtain ⟨env, m⟩ := σ; rw [evDO_plain rfl]; exact rDS_ok h hK
theorem rDG_ok {call : CallF} (hc : CallOK P γ call) {all : Array Oper} {i : Nat} {log : Log} {o : Oper} {σ : St} {p : Log × St} {K : Log → St → Prop} (h : rDG P γ call all i log o σ = some p) (hK : K p.1 p.2) : evDG P γ all i log o σ K := by
  unfold rDG at h
  unfold evDG
  cases hg : o.guard with
  | none =>
    rw [hg] at h
    exact rDO_ok hc h hK
  | some q =>
    obtain ⟨j, want⟩ := q
    rw [hg] at h
    simp only at h ⊢
    cases hd : (all[j]?).bind (·.dst) with
    | none => rw [hd] at h; cases h
    | some d =>
      rw [hd] at h
      simp only at h ⊢
      cases hb : (lk σ.env d).bind boolA with
      | none => rw [hb] at h; cases h
      | some b =>
        rw [hb] at h
        simp only at h
        split at h
        · rename_i e
          subst e
          exact boolA_ev hb (fun _ => rDO_ok hc h hK) (fun e => by cases b <;> cases e)
        · rename_i e
          simp only [Option.some.injEq] at h
          subst h
          exact boolA_ev hb (fun e' => (e e').elim) (fun _ => hK)
theorem rDL_ok {call : CallF} (hc : CallOK P γ call) {all : Array Oper} {K : St → Prop} : ∀ {l : List Oper} {i : Nat} {log : Log} {σ σ' : St}, rDL P γ call all i l log σ = some σ' → K σ' → evDL P γ all i l K log σ
  | [], i, log, σ, σ', h, hK => by
    simp only [rDL, Option.some.injEq] at h
    subst h
    exact hK
  | o :: l, i, log, σ, σ', h, hK => by
    simp only [rDL, Option.bind_eq_some_iff] at h
    obtain ⟨p, h1, h2⟩ := h
    exact rDG_ok hc h1 (rDL_ok hc h2 hK)

/-- A stack of a run, and one of the evaluator. -/
def Rel (P : Program) (γ : GTab) (call : CallF) (n0 N : Nat) (σf : St) (n : Nat) : List RI → List KI → Prop
  | [], k' => ∃ Q : Exit → St → Prop, k' = [.fin Q] ∧ Q .normal σf ∧ Q .ret σf
  | .code c :: k, k' => ∃ k'', k' = .code c :: k'' ∧ Rel P γ call n0 N σf n k k''
  | .blk id :: k, k' => ∃ k'', k' = .blk id :: k'' ∧ Rel P γ call n0 N σf n k k''
  | .scp :: k, k' => ∃ k'', k' = .scp :: k'' ∧ Rel P γ call n0 N σf n k k''
  | .lp c :: k, k' => ∃ J k'', k' = .lp J :: k'' ∧ (∀ j, j ≤ n → ∀ σ, rk P γ call n0 N j (.lp c :: k) σ = some σf → J σ) ∧ Rel P γ call n0 N σf n k k''

theorem Rel.le {call : CallF} {n0 N : Nat} {σf : St} {n j : Nat} (hj : j ≤ n) : ∀ {k : List RI} {k' : List KI}, Rel P γ call n0 N σf n k k' → Rel P γ call n0 N σf j k k'
  | [], _, h => h
  | .code c :: k, _, ⟨k'', h1, h2⟩ => ⟨k'', h1, h2.le hj⟩
  | .blk c :: k, _, ⟨k'', h1, h2⟩ => ⟨k'', h1, h2.le hj⟩
  | .scp :: k, _, ⟨k'', h1, h2⟩ => ⟨k'', h1, h2.le hj⟩
  | .lp c :: k, _, ⟨J, k'', h1, h2, h3⟩ => ⟨J, k'', h1, fun i hi => h2 i (by omega), h3.le hj⟩

theorem Rel.exit {call : CallF} {n0 N : Nat} {σf : St} {n id : Nat} : ∀ {k k1 : List RI} {k' : List KI}, Rel P γ call n0 N σf n k k' → exitR id k = some k1 → ∃ k1', exitK id k' = some k1' ∧ Rel P γ call n0 N σf n k1 k1'
  | [], _, _, h, he => by simp [exitR] at he
  | .code c :: k, _, _, ⟨k'', h1, h2⟩, he => by subst h1; exact h2.exit he
  | .blk c :: k, _, _, ⟨k'', h1, h2⟩, he => by
    subst h1
    simp only [exitR] at he
    simp only [exitK]
    split at he
    · rename_i e
      simp only [Option.some.injEq] at he
      subst he
      rw [if_pos e]
      exact ⟨_, rfl, h2⟩
    · rename_i e
      rw [if_neg e]
      exact h2.exit he
  | .scp :: k, _, _, ⟨k'', h1, h2⟩, he => by subst h1; exact h2.exit he
  | .lp c :: k, _, _, ⟨J, k'', h1, h2, h3⟩, he => by subst h1; exact h3.exit he

theorem Rel.ret {call : CallF} {n0 N : Nat} {σf : St} {n : Nat} : ∀ {k : List RI} {k' : List KI}, Rel P γ call n0 N σf n k k' → ∃ Q, retK k' = some Q ∧ Q .ret σf
  | [], _, ⟨Q, h1, h2, h3⟩ => by subst h1; exact ⟨Q, rfl, h3⟩
  | .code c :: k, _, ⟨k'', h1, h2⟩ => by subst h1; exact h2.ret
  | .blk c :: k, _, ⟨k'', h1, h2⟩ => by subst h1; exact h2.ret
  | .scp :: k, _, ⟨k'', h1, h2⟩ => by subst h1; exact h2.ret
  | .lp c :: k, _, ⟨J, k'', h1, h2, h3⟩ => by subst h1; exact h3.ret

theorem Ent.refl {n0 : Nat} {σ : St} (h : headOK n0 σ = true) : Ent n0 σ σ := by
  simp only [headOK, Bool.and_eq_true, decide_eq_true_eq] at h
  intro S μ w a hr henv
  exact ⟨S, μ, hr, henv, fun _ _ h => h, fun _ _ h => .inl h, fun _ _ => rfl, fun _ _ h => h, h.2, h.1, fun _ h => h⟩

theorem rk_ok {call : CallF} (hc : CallOK P γ call) {n0 N : Nat} {σf : St} : ∀ (n : Nat) (k : List RI) (k' : List KI) (σ : St), Rel P γ call n0 N σf n k k' → rk P γ call n0 N n k σ = some σf → ev P γ n0 N k' σ := by
  intro n
  induction n using Nat.strongRecOn with
  | _ n ih =>
    intro k k' σ hR h
    cases n with
    | zero => simp [rk] at h
    | succ n =>
      have hle : n ≤ n + 1 := Nat.le_succ n
      have ih' := fun k k' σ => ih n (Nat.lt_succ_self n) k k' σ
      cases k with
      | nil =>
        simp only [rk, Option.some.injEq] at h
        subst h
        obtain ⟨Q, h1, h2, _⟩ := hR
        subst h1
        rw [ev]; exact h2
      | cons i k =>
        cases i with
        | blk id =>
          obtain ⟨k'', h1, h2⟩ := hR
          subst h1
          rw [ev]
          exact ih' _ _ _ (h2.le hle) h
        | scp =>
          obtain ⟨k'', h1, h2⟩ := hR
          subst h1
          rw [ev]
          exact ih' _ _ _ (h2.le hle) h
        | lp c =>
          obtain ⟨J, k'', h1, h2, h3⟩ := hR
          subst h1
          rw [ev]
          exact h2 _ (Nat.le_refl _) σ h
        | code c =>
          obtain ⟨k'', h1, h2⟩ := hR
          subst h1
          cases c with
          | region id ops draw =>
            cases draw with
            | false =>
              simp only [rk, Option.bind_eq_some_iff] at h
              obtain ⟨σ1, h3, h4⟩ := h
              rw [ev]
              exact rL_ok hc h3 (ih' _ _ _ (h2.le hle) h4)
            | true =>
              simp only [rk, Option.bind_eq_some_iff] at h
              obtain ⟨σ1, h3, h4⟩ := h
              rw [ev]
              exact rDL_ok hc h3 (ih' _ _ _ (h2.le hle) h4)
          | seq a b =>
            rw [ev]
            exact ih' (.code a :: .code b :: k) _ _ ⟨_, rfl, _, rfl, h2.le hle⟩ h
          | cond c a b =>
            simp only [rk] at h
            rw [ev]
            split at h
            · rename_i hb
              exact boolA_ev hb (fun _ => ih' (.code a :: k) _ _ ⟨_, rfl, h2.le hle⟩ h) (fun e => by cases e)
            · rename_i hb
              exact boolA_ev hb (fun e => by cases e) (fun _ => ih' (.code b :: k) _ _ ⟨_, rfl, h2.le hle⟩ h)
            · cases h
          | block id c =>
            rw [ev]
            exact ih' (.code c :: .blk id :: k) _ _ ⟨_, rfl, _, rfl, h2.le hle⟩ h
          | loop c =>
            simp only [rk] at h
            split at h
            · rename_i hh
              refine ev_loopI (ι := Nat × St) Prod.snd (fun p => p.1 ≤ n ∧ headOK n0 p.2 = true ∧ rk P γ call n0 N p.1 (.code c :: .lp c :: k) p.2 = some σf) Prod.fst (n, σ) ⟨Nat.le_refl _, hh, h⟩ (Ent.refl hh) ?_
              rintro ⟨j, τ⟩ ⟨hj, _, hr⟩
              refine ih j (by omega) (.code c :: .lp c :: k) _ _ ⟨_, rfl, _, _, rfl, fun q hq σ1 hs => ?_, h2.le (by omega)⟩ hr
              cases q with
              | zero => simp [rk] at hs
              | succ q =>
                simp only [rk] at hs
                split at hs
                · rename_i hh1
                  exact ⟨(q, σ1), ⟨by show q ≤ n; omega, hh1, hs⟩, by show q < j; omega, Ent.refl hh1⟩
                · cases hs
            · cases h
          | exit id =>
            simp only [rk] at h
            split at h
            · rename_i k1 hk
              obtain ⟨k1', h3, h4⟩ := h2.exit hk
              rw [ev_exit h3]
              exact ih' _ _ _ (h4.le hle) h
            · cases h
          | scope c =>
            rw [ev]
            exact ih' (.code c :: .scp :: k) _ _ ⟨_, rfl, _, rfl, h2.le hle⟩ h
          | label l =>
            rw [ev]
            exact ih' _ _ _ (h2.le hle) h
          | skip =>
            rw [ev]
            exact ih' _ _ _ (h2.le hle) h
          | ret =>
            simp only [rk, Option.some.injEq] at h
            subst h
            obtain ⟨Q, h3, h4⟩ := h2.ret
            rw [ev_ret, h3]
            exact h4
          | _ => simp [rk] at h

theorem rc_ok (hm : P.follows .mixedOrders = true) (fuel : Nat) : ∀ d, CallOK P γ (rc P γ fuel d)
  | 0 => fun g xs m x m' h => by simp [rc] at h
  | d + 1 => fun g xs m x m' h K hK => by
    simp only [rc] at h
    unfold rcF at h
    split at h
    · rename_i fn hf
      split at h
      · rename_i c hb
        split at h
        · rename_i hcc
          split at h
          · rename_i σ hr
            split at h
            · rename_i y hy
              split at h
              · rename_i hk
                simp only [Option.some.injEq, Prod.mk.injEq] at h
                obtain ⟨rfl, rfl⟩ := h
                refine ACalls.enter hf hb hcc.1 hm hcc.2 (rk_ok (rc_ok hm fuel d) fuel [.code c] _ _ ⟨_, rfl, _, rfl, ?_, ?_⟩ hr)
                · exact ⟨y, hy, hk, hK⟩
                · exact ⟨y, hy, hk, hK⟩
              · cases h
            · cases h
          · cases h
        · cases h
      · cases h
    · cases h

/-- A CLOSED CALL: what the kernel finds is so. -/
theorem PCall.closed (fuel d : Nat) (hm : P.follows .mixedOrders = true) {g : FuncId} {xs : List AV} {r : AV} (h : pC (rc P γ fuel d) g xs = some r) : PCall P γ g xs r := PCall.of_run (rc_ok hm fuel d) h
theorem ACalls.closed (fuel d : Nat) (hm : P.follows .mixedOrders = true) {g : FuncId} {xs : List AV} {m m' : Mem} {x : AV} {K : AV → Mem → Prop} (h : rc P γ fuel d g xs m = some (x, m')) (hK : K x m') : ACalls P γ g xs m K := rc_ok hm fuel d g xs m x m' h K hK

end Go.AW
/- The rest of the evaluator's rules, for simp. -/
namespace Go.AW
variable {P : Program} {γ : GTab} {t : TypeId} {env : List (Nat × AV)} {m : Mem} {dst : Option Nat} {find : Nat → Option AObj}

/-! Aggregates. -/
def placesA (P : Program) (fs : Option (List (Nat × TypeId))) (ar : Option (Nat × TypeId)) : Option (Nat → Option (Nat × Nat)) := match fs, ar with
  | some fs, _ => if fs.all (fun f => tok P f.2) then some fun i => (fs[i]?).map fun f => (f.1, tsz P f.2) else none
  | none, some (_, e) => if tok P e then some fun i => some (i * tsz P e, tsz P e) else none
  | _, _ => none
def buildA (z : Option (List Value)) (pl : Option (Nat → Option (Nat × Nat))) (ps : List (Nat × AV)) : Option (AV × Upd) := match z, pl with
  | some zs, some pl => (fillA pl (zs.map .v) ps).map fun cs => (.agg cs, [])
  | _, _ => none
theorem stepE_build {parts : List (Nat × Operand)} : stepE P γ env m dst (.build t parts.toArray) = buildA (tz P t) (placesA P (tflds P t) (tarr P t)) (parts.map fun p => (p.1, unf (rho γ env p.2))) := by
  simp only [stepE, stepF, stepF0, buildA, placesF, placesA]
  rfl
theorem placesA_s {fs : List (Nat × TypeId)} {ar : Option (Nat × TypeId)} : placesA P (some fs) ar = if fs.all (fun f => tok P f.2) then some fun i => (fs[i]?).map fun f => (f.1, tsz P f.2) else none := (rfl)
theorem placesA_a {n : Nat} {e : TypeId} : placesA P none (some (n, e)) = if tok P e then some fun i => some (i * tsz P e, tsz P e) else none := (rfl)
theorem buildA_some {zs : List Value} {pl : Nat → Option (Nat × Nat)} {ps : List (Nat × AV)} : buildA (some zs) (some pl) ps = (fillA pl (zs.map .v) ps).map fun cs => (.agg cs, []) := (rfl)
def fieldA (P : Program) (fs : Option (List (Nat × TypeId))) (f : Nat) (x : AV) : Option (AV × Upd) := match fs with
    | some fs => match fs[f]?, x with
      | some fl, .agg xs => if tok P fl.2 then (partA P fl.2 xs fl.1).map fun x => (x, []) else none
      | _, _ => none
    | none => none
theorem stepE_field {x : Operand} {f : Nat} : stepE P γ env m dst (.field t x f) = fieldA P (tflds P t) f (unf (rho γ env x)) := (rfl)
theorem fieldA_agg {fs : List (Nat × TypeId)} {f : Nat} {xs : List AV} : fieldA P (some fs) f (.agg xs) = (fs[f]?).bind fun fl => if tok P fl.2 then (partA P fl.2 xs fl.1).map fun x => (x, []) else none := by
  simp only [fieldA]; cases fs[f]? <;> rfl
def extractA (i : Nat) : AV → Option (AV × Upd)
  | .tup xs => (xs[i]?).map fun x => (x, [])
  | _ => none
theorem stepE_extract {x : Operand} {i : Nat} : stepE P γ env m dst (.extract x i) = extractA i (unf (rho γ env x)) := by
  simp only [stepE, stepF, stepF0, extractA]
  cases unf (rho γ env x) <;> rfl
theorem extractA_tup {i : Nat} {xs : List AV} : extractA i (.tup xs) = (xs[i]?).map fun x => (x, []) := (rfl)

/-! Maps. -/
def mapO : Option AObj → Option (Option KT × List Value × List AV)
  | some (.map kt ks xs) => some (some kt, ks, xs)
  | _ => none
theorem mapOf_mp {o : Nat} : mapOf find (.mp o) = mapO (find o) := (rfl)
theorem mapOf_mv {kt : KT} {ks : List Value} {xs : List AV} : mapOf find (.mv kt ks xs) = some (some kt, ks, xs) := (rfl)
theorem mapOf_nil : mapOf find (.v (.map none)) = some (none, [], []) := (rfl)
theorem mapO_map {kt : KT} {ks : List Value} {xs : List AV} : mapO (some (.map kt ks xs)) = some (some kt, ks, xs) := (rfl)
def lookupB (kT : Option KT) (kt : Option KT) (ks : List Value) (xs : List AV) (key : Value) (z : Option AV) (ok : Bool) : Option AV := match kT with
  | some kt' => if (kt = none ∨ kt = some kt') ∧ kwf kt' key then
        match z with
        | some z => some (if ok then .tup [(mget ks xs key).getD z, .v (.bool (mget ks xs key).isSome)] else (mget ks xs key).getD z)
        | none => none
      else none
  | none => none
def lookupA (P : Program) (tm : Option (TypeId × TypeId)) (mo : Option (Option KT × List Value × List AV)) (k : Option Value) (ok : Bool) : Option AV := match tm, mo, k with
  | some (kT, e), some (kt, ks, xs), some key => lookupB (tkt P kT) kt ks xs key (zAV P e) ok
  | _, _, _ => none
theorem stepE_lookup {x k : Operand} {ok : Bool} : stepE P γ env m dst (.lookup t x k ok) = (lookupA P (tmap P t) (mapOf m.find (unf (rho γ env x))) (unf (rho γ env k)).val? ok).map fun x => (x, []) := (rfl)
theorem lookupA_some {kT e : TypeId} {kt : Option KT} {ks : List Value} {xs : List AV} {key : Value} {ok : Bool} : lookupA P (some (kT, e)) (some (kt, ks, xs)) (some key) ok = lookupB (tkt P kT) kt ks xs key (zAV P e) ok := (rfl)
theorem lookupB_f {kt' : KT} {kt : Option KT} {ks : List Value} {xs : List AV} {key : Value} {z : AV} : lookupB (some kt') kt ks xs key (some z) false = if (kt = none ∨ kt = some kt') ∧ kwf kt' key then some ((mget ks xs key).getD z) else none := (rfl)
theorem lookupB_t {kt' : KT} {kt : Option KT} {ks : List Value} {xs : List AV} {key : Value} {z : AV} : lookupB (some kt') kt ks xs key (some z) true = if (kt = none ∨ kt = some kt') ∧ kwf kt' key then some (.tup [(mget ks xs key).getD z, .v (.bool (mget ks xs key).isSome)]) else none := (rfl)
def mapUpdA (P : Program) (o : Nat) (tm : Option (TypeId × TypeId)) (k : Option Value) (x : AV) (ob : Option AObj) : Option Upd := match tm, k, ob with
  | some (kT, _), some key, some (.map kt ks xs) => if tkt P kT = some kt ∧ kwf kt key then some [(o, .map kt (if mhas ks key then ks else ks ++ [key]) (mset ks xs key x))] else none
  | _, _, _ => none
def mapUpdM (P : Program) (find : Nat → Option AObj) (tm : Option (TypeId × TypeId)) (k : Option Value) (x m : AV) : Option Upd := match m with
  | .mp o => mapUpdA P o tm k x (find o)
  | _ => none
theorem stepE_mapUpdate {x k y : Operand} : stepE P γ env m dst (.mapUpdate t x k y) = (mapUpdM P m.find (tmap P t) (unf (rho γ env k)).val? (unf (rho γ env y)) (unf (rho γ env x))).map fun u => (.v undef, u) := by
  simp only [stepE, stepF, stepF0, mapUpdF, mapUpdM, mapUpdA]
  cases unf (rho γ env x) <;> try rfl
  cases tmap P t <;> try rfl
  cases (unf (rho γ env k)).val? <;> try rfl
  simp only
  rename_i o _ _
  cases m.find o <;> try rfl
  rename_i ob
  cases ob <;> rfl
theorem mapUpdM_mp {o : Nat} {tm : Option (TypeId × TypeId)} {k : Option Value} {x : AV} : mapUpdM P find tm k x (.mp o) = mapUpdA P o tm k x (find o) := (rfl)
theorem mapUpdA_some {o : Nat} {kT e : TypeId} {key : Value} {x : AV} {kt : KT} {ks : List Value} {xs : List AV} : mapUpdA P o (some (kT, e)) (some key) x (some (.map kt ks xs)) = if tkt P kT = some kt ∧ kwf kt key then some [(o, .map kt (if mhas ks key then ks else ks ++ [key]) (mset ks xs key x))] else none := (rfl)
def makeMapA (P : Program) (fresh : Nat) (tm : Option (TypeId × TypeId)) : Option (AV × Upd) := match tm with
  | some (kT, _) => match tkt P kT with
      | some kt => some (.mp fresh, [(fresh, .map kt [] [])])
      | none => none
  | none => none
theorem stepE_makeMap : stepE P γ env m dst (.makeMap t none) = makeMapA P (freshOf m dst) (tmap P t) := by
  simp only [stepE, stepF, stepF0, makeMapA]
  cases tmap P t with
  | none => rfl
  | some p => simp only; cases tkt P p.1 <;> rfl
def isIntB : AV → Bool
  | .v (.int _ _) => true
  | _ => false
theorem stepE_makeMapR {h : Operand} : stepE P γ env m dst (.makeMap t (some h)) = if isIntB (unf (rho γ env h)) = true then makeMapA P (freshOf m dst) (tmap P t) else none := by
  have key : ∀ (y : AV), (match tmap P t with
    | some (kT, _) => match tkt P kT, (match y with | .v (.int _ _) => true | _ => false) with
      | some kt, true => some (.mp (freshOf m dst), [(freshOf m dst, .map kt [] [])])
      | _, _ => none
    | none => none : Option (AV × Upd)) = if isIntB y = true then makeMapA P (freshOf m dst) (tmap P t) else none := by
    intro y
    have hy : (match y with | .v (.int _ _) => true | _ => false) = isIntB y := rfl
    rw [hy]
    unfold makeMapA
    cases isIntB y <;> cases tmap P t <;> try rfl
    all_goals (rename_i p; obtain ⟨a, b⟩ := p; simp only; cases tkt P a <;> rfl)
  exact key _
theorem isIntB_v {k : IntKind} {n : Int} : isIntB (.v (.int k n)) = true := (rfl)
def makeMapB (k : Option KT) (fresh : Nat) : Option (AV × Upd) := match k with
      | some kt => some (.mp fresh, [(fresh, .map kt [] [])])
      | none => none
theorem makeMapA_some {fr : Nat} {kT e : TypeId} : makeMapA P fr (some (kT, e)) = makeMapB (tkt P kT) fr := (rfl)
theorem makeMapB_some {fr : Nat} {kt : KT} : makeMapB (some kt) fr = some (.mp fr, [(fr, .map kt [] [])]) := (rfl)
def deleteB (P : Program) (o : Nat) (kt : KT) (ks : List Value) (ys : List AV) (key : Value) (tm : Option (TypeId × TypeId)) : Option (AV × Upd) := match tm with
  | some (kT, _) => if tkt P kT = some kt ∧ kwf kt key then some (.v (.tuple #[]), [(o, .map kt (mdelK ks key) (mdelX ks ys key))]) else none
  | none => none
def deleteA (P : Program) (o : Nat) (mT : TypeId) (k : Option Value) (ob : Option AObj) : Option (AV × Upd) := match ob, k with
  | some (.map kt ks ys), some key => deleteB P o kt ks ys key (tmap P mT)
  | _, _ => none
theorem delete_mp {fr o : Nat} {mT kT0 : TypeId} {k : AV} : builtinF P find fr .delete [mT, kT0].toArray [.mp o, k] = deleteA P o mT k.val? (find o) := by
  have h0 : ([mT, kT0].toArray)[0]? = some mT := rfl
  simp only [builtinF, deleteA, deleteB, h0]
  cases find o with
  | none => rfl
  | some ob => cases ob <;> cases k.val? <;> rfl
theorem deleteA_some {o : Nat} {mT : TypeId} {key : Value} {kt : KT} {ks : List Value} {ys : List AV} : deleteA P o mT (some key) (some (.map kt ks ys)) = deleteB P o kt ks ys key (tmap P mT) := (rfl)
theorem deleteB_some {o : Nat} {kT e : TypeId} {key : Value} {kt : KT} {ks : List Value} {ys : List AV} : deleteB P o kt ks ys key (some (kT, e)) = if tkt P kT = some kt ∧ kwf kt key then some (.v (.tuple #[]), [(o, .map kt (mdelK ks key) (mdelX ks ys key))]) else none := (rfl)

/-! Iterators. -/
theorem stepE_range {x : Operand} : stepE P γ env m dst (.range t x) = rangeA P (freshOf m dst) t (rho γ env x) := (rfl)
theorem stepE_entry {x : Operand} : stepE P γ env m dst (.entry x) = entryA m.find (rho γ env x) := (rfl)
theorem rangeA_mv {fr : Nat} {kt : KT} {ks : List Value} {xs : List AV} : rangeA P fr t (.mv kt ks xs) = if (tmap P t).isSome then some (.it fr, [(fr, .miter none ks xs)]) else none := (rfl)
theorem rangeA_nil {fr : Nat} : rangeA P fr t (.v (.map none)) = if (tmap P t).isSome then some (.it fr, [(fr, .miter none [] [])]) else none := (rfl)
theorem entryA_it {o : Nat} : entryA find (.it o) = (entryO (find o)).map fun y => (y, []) := (rfl)
theorem entryO_some {p : Value × AV} {ks : List Value} {xs : List AV} : entryO (some (.miter (some p) ks xs)) = some (.tup [.v p.1, p.2]) := (rfl)
/-- The ways on from an iterator: none goes in by itself. -/
class BoxN where
  p : Nat → Value → AV → Prop
def NxBr (ks : List Value) (xs : List AV) [y : Box] [n : BoxN] : Prop := (ks = [] → y.p) ∧ ∀ i k x, ks[i]? = some k → xs[i]? = some x → n.p i k x
def evNxI (o : Nat) (dst : Option Nat) (env : List (Nat × AV)) (m : Mem) (ob : Option AObj) [y : Box] [n : BoxN] : Prop := match ob with
  | some (.miter _ ks xs) => dstOK m dst ∧ NxBr ks xs
  | _ => False
theorem evNext_it {o : Nat} {K : St → Prop} : evNext (.it o) false dst ⟨env, m⟩ K = @evNxI o dst env m (m.find o) ⟨K ⟨putE dst (.tup [.v (.bool false)]) env, m⟩⟩ ⟨fun i k x => ∀ ks xs l, m.find o = some (.miter l ks xs) → K ⟨putE dst (.tup [.v (.bool true), .v k, x]) env, m.upd [(o, .miter (some (k, x)) (ks.eraseIdx i) (xs.eraseIdx i))]⟩⟩ := by
  simp only [evNext, evNxI, evNx]
  cases h : m.find o with
  | none => rfl
  | some ob =>
    cases ob <;> try rfl
    simp only [NxBr, eq_iff_iff]
    refine and_congr Iff.rfl (and_congr Iff.rfl ⟨fun h i k x hk hx ks' xs' l e => ?_, fun h i k x hk hx => h i k x hk hx _ _ _ rfl⟩)
    simp only [Option.some.injEq, AObj.miter.injEq] at e
    obtain ⟨rfl, rfl, rfl⟩ := e
    exact h i k x hk hx
theorem evNxI_some {o : Nat} {l : Option (Value × AV)} {ks : List Value} {xs : List AV} {y : Prop} {n : Nat → Value → AV → Prop} : @evNxI o dst env m (some (.miter l ks xs)) ⟨y⟩ ⟨n⟩ = (dstOK m dst ∧ @NxBr ks xs ⟨y⟩ ⟨n⟩) := (rfl)

/-! Slices, arrays, copies. -/
theorem stepE_slice2 {x : Operand} {lo hi : Option Operand} : stepE P γ env m dst (.slice t x lo hi none) = (sliceF P m.find t (unf (rho γ env x)) (lo.map fun y => unf (rho γ env y)) (hi.map fun y => unf (rho γ env y))).map fun x => (x, []) := by cases hi <;> rfl
theorem stepE_slice3 {x hi mx : Operand} {lo : Option Operand} : stepE P γ env m dst (.slice t x lo (some hi) (some mx)) = (slice3A P (telem P t) (unf (rho γ env x)) (lo.map (rho γ env)) (rho γ env hi) (rho γ env mx)).map fun x => (x, []) := (rfl)
theorem bnds_nn {n : Nat} : bnds n none none = some (0, n) := (rfl)
theorem bnds_nh {n : Nat} {k : IntKind} {h : Int} : bnds n none (some (.v (.int k h))) = if 0 ≤ h ∧ h ≤ n then some (0, h.toNat) else none := by
  simp only [bnds, bhi]; split <;> rfl
theorem bnds_ln {n : Nat} {k : IntKind} {l : Int} : bnds n (some (.v (.int k l))) none = if 0 ≤ l ∧ l ≤ n then some (l.toNat, n) else none := (rfl)
theorem bnds_lh {n : Nat} {k k' : IntKind} {l h : Int} : bnds n (some (.v (.int k l))) (some (.v (.int k' h))) = if 0 ≤ h ∧ h ≤ n then if 0 ≤ l ∧ l ≤ (h.toNat : Int) then some (l.toNat, h.toNat) else none else none := by
  simp only [bnds, bhi]; split <;> rfl
def sliceE (P : Program) (e : Option TypeId) (n z : Nat) (b : Option (Nat × Nat)) (mk : Nat → Nat → AV) : Option AV := match e with
  | some e => if z = tsz P e ∧ tok P e then b.map fun p => mk p.1 p.2 else none
  | none => none
theorem sliceE_some {e : TypeId} {n z : Nat} {b : Option (Nat × Nat)} {mk : Nat → Nat → AV} : sliceE P (some e) n z b mk = if z = tsz P e ∧ tok P e then b.map fun p => mk p.1 p.2 else none := (rfl)
theorem sliceF_seq {n z : Nat} {xs : List AV} {lo hi : Option AV} : sliceF P find t (.seq n z xs) lo hi = sliceE P (telem P t) n z (bnds n lo hi) fun l h => .seq (h - l) z ((xs.drop (l * z)).take ((h - l) * z)) := by
  simp only [sliceF, sliceE]; cases telem P t <;> rfl
theorem sliceF_sl {o off n z : Nat} {lo hi : Option AV} : sliceF P find t (.sl o off n z) lo hi = sliceE P (telem P t) n z (bnds n lo hi) fun l h => .sl o (off + l * z) (h - l) z := by
  simp only [sliceF, sliceE]; cases telem P t <;> rfl
theorem sliceF_str {s : ByteArray} {lo hi : Option AV} : sliceF P find t (.v (.string s)) lo hi = if tstr P t then (bnds s.size lo hi).map fun p => .v (.string (s.extract p.1 p.2)) else none := (rfl)
def sliceN (P : Program) (e : Option TypeId) (b : Option (Nat × Nat)) : Option AV := match e with
  | some e => if tok P e then b.map fun _ => .v (.slice none 0 0) else none
  | none => none
theorem sliceF_nil {lo hi : Option AV} : sliceF P find t (.v (.slice none 0 0)) lo hi = sliceN P (telem P t) (bnds 0 lo hi) := by
  simp only [sliceF, sliceN]; cases telem P t <;> rfl
theorem sliceN_some {e : TypeId} {b : Option (Nat × Nat)} : sliceN P (some e) b = if tok P e then b.map fun _ => .v (.slice none 0 0) else none := (rfl)
def sliceP (P : Program) (o off : Nat) (ar : Option (Nat × TypeId)) (lo hi : Option AV) (ob : Option AObj) : Option AV := match ar, ob with
  | some (n, e), some (.cells _ ys _) => if tok P e ∧ off + n * tsz P e ≤ ys.length then (bnds n lo hi).map fun p => .sl o (off + p.1 * tsz P e) (p.2 - p.1) (tsz P e) else none
  | _, _ => none
theorem sliceF_ptr {o off : Nat} {lo hi : Option AV} : sliceF P find t (.ptr o off) lo hi = sliceP P o off (tarr P t) lo hi (find o) := by
  simp only [sliceF, sliceP]
  cases tarr P t <;> try rfl
  all_goals (cases find o <;> try rfl)
theorem sliceP_some {o off n : Nat} {e E : TypeId} {lo hi : Option AV} {ys : List AV} {ap : Bool} : sliceP P o off (some (n, e)) lo hi (some (.cells E ys ap)) = if tok P e ∧ off + n * tsz P e ≤ ys.length then (bnds n lo hi).map fun p => .sl o (off + p.1 * tsz P e) (p.2 - p.1) (tsz P e) else none := (rfl)
theorem slice3A_some {e : TypeId} {x hi mx : AV} {lo : Option AV} : slice3A P (some e) x lo hi mx = if tok P e ∧ eqInt hi mx then slice3B x (tsz P e) lo (some hi) else none := (rfl)
theorem eqInt_int {k k' : IntKind} {a b : Int} : eqInt (.v (.int k a)) (.v (.int k' b)) = decide (a = b) := by
  simp only [eqInt]; by_cases h : a = b <;> simp [h]
theorem slice3B_nil {z : Nat} {lo hi : Option AV} : slice3B (.v (.slice none 0 0)) z lo hi = (bnds 0 lo hi).map fun _ => .v (.slice none 0 0) := (rfl)
theorem slice3B_seq {n z z' : Nat} {xs : List AV} {lo hi : Option AV} : slice3B (.seq n z' xs) z lo hi = if z' = z then (bnds n lo hi).map fun p => .full (p.2 - p.1) z ((xs.drop (p.1 * z)).take ((p.2 - p.1) * z)) else none := (rfl)
theorem slice3B_sl {o off n z z' : Nat} {lo hi : Option AV} : slice3B (.sl o off n z') z lo hi = if z' = z then (bnds n lo hi).map fun p => .slc o (off + p.1 * z) (p.2 - p.1) z else none := (rfl)

theorem indexF_agg {xs : List AV} {i : Int} {k : IntKind} : indexF P t (.agg xs) (.v (.int k i)) = match tarr P t with | some (n, e) => if tok P e then if 0 ≤ i ∧ i < n then partA P e xs (i.toNat * tsz P e) else none else none | none => none := by
  unfold indexF; cases tarr P t <;> rfl
theorem indexF_str {s : ByteArray} {i : Int} {k : IntKind} (h : tarr P t = none) : indexF P t (.v (.string s)) (.v (.int k i)) = if tstr P t then if 0 ≤ i ∧ i < s.size then some (.v (.int .u8 (s.data.toList.getD i.toNat 0).toNat)) else none else none := by
  simp only [indexF, h]
def indexAddrP (P : Program) (ar : Option (Nat × TypeId)) (i : Int) (mk : Nat → AV) : Option AV := match ar with
  | some (n, e) => if tok P e then if 0 ≤ i ∧ i < n then some (mk (i.toNat * tsz P e)) else none else none
  | none => none
theorem indexAddrP_some {n : Nat} {e : TypeId} {i : Int} {mk : Nat → AV} : indexAddrP P (some (n, e)) i mk = if tok P e then if 0 ≤ i ∧ i < n then some (mk (i.toNat * tsz P e)) else none else none := (rfl)
theorem indexAddr_ptr {o off : Nat} {i : Int} {k : IntKind} (h : telem P t = none) : indexAddrF P t (.ptr o off) (.v (.int k i)) = indexAddrP P (tarr P t) i fun j => .ptr o (off + j) := by
  simp only [indexAddrF, h, indexAddrP]; cases tarr P t <;> rfl
theorem indexAddr_rop {xs : List AV} {i : Int} {k : IntKind} (h : telem P t = none) : indexAddrF P t (.rop xs) (.v (.int k i)) = indexAddrP P (tarr P t) i fun j => .rop (xs.drop j) := by
  simp only [indexAddrF, h, indexAddrP]; cases tarr P t <;> rfl

def copyA (P : Program) (e : TypeId) (o off n z : Nat) (ob : Option AObj) (src : Option (Nat × List AV)) : Option (AV × Upd) := match ob, src with
      | some (.cells E ys ap), some (k, xs) =>
        if z = tsz P e ∧ tok P e ∧ off + n * tsz P e ≤ ys.length then
          some (.v (.int .i64 (min k n : Nat)), [(o, .cells E (setL ys off (xs.take (min k n * tsz P e))) ap)]) else none
      | _, _ => none
def copyE (P : Program) (o off n z : Nat) (te : Option TypeId) (ob : Option AObj) (src : Nat → Option (Nat × List AV)) : Option (AV × Upd) := match te with
  | some e => copyA P e o off n z ob (src (tsz P e))
  | none => none
theorem copy_sl {fr o off n z : Nat} {dT xT : TypeId} {x : AV} : builtinF P find fr .copy [dT, xT].toArray [.sl o off n z, x] = copyE P o off n z (telem P dT) (find o) fun z => srcS find z x := by
  have h0 : ([dT, xT].toArray)[0]? = some dT := rfl
  simp only [builtinF, h0, copyF, copyE, copyA]
  cases telem P dT with
  | none => rfl
  | some e => cases find o <;> rfl
theorem copyE_some {o off n z : Nat} {e : TypeId} {ob : Option AObj} {src : Nat → Option (Nat × List AV)} : copyE P o off n z (some e) ob src = copyA P e o off n z ob (src (tsz P e)) := (rfl)
theorem copyA_some {e E : TypeId} {o off n z k : Nat} {ys xs : List AV} {ap : Bool} : copyA P e o off n z (some (.cells E ys ap)) (some (k, xs)) = if z = tsz P e ∧ tok P e ∧ off + n * tsz P e ≤ ys.length then
          some (.v (.int .i64 (min k n : Nat)), [(o, .cells E (setL ys off (xs.take (min k n * tsz P e))) ap)]) else none := rfl
def makeSliceA (P : Program) (fresh : Nat) (e : Option TypeId) (l c : AV) : Option (AV × Upd) := match e, l, c with
    | some e, .v (.int _ l), .v (.int _ c) => match tz P e with
      | some zs => if tok P e ∧ zs.length = tsz P e ∧ 0 ≤ l ∧ l ≤ c ∧ c ≤ 9223372036854775807 ∧ tby P e * c ≤ 281474976710656 then
          some (.sl fresh 0 l.toNat (tsz P e), [(fresh, .cells e ((List.replicate l.toNat (zs.map AV.v)).flatten) true)])
        else none
      | none => none
    | _, _, _ => none
theorem stepE_makeSlice {l c : Operand} : stepE P γ env m dst (.makeSlice t l c) = makeSliceA P (freshOf m dst) (telem P t) (unf (rho γ env l)) (unf (rho γ env c)) := (rfl)
def makeSliceB (P : Program) (fresh : Nat) (e : TypeId) (l c : Int) (z : Option (List Value)) : Option (AV × Upd) := match z with
      | some zs => if tok P e ∧ zs.length = tsz P e ∧ 0 ≤ l ∧ l ≤ c ∧ c ≤ 9223372036854775807 ∧ tby P e * c ≤ 281474976710656 then
          some (.sl fresh 0 l.toNat (tsz P e), [(fresh, .cells e ((List.replicate l.toNat (zs.map AV.v)).flatten) true)])
        else none
      | none => none
theorem makeSliceA_some {fr : Nat} {e : TypeId} {k k' : IntKind} {l c : Int} : makeSliceA P fr (some e) (.v (.int k l)) (.v (.int k' c)) = makeSliceB P fr e l c (tz P e) := (rfl)
theorem makeSliceB_some {fr : Nat} {e : TypeId} {l c : Int} {zs : List Value} : makeSliceB P fr e l c (some zs) = if tok P e ∧ zs.length = tsz P e ∧ 0 ≤ l ∧ l ≤ c ∧ c ≤ 9223372036854775807 ∧ tby P e * c ≤ 281474976710656 then
          some (.sl fr 0 l.toNat (tsz P e), [(fr, .cells e ((List.replicate l.toNat (zs.map AV.v)).flatten) true)])
        else none := rfl

/-! Conversions. -/
def tint (P : Program) (E : TypeId) : Option IntKind := (P.underlying E).bind fun | .int k => some k | _ => none
theorem tint_under {E : TypeId} {k : IntKind} (h : tint P E = some k) : P.underlying E = some (.int k) := by
  unfold tint at h
  simp only [Option.bind_eq_some_iff] at h
  obtain ⟨d, h1, h2⟩ := h
  cases d <;> simp at h2
  rw [h1, h2]
def convA (P : Program) (s d : TypeId) (find : Nat → Option AObj) (fresh : Nat) (x : AV) : Option (AV × Upd) := match x with
    | .v (.string s') => if tstr P d then (if tstr P s then some (.v (.string s'), []) else none)
      else if tbytes P d ∧ tstr P s then match telem P d with
        | some e => some (.sl fresh 0 s'.size 1, [(fresh, .cells e (bytesV s'.data.toList) true)])
        | none => none
      else none
    | .v a => (prun P (convert s d a)).map fun v => (.v v, [])
    | x => if tbytes P s ∧ tstr P d then match srcS find 1 x with
        | some (_, xs) => match valsL xs with
          | some vs => if vs.all (isInt .u8) then some (.v (.string ⟨(vs.map fun | .int _ n => UInt8.ofNat n.toNat | _ => 0).toArray⟩), []) else none
          | none => none
        | none => none
      else none
theorem stepE_convert {s d : TypeId} {x : Operand} : stepE P γ env m dst (.convert s d x) = convA P s d m.find (freshOf m dst) (unf (rho γ env x)) := (rfl)
def convI (s d : Option IntKind) (n : Int) (other : Option (AV × Upd)) : Option (AV × Upd) := match s, d with
  | some _, some k => some (.v (.int k (k.wrap n)), [])
  | _, _ => other
theorem convA_int {s d : TypeId} {fr : Nat} {k : IntKind} {n : Int} : convA P s d find fr (.v (.int k n)) = convI (tint P s) (tint P d) n ((prun P (convert s d (.int k n))).map fun v => (.v v, [])) := by
  cases h1 : tint P s with
  | none => rfl
  | some k1 => cases h2 : tint P d with
    | none => rfl
    | some k2 =>
      simp only [convA, convI]
      have : prun P (convert s d (.int k n)) = some (.int k2 (k2.wrap n)) := by
        have hu : ∀ (E : TypeId) (d : TypeDesc) (f : TypeDesc → Sem Value), P.underlying E = some d → prun P (underlying E >>= f) = prun P (f d) := by
          intro E d f h
          show prun P (Sem.bind (underlying E) f) = _
          unfold underlying
          simp only [program, bind, Sem.bind, prun, h]
          rfl
        unfold convert
        rw [hu _ _ _ (tint_under h1), hu _ _ _ (tint_under h2)]
        rfl
      rw [this]; rfl
theorem convI_some {k1 k2 : IntKind} {n : Int} {o : Option (AV × Upd)} : convI (some k1) (some k2) n o = some (.v (.int k2 (k2.wrap n)), []) := (rfl)
theorem convA_str {s d : TypeId} {fr : Nat} {b : ByteArray} : convA P s d find fr (.v (.string b)) = if tstr P d then (if tstr P s then some (.v (.string b), []) else none)
      else if tbytes P d ∧ tstr P s then match telem P d with
        | some e => some (.sl fr 0 b.size 1, [(fr, .cells e (bytesV b.data.toList) true)])
        | none => none
      else none := rfl
def buildSliceB (P : Program) (e n fresh : Nat) (parts : List (Nat × AV)) (z : Option (List Value)) : Option (AV × Upd) := match z with
      | some zs => if tok P e ∧ zs.length = tsz P e ∧ n * tsz P e ≤ 16777216 then
          (fillA (fun i => some (i * tsz P e, tsz P e)) ((List.replicate n (zs.map AV.v)).flatten) parts).map fun cs => (.sl fresh 0 n (tsz P e), [(fresh, .cells e cs true)])
        else none
      | none => none
theorem buildSliceA_some {e n fr : Nat} {parts : List (Nat × AV)} : buildSliceA P (some e) n fr parts = buildSliceB P e n fr parts (tz P e) := (rfl)
theorem buildSliceB_some {e n fr : Nat} {parts : List (Nat × AV)} {zs : List Value} : buildSliceB P e n fr parts (some zs) = if tok P e ∧ zs.length = tsz P e ∧ n * tsz P e ≤ 16777216 then
          (fillA (fun i => some (i * tsz P e, tsz P e)) ((List.replicate n (zs.map AV.v)).flatten) parts).map fun cs => (.sl fr 0 n (tsz P e), [(fr, .cells e cs true)])
        else none := rfl
/-- What a condition guards, without an instance in sight. -/
noncomputable def Cnd {α : Type} (c : Prop) (r : Option α) : Option α := open Classical in if c then r else none
theorem ite_cnd {α : Type} {c : Prop} [Decidable c] {r : Option α} : (if c then r else none) = Cnd c r := by
  unfold Cnd; by_cases h : c <;> simp [h]
theorem Cnd_true {α : Type} {r : Option α} : Cnd True r = r := by simp [Cnd]
theorem Cnd_false {α : Type} {r : Option α} : Cnd False r = none := by simp [Cnd]
/-- A side condition that arithmetic pays. -/
theorem Cnd_T {α : Type} {c : Prop} {r : Option α} (h : c) : Cnd c r = r := by simp [Cnd, h]
theorem map_Cnd {α β : Type} {f : α → β} {c : Prop} {r : Option α} : Option.map f (Cnd c r) = Cnd c (Option.map f r) := by
  unfold Cnd; by_cases h : c <;> simp [h]
theorem bind_Cnd {α β : Type} {f : α → Option β} {c : Prop} {r : Option α} : Option.bind (Cnd c r) f = Cnd c (Option.bind r f) := by
  unfold Cnd; by_cases h : c <;> simp [h]
theorem evS_Cnd {K : St → Prop} {σ : St} {c : Prop} {r : Option (AV × Upd)} : evS (Cnd c r) dst σ K = (c ∧ evS r dst σ K) := by
  unfold Cnd; by_cases h : c <;> simp [h, evS]
theorem evDS_Cnd {all : Array Oper} {i : Nat} {rd : List Nat} {log : Log} {K : Log → St → Prop} {σ : St} {c : Prop} {r : Option (AV × Upd)} : evDS all i rd log (Cnd c r) dst σ K = (c ∧ evDS all i rd log r dst σ K) := by
  unfold Cnd; by_cases h : c <;> simp [h, evDS]

attribute [push_cast high] Cnd_true Cnd_false Cnd_T
attribute [push_cast] map_Cnd bind_Cnd evS_Cnd evDS_Cnd
attribute [push_cast] buildSliceA_some buildSliceB_some Nat.le_add_right Nat.le_refl
attribute [push_cast] evO_next evO_range evO_entry evDO_range evDO_entry
attribute [push_cast] stepE_build placesA_s placesA_a buildA_some stepE_field fieldA_agg stepE_extract extractA_tup mapOf_mp mapOf_mv mapOf_nil mapO_map stepE_lookup lookupA_some lookupB_f lookupB_t stepE_mapUpdate mapUpdM_mp mapUpdA_some stepE_makeMap stepE_makeMapR isIntB_v makeMapA_some makeMapB_some delete_mp deleteA_some deleteB_some
attribute [push_cast] stepE_range stepE_entry rangeA_mv rangeA_nil entryA_it entryO_some evNext_it evNxI_some
attribute [push_cast] stepE_slice2 stepE_slice3 bnds_nn bnds_nh bnds_ln bnds_lh sliceE_some sliceF_seq sliceF_sl sliceF_str sliceF_nil sliceN_some sliceF_ptr sliceP_some slice3A_some eqInt_int slice3B_nil slice3B_seq slice3B_sl indexF_agg indexF_str indexAddrP_some indexAddr_ptr indexAddr_rop copy_sl copyE_some copyA_some stepE_makeSlice makeSliceA_some makeSliceB_some
attribute [push_cast] stepE_convert convA_int convI_some convA_str
attribute [push_cast] Option.isSome_some Option.isSome_none List.all_cons List.all_nil
end Go.AW
namespace Go.AW
attribute [push_cast] List.set_cons_zero List.set_cons_succ List.drop_succ_cons List.take_succ_cons List.take_zero List.drop_nil List.take_nil
end Go.AW
namespace Go.AW
theorem setL_cons0 {y c : AV} {ys cs : List AV} : setL (y :: ys) 0 (c :: cs) = c :: setL ys 0 cs := by
  have key : ∀ (cs pre ys : List AV), setL (pre ++ ys) pre.length cs = pre ++ setL ys 0 cs := by
    intro cs
    induction cs with
    | nil => intro pre ys; rfl
    | cons c cs ih =>
      intro pre ys
      simp only [setL]
      cases ys with
      | nil =>
        simp only [List.append_nil, List.set_nil]
        rw [List.set_eq_of_length_le (by simp)]
        have h1 := ih pre []
        have h2 : ∀ (n : Nat) (cs : List AV), setL [] n cs = [] := by
          intro n cs
          induction cs generalizing n with
          | nil => rfl
          | cons c cs ih => simp only [setL, List.set_nil]; exact ih _
        have h3 : ∀ (l : List AV) (n : Nat) (cs : List AV), l.length ≤ n → setL l n cs = l := by
          intro l n cs
          induction cs generalizing n with
          | nil => intro _; rfl
          | cons c cs ih => intro h; simp only [setL]; rw [List.set_eq_of_length_le h]; exact ih _ (by omega)
        rw [h2, List.append_nil, h3 _ _ _ (by omega)]
      | cons y ys =>
        have h1 := ih (pre ++ [c]) ys
        simp only [List.length_append, List.length_cons, List.length_nil, Nat.zero_add, List.append_assoc, List.cons_append, List.nil_append] at h1
        rw [List.set_append_right _ _ (Nat.le_refl _)]
        simp only [Nat.sub_self, List.set_cons_zero]
        rw [h1]
        have h4 := ih [c] ys
        simp only [List.length_cons, List.length_nil, Nat.zero_add, List.cons_append, List.nil_append] at h4
        rw [h4]
  have := key cs [c] ys
  simpa [setL] using this
theorem setL_succ {y : AV} {ys : List AV} {n : Nat} : ∀ {cs : List AV}, setL (y :: ys) (n + 1) cs = y :: setL ys n cs := by
  intro cs
  induction cs generalizing ys n with
  | nil => rfl
  | cons c cs ih => simp only [setL, List.set_cons_succ]; exact ih
attribute [push_cast] setL_cons0 setL_succ
end Go.AW
/- Entries at a loop's head, by simp. -/
namespace Go.AW
variable {keep : List (Nat × Nat)} {f : Nat → Option AObj}

theorem lk_unkept_eq : ∀ {objs : List (Nat × AObj)} {o : Nat}, lk (unkept keep objs) o = if (keep.any fun q => q.2 == o) = true then none else lk objs o
  | [], o => by simp [unkept, lk]
  | (p, x) :: objs, o => by
    have ih := lk_unkept_eq (objs := objs) (o := o)
    unfold unkept at ih ⊢
    simp only [List.filter_cons, lk]
    by_cases hp : (keep.any fun q => q.2 == p) = true
    · simp only [hp, Bool.not_true, Bool.false_eq_true, if_false, ih]
      by_cases ho : (keep.any fun q => q.2 == o) = true
      · simp [ho]
      · have : p ≠ o := fun e => ho (by rw [← e]; exact hp)
        simp [ho, this]
    · simp only [hp, Bool.not_false, if_true, lk, ih]
      by_cases e : p = o
      · subst e
        simp [hp]
      · simp only [if_neg e]
theorem FzE_nil {env : List (Nat × AV)} : FzE keep f env [] = True := (rfl)
theorem FzE_cons {env e : List (Nat × AV)} {t : Nat} {x : AV} : FzE keep f env ((t, x) :: e) = (FzV keep f (lk env t) x ∧ FzE keep f env e) := (rfl)
/-- What a value is read as. -/
def fzA (k : Option AV) (s : Option (AV × List Nat)) : Option AV := match k with
  | some z => some z
  | none => s.map (·.1)
def Fz1 (n : Bool) (r : Option AV) (y : AV) : Prop := n = true ∨ r = some y
theorem FzV_some {x y : AV} : FzV keep f (some x) y = Fz1 (nilA y x) (fzA (keptA keep x) (snap f 12 x)) y := by
  simp only [FzV, Fz1, fzA, eq_iff_iff]
  cases keptA keep x with
  | some z => simp
  | none =>
    cases snap f 12 x with
    | none => simp
    | some p => simp [Prod.ext_iff]
theorem Fz1_t {r : Option AV} {y : AV} : Fz1 true r y = True := by simp [Fz1]
theorem Fz1_f {r : Option AV} {y : AV} : Fz1 false r y = (r = some y) := by simp [Fz1]
theorem fzA_some {z : AV} {s : Option (AV × List Nat)} : fzA (some z) s = some z := (rfl)
theorem fzA_none {p : AV × List Nat} : fzA none (some p) = some p.1 := (rfl)
/-- What looks at no object is read as it is. -/
theorem fzA_idf {x : AV} (h : idf x = true) : fzA (keptA keep x) (snap f 12 x) = some x := by
  have : keptA keep x = none := by cases x <;> first | rfl | simp [idf] at h
  rw [this, snap_idf h]; rfl
def keptO (keep : List (Nat × Nat)) (o : Nat) (mk : Nat → AV) : Option AV := match keep with
  | [] => none
  | q :: k => if q.2 = o then some (mk q.1) else keptO k o mk
theorem find_keptO {o : Nat} {mk : Nat → AV} : ∀ {keep : List (Nat × Nat)}, ((keep.find? fun q => q.2 == o).map fun q => mk q.1) = keptO keep o mk
  | [] => rfl
  | q :: k => by
    simp only [List.find?_cons, keptO]
    by_cases e : q.2 = o
    · simp [e]
    · have : (q.2 == o) = false := by simpa using e
      rw [this, if_neg e]; exact find_keptO
theorem keptA_ptr {o off : Nat} : keptA keep (.ptr o off) = keptO keep o fun p => .ptr p off := find_keptO (mk := fun p => .ptr p off)
theorem keptA_sl {o off n sz : Nat} : keptA keep (.sl o off n sz) = keptO keep o fun p => .sl p off n sz := find_keptO (mk := fun p => .sl p off n sz)
theorem keptA_mp {o : Nat} : keptA keep (.mp o) = keptO keep o fun p => .mp p := find_keptO
theorem keptA_agg {xs : List AV} : keptA keep (.agg xs) = none := (rfl)
theorem keptA_tup {xs : List AV} : keptA keep (.tup xs) = none := (rfl)
theorem keptO_nil {o : Nat} {mk : Nat → AV} : keptO [] o mk = none := (rfl)
theorem keptO_cons {o : Nat} {mk : Nat → AV} {a b : Nat} {k : List (Nat × Nat)} : keptO ((a, b) :: k) o mk = if b = o then some (mk a) else keptO k o mk := (rfl)
theorem nilA_v {y : AV} {i : IntKind} {n : Int} : nilA y (.v (.int i n)) = false := (rfl)
theorem nilA_nil {o off n sz : Nat} : nilA (.sl o off (n + 1) sz) (.v (.slice none 0 0)) = false := (rfl)
theorem nilA_nil0 {o off sz : Nat} : nilA (.sl o off 0 sz) (.v (.slice none 0 0)) = true := (rfl)
theorem nilA_bool {y : AV} {b : Bool} : nilA y (.v (.bool b)) = false := (rfl)
theorem nilA_str {y : AV} {b : ByteArray} : nilA y (.v (.string b)) = false := (rfl)
theorem nilA_fun {y : AV} {g : Fn} {a b : Array Value} : nilA y (.v (.func g a b)) = false := (rfl)
theorem nilA_seq {y : AV} {n z : Nat} {xs : List AV} : nilA y (.seq n z xs) = false := (rfl)
theorem nilA_sl {y : AV} {o off n z : Nat} : nilA y (.sl o off n z) = false := (rfl)
theorem nilA_ptr {y : AV} {o off : Nat} : nilA y (.ptr o off) = false := (rfl)
theorem nilA_agg {y : AV} {xs : List AV} : nilA y (.agg xs) = false := (rfl)
theorem nilA_tup {y : AV} {xs : List AV} : nilA y (.tup xs) = false := (rfl)
theorem nilA_mp {y : AV} {o : Nat} : nilA y (.mp o) = false := (rfl)
theorem nilA_rop {y : AV} {xs : List AV} : nilA y (.rop xs) = false := (rfl)
theorem nilA_mv {y : AV} {k : KT} {ks : List Value} {xs : List AV} : nilA y (.mv k ks xs) = false := (rfl)
theorem nilA_clo {y : AV} {g : Fn} {a b : List AV} : nilA y (.clo g a b) = false := (rfl)
/-- A nil slice read as no elements. -/
theorem fz_nil : fzA (keptA keep (.v (.slice none 0 0))) (snap f 12 (.v (.slice none 0 0))) = some (.v (.slice none 0 0)) := fzA_idf rfl

theorem FzO_nil {objs : List (Nat × AObj)} : FzO keep f objs [] = True := (rfl)
theorem FzO_cons {objs e : List (Nat × AObj)} {o : Nat} {x : AObj} : FzO keep f objs ((o, x) :: e) = (FzO1 keep f objs o x ∧ FzO keep f objs e) := (rfl)
def FzO2 (f : Nat → Option AObj) (objs : List (Nat × AObj)) (q : Option Nat) (x : AObj) : Prop := match q with
  | some q => FzB f (lk objs q) x
  | none => nilO x = true
theorem FzO1_eq {objs : List (Nat × AObj)} {o : Nat} {x : AObj} : FzO1 keep f objs o x = FzO2 f objs (lk keep o) x := by
  unfold FzO1 FzO2; cases lk keep o <;> rfl
theorem FzO2_some {objs : List (Nat × AObj)} {q : Nat} {x : AObj} : FzO2 f objs (some q) x = FzB f (lk objs q) x := (rfl)
theorem FzO2_none {objs : List (Nat × AObj)} {x : AObj} : FzO2 f objs none x = (nilO x = true) := (rfl)
theorem nilO_nil {E : TypeId} {ap : Bool} : nilO (.cells E [] ap) = true := (rfl)
def fzL (s : Option (List AV × List Nat)) : Option (List AV) := s.map (·.1)
theorem FzB_cells {E E' : TypeId} {xs ys : List AV} {ap ap' : Bool} : FzB f (some (.cells E xs ap)) (.cells E' ys ap') = (E = E' ∧ ap = ap' ∧ fzL (snapL (snap f 12) xs) = some ys) := by
  simp only [FzB, fzL, eq_iff_iff]
  cases snapL (snap f 12) xs with
  | none => simp
  | some p => simp [Prod.ext_iff]
theorem FzB_map {k k' : KT} {ks ks' : List Value} {xs ys : List AV} : FzB f (some (.map k ks xs)) (.map k' ks' ys) = (k = k' ∧ ks = ks' ∧ fzL (snapL (snap f 12) xs) = some ys) := by
  simp only [FzB, fzL, eq_iff_iff]
  cases snapL (snap f 12) xs with
  | none => simp
  | some p => simp [Prod.ext_iff]
theorem fzL_some {p : List AV × List Nat} : fzL (some p) = some p.1 := (rfl)

/-! What snap yields. -/
theorem snapL_idf {F : AV → Option (AV × List Nat)} {xs : List AV} (h : idfL xs = true) : snapL F xs = some (xs, []) := by simp [snapL, h]
theorem snapM_idf {n : Nat} : ∀ {xs : List AV}, idfL xs = true → snapM (snap f (n + 1)) xs = some (xs, [])
  | [], _ => rfl
  | x :: xs, h => by
    simp only [idfL, Bool.and_eq_true] at h
    simp only [snapM, snap_idf h.1, snapM_idf h.2, List.append_nil]
theorem snapL_M {n : Nat} {xs : List AV} : snapL (snap f (n + 1)) xs = snapM (snap f (n + 1)) xs := by
  unfold snapL; split
  · rename_i h; exact (snapM_idf h).symm
  · rfl
def snapC (a : Option (AV × List Nat)) (b : Option (List AV × List Nat)) : Option (List AV × List Nat) := match a, b with
    | some p, some q => some (p.1 :: q.1, p.2 ++ q.2)
    | _, _ => none
theorem snapM_nil {F : AV → Option (AV × List Nat)} : snapM F [] = some ([], []) := (rfl)
theorem snapM_cons {F : AV → Option (AV × List Nat)} {x : AV} {xs : List AV} : snapM F (x :: xs) = snapC (F x) (snapM F xs) := by simp only [snapM, snapC]; rfl
theorem snapC_some {p : AV × List Nat} {q : List AV × List Nat} : snapC (some p) (some q) = some (p.1 :: q.1, p.2 ++ q.2) := (rfl)
theorem snapM_app {n : Nat} : ∀ {xs ys : List AV}, idfL xs = true → snapM (snap f (n + 1)) (xs ++ ys) = (snapM (snap f (n + 1)) ys).map fun p => (xs ++ p.1, p.2)
  | [], ys, _ => by cases h : snapM (snap f (n + 1)) ys <;> simp [h]
  | x :: xs, ys, h => by
    simp only [idfL, Bool.and_eq_true] at h
    simp only [List.cons_append, snapM, snap_idf h.1, snapM_app h.2]
    cases h : snapM (snap f (n + 1)) ys <;> simp
def snapSl (off k sz : Nat) (F : AV → Option (AV × List Nat)) (o : Nat) (ob : Option AObj) : Option (AV × List Nat) := match ob with
      | some (.cells _ ys _) => if off + k * sz ≤ ys.length then (snapL F ys).map fun p => (.seq k sz ((p.1.drop off).take (k * sz)), o :: p.2) else none
      | some (.imm ys) => if off + k * sz ≤ ys.length then (snapL F ys).map fun p => (.seq k sz ((p.1.drop off).take (k * sz)), o :: p.2) else none
      | _ => none
theorem snap_sl {n o off k sz : Nat} : snap f (n + 1) (.sl o off k sz) = snapSl off k sz (snap f n) o (f o) := by simp only [snap, snapSl]; rfl
theorem snapSl_cells {off k sz o : Nat} {F : AV → Option (AV × List Nat)} {E : TypeId} {ys : List AV} {ap : Bool} : snapSl off k sz F o (some (.cells E ys ap)) = if off + k * sz ≤ ys.length then (snapL F ys).map fun p => (.seq k sz ((p.1.drop off).take (k * sz)), o :: p.2) else none := (rfl)
def snapPt (off : Nat) (F : AV → Option (AV × List Nat)) (o : Nat) (ob : Option AObj) : Option (AV × List Nat) := match ob with
      | some (.cells _ ys _) => (snapL F ys).map fun p => (.rop (p.1.drop off), o :: p.2)
      | some (.imm ys) => (snapL F ys).map fun p => (.rop (p.1.drop off), o :: p.2)
      | _ => none
theorem snap_ptr {n o off : Nat} : snap f (n + 1) (.ptr o off) = snapPt off (snap f n) o (f o) := by simp only [snap, snapPt]; rfl
theorem snapPt_cells {off o : Nat} {F : AV → Option (AV × List Nat)} {E : TypeId} {ys : List AV} {ap : Bool} : snapPt off F o (some (.cells E ys ap)) = (snapL F ys).map fun p => (.rop (p.1.drop off), o :: p.2) := (rfl)
def snapMp (F : AV → Option (AV × List Nat)) (o : Nat) (ob : Option AObj) : Option (AV × List Nat) := match ob with
      | some (.map kt ks xs) => (snapL F xs).map fun p => (.mv kt ks p.1, o :: p.2)
      | _ => none
theorem snap_mp {n o : Nat} : snap f (n + 1) (.mp o) = snapMp (snap f n) o (f o) := by simp only [snap, snapMp]; rfl
theorem snapMp_map {o : Nat} {F : AV → Option (AV × List Nat)} {kt : KT} {ks : List Value} {xs : List AV} : snapMp F o (some (.map kt ks xs)) = (snapL F xs).map fun p => (.mv kt ks p.1, o :: p.2) := (rfl)
theorem snap_agg {n : Nat} {xs : List AV} : snap f (n + 1) (.agg xs) = (snapL (snap f n) xs).map fun p => (.agg p.1, p.2) := (rfl)
theorem snap_tup {n : Nat} {xs : List AV} : snap f (n + 1) (.tup xs) = (snapL (snap f n) xs).map fun p => (.tup p.1, p.2) := (rfl)
theorem snap_12 {x : AV} : snap f 12 x = snap f (11 + 1) x := (rfl)
theorem snap_11 {x : AV} : snap f 11 x = snap f (10 + 1) x := (rfl)
theorem snap_10 {x : AV} : snap f 10 x = snap f (9 + 1) x := (rfl)
theorem snap_9 {x : AV} : snap f 9 x = snap f (8 + 1) x := (rfl)
theorem snap_8 {x : AV} : snap f 8 x = snap f (7 + 1) x := (rfl)
theorem snap_v {n : Nat} {x : Value} : snap f (n + 1) (.v x) = some (.v x, []) := snap_idf rfl
theorem snap_seq {n k z : Nat} {xs : List AV} (h : idfL xs = true) : snap f (n + 1) (.seq k z xs) = some (.seq k z xs, []) := snap_idf h
theorem snap_mv {n : Nat} {k : KT} {ks : List Value} {xs : List AV} (h : idfL xs = true) : snap f (n + 1) (.mv k ks xs) = some (.mv k ks xs, []) := snap_idf h
theorem snap_rop {n : Nat} {xs : List AV} (h : idfL xs = true) : snap f (n + 1) (.rop xs) = some (.rop xs, []) := snap_idf h

/-! What looks at no object. -/
theorem idf_v {x : Value} : idf (.v x) = true := (rfl)
theorem idf_agg {xs : List AV} : idf (.agg xs) = idfL xs := (rfl)
theorem idf_tup {xs : List AV} : idf (.tup xs) = idfL xs := (rfl)
theorem idf_seq {n z : Nat} {xs : List AV} : idf (.seq n z xs) = idfL xs := (rfl)
theorem idf_full {n z : Nat} {xs : List AV} : idf (.full n z xs) = idfL xs := (rfl)
theorem idf_rop {xs : List AV} : idf (.rop xs) = idfL xs := (rfl)
theorem idf_mv {k : KT} {ks : List Value} {xs : List AV} : idf (.mv k ks xs) = idfL xs := (rfl)
theorem idf_clo {g : Fn} {a b : List AV} : idf (.clo g a b) = (idfL a && idfL b) := (rfl)
theorem idf_sl {o off n z : Nat} : idf (.sl o off n z) = false := (rfl)
theorem idf_ptr {o off : Nat} : idf (.ptr o off) = false := (rfl)
theorem idf_mp {o : Nat} : idf (.mp o) = false := (rfl)
theorem idfL_nil : idfL [] = true := (rfl)
theorem idfL_cons {x : AV} {xs : List AV} : idfL (x :: xs) = (idf x && idfL xs) := (rfl)
theorem idfL_drop' {xs : List AV} {k : Nat} (h : idfL xs = true) : idfL (xs.drop k) = true := idfL_drop xs k h
theorem idfL_take' {xs : List AV} {k : Nat} (h : idfL xs = true) : idfL (xs.take k) = true := idfL_take xs k h
theorem flat_take_succ {α : Type} {g : α → List AV} {l : List α} {i : Nat} (h : i < l.length) : flat g (l.take (i + 1)) = flat g (l.take i) ++ g l[i] := by
  unfold flat
  rw [List.take_succ_eq_append_getElem h, List.flatMap_append]
  simp
theorem flat_take_all {α : Type} {g : α → List AV} {l : List α} {i : Nat} (h : l.length ≤ i) : flat g (l.take i) = flat g l := by rw [List.take_of_length_le h]
theorem flat_nil {α : Type} {g : α → List AV} : flat g [] = [] := (rfl)
theorem flat_cons {α : Type} {g : α → List AV} {x : α} {l : List α} : flat g (x :: l) = g x ++ flat g l := (rfl)
theorem flat_append {α : Type} {g : α → List AV} {l k : List α} : flat g (l ++ k) = flat g l ++ flat g k := by simp [flat]
theorem idfL_hflat {l : List Hs} : idfL (flat hcell l) = true := idfL_flat idfL_hcell l
theorem idfL_sflat {l : List ByteArray} : idfL (flat scell l) = true := idfL_flat idfL_scell l
theorem hflat_length {l : List Hs} : (flat hcell l).length = l.length * 32 := flat_length hcell_length l
theorem sflat_length {l : List ByteArray} : (flat scell l).length = l.length * 1 := flat_length scell_length l
theorem idfL_pflat {l : List PatchV} : idfL (flat pcell l) = true := idfL_flat idfL_pcell l
theorem pflat_length {l : List PatchV} : (flat pcell l).length = l.length * 9 := flat_length pcell_length l

attribute [push_cast] lk_unkept_eq FzE_nil FzE_cons FzV_some Fz1_t Fz1_f fzA_some fzA_none keptA_ptr keptA_sl keptA_mp keptA_agg keptA_tup keptO_nil keptO_cons
attribute [push_cast] nilA_v nilA_nil nilA_nil0 nilA_bool nilA_str nilA_fun nilA_seq nilA_sl nilA_ptr nilA_agg nilA_tup nilA_mp nilA_rop nilA_mv nilA_clo
attribute [push_cast high] fzA_idf
attribute [push_cast] FzO_nil FzO_cons FzO1_eq FzO2_some FzO2_none nilO_nil FzB_cells FzB_map fzL_some
attribute [push_cast high] snapL_idf snapM_idf
attribute [push_cast] snapL_M snapM_nil snapM_cons snapC_some snapM_app snap_sl snapSl_cells snap_ptr snapPt_cells snap_mp snapMp_map snap_agg snap_tup snap_v snap_seq snap_mv snap_rop
attribute [push_cast] idf_v idf_agg idf_tup idf_seq idf_full idf_rop idf_mv idf_clo idf_sl idf_ptr idf_mp idfL_nil idfL_cons idfL_append idfL_hflat idfL_sflat idfL_pflat idfL_hcell idfL_scell idfL_pcell
attribute [push_cast] flat_nil hflat_length sflat_length pflat_length List.length_take List.length_map List.any_cons List.any_nil Nat.mul_one wrap_i64
attribute [push_cast] List.take_append_of_le_length List.take_of_length_le
theorem sflat_drop' {l : List ByteArray} {i : Nat} (hi : i < l.length) : (flat scell l).drop i = .v (.string l[i]) :: flat scell (l.drop (i + 1)) := by
  have := sflat_drop l i hi
  rwa [Nat.mul_one] at this
def fzS (s : Option (AV × List Nat)) : Option AV := s.map (·.1)
theorem fzS_some {p : AV × List Nat} : fzS (some p) = some p.1 := (rfl)
theorem endS_fz {m : Mem} {y r : AV} : endS m (some y) r = (fzS (snap m.find 12 (unf y)) = some r) := by
  simp only [endS, fzS, eq_iff_iff]
  constructor
  · rintro ⟨y', h1, ids, h2⟩
    simp only [Option.some.injEq] at h1
    subst h1
    rw [h2]; rfl
  · intro h
    simp only [Option.map_eq_some_iff] at h
    obtain ⟨⟨a, b⟩, h1, rfl⟩ := h
    exact ⟨y, rfl, b, h1⟩
def endT (m : Mem) (y : Option AV) (r : AV) : Prop := (y.bind fun y => snapN m.find 12 (unf y)) = some r
theorem endN_eq {P : Program} {rs : List ResultVar} {r : AV} {e : Exit} {env : List (Nat × AV)} {m : Mem} : endN P rs r e ⟨env, m⟩ = endT m (resA P rs env m) r := by
  simp only [endN, endT, eq_iff_iff]
  constructor
  · rintro ⟨y, h1, h2⟩; rw [h1]; exact h2
  · intro h
    simp only [Option.bind_eq_some_iff] at h
    exact h
theorem endT_some {m : Mem} {y r : AV} : endT m (some y) r = (snapN m.find 12 (unf y) = some r) := (rfl)
def snapNSl (off k sz : Nat) (ob : Option AObj) : Option AV := match ob with
      | some (.cells _ ys _) => if off + k * sz ≤ ys.length then if sclL ys then some (.seq k sz ((ys.drop off).take (k * sz))) else none else none
      | _ => none
theorem snapN_sl {n o off k sz : Nat} : snapN f (n + 1) (.sl o off k sz) = snapNSl off k sz (f o) := by simp only [snapN, snapNSl]; rfl
theorem snapNSl_cells {off k sz : Nat} {E : TypeId} {ys : List AV} {ap : Bool} : snapNSl off k sz (some (.cells E ys ap)) = if off + k * sz ≤ ys.length then if sclL ys then some (.seq k sz ((ys.drop off).take (k * sz))) else none else none := (rfl)
def snapNMp (ob : Option AObj) : Option AV := match ob with
      | some (.map kt ks xs) => if sclL xs then some (.mv kt ks xs) else none
      | _ => none
theorem snapN_mp {n o : Nat} : snapN f (n + 1) (.mp o) = snapNMp (f o) := by simp only [snapN, snapNMp]; rfl
theorem snapNMp_map {kt : KT} {ks : List Value} {xs : List AV} : snapNMp (some (.map kt ks xs)) = if sclL xs then some (.mv kt ks xs) else none := (rfl)
theorem snapN_v {n : Nat} {x : Value} : snapN f (n + 1) (.v x) = some (.v x) := (rfl)
theorem snapN_tup {n : Nat} {xs : List AV} : snapN f (n + 1) (.tup xs) = (snapNM (snapN f n) xs).map .tup := (rfl)
theorem snapN_agg {n : Nat} {xs : List AV} : snapN f (n + 1) (.agg xs) = (snapNM (snapN f n) xs).map .agg := (rfl)
theorem snapNM_nil {F : AV → Option AV} : snapNM F [] = some [] := (rfl)
def snapNC (a : Option AV) (b : Option (List AV)) : Option (List AV) := match a, b with
  | some p, some q => some (p :: q)
  | _, _ => none
theorem snapNM_cons {F : AV → Option AV} {x : AV} {xs : List AV} : snapNM F (x :: xs) = snapNC (F x) (snapNM F xs) := by simp only [snapNM, snapNC]; rfl
theorem snapNC_some {p : AV} {q : List AV} : snapNC (some p) (some q) = some (p :: q) := (rfl)
theorem sclL_append : ∀ {l m : List AV}, sclL (l ++ m) = (sclL l && sclL m)
  | [], m => by simp [sclL]
  | x :: l, m => by simp [sclL, sclL_append (l := l), Bool.and_assoc]
theorem scl_v {x : Value} : scl (.v x) = true := (rfl)
theorem scl_agg {xs : List AV} : scl (.agg xs) = sclL xs := (rfl)
theorem sclL_nil : sclL [] = true := (rfl)
theorem sclL_cons {x : AV} {xs : List AV} : sclL (x :: xs) = (scl x && sclL xs) := (rfl)
theorem sclL_flat {α : Type} {g : α → List AV} (h : ∀ x, sclL (g x) = true) : ∀ l : List α, sclL (flat g l) = true
  | [] => rfl
  | x :: l => by have := sclL_flat h l; simp only [flat, List.flatMap_cons] at *; simp [sclL_append, h, this]
theorem sclL_sflat {l : List ByteArray} : sclL (flat scell l) = true := sclL_flat (fun _ => rfl) l
theorem sclL_vals {α : Type} (g : α → Value) : ∀ l : List α, sclL (l.map fun x => .v (g x)) = true
  | [] => rfl
  | x :: l => by simp [sclL, scl, sclL_vals g l]
theorem sclL_hflat {l : List Hs} : sclL (flat hcell l) = true := sclL_flat (fun h => sclL_vals _ _) l
attribute [push_cast] sflat_drop' fzS_some endS_fz endN_eq endT_some snapN_sl snapNSl_cells snapN_mp snapNMp_map snapN_v snapN_tup snapN_agg snapNM_nil snapNM_cons snapNC_some sclL_append scl_v scl_agg sclL_nil sclL_cons sclL_sflat sclL_hflat
/-- Where results are all new. -/
theorem PNew.start {P : Program} {γ : GTab} {f : FuncId} {fn : Func} {c : Code} {rs : List ResultVar} {nt : Nat} {xs : List AV} {r : AV} (hf : P.funcs[f]? = some fn) (hb : fn.body = some c) (hn : (fn.name == "runtime.NumGoroutine") = false) (hrs : fn.results = rs.toArray) (hnt : fn.ntmps = nt) (hm : P.follows .mixedOrders = true) (hd : dOK c = true) (hx : idfL xs = true) (hr : idf r = true)
    (h : ev P γ 0 nt [.code c, .fin (endN P rs r)] ⟨(xs.zipIdx.map fun p => (p.2, p.1)), ⟨[], 0, 0, 0⟩⟩) : PNew P γ f xs r := by
  refine PNew.enter hf hb hn hm hd hx hr ?_
  rw [hrs, hnt]
  simpa using h
end Go.AW
/- What is read as data, as abstract values. -/
namespace Go.AW
variable {P : Program} {H : Type} {enc : TypeId × Value → H} {w : World} {base : Nat} {spare : Nat → Bool} {held : Bool}

def avsL (f : DataW H → Option (List AV)) : List (DataW H) → Option (List AV)
  | [] => some []
  | d :: ds => match f d, avsL f ds with
    | some a, some b => some (a ++ b)
    | _, _ => none
def avsF (f : TypeId → DataW H → Option (List AV)) : List TypeId → List (DataW H) → Option (List AV)
  | [], [] => some []
  | t :: ts, d :: ds => match f t d, avsF f ts ds with
    | some a, some b => some (a ++ b)
    | _, _ => none
  | _, _ => none
/-- A datum's cells. -/
def avs (P : Program) : Nat → TypeId → DataW H → Option (List AV)
  | 0, _, _ => none
  | n + 1, t, d => match P.underlying t, d with
    | some .bool, .lit (.bool b) => some [.v (.bool b)]
    | some (.int k), .lit (.int _ m) => if (Lit.int k m).wf = true then some [.v (.int k m)] else none
    | some .string, .lit (.string bs) => some [.v (.string ⟨bs.toArray⟩)]
    | some (.slice e), .nil => some [.seq 0 (tsz P e) []]
    | some (.slice e), .slice es _ => (avsL (avs P n e) es).map fun l => [.seq es.length (tsz P e) l]
    | some (.struct fs), .agg ps => avsF (avs P n) (fs.toList.map (·.type)) ps
    | some (.array m e), .agg ps => if ps.length = m then avsL (avs P n e) ps else none
    | _, _ => none

def tilesT (P : Program) : Nat → List Field → Option Nat
  | off, [] => some off
  | off, f :: fs => if f.offset = off then tilesT P (off + P.cellsOf f.type) fs else none
/-- Numbers, bools, texts; slices, structs and arrays of such. -/
def plainT (P : Program) : Nat → TypeId → Bool
  | 0, _ => false
  | n + 1, t => match P.underlying t with
    | some .bool => true
    | some (.int _) => true
    | some .string => true
    | some (.slice e) => decide (0 < P.cellsOf e) && decide (P.cellsOf e = tsz P e) && plainT P n e
    | some (.struct fs) => decide (tilesT P 0 fs.toList = some (P.cellsOf t)) && fs.toList.all fun f => plainT P n f.type
    | some (.array m e) => decide (m * P.cellsOf e = P.cellsOf t) && plainT P n e
    | _ => false

/-- What a reading gives. -/
def Got (P : Program) (w : World) (n : Nat) (t : TypeId) (cs : List Value) (d : DataW H) : Prop :=
  ∃ xs, avs P n t d = some xs ∧ RepL (Sall w) μ0 w xs cs ∧ idfL xs = true ∧ ∀ u ∈ cs, u.oneCell' = true

theorem got_fields {n : Nat} {r : TypeId → List Value → Option (DataW H × List MemPlace)} (hr : ∀ t cs x, plainT P n t = true → r t cs = some x → cs.length = P.cellsOf t → Got P w n t cs x.1) :
    ∀ (fs : List Field) (off e : Nat) (cs : List Value) (xs : List (DataW H × List MemPlace)), tilesT P off fs = some e → cs.length = e → (fs.all fun f => plainT P n f.type) = true → off ≤ e → xs.length = fs.length →
      (∀ (i : Nat) (f : Field), fs[i]? = some f → r f.type ((cs.drop f.offset).take (P.cellsOf f.type)) = xs[i]?) → ∃ ys, avsF (avs P n) (fs.map (·.type)) (xs.map (·.1)) = some ys ∧ RepL (Sall w) μ0 w ys (cs.drop off) ∧ idfL ys = true ∧ ∀ u ∈ cs.drop off, u.oneCell' = true
  | [], off, e, cs, xs, ht, hl, _, _, hxl, h => by
    simp only [tilesT, Option.some.injEq] at ht
    subst ht
    obtain rfl : xs = [] := List.eq_nil_of_length_eq_zero hxl
    refine ⟨[], rfl, ?_, rfl, ?_⟩
    · rw [List.drop_eq_nil_of_le (by omega)]; simp [RepL]
    · rw [List.drop_eq_nil_of_le (by omega)]; simp
  | f :: fs, off, e, cs, xs, ht, hl, hp, ho, hxl, h => by
    simp only [tilesT] at ht
    split at ht
    · rename_i hoff
      cases xs with
      | nil => simp at hxl
      | cons y zs =>
      have h1 := h 0 f (by simp)
      simp only [List.getElem?_cons_zero] at h1
      simp only [List.all_cons, Bool.and_eq_true] at hp
      have hle : off + P.cellsOf f.type ≤ e := by
        have key : ∀ (fs : List Field) (a b : Nat), tilesT P a fs = some b → a ≤ b := by
          intro fs
          induction fs with
          | nil => intro a b h; simp only [tilesT, Option.some.injEq] at h; omega
          | cons f fs ih =>
            intro a b h
            simp only [tilesT] at h
            split at h
            · have := ih _ _ h; omega
            · cases h
        exact key _ _ _ ht
      rw [hoff] at h1
      obtain ⟨a, a1, a2, a3, a4⟩ := hr _ _ _ hp.1 h1 (by simp; omega)
      obtain ⟨b, b1, b2, b3, b4⟩ := got_fields hr fs _ e cs zs ht hl hp.2 hle (by simpa using hxl) (fun i f' hf => by simpa using h (i + 1) f' (by simpa using hf))
      have hd : cs.drop off = (cs.drop off).take (P.cellsOf f.type) ++ cs.drop (off + P.cellsOf f.type) := by
        rw [← List.drop_drop, List.take_append_drop]
      refine ⟨a ++ b, ?_, ?_, by rw [idfL_append, a3, b3]; rfl, fun u hu => ?_⟩
      · simp only [List.map_cons, avsF, a1, b1]
      · rw [hd]; exact a2.append b2
      · rw [hd] at hu
        rcases List.mem_append.1 hu with h | h
        · exact a4 u h
        · exact b4 u h
    · cases ht

theorem mapM_cons_some {α β : Type} {f : α → Option β} {x : α} {xs : List α} {ys : List β} (h : (x :: xs).mapM f = some ys) : ∃ y zs, f x = some y ∧ xs.mapM f = some zs ∧ ys = y :: zs := by
  rw [List.mapM_cons] at h
  simp only [Option.bind_eq_bind, Option.pure_def, Option.bind_eq_some_iff, Option.some.injEq] at h
  obtain ⟨y, h1, zs, h2, h3⟩ := h
  exact ⟨y, zs, h1, h2, h3.symm⟩

theorem cells_get {a : Addr} {n : Nat} {cs : List Value} (h : w.cells? base a n = some cs) : cs.length = n ∧ ∀ i u, cs[i]? = some u → w.cell? (a.add i) = some u := by
  unfold World.cells? at h
  split at h
  · have key : ∀ (l : List Nat) (cs : List Value), l.mapM (fun i => w.cell? (a.add i)) = some cs → cs.length = l.length ∧ ∀ (i : Nat) (u : Value), cs[i]? = some u → ∃ j : Nat, l[i]? = some j ∧ w.cell? (a.add j) = some u := by
      intro l
      induction l with
      | nil => intro cs h; simp at h; subst h; simp
      | cons x l ih =>
        intro cs h
        obtain ⟨y, zs, h1, h2, rfl⟩ := mapM_cons_some h
        obtain ⟨h3, h4⟩ := ih zs h2
        refine ⟨by simp [h3], fun i u hi => ?_⟩
        cases i with
        | zero => simp at hi; subst hi; exact ⟨x, by simp, h1⟩
        | succ i => simp at hi; obtain ⟨j, h5, h6⟩ := h4 i u hi; exact ⟨j, by simpa using h5, h6⟩
    obtain ⟨h1, h2⟩ := key _ _ h
    refine ⟨by simpa using h1, fun i u hi => ?_⟩
    obtain ⟨j, h3, h4⟩ := h2 i u hi
    have : j = i := by
      have hi' : i < n := by
        have := (List.getElem?_eq_some_iff.1 h3).1
        simpa using this
      rw [List.getElem?_range hi'] at h3
      simpa using h3.symm
    rw [this] at h4; exact h4
  · cases h

theorem cell_lt {a : Addr} {u : Value} (h : w.cell? a = some u) : a.block < w.heap.size ∧ a.spot = none := by
  unfold World.cell? at h
  split at h
  · rename_i c t f hb
    refine ⟨(Array.getElem?_eq_some_iff.1 hb).1, ?_⟩
    split at h
    · cases h
    · rename_i hs; simpa using hs
  · cases h

theorem repC_of {xs : List AV} {cs : List Value} {b off : Nat} (h : RepL (Sall w) μ0 w xs cs) (ho : ∀ u ∈ cs, u.oneCell' = true) (hc : ∀ i u, cs[i]? = some u → w.cell? ⟨b, off + i, none⟩ = some u) : RepC (Sall w) μ0 w xs b off :=
  RepC.mk fun i x hi => by
    obtain ⟨u, h1, h2⟩ := h.get hi
    exact ⟨(cell_lt (hc i u h1)).1, u, hc i u h1, ho u (List.mem_of_getElem? h1), h2⟩

theorem repC_append {b : Nat} {S μ} : ∀ {xs ys : List AV} {o : Nat}, RepC S μ w xs b o → RepC S μ w ys b (o + xs.length) → RepC S μ w (xs ++ ys) b o
  | [], ys, o, _, h => by simpa using h
  | x :: xs, ys, o, h, h' => by
    simp only [RepC, List.cons_append] at h ⊢
    refine ⟨h.1, repC_append h.2 ?_⟩
    simpa [Nat.add_assoc, Nat.add_comm 1] using h'

theorem got_elems {n : Nat} {e : TypeId} {ce : Nat} {b off : Nat} {r : List Value → Option (DataW H × List MemPlace)} (hr : ∀ cs x, r cs = some x → cs.length = ce → Got P w n e cs x.1) :
    ∀ (xs : List (DataW H × List MemPlace)) (k : Nat), (∀ i, i < xs.length → (w.cells? base (⟨b, off + (k + i) * ce, none⟩ : Addr) ce).bind r = xs[i]?) →
      ∃ ys, avsL (avs P n e) (xs.map (·.1)) = some ys ∧ RepC (Sall w) μ0 w ys b (off + k * ce) ∧ idfL ys = true ∧ ys.length = xs.length * ce
  | [], k, _ => ⟨[], rfl, by simp [RepC], rfl, by simp⟩
  | y :: zs, k, h => by
    have h1 := h 0 (by simp)
    simp only [List.getElem?_cons_zero, Option.bind_eq_some_iff, Nat.add_zero] at h1
    obtain ⟨cs, h3, h4⟩ := h1
    obtain ⟨c1, c2⟩ := cells_get h3
    obtain ⟨a, a1, a2, a3, a4⟩ := hr cs y h4 c1
    obtain ⟨ys, b1, b2, b3, b4⟩ := got_elems hr zs (k + 1) (fun i hi => by
      have := h (i + 1) (by simpa using hi)
      rw [show k + 1 + i = k + (i + 1) by omega]
      simpa using this)
    have ha : a.length = ce := by rw [← a2.length]; exact c1
    refine ⟨a ++ ys, by simp only [List.map_cons, avsL, a1, b1], ?_, by rw [idfL_append, a3, b3]; rfl, by simp [ha, b4, Nat.add_mul]; omega⟩
    have hC : RepC (Sall w) μ0 w a b (off + k * ce) := repC_of a2 a4 (fun i u hi => by
      have := c2 i u hi
      rwa [addr_add] at this)
    refine repC_append hC ?_
    rw [ha, show off + k * ce + ce = off + (k + 1) * ce by rw [Nat.add_mul]; omega]
    exact b2

theorem got_list {n : Nat} {e : TypeId} {ce : Nat} {r : List Value → Option (DataW H × List MemPlace)} (hr : ∀ cs x, r cs = some x → cs.length = ce → Got P w n e cs x.1) :
    ∀ (xs : List (DataW H × List MemPlace)) (k : Nat) (cs : List Value), cs.length = (k + xs.length) * ce → (∀ i, i < xs.length → r ((cs.drop ((k + i) * ce)).take ce) = xs[i]?) →
      ∃ ys, avsL (avs P n e) (xs.map (·.1)) = some ys ∧ RepL (Sall w) μ0 w ys (cs.drop (k * ce)) ∧ idfL ys = true ∧ ∀ u ∈ cs.drop (k * ce), u.oneCell' = true
  | [], k, cs, hc, _ => by
    simp at hc
    refine ⟨[], rfl, ?_, rfl, ?_⟩
    · rw [List.drop_eq_nil_of_le (by omega)]; simp [RepL]
    · rw [List.drop_eq_nil_of_le (by omega)]; simp
  | y :: zs, k, cs, hc, h => by
    have h1 := h 0 (by simp)
    simp only [List.getElem?_cons_zero, Nat.add_zero] at h1
    have hlen : (k + (zs.length + 1)) * ce = k * ce + ce + zs.length * ce := by rw [Nat.add_mul, Nat.add_mul]; omega
    simp only [List.length_cons] at hc
    obtain ⟨a, a1, a2, a3, a4⟩ := hr _ y h1 (by simp; omega)
    obtain ⟨ys, b1, b2, b3, b4⟩ := got_list hr zs (k + 1) cs (by rw [hc]; congr 1; omega) (fun i hi => by
      have := h (i + 1) (by simpa using hi)
      rw [show k + 1 + i = k + (i + 1) by omega]
      simpa using this)
    have hd : cs.drop (k * ce) = (cs.drop (k * ce)).take ce ++ cs.drop ((k + 1) * ce) := by
      rw [Nat.add_mul, Nat.one_mul, ← List.drop_drop, List.take_append_drop]
    refine ⟨a ++ ys, by simp only [List.map_cons, avsL, a1, b1], ?_, by rw [idfL_append, a3, b3]; rfl, fun u hu => ?_⟩
    · rw [hd]; exact a2.append b2
    · rw [hd] at hu
      rcases List.mem_append.1 hu with h | h
      · exact a4 u h
      · exact b4 u h

theorem trod_got : ∀ (n : Nat) (t : TypeId) (fuel : Nat) (cs : List Value) (x : DataW H × List MemPlace), plainT P n t = true → DataW.trod enc P w base spare held fuel t cs = some x → Got P w n t cs x.1
  | 0, t, _, _, _, hp, _ => by simp [plainT] at hp
  | n + 1, t, fuel, cs, x, hp, h => by
    have ih := fun (fuel : Nat) (t : TypeId) (cs : List Value) (x : DataW H × List MemPlace) hp h => trod_got n t fuel cs x hp h
    unfold plainT at hp
    have one : ∀ (u : Value) (y : AV), cs = [u] → Rep (Sall w) μ0 w y u → idf y = true → u.oneCell' = true → avs P (n + 1) t x.1 = some [y] → Got P w (n + 1) t cs x.1 := by
      intro u y hc hr hi ho ha
      subst hc
      exact ⟨[y], ha, by simp only [RepL]; exact ⟨u, [], rfl, hr, rfl⟩, by simp [idfL, hi], by simpa using ho⟩
    cases hu : P.underlying t with
    | none => rw [hu] at hp; cases hp
    | some dd =>
      rw [hu] at hp
      cases dd with
      | bool =>
        obtain ⟨b, rfl, rfl⟩ := DataW.trod_bool hu h
        exact one _ (.v (.bool b)) rfl (by simp [Rep]) rfl rfl (by simp [avs, hu])
      | int k =>
        obtain ⟨b, rfl, rfl, hwf⟩ := DataW.trod_int hu h
        exact one _ (.v (.int k b)) rfl (by simp [Rep]) rfl rfl (by simp [avs, hu, hwf])
      | string =>
        obtain ⟨s, rfl, rfl, _⟩ := DataW.trod_string hu h
        exact one _ (.v (.string s)) rfl (by simp [Rep]) rfl rfl (by simp [avs, hu])
      | slice e =>
        simp only [Bool.and_eq_true, decide_eq_true_eq] at hp
        obtain ⟨⟨hpos, hsz⟩, hp⟩ := hp
        rcases DataW.trod_slice hu h with ⟨rfl, rfl⟩ | ⟨a, len, cap, elems, rest, m, rfl, rfl, rfl, hb, hl, hm, hlen, hel, _, _⟩
        · exact one _ (.seq 0 (tsz P e) []) rfl (by simp only [Rep]; exact ⟨none, 0, rfl, Nat.le_refl _, by simp, .inl trivial⟩) rfl rfl (by simp [avs, hu])
        · by_cases h0 : len = 0
          · have he : elems = [] := List.eq_nil_of_length_eq_zero (by omega)
            subst he
            refine one _ (.seq 0 (tsz P e) []) rfl ?_ rfl rfl (by simp [avs, hu, avsL])
            simp only [Rep]
            exact ⟨some a, cap, by rw [h0], Nat.zero_le _, by simp, .inl trivial⟩
          · have hsp : a = ⟨a.block, a.off, none⟩ := by
              have := hel 0 (by omega)
              rw [List.getElem?_eq_getElem (by omega)] at this
              simp only [Option.bind_eq_some_iff] at this
              obtain ⟨cs, h1, _⟩ := this
              obtain ⟨c1, c2⟩ := cells_get h1
              have h2 := c2 0 cs[0] (by simp)
              have h3 := (cell_lt h2).2
              obtain ⟨b, o, s⟩ := a
              simp only [Nat.zero_mul] at h3
              have : s = none := by simpa [Addr.add] using h3
              rw [this]
            obtain ⟨ys, y1, y2, y3, y4⟩ := got_elems (b := a.block) (off := a.off) (ce := P.cellsOf e) (base := base) (w := w) (n := n) (e := e) (r := DataW.trod enc P w base spare held m e) (fun cs x h _ => ih m e cs x hp h) elems 0 (fun i hi => by
              have := hel i (by omega)
              rw [hsp, addr_add] at this
              simpa using this)
            refine one _ (.seq len (tsz P e) ys) rfl ?_ y3 rfl ?_
            · simp only [Rep]
              refine ⟨some a, cap, rfl, hl, by rw [y4, hlen, hsz], .inr ⟨a.block, a.off, by rw [← hsp], by simpa using y2⟩⟩
            · simp only [avs, hu, y1, Option.map_some, List.length_map, hlen]
      | struct fs =>
        simp only [Bool.and_eq_true, decide_eq_true_eq] at hp
        obtain ⟨xs, m, rfl, rfl, hl, hxl, hf⟩ := DataW.trod_struct hu h
        obtain ⟨ys, y1, y2, y3, y4⟩ := got_fields (n := n) (w := w) (P := P) (r := fun t cs => DataW.trod enc P w base spare held m t cs) (fun t cs x hp h _ => ih m t cs x hp h) fs.toList 0 (P.cellsOf t) cs xs hp.1 hl hp.2 (Nat.zero_le _) (by simpa using hxl) (fun i f hi => hf i f (by simpa using hi))
        exact ⟨ys, by simp only [avs, hu, y1], by simpa using y2, y3, by simpa using y4⟩
      | array k e =>
        simp only [Bool.and_eq_true, decide_eq_true_eq] at hp
        obtain ⟨xs, m, rfl, rfl, hl, hxl, hf⟩ := DataW.trod_array hu h
        obtain ⟨ys, y1, y2, y3, y4⟩ := got_list (n := n) (e := e) (w := w) (P := P) (ce := P.cellsOf e) (r := DataW.trod enc P w base spare held m e) (fun cs x h _ => ih m e cs x hp.2 h) xs 0 cs (by rw [hl, Nat.zero_add, hxl]; exact hp.1.symm) (fun i hi => by
          have := hf i (by omega)
          simpa using this)
        exact ⟨ys, by simp only [avs, hu, y1, List.length_map, hxl, if_true], by simpa using y2, y3, by simpa using y4⟩
      | _ => simp at hp

/-- An argument, as an abstract value. -/
def avOf (P : Program) (t : TypeId) (xs : List AV) : Option AV := match tagg P t with
  | some true => some (.agg xs)
  | some false => xs.head?
  | none => none

theorem arg_got {n : Nat} {t : TypeId} {v : Value} {d : DataW H} {ps : List MemPlace} {k : Nat} (hp : plainT P n t = true) (hv : Value.okWide P w .any k t v) (h : DataW.Trod enc P w base spare held t v d ps) :
    ∃ xs x, avs P n t d = some xs ∧ avOf P t xs = some x ∧ Rep (Sall w) μ0 w x v ∧ idf x = true := by
  obtain ⟨fuel, h⟩ := h
  obtain ⟨xs, h1, h2, h3, h4⟩ := trod_got n t fuel _ _ hp h
  cases n with
  | zero => simp [plainT] at hp
  | succ n =>
  unfold plainT at hp
  have agg : (∃ cs, v = .agg cs) → tagg P t = some true → ∃ xs x, avs P (n + 1) t d = some xs ∧ avOf P t xs = some x ∧ Rep (Sall w) μ0 w x v ∧ idf x = true := by
    rintro ⟨cs, rfl⟩ hg
    refine ⟨xs, .agg xs, h1, by simp [avOf, hg], ?_, h3⟩
    simp only [Rep]
    exact ⟨cs.toList, by simp, by simpa [Value.cells] using h2, by simpa [Value.cells] using h4⟩
  have one : v.cells.toList = [v] → tagg P t = some false → ∃ xs x, avs P (n + 1) t d = some xs ∧ avOf P t xs = some x ∧ Rep (Sall w) μ0 w x v ∧ idf x = true := by
    intro hc hg
    rw [hc] at h2
    cases xs with
    | nil => simp [RepL] at h2
    | cons x xs =>
      simp only [RepL, List.cons.injEq] at h2
      obtain ⟨y, zs, ⟨rfl, rfl⟩, h5, h6⟩ := h2
      simp only [idfL, Bool.and_eq_true] at h3
      exact ⟨x :: xs, x, h1, by simp [avOf, hg], h5, h3.1⟩
  cases hu : P.underlying t with
  | none => rw [hu] at hp; cases hp
  | some dd =>
    rw [hu] at hp
    unfold Value.okWide at hv
    rw [hu] at hv
    cases dd with
    | struct fs => simp only at hv; obtain ⟨cs, rfl, _⟩ := hv; exact agg ⟨cs, rfl⟩ (by simp [tagg, hu])
    | array k e => simp only at hv; obtain ⟨cs, rfl, _⟩ := hv; exact agg ⟨cs, rfl⟩ (by simp [tagg, hu])
    | bool =>
      refine one ?_ (by simp [tagg, hu])
      simp only [Cell.okWide, hu] at hv
      cases v <;> first | rfl | simp [Cell.ok, hu] at hv
    | int k =>
      refine one ?_ (by simp [tagg, hu])
      simp only [Cell.okWide, hu] at hv
      cases v <;> first | rfl | simp [Cell.ok, hu] at hv
    | string =>
      refine one ?_ (by simp [tagg, hu])
      simp only [Cell.okWide, hu] at hv
      cases v <;> first | rfl | simp [Cell.ok, hu] at hv
    | slice e =>
      refine one ?_ (by simp [tagg, hu])
      simp only [Cell.okWide, hu] at hv
      cases v <;> first | rfl | simp [Cell.ok, hu] at hv
    | _ => simp at hp


theorem GOK.nil {S : Nat → Nat → Prop} {w : World} : GOK [] S w := fun g vs h => by simp [lk] at h

open Go.RowKit in
/-- What a law's contract says of its call. -/
theorem PCall.law {f : FuncId} {xs : List AV} {args : Array Value} (hp : PCall P [] f xs (.v (.bool true))) (h : RepL (Sall w) μ0 w xs args.toList) :
    Calls P f args w fun e w' => e = .returned (.bool true) ∧ Below w.heap.size w w' := by
  refine (hp.2.2.2 (Sall w) w args.toList (fun b off h => h) GOK.nil h).mono fun e w' he => ?_
  obtain ⟨v, S', rfl, hE, hv⟩ := he
  simp only [Rep] at hv
  subst hv
  exact ⟨rfl, hE.os, hE.tape, hE.output, hE.size, hE.heap⟩

section
open Go.RowKit Go.WideShapes Go.ChangeShapes
/-- A law's last step. -/
theorem law_post {f : Func} {s : ChangeSpec} {apart fresh handsOn again : Bool} {W W' : World} {args : Array Value} {ds gs : List (DataW H)} {before : List MemPlace} {tb : TypeId}
    (hl : laidOutB P = true) (hts : f.params.toList.all (fun t => P.readableRec t && decide (t < P.types.size)) = true) (hrt : f.resultTypes = #[tb]) (htb : P.underlying tb = some .bool)
    (hW : DataW.Whole enc P f.params.toList s.vars apart W args.toList ds gs before) (hvars : s.vars = [])
    (hspec : (s.fn H (ds ++ gs)) = { results := [.lit (.bool true)], args := ds }) (hb : Below W.heap.size W W') :
    s.post enc P f apart fresh handsOn again W args (.bool true) W' := by
  have hW0 := hW
  obtain ⟨p, q, hA, hV, rfl, hz, hn⟩ := hW
  have hV0 := hV
  rw [hvars] at hV
  obtain ⟨rfl, rfl⟩ := trodVars_none hV
  have hlt : ∀ x ∈ p ++ [], x.block < W.heap.size := fun x hx => hW0.lt x hx
  have hold : ∀ x ∈ p ++ [], (fun b => decide (b < W.heap.size)) x.block = true := fun x hx => by simpa using hlt x hx
  have hres : ∀ (b : Nat) (sp : Nat → Bool) (hd : Bool), DataW.TrodAll enc P W' b sp hd f.resultTypes.toList ((Value.bool true).resultList f.resultTypes.size) (s.fn H (ds ++ [])).results [] := by
    intro b sp hd
    rw [hspec, hrt]
    exact trodAll_cons_mk (shut_bool htb _) trodAll_mk0
  have hargs : ∀ sp : Nat → Bool, (∀ x ∈ p ++ [], sp x.block = true) → DataW.TrodAll enc P W' 0 sp true f.params.toList args.toList (s.fn H (ds ++ [])).args p := by
    intro sp hsp
    rw [hspec]
    have key : ∀ (ts : List TypeId) (vs : List Value) (ds : List (DataW H)) (ps : List MemPlace), (ts.all fun t => P.readableRec t && decide (t < P.types.size)) = true → (∀ x ∈ ps, x.block < W.heap.size ∧ sp x.block = true) → DataW.TrodAll enc P W 0 (fun _ => true) true ts vs ds ps → DataW.TrodAll enc P W' 0 sp true ts vs ds ps := by
      intro ts
      induction ts with
      | nil => intro vs ds ps _ _ h; cases vs <;> cases ds <;> exact h
      | cons t ts ih =>
        intro vs ds ps ht hx h
        obtain ⟨v, vs', d, ds', p', q', rfl, rfl, rfl, h1, h2⟩ := trodAll_cons h
        simp only [List.all_cons, Bool.and_eq_true, decide_eq_true_eq] at ht
        exact ⟨p', q', WideElems.Trod_stays hl ht.1.1 ht.1.2 h1 (fun x hx' => hb.same (hx x (List.mem_append_left _ hx')).1) (fun x hx' => (hx x (List.mem_append_left _ hx')).2), ih _ _ _ ht.2 (fun x hx' => hx x (List.mem_append_right _ hx')) h2, rfl⟩
    exact key _ _ _ _ hts (fun x hx => ⟨hlt x (by simpa using hx), hsp x (by simpa using hx)⟩) hA
  have hvs : ∀ sp : Nat → Bool, DataW.TrodVars enc P W' sp s.vars (s.fn H (ds ++ [])).vars [] := by
    intro sp
    rw [hspec, hvars]
    rfl
  have hok : ∀ (j : Nat) (t : TypeId) (r : Value), f.resultTypes[j]? = some t → ((Value.bool true).resultList f.resultTypes.size)[j]? = some r → Value.okWide P W' .any 0 t r := ok_one hrt rfl (okWide_bool_mk htb _)
  refine ⟨ds, [], p ++ [], [], p, [], hW0, hres _ _ _, hargs _ hold, hvs _, World.keptBut_mono (fun x hx => ⟨hx, ?_⟩) (hb.frame (· ∈ p ++ [])), fun _ => ?_⟩
  · exact Or.inr (Or.inl (by simpa using hx))
  · refine ⟨hok, _, _, ([] ++ p) ++ [], ⟨[] ++ p, [], trodAll_append (hargs _ (fun _ _ => rfl)) (hres _ _ _), hvs _, rfl, ?_, ?_⟩, ?_⟩
    · intro b off hx
      have hin : MemPlace.cell b off ∈ p ++ [] := by simpa using hx
      rw [hb.frozen (hlt _ hin)]
      exact hz b off hin
    · intro ha
      simpa using hn ha
    · intro x hx _
      simpa using hx
end
end Go.AW
/- Data, typed. -/
namespace Go.AW
variable {P : Program} {H : Type}

mutual
def bulk {H : Type} : DataW H → Nat
  | .lit (.string bytes) => bytes.length + 1
  | .lit _ => 1
  | .nil => 1
  | .ptr d => bulk d + 1
  | .slice elems spare => bulkAll elems + bulkAll spare + 1
  | .agg parts => bulkAll parts + 1
  | .iface _ d => bulk d + 1
  | .map entries => bulkEntries entries + 1
  | .held _ => 1
def bulkAll {H : Type} : List (DataW H) → Nat
  | [] => 0
  | d :: r => bulk d + bulkAll r
def bulkEntries {H : Type} : List (Lit × DataW H) → Nat
  | [] => 0
  | x :: r => bulkEntry x + bulkEntries r
def bulkEntry {H : Type} : Lit × DataW H → Nat
  | (.string bytes, d) => bytes.length + bulk d + 1
  | (_, d) => bulk d + 1
end

/-- What a datum of a type is read as. -/
def Rd (P : Program) (t : TypeId) {α : Type} (c : α → List AV) (sz : α → Nat) (ok : α → Prop) : Prop :=
  ∀ (H : Type) (n : Nat) (d : DataW H) (xs : List AV), avs P n t d = some xs → ∃ a, xs = c a ∧ sz a ≤ bulk d ∧ ok a

def icell (k : IntKind) (n : Int) : List AV := [.v (.int k n)]
def bcell (b : Bool) : List AV := [.v (.bool b)]
def iok (k : IntKind) (n : Int) : Prop := (Lit.int k n).wf = true

theorem Rd.int {t : TypeId} {k : IntKind} (h : tint P t = some k) : Rd P t (icell k) (fun _ => 1) (iok k) := by
  intro H n d xs hx
  cases n with
  | zero => simp [avs] at hx
  | succ n =>
    unfold avs at hx
    rw [tint_under h] at hx
    split at hx <;> simp_all
    obtain ⟨hw, rfl⟩ := hx
    exact ⟨_, rfl, by simp [bulk], hw⟩
theorem under_bool {t : TypeId} (h : tkt P t = some .boolK) : P.underlying t = some .bool := by
  unfold tkt at h
  simp only [Option.bind_eq_some_iff] at h
  obtain ⟨d, h1, h2⟩ := h
  cases d <;> simp at h2
  · exact h1
  · split at h2
    · split at h2 <;> simp at h2
    · cases h2
theorem Rd.bool {t : TypeId} (h : tkt P t = some .boolK) : Rd P t bcell (fun _ => 1) (fun _ => True) := by
  intro H n d xs hx
  cases n with
  | zero => simp [avs] at hx
  | succ n =>
    unfold avs at hx
    rw [under_bool h] at hx
    split at hx <;> first | (rename_i e _; cases e; done) | skip
    case h_1 b _ =>
      simp only [Option.some.injEq] at hx
      exact ⟨b, hx.symm, by simp [bulk], trivial⟩
    all_goals simp_all
theorem Rd.str {t : TypeId} (h : tstr P t = true) : Rd P t scell (fun s => s.size + 1) (fun _ => True) := by
  intro H n d xs hx
  cases n with
  | zero => simp [avs] at hx
  | succ n =>
    unfold avs at hx
    rw [under_tstr h] at hx
    split at hx <;> simp_all
    rename_i bs
    refine ⟨⟨bs.toArray⟩, hx.symm, ?_⟩
    simp [bulk, ByteArray.size]
theorem avsL_rd {α : Type} {c : α → List AV} {sz : α → Nat} {ok : α → Prop} {e : TypeId} {n : Nat} (r : Rd P e c sz ok) : ∀ (ds : List (DataW H)) (xs : List AV), avsL (avs P n e) ds = some xs → ∃ l : List α, xs = flat c l ∧ l.length = ds.length ∧ (l.map sz).sum ≤ bulkAll ds ∧ ∀ a ∈ l, ok a
  | [], xs, h => by simp only [avsL, Option.some.injEq] at h; subst h; exact ⟨[], rfl, rfl, by simp [bulkAll], by simp⟩
  | d :: ds, xs, h => by
    simp only [avsL] at h
    split at h
    · rename_i a b h1 h2
      simp only [Option.some.injEq] at h
      subst h
      obtain ⟨x, rfl, h4, h5⟩ := r H n d a h1
      obtain ⟨l, rfl, h7, h8, h9⟩ := avsL_rd r ds b h2
      refine ⟨x :: l, by simp [flat], by simp [h7], ?_, by simpa using ⟨h5, h9⟩⟩
      simp only [List.map_cons, List.sum_cons, bulkAll]; omega
    · cases h
theorem Rd.slice {α : Type} {c : α → List AV} {sz : α → Nat} {ok : α → Prop} {t e : TypeId} {z : Nat} (h : telem P t = some e) (hz : tsz P e = z) (r : Rd P e c sz ok) :
    Rd P t (fun l : List α => [.seq l.length z (flat c l)]) (fun l => (l.map sz).sum + 1) (fun l => ∀ a ∈ l, ok a) := by
  intro H n d xs hx
  subst hz
  cases n with
  | zero => simp [avs] at hx
  | succ n =>
    unfold avs at hx
    rw [under_telem h] at hx
    split at hx <;> simp_all
    · exact ⟨[], by rw [← hx]; simp [flat], by simp [bulk], by simp⟩
    · rename_i es sp
      obtain ⟨l, hl, rfl⟩ := hx
      obtain ⟨l', rfl, h7, h8, h9⟩ := avsL_rd r _ _ hl
      refine ⟨l', by simp [h7], ?_, h9⟩
      simp only [bulk]; omega
theorem flds_types {t : TypeId} {fs : List (Nat × TypeId)} (h : tflds P t = some fs) : ∃ gs : Array Field, P.underlying t = some (.struct gs) ∧ gs.toList.map (·.type) = fs.map (·.2) := by
  obtain ⟨gs, h1, h2⟩ := under_tflds h
  exact ⟨gs, h1, by rw [h2]; simp⟩
theorem rd_struct {t : TypeId} {fs : List (Nat × TypeId)} {n : Nat} {d : DataW H} {xs : List AV} (h : tflds P t = some fs) (hx : avs P n t d = some xs) : ∃ m ps, d = .agg ps ∧ avsF (avs P m) (fs.map (·.2)) ps = some xs ∧ bulkAll ps + 1 = bulk d := by
  obtain ⟨gs, h1, h2⟩ := flds_types h
  cases n with
  | zero => simp [avs] at hx
  | succ n =>
    unfold avs at hx
    rw [h1] at hx
    cases d <;> simp only [reduceCtorEq] at hx
    rename_i ps
    exact ⟨n, ps, rfl, by rw [← h2]; exact hx, by simp [bulk]⟩
theorem rd_field {α : Type} {c : α → List AV} {sz : α → Nat} {ok : α → Prop} {t : TypeId} {ts : List TypeId} {n : Nat} {ds : List (DataW H)} {xs : List AV} (r : Rd P t c sz ok) (h : avsF (avs P n) (t :: ts) ds = some xs) :
    ∃ (ds' : List (DataW H)) (a : α) (ys : List AV) (k : Nat), xs = c a ++ ys ∧ avsF (avs P n) ts ds' = some ys ∧ bulkAll ds = k + bulkAll ds' ∧ sz a ≤ k ∧ ok a := by
  cases ds with
  | nil => simp [avsF] at h
  | cons d ds =>
    simp only [avsF] at h
    split at h
    · rename_i a b h1 h2
      simp only [Option.some.injEq] at h
      subst h
      obtain ⟨x, rfl, h4, h5⟩ := r H n d a h1
      exact ⟨ds, x, b, bulk d, rfl, h2, by simp [bulkAll], h4, h5⟩
    · cases h
theorem rd_end {n : Nat} {ds : List (DataW H)} {xs : List AV} (h : avsF (avs P n) [] ds = some xs) : xs = [] := by
  cases ds with
  | nil => simp only [avsF, Option.some.injEq] at h; exact h.symm
  | cons d ds => simp [avsF] at h
def hok (h : Hs) : Prop := ∀ n ∈ h.1, 0 ≤ n ∧ n ≤ 255
theorem flat_icell (k : IntKind) : ∀ l : List Int, flat (icell k) l = l.map fun n => .v (.int k n)
  | [] => rfl
  | x :: l => by have := flat_icell k l; simp only [flat, List.flatMap_cons, icell, List.map_cons] at *; rw [this]; rfl
theorem Rd.hash {t e : TypeId} (h : tarr P t = some (32, e)) (he : tint P e = some .u8) : Rd P t hcell (fun _ => 1) hok := by
  intro H n d xs hx
  cases n with
  | zero => simp [avs] at hx
  | succ n =>
    unfold avs at hx
    rw [under_tarr h] at hx
    cases d <;> simp only [reduceCtorEq] at hx
    rename_i ps
    split at hx
    · rename_i hl
      obtain ⟨l, rfl, h7, h8, h9⟩ := avsL_rd (Rd.int he) _ _ hx
      refine ⟨⟨l, by omega⟩, by rw [flat_icell]; rfl, by simp [bulk], fun m hm => ?_⟩
      have := h9 m hm
      simpa [iok, Lit.wf, IntKind.min, IntKind.max, IntKind.signed, IntKind.bits] using this
    · cases hx
end Go.AW
