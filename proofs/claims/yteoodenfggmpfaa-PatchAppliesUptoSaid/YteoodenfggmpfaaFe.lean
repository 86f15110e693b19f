/- The evaluator, part 5: Loop heads: objects whose cells look at objects. Contracts whose result may be nil where an empty one is asked for. Values told by their blocks; contracts whose result has an object of its own. A code in two parts: the one behind the other. -/
import Derived.Test.YteoodenfggmpfaaFd
set_option linter.unusedSimpArgs false
set_option linter.unusedVariables false
namespace Go.AW

def FzC (keep : List (Nat × Nat)) (f : Nat → Option AObj) : List AV → List AV → Prop
  | [], [] => True
  | x :: xs, y :: ys => FzV keep f (some x) y ∧ FzC keep f xs ys
  | _, _ => False
def FzBC (keep : List (Nat × Nat)) (f : Nat → Option AObj) : Option AObj → AObj → Prop
  | some (.cells E xs ap), .cells E' ys ap' => E = E' ∧ ap = ap' ∧ FzC keep f xs ys
  | some (.map kt ks xs), .map kt' ks' ys => kt = kt' ∧ ks = ks' ∧ FzC keep f xs ys
  | _, _ => False
def FzO1D (keep : List (Nat × Nat)) (dl : List Nat) (f : Nat → Option AObj) (objs : List (Nat × AObj)) (o : Nat) (x : AObj) : Prop := match lk keep o with
  | some q => bif dl.contains o then FzBC keep f (lk objs q) x else FzB f (lk objs q) x
  | none => nilO x = true
def FzOD (keep : List (Nat × Nat)) (dl : List Nat) (f : Nat → Option AObj) (objs : List (Nat × AObj)) : List (Nat × AObj) → Prop
  | [] => True
  | (o, x) :: e => FzO1D keep dl f objs o x ∧ FzOD keep dl f objs e
theorem FzOD.get {keep : List (Nat × Nat)} {dl : List Nat} {f : Nat → Option AObj} {objs : List (Nat × AObj)} : ∀ {e : List (Nat × AObj)}, FzOD keep dl f objs e → ∀ {t x}, lk e t = some x → FzO1D keep dl f objs t x
  | [], _, t, x, h => by simp [lk] at h
  | (t', x') :: e, hE, t, x, h => by
    simp only [lk] at h
    split at h
    · rename_i e; subst e; simp only [Option.some.injEq] at h; subst h; exact hE.1
    · exact hE.2.get h

/-- WHAT IS NOT KEPT BECOMES A VALUE; in the objects 'dl' the cells may look at what is kept. -/
theorem Ent.freezeD (keep : List (Nat × Nat)) (dl : List Nat) {env env' : List (Nat × AV)} {objs objs' : List (Nat × AObj)} {next base wid next' : Nat}
    (hE : FzE keep (lk (unkept keep objs)) env env') (hO : FzOD keep dl (lk (unkept keep objs)) objs objs') (hk : kInj keep = true) (hn : (keep.all fun p => decide (p.1 < next')) = true) (hn' : (objs'.all fun p => decide (p.1 < next')) = true) : Ent 0 ⟨env, ⟨objs, next, base, wid⟩⟩ ⟨env', ⟨objs', next', next', 0⟩⟩ := by
  intro S μ w a hr henv
  have hr2 : RM S μ w ⟨unkept keep objs, next, next, 0⟩ := ⟨fun o ob h => hr.obj o ob (lk_unkept h).1, fun o o' ob ob' h h' => hr.inj o o' ob ob' (lk_unkept h).1 (lk_unkept h').1, hr.old, hr.fr, fun o h1 h2 => by simp only at h1 h2; omega, Nat.le_refl _, hr.bk⟩
  let T : Nat → Nat → Prop := fun b off => S b off ∨ OwnedC ⟨unkept keep objs, next, next, 0⟩ μ b
  let ν : Nat → Option (Nat × Nat) := fun o => (lk keep o).bind μ
  have hsn := snap_repX (T := T) hr2 (fun b off h => .inl h) (fun b h off => .inr h) 12
  have hsl := snapL_rep (T := T) (fun b off h => .inl h) hsn
  have hown : ∀ b, OwnedC ⟨unkept keep objs, next, next, 0⟩ μ b → OwnedC ⟨objs, next, base, wid⟩ μ b := fun b ⟨o, ob, bo, h1, h2, h3⟩ => ⟨o, ob, bo, (lk_unkept h1).1, h2, h3⟩
  have hnot : ∀ {q b bo : Nat} {ob : AObj}, (keep.any fun p => p.2 == q) = true → lk objs q = some ob → ob.own = true → μ q = some (b, bo) → (∀ off, ¬ S b off) → ∀ off, ¬ T b off := by
    intro q b bo ob hq hf hob hμ hS off h
    rcases h with h | ⟨o, ob', bo', h1, h2, h3⟩
    · exact hS off h
    · have hl := lk_unkept h1
      have hne : o ≠ q := fun e => by rw [e, hq] at hl; cases hl.2
      exact hr.inj o q ob' ob hl.1 hf h2 hob hne b bo' bo h3 hμ
  have hmu : ∀ {o : Nat} {q : Nat × Nat}, (keep.find? fun q => q.2 == o) = some q → ν q.1 = μ o := fun h => by
    show (lk keep _).bind μ = _
    rw [find_lk hk h]; rfl
  have conv : ∀ (y x : AV) (v : Value), FzV keep (lk (unkept keep objs)) (some y) x → Rep S μ w y v → Rep T ν w x v := by
    intro y x v hV hy
    simp only [FzV] at hV
    rcases hV with hV | hV
    · unfold nilA at hV
      split at hV
      · split at hV
        · simp only [Rep] at hy ⊢
          exact ⟨none, 0, hy, Nat.le_refl _, .inl rfl⟩
        · cases hV
      · cases hV
    split at hV
    · rename_i z hz
      subst hV
      cases y <;> simp only [keptA, Option.map_eq_some_iff, reduceCtorEq] at hz
      · obtain ⟨q, h1, rfl⟩ := hz
        simp only [Rep] at hy ⊢
        rw [hmu h1]; exact hy
      · obtain ⟨q, h1, rfl⟩ := hz
        simp only [Rep] at hy ⊢
        rw [hmu h1]; exact hy
      · obtain ⟨q, h1, rfl⟩ := hz
        simp only [Rep] at hy ⊢
        rw [hmu h1]; exact hy
    · obtain ⟨ids, hs⟩ := hV
      obtain ⟨k1, k2⟩ := hsn _ _ _ _ hs hy
      exact Rep.idf1 _ _ k1 k2
  have convC : ∀ (xs ys : List AV) (vs : List Value), FzC keep (lk (unkept keep objs)) xs ys → RepL S μ w xs vs → RepL T ν w ys vs := by
    intro xs
    induction xs with
    | nil => intro ys vs h hr; cases ys with
      | nil => simpa [RepL] using hr
      | cons y ys => exact h.elim
    | cons x xs ih => intro ys vs h hr; cases ys with
      | nil => exact h.elim
      | cons y ys =>
        simp only [RepL] at hr ⊢
        obtain ⟨v, us, e, h1, h2⟩ := hr
        exact ⟨v, us, e, conv _ _ _ h.1 h1, ih _ _ h.2 h2⟩
  have hob : ∀ o ob, lk objs' o = some ob → (∃ q x, lk keep o = some q ∧ lk objs q = some x ∧ x.own = ob.own ∧ RepO T ν w o ob) ∨ (ν o = none ∧ RepO T ν w o ob) := by
    intro o ob ho
    have hB := hO.get ho
    unfold FzO1D at hB
    split at hB
    · rename_i q hq
      left
      cases hdl : dl.contains o with
      | true =>
        rw [hdl] at hB
        simp only [cond_true] at hB
        have hν : ν o = μ q := by show (lk keep o).bind μ = μ q; rw [hq]; rfl
        cases hx : lk objs q with
        | none => rw [hx] at hB; simp [FzBC] at hB
        | some x =>
          rw [hx] at hB
          have hobj := (hr.obj q x hx).2
          refine ⟨q, x, hq, hx, ?_, ?_⟩
          · cases x <;> cases ob <;> simp [FzBC] at hB <;> rfl
          · cases x <;> cases ob <;> simp only [FzBC] at hB
            · obtain ⟨rfl, rfl, hs⟩ := hB
              simp only [RepO] at hobj ⊢
              rcases hobj with ⟨h1, h2⟩ | ⟨b, bo, ys, c, fz, e1, e2, e3, e4, e5, e6, e7, e8⟩
              · subst h2
                have k2 := convC _ _ _ hs (by simp [RepL] : RepL S μ w [] [])
                exact .inl ⟨hν.trans h1, by have := k2.length; simpa using this.symm⟩
              · exact .inr ⟨b, bo, ys, c, fz, hν.trans e1, e2, e3, convC _ _ _ hs e4, e5, e6, e7, hnot (keep_any hq) hx rfl e1 e8⟩
            · obtain ⟨rfl, rfl, hs⟩ := hB
              simp only [RepO] at hobj ⊢
              obtain ⟨b, bo, es, clock, e1, e2, e3, e4, e5, e6⟩ := hobj
              exact ⟨b, bo, es, clock, hν.trans e1, e2, e3, e4, convC _ _ _ hs e5, hnot (keep_any hq) hx rfl e1 e6⟩
      | false =>
      rw [hdl] at hB
      simp only [cond_false] at hB
      have hν : ν o = μ q := by show (lk keep o).bind μ = μ q; rw [hq]; rfl
      cases hx : lk objs q with
      | none => rw [hx] at hB; simp [FzB] at hB
      | some x =>
        rw [hx] at hB
        have hobj := (hr.obj q x hx).2
        refine ⟨q, x, hq, hx, ?_, ?_⟩
        · cases x <;> cases ob <;> simp [FzB] at hB <;> rfl
        · cases x <;> cases ob <;> simp only [FzB] at hB
          · obtain ⟨rfl, rfl, ids, hs⟩ := hB
            simp only [RepO] at hobj ⊢
            rcases hobj with ⟨h1, h2⟩ | ⟨b, bo, ys, c, fz, e1, e2, e3, e4, e5, e6, e7, e8⟩
            · subst h2
              obtain ⟨k1, k2⟩ := hsl _ _ _ [] hs (by simp [RepL])
              exact .inl ⟨hν.trans h1, by have := k2.length; simpa using this.symm⟩
            · obtain ⟨k1, k2⟩ := hsl _ _ _ _ hs e4
              exact .inr ⟨b, bo, ys, c, fz, hν.trans e1, e2, e3, RepL.idf1 _ _ k1 k2, e5, e6, e7, hnot (keep_any hq) hx rfl e1 e8⟩
          · obtain ⟨rfl, rfl, ids, hs⟩ := hB
            simp only [RepO] at hobj ⊢
            obtain ⟨b, bo, es, clock, e1, e2, e3, e4, e5, e6⟩ := hobj
            obtain ⟨k1, k2⟩ := hsl _ _ _ _ hs e5
            exact ⟨b, bo, es, clock, hν.trans e1, e2, e3, e4, RepL.idf1 _ _ k1 k2, hnot (keep_any hq) hx rfl e1 e6⟩
    · rename_i hq
      right
      have hν : ν o = none := by show (lk keep o).bind μ = none; rw [hq]; rfl
      refine ⟨hν, ?_⟩
      unfold nilO at hB
      split at hB
      · simp only [RepO]; exact .inl ⟨hν, trivial⟩
      · cases hB
  have hlt : ∀ {o q}, lk keep o = some q → o < next' := fun h => by
    rw [List.all_eq_true] at hn
    simpa using hn _ (lk_mem h)
  refine ⟨T, ν, ⟨fun o ob h => ?_, fun o o' ob ob' h h' ho ho' hne b i j hi hj => ?_, fun b off h => ?_, fun o ho => ?_, fun o h1 h2 => by simp only at h1 h2; omega, Nat.le_refl _, fun o b bo h => ?_⟩, fun t x ht => ?_, fun b off h => .inl h, fun b off h => ?_, fun o ho => by omega, fun o ho => by omega, Nat.zero_le _, rfl, fun b hb => ?_⟩
  · refine ⟨by rw [List.all_eq_true] at hn'; simpa using hn' _ (lk_mem h), ?_⟩
    rcases hob o ob h with ⟨q, x, h1, h2, h3, h4⟩ | ⟨_, h4⟩
    · exact h4
    · exact h4
  · rcases hob o ob h with ⟨q, x, h1, h2, h3, h4⟩ | ⟨h4, _⟩
    case inr => rw [h4] at hi; cases hi
    rcases hob o' ob' h' with ⟨q', x', g1, g2, g3, g4⟩ | ⟨g4, _⟩
    case inr => rw [g4] at hj; cases hj
    have e1 : ν o = μ q := by show (lk keep o).bind μ = μ q; rw [h1]; rfl
    have e2 : ν o' = μ q' := by show (lk keep o').bind μ = μ q'; rw [g1]; rfl
    refine hr.inj q q' x x' h2 g2 (h3.trans ho) (g3.trans ho') (fun e => hne (lk_inj hk h1 (e ▸ g1))) b i j (e1 ▸ hi) (e2 ▸ hj)
  · rcases h with h | ⟨o, ob, bo, _, _, h⟩
    · exact hr.old _ _ h
    · exact hr.bk _ _ _ h
  · show (lk keep o).bind μ = none
    cases hq : lk keep o with
    | none => rfl
    | some q => have := hlt hq; have ho' : next' ≤ o := ho; omega
  · change (lk keep o).bind μ = some (b, bo) at h
    cases hq : lk keep o with
    | none => rw [hq] at h; cases h
    | some q => rw [hq] at h; exact hr.bk _ _ _ h
  · have hV := hE.get ht
    cases hx : lk env t with
    | none => rw [hx] at hV; exact hV.elim
    | some y =>
      rw [hx] at hV
      exact conv _ _ _ hV (henv t y hx)
  · rcases h with h | h
    · exact .inl h
    · exact .inr (.inl (hown _ h))
  · rcases hb with ⟨o, ob, bo, h1, h2, h3⟩ | ⟨o, b0, code, h1, h2, h3⟩
    case inr =>
      have := hO.get h1
      unfold FzO1D at this
      split at this
      · rename_i q hq
        cases hx : lk objs q with
        | none => simp [hx, FzB, FzBC] at this
        | some x => rw [hx] at this; cases x <;> simp [FzB, FzBC] at this
      · simp [nilO] at this
    rcases hob o ob h1 with ⟨q, x, g1, g2, g3, g4⟩ | ⟨g4, _⟩
    case inr => rw [g4] at h3; cases h3
    exact .inl ⟨q, x, bo, g2, g3.trans h2, by change (lk keep o).bind μ = _ at h3; rw [g1] at h3; exact h3⟩


section
variable {keep : List (Nat × Nat)} {dl : List Nat} {f : Nat → Option AObj}
theorem FzOD_nil {objs : List (Nat × AObj)} : FzOD keep dl f objs [] = True := (rfl)
theorem FzOD_cons {objs e : List (Nat × AObj)} {o : Nat} {x : AObj} : FzOD keep dl f objs ((o, x) :: e) = (FzO1D keep dl f objs o x ∧ FzOD keep dl f objs e) := (rfl)
def FzO2D (keep : List (Nat × Nat)) (dl : List Nat) (f : Nat → Option AObj) (objs : List (Nat × AObj)) (o : Nat) (r : Option Nat) (x : AObj) : Prop := match r with
  | some q => bif dl.contains o then FzBC keep f (lk objs q) x else FzB f (lk objs q) x
  | none => nilO x = true
theorem FzO1D_eq {objs : List (Nat × AObj)} {o : Nat} {x : AObj} : FzO1D keep dl f objs o x = FzO2D keep dl f objs o (lk keep o) x := by
  unfold FzO1D FzO2D; cases lk keep o <;> rfl
theorem FzO2D_some {objs : List (Nat × AObj)} {o q : Nat} {x : AObj} : FzO2D keep dl f objs o (some q) x = bif dl.contains o then FzBC keep f (lk objs q) x else FzB f (lk objs q) x := (rfl)
theorem FzO2D_none {objs : List (Nat × AObj)} {o : Nat} {x : AObj} : FzO2D keep dl f objs o none x = (nilO x = true) := (rfl)
theorem FzBC_cells {E E' : TypeId} {xs ys : List AV} {ap ap' : Bool} : FzBC keep f (some (.cells E xs ap)) (.cells E' ys ap') = (E = E' ∧ ap = ap' ∧ FzC keep f xs ys) := (rfl)
theorem FzBC_map {k k' : KT} {ks ks' : List Value} {xs ys : List AV} : FzBC keep f (some (.map k ks xs)) (.map k' ks' ys) = (k = k' ∧ ks = ks' ∧ FzC keep f xs ys) := (rfl)
theorem FzC_nil : FzC keep f [] [] = True := (rfl)
theorem FzC_cons {x y : AV} {xs ys : List AV} : FzC keep f (x :: xs) (y :: ys) = (FzV keep f (some x) y ∧ FzC keep f xs ys) := (rfl)
attribute [push_cast] FzOD_nil FzOD_cons FzO1D_eq FzO2D_some FzO2D_none FzBC_cells FzBC_map FzC_nil FzC_cons
end

/-! Results that lie in memory; more than one. -/
def oneC (P : Program) (find : Nat → Option AObj) (t : TypeId) (p : Option AV) : Option AV := match p with
  | some p => if tok P t then loadF P find t p else none
  | none => none
theorem oneRes_cell {P : Program} {a : Nat} {t : TypeId} {env : List (Nat × AV)} {m : Mem} : oneRes P env m (.cell a t) = oneC P m.find t (lk env a) := by
  simp only [oneRes, oneC]; cases h : lk env a <;> rfl
theorem oneC_some {P : Program} {find : Nat → Option AObj} {t : TypeId} {p : AV} : oneC P find t (some p) = if tok P t then loadF P find t p else none := (rfl)
theorem resA_two {P : Program} {r s : ResultVar} {env : List (Nat × AV)} {m : Mem} : resA P [r, s] env m = (manyRes P env m [r, s]).map .tup := (rfl)
def mRes (x : Option AV) (xs : Option (List AV)) : Option (List AV) := match x, xs with
  | some x, some xs => some (x :: xs)
  | _, _ => none
theorem manyRes_nil {P : Program} {env : List (Nat × AV)} {m : Mem} : manyRes P env m [] = some [] := (rfl)
theorem manyRes_cons {P : Program} {r : ResultVar} {rs : List ResultVar} {env : List (Nat × AV)} {m : Mem} : manyRes P env m (r :: rs) = mRes (oneRes P env m r) (manyRes P env m rs) := by
  simp only [manyRes, mRes]; cases oneRes P env m r <;> cases manyRes P env m rs <;> rfl
theorem mRes_some {x : AV} {xs : List AV} : mRes (some x) (some xs) = some (x :: xs) := (rfl)
attribute [push_cast] oneRes_cell oneC_some resA_two manyRes_nil manyRes_cons mRes_some

theorem prun_bind {P : Program} {α β : Type} {f : α → Sem β} : ∀ (m : Sem α), prun P (m >>= f) = (prun P m).bind fun a => prun P (f a)
  | .pure a => rfl
  | .program k => by show prun P ((k P).bind f) = _; exact prun_bind (k P)
  | .mark _ k => by show prun P (k.bind f) = _; exact prun_bind k
  | .load _ _ _ => rfl
  | .store _ _ _ _ => rfl
  | .new _ _ => rfl
  | .shape _ _ => rfl
  | .freeze _ _ _ => rfl
  | .frozen _ _ => rfl
  | .getObj _ _ => rfl
  | .setObj _ _ _ => rfl
  | .choose _ _ => rfl
  | .sys _ _ => rfl
  | .halt _ => rfl
theorem prun_ite {P : Program} {α : Type} {c : Prop} [Decidable c] {x y : Sem α} : prun P (if c then x else y) = if c then prun P x else prun P y := by split <;> rfl
theorem bbeq (p q : ByteArray) : (p == q) = decide (p = q) := by
  obtain ⟨p⟩ := p
  obtain ⟨q⟩ := q
  have e : ((ByteArray.mk p) == (ByteArray.mk q)) = (p == q) := by rfl
  rw [e]
  by_cases h : p = q
  · simp [h]
  · simp [h]
theorem prun_map {P : Program} {α β : Type} {f : α → β} {m : Sem α} : prun P (f <$> m) = (prun P m).map f := by
  show prun P (m >>= fun a => pure (f a)) = _
  rw [prun_bind]
  cases prun P m <;> rfl
theorem setL_3 {a b c x y z : AV} : setL [a, b, c] 0 [x, y, z] = [x, y, z] := (rfl)
theorem setL_doc {a b c : AV} {d : DocV} : setL [a, b, c] 0 (docL d) = docL d := (rfl)
theorem setL_dd {d d' : DocV} : setL (docL d) 0 (docL d') = docL d' := (rfl)
theorem set_doc0 {d : DocV} {x : AV} : (docL d).set 0 x = [x, .seq d.counts.length 2 (flat ccell d.counts), .seq d.texts.length 2 (flat tcell d.texts)] := (rfl)
theorem set_doc1 {d : DocV} {x : AV} : (docL d).set 1 x = [.seq d.entries.length 2 (flat ecell d.entries), x, .seq d.texts.length 2 (flat tcell d.texts)] := (rfl)
theorem set_doc2 {d : DocV} {x : AV} : (docL d).set 2 x = [.seq d.entries.length 2 (flat ecell d.entries), .seq d.counts.length 2 (flat ccell d.counts), x] := (rfl)
attribute [push_cast] setL_3 setL_doc setL_dd set_doc0 set_doc1 set_doc2
end Go.AW
namespace Go.AW
variable {P : Program} {γ : GTab}
def endVW (P : Program) (rs : List ResultVar) (r : AV) (_ : Exit) (σ : St) : Prop := ∃ y, resA P rs σ.env σ.mem = some y ∧ ∃ ids y', snap σ.mem.find 12 (unf y) = some (y', ids) ∧ Wk y' r
theorem PCall.enterW {f : FuncId} {fn : Func} {c : Code} {xs : List AV} {r : AV} (hf : P.funcs[f]? = some fn) (hb : fn.body = some c) (hn : (fn.name == "runtime.NumGoroutine") = false) (hm : P.follows .mixedOrders = true) (hd : dOK c = true) (hx : idfL xs = true) (hr : idf r = true)
    (h : ev P γ 0 fn.ntmps [.code c, .fin (endVW P fn.results.toList r)] ⟨(xs.zipIdx.map fun p => (p.2, p.1)), ⟨[], 0, 0, 0⟩⟩) : PCall P γ f xs r := by
  refine ⟨hx, hr, ⟨fn, hf, hn, by rw [hb]; rfl⟩, fun S w vs hold hG hxs => ?_⟩
  refine calls_of_wp hf hb ?_
  have hRM : RM S μ0 w ⟨[], 0, 0, 0⟩ := ⟨fun o ob h => by simp [Mem.find, lk] at h, fun o o' ob ob' h => by simp [Mem.find, lk] at h, hold, fun _ _ => rfl, fun o _ h => by simp at h, Nat.le_refl _, fun o b bo h => by simp [μ0] at h⟩
  have hRX : RX γ fn.ntmps 0 ⟨[], 0, 0, 0⟩ S μ0 w ⟨(xs.zipIdx.map fun p => (p.2, p.1)), ⟨[], 0, 0, 0⟩⟩ { tmps := vs.toArray ++ Array.replicate (fn.ntmps - vs.toArray.size) undef, defers := [] } w :=
    ⟨S, μ0, ⟨hRM, args_env hxs, rfl⟩, hG, Ext.refl0, by simp; omega, Nat.zero_le _, Nat.zero_le _⟩
  have fin : ∀ (e : Exit) (σ : St) (a : Act) (w' : World), endVW P fn.results.toList r e σ → RX γ fn.ntmps 0 ⟨[], 0, 0, 0⟩ S μ0 w σ a w' → a.defers = [] ∧ ∃ v, (results fn a.tmps).run P w' = .ok v w' ∧ ∃ u S', Ending.returned v = .returned u ∧ Ext0 S w S' w' ∧ Rep S' μ0 w' r u := by
    intro e σ a w' hE hR
    obtain ⟨S', μ, hA, hG', hX, _, _, _⟩ := hR
    obtain ⟨y, h1, ids, y', h2, hwk⟩ := hE
    obtain ⟨v, h3, h4⟩ := res_run hA.rm hA.env h1
    refine ⟨hA.defers, v, h3, v, (fun b off => S b off ∨ (w.heap.size ≤ b ∧ b < w'.heap.size)), rfl, ⟨hX.os, hX.tape, hX.output, hX.size, fun b off h => .inl h, fun b off hb h => ?_, fun b off h => ?_, fun b hb => ?_, hX.uf⟩, ?_⟩
    · rcases h with h | h
      · exact h
      · omega
    · rcases h with h | h
      · have := hold _ _ h; have := hX.size; omega
      · exact h.2
    · exact (hX.blk b hb owned_nil).1
    · refine Wk.rep _ _ _ hwk (snap_repX hA.rm (fun b off hs => ?_) (fun b ho off => ?_) 12 (unf y) y' ids v h2 (unf_rep h4)).2
      · rcases Nat.lt_or_ge b w.heap.size with hlt | hge
        · rcases hX.new b off hlt hs with h | h
          · exact .inl h
          · exact absurd h owned_nil
        · exact .inr ⟨hge, hA.rm.old _ _ hs⟩
      · rcases Nat.lt_or_ge b w.heap.size with hlt | hge
        · exact absurd (Or.inl ho) (hX.blk b hlt owned_nil).2
        · obtain ⟨o, ob, bo, _, _, h⟩ := ho
          exact .inr ⟨hge, hA.rm.bk _ _ _ h⟩
  refine wp_mono (ev_sound hm _ c [.fin (endVW P fn.results.toList r)] _ _ w hd (Nat.le_refl _) h hRX) fun e a w' hp => ?_
  cases e with
  | normal =>
    obtain ⟨σ, h1, h2⟩ := hp
    rw [ev] at h1
    exact fin .normal σ a w' h1 h2
  | ret =>
    obtain ⟨σ, Q, h1, h2, h3⟩ := hp
    simp only [retK, Option.some.injEq] at h1
    subst h1
    exact fin .ret σ a w' h2 h3
  | exit id =>
    obtain ⟨σ, k', h1, _⟩ := hp
    simp [exitK] at h1
  | _ => exact hp.elim


theorem PCall.startW {f : FuncId} {fn : Func} {c : Code} {rs : List ResultVar} {nt : Nat} {xs : List AV} {r : AV} (hf : P.funcs[f]? = some fn) (hb : fn.body = some c) (hn : (fn.name == "runtime.NumGoroutine") = false) (hrs : fn.results = rs.toArray) (hnt : fn.ntmps = nt) (hm : P.follows .mixedOrders = true) (hd : dOK c = true) (hx : idfL xs = true) (hr : idf r = true)
    (h : ev P γ 0 nt [.code c, .fin (endVW P rs r)] ⟨(xs.zipIdx.map fun p => (p.2, p.1)), ⟨[], 0, 0, 0⟩⟩) : PCall P γ f xs r := by
  refine PCall.enterW hf hb hn hm hd hx hr ?_
  rw [hrs, hnt]
  simpa using h
def endSW (m : Mem) (y : Option AV) (r : AV) : Prop := ∃ y1, y = some y1 ∧ ∃ ids y', snap m.find 12 (unf y1) = some (y', ids) ∧ Wk y' r
theorem endVW_eq {rs : List ResultVar} {r : AV} {e : Exit} {env : List (Nat × AV)} {m : Mem} : endVW P rs r e ⟨env, m⟩ = endSW m (resA P rs env m) r := (rfl)
theorem endSW_fz {m : Mem} {y r : AV} : endSW m (some y) r = WkO (fzS (snap m.find 12 (unf y))) r := by
  simp only [endSW, fzS, WkO, eq_iff_iff]
  constructor
  · rintro ⟨y1, h1, ids, y', h2, h3⟩
    simp only [Option.some.injEq] at h1
    subst h1
    exact ⟨y', by rw [h2]; rfl, h3⟩
  · rintro ⟨y', h1, h2⟩
    cases h3 : snap m.find 12 (unf y) with
    | none => rw [h3] at h1; cases h1
    | some p =>
      rw [h3] at h1
      refine ⟨y, rfl, p.2, p.1, h3, ?_⟩
      simp at h1
      rw [h1]; exact h2
attribute [push_cast] endVW_eq endSW_fz
end Go.AW
namespace Go.AW
variable {P : Program} {γ : GTab} {m : Mem}

theorem Keeps.less {S S' : Nat → Nat → Prop} {μ : Nat → Option (Nat × Nat)} {w : World} (h : ∀ b off, S b off → S' b off) : Keeps S μ w S' μ w :=
  ⟨fun _ _ => rfl, h, fun _ _ _ => rfl, fun _ _ _ _ _ h => h, fun _ => Nat.le_refl _, Nat.le_refl _, fun _ _ h => h⟩
theorem Rep.less {S S' : Nat → Nat → Prop} {μ : Nat → Option (Nat × Nat)} {w : World} (h : ∀ b off, S b off → S' b off) {x : AV} {v : Value} (r : Rep S μ w x v) : Rep S' μ w x v := Rep.keep (Keeps.less h) x v r
theorem RepL.less {S S' : Nat → Nat → Prop} {μ : Nat → Option (Nat × Nat)} {w : World} (h : ∀ b off, S b off → S' b off) {xs : List AV} {vs : List Value} (r : RepL S μ w xs vs) : RepL S' μ w xs vs := RepL.keep (Keeps.less h) xs vs r

/-! Without what is told of blocks. -/
mutual
def unt : AV → AV
  | .on _ _ x => unt x
  | .agg xs => .agg (untL xs)
  | .tup xs => .tup (untL xs)
  | .seq n z xs => .seq n z (untL xs)
  | x => x
def untL : List AV → List AV
  | [] => []
  | x :: xs => unt x :: untL xs
end
theorem untL_length : ∀ xs : List AV, (untL xs).length = xs.length
  | [] => rfl
  | x :: xs => by simp [untL, untL_length xs]
mutual
theorem unt_rep {S : Nat → Nat → Prop} {μ : Nat → Option (Nat × Nat)} {w : World} : ∀ (x : AV) (v : Value), Rep S μ w x v → Rep S μ w (unt x) v
  | .on T u x, v, r => by
    simp only [Rep] at r
    simp only [unt]
    exact unt_rep x v (Rep.less (fun _ _ h => h.1) r)
  | .agg xs, v, r => by
    simp only [unt, Rep] at *
    obtain ⟨ys, e, r, o⟩ := r
    exact ⟨ys, e, untL_rep xs ys r, o⟩
  | .tup xs, v, r => by
    simp only [unt, Rep] at *
    obtain ⟨ys, e, r⟩ := r
    exact ⟨ys, e, untL_rep xs ys r⟩
  | .v _, v, r => r
  | .seq n z xs, v, r => by
    simp only [unt, Rep] at *
    obtain ⟨base, cap, e, hn, hl, r⟩ := r
    refine ⟨base, cap, e, hn, (untL_length xs).trans hl, ?_⟩
    rcases r with r | ⟨b, off, e, r⟩
    · exact .inl r
    · exact .inr ⟨b, off, e, untC_rep xs b off r⟩
  | .full _ _ _, v, r => r
  | .slc _ _ _ _, v, r => r
  | .rop _, v, r => r
  | .ptr _ _, v, r => r
  | .sl _ _ _ _, v, r => r
  | .mp _, v, r => r
  | .mv _ _ _, v, r => r
  | .it _, v, r => r
  | .clo _ _ _, v, r => r
  | .ifc _ _, v, r => r
  | .bs _ _, v, r => r
  | .bp _, v, r => r
  | .top, v, r => r
theorem untL_rep {S : Nat → Nat → Prop} {μ : Nat → Option (Nat × Nat)} {w : World} : ∀ (xs : List AV) (vs : List Value), RepL S μ w xs vs → RepL S μ w (untL xs) vs
  | [], vs, r => r
  | x :: xs, vs, r => by
    simp only [untL, RepL] at *
    obtain ⟨y, zs, e, r1, r2⟩ := r
    exact ⟨y, zs, e, unt_rep x y r1, untL_rep xs zs r2⟩
theorem untC_rep {S : Nat → Nat → Prop} {μ : Nat → Option (Nat × Nat)} {w : World} : ∀ (xs : List AV) (b off : Nat), RepC S μ w xs b off → RepC S μ w (untL xs) b off
  | [], _, _, r => r
  | x :: xs, b, off, r => by
    simp only [untL, RepC] at *
    obtain ⟨⟨hs, u, hu, ho, r1⟩, r2⟩ := r
    exact ⟨⟨hs, u, hu, ho, unt_rep x u r1⟩, untC_rep xs b (off + 1) r2⟩
end
theorem untL_append : ∀ (xs ys : List AV), untL (xs ++ ys) = untL xs ++ untL ys
  | [], ys => rfl
  | x :: xs, ys => by simp [untL, untL_append xs ys]
theorem untL_flat {α : Type} {f g : α → List AV} (h : ∀ x, untL (f x) = g x) : ∀ l : List α, untL (flat f l) = flat g l
  | [] => rfl
  | x :: l => by
    have ih := untL_flat h l
    simp only [flat, List.flatMap_cons] at *
    rw [untL_append, h, ih]
theorem untL_scell (s : ByteArray) : untL (scell s) = scell s := (rfl)
theorem untL_ecell (e : EntryV) : untL (ecell e) = ecell e := by simp [ecell, untL, unt, untL_flat untL_scell]
theorem untL_ccell (e : CountV) : untL (ccell e) = ccell e := (rfl)
theorem untL_tcell (e : TextV) : untL (tcell e) = tcell e := (rfl)
theorem untL_hcell (h : Hs) : untL (hcell h) = hcell h := by
  unfold hcell
  generalize h.1 = l
  induction l with
  | nil => rfl
  | cons x l ih => simp [untL, unt, ih]
theorem untL_pcell (p : PatchV) : untL (pcell p) = pcell p := by simp [pcell, untL, unt, untL_flat untL_scell, untL_flat untL_hcell]
theorem untL_docL (d : DocV) : untL (docL d) = docL d := by simp [docL, untL, unt, untL_flat untL_ecell, untL_flat untL_ccell, untL_flat untL_tcell]

theorem PCall.pre {f : FuncId} {xs ys : List AV} {r : AV} (hp : PCall P γ f ys r) (hx : idfL xs = true) (he : untL xs = ys) : PCall P γ f xs r :=
  ⟨hx, hp.2.1, hp.2.2.1, fun S w vs h1 h2 h3 => hp.2.2.2 S w vs h1 h2 (he ▸ untL_rep xs vs h3)⟩
theorem PCall.gam {f : FuncId} {xs : List AV} {r : AV} (hp : PCall P [] f xs r) : PCall P γ f xs r :=
  ⟨hp.1, hp.2.1, hp.2.2.1, fun S w vs h1 _ h3 => hp.2.2.2 S w vs h1 GOK.nil h3⟩
theorem PNew.gam {f : FuncId} {xs : List AV} {r : AV} (hp : PNew P [] f xs r) : PNew P γ f xs r :=
  ⟨hp.1, hp.2.1, hp.2.2.1, fun S w vs h1 _ h3 => hp.2.2.2 S w vs h1 GOK.nil h3⟩

/-- What is all new lies in the blocks that are known ahead. -/
theorem PNew.onN {f g : FuncId} {xs : List AV} {r : AV} {N : Nat → Prop} (hg : lk γ g = some (.fut N)) (hp : PNew P γ f xs r) : PCall P γ f xs (.on N true r) := by
  obtain ⟨h1, h2, h3, h4⟩ := hp
  refine ⟨h1, by simpa only [idf] using h2, h3, fun S w vs hold hG hxs => ?_⟩
  refine (h4 S w vs hold hG hxs).mono fun e w' he => ?_
  obtain ⟨v, rfl, hE, hv⟩ := he
  refine ⟨v, _, rfl, hE, ?_⟩
  simp only [Rep]
  exact Rep.less (fun b off h => ⟨.inr ⟨h.1, h.2.1⟩, hG.2 g N hg b h.1, fun _ => h.2⟩) hv

theorem on_rep {S : Nat → Nat → Prop} {T : Nat → Prop} {μ : Nat → Option (Nat × Nat)} {w : World} {x : AV} {v : Value} (r : Rep (fun b off => S b off ∧ T b) μ w x v) : Rep S μ w (.on T false x) v := by
  simp only [Rep]
  exact Rep.less (fun _ _ h => ⟨h.1, h.2, fun e => by cases e⟩) r
def tagD (T : Nat → Prop) : AV → AV
  | .agg xs => .agg (xs.map (.on T false))
  | x => .on T false x
theorem tagL_rep {S : Nat → Nat → Prop} {T : Nat → Prop} {μ : Nat → Option (Nat × Nat)} {w : World} : ∀ {xs : List AV} {vs : List Value}, RepL (fun b off => S b off ∧ T b) μ w xs vs → RepL S μ w (xs.map (.on T false)) vs
  | [], vs, r => by simpa [RepL] using r
  | x :: xs, vs, r => by
    simp only [List.map_cons, RepL] at *
    obtain ⟨y, zs, e, r1, r2⟩ := r
    exact ⟨y, zs, e, on_rep r1, tagL_rep r2⟩
theorem tagD_rep {S : Nat → Nat → Prop} {T : Nat → Prop} {μ : Nat → Option (Nat × Nat)} {w : World} {x : AV} {v : Value} (r : Rep (fun b off => S b off ∧ T b) μ w x v) : Rep S μ w (tagD T x) v := by
  cases x with
  | agg xs =>
    simp only [tagD, Rep] at *
    obtain ⟨ys, e, r, o⟩ := r
    exact ⟨ys, e, tagL_rep r, o⟩
  | _ => exact on_rep r

/-- An object stays where nothing but numbers turns. -/
theorem RepO.keepX {S : Nat → Nat → Prop} {μ μ' : Nat → Option (Nat × Nat)} {w : World} (hk : Keeps S μ w S μ' w) {o : Nat} {ob : AObj} (h : RepO S μ w o ob) (hn : μ o = none → μ' o = none) (hb : ob ≠ .bag) : RepO S μ' w o ob := by
  cases ob with
  | bag => exact absurd rfl hb
  | cells E xs ap =>
    simp only [RepO] at h ⊢
    rcases h with ⟨h1, h2⟩ | ⟨b, bo, ys, c, fz, h1, h2, h3, h4, h5⟩
    · exact .inl ⟨hn h1, h2⟩
    · exact .inr ⟨b, bo, ys, c, fz, (hk.ids o (some_ne h1)).trans h1, h2, h3, RepL.keep hk xs ys h4, h5⟩
  | imm xs =>
    simp only [RepO] at h ⊢
    exact h.imp_right fun ⟨b, bo, h1, h2⟩ => ⟨b, bo, (hk.ids o (some_ne h1)).trans h1, RepC.keep hk xs b bo h2⟩
  | map kt ks xs =>
    simp only [RepO] at h ⊢
    obtain ⟨b, bo, es, clock, h1, h2, h3, h4, h5, h6⟩ := h
    exact ⟨b, bo, es, clock, (hk.ids o (some_ne h1)).trans h1, h2, h3, h4, RepL.keep hk xs _ h5, h6⟩
  | miter last ks xs =>
    simp only [RepO] at h ⊢
    obtain ⟨b, bo, mb, since, seen, stepped, h1, h2, h3, h4⟩ := h
    refine ⟨b, bo, mb, since, seen, stepped, (hk.ids o (some_ne h1)).trans h1, h2, h3, h4.imp_right ?_⟩
    rintro ⟨r, es, kt, e1, e2, e3, e4, e5, e6, e7, e8⟩
    exact ⟨r, es, kt, e1, e2, e3, e4, e5, e6, RepL.keep hk xs _ e7, fun p hp => (e8 p hp).imp fun e he => ⟨he.1, he.2.1, he.2.2.1, Rep.keep hk _ _ he.2.2.2⟩⟩
  | siter s pos =>
    simp only [RepO] at h ⊢
    obtain ⟨b, bo, h1, h2, h3⟩ := h
    exact ⟨b, bo, (hk.ids o (some_ne h1)).trans h1, h2, h3⟩
  | past T => simpa only [RepO] using h
  | dead => simp [RepO]

/-- A further object. -/
theorem RM.add {S : Nat → Nat → Prop} {μ : Nat → Option (Nat × Nat)} {w : World} (hr : RM S μ w m) {ob : AObj} {p : Option (Nat × Nat)}
    (hp : ∀ b bo, p = some (b, bo) → b < w.heap.size ∧ ∀ o bo', μ o ≠ some (b, bo')) (hpb : ∀ b bo, p = some (b, bo) → ∀ o b0 code, m.find o = some .bag → μ o = some (b0, code) → code.testBit b ≠ true)
    (hob : ∀ μ', Keeps S μ w S μ' w → μ' m.next = p → RepO S μ' w m.next ob) :
    ∃ μ', RM S μ' w ⟨(m.next, ob) :: m.objs, m.next + 1, m.base, m.wid⟩ ∧ Keeps S μ w S μ' w ∧ μ' m.next = p ∧ (∀ o, o ≠ m.next → μ' o = μ o) := by
  refine ⟨fun o => if o = m.next then p else μ o, ?_⟩
  have hfr : μ m.next = none := hr.fr _ (Nat.le_refl _)
  have hk : Keeps S μ w S (fun o => if o = m.next then p else μ o) w := ⟨fun o ho => by
    by_cases e : o = m.next
    · subst e; exact absurd hfr ho
    · simp [e], fun _ _ h => h, fun _ _ _ => rfl, fun _ _ _ _ _ h => h, fun _ => Nat.le_refl _, Nat.le_refl _, fun _ _ h => h⟩
  have hf : ∀ o, (⟨(m.next, ob) :: m.objs, m.next + 1, m.base, m.wid⟩ : Mem).find o = if m.next = o then some ob else m.find o := fun o => by simp only [Mem.find, lk]
  have hne : ∀ {o ob'}, m.find o = some ob' → o ≠ m.next := fun h e => by have := (hr.obj _ _ h).1; omega
  refine ⟨⟨fun o ob' h => ?_, fun o o' ob1 ob2 h h' ho ho' hn b i j hb => ?_, hr.old, fun o ho => ?_, fun o h1 h2 h3 => ?_, ?_, fun o b bo h => ?_⟩, hk, by simp, fun o ho => by simp [ho]⟩
  · rw [hf] at h
    split at h
    · rename_i e; subst e; simp only [Option.some.injEq] at h; subst h
      exact ⟨by simp, hob _ hk (by simp)⟩
    · refine ⟨by have := (hr.obj _ _ h).1; simp; omega, ?_⟩
      have hobj := (hr.obj _ _ h).2
      cases ob' with
      | bag =>
        simp only [RepO] at hobj ⊢
        obtain ⟨b0, code, e1, e2⟩ := hobj
        refine ⟨b0, code, by simpa [hne h] using e1, fun b ht => ⟨(e2 b ht).1, (e2 b ht).2.1, (e2 b ht).2.2.1, fun q bo hq => ?_⟩⟩
        by_cases e : q = m.next
        · simp only [e, if_true] at hq
          exact hpb b bo hq _ _ _ h e1 ht
        · simp only [e, if_false] at hq
          exact (e2 b ht).2.2.2 q bo hq
      | _ =>
        exact hobj.keepX hk (fun e => by simpa [hne h] using e) (by intro e; cases e)
  · rw [hf] at h h'
    split at h
    · rename_i e; subst e
      simp only [if_true] at hb
      simp only [if_neg (Ne.symm hn)]
      intro e
      exact (hp b i hb).2 _ _ e
    · split at h'
      · rename_i e; subst e
        simp only [if_neg hn] at hb
        simp only [if_true]
        intro e
        exact (hp b j e).2 _ _ hb
      · simp only [if_neg (hne h)] at hb
        simp only [if_neg (hne h')]
        exact hr.inj o o' ob1 ob2 h h' ho ho' hn b i j hb
  · simp only at ho
    simp only [if_neg (show o ≠ m.next by omega)]
    exact hr.fr o (by omega)
  · simp only at h1 h2
    rw [hf]
    by_cases e : o = m.next
    · simp [e]
    · simp only [if_neg e] at h3
      rw [if_neg (Ne.symm e)]
      exact hr.win o h1 h2 h3
  · have := hr.le; simp only; omega
  · by_cases e : o = m.next
    · simp only [e, if_true] at h; exact (hp b bo h).1
    · simp only [if_neg e] at h; exact hr.bk o b bo h

theorem Ext.add {n0 : Nat} {S μ w S1 μ1 μ2 w1} {m1 : Mem} {ob : AObj} (h : Ext n0 m S μ w m1 S1 μ1 w1) (hids : ∀ o, o ≠ m1.next → μ2 o = μ1 o) (hfr : ∀ o ob, m1.find o = some ob → o < m1.next) (hnb : ob ≠ .bag)
    (hp : ∀ b bo, ob.own = true → μ2 m1.next = some (b, bo) → w.heap.size ≤ b) : Ext n0 m S μ w ⟨(m1.next, ob) :: m1.objs, m1.next + 1, m1.base, m1.wid⟩ S1 μ2 w1 := by
  have hf : ∀ o, (⟨(m1.next, ob) :: m1.objs, m1.next + 1, m1.base, m1.wid⟩ : Mem).find o = if m1.next = o then some ob else m1.find o := fun o => by simp only [Mem.find, lk]
  have hn := h.next
  refine ⟨h.os, h.tape, h.output, h.size, fun o ho => (hids o (by omega)).trans (h.ids o ho), fun o ho hh => h.objs o ho (by rw [hf, if_neg (by omega)] at hh; exact hh), by simp only; omega, h.sub, h.new, h.cell, h.map, fun b hb hx => ⟨(h.blk b hb hx).1, fun hy => ?_⟩, h.bsz, h.uf⟩
  rcases hy with ⟨o, ob', bo, h1, h2, h3⟩ | ⟨o, b0, code, h1, h2, h3⟩
  · rw [hf] at h1
    split at h1
    · rename_i e; subst e; simp only [Option.some.injEq] at h1; subst h1
      have := hp b bo h2 h3; omega
    · have := hfr _ _ h1
      exact (h.blk b hb hx).2 (.inl ⟨o, ob', bo, h1, h2, by rw [← hids o (by omega)]; exact h3⟩)
  · rw [hf] at h1
    split at h1
    · simp only [Option.some.injEq] at h1; exact hnb h1
    · have := hfr _ _ h1
      exact (h.blk b hb hx).2 (.inr ⟨o, b0, code, h1, by rw [← hids o (by omega)]; exact h2, h3⟩)

/-- A call by contract; all that its result looks at is past from there on. -/
theorem PCall.useT {g : FuncId} {xs : List AV} {x : AV} {K : AV → Mem → Prop} (hp : PCall P γ g xs x) (hK : ∀ T, K (tagD T x) ⟨(m.next, .past T) :: m.objs, m.next + 1, m.base, m.wid⟩) : ACalls P γ g xs m K := by
  refine ⟨hp.2.2.1, fun S μ w vs hr hG hx => ?_⟩
  refine (hp.run (snapArgs_idf hp.1) (.inr rfl) hr hG hx).mono fun e w' he => ?_
  obtain ⟨v, S', rfl, h1, h2, h3, h4⟩ := he
  obtain ⟨μ', k1, k2, k3, k4⟩ := h1.add (ob := .past fun b => b < w'.heap.size) (p := none) (fun b bo h => by cases h) (fun b bo h => by cases h) (fun μ' _ _ => by simp only [RepO]; exact fun b h => h)
  refine ⟨v, _, ⟨(m.next, .past fun b => b < w'.heap.size) :: m.objs, m.next + 1, m.base, m.wid⟩, S', μ', rfl, rfl, rfl, k1, ?_, Rep.keep k2 _ _ (tagD_rep (T := fun b => b < w'.heap.size) (Rep.less (fun b off hs => ⟨hs, h1.old b off hs⟩) h4)), hK _⟩
  exact (h3 _ (Nat.le_refl _)).add k4 (fun o ob h => (h1.obj o ob h).1) (by intro h; cases h) (fun b bo h => by cases h)

/-! A contract whose result is a struct of three slices (and a plain value): the first one's row is the caller's own. -/
def mkR (e : Option AV) (xs : List AV) : AV := match e with
  | none => .agg xs
  | some e => .tup [.agg xs, e]
def μ1 (p : Option (Nat × Nat)) : Nat → Option (Nat × Nat) := fun o => if o = 0 then p else none
def PDoc (P : Program) (γ : GTab) (f : FuncId) (xs : List AV) (n z : Nat) (c t : AV) (e : Option Value) (E : TypeId) (cs : List AV) : Prop :=
  idfL xs = true ∧ idf c = true ∧ idf t = true ∧ idfL cs = true ∧ callable P f ∧ ∀ (S : Nat → Nat → Prop) (w : World) (vs : List Value), (∀ b off, S b off → b < w.heap.size) → GOK γ S w → RepL S μ0 w xs vs →
    Calls P f vs.toArray w fun en w' => ∃ v S' p, en = .returned v ∧ RM S' (μ1 p) w' ⟨[(0, .cells E cs true)], 1, 1, 0⟩ ∧ Ext 0 ⟨[], 0, 0, 0⟩ S μ0 w ⟨[(0, .cells E cs true)], 1, 1, 0⟩ S' (μ1 p) w' ∧ Rep S' (μ1 p) w' (mkR (e.map .v) [.sl 0 0 n z, c, t]) v

def endD (P : Program) (rs : List ResultVar) (n z : Nat) (c t : AV) (e : Option Value) (E : TypeId) (cs : List AV) (_ : Exit) (σ : St) : Prop :=
  ∃ x1 x2 x3, resA P rs σ.env σ.mem = some (mkR (e.map .v) [x1, x2, x3]) ∧ ∃ c' t', Wk c' c ∧ Wk t' t ∧ Ent 0 ⟨[(0, x1), (1, x2), (2, x3)], σ.mem⟩ ⟨[(0, .sl 0 0 n z), (1, c'), (2, t')], ⟨[(0, .cells E cs true)], 1, 1, 0⟩⟩

theorem RepL.three {S μ} {w : World} {x1 x2 x3 : AV} {vs : List Value} (h : RepL S μ w [x1, x2, x3] vs) : ∃ v1 v2 v3, vs = [v1, v2, v3] ∧ Rep S μ w x1 v1 ∧ Rep S μ w x2 v2 ∧ Rep S μ w x3 v3 := by
  simp only [RepL] at h
  obtain ⟨v1, z1, rfl, h1, v2, z2, rfl, h2, v3, z3, rfl, h3, rfl⟩ := h
  exact ⟨v1, v2, v3, rfl, h1, h2, h3⟩
theorem RepL.three' {S μ} {w : World} {x1 x2 x3 : AV} {v1 v2 v3 : Value} (h1 : Rep S μ w x1 v1) (h2 : Rep S μ w x2 v2) (h3 : Rep S μ w x3 v3) : RepL S μ w [x1, x2, x3] [v1, v2, v3] := by
  simp only [RepL]
  exact ⟨v1, _, rfl, h1, v2, _, rfl, h2, v3, _, rfl, h3, rfl⟩
theorem mkR_parts {S μ} {w : World} {e : Option Value} {x1 x2 x3 : AV} {v : Value} (h : Rep S μ w (mkR (e.map .v) [x1, x2, x3]) v) : ∃ v1 v2 v3, Rep S μ w x1 v1 ∧ Rep S μ w x2 v2 ∧ Rep S μ w x3 v3 ∧
    ∀ {S' μ'} {w' : World} {y1 y2 y3 : AV}, Rep S' μ' w' y1 v1 → Rep S' μ' w' y2 v2 → Rep S' μ' w' y3 v3 → Rep S' μ' w' (mkR (e.map .v) [y1, y2, y3]) v := by
  cases e with
  | none =>
    simp only [Option.map_none, mkR, Rep] at h ⊢
    obtain ⟨ys, rfl, r, o⟩ := h
    obtain ⟨v1, v2, v3, rfl, h1, h2, h3⟩ := r.three
    exact ⟨v1, v2, v3, h1, h2, h3, fun g1 g2 g3 => ⟨_, rfl, RepL.three' g1 g2 g3, o⟩⟩
  | some e =>
    simp only [Option.map_some, mkR, Rep, RepL] at h ⊢
    obtain ⟨ys, rfl, y, z, rfl, ⟨us, rfl, r, o⟩, y2, z2, rfl, rfl, rfl⟩ := h
    obtain ⟨v1, v2, v3, rfl, h1, h2, h3⟩ := RepL.three (by simp only [RepL]; exact r)
    exact ⟨v1, v2, v3, h1, h2, h3, fun g1 g2 g3 => ⟨_, rfl, _, _, rfl, ⟨_, rfl, by have := RepL.three' g1 g2 g3; simpa only [RepL] using this, o⟩, _, _, rfl, rfl, rfl⟩⟩

theorem envL3 {S μ} {w : World} {x1 x2 x3 : AV} {v1 v2 v3 : Value} (h1 : Rep S μ w x1 v1) (h2 : Rep S μ w x2 v2) (h3 : Rep S μ w x3 v3) : ∀ t x, lk [(0, x1), (1, x2), (2, x3)] t = some x → Rep S μ w x ((#[v1, v2, v3] : Array Value).getD t undef) := by
  intro t x h
  simp only [lk] at h
  split at h
  · rename_i e; subst e; cases h; exact h1
  · split at h
    · rename_i e; subst e; cases h; exact h2
    · split at h
      · rename_i e; subst e; cases h; exact h3
      · cases h

theorem PDoc.enter {f : FuncId} {fn : Func} {c0 : Code} {xs : List AV} {n z : Nat} {c t : AV} {e : Option Value} {E : TypeId} {cs : List AV} (hf : P.funcs[f]? = some fn) (hb : fn.body = some c0) (hn : (fn.name == "runtime.NumGoroutine") = false) (hm : P.follows .mixedOrders = true) (hd : dOK c0 = true) (hx : idfL xs = true) (hc : idf c = true) (ht : idf t = true) (hcs : idfL cs = true)
    (h : ev P γ 0 fn.ntmps [.code c0, .fin (endD P fn.results.toList n z c t e E cs)] ⟨(xs.zipIdx.map fun p => (p.2, p.1)), ⟨[], 0, 0, 0⟩⟩) : PDoc P γ f xs n z c t e E cs := by
  refine ⟨hx, hc, ht, hcs, ⟨fn, hf, hn, by rw [hb]; rfl⟩, fun S w vs hold hG hxs => ?_⟩
  refine calls_of_wp hf hb ?_
  have hRM : RM S μ0 w ⟨[], 0, 0, 0⟩ := ⟨fun o ob h => by simp [Mem.find, lk] at h, fun o o' ob ob' h => by simp [Mem.find, lk] at h, hold, fun _ _ => rfl, fun o _ h => by simp at h, Nat.le_refl _, fun o b bo h => by simp [μ0] at h⟩
  have hRX : RX γ fn.ntmps 0 ⟨[], 0, 0, 0⟩ S μ0 w ⟨(xs.zipIdx.map fun p => (p.2, p.1)), ⟨[], 0, 0, 0⟩⟩ { tmps := vs.toArray ++ Array.replicate (fn.ntmps - vs.toArray.size) undef, defers := [] } w :=
    ⟨S, μ0, ⟨hRM, args_env hxs, rfl⟩, hG, Ext.refl0, by simp; omega, Nat.zero_le _, Nat.zero_le _⟩
  have fin : ∀ (e0 : Exit) (σ : St) (a : Act) (w' : World), endD P fn.results.toList n z c t e E cs e0 σ → RX γ fn.ntmps 0 ⟨[], 0, 0, 0⟩ S μ0 w σ a w' → a.defers = [] ∧ ∃ v, (results fn a.tmps).run P w' = .ok v w' ∧
      ∃ v0 S' p, Ending.returned v = .returned v0 ∧ RM S' (μ1 p) w' ⟨[(0, .cells E cs true)], 1, 1, 0⟩ ∧ Ext 0 ⟨[], 0, 0, 0⟩ S μ0 w ⟨[(0, .cells E cs true)], 1, 1, 0⟩ S' (μ1 p) w' ∧ Rep S' (μ1 p) w' (mkR (e.map .v) [.sl 0 0 n z, c, t]) v0 := by
    intro e0 σ a w' hE hR
    obtain ⟨S', μ, hA, hG', hX, _, _, _⟩ := hR
    obtain ⟨x1, x2, x3, h1, c', t', hwc, hwt, hent⟩ := hE
    obtain ⟨v, h3, h4⟩ := res_run hA.rm hA.env h1
    obtain ⟨v1, v2, v3, g1, g2, g3, g4⟩ := mkR_parts h4
    obtain ⟨S2, μ2, k1, k2, k3, k4, _, _, _, _, k9⟩ := hent S' μ w' ⟨#[v1, v2, v3], []⟩ hA.rm (envL3 g1 g2 g3)
    have r1 := k2 0 (.sl 0 0 n z) rfl
    have r2 := k2 1 c' rfl
    have r3 := k2 2 t' rfl
    have hμ : μ2 = μ1 (μ2 0) := by
      funext o
      by_cases e0 : o = 0
      · subst e0; rfl
      · simp only [μ1, if_neg e0]
        exact k1.fr o (by show 1 ≤ o; omega)
    refine ⟨hA.defers, v, h3, v, S2, μ2 0, rfl, by rw [← hμ]; exact k1, ?_, ?_⟩
    · rw [← hμ]
      refine ⟨hX.os, hX.tape, hX.output, hX.size, fun o ho => by omega, fun o ho => by omega, Nat.zero_le _, fun b off hs => k3 b off (hX.sub b off hs), fun b off hb hs => ?_, hX.cell, hX.map, fun b hb hx => ⟨(hX.blk b hb hx).1, fun hy => (hX.blk b hb hx).2 (k9 b hy)⟩, hX.bsz, hX.uf⟩
      rcases k4 b off hs with hs | hs
      · exact hX.new b off hb hs
      · exact absurd hs (hX.blk b hb owned_nil).2
    · rw [← hμ]
      exact g4 r1 (Wk.rep _ _ _ hwc r2) (Wk.rep _ _ _ hwt r3)
  refine wp_mono (ev_sound hm _ c0 [.fin (endD P fn.results.toList n z c t e E cs)] _ _ w hd (Nat.le_refl _) h hRX) fun e0 a w' hp => ?_
  cases e0 with
  | normal =>
    obtain ⟨σ, h1, h2⟩ := hp
    rw [ev] at h1
    exact fin .normal σ a w' h1 h2
  | ret =>
    obtain ⟨σ, Q, h1, h2, h3⟩ := hp
    simp only [retK, Option.some.injEq] at h1
    subst h1
    exact fin .ret σ a w' h2 h3
  | exit id =>
    obtain ⟨σ, k', h1, _⟩ := hp
    simp [exitK] at h1
  | _ => exact hp.elim

theorem PDoc.start {f : FuncId} {fn : Func} {c0 : Code} {rs : List ResultVar} {nt : Nat} {xs : List AV} {n z : Nat} {c t : AV} {e : Option Value} {E : TypeId} {cs : List AV} (hf : P.funcs[f]? = some fn) (hb : fn.body = some c0) (hn : (fn.name == "runtime.NumGoroutine") = false) (hrs : fn.results = rs.toArray) (hnt : fn.ntmps = nt) (hm : P.follows .mixedOrders = true) (hd : dOK c0 = true) (hx : idfL xs = true) (hc : idf c = true) (ht : idf t = true) (hcs : idfL cs = true)
    (h : ev P γ 0 nt [.code c0, .fin (endD P rs n z c t e E cs)] ⟨(xs.zipIdx.map fun p => (p.2, p.1)), ⟨[], 0, 0, 0⟩⟩) : PDoc P γ f xs n z c t e E cs := by
  refine PDoc.enter hf hb hn hm hd hx hc ht hcs ?_
  rw [hrs, hnt]
  simpa using h

/-- Objects are let go: what they hold stays as it is. -/
theorem RM.letgo {S : Nat → Nat → Prop} {μ : Nat → Option (Nat × Nat)} {w : World} (hr : RM S μ w m) (ids : List Nat) : ∃ T : Nat → Nat → Prop,
    RM T μ w (m.upd (deadU m.find ids)) ∧ Keeps S μ w T μ w ∧ (∀ n0, n0 ≤ m.next → Ext n0 m S μ w (m.upd (deadU m.find ids)) T μ w) ∧
      ∀ {xs ys : List AV} {vs : List Value}, snapArgs m.find xs = some (ys, ids) → RepL S μ w xs vs → RepL T μ0 w ys vs := by
  let T : Nat → Nat → Prop := fun b off => S b off ∨ OwnedC (Go.AW.only m ids) μ b
  have hr1 := hr.only ids
  have hown : ∀ b, OwnedC (Go.AW.only m ids) μ b → OwnedC m μ b := fun b ⟨o, ob, bo, h1, h2, h3⟩ => by
    rw [find_only] at h1
    split at h1
    · exact ⟨o, ob, bo, h1, h2, h3⟩
    · cases h1
  have hK : Keeps S μ w T μ w := ⟨fun _ _ => rfl, fun _ _ h => .inl h, fun _ _ _ => rfl, fun _ _ _ _ _ h => h, fun _ => Nat.le_refl _, Nat.le_refl _, fun _ _ h => h⟩
  have hf : ∀ {o ob}, (m.upd (deadU m.find ids)).find o = some ob → (ob = .dead ∧ (m.find o).isSome = true) ∨ (o ∉ ids ∧ m.find o = some ob) := fun {o ob} h => by
    rw [find_deadU] at h
    split at h
    · rename_i hc
      simp only [Option.some.injEq] at h
      exact .inl ⟨h.symm, hc.2⟩
    · rename_i hc
      refine .inr ⟨fun hm => hc ⟨hm, by rw [h]; rfl⟩, h⟩
  have hnot : ∀ {o b bo : Nat} {ob : AObj}, o ∉ ids → m.find o = some ob → ob.own = true → μ o = some (b, bo) → (∀ off, ¬ S b off) → ∀ off, ¬ T b off := by
    intro o b bo ob ho hfo hob hμ hS off h
    rcases h with h | ⟨o', ob', bo', h1, h2, h3⟩
    · exact hS off h
    · rw [find_only] at h1
      split at h1
      · rename_i hm
        have hne : o' ≠ o := fun e => ho (e ▸ hm)
        exact hr.inj o' o ob' ob h1 hfo h2 hob hne b bo' bo h3 hμ
      · cases h1
  have hr2 : RM T μ w (m.upd (deadU m.find ids)) := by
    refine ⟨fun o ob h => ?_, fun o o' ob ob' h h' ho ho' hne => ?_, fun b off h => ?_, hr.fr, fun o h1 h2 h3 => ?_, hr.le, hr.bk⟩
    · rcases hf h with ⟨rfl, h1⟩ | ⟨hn, h1⟩
      · obtain ⟨ob, hob⟩ := Option.isSome_iff_exists.1 h1
        exact ⟨(hr.obj o ob hob).1, by simp [RepO]⟩
      · refine ⟨(hr.obj o ob h1).1, ?_⟩
        have hobj := (hr.obj o ob h1).2
        cases ob with
        | cells E xs ap =>
          simp only [RepO] at hobj ⊢
          rcases hobj with h2 | ⟨b, bo, ys, c, fz, e1, e2, e3, e4, e5, e6, e7, e8⟩
          · exact .inl h2
          · exact .inr ⟨b, bo, ys, c, fz, e1, e2, e3, RepL.keep hK _ _ e4, e5, e6, e7, hnot hn h1 rfl e1 e8⟩
        | imm xs =>
          simp only [RepO] at hobj ⊢
          rcases hobj with h2 | ⟨b, bo, e1, e2⟩
          · exact .inl h2
          · exact .inr ⟨b, bo, e1, RepC.keep hK _ _ _ e2⟩
        | map kt ks xs =>
          simp only [RepO] at hobj ⊢
          obtain ⟨b, bo, es, clock, e1, e2, e3, e4, e5, e6⟩ := hobj
          exact ⟨b, bo, es, clock, e1, e2, e3, e4, RepL.keep hK _ _ e5, hnot hn h1 rfl e1 e6⟩
        | miter last ks xs =>
          simp only [RepO] at hobj ⊢
          obtain ⟨b, bo, mb, since, seen, stepped, e1, e2, e3, e4⟩ := hobj
          refine ⟨b, bo, mb, since, seen, stepped, e1, hnot hn h1 rfl e1 e2, e3, ?_⟩
          rcases e4 with e4 | ⟨r, es, kt, q1, q2, q3, q4, q5, q6, q7, q8⟩
          · exact .inl e4
          · exact .inr ⟨r, es, kt, q1, .inl q2, q3, q4, q5, q6, RepL.keep hK _ _ q7, fun p hp => by
              obtain ⟨e, r1, r2, r3, r4⟩ := q8 p hp
              exact ⟨e, r1, r2, r3, Rep.keep hK _ _ r4⟩⟩
        | siter s pos =>
          simp only [RepO] at hobj ⊢
          obtain ⟨b, bo, e1, e2, e3⟩ := hobj
          exact ⟨b, bo, e1, hnot hn h1 rfl e1 e2, e3⟩
        | past T => simpa only [RepO] using hobj
        | bag =>
          simp only [RepO] at hobj ⊢
          obtain ⟨b0, code, e1, e2⟩ := hobj
          refine ⟨b0, code, e1, fun b ht => ?_⟩
          obtain ⟨g1, g2, g3, g4⟩ := e2 b ht
          refine ⟨g1, g2, fun off hs => ?_, g4⟩
          rcases hs with hs | ⟨o', ob', bo', h1, h2, h3⟩
          · exact g3 off hs
          · exact g4 _ _ h3
        | dead => simp [RepO]
    · rcases hf h with ⟨rfl, _⟩ | ⟨_, h1⟩
      · cases ho
      rcases hf h' with ⟨rfl, _⟩ | ⟨_, h1'⟩
      · cases ho'
      exact hr.inj o o' ob ob' h1 h1' ho ho' hne
    · rcases h with h | ⟨o, ob, bo, _, _, h⟩
      · exact hr.old _ _ h
      · exact hr.bk _ _ _ h
    · have := hr.win o h1 h2 h3
      rw [find_deadU]
      split
      · simp
      · exact this
  have hX : ∀ n0, n0 ≤ m.next → Ext n0 m S μ w (m.upd (deadU m.find ids)) T μ w := fun n0 hn0 => ⟨rfl, rfl, rfl, Nat.le_refl _, fun _ _ => rfl, fun o _ h => by
      rw [find_deadU] at h
      split at h
      · rename_i hc
        intro e; rw [e] at hc; exact absurd hc.2 (by simp)
      · exact h, hn0, fun _ _ h => .inl h, fun b off _ h => by
        rcases h with h | h
        · exact .inl h
        · exact .inr (.inl (hown _ h)), fun _ _ _ => rfl, fun _ _ _ _ _ h => h, fun b _ hx => ⟨rfl, fun hy => by
          rcases hy with ⟨o, ob, bo, q1, q2, q3⟩ | ⟨o, b0, code, q1, q2, q3⟩
          · rcases hf q1 with ⟨rfl, _⟩ | ⟨_, q4⟩
            · cases q2
            · exact hx (.inl ⟨o, ob, bo, q4, q2, q3⟩)
          · rcases hf q1 with ⟨h9, _⟩ | ⟨_, q4⟩
            · cases h9
            · exact hx (.inr ⟨o, b0, code, q4, q2, q3⟩)⟩, fun _ => Nat.le_refl _, fun _ _ h => h⟩
  exact ⟨T, hr2, hK, hX, fun {xs ys vs} hs hx => snapArgs_repX (T := T) hr1 (fun b off h => .inl h) (fun b h off => .inr h) (snapArgs_loc hs fun q hq => by rw [find_only, if_pos hq]) hx⟩

theorem PDoc.run {g : FuncId} {xs ys : List AV} {ids : List Nat} {n z : Nat} {c t : AV} {e : Option Value} {E : TypeId} {cs : List AV} (hp : PDoc P γ g ys n z c t e E cs) (hs : snapArgs m.find xs = some (ys, ids)) {S : Nat → Nat → Prop} {μ : Nat → Option (Nat × Nat)} {w : World} (hr : RM S μ w m) (hG : GOK γ S w) {vs : List Value} (hx : RepL S μ w xs vs) :
    Calls P g vs.toArray w fun en w' => ∃ v S' μ', en = .returned v ∧ RM S' μ' w' ⟨(m.next, .cells E cs true) :: (deadU m.find ids ++ m.objs), m.next + 1, m.base, m.wid⟩ ∧
      Ext m.next m S μ w ⟨(m.next, .cells E cs true) :: (deadU m.find ids ++ m.objs), m.next + 1, m.base, m.wid⟩ S' μ' w' ∧ Rep S' μ' w' (mkR (e.map .v) [.sl m.next 0 n z, c, t]) v := by
  obtain ⟨hi1, hic, hit, hics, _, hcall⟩ := hp
  obtain ⟨T, hr2, hK, hX, hsn⟩ := hr.letgo ids
  refine (hcall T w vs hr2.old (hG.keep hK) (hsn hs hx)).mono fun en w' he => ?_
  obtain ⟨v, S', p, rfl, hrm, hE, hv⟩ := he
  have hheap : ∀ b, b < w.heap.size → w'.heap[b]? = w.heap[b]? := fun b hb => (hE.blk b hb owned_nil).1
  have hnew : ∀ b off, b < w.heap.size → S' b off → T b off := fun b off hb hs => (hE.new b off hb hs).resolve_right owned_nil
  obtain ⟨h1, h2, h3⟩ := frame0 (S' := S') (w' := w') hr2 hE.sub hnew hrm.old hE.size hheap hE.uf hE.os hE.tape hE.output
  have hpb : ∀ b bo, p = some (b, bo) → w.heap.size ≤ b ∧ b < w'.heap.size := fun b bo hp => by
    have hμ : μ1 p 0 = some (b, bo) := hp
    refine ⟨?_, hrm.bk _ _ _ hμ⟩
    rcases Nat.lt_or_ge b w.heap.size with hlt | hge
    · exact absurd (Or.inl ⟨0, _, bo, rfl, rfl, hμ⟩) (hE.blk b hlt owned_nil).2
    · exact hge
  have hobj := (hrm.obj 0 _ rfl).2
  obtain ⟨μ', k1, k2, k3, k4⟩ := h1.add (ob := .cells E cs true) (p := p) (fun b bo hp => ⟨(hpb b bo hp).2, fun o bo' hμ => by have := hr2.bk o b bo' hμ; have := (hpb b bo hp).1; omega⟩) (fun b bo hp o b0 code hf hμ ht => by
      have := (hr2.obj _ _ hf).2
      simp only [RepO] at this
      obtain ⟨b0', code', e1, e2⟩ := this
      rw [hμ] at e1; cases e1
      have hsz := (e2 b ht).1
      have := (hpb b bo hp).1
      simp [bsize, Array.getElem?_eq_none this] at hsz) (fun μ' hk hμ' => by
      simp only [RepO] at hobj ⊢
      rcases hobj with ⟨g1, g2⟩ | ⟨b, bo, ys, c, fz, g1, g2, g3, g4, g5⟩
      · have g1' : p = none := g1
        exact .inl ⟨by rw [hμ', g1'], g2⟩
      · have g1' : p = some (b, bo) := g1
        exact .inr ⟨b, bo, ys, c, fz, by rw [hμ', g1'], g2, g3, RepL.idf1 _ _ hics (RepL.idf0 (fun _ _ h => h) _ _ hics g4), g5⟩)
  obtain ⟨v1, v2, v3, g1, g2, g3, g4⟩ := mkR_parts hv
  refine ⟨v, S', μ', rfl, k1, ?_, g4 ?_ (Rep.idf1 _ _ hic (Rep.idf0 (fun _ _ h => h) _ _ hic g2)) (Rep.idf1 _ _ hit (Rep.idf0 (fun _ _ h => h) _ _ hit g3))⟩
  · have hE2 := ((hX _ (Nat.le_refl _)).trans (Nat.le_refl _) (h3 m.next (Nat.le_refl _)))
    exact hE2.add k4 (fun o ob h => (h1.obj o ob h).1) (by intro h; cases h) (fun b bo _ hp => (hpb b bo (by rw [← k3]; exact hp)).1)
  · simp only [Rep] at g1 ⊢
    obtain ⟨base, cap, rfl, hn, hc⟩ := g1
    refine ⟨base, cap, rfl, hn, hc.imp_right fun ⟨b, bo, hμ, hr⟩ => ⟨b, bo, ?_, hr⟩⟩
    have hμ' : p = some (b, bo) := hμ
    exact k3.trans hμ'

theorem PDoc.use {g : FuncId} {xs ys : List AV} {ids : List Nat} {n z : Nat} {c t : AV} {e : Option Value} {E : TypeId} {cs : List AV} {K : AV → Mem → Prop} (hp : PDoc P γ g ys n z c t e E cs) (hs : snapArgs m.find xs = some (ys, ids))
    (hK : K (mkR (e.map .v) [.sl m.next 0 n z, c, t]) ⟨(m.next, .cells E cs true) :: (deadU m.find ids ++ m.objs), m.next + 1, m.base, m.wid⟩) : ACalls P γ g xs m K := by
  refine ⟨hp.2.2.2.2.1, fun S μ w vs hr hG hx => ?_⟩
  refine (hp.run hs hr hG hx).mono fun en w' he => ?_
  obtain ⟨v, S', μ', rfl, h1, h2, h3⟩ := he
  exact ⟨v, _, ⟨(m.next, .cells E cs true) :: (deadU m.find ids ++ m.objs), m.next + 1, m.base, m.wid⟩, S', μ', rfl, rfl, rfl, h1, h2, h3, hK⟩

/-- .. where what is new is told by its blocks, apart from all that is past. -/
theorem PDoc.useN {g k : FuncId} {xs : List AV} {n z : Nat} {c t : (Nat → Prop) → AV} {e : Option Value} {E : TypeId} {cs : (Nat → Prop) → List AV} {K : AV → Mem → Prop} (hp : ∀ N, PDoc P [(k, .fut N)] g xs n z (c N) (t N) e E (cs N))
    (hK : ∀ N, (∀ o T, m.find o = some (.past T) → ∀ b, N b → ¬ T b) → K (mkR (e.map .v) [.sl m.next 0 n z, c N, t N]) ⟨(m.next, .cells E (cs N) true) :: m.objs, m.next + 1, m.base, m.wid⟩) : ACalls P [] g xs m K := by
  refine ⟨(hp fun _ => True).2.2.2.2.1, fun S μ w vs hr hG hx => ?_⟩
  have hp' := hp fun b => w.heap.size ≤ b
  refine (hp'.run (snapArgs_idf hp'.1) hr ⟨fun g vs h => by simp [lk] at h, fun g N h b hb => by
    simp only [lk] at h
    split at h
    · cases h; exact hb
    · cases h⟩ hx).mono fun en w' he => ?_
  obtain ⟨v, S', μ', rfl, h1, h2, h3⟩ := he
  exact ⟨v, _, ⟨(m.next, .cells E (cs fun b => w.heap.size ≤ b) true) :: m.objs, m.next + 1, m.base, m.wid⟩, S', μ', rfl, rfl, rfl, h1, h2, h3, hK _ fun o T hf b hb ht => by
    have := (hr.obj _ _ hf).2
    simp only [RepO] at this
    have := this b ht; omega⟩

section
variable {t : TypeId} {find : Nat → Option AObj}
theorem nilCheckA_ptr {o off : Nat} : nilCheckA (.ptr o off) = some (.ptr o off, []) := (rfl)
theorem nilCheckA_rop {xs : List AV} : nilCheckA (.rop xs) = some (.rop xs, []) := (rfl)
theorem unf_on {T : Nat → Prop} {u : Bool} {x : AV} : unf (.on T u x) = .on T u x := (rfl)
theorem unf_bs {o n : Nat} : unf (.bs o n) = .bs o n := (rfl)
theorem unf_bp {o : Nat} : unf (.bp o) = .bp o := (rfl)
theorem len_on {fr : Nat} {T : Nat → Prop} {u : Bool} {n sz : Nat} {xs : List AV} {ts : List TypeId} : builtinF P find fr .len (t :: ts).toArray [.on T u (.seq n sz xs)] = lenB (tarr P t) (tlenk P t) 0 n := len_gen rfl
theorem len_bs {fr : Nat} {o n : Nat} {ts : List TypeId} : builtinF P find fr .len (t :: ts).toArray [.bs o n] = lenB (tarr P t) (tlenk P t) 0 n := len_gen rfl
theorem nilA_on {y : AV} {T : Nat → Prop} {u : Bool} {x : AV} : nilA y (.on T u x) = false := (rfl)
theorem cellsOf_on {T : Nat → Prop} {u : Bool} {n z : Nat} {xs : List AV} : cellsOf (.on T u (.seq n z xs)) = some [.on T u (.seq n z xs)] := (rfl)
attribute [push_cast] nilCheckA_ptr nilCheckA_rop unf_on unf_bs unf_bp len_on len_bs nilA_on cellsOf_on
end

/-! A callee gone into, by simp. -/
def endAR (m : Mem) (K : AV → Mem → Prop) (mem : Mem) (r : Option AV) : Prop := match r with
  | some y => keepsAll m mem.objs = true ∧ K y ⟨mem.objs, mem.next, m.base, m.wid⟩
  | none => False
theorem endA_eq {rs : List ResultVar} {K : AV → Mem → Prop} {e : Exit} {env : List (Nat × AV)} {mem : Mem} : endA P rs m K e ⟨env, mem⟩ = endAR m K mem (resA P rs env mem) := by
  simp only [endA, endAR, eq_iff_iff]
  cases h : resA P rs env mem with
  | none => exact ⟨fun ⟨y, h, _⟩ => by simp at h, fun h => h.elim⟩
  | some y => exact ⟨fun ⟨y', h1, h2, h3⟩ => by cases h1; exact ⟨h2, h3⟩, fun ⟨h2, h3⟩ => ⟨y, rfl, h2, h3⟩⟩
theorem endAR_some {K : AV → Mem → Prop} {objs mobjs : List (Nat × AObj)} {n b w n' b' w' : Nat} {y : AV} : endAR ⟨mobjs, n, b, w⟩ K ⟨objs, n', b', w'⟩ (some y) = (keepsAll ⟨mobjs, n, b, w⟩ objs = true ∧ K y ⟨objs, n', b, w⟩) := (rfl)
theorem keepsAll_nil {objs : List (Nat × AObj)} {n b w : Nat} : keepsAll ⟨[], n, b, w⟩ objs = true := (rfl)
theorem keepsAll_cons {objs mobjs : List (Nat × AObj)} {n b w o : Nat} {x : AObj} : keepsAll ⟨(o, x) :: mobjs, n, b, w⟩ objs = ((lk objs o).isSome && keepsAll ⟨mobjs, n, b, w⟩ objs) := (rfl)
attribute [push_cast] endA_eq endAR_some keepsAll_nil keepsAll_cons
theorem ACalls.start {f : FuncId} {fn : Func} {c : Code} {rs : List ResultVar} {nt : Nat} {xs : List AV} {K : AV → Mem → Prop} (hf : P.funcs[f]? = some fn) (hb : fn.body = some c) (hn : (fn.name == "runtime.NumGoroutine") = false) (hrs : fn.results = rs.toArray) (hnt : fn.ntmps = nt) (hm : P.follows .mixedOrders = true) (hd : dOK c = true)
    (h : ev P γ m.next nt [.code c, .fin (endA P rs m K)] ⟨(xs.zipIdx.map fun p => (p.2, p.1)), m.close⟩) : ACalls P γ f xs m K := by
  refine ACalls.enter hf hb hn hm hd ?_
  rw [hrs, hnt]
  simpa using h
theorem PDoc.useF {g : FuncId} {xs ys : List AV} {ids : List Nat} {n z : Nat} {c t : AV} {e : Option Value} {E : TypeId} {cs : List AV} {u : Upd} {K : AV → Mem → Prop} (hp : PDoc P γ g ys n z c t e E cs) (hs : snapArgs m.find xs = some (ys, ids)) (hu : deadU m.find ids = u)
    (hK : K (mkR (e.map .v) [.sl m.next 0 n z, c, t]) ⟨(m.next, .cells E cs true) :: (u ++ m.objs), m.next + 1, m.base, m.wid⟩) : ACalls P γ g xs m K := PDoc.use hp hs (by rw [hu]; exact hK)
theorem mkR_none {xs : List AV} : mkR none xs = .agg xs := (rfl)
theorem mkR_some {e : AV} {xs : List AV} : mkR (some e) xs = .tup [.agg xs, e] := (rfl)
attribute [push_cast] mkR_none mkR_some
end Go.AW
namespace Go.AW
variable {P : Program} {γ : GTab}

def cutL : Nat → Code → List Code
  | 0, _ => []
  | n + 1, .seq a b => a :: cutL n b
  | _ + 1, _ => []
def cutR : Nat → Code → Code
  | 0, c => c
  | n + 1, .seq _ b => cutR n b
  | _ + 1, c => c
theorem cutL_zero {c : Code} : cutL 0 c = [] := (rfl)
theorem cutL_succ {n : Nat} {a b : Code} : cutL (n + 1) (.seq a b) = a :: cutL n b := (rfl)
theorem cutR_zero {c : Code} : cutR 0 c = c := (rfl)
theorem cutR_succ {n : Nat} {a b : Code} : cutR (n + 1) (.seq a b) = cutR n b := (rfl)
attribute [push_cast] cutL_zero cutL_succ cutR_zero cutR_succ
def codesK (Q : Exit → St → Prop) : List Code → List KI
  | [] => [.fin Q]
  | c :: l => .code c :: codesK Q l
theorem codesK_nil {Q : Exit → St → Prop} : codesK Q [] = [.fin Q] := (rfl)
theorem codesK_cons {Q : Exit → St → Prop} {c : Code} {l : List Code} : codesK Q (c :: l) = .code c :: codesK Q l := (rfl)
attribute [push_cast] codesK_nil codesK_cons
theorem exit_codesK {Q : Exit → St → Prop} {id : Nat} : ∀ (l : List Code), exitK id (codesK Q l) = none
  | [] => by simp [codesK, exitK]
  | c :: l => by simp only [codesK, exitK]; exact exit_codesK l
theorem ret_codesK {Q : Exit → St → Prop} : ∀ (l : List Code), retK (codesK Q l) = some Q
  | [] => by simp [codesK, retK]
  | c :: l => by simp only [codesK, retK]; exact ret_codesK l

/-- The first parts, and then the rest. -/
theorem cut_sound {n0 N : Nat} {m0 : Mem} {S0 : Nat → Nat → Prop} {μs : Nat → Option (Nat × Nat)} {w0 : World} (hm : P.follows .mixedOrders = true) {Q : Exit → St → Prop} {QQ : Exit → Act → World → Prop} : ∀ (n : Nat) (c : Code) (σ : St) (a : Act) (w : World), dOK c = true →
    ev P γ n0 N (codesK Q (cutL n c)) σ → RX γ N n0 m0 S0 μs w0 σ a w → (cutL n c).length = n → (∀ σ' a' w', Q .normal σ' → RX γ N n0 m0 S0 μs w0 σ' a' w' → (cutR n c).wp P QQ a' w') → (∀ σ' a' w', Q .ret σ' → RX γ N n0 m0 S0 μs w0 σ' a' w' → QQ .ret a' w') → c.wp P QQ a w
  | 0, c, σ, a, w, hd, h, hR, _, h1, h2 => by
    simp only [cutL, codesK] at h
    rw [ev] at h
    exact h1 σ a w h hR
  | n + 1, c, σ, a, w, hd, h, hR, hl, h1, h2 => by
    cases c with
    | seq x y =>
      simp only [dOK, Bool.and_eq_true] at hd
      simp only [cutL, codesK, List.length_cons, Nat.add_right_cancel_iff] at h hl
      refine wp_seq (wp_mono (ev_sound hm _ x _ σ a w hd.1 (Nat.le_refl _) h hR) fun e a w hp => ?_)
      cases e with
      | normal =>
        obtain ⟨σ', h3, h4⟩ := hp
        exact cut_sound hm n y σ' a w hd.2 h3 h4 hl h1 h2
      | ret =>
        obtain ⟨σ', Q', h3, h4, h5⟩ := hp
        rw [ret_codesK] at h3
        cases h3
        exact h2 σ' a w h4 h5
      | exit id =>
        obtain ⟨σ', k', h3, _⟩ := hp
        rw [exit_codesK] at h3; cases h3
      | _ => exact hp.elim
    | _ => simp [cutL] at hl

/-- A finite set of numbers as the bits of one. -/
theorem bits_of (T : Nat → Prop) : ∀ n : Nat, ∃ code : Nat, ∀ b, code.testBit b = true ↔ b < n ∧ T b
  | 0 => ⟨0, fun b => by simp⟩
  | n + 1 => by
    obtain ⟨code, h⟩ := bits_of T n
    by_cases ht : T n
    · refine ⟨code ||| 2 ^ n, fun b => ?_⟩
      rw [Nat.testBit_or, Nat.testBit_two_pow]
      simp only [Bool.or_eq_true, h, decide_eq_true_eq]
      constructor
      · rintro (⟨h1, h2⟩ | rfl)
        · exact ⟨by omega, h2⟩
        · exact ⟨by omega, ht⟩
      · rintro ⟨h1, h2⟩
        by_cases e : n = b
        · exact .inr e
        · exact .inl ⟨by omega, h2⟩
    · refine ⟨code, fun b => ?_⟩
      rw [h]
      constructor
      · rintro ⟨h1, h2⟩; exact ⟨by omega, h2⟩
      · rintro ⟨h1, h2⟩
        have : b ≠ n := fun e => ht (e ▸ h2)
        exact ⟨by omega, h2⟩

theorem PDoc.pre {f : FuncId} {xs ys : List AV} {n z : Nat} {c t : AV} {e : Option Value} {E : TypeId} {cs : List AV} (hp : PDoc P γ f ys n z c t e E cs) (hx : idfL xs = true) (he : untL xs = ys) : PDoc P γ f xs n z c t e E cs :=
  ⟨hx, hp.2.1, hp.2.2.1, hp.2.2.2.1, hp.2.2.2.2.1, fun S w vs h1 h2 h3 => hp.2.2.2.2.2 S w vs h1 h2 (he ▸ untL_rep xs vs h3)⟩
theorem tagD_agg {T : Nat → Prop} {xs : List AV} : tagD T (.agg xs) = .agg (xs.map (.on T false)) := (rfl)
theorem tagD_seq {T : Nat → Prop} {n z : Nat} {xs : List AV} : tagD T (.seq n z xs) = .on T false (.seq n z xs) := (rfl)
attribute [push_cast] tagD_agg tagD_seq
end Go.AW
