/- The evaluator, part 3: Regions whose order is open: one walk in the text's order serves every order. The evaluator's rules, for simp. The evaluator is sound (2): code. One state says what another one says. Operators on values, and lists of elements laid flat. Objects become values at a loop's head. Patches. More rules: objects, fields, appends. Calls, as the evaluator's goals meet them. More rules: built slices, appends. -/
import Derived.Test.YteoodenfggmpfaaFb
set_option linter.unusedSimpArgs false
set_option linter.unusedVariables false
namespace Go.AW
variable {P : Program} {γ : GTab} {all : Array Oper} {K : St → Prop}

structure Same (σ σ' : St) : Prop where
  env : ∀ t, lk σ.env t = lk σ'.env t
  objs : ∀ o, σ.mem.find o = σ'.mem.find o
  next : σ.mem.next = σ'.mem.next
  base : σ.mem.base = σ'.mem.base
  wid : σ.mem.wid = σ'.mem.wid

theorem Same.refl (σ : St) : Same σ σ := ⟨fun _ => rfl, fun _ => rfl, rfl, rfl, rfl⟩
theorem Same.symm {σ σ' : St} (h : Same σ σ') : Same σ' σ := ⟨fun t => (h.env t).symm, fun o => (h.objs o).symm, h.next.symm, h.base.symm, h.wid.symm⟩
theorem Same.trans {a b c : St} (h : Same a b) (k : Same b c) : Same a c := ⟨fun t => (h.env t).trans (k.env t), fun o => (h.objs o).trans (k.objs o), h.next.trans k.next, h.base.trans k.base, h.wid.trans k.wid⟩

theorem RM.same {S μ} {w : World} {m m' : Mem} (hr : RM S μ w m) (hf : ∀ o, m.find o = m'.find o) (hn : m.next = m'.next) (hb : m.base = m'.base) (hw : m.wid = m'.wid) : RM S μ w m' :=
  ⟨fun o ob h => by rw [← hf] at h; rw [← hn]; exact hr.obj o ob h, fun o o' ob ob' h h' => by rw [← hf] at h h'; exact hr.inj o o' ob ob' h h', hr.old, fun o h => hr.fr o (by omega), fun o h1 h2 h3 => by rw [← hf]; exact hr.win o (by omega) (by omega) h3, by have := hr.le; omega, hr.bk⟩
theorem owned_same {m m' : Mem} {μ : Nat → Option (Nat × Nat)} {b : Nat} (hf : ∀ o, m.find o = m'.find o) (h : Owned m μ b) : Owned m' μ b := by
  rcases h with ⟨o, ob, bo, h1, h2, h3⟩ | ⟨o, b0, code, h1, h2, h3⟩
  · exact .inl ⟨o, ob, bo, by rw [← hf]; exact h1, h2, h3⟩
  · exact .inr ⟨o, b0, code, by rw [← hf]; exact h1, h2, h3⟩
theorem owned_nil {n b0 wd : Nat} {μ : Nat → Option (Nat × Nat)} {b : Nat} : ¬ Owned ⟨[], n, b0, wd⟩ μ b := by
  rintro (⟨o, ob, bo, h1, h2, h3⟩ | ⟨o, b0, code, h1, h2, h3⟩) <;> simp [Mem.find, lk] at h1
theorem Ext.same {n0 : Nat} {m S μ w m1 S1 μ1 w1} {m2 : Mem} (h : Ext n0 m S μ w m1 S1 μ1 w1) (hf : ∀ o, m1.find o = m2.find o) (hn : m1.next = m2.next) : Ext n0 m S μ w m2 S1 μ1 w1 :=
  ⟨h.os, h.tape, h.output, h.size, h.ids, fun o ho hh => h.objs o ho (by rw [hf]; exact hh), by have := h.next; omega, h.sub, h.new, h.cell, h.map, fun b hb hh => ⟨(h.blk b hb hh).1, fun hx => (h.blk b hb hh).2 (owned_same (fun o => (hf o).symm) hx)⟩, h.bsz, h.uf⟩

section
variable {n0 N : Nat} {m0 : Mem} {S0 : Nat → Nat → Prop} {μs : Nat → Option (Nat × Nat)} {w0 : World}

theorem RX.same {σ σ' : St} {a : Act} {w : World} (h : RX γ N n0 m0 S0 μs w0 σ a w) (hs : Same σ σ') : RX γ N n0 m0 S0 μs w0 σ' a w := by
  obtain ⟨S, μ, hA, hG, hE, hN, hb, hw⟩ := h
  exact ⟨S, μ, ⟨hA.rm.same hs.objs hs.next hs.base hs.wid, fun t x ht => hA.env t x (by rw [hs.env]; exact ht), hA.defers⟩, hG, hE.same hs.objs hs.next, hN, by rw [← hs.base]; exact hb, by rw [← hs.wid]; exact hw⟩

def stepSt (o : Oper) (x : AV) (u : Upd) (σ : St) : St := ⟨putE o.dst x σ.env, σ.mem.upd u⟩

theorem lk_putE (dst : Option Nat) (x : AV) (env : List (Nat × AV)) (t : Nat) : lk (putE dst x env) t = if dst = some t then some x else lk env t := by
  cases dst with
  | none => simp [putE]
  | some d => simp only [putE, lk, Option.some.injEq]

theorem Same.step {σ σ' : St} (h : Same σ σ') (o : Oper) (x : AV) (u : Upd) : Same (stepSt o x u σ) (stepSt o x u σ') :=
  ⟨fun t => by simp only [stepSt, lk_putE, h.env], fun q => by simp only [stepSt, find_upd, h.objs], h.next, h.base, h.wid⟩

/-- Is an operation wanted? -/
def gd (all : Array Oper) (o : Oper) (σ : St) : Option Bool :=
  match o.guard with
  | none => some true
  | some (j, want) => match (all[j]?).bind (·.dst) with
    | some d => match lk σ.env d with
      | some (.v (.bool b)) => some (b == want)
      | some (.v (.tuple ⟨[]⟩)) => some false
      | _ => none
    | none => none

def OpR (P : Program) (γ : GTab) (o : Oper) (σ : St) (x : AV) (u : Upd) (rd : List Nat) : Prop :=
  match o.op with
  | .call { callee := .value f, args, .. } => ∃ g a c xs, calleeOf (rho γ σ.env f) = some (g, a, c) ∧ snapArgs σ.mem.find ((a ++ args.toList.map (rho γ σ.env) ++ c).map unf) = some (xs, rd) ∧ ((Fit P γ g xs rd x ∧ u = []) ∨ (PCall P γ g xs x ∧ u = deadU σ.mem.find rd))
  | _ => stepF P (rho γ σ.env) σ.mem.find (freshOf σ.mem o.dst) o.op = some (x, u) ∧ updOK σ.mem o.dst u = true ∧ rd = fpOf γ σ.env o.op

/-- An operation yields a value, looks at objects, and turns some. -/
def Yld (P : Program) (γ : GTab) (all : Array Oper) (o : Oper) (σ : St) (x : AV) (u : Upd) (rd : List Nat) : Prop :=
  (gd all o σ = some true ∧ dstOK σ.mem o.dst ∧ OpR P γ o σ x u rd) ∨ (gd all o σ = some false ∧ x = .v undef ∧ u = [] ∧ rd = [])

theorem rho_eq {env env' : List (Nat × AV)} {x : Operand} (h : ∀ t, x = .tmp t → lk env t = lk env' t) : rho γ env x = rho γ env' x := by
  cases x with
  | tmp t => simp only [rho, h t rfl]
  | _ => rfl

theorem looks_op {o : Oper} {t : Nat} (h : Operand.tmp t ∈ o.op.operands) : t ∈ o.looksAt all := by
  unfold Oper.looksAt
  exact List.mem_append_left _ (List.mem_filterMap.2 ⟨.tmp t, by simpa using h, rfl⟩)
theorem looks_guard {o : Oper} {j d : Nat} {want : Bool} (h : o.guard = some (j, want)) (hd : (all[j]?).bind (·.dst) = some d) : d ∈ o.looksAt all := by
  unfold Oper.looksAt
  refine List.mem_append_right _ ?_
  rw [h]
  simp only [hd, Option.toList_some, List.mem_singleton]

theorem deadU_loc {f g : Nat → Option AObj} {ids : List Nat} (h : ∀ q ∈ ids, f q = g q) : deadU f ids = deadU g ids := by
  unfold deadU
  rw [List.filter_congr fun o ho => by rw [h o ho]]

/-- It yields the same wherever what it looks at is the same. -/
theorem Yld.move {o : Oper} {σ σ' : St} {x : AV} {u : Upd} {rd : List Nat} (h : Yld P γ all o σ x u rd) (henv : ∀ t, t ∈ o.looksAt all → lk σ.env t = lk σ'.env t) (hrd : ∀ q ∈ rd, σ.mem.find q = σ'.mem.find q) (hwr : ∀ q ∈ wrOf u, σ.mem.find q = σ'.mem.find q)
    (hb : σ.mem.base = σ'.mem.base) (hw : σ.mem.wid = σ'.mem.wid) : Yld P γ all o σ' x u rd := by
  have hgd : gd all o σ' = gd all o σ := by
    unfold gd
    cases hg : o.guard with
    | none => rfl
    | some p =>
      obtain ⟨j, want⟩ := p
      simp only
      cases hd : (all[j]?).bind (·.dst) with
      | none => rfl
      | some d => simp only; rw [henv d (looks_guard hg hd)]
  have hrho : ∀ y ∈ o.op.operands, rho γ σ.env y = rho γ σ'.env y := fun y hy => rho_eq fun t e => by subst e; exact henv t (looks_op hy)
  rcases h with ⟨h1, h2, h3⟩ | ⟨h1, h2⟩
  · refine .inl ⟨by rw [hgd]; exact h1, ?_, ?_⟩
    · cases hd : o.dst with
      | none => trivial
      | some d => rw [hd] at h2; simp only [dstOK] at h2 ⊢; omega
    · unfold OpR at h3 ⊢
      split at h3
      · rename_i f args ts hop
        obtain ⟨g, a, c, xs, e1, e2, e3⟩ := h3
        have hf : rho γ σ.env f = rho γ σ'.env f := hrho f (by rw [hop]; simp [Op.operands, Call.operands])
        have ha : args.toList.map (rho γ σ.env) = args.toList.map (rho γ σ'.env) := List.map_congr_left fun y hy => hrho y (by rw [hop]; simp [Op.operands, Call.operands]; exact .inr (by simpa using hy))
        exact ⟨g, a, c, xs, by rw [← hf]; exact e1, by rw [← ha]; exact snapArgs_loc e2 hrd, e3.imp_right fun e => ⟨e.1, e.2.trans (deadU_loc hrd)⟩⟩
      · rename_i hno
        obtain ⟨e1, e2, e3⟩ := h3
        have hfr : freshOf σ.mem o.dst = freshOf σ'.mem o.dst := by simp only [freshOf, hb]
        refine ⟨?_, ?_, ?_⟩
        · rw [← hfr, ← e1]
          exact (stepF_loc hrho (fun y hy q hq => hrd q (by rw [e3]; exact List.mem_flatMap.2 ⟨y, by simpa using hy, hq⟩))).symm
        · cases hd : o.dst with
          | none => rw [hd] at e2; simp only [updOK, ← hb] at e2 ⊢; exact e2
          | some d =>
            rw [hd] at e2
            simp only [updOK, ← hb, Bool.or_eq_true] at e2 ⊢
            rcases e2 with e2 | e2
            · exact .inl e2
            · cases hl : lk u (σ.mem.base + d) with
              | none => exact .inl rfl
              | some ob =>
                right
                rw [← hwr _ (lk_mem hl)]
                exact e2
        · rw [e3]
          unfold fpOf
          rw [List.flatMap_def, List.flatMap_def]
          congr 1
          exact List.map_congr_left fun y hy => by rw [hrho y (by simpa using hy)]
  · exact .inr ⟨by rw [hgd]; exact h1, h2⟩
where
  lk_mem {u : Upd} {q : Nat} {ob : AObj} (h : lk u q = some ob) : q ∈ wrOf u := by
    induction u with
    | nil => simp [lk] at h
    | cons p u ih =>
      obtain ⟨n, y⟩ := p
      simp only [lk] at h
      simp only [wrOf, List.map_cons, List.mem_cons]
      split at h
      · rename_i e; exact .inl e.symm
      · exact .inr (ih h)

theorem Yld.same {o : Oper} {σ σ' : St} {x : AV} {u : Upd} {rd : List Nat} (h : Yld P γ all o σ x u rd) (hs : Same σ σ') : Yld P γ all o σ' x u rd :=
  h.move (fun t _ => hs.env t) (fun q _ => hs.objs q) (fun q _ => hs.objs q) hs.base hs.wid

theorem lk_none_of {u : Upd} {q : Nat} (h : q ∉ wrOf u) : lk u q = none := by
  induction u with
  | nil => rfl
  | cons p u ih =>
    obtain ⟨n, y⟩ := p
    simp only [wrOf, List.map_cons, List.mem_cons, not_or] at h
    simp only [lk]
    rw [if_neg (Ne.symm h.1)]
    exact ih h.2

theorem meet_false {a b : List Nat} (h : meet a b = false) : ∀ q ∈ a, q ∉ b := by
  intro q hq hb
  unfold meet at h
  have : (a.any fun o => b.contains o) = true := List.any_eq_true.2 ⟨q, hq, by simpa using hb⟩
  rw [this] at h; cases h

/-- Two operations that stand in nobody's way. -/
theorem swap {oi oj : Oper} {σ : St} {x x' : AV} {u u' : Upd} {rd rd' : List Nat} (hi : Yld P γ all oi σ x u rd) (hj : Yld P γ all oj (stepSt oi x u σ) x' u' rd') (hap : oi.apart all oj = true)
    (h1 : meet (wrOf u') rd = false) (h2 : meet (wrOf u') (wrOf u) = false) (h3 : meet rd' (wrOf u) = false) :
    Yld P γ all oj σ x' u' rd' ∧ Yld P γ all oi (stepSt oj x' u' σ) x u rd ∧ Same (stepSt oj x' u' (stepSt oi x u σ)) (stepSt oi x u (stepSt oj x' u' σ)) := by
  obtain ⟨a1, a2, a3⟩ := Oper.apart_spec hap
  have f1 : ∀ q, q ∉ wrOf u → (stepSt oi x u σ).mem.find q = σ.mem.find q := fun q hq => by
    simp only [stepSt, find_upd, lk_none_of hq]
  have f2 : ∀ q, q ∉ wrOf u' → (stepSt oj x' u' σ).mem.find q = σ.mem.find q := fun q hq => by
    simp only [stepSt, find_upd, lk_none_of hq]
  refine ⟨hj.move (fun t ht => ?_) (fun q hq => f1 q (meet_false h3 q hq)) (fun q hq => f1 q (meet_false h2 q hq)) rfl rfl, hi.move (fun t ht => ?_) (fun q hq => (f2 q (fun hx => meet_false h1 q hx hq)).symm) (fun q hq => (f2 q (fun hx => meet_false h2 q hx hq)).symm) rfl rfl, fun t => ?_, fun q => ?_, rfl, rfl, rfl⟩
  · simp only [stepSt, lk_putE]
    rw [if_neg (fun e => a1 t e ht)]
  · simp only [stepSt, lk_putE]
    rw [if_neg (fun e => a3 t e ht)]
  · simp only [stepSt, lk_putE]
    by_cases e1 : oi.dst = some t
    · rw [if_neg (fun e => a2 t e1 e), if_pos e1, if_pos e1]
    · rw [if_neg e1]
      by_cases e2 : oj.dst = some t
      · simp [e1, e2]
      · simp [e1, e2]
  · simp only [stepSt, find_upd]
    by_cases e1 : q ∈ wrOf u'
    · rw [lk_none_of (meet_false h2 q e1)]
    · rw [lk_none_of e1]

def LogLe (l l' : Log) : Prop := ∀ e ∈ l, e ∈ l' ∨ (e.2.1 = [] ∧ e.2.2 = [])
theorem okLog_le {i : Nat} {rd wr : List Nat} {l l' : Log} (h : LogLe l l') (hl : okLog all i rd wr l' = true) : okLog all i rd wr l = true := by
  unfold okLog at *
  rw [List.all_eq_true] at *
  intro e he
  rcases h e he with h | ⟨h1, h2⟩
  · exact hl e h
  · have : ∀ a : List Nat, meet a [] = false := fun a => by unfold meet; simp
    simp [h1, h2, this]
theorem LogLe.cons {l l' : Log} (h : LogLe l l') (e : Nat × List Nat × List Nat) : LogLe (e :: l) (e :: l') := fun x hx => by
  rcases List.mem_cons.1 hx with h1 | h1
  · exact .inl (by simp [h1])
  · rcases h x h1 with h2 | h2
    · exact .inl (by simp [h2])
    · exact .inr h2
theorem LogLe.refl (l : Log) : LogLe l l := fun _ h => .inl h
theorem LogLe.swap (a b : Nat × List Nat × List Nat) (l : Log) : LogLe (a :: b :: l) (b :: a :: l) := fun x hx => by
  simp only [List.mem_cons] at hx ⊢
  rcases hx with h | h | h
  · exact .inl (.inr (.inl h))
  · exact .inl (.inl h)
  · exact .inl (.inr (.inr h))

def Fin (K : St → Prop) (σ : St) : Prop := ∃ σ', Same ⟨σ.env, σ.mem.close⟩ σ' ∧ K σ'

def anyA (P : Program) (γ : GTab) (all : Array Oper) (K : St → Prop) : Nat → Array Bool → Log → St → Prop
  | 0, listed, _, σ => Region.ready .any all listed = [] ∧ Fin K σ
  | n + 1, listed, log, σ => (Region.ready .any all listed = [] → Fin K σ) ∧ ∀ i ∈ Region.ready .any all listed, ∃ o x u rd, all[i]? = some o ∧ Yld P γ all o σ x u rd ∧ okLog all i rd (wrOf u) log = true ∧
      anyA P γ all K n (listed.setIfInBounds i true) ((i, rd, wrOf u) :: log) (stepSt o x u σ)

theorem Fin.same {σ σ' : St} (h : Fin K σ) (hs : Same σ σ') : Fin K σ' := by
  obtain ⟨τ, h1, h2⟩ := h
  have h3 : Same ⟨σ'.env, σ'.mem.close⟩ ⟨σ.env, σ.mem.close⟩ := by
    constructor
    · exact fun t => (hs.env t).symm
    · exact fun o => (hs.objs o).symm
    · exact hs.next.symm
    · exact hs.next.symm
    · rfl
  exact ⟨τ, h3.trans h1, h2⟩

theorem anyA.congr : ∀ {n : Nat} {listed : Array Bool} {log log' : Log} {σ σ' : St}, anyA P γ all K n listed log σ → Same σ σ' → LogLe log' log → anyA P γ all K n listed log' σ'
  | 0, _, _, _, _, _, h, hs, _ => ⟨h.1, h.2.same hs⟩
  | n + 1, _, _, _, _, _, h, hs, hl => ⟨fun hr => (h.1 hr).same hs, fun i hi => by
      obtain ⟨o, x, u, rd, h1, h2, h3, h4⟩ := h.2 i hi
      exact ⟨o, x, u, rd, h1, h2.same hs, okLog_le hl h3, h4.congr (hs.step o x u) (hl.cons _)⟩⟩

/-- What is done has all done that it waits for. -/
def Closed (all : Array Oper) (listed : Array Bool) : Prop := ∀ k o, all[k]? = some o → listed.getD k false = true → ∀ e ∈ o.after, Region.binds .any e = true → listed.getD e.on false = true

theorem ordB_false {listed : Array Bool} {i : Nat} (hc : Closed all listed) (hi : listed.getD i false = false) : ∀ (n : Nat) (j : Nat) (oj : Oper), all[j]? = some oj → (∀ e ∈ oj.after, Region.binds .any e = true → listed.getD e.on false = true) → ordB all n i j = false
  | 0, _, _, _, _ => rfl
  | n + 1, j, oj, hj, h => by
    simp only [ordB, hj, Option.map_some, Option.getD_some]
    rw [← Bool.not_eq_true]
    intro hany
    rw [Array.any_toList] at hany
    obtain ⟨e, he, hb⟩ := Array.any_eq_true'.1 hany
    simp only [Bool.and_eq_true, Bool.or_eq_true, beq_iff_eq] at hb
    have hl := h e he hb.1
    rcases hb.2 with h1 | h1
    · rw [h1, hi] at hl; cases hl
    · cases hk : all[e.on]? with
      | none =>
        cases n with
        | zero => simp [ordB] at h1
        | succ n => simp [ordB, hk] at h1
      | some ok =>
        rw [ordB_false hc hi n e.on ok hk (hc e.on ok hk hl)] at h1; cases h1

theorem Closed.set {listed : Array Bool} {j : Nat} {oj : Oper} (hc : Closed all listed) (hj : all[j]? = some oj) (h : ∀ e ∈ oj.after, Region.binds .any e = true → listed.getD e.on false = true) : Closed all (listed.setIfInBounds j true) := by
  intro k o hk hl e he hb
  by_cases hjk : j = k
  · subst hjk; rw [hj] at hk; cases hk; exact getD_set_true (h e he hb)
  · rw [getD_set_ne false hjk] at hl
    exact getD_set_true (hc k o hk hl e he hb)

theorem getD_tf {listed : Array Bool} {i : Nat} (h : listed.getD i true = false) : listed.getD i false = false := by
  rcases Nat.lt_or_ge i listed.size with h' | h'
  · simp [h'] at h ⊢; exact h
  · simp [Array.getElem?_eq_none h'] at h

theorem anyA_first {i : Nat} {oi : Oper} {x : AV} {u : Upd} {rd : List Nat} (hi : all[i]? = some oi) :
    ∀ (n : Nat) (listed : Array Bool) (log : Log) (σ : St), Closed all listed →
      (∀ j oj, all[j]? = some oj → j ≠ i → listed.getD j true = false → (∀ e ∈ oj.after, Region.binds .any e = true → e.on ≠ i) → oi.apart all oj = true) →
      i ∈ Region.ready .any all listed → Yld P γ all oi σ x u rd → okLog all i rd (wrOf u) log = true →
      anyA P γ all K n (listed.setIfInBounds i true) ((i, rd, wrOf u) :: log) (stepSt oi x u σ) → anyA P γ all K (n + 1) listed log σ := by
  intro n
  induction n with
  | zero =>
    intro listed log σ hc hfree hr hy hlog H
    refine ⟨fun h => (by rw [h] at hr; cases hr), fun j hj => ?_⟩
    by_cases hji : j = i
    · subst hji; exact ⟨oi, x, u, rd, hi, hy, hlog, H⟩
    · have := ready_mono hj hji
      rw [H.1] at this
      cases this
  | succ n ih =>
    intro listed log σ hc hfree hr hy hlog H
    refine ⟨fun h => (by rw [h] at hr; cases hr), fun j hj => ?_⟩
    by_cases hji : j = i
    · subst hji; exact ⟨oi, x, u, rd, hi, hy, hlog, H⟩
    · obtain ⟨oj, x', u', rd', hoj, hy', hlog', H'⟩ := H.2 j (ready_mono hj hji)
      obtain ⟨hjun, oj', hoj', hall⟩ := mem_ready.1 hj
      rw [hoj] at hoj'; cases hoj'
      have hi0 := getD_tf (mem_ready.1 hr).1
      have hnot : ∀ e ∈ oj.after, Region.binds .any e = true → e.on ≠ i := fun e he hb heq => by
        have h1 := hall e he hb
        rw [heq, hi0] at h1; cases h1
      have hord : ordB all all.size i j = false := ordB_false hc hi0 all.size j oj hoj hall
      unfold okLog at hlog'
      rw [List.all_cons, Bool.and_eq_true] at hlog'
      obtain ⟨hl1, hl2⟩ := hlog'
      simp only [hord, Bool.or_false, Bool.not_eq_true', Bool.or_eq_false_iff] at hl1
      obtain ⟨⟨c1, c2⟩, c3⟩ := hl1
      have hap := hfree j oj hoj hji hjun hnot
      obtain ⟨s1, s2, s3⟩ := swap hy hy' hap c1 c2 c3
      refine ⟨oj, x', u', rd', hoj, s1, hl2, ?_⟩
      have hc' : Closed all (listed.setIfInBounds j true) := hc.set hoj hall
      have hfree' : ∀ k ok, all[k]? = some ok → k ≠ i → (listed.setIfInBounds j true).getD k true = false → (∀ e ∈ ok.after, Region.binds .any e = true → e.on ≠ i) → oi.apart all ok = true := fun k ok hk hki hun hno => by
        refine hfree k ok hk hki ?_ hno
        by_cases hjk : j = k
        · subst hjk; exact hjun
        · rw [getD_set_ne true hjk] at hun; exact hun
      refine ih (listed.setIfInBounds j true) ((j, rd', wrOf u') :: log) (stepSt oj x' u' σ) hc' hfree' (ready_mono hr (Ne.symm hji)) s2 ?_ ?_
      · unfold okLog
        rw [List.all_cons, Bool.and_eq_true]
        refine ⟨?_, hlog⟩
        have sym : ∀ {a b : List Nat}, meet a b = false → meet b a = false := fun {a b} h => by
          unfold meet
          rw [← Bool.not_eq_true]
          intro hany
          obtain ⟨q, hq, hb⟩ := List.any_eq_true.1 hany
          exact meet_false h q (by simpa using hb) hq
        simp only [sym c1, sym c2, sym c3, Bool.or_self, Bool.not_false, Bool.true_or]
      · rw [Array.setIfInBounds_comm _ _ hji]
        exact H'.congr s3 (LogLe.swap _ _ _)

theorem evB_inv {r : Option AV} {want : Bool} {yes no : Prop} (h : evB r want yes no) : ∃ b, r = some (.v (.bool b)) ∧ (b = want → yes) ∧ (b = (!want) → no) := by
  unfold evB evBb at h
  split at h
  · rename_i b hb
    refine ⟨b, ?_, h⟩
    cases r with
    | none => cases hb
    | some x =>
      simp only [Option.bind_some] at hb
      cases x <;> simp only [boolA, reduceCtorEq] at hb
      rename_i x
      cases x <;> simp only [boolOf, reduceCtorEq, Option.some.injEq] at hb
      rw [hb]
  · exact h.elim

theorem skipA_spec {r : Option AV} (h : skipA r = true) : r = some (.v undef) := by
  unfold skipA at h
  split at h
  · rfl
  · cases h
theorem evU_inv {b : Bool} {x y : Prop} (h : evU b x y) : (b = true ∧ x) ∨ (b = false ∧ y) := by
  cases b with
  | true => exact .inl ⟨rfl, h⟩
  | false => exact .inr ⟨rfl, h⟩
theorem gd_skip {o : Oper} {σ : St} {j d : Nat} {want : Bool} (hg : o.guard = some (j, want)) (hd : (all[j]?).bind (·.dst) = some d) (h : skipA (lk σ.env d) = true) : gd all o σ = some false := by
  simp only [gd, hg, hd, skipA_spec h, undef]

theorem same_lit {σ : St} {d : Nat} {b : Bool} (h : lk σ.env d = some (.v (.bool b))) : Same σ ⟨(d, .v (.bool b)) :: σ.env, σ.mem⟩ :=
  ⟨fun t => by simp only [lk]; split
               · rename_i e; subst e; exact h
               · rfl, fun _ => rfl, rfl, rfl, rfl⟩

theorem evDO_inv {o : Oper} {i : Nat} {log : Log} {σ : St} {K : Log → St → Prop} (h : evDO P γ all i log o σ K) : ∃ x u rd, dstOK σ.mem o.dst ∧ OpR P γ o σ x u rd ∧ okLog all i rd (wrOf u) log = true ∧ K ((i, rd, wrOf u) :: log) (stepSt o x u σ) := by
  unfold evDO at h
  split at h
  · rename_i f args ts hop
    unfold evDC at h
    split at h
    · rename_i g a c hc
      unfold evDC2 at h
      split at h
      · rename_i xs ids hs
        obtain ⟨h1, h2⟩ := h
        rcases h2 with ⟨h2, x, h3, h5⟩ | ⟨h2, x, h3, h5⟩
        case inr => exact ⟨x, deadU σ.mem.find ids, ids, h1, by unfold OpR; rw [hop]; exact ⟨g, a, c, xs, hc, hs, .inr ⟨h3, rfl⟩⟩, h2, h5⟩
        refine ⟨x, [], ids, h1, ?_, h2, ?_⟩
        · unfold OpR; rw [hop]; exact ⟨g, a, c, xs, hc, hs, .inl ⟨h3, rfl⟩⟩
        · have : σ.mem.upd [] = σ.mem := by cases σ.mem; rfl
          simp only [stepSt, this]
          exact h5
      · exact h.elim
    · exact h.elim
  · rename_i hno
    unfold evDS at h
    split at h
    · rename_i x u hs
      obtain ⟨h1, h2, h3, h4⟩ := h
      refine ⟨x, u, fpOf γ σ.env o.op, h1, ?_, h3, h4⟩
      unfold OpR
      split
      · rename_i f args ts hop; exact absurd hop (hno f args ts)
      · exact ⟨hs, h2, rfl⟩
    · exact h.elim

theorem OpR.same {o : Oper} {σ σ' : St} {x : AV} {u : Upd} {rd : List Nat} (h : OpR P γ o σ x u rd) (hs : Same σ σ') : OpR P γ o σ' x u rd := by
  have hrho : ∀ y, rho γ σ.env y = rho γ σ'.env y := fun y => rho_eq fun t _ => hs.env t
  unfold OpR at h ⊢
  split at h
  · rename_i f args ts hop
    obtain ⟨g, a, c, xs, e1, e2, e3⟩ := h
    have ha : args.toList.map (rho γ σ.env) = args.toList.map (rho γ σ'.env) := List.map_congr_left fun y _ => hrho y
    exact ⟨g, a, c, xs, by rw [← hrho]; exact e1, by rw [← ha]; exact snapArgs_loc e2 (fun q _ => hs.objs q), e3.imp_right fun e => ⟨e.1, e.2.trans (deadU_loc fun q _ => hs.objs q)⟩⟩
  · obtain ⟨e1, e2, e3⟩ := h
    have hfr : freshOf σ.mem o.dst = freshOf σ'.mem o.dst := by simp only [freshOf, hs.base]
    refine ⟨?_, ?_, ?_⟩
    · rw [← hfr, ← e1]
      exact (stepF_loc (fun y _ => hrho y) (fun y _ q _ => hs.objs q)).symm
    · unfold updOK at e2 ⊢
      rw [← hs.base]
      cases hdd : o.dst with
      | none => rw [hdd] at e2; exact e2
      | some d => rw [hdd] at e2; simpa only [hs.objs] using e2
    · rw [e3]; unfold fpOf
      rw [List.flatMap_def, List.flatMap_def]
      congr 1
      exact List.map_congr_left fun y _ => by rw [hrho y]

theorem evDG_inv {o : Oper} {i : Nat} {log : Log} {σ : St} {K : Log → St → Prop} (h : evDG P γ all i log o σ K) : ∃ x u rd σ' log', Yld P γ all o σ x u rd ∧ okLog all i rd (wrOf u) log = true ∧ Same (stepSt o x u σ) σ' ∧ LogLe ((i, rd, wrOf u) :: log) log' ∧ K log' σ' := by
  unfold evDG at h
  split at h
  · rename_i hg
    obtain ⟨x, u, rd, h1, h2, h3, h4⟩ := evDO_inv h
    exact ⟨x, u, rd, _, _, .inl ⟨by simp [gd, hg], h1, h2⟩, h3, Same.refl _, LogLe.refl _, h4⟩
  · rename_i j want hg
    split at h
    · rename_i d hd
      rcases evU_inv h with ⟨hsk, hk⟩ | ⟨_, h⟩
      · refine ⟨.v undef, [], [], ⟨putE o.dst (.v undef) σ.env, σ.mem⟩, log, .inr ⟨gd_skip hg hd hsk, rfl, rfl, rfl⟩, ?_, ⟨fun _ => rfl, fun q => ?_, rfl, rfl, rfl⟩, fun e he => ?_, hk⟩
        · unfold okLog
          have : ∀ a : List Nat, meet [] a = false := fun a => by unfold meet; simp
          simp [wrOf, this]
        · simp only [stepSt, find_upd, lk]
        · rcases List.mem_cons.1 he with rfl | he
          · exact .inr ⟨rfl, rfl⟩
          · exact .inl he
      obtain ⟨b, hb, hy, hn⟩ := evB_inv h
      have hgd : gd all o σ = some (b == want) := by simp [gd, hg, hd, hb]
      have hsm := same_lit hb
      by_cases hbw : b = want
      · subst hbw
        obtain ⟨x, u, rd, h1, h2, h3, h4⟩ := evDO_inv (hy rfl)
        exact ⟨x, u, rd, _, _, .inl ⟨by rw [hgd]; simp, h1, h2.same hsm.symm⟩, h3, hsm.step o x u, LogLe.refl _, h4⟩
      · have hbn : b = (!want) := by cases b <;> cases want <;> simp_all
        have hk := hn hbn
        rw [← hbn] at hk
        refine ⟨.v undef, [], [], ⟨putE o.dst (.v undef) ((d, .v (.bool b)) :: σ.env), σ.mem⟩, log, .inr ⟨by rw [hgd]; simp [hbw], rfl, rfl, rfl⟩, ?_, ?_, fun e he => ?_, hk⟩
        · unfold okLog
          have : ∀ a : List Nat, meet [] a = false := fun a => by unfold meet; simp
          simp [wrOf, this]
        · have := hsm.step o (.v undef) []
          refine this.trans ⟨fun _ => rfl, fun q => ?_, rfl, rfl, rfl⟩
          simp only [stepSt, find_upd, lk]
        · rcases List.mem_cons.1 he with rfl | he
          · exact .inr ⟨rfl, rfl⟩
          · exact .inl he
    · exact h.elim

theorem any_lex : ∀ (l : List Oper) (k : Nat) (listed : Array Bool) (log log' : Log) (σ σ' : St), (∀ j, l[j]? = all[k + j]?) → Region.lexFrom .any all l.length k listed = true → Closed all listed →
    Same σ σ' → LogLe log log' → evDL P γ all k l K log' σ' → anyA P γ all K l.length listed log σ
  | [], k, listed, log, log', σ, σ', _, hB, _, hs, _, h => ⟨by simpa [Region.lexFrom] using hB, by
      simp only [evDL] at h
      exact Fin.same ⟨_, Same.refl _, h⟩ hs.symm⟩
  | o :: l, k, listed, log, log', σ, σ', hl, hB, hc, hs, hlog, h => by
    have h0 : all[k]? = some o := by simpa using (hl 0).symm
    simp only [List.length_cons, Region.lexFrom, Bool.and_eq_true] at hB
    obtain ⟨⟨hr, hf⟩, hB'⟩ := hB
    simp only [evDL] at h
    obtain ⟨x, u, rd, τ, log2, hy, hok, hsm, hle, hK⟩ := evDG_inv h
    have hready : k ∈ Region.ready .any all listed := by simpa using hr
    obtain ⟨_, o', ho', hall⟩ := mem_ready.1 hready
    rw [h0] at ho'; cases ho'
    exact anyA_first h0 l.length listed log σ hc (Region.free_spec h0 hf) hready (hy.same hs.symm) (okLog_le hlog hok)
      (any_lex l (k + 1) _ _ log2 _ τ (fun j => by have := hl (j + 1); simpa [Nat.add_assoc, Nat.add_comm 1 j] using this) hB' (hc.set h0 hall) ((hs.step o x u).trans hsm) (fun e he => by
        rcases List.mem_cons.1 he with h1 | h1
        · exact hle e (by simp [h1])
        · rcases hlog e h1 with h2 | h2
          · exact hle e (by simp [h2])
          · exact .inr h2) hK)

theorem wanted_gd {o : Oper} {σ : St} {a : Act} {w : World} {b : Bool} (h : RX γ N n0 m0 S0 μs w0 σ a w) (hg : gd all o σ = some b) : Region.wanted o (yielded all a.tmps) = b := by
  obtain ⟨S, μ, hA, _⟩ := h
  unfold gd at hg
  unfold Region.wanted
  split at hg
  · rename_i h0; simp only [Option.some.injEq] at hg; simp only [h0, hg]
  · rename_i j want h0
    simp only [h0]
    split at hg
    · rename_i d hd
      split at hg
      · rename_i c hc
        simp only [Option.some.injEq] at hg
        have := hA.env d _ hc
        simp only [Rep] at this
        have hget : a.tmps[d]? = some (.bool c) := by
          rcases Nat.lt_or_ge d a.tmps.size with hlt | hge
          · simp [hlt] at this; simp [hlt, this]
          · simp [Array.getElem?_eq_none hge, undef] at this
        simp only [yielded, hd, Option.bind_some, hget, Option.some_beq_some, hg]
      · rename_i hc
        simp only [Option.some.injEq] at hg
        have := hA.env d _ hc
        simp only [Rep] at this
        have hget : a.tmps[d]? = none ∨ a.tmps[d]? = some (.tuple ⟨[]⟩) := by
          rcases Nat.lt_or_ge d a.tmps.size with hlt | hge
          · simp [hlt] at this; simp [hlt, this]
          · exact .inl (Array.getElem?_eq_none hge)
        rw [← hg]
        rcases hget with hget | hget <;> simp only [yielded, hd, Option.bind_some, hget] <;> rfl
      · cases hg
    · cases hg

theorem yld_sound {o : Oper} {σ : St} {x : AV} {u : Upd} {rd : List Nat} {a : Act} {w : World} {Kn : Act → World → Prop} {Q : Exit → Act → World → Prop} (hw : Region.wanted o (yielded all a.tmps) = true) (h : Yld P γ all o σ x u rd) (hR : RX γ N n0 m0 S0 μs w0 σ a w)
    (hK : ∀ a' w', RX γ N n0 m0 S0 μs w0 (stepSt o x u σ) a' w' → Kn a' w') : o.wp P a w Kn Q := by
  rcases h with ⟨hg, hd, h⟩ | ⟨hg, _⟩
  · unfold OpR at h
    split at h
    · rename_i f args ts hop
      obtain ⟨g, p, q, xs, e1, e2, e3⟩ := h
      rcases e3 with ⟨e3, e5⟩ | ⟨e3, e5⟩
      case inr =>
        subst e5
        obtain ⟨S, μ, hA, hG, hE, hN, hb, hwid⟩ := hR
        obtain ⟨fs, cs, hf, hp, hq⟩ := callee_run e1 (rho_rep hA hG f)
        obtain ⟨dst, op, ty, pos, after, guard⟩ := o
        simp only at hop hd
        subst hop
        unfold Oper.wp
        rw [call_run hf e3.2.2.1]
        simp only [Oper.upon]
        refine (e3.runF e2 hA.rm hG (unfs_rep ((hp.append (args_rep (fun x => rho_rep hA hG x) args)).append hq))).mono fun e w' he => ?_
        obtain ⟨v, S', rfl, h1, h2, h3, h4⟩ := he
        refine hK _ _ ⟨S', μ, ⟨h1, env_put (RX.keepEnv h2 hA.env) (fun d hdst => ?_) h4, by rw [defers_put]; exact hA.defers⟩, hG.keep h2, ?_, by rw [size_put]; exact hN, hb, hwid⟩
        · have hdst' : dst = some d := hdst
          rw [hdst'] at hd; simp only [dstOK] at hd; omega
        · exact hE.trans (n1 := n0) (Nat.le_refl _) (h3 n0 (by have := hA.rm.le; omega))
      subst e5
      obtain ⟨S, μ, hA, hG, hE, hN, hb, hwid⟩ := hR
      obtain ⟨fs, cs, hf, hp, hq⟩ := callee_run e1 (rho_rep hA hG f)
      obtain ⟨dst, op, ty, pos, after, guard⟩ := o
      simp only at hop hd
      subst hop
      unfold Oper.wp
      rw [call_run hf e3.callable]
      simp only [Oper.upon]
      refine (e3.run e2 hA.rm hG (unfs_rep ((hp.append (args_rep (fun x => rho_rep hA hG x) args)).append hq))).mono fun e w' he => ?_
      obtain ⟨v, S', rfl, h1, h2, h3, h4⟩ := he
      have hupd : σ.mem.upd [] = σ.mem := by cases σ.mem; rfl
      refine hK _ _ ⟨S', μ, ⟨by simp only [stepSt, hupd]; exact h1, env_put (RX.keepEnv h2 hA.env) (fun d hdst => ?_) h4, by rw [defers_put]; exact hA.defers⟩, hG.keep h2, ?_, by rw [size_put]; exact hN, hb, hwid⟩
      · have hdst' : dst = some d := hdst
        rw [hdst'] at hd; simp only [dstOK] at hd; omega
      · simp only [stepSt, hupd]
        exact hE.trans (n1 := n0) (Nat.le_refl _) (h3 n0 (by have := hA.rm.le; omega))
    · obtain ⟨e1, e2, e3⟩ := h
      obtain ⟨nx, v, w', h1, h2, h3⟩ := hR.step e1 hd e2
      unfold Oper.wp
      rw [h1]
      rcases h2 with rfl | ⟨rfl, rfl⟩
      · exact hK _ _ h3
      · exact hK _ _ h3
  · rw [wanted_gd hR hg] at hw; cases hw

theorem RX.drew {σ : St} {a : Act} {w : World} (h : RX γ N n0 m0 S0 μs w0 σ a w) (d : Nat) : RX γ N n0 m0 S0 μs w0 σ a { w with drawn := d } := by
  obtain ⟨S, μ, hA, hG, hE, hN, hb, hw⟩ := h
  have hd := After.drew hA.rm (d := d)
  have hupd : σ.mem.upd [] = σ.mem := by cases σ.mem; rfl
  exact ⟨S, μ, ⟨by have := hd.rm; rwa [hupd] at this, RX.keepEnv hd.keep hA.env, hA.defers⟩, hG.keep hd.keep, hE.trans hb (by have := hd.ext; rwa [hupd] at this), hN, hb, hw⟩

theorem RX.close {σ : St} {a : Act} {w : World} (h : RX γ N n0 m0 S0 μs w0 σ a w) : RX γ N n0 m0 S0 μs w0 ⟨σ.env, σ.mem.close⟩ a w := by
  obtain ⟨S, μ, hA, hG, hE, hN, hb, hw⟩ := h
  have hr := hA.rm
  exact ⟨S, μ, ⟨⟨hr.obj, hr.inj, hr.old, hr.fr, fun o h1 h2 h3 => absurd (hr.fr o h1) h3, by simp [Mem.close], hr.bk⟩, hA.env, hA.defers⟩, hG, ⟨hE.os, hE.tape, hE.output, hE.size, hE.ids, hE.objs, hE.next, hE.sub, hE.new, hE.cell, hE.map, hE.blk, hE.bsz, hE.uf⟩, hN, by have := hr.le; show n0 ≤ σ.mem.next; omega, by simp [Mem.close]⟩

theorem RX.open_ {σ : St} {a : Act} {w : World} (h : RX γ N n0 m0 S0 μs w0 σ a w) : RX γ N n0 m0 S0 μs w0 ⟨σ.env, σ.mem.open_ N⟩ a w := by
  obtain ⟨S, μ, hA, hG, hE, hN, hb, hw⟩ := h
  have hr := hA.rm
  exact ⟨S, μ, ⟨⟨fun o ob h => ⟨by have := (hr.obj o ob h).1; show o < σ.mem.next + N; omega, (hr.obj o ob h).2⟩, hr.inj, hr.old, fun o h => hr.fr o (by change σ.mem.next + N ≤ o at h; omega), fun o h1 h2 h3 => absurd (hr.fr o h1) h3, Nat.le_refl _, hr.bk⟩, hA.env, hA.defers⟩, hG,
    ⟨hE.os, hE.tape, hE.output, hE.size, hE.ids, hE.objs, by have := hE.next; show n0 ≤ σ.mem.next + N; omega, hE.sub, hE.new, hE.cell, hE.map, hE.blk, hE.bsz, hE.uf⟩, hN, by have := hr.le; show n0 ≤ σ.mem.next; omega, Nat.le_refl _⟩

theorem any_sound {Q : Exit → Act → World → Prop} (hK : ∀ σ a w, K σ → RX γ N n0 m0 S0 μs w0 σ a w → Q .normal a w) : ∀ (n : Nat) (listed : Array Bool) (log : Log) (σ : St) (a : Act) (w : World), anyA P γ all K n listed log σ → RX γ N n0 m0 S0 μs w0 σ a w → wpAny P .any all Q n listed a w := by
  have fin : ∀ {σ : St} {a : Act} {w : World}, Fin K σ → RX γ N n0 m0 S0 μs w0 σ a w → Q .normal a w := fun {σ a w} hf hR => by
    obtain ⟨σ', hs, hk⟩ := hf
    exact hK σ' a w hk (hR.close.same hs)
  intro n
  induction n with
  | zero => exact fun listed log σ a w h hR => ⟨h.1, fin h.2 hR⟩
  | succ n ih =>
    intro listed log σ a w h hR
    refine ⟨fun hr => fin (h.1 hr) hR, fun i hi => ?_⟩
    obtain ⟨o, x, u, rd, h1, h2, h3, h4⟩ := h.2 i hi
    unfold wpOp
    simp only [h1]
    cases hw : Region.wanted o (yielded all a.tmps) with
    | true =>
      simp only [if_true]
      exact .inl (yld_sound hw h2 hR (fun a' w' hR' => ih _ _ _ _ _ h4 hR'))
    | false =>
      simp only [Bool.false_eq_true, if_false]
      rcases h2 with ⟨hg, _⟩ | ⟨hg, rfl, rfl, rfl⟩
      · rw [wanted_gd hR hg] at hw; cases hw
      · refine ih _ _ _ _ _ h4 ?_
        obtain ⟨S, μ, hA, hG, hE, hN, hb, hwid⟩ := hR
        have hupd : σ.mem.upd [] = σ.mem := by cases σ.mem; rfl
        refine ⟨S, μ, ⟨by simp only [stepSt, hupd]; exact hA.rm, env_put_undef hA.env, by rw [defers_put]; exact hA.defers⟩, hG, by simp only [stepSt, hupd]; exact hE, by rw [size_put]; exact hN, hb, hwid⟩

theorem drawn_sound {id : Nat} {Q : Exit → Act → World → Prop} {σ : St} {a : Act} {w : World} (hm : P.follows .mixedOrders = true) (hB : Region.lexB .any all = true) (h : evDL P γ all 0 all.toList K [] σ) (hR : RX γ N n0 m0 S0 μs w0 σ a w)
    (hK : ∀ σ a w, K σ → RX γ N n0 m0 S0 μs w0 σ a w → Q .normal a w) : (Code.region id all true).wp P Q a w := by
  simp only [Region.lexB, Bool.and_eq_true] at hB
  refine wp_region_any hm ?_
  have h1 := any_lex all.toList 0 (Array.replicate all.size false) [] [] σ σ (by simp) (by simpa using hB.2) (fun k o hk hl => by
    rcases Nat.lt_or_ge k all.size with h' | h'
    · simp [h'] at hl
    · simp [Array.getElem?_eq_none h'] at hk) (Same.refl _) (LogLe.refl _) h
  have h2 := any_sound hK _ _ _ σ a { w with drawn := w.drawn + 1 } h1 (hR.drew _)
  simpa using h2
end

end Go.AW
namespace Go.AW
variable {P : Program} {γ : GTab} {n0 N : Nat} {k : List KI} {σ : St} {K : St → Prop} {env : List (Nat × AV)} {m : Mem}

/-- What stands in an instance, simp leaves alone. -/
class Box where
  p : Prop
def evX (r : Option AV) (want : Bool) [y : Box] [n : Box] : Prop := evB r want y.p n.p
theorem ev_fin {Q : Exit → St → Prop} : ev P γ n0 N (.fin Q :: k) σ = Q .normal σ := by rw [ev]
theorem ev_blk {id : Nat} : ev P γ n0 N (.blk id :: k) σ = ev P γ n0 N k σ := by rw [ev]
theorem ev_scp : ev P γ n0 N (.scp :: k) σ = ev P γ n0 N k σ := by rw [ev]
theorem ev_lp {J : St → Prop} : ev P γ n0 N (.lp J :: k) σ = J σ := by rw [ev]
theorem ev_opsn {all : Array Oper} : ev P γ n0 N (.ops all [] :: k) ⟨env, m⟩ = ev P γ n0 N k ⟨env, m.close⟩ := by rw [ev]
theorem ev_ops {all : Array Oper} {o : Oper} {l : List Oper} : ev P γ n0 N (.ops all (o :: l) :: k) σ = evG P γ all o σ (ev P γ n0 N (.ops all l :: k)) := by rw [ev]
theorem ev_region {id : Nat} {l : List Oper} : ev P γ n0 N (.code (.region id l.toArray false) :: k) ⟨env, m⟩ = ev P γ n0 N (.ops l.toArray l :: k) ⟨env, m.open_ N⟩ := by rw [ev]
theorem ev_drawn {id : Nat} {l : List Oper} : ev P γ n0 N (.code (.region id l.toArray true) :: k) ⟨env, m⟩ = evDL P γ l.toArray 0 l (ev P γ n0 N k) [] ⟨env, m.open_ N⟩ := by rw [ev]
theorem ev_seq {a b : Code} : ev P γ n0 N (.code (.seq a b) :: k) σ = ev P γ n0 N (.code a :: .code b :: k) σ := by rw [ev]
theorem ev_cond {c : Operand} {a b : Code} : ev P γ n0 N (.code (.cond c a b) :: k) ⟨env, m⟩ = @evX (some (rho γ env c)) true ⟨ev P γ n0 N (.code a :: k) ⟨condE env c true, m⟩⟩ ⟨ev P γ n0 N (.code b :: k) ⟨condE env c false, m⟩⟩ := by rw [ev]; rfl
theorem ev_block {id : Nat} {c : Code} : ev P γ n0 N (.code (.block id c) :: k) σ = ev P γ n0 N (.code c :: .blk id :: k) σ := by rw [ev]
theorem ev_exit {id : Nat} {k' : List KI} (h : exitK id k = some k') : ev P γ n0 N (.code (.exit id) :: k) σ = ev P γ n0 N k' σ := by
  rw [ev]; split
  · rename_i q hq; rw [h] at hq; cases hq; rfl
  · rename_i hq; rw [h] at hq; cases hq
theorem ev_scope {c : Code} : ev P γ n0 N (.code (.scope c) :: k) σ = ev P γ n0 N (.code c :: .scp :: k) σ := by rw [ev]
theorem ev_label {l : Nat} : ev P γ n0 N (.code (.label l) :: k) σ = ev P γ n0 N k σ := by rw [ev]
theorem ev_skip : ev P γ n0 N (.code .skip :: k) σ = ev P γ n0 N k σ := by rw [ev]
def retGo (r : Option (Exit → St → Prop)) (σ : St) : Prop := match r with | some Q => Q .ret σ | none => False
theorem ev_ret : ev P γ n0 N (.code .ret :: k) σ = retGo (retK k) σ := by rw [ev]; unfold retGo; cases retK k <;> rfl
theorem retGo_some {Q : Exit → St → Prop} : retGo (some Q) σ = Q .ret σ := (rfl)

def exitGo (P : Program) (γ : GTab) (n0 N : Nat) (r : Option (List KI)) (σ : St) : Prop := match r with | some k => ev P γ n0 N k σ | none => False
theorem ev_exit' {id : Nat} : ev P γ n0 N (.code (.exit id) :: k) σ = exitGo P γ n0 N (exitK id k) σ := by
  rw [ev]; unfold exitGo; split <;> rename_i h <;> rw [h]
theorem exitGo_some {k : List KI} : exitGo P γ n0 N (some k) σ = ev P γ n0 N k σ := (rfl)
theorem exitK_blk {id id' : Nat} : exitK id (.blk id' :: k) = if id' = id then some k else exitK id k := (rfl)
theorem exitK_code {id : Nat} {c : Code} : exitK id (.code c :: k) = exitK id k := (rfl)
theorem exitK_scp {id : Nat} : exitK id (.scp :: k) = exitK id k := (rfl)
theorem exitK_lp {id : Nat} {J : St → Prop} : exitK id (.lp J :: k) = exitK id k := (rfl)
theorem retK_blk {id' : Nat} : retK (.blk id' :: k) = retK k := (rfl)
theorem retK_code {c : Code} : retK (.code c :: k) = retK k := (rfl)
theorem retK_scp : retK (.scp :: k) = retK k := (rfl)
theorem retK_lp {J : St → Prop} : retK (.lp J :: k) = retK k := (rfl)
theorem retK_fin {Q : Exit → St → Prop} : retK (.fin Q :: k) = some Q := (rfl)

theorem evB_v {b : Bool} {want : Bool} {yes no : Prop} : evB (some (.v (.bool b))) want yes no = ((b = want → yes) ∧ (b = (!want) → no)) := (rfl)
theorem evB_tt {yes no : Prop} : @evX (some (.v (.bool true))) true ⟨yes⟩ ⟨no⟩ = yes := by simp [evX, evB, evBb, boolA, boolOf]
theorem evB_tf {yes no : Prop} : @evX (some (.v (.bool true))) false ⟨yes⟩ ⟨no⟩ = no := by simp [evX, evB, evBb, boolA, boolOf]
theorem evB_ft {yes no : Prop} : @evX (some (.v (.bool false))) true ⟨yes⟩ ⟨no⟩ = no := by simp [evX, evB, evBb, boolA, boolOf]
theorem evB_ff {yes no : Prop} : @evX (some (.v (.bool false))) false ⟨yes⟩ ⟨no⟩ = yes := by simp [evX, evB, evBb, boolA, boolOf]

theorem evG_none {all : Array Oper} {dst : Option Nat} {op : Op} {ty : TypeId} {pos : String} {after : Array Edge} : evG P γ all ⟨dst, op, ty, pos, after, none⟩ σ K = evO P γ ⟨dst, op, ty, pos, after, none⟩ σ K := (rfl)
def evGd (P : Program) (γ : GTab) (d : Option Nat) (want : Bool) (o : Oper) (σ : St) (K : St → Prop) : Prop :=
  match d with
  | some d => evU (skipA (lk σ.env d)) (K ⟨putE o.dst (.v undef) σ.env, σ.mem⟩) (evB (lk σ.env d) want (evO P γ o ⟨(d, .v (.bool want)) :: σ.env, σ.mem⟩ K) (K ⟨putE o.dst (.v undef) ((d, .v (.bool (!want))) :: σ.env), σ.mem⟩))
  | none => False
theorem evG_some {l : List Oper} {dst : Option Nat} {op : Op} {ty : TypeId} {pos : String} {after : Array Edge} {j : Nat} {want : Bool} :
    evG P γ l.toArray ⟨dst, op, ty, pos, after, some (j, want)⟩ σ K = evGd P γ ((l[j]?).bind (·.dst)) want ⟨dst, op, ty, pos, after, some (j, want)⟩ σ K := by
  unfold evG evGd; simp only [List.getElem?_toArray]; cases (l[j]?).bind (·.dst) <;> rfl
def evUX (b : Bool) [s : Box] [n : Box] : Prop := evU b s.p n.p
theorem evUX_t {s n : Prop} : @evUX true ⟨s⟩ ⟨n⟩ = s := (rfl)
theorem evUX_f {s n : Prop} : @evUX false ⟨s⟩ ⟨n⟩ = n := (rfl)
theorem skipA_b {b : Bool} : skipA (some (.v (.bool b))) = false := (rfl)
theorem skipA_u : skipA (some (.v undef)) = true := (rfl)
attribute [push_cast] evUX_t evUX_f skipA_b skipA_u
theorem evGd_some {d : Nat} {want : Bool} {o : Oper} : evGd P γ (some d) want o ⟨env, m⟩ K = @evUX (skipA (lk env d)) ⟨K ⟨putE o.dst (.v undef) env, m⟩⟩ ⟨@evX (lk env d) want ⟨evO P γ o ⟨(d, .v (.bool want)) :: env, m⟩ K⟩ ⟨K ⟨putE o.dst (.v undef) ((d, .v (.bool (!want))) :: env), m⟩⟩⟩ := (rfl)

theorem evS_some {x : AV} {u : Upd} {dst : Option Nat} : evS (some (x, u)) dst ⟨env, m⟩ K = (dstOK m dst ∧ updOK m dst u = true ∧ K ⟨putE dst x env, m.upd u⟩) := (rfl)
theorem evS_pure {x : AV} {dst : Option Nat} : evS (some (x, [])) dst ⟨env, m⟩ K = (dstOK m dst ∧ K ⟨putE dst x env, m⟩) := by
  cases dst <;> simp [evS, updOK, lk, Mem.upd]
theorem evS_none {dst : Option Nat} : evS none dst σ K = False := (rfl)
theorem evS_if {c : Prop} [Decidable c] {r : Option (AV × Upd)} {dst : Option Nat} : evS (if c then r else none) dst σ K = (c ∧ evS r dst σ K) := by
  by_cases h : c <;> simp [h, evS]

/-- What an operation that is no call yields. -/
def stepE (P : Program) (γ : GTab) (env : List (Nat × AV)) (m : Mem) (dst : Option Nat) (op : Op) : Option (AV × Upd) := stepF P (rho γ env) m.find (freshOf m dst) op

section ops
variable {dst : Option Nat} {ty : TypeId} {pos : String} {after : Array Edge} {gd : Option (Nat × Bool)}

section each
variable {all : Array Oper} {i : Nat} {log : Log} {KL : Log → St → Prop}
theorem evO_move {x : Operand} : evO P γ ⟨dst, .move x, ty, pos, after, gd⟩ ⟨env, m⟩ K = evS (stepE P γ env m dst (.move x)) dst ⟨env, m⟩ K := (rfl)
theorem evDO_move {x : Operand} : evDO P γ all i log ⟨dst, .move x, ty, pos, after, gd⟩ ⟨env, m⟩ KL = evDS all i (fpOf γ env (.move x)) log (stepE P γ env m dst (.move x)) dst ⟨env, m⟩ KL := (rfl)
theorem evO_assign {x : Operand} : evO P γ ⟨dst, .assign x, ty, pos, after, gd⟩ ⟨env, m⟩ K = evS (stepE P γ env m dst (.assign x)) dst ⟨env, m⟩ K := (rfl)
theorem evDO_assign {x : Operand} : evDO P γ all i log ⟨dst, .assign x, ty, pos, after, gd⟩ ⟨env, m⟩ KL = evDS all i (fpOf γ env (.assign x)) log (stepE P γ env m dst (.assign x)) dst ⟨env, m⟩ KL := (rfl)
theorem evO_pick {c a b : Operand} : evO P γ ⟨dst, .pick c a b, ty, pos, after, gd⟩ ⟨env, m⟩ K = evS (stepE P γ env m dst (.pick c a b)) dst ⟨env, m⟩ K := (rfl)
theorem evDO_pick {c a b : Operand} : evDO P γ all i log ⟨dst, .pick c a b, ty, pos, after, gd⟩ ⟨env, m⟩ KL = evDS all i (fpOf γ env (.pick c a b)) log (stepE P γ env m dst (.pick c a b)) dst ⟨env, m⟩ KL := (rfl)
theorem evO_alloc {e : TypeId} : evO P γ ⟨dst, .alloc e, ty, pos, after, gd⟩ ⟨env, m⟩ K = evS (stepE P γ env m dst (.alloc e)) dst ⟨env, m⟩ K := (rfl)
theorem evDO_alloc {e : TypeId} : evDO P γ all i log ⟨dst, .alloc e, ty, pos, after, gd⟩ ⟨env, m⟩ KL = evDS all i (fpOf γ env (.alloc e)) log (stepE P γ env m dst (.alloc e)) dst ⟨env, m⟩ KL := (rfl)
theorem evO_box {e : TypeId} {x : Operand} : evO P γ ⟨dst, .box e x, ty, pos, after, gd⟩ ⟨env, m⟩ K = evS (stepE P γ env m dst (.box e x)) dst ⟨env, m⟩ K := (rfl)
theorem evDO_box {e : TypeId} {x : Operand} : evDO P γ all i log ⟨dst, .box e x, ty, pos, after, gd⟩ ⟨env, m⟩ KL = evDS all i (fpOf γ env (.box e x)) log (stepE P γ env m dst (.box e x)) dst ⟨env, m⟩ KL := (rfl)
theorem evO_build {t : TypeId} {parts : Array (Nat × Operand)} : evO P γ ⟨dst, .build t parts, ty, pos, after, gd⟩ ⟨env, m⟩ K = evS (stepE P γ env m dst (.build t parts)) dst ⟨env, m⟩ K := (rfl)
theorem evDO_build {t : TypeId} {parts : Array (Nat × Operand)} : evDO P γ all i log ⟨dst, .build t parts, ty, pos, after, gd⟩ ⟨env, m⟩ KL = evDS all i (fpOf γ env (.build t parts)) log (stepE P γ env m dst (.build t parts)) dst ⟨env, m⟩ KL := (rfl)
theorem evO_buildSlice {t : TypeId} {n : Nat} {parts : Array (Nat × Operand)} : evO P γ ⟨dst, .buildSlice t n parts, ty, pos, after, gd⟩ ⟨env, m⟩ K = evS (stepE P γ env m dst (.buildSlice t n parts)) dst ⟨env, m⟩ K := (rfl)
theorem evDO_buildSlice {t : TypeId} {n : Nat} {parts : Array (Nat × Operand)} : evDO P γ all i log ⟨dst, .buildSlice t n parts, ty, pos, after, gd⟩ ⟨env, m⟩ KL = evDS all i (fpOf γ env (.buildSlice t n parts)) log (stepE P γ env m dst (.buildSlice t n parts)) dst ⟨env, m⟩ KL := (rfl)
theorem evO_load {t : TypeId} {x : Operand} : evO P γ ⟨dst, .load t x, ty, pos, after, gd⟩ ⟨env, m⟩ K = evS (stepE P γ env m dst (.load t x)) dst ⟨env, m⟩ K := (rfl)
theorem evDO_load {t : TypeId} {x : Operand} : evDO P γ all i log ⟨dst, .load t x, ty, pos, after, gd⟩ ⟨env, m⟩ KL = evDS all i (fpOf γ env (.load t x)) log (stepE P γ env m dst (.load t x)) dst ⟨env, m⟩ KL := (rfl)
theorem evO_store {t : TypeId} {x y : Operand} : evO P γ ⟨dst, .store t x y, ty, pos, after, gd⟩ ⟨env, m⟩ K = evS (stepE P γ env m dst (.store t x y)) dst ⟨env, m⟩ K := (rfl)
theorem evDO_store {t : TypeId} {x y : Operand} : evDO P γ all i log ⟨dst, .store t x y, ty, pos, after, gd⟩ ⟨env, m⟩ KL = evDS all i (fpOf γ env (.store t x y)) log (stepE P γ env m dst (.store t x y)) dst ⟨env, m⟩ KL := (rfl)
theorem evO_nilCheck {x : Operand} : evO P γ ⟨dst, .nilCheck x, ty, pos, after, gd⟩ ⟨env, m⟩ K = evS (stepE P γ env m dst (.nilCheck x)) dst ⟨env, m⟩ K := (rfl)
theorem evDO_nilCheck {x : Operand} : evDO P γ all i log ⟨dst, .nilCheck x, ty, pos, after, gd⟩ ⟨env, m⟩ KL = evDS all i (fpOf γ env (.nilCheck x)) log (stepE P γ env m dst (.nilCheck x)) dst ⟨env, m⟩ KL := (rfl)
theorem evO_unOp {op : UnOp} {t : TypeId} {x : Operand} : evO P γ ⟨dst, .unOp op t x, ty, pos, after, gd⟩ ⟨env, m⟩ K = evS (stepE P γ env m dst (.unOp op t x)) dst ⟨env, m⟩ K := (rfl)
theorem evDO_unOp {op : UnOp} {t : TypeId} {x : Operand} : evDO P γ all i log ⟨dst, .unOp op t x, ty, pos, after, gd⟩ ⟨env, m⟩ KL = evDS all i (fpOf γ env (.unOp op t x)) log (stepE P γ env m dst (.unOp op t x)) dst ⟨env, m⟩ KL := (rfl)
theorem evO_convert {s t : TypeId} {x : Operand} : evO P γ ⟨dst, .convert s t x, ty, pos, after, gd⟩ ⟨env, m⟩ K = evS (stepE P γ env m dst (.convert s t x)) dst ⟨env, m⟩ K := (rfl)
theorem evDO_convert {s t : TypeId} {x : Operand} : evDO P γ all i log ⟨dst, .convert s t x, ty, pos, after, gd⟩ ⟨env, m⟩ KL = evDS all i (fpOf γ env (.convert s t x)) log (stepE P γ env m dst (.convert s t x)) dst ⟨env, m⟩ KL := (rfl)
theorem evO_makeFunc {fn : Fn} {f c : Array Operand} : evO P γ ⟨dst, .makeFunc fn f c, ty, pos, after, gd⟩ ⟨env, m⟩ K = evS (stepE P γ env m dst (.makeFunc fn f c)) dst ⟨env, m⟩ K := (rfl)
theorem evDO_makeFunc {fn : Fn} {f c : Array Operand} : evDO P γ all i log ⟨dst, .makeFunc fn f c, ty, pos, after, gd⟩ ⟨env, m⟩ KL = evDS all i (fpOf γ env (.makeFunc fn f c)) log (stepE P γ env m dst (.makeFunc fn f c)) dst ⟨env, m⟩ KL := (rfl)
theorem evO_makeMap {t : TypeId} {r : Option Operand} : evO P γ ⟨dst, .makeMap t r, ty, pos, after, gd⟩ ⟨env, m⟩ K = evS (stepE P γ env m dst (.makeMap t r)) dst ⟨env, m⟩ K := (rfl)
theorem evDO_makeMap {t : TypeId} {r : Option Operand} : evDO P γ all i log ⟨dst, .makeMap t r, ty, pos, after, gd⟩ ⟨env, m⟩ KL = evDS all i (fpOf γ env (.makeMap t r)) log (stepE P γ env m dst (.makeMap t r)) dst ⟨env, m⟩ KL := (rfl)
theorem evO_makeSlice {t : TypeId} {l c : Operand} : evO P γ ⟨dst, .makeSlice t l c, ty, pos, after, gd⟩ ⟨env, m⟩ K = evS (stepE P γ env m dst (.makeSlice t l c)) dst ⟨env, m⟩ K := (rfl)
theorem evDO_makeSlice {t : TypeId} {l c : Operand} : evDO P γ all i log ⟨dst, .makeSlice t l c, ty, pos, after, gd⟩ ⟨env, m⟩ KL = evDS all i (fpOf γ env (.makeSlice t l c)) log (stepE P γ env m dst (.makeSlice t l c)) dst ⟨env, m⟩ KL := (rfl)
theorem evO_slice {t : TypeId} {x : Operand} {lo hi mx : Option Operand} : evO P γ ⟨dst, .slice t x lo hi mx, ty, pos, after, gd⟩ ⟨env, m⟩ K = evS (stepE P γ env m dst (.slice t x lo hi mx)) dst ⟨env, m⟩ K := (rfl)
theorem evDO_slice {t : TypeId} {x : Operand} {lo hi mx : Option Operand} : evDO P γ all i log ⟨dst, .slice t x lo hi mx, ty, pos, after, gd⟩ ⟨env, m⟩ KL = evDS all i (fpOf γ env (.slice t x lo hi mx)) log (stepE P γ env m dst (.slice t x lo hi mx)) dst ⟨env, m⟩ KL := (rfl)
theorem evO_fieldAddr {t : TypeId} {x : Operand} {f : Nat} : evO P γ ⟨dst, .fieldAddr t x f, ty, pos, after, gd⟩ ⟨env, m⟩ K = evS (stepE P γ env m dst (.fieldAddr t x f)) dst ⟨env, m⟩ K := (rfl)
theorem evDO_fieldAddr {t : TypeId} {x : Operand} {f : Nat} : evDO P γ all i log ⟨dst, .fieldAddr t x f, ty, pos, after, gd⟩ ⟨env, m⟩ KL = evDS all i (fpOf γ env (.fieldAddr t x f)) log (stepE P γ env m dst (.fieldAddr t x f)) dst ⟨env, m⟩ KL := (rfl)
theorem evO_field {t : TypeId} {x : Operand} {f : Nat} : evO P γ ⟨dst, .field t x f, ty, pos, after, gd⟩ ⟨env, m⟩ K = evS (stepE P γ env m dst (.field t x f)) dst ⟨env, m⟩ K := (rfl)
theorem evDO_field {t : TypeId} {x : Operand} {f : Nat} : evDO P γ all i log ⟨dst, .field t x f, ty, pos, after, gd⟩ ⟨env, m⟩ KL = evDS all i (fpOf γ env (.field t x f)) log (stepE P γ env m dst (.field t x f)) dst ⟨env, m⟩ KL := (rfl)
theorem evO_indexAddr {t : TypeId} {x i : Operand} : evO P γ ⟨dst, .indexAddr t x i, ty, pos, after, gd⟩ ⟨env, m⟩ K = evS (stepE P γ env m dst (.indexAddr t x i)) dst ⟨env, m⟩ K := (rfl)
theorem evDO_indexAddr {t : TypeId} {x i0 : Operand} : evDO P γ all i log ⟨dst, .indexAddr t x i0, ty, pos, after, gd⟩ ⟨env, m⟩ KL = evDS all i (fpOf γ env (.indexAddr t x i0)) log (stepE P γ env m dst (.indexAddr t x i0)) dst ⟨env, m⟩ KL := (rfl)
theorem evO_index {t : TypeId} {x i : Operand} : evO P γ ⟨dst, .index t x i, ty, pos, after, gd⟩ ⟨env, m⟩ K = evS (stepE P γ env m dst (.index t x i)) dst ⟨env, m⟩ K := (rfl)
theorem evDO_index {t : TypeId} {x i0 : Operand} : evDO P γ all i log ⟨dst, .index t x i0, ty, pos, after, gd⟩ ⟨env, m⟩ KL = evDS all i (fpOf γ env (.index t x i0)) log (stepE P γ env m dst (.index t x i0)) dst ⟨env, m⟩ KL := (rfl)
theorem evO_lookup {t : TypeId} {x i : Operand} {ok : Bool} : evO P γ ⟨dst, .lookup t x i ok, ty, pos, after, gd⟩ ⟨env, m⟩ K = evS (stepE P γ env m dst (.lookup t x i ok)) dst ⟨env, m⟩ K := (rfl)
theorem evDO_lookup {t : TypeId} {x i0 : Operand} {ok : Bool} : evDO P γ all i log ⟨dst, .lookup t x i0 ok, ty, pos, after, gd⟩ ⟨env, m⟩ KL = evDS all i (fpOf γ env (.lookup t x i0 ok)) log (stepE P γ env m dst (.lookup t x i0 ok)) dst ⟨env, m⟩ KL := (rfl)
theorem evO_mapUpdate {t : TypeId} {x i y : Operand} : evO P γ ⟨dst, .mapUpdate t x i y, ty, pos, after, gd⟩ ⟨env, m⟩ K = evS (stepE P γ env m dst (.mapUpdate t x i y)) dst ⟨env, m⟩ K := (rfl)
theorem evDO_mapUpdate {t : TypeId} {x i0 y : Operand} : evDO P γ all i log ⟨dst, .mapUpdate t x i0 y, ty, pos, after, gd⟩ ⟨env, m⟩ KL = evDS all i (fpOf γ env (.mapUpdate t x i0 y)) log (stepE P γ env m dst (.mapUpdate t x i0 y)) dst ⟨env, m⟩ KL := (rfl)
theorem evO_extract {x : Operand} {i : Nat} : evO P γ ⟨dst, .extract x i, ty, pos, after, gd⟩ ⟨env, m⟩ K = evS (stepE P γ env m dst (.extract x i)) dst ⟨env, m⟩ K := (rfl)
theorem evDO_extract {x : Operand} {i0 : Nat} : evDO P γ all i log ⟨dst, .extract x i0, ty, pos, after, gd⟩ ⟨env, m⟩ KL = evDS all i (fpOf γ env (.extract x i0)) log (stepE P γ env m dst (.extract x i0)) dst ⟨env, m⟩ KL := (rfl)
theorem evO_badd {t yT : TypeId} {x y : Operand} : evO P γ ⟨dst, .binOp .add t x y yT, ty, pos, after, gd⟩ ⟨env, m⟩ K = evS (stepE P γ env m dst (.binOp .add t x y yT)) dst ⟨env, m⟩ K := (rfl)
theorem evO_bsub {t yT : TypeId} {x y : Operand} : evO P γ ⟨dst, .binOp .sub t x y yT, ty, pos, after, gd⟩ ⟨env, m⟩ K = evS (stepE P γ env m dst (.binOp .sub t x y yT)) dst ⟨env, m⟩ K := (rfl)
theorem evO_bmul {t yT : TypeId} {x y : Operand} : evO P γ ⟨dst, .binOp .mul t x y yT, ty, pos, after, gd⟩ ⟨env, m⟩ K = evS (stepE P γ env m dst (.binOp .mul t x y yT)) dst ⟨env, m⟩ K := (rfl)
theorem evO_bquo {t yT : TypeId} {x y : Operand} : evO P γ ⟨dst, .binOp .quo t x y yT, ty, pos, after, gd⟩ ⟨env, m⟩ K = evS (stepE P γ env m dst (.binOp .quo t x y yT)) dst ⟨env, m⟩ K := (rfl)
theorem evO_brem {t yT : TypeId} {x y : Operand} : evO P γ ⟨dst, .binOp .rem t x y yT, ty, pos, after, gd⟩ ⟨env, m⟩ K = evS (stepE P γ env m dst (.binOp .rem t x y yT)) dst ⟨env, m⟩ K := (rfl)
theorem evO_band {t yT : TypeId} {x y : Operand} : evO P γ ⟨dst, .binOp .and t x y yT, ty, pos, after, gd⟩ ⟨env, m⟩ K = evS (stepE P γ env m dst (.binOp .and t x y yT)) dst ⟨env, m⟩ K := (rfl)
theorem evO_bor {t yT : TypeId} {x y : Operand} : evO P γ ⟨dst, .binOp .or t x y yT, ty, pos, after, gd⟩ ⟨env, m⟩ K = evS (stepE P γ env m dst (.binOp .or t x y yT)) dst ⟨env, m⟩ K := (rfl)
theorem evO_bxor {t yT : TypeId} {x y : Operand} : evO P γ ⟨dst, .binOp .xor t x y yT, ty, pos, after, gd⟩ ⟨env, m⟩ K = evS (stepE P γ env m dst (.binOp .xor t x y yT)) dst ⟨env, m⟩ K := (rfl)
theorem evO_bshl {t yT : TypeId} {x y : Operand} : evO P γ ⟨dst, .binOp .shl t x y yT, ty, pos, after, gd⟩ ⟨env, m⟩ K = evS (stepE P γ env m dst (.binOp .shl t x y yT)) dst ⟨env, m⟩ K := (rfl)
theorem evO_bshr {t yT : TypeId} {x y : Operand} : evO P γ ⟨dst, .binOp .shr t x y yT, ty, pos, after, gd⟩ ⟨env, m⟩ K = evS (stepE P γ env m dst (.binOp .shr t x y yT)) dst ⟨env, m⟩ K := (rfl)
theorem evO_bandNot {t yT : TypeId} {x y : Operand} : evO P γ ⟨dst, .binOp .andNot t x y yT, ty, pos, after, gd⟩ ⟨env, m⟩ K = evS (stepE P γ env m dst (.binOp .andNot t x y yT)) dst ⟨env, m⟩ K := (rfl)
theorem evO_blss {t yT : TypeId} {x y : Operand} : evO P γ ⟨dst, .binOp .lss t x y yT, ty, pos, after, gd⟩ ⟨env, m⟩ K = evS (stepE P γ env m dst (.binOp .lss t x y yT)) dst ⟨env, m⟩ K := (rfl)
theorem evO_bleq {t yT : TypeId} {x y : Operand} : evO P γ ⟨dst, .binOp .leq t x y yT, ty, pos, after, gd⟩ ⟨env, m⟩ K = evS (stepE P γ env m dst (.binOp .leq t x y yT)) dst ⟨env, m⟩ K := (rfl)
theorem evO_bgtr {t yT : TypeId} {x y : Operand} : evO P γ ⟨dst, .binOp .gtr t x y yT, ty, pos, after, gd⟩ ⟨env, m⟩ K = evS (stepE P γ env m dst (.binOp .gtr t x y yT)) dst ⟨env, m⟩ K := (rfl)
theorem evO_bgeq {t yT : TypeId} {x y : Operand} : evO P γ ⟨dst, .binOp .geq t x y yT, ty, pos, after, gd⟩ ⟨env, m⟩ K = evS (stepE P γ env m dst (.binOp .geq t x y yT)) dst ⟨env, m⟩ K := (rfl)
theorem evDO_bin {op : BinOp} {t yT : TypeId} {x y : Operand} : evDO P γ all i log ⟨dst, .binOp op t x y yT, ty, pos, after, gd⟩ ⟨env, m⟩ KL = evDS all i (fpOf γ env (.binOp op t x y yT)) log (stepE P γ env m dst (.binOp op t x y yT)) dst ⟨env, m⟩ KL := (rfl)
theorem evO_builtin {b : Builtin} {args : Array Operand} {ts : Array TypeId} : evO P γ ⟨dst, .call ⟨.builtin b, args, ts⟩, ty, pos, after, gd⟩ ⟨env, m⟩ K = evS (stepE P γ env m dst (.call ⟨.builtin b, args, ts⟩)) dst ⟨env, m⟩ K := (rfl)
theorem evDO_builtin {b : Builtin} {args : Array Operand} {ts : Array TypeId} : evDO P γ all i log ⟨dst, .call ⟨.builtin b, args, ts⟩, ty, pos, after, gd⟩ ⟨env, m⟩ KL = evDS all i (fpOf γ env (.call ⟨.builtin b, args, ts⟩)) log (stepE P γ env m dst (.call ⟨.builtin b, args, ts⟩)) dst ⟨env, m⟩ KL := (rfl)
end each

/-- No call of a function, no == and no !=. -/
def plainOp : Op → Bool
  | .call ⟨.builtin _, _, _⟩ => true
  | .call _ => false
  | .binOp op _ _ _ _ => (match op with | .eql => false | .neq => false | _ => true)
  | .next _ _ => false
  | _ => true

theorem evO_plain {op : Op} (h : plainOp op = true) : evO P γ ⟨dst, op, ty, pos, after, gd⟩ ⟨env, m⟩ K = evS (stepE P γ env m dst op) dst ⟨env, m⟩ K := by
  unfold evO
  split
  · rename_i f args ts e; simp only at e; subst e; simp [plainOp] at h
  · rename_i e; simp only at e; subst e; simp [plainOp] at h
  · rename_i e; simp only at e; subst e; simp [plainOp] at h
  · rename_i e; simp only at e; subst e; simp [plainOp] at h
  · rfl
theorem evO_next {x : Operand} {b : Bool} : evO P γ ⟨dst, .next x b, ty, pos, after, gd⟩ ⟨env, m⟩ K = evNext (rho γ env x) b dst ⟨env, m⟩ K := (rfl)
theorem evO_range {t : TypeId} {x : Operand} : evO P γ ⟨dst, .range t x, ty, pos, after, gd⟩ ⟨env, m⟩ K = evS (stepE P γ env m dst (.range t x)) dst ⟨env, m⟩ K := (rfl)
theorem evO_entry {x : Operand} : evO P γ ⟨dst, .entry x, ty, pos, after, gd⟩ ⟨env, m⟩ K = evS (stepE P γ env m dst (.entry x)) dst ⟨env, m⟩ K := (rfl)
theorem evDO_range {all : Array Oper} {i : Nat} {log : Log} {KL : Log → St → Prop} {t : TypeId} {x : Operand} : evDO P γ all i log ⟨dst, .range t x, ty, pos, after, gd⟩ ⟨env, m⟩ KL = evDS all i (fpOf γ env (.range t x)) log (stepE P γ env m dst (.range t x)) dst ⟨env, m⟩ KL := (rfl)
theorem evDO_entry {all : Array Oper} {i : Nat} {log : Log} {KL : Log → St → Prop} {x : Operand} : evDO P γ all i log ⟨dst, .entry x, ty, pos, after, gd⟩ ⟨env, m⟩ KL = evDS all i (fpOf γ env (.entry x)) log (stepE P γ env m dst (.entry x)) dst ⟨env, m⟩ KL := (rfl)
theorem evO_eql {t yT : TypeId} {x y : Operand} : evO P γ ⟨dst, .binOp .eql t x y yT, ty, pos, after, gd⟩ ⟨env, m⟩ K = evN (nilSl P t (unf (rho γ env x)) (rho γ env y)) false dst ⟨env, m⟩ K (evS (stepE P γ env m dst (.binOp .eql t x y yT)) dst ⟨env, m⟩ K) := (rfl)
theorem evO_neq {t yT : TypeId} {x y : Operand} : evO P γ ⟨dst, .binOp .neq t x y yT, ty, pos, after, gd⟩ ⟨env, m⟩ K = evN (nilSl P t (unf (rho γ env x)) (rho γ env y)) true dst ⟨env, m⟩ K (evS (stepE P γ env m dst (.binOp .neq t x y yT)) dst ⟨env, m⟩ K) := (rfl)
theorem evN_none {neg : Bool} {other : Prop} : evN none neg dst σ K other = other := (rfl)
theorem evN_some {n : Nat} {neg : Bool} {other : Prop} : evN (some n) neg dst ⟨env, m⟩ K other = (dstOK m dst ∧ (n = 0 → K ⟨putE dst (.v (.bool (!neg))) env, m⟩) ∧ K ⟨putE dst (.v (.bool neg)) env, m⟩) := (rfl)
theorem evO_call {f : Operand} {args : List Operand} {ts : Array TypeId} : evO P γ ⟨dst, .call ⟨.value f, args.toArray, ts⟩, ty, pos, after, gd⟩ ⟨env, m⟩ K = evC P γ (calleeOf (rho γ env f)) (args.map (rho γ env)) dst ⟨env, m⟩ K := by
  simp [evO]
theorem evC_some {g : FuncId} {a c args : List AV} : evC P γ (some (g, a, c)) args dst ⟨env, m⟩ K = (dstOK m dst ∧ ACalls P γ g ((a ++ args ++ c).map unf) m (retTo dst env K)) := (rfl)

variable {all : Array Oper} {i : Nat} {log : Log} {KL : Log → St → Prop} {KS : St → Prop} {rd : List Nat}
theorem evDL_nil : evDL P γ all i [] KS log ⟨env, m⟩ = KS ⟨env, m.close⟩ := (rfl)
theorem evDL_cons {o : Oper} {l : List Oper} : evDL P γ all i (o :: l) KS log σ = evDG P γ all i log o σ (evDL P γ all (i + 1) l KS) := (rfl)
theorem evDG_none {op : Op} : evDG P γ all i log ⟨dst, op, ty, pos, after, none⟩ σ KL = evDO P γ all i log ⟨dst, op, ty, pos, after, none⟩ σ KL := (rfl)
def evDGd (P : Program) (γ : GTab) (all : Array Oper) (i : Nat) (log : Log) (d : Option Nat) (want : Bool) (o : Oper) (σ : St) (K : Log → St → Prop) : Prop :=
  match d with
  | some d => evU (skipA (lk σ.env d)) (K log ⟨putE o.dst (.v undef) σ.env, σ.mem⟩) (evB (lk σ.env d) want (evDO P γ all i log o ⟨(d, .v (.bool want)) :: σ.env, σ.mem⟩ K) (K log ⟨putE o.dst (.v undef) ((d, .v (.bool (!want))) :: σ.env), σ.mem⟩))
  | none => False
theorem evDG_some {l : List Oper} {op : Op} {j : Nat} {want : Bool} :
    evDG P γ l.toArray i log ⟨dst, op, ty, pos, after, some (j, want)⟩ σ KL = evDGd P γ l.toArray i log ((l[j]?).bind (·.dst)) want ⟨dst, op, ty, pos, after, some (j, want)⟩ σ KL := by
  unfold evDG evDGd; simp only [List.getElem?_toArray]; cases (l[j]?).bind (·.dst) <;> rfl
theorem evDGd_some {d : Nat} {want : Bool} {o : Oper} : evDGd P γ all i log (some d) want o ⟨env, m⟩ KL = @evUX (skipA (lk env d)) ⟨KL log ⟨putE o.dst (.v undef) env, m⟩⟩ ⟨@evX (lk env d) want ⟨evDO P γ all i log o ⟨(d, .v (.bool want)) :: env, m⟩ KL⟩ ⟨KL log ⟨putE o.dst (.v undef) ((d, .v (.bool (!want))) :: env), m⟩⟩⟩ := (rfl)
def callOp : Op → Bool
  | .call ⟨.value _, _, _⟩ => true
  | _ => false
theorem evDO_plain {op : Op} (h : callOp op = false) : evDO P γ all i log ⟨dst, op, ty, pos, after, gd⟩ ⟨env, m⟩ KL = evDS all i (fpOf γ env op) log (stepE P γ env m dst op) dst ⟨env, m⟩ KL := by
  unfold evDO
  split
  · rename_i f args ts e; simp only at e; subst e; simp [callOp] at h
  · rfl
theorem evDO_call {f : Operand} {args : List Operand} {ts : Array TypeId} : evDO P γ all i log ⟨dst, .call ⟨.value f, args.toArray, ts⟩, ty, pos, after, gd⟩ ⟨env, m⟩ KL = evDC P γ all i log (calleeOf (rho γ env f)) (args.map (rho γ env)) dst ⟨env, m⟩ KL := by
  simp [evDO]
theorem evDS_some {x : AV} {u : Upd} : evDS all i rd log (some (x, u)) dst ⟨env, m⟩ KL = (dstOK m dst ∧ updOK m dst u = true ∧ okLog all i rd (wrOf u) log = true ∧ KL ((i, rd, wrOf u) :: log) ⟨putE dst x env, m.upd u⟩) := (rfl)
theorem evDS_none : evDS all i rd log none dst σ KL = False := (rfl)
theorem evDS_if {c : Prop} [Decidable c] {r : Option (AV × Upd)} : evDS all i rd log (if c then r else none) dst σ KL = (c ∧ evDS all i rd log r dst σ KL) := by
  by_cases h : c <;> simp [h, evDS]
/-- What looks at no object, and turns none, stands in nobody's way. -/
theorem okLog_nil {all : Array Oper} {i : Nat} {log : Log} : okLog all i [] [] log = true := by
  unfold okLog meet; simp
theorem evDC_some {g : FuncId} {a c args : List AV} : evDC P γ all i log (some (g, a, c)) args dst ⟨env, m⟩ KL = evDC2 P γ all i log g (snapArgs m.find ((a ++ args ++ c).map unf)) dst ⟨env, m⟩ KL := (rfl)
end ops

section steps
variable {dst : Option Nat}
theorem stepE_move {x : Operand} : stepE P γ env m dst (.move x) = some (rho γ env x, []) := (rfl)
theorem stepE_assign {x : Operand} : stepE P γ env m dst (.assign x) = some (rho γ env x, []) := (rfl)
def pickA (c a b : AV) : Option (AV × Upd) := match c with
  | .v (.bool t) => match a, b with
    | .v (.bool x), .v (.bool y) => some (.v (.bool (bif t then x else y)), [])
    | x, y => some (bif t then x else y, [])
  | _ => none
theorem stepE_pick {c a b : Operand} : stepE P γ env m dst (.pick c a b) = pickA (unf (rho γ env c)) (unf (rho γ env a)) (unf (rho γ env b)) := (rfl)
theorem pickA_bool {t x y : Bool} : pickA (.v (.bool t)) (.v (.bool x)) (.v (.bool y)) = some (.v (.bool (bif t then x else y)), []) := (rfl)
theorem pickA_t {x y : AV} : pickA (.v (.bool true)) x y = some (x, []) := by
  simp only [pickA, cond_true]; split <;> rfl
theorem pickA_f {x y : AV} : pickA (.v (.bool false)) x y = some (y, []) := by
  simp only [pickA, cond_false]; split <;> rfl
def allocA (z : Option (List Value)) (e fresh : Nat) : Option (AV × Upd) := z.map fun zs => (.ptr fresh 0, [(fresh, .cells e (zs.map .v) false)])
theorem stepE_alloc {e : TypeId} : stepE P γ env m dst (.alloc e) = allocA (tz P e) e (freshOf m dst) := by
  simp only [stepE, stepF, stepF0, allocA]; cases tz P e <;> rfl
def boxA (c : Option (List AV)) (e fresh : Nat) : Option (AV × Upd) := c.map fun cs => (.ptr fresh 0, [(fresh, .cells e cs false)])
theorem stepE_box {e : TypeId} {x : Operand} : stepE P γ env m dst (.box e x) = boxA (cellsOf (unf (rho γ env x))) e (freshOf m dst) := by
  simp only [stepE, stepF, stepF0, boxA]; cases cellsOf (unf (rho γ env x)) <;> rfl
theorem stepE_load {t : TypeId} {x : Operand} : stepE P γ env m dst (.load t x) = (if tok P t then (loadF P m.find t (unf (rho γ env x))).map fun x => (x, []) else none) := (rfl)
theorem stepE_store {t : TypeId} {x y : Operand} : stepE P γ env m dst (.store t x y) = ((storeF P m.find t (unf (rho γ env x)) (unf (rho γ env y))).map fun u => (.v undef, u)) := (rfl)
def nilCheckA (x : AV) : Option (AV × Upd) := match x with
    | .ptr o off => some (.ptr o off, [])
    | .rop xs => some (.rop xs, [])
    | .clo (.func f) a c => some (.clo (.func f) a c, [])
    | .v (.func (.func f) a c) => some (.v (.func (.func f) a c), [])
    | _ => none
theorem stepE_nilCheck {x : Operand} : stepE P γ env m dst (.nilCheck x) = nilCheckA (unf (rho γ env x)) := (rfl)
def binA (P : Program) (op : BinOp) (t : TypeId) (x y : Operand) (a b : AV) : Option (AV × Upd) :=
    match a.val?, b.val? with
    | some p, some q => (pbin P op t x y p q).map fun v => (.v v, [])
    | _, _ => match op with
      | .eql => if nilEq P t a b then some (.v (.bool false), []) else none
      | .neq => if nilEq P t a b then some (.v (.bool true), []) else none
      | _ => none
theorem stepE_bin {op : BinOp} {t yT : TypeId} {x y : Operand} : stepE P γ env m dst (.binOp op t x y yT) = binA P op t x y (unf (rho γ env x)) (unf (rho γ env y)) := (rfl)
theorem binA_v {op : BinOp} {t : TypeId} {x y : Operand} {p q : Value} : binA P op t x y (.v p) (.v q) = (pbin P op t x y p q).map fun v => (.v v, []) := (rfl)
def unA (P : Program) (op : UnOp) (x : Option Value) : Option (AV × Upd) := x.bind fun a => (prun P (Op.unary op a)).map fun v => (.v v, [])
theorem stepE_un {op : UnOp} {t : TypeId} {x : Operand} : stepE P γ env m dst (.unOp op t x) = unA P op (unf (rho γ env x)).val? := by
  simp only [stepE, stepF, stepF0, unA]; cases (unf (rho γ env x)).val? <;> rfl
def fieldAddrA (P : Program) (fs : Option (List (Nat × TypeId))) (f : Nat) (x : AV) : Option (AV × Upd) := match fs with
    | some fs => match fs[f]?, x with
      | some fl, .ptr o off => if tok P fl.2 ∧ tsz P fl.2 ≠ 0 then some (.ptr o (off + fl.1), []) else none
      | some fl, .rop xs => if tok P fl.2 ∧ tsz P fl.2 ≠ 0 then some (.rop (xs.drop fl.1), []) else none
      | _, _ => none
    | none => none
theorem stepE_fieldAddr {s : TypeId} {x : Operand} {f : Nat} : stepE P γ env m dst (.fieldAddr s x f) = fieldAddrA P (tflds P s) f (unf (rho γ env x)) := (rfl)
theorem stepE_indexAddr {t : TypeId} {x i : Operand} : stepE P γ env m dst (.indexAddr t x i) = ((indexAddrF P t (unf (rho γ env x)) (unf (rho γ env i))).map fun x => (x, [])) := (rfl)
theorem stepE_index {t : TypeId} {x i : Operand} : stepE P γ env m dst (.index t x i) = ((indexF P t (unf (rho γ env x)) (unf (rho γ env i))).map fun x => (x, [])) := (rfl)
theorem stepE_builtin {b : Builtin} {args : List Operand} {ts : Array TypeId} : stepE P γ env m dst (.call ⟨.builtin b, args.toArray, ts⟩) = builtinG P m.find (freshOf m dst) b ts (args.map (rho γ env)) := by
  simp [stepE, stepF]
end steps

theorem okLog_pure {all : Array Oper} {i j : Nat} {rd rd' : List Nat} {log : Log} : okLog all i rd [] ((j, rd', []) :: log) = okLog all i rd [] log := by
  have : ∀ a : List Nat, meet a [] = false := fun a => by unfold meet; simp
  have h2 : ∀ a : List Nat, meet [] a = false := fun a => by unfold meet; simp
  simp [okLog, this, h2]
theorem wrOf_nil : wrOf [] = [] := (rfl)
theorem fpOf_eq {γ : GTab} {env : List (Nat × AV)} {op : Op} : fpOf γ env op = op.operands.toList.flatMap fun x => oids (rho γ env x) := (rfl)
theorem oids_v {x : Value} : oids (.v x) = [] := (rfl)
theorem oids_agg {x : List AV} : oids (.agg x) = [] := (rfl)
theorem oids_tup {x : List AV} : oids (.tup x) = [] := (rfl)
theorem oids_seq {n z : Nat} {x : List AV} : oids (.seq n z x) = [] := (rfl)
theorem oids_rop {x : List AV} : oids (.rop x) = [] := (rfl)
theorem oids_ptr {o off : Nat} : oids (.ptr o off) = [o] := (rfl)
theorem oids_sl {o off n z : Nat} : oids (.sl o off n z) = [o] := (rfl)
theorem oids_mp {o : Nat} : oids (.mp o) = [o] := (rfl)
theorem oids_mv {k : KT} {ks : List Value} {x : List AV} : oids (.mv k ks x) = [] := (rfl)
theorem oids_clo {f : Fn} {a b : List AV} : oids (.clo f a b) = [] := (rfl)
attribute [push_cast] fpOf_eq oids_v oids_agg oids_tup oids_seq oids_rop oids_ptr oids_sl oids_mp oids_mv oids_clo
theorem ev_congr {P : Program} {γ : GTab} {n0 N : Nat} {k : List KI} {σ σ' : St} (h : σ = σ') : ev P γ n0 N k σ = ev P γ n0 N k σ' := by rw [h]
theorem evS_congr {r r' : Option (AV × Upd)} {dst : Option Nat} {σ : St} {K : St → Prop} (h : r = r') : evS r dst σ K = evS r' dst σ K := by rw [h]
theorem evN_congr {r r' : Option Nat} {neg : Bool} {dst : Option Nat} {σ : St} {K : St → Prop} {o : Prop} (h : r = r') : evN r neg dst σ K o = evN r' neg dst σ K o := by rw [h]
theorem evC_congr {P : Program} {γ : GTab} {r r' : Option (FuncId × List AV × List AV)} {args args' : List AV} {dst : Option Nat} {σ : St} {K : St → Prop} (h : r = r') (h' : args = args') : evC P γ r args dst σ K = evC P γ r' args' dst σ K := by rw [h, h']
theorem evB_congr {r r' : Option AV} {want : Bool} {x y : Prop} (h : r = r') : evB r want x y = evB r' want x y := by rw [h]
theorem evDS_congr {all : Array Oper} {i : Nat} {rd rd' : List Nat} {log : Log} {r r' : Option (AV × Upd)} {dst : Option Nat} {σ : St} {K : Log → St → Prop} (h : r = r') (h2 : rd = rd') : evDS all i rd log r dst σ K = evDS all i rd' log r' dst σ K := by rw [h, h2]
theorem evG_congr {P : Program} {γ : GTab} {all : Array Oper} {o : Oper} {σ : St} {K : St → Prop} : evG P γ all o σ K = evG P γ all o σ K := (rfl)
theorem evO_congr {P : Program} {γ : GTab} {o : Oper} {σ : St} {K : St → Prop} : evO P γ o σ K = evO P γ o σ K := (rfl)
theorem evGd_congr {P : Program} {γ : GTab} {d d' : Option Nat} {want : Bool} {o : Oper} {σ : St} {K : St → Prop} (h : d = d') : evGd P γ d want o σ K = evGd P γ d' want o σ K := by rw [h]
theorem evDG_congr {P : Program} {γ : GTab} {all : Array Oper} {i : Nat} {log : Log} {o : Oper} {σ : St} {K : Log → St → Prop} : evDG P γ all i log o σ K = evDG P γ all i log o σ K := (rfl)
theorem evDL_congr {P : Program} {γ : GTab} {all : Array Oper} {i i' : Nat} {l : List Oper} {K : St → Prop} {log : Log} {σ σ' : St} (h : i = i') (hs : σ = σ') : evDL P γ all i l K log σ = evDL P γ all i' l K log σ' := by rw [h, hs]
theorem evDO_congr {P : Program} {γ : GTab} {all : Array Oper} {i : Nat} {log : Log} {o : Oper} {σ : St} {K : Log → St → Prop} : evDO P γ all i log o σ K = evDO P γ all i log o σ K := (rfl)
theorem ACalls_congr {P : Program} {γ : GTab} {f f' : FuncId} {xs xs' : List AV} {m m' : Mem} {K : AV → Mem → Prop} (hf : f = f') (hx : xs = xs') (hm : m = m') : ACalls P γ f xs m K = ACalls P γ f' xs' m' K := by rw [hf, hx, hm]
attribute [congr] ev_congr evS_congr evN_congr evC_congr evB_congr evDS_congr evG_congr evO_congr evGd_congr evDG_congr evDL_congr evDO_congr ACalls_congr

theorem putE_some {d : Nat} {x : AV} {env : List (Nat × AV)} : putE (some d) x env = (d, x) :: env := (rfl)
theorem putE_none {x : AV} {env : List (Nat × AV)} : putE none x env = env := (rfl)
theorem rho_tmp {γ : GTab} {env : List (Nat × AV)} {t : Nat} : rho γ env (.tmp t) = (lk env t).getD .top := (rfl)
theorem rho_const {γ : GTab} {env : List (Nat × AV)} {c : Value} : rho γ env (.const c) = .v c := (rfl)
theorem rho_func {γ : GTab} {env : List (Nat × AV)} {f : Nat} : rho γ env (.func f) = .v (.func (.func f) #[] #[]) := (rfl)
theorem lk_cons {α : Type} {n m : Nat} {x : α} {e : List (Nat × α)} : lk ((n, x) :: e) m = if n = m then some x else lk e m := (rfl)
theorem lk_nil {α : Type} {m : Nat} : lk ([] : List (Nat × α)) m = none := (rfl)
theorem condE_tmp {env : List (Nat × AV)} {t : Nat} {b : Bool} : condE env (.tmp t) b = (t, .v (.bool b)) :: env := (rfl)
theorem open_mk {objs : List (Nat × AObj)} {n b w N : Nat} : Mem.open_ ⟨objs, n, b, w⟩ N = ⟨objs, n + N, n, N⟩ := (rfl)
theorem close_mk {objs : List (Nat × AObj)} {n b w : Nat} : Mem.close ⟨objs, n, b, w⟩ = ⟨objs, n, n, 0⟩ := (rfl)
theorem dstOK_some {objs : List (Nat × AObj)} {n b w d : Nat} : dstOK ⟨objs, n, b, w⟩ (some d) = (d < w) := (rfl)
theorem dstOK_none {m : Mem} : dstOK m none = True := (rfl)
theorem find_mk {objs : List (Nat × AObj)} {n b w o : Nat} : Mem.find ⟨objs, n, b, w⟩ o = lk objs o := (rfl)
theorem upd_nil {m : Mem} : Mem.upd m [] = m := by cases m; rfl
theorem len_seq {P : Program} {find : Nat → Option AObj} {fr n sz : Nat} {xs : List AV} {t : TypeId} {ts : List TypeId} : builtinF P find fr .len (t :: ts).toArray [.seq n sz xs] = match tarr P t with | some (n, _) => some (.v (.int .i64 n), []) | none => if tlenk P t = some 0 then some (.v (.int .i64 n), []) else none := by
  simp [builtinF, lenA]
  cases tarr P t <;> simp


attribute [push_cast] ev_fin ev_blk ev_scp ev_lp ev_opsn ev_ops ev_region ev_drawn ev_seq ev_cond ev_block ev_scope ev_label ev_skip ev_ret retGo_some ev_exit' exitGo_some exitK_blk exitK_code exitK_scp exitK_lp retK_blk retK_code retK_scp retK_lp retK_fin evB_tt evB_tf evB_ft evB_ff evG_none evG_some evGd_some evS_some evS_pure evS_none evS_if evO_move evDO_move evO_assign evDO_assign evO_pick evDO_pick evO_alloc evDO_alloc evO_box evDO_box evO_build evDO_build evO_buildSlice evDO_buildSlice evO_load evDO_load evO_store evDO_store evO_nilCheck evDO_nilCheck evO_unOp evDO_unOp evO_convert evDO_convert evO_makeFunc evDO_makeFunc evO_makeMap evDO_makeMap evO_makeSlice evDO_makeSlice evO_slice evDO_slice evO_fieldAddr evDO_fieldAddr evO_field evDO_field evO_indexAddr evDO_indexAddr evO_index evDO_index evO_lookup evDO_lookup evO_mapUpdate evDO_mapUpdate evO_extract evDO_extract evO_badd evO_bsub evO_bmul evO_bquo evO_brem evO_band evO_bor evO_bxor evO_bshl evO_bshr evO_bandNot evO_blss evO_bleq evO_bgtr evO_bgeq evDO_bin evO_builtin evDO_builtin evO_eql evO_neq evN_none evN_some evO_call evC_some evDL_nil evDL_cons evDG_none evDG_some evDGd_some evDO_call evDS_some evDS_none evDS_if okLog_nil okLog_pure wrOf_nil evDC_some stepE_move stepE_assign stepE_pick pickA_bool pickA_t pickA_f stepE_alloc stepE_box stepE_load stepE_store stepE_nilCheck stepE_bin binA_v stepE_un stepE_fieldAddr stepE_indexAddr stepE_index stepE_builtin putE_some putE_none rho_tmp rho_const rho_func lk_cons lk_nil condE_tmp open_mk close_mk dstOK_some dstOK_none find_mk upd_nil len_seq
attribute [push_cast] Option.getD_some Option.map_some Option.map_none Option.bind_some Option.bind_none Option.some.injEq Prod.mk.injEq List.map_cons List.map_nil List.append_assoc List.nil_append List.append_nil List.cons_append true_and and_true if_true if_false ite_true ite_false List.getElem?_cons_zero List.getElem?_cons_succ List.getElem?_nil List.flatMap_cons List.flatMap_nil

end Go.AW
namespace Go.AW
variable {P : Program} {γ : GTab} {n0 N : Nat} {m0 : Mem} {S0 : Nat → Nat → Prop} {μs : Nat → Option (Nat × Nat)} {w0 : World}

/-- What an exit finds. -/
def Post (P : Program) (γ : GTab) (n0 N : Nat) (m0 : Mem) (S0 : Nat → Nat → Prop) (μs : Nat → Option (Nat × Nat)) (w0 : World) (k : List KI) : Exit → Act → World → Prop
  | .normal, a, w => ∃ σ, ev P γ n0 N k σ ∧ RX γ N n0 m0 S0 μs w0 σ a w
  | .exit id, a, w => ∃ σ k', exitK id k = some k' ∧ ev P γ n0 N k' σ ∧ RX γ N n0 m0 S0 μs w0 σ a w
  | .ret, a, w => ∃ σ Q, retK k = some Q ∧ Q .ret σ ∧ RX γ N n0 m0 S0 μs w0 σ a w
  | _, _, _ => False

theorem ev_blk' {id : Nat} {k : List KI} {σ : St} : ev P γ n0 N (.blk id :: k) σ = ev P γ n0 N k σ := by rw [ev]
theorem ev_scp' {k : List KI} {σ : St} : ev P γ n0 N (.scp :: k) σ = ev P γ n0 N k σ := by rw [ev]
theorem ev_lp' {J : St → Prop} {k : List KI} {σ : St} : ev P γ n0 N (.lp J :: k) σ = J σ := by rw [ev]

theorem RX.ent {σ σ' : St} {a : Act} {w : World} (h : RX γ N n0 m0 S0 μs w0 σ a w) (he : Ent n0 σ σ') : RX γ N n0 m0 S0 μs w0 σ' a w := by
  obtain ⟨S, μ, hA, hG, hE, hN, hb, hwid⟩ := h
  obtain ⟨S', μ', h1, h2, g1, g2, h3, h4, h5, h6, h7⟩ := he S μ w a hA.rm hA.env
  refine ⟨S', μ', ⟨h1, h2, hA.defers⟩, ⟨fun g vs hg j v hv => ?_, hG.2⟩, ⟨hE.os, hE.tape, hE.output, hE.size, fun o ho => (h3 o ho).trans (hE.ids o ho), fun o ho hf => hE.objs o ho (h4 o ho hf), by have := h1.le; omega, fun b off h => g1 b off (hE.sub b off h), fun b off hb h => ?_, hE.cell, hE.map,
    fun b hb ho => ⟨(hE.blk b hb ho).1, fun hx => (hE.blk b hb ho).2 (h7 b hx)⟩, hE.bsz, hE.uf⟩, hN, h5, by omega⟩
  · obtain ⟨k1, k2, k3⟩ := hG.1 g vs hg j v hv
    exact ⟨g1 _ _ k1, k2, k3⟩
  · rcases g2 b off h with h | h
    · exact hE.new b off hb h
    · by_cases ho : Owned m0 μs b
      · exact .inr ho
      · exact absurd h (hE.blk b hb ho).2

theorem wp_loop_fam {c : Code} {Q : Exit → Act → World → Prop} {ι : Type} (I : ι → Act → World → Prop) (ms : ι → Nat)
    (round : ∀ i a w, I i a w → c.wp P (Exit.then (fun a' w' => ∃ j, ms j < ms i ∧ I j a' w') Q) a w) : ∀ (i : ι) (a : Act) (w : World), I i a w → (Code.loop c).wp P Q a w := by
  intro i a w hi b k cs
  have key : ∀ n i a w, ms i = n → I i a w →
      ∃ e a' w', Q e a' w' ∧ Arrives P (lone (b.at a (.code c :: .inLoop c :: k)) cs w) b k cs e a' w' := by
    intro n
    induction n using Nat.strongRecOn with
    | _ n ih =>
      intro i a w hn hI
      obtain ⟨e, a₁, w₁, hq, harr⟩ := round i a w hI b (.inLoop c :: k) cs
      cases e with
      | normal =>
        obtain ⟨j, hlt, hI₁⟩ := hq
        obtain ⟨e₂, a₂, w₂, hq₂, harr₂⟩ := ih (ms j) (hn ▸ hlt) j a₁ w₁ rfl hI₁
        exact ⟨e₂, a₂, w₂, hq₂, .of_steps (Steps.trans harr (.one step_inLoop)) harr₂⟩
      | exit id => exact ⟨_, a₁, w₁, hq, .pass (x := .inLoop c) rfl (fun _ _ => .inl (by simp)) harr⟩
      | goto l => exact ⟨_, a₁, w₁, hq, .pass (x := .inLoop c) rfl (fun _ _ => .inl (by simp)) harr⟩
      | ret => exact ⟨_, a₁, w₁, hq, .pass (x := .inLoop c) rfl (fun _ _ => .inl (by simp)) harr⟩
      | panic ch => exact ⟨_, a₁, w₁, hq, .pass (x := .inLoop c) rfl (fun _ _ => .inl (by simp)) harr⟩
      | outgrown => exact ⟨_, a₁, w₁, hq, .pass (x := .inLoop c) rfl (fun _ _ => .inl (by simp)) harr⟩
  obtain ⟨e, a', w', hq, harr⟩ := key _ i a w rfl hi
  exact ⟨e, a', w', hq, .of_steps (.one step_loop) harr⟩

theorem RX.cond {σ : St} {a : Act} {w : World} {c : Operand} {b : Bool} (h : RX γ N n0 m0 S0 μs w0 σ a w) (hc : rho γ σ.env c = .v (.bool b)) : a.eval c = .bool b ∧ RX γ N n0 m0 S0 μs w0 ⟨condE σ.env c b, σ.mem⟩ a w := by
  obtain ⟨S, μ, hA, hG, hE, hN, hb, hwid⟩ := h
  have hr := rho_rep hA hG c
  rw [hc] at hr
  simp only [Rep] at hr
  refine ⟨hr, S, μ, ⟨hA.rm, fun t x ht => ?_, hA.defers⟩, hG, hE, hN, hb, hwid⟩
  unfold condE at ht
  split at ht
  · rename_i t'
    simp only [lk] at ht
    split at ht
    · rename_i e
      subst e
      simp only [Option.some.injEq] at ht
      subst ht
      simpa [Rep, Act.eval] using hr
    · exact hA.env t x ht
  · exact hA.env t x ht

theorem RX.lit {σ : St} {a : Act} {w : World} {d : Nat} {b : Bool} (h : RX γ N n0 m0 S0 μs w0 σ a w) (hd : lk σ.env d = some (.v (.bool b))) : RX γ N n0 m0 S0 μs w0 ⟨(d, .v (.bool b)) :: σ.env, σ.mem⟩ a w := by
  obtain ⟨S, μ, hA, hG, hE, hN, hb, hwid⟩ := h
  refine ⟨S, μ, ⟨hA.rm, fun t x ht => ?_, hA.defers⟩, hG, hE, hN, hb, hwid⟩
  simp only [lk] at ht
  split at ht
  · rename_i e; subst e
    simp only [Option.some.injEq] at ht
    subst ht
    exact hA.env _ _ hd
  · exact hA.env t x ht

theorem RX.skip {σ : St} {a : Act} {w : World} (dst : Option Nat) (h : RX γ N n0 m0 S0 μs w0 σ a w) : RX γ N n0 m0 S0 μs w0 ⟨putE dst (.v undef) σ.env, σ.mem⟩ (a.put dst undef) w := by
  obtain ⟨S, μ, hA, hG, hE, hN, hb, hwid⟩ := h
  exact ⟨S, μ, ⟨hA.rm, env_put_undef hA.env, by rw [defers_put]; exact hA.defers⟩, hG, hE, by rw [size_put]; exact hN, hb, hwid⟩

theorem list_sound {all : Array Oper} {k : List KI} : ∀ {l : List Oper} {σ : St} {a : Act} {w : World}, ev P γ n0 N (.ops all l :: k) σ → RX γ N n0 m0 S0 μs w0 σ a w → wpList P all (Post P γ n0 N m0 S0 μs w0 k) l a w
  | [], σ, a, w, h, hR => by
    rw [ev] at h
    exact ⟨_, h, hR.close⟩
  | o :: l, σ, a, w, h, hR => by
    rw [ev] at h
    unfold wpList
    unfold evG at h
    split at h
    · rename_i hg
      have hw : Region.wanted o (yielded all a.tmps) = true := by simp [Region.wanted, hg]
      rw [if_pos hw]
      exact .inl (evO_sound h hR (fun σ' a' w' h' hR' => list_sound h' hR'))
    · rename_i j want hg
      split at h
      · rename_i d hd
        rcases evU_inv h with ⟨hsk, hk⟩ | ⟨_, h⟩
        · have hw := wanted_gd hR (gd_skip hg hd hsk)
          rw [if_neg (by rw [hw]; simp)]
          exact list_sound hk (hR.skip _)
        obtain ⟨b, hb, hy, hn⟩ := evB_inv h
        have hgd : gd all o σ = some (b == want) := by simp [gd, hg, hd, hb]
        have hw := wanted_gd hR hgd
        have hR1 := hR.lit hb
        by_cases hbw : b = want
        · subst hbw
          rw [if_pos (by simpa using hw)]
          exact .inl (evO_sound (hy rfl) hR1 (fun σ' a' w' h' hR' => list_sound h' hR'))
        · rw [if_neg (by rw [hw]; simpa using hbw)]
          have hbn : b = (!want) := by cases b <;> cases want <;> simp_all
          have hk := hn hbn
          rw [← hbn] at hk
          exact list_sound hk (hR1.skip _)
      · exact h.elim

/-- Drawn regions read well. -/
def dOK : Code → Bool
  | .region _ ops true => Region.lexB .any ops
  | .seq a b => dOK a && dOK b
  | .cond _ a b => dOK a && dOK b
  | .block _ c => dOK c
  | .loop c => dOK c
  | .scope c => dOK c
  | _ => true

theorem ev_sound (hm : P.follows .mixedOrders = true) : ∀ (n : Nat) (c : Code) (k : List KI) (σ : St) (a : Act) (w : World), dOK c = true → kz (.code c :: k) ≤ n → ev P γ n0 N (.code c :: k) σ → RX γ N n0 m0 S0 μs w0 σ a w → c.wp P (Post P γ n0 N m0 S0 μs w0 k) a w := by
  intro n
  induction n with
  | zero => intro c k σ a w _ hn; have := cz_pos c; simp only [kz, iz] at hn; omega
  | succ n ih =>
    intro c k σ a w hd hn h hR
    simp only [kz, iz] at hn
    cases c with
    | region id ops draw =>
      cases draw with
      | false =>
        rw [ev] at h
        exact wp_region_list (list_sound h hR.open_)
      | true =>
        rw [ev] at h
        exact drawn_sound hm hd h hR.open_ (fun σ a w hk hR => ⟨σ, hk, hR⟩)
    | seq x y =>
      rw [ev] at h
      simp only [cz] at hn
      simp only [dOK, Bool.and_eq_true] at hd
      have := cz_pos y
      refine wp_seq (wp_mono (ih x (.code y :: k) σ a w hd.1 (by simp only [kz, iz]; omega) h hR) fun e a w hp => ?_)
      cases e with
      | normal =>
        obtain ⟨σ', h1, h2⟩ := hp
        exact ih y k σ' a w hd.2 (by simp only [kz, iz]; have := cz_pos x; omega) h1 h2
      | exit id => exact hp
      | ret => exact hp
      | _ => exact hp.elim
    | cond c x y =>
      rw [ev] at h
      simp only [cz] at hn
      simp only [dOK, Bool.and_eq_true] at hd
      obtain ⟨b, hb, hy, hno⟩ := evB_inv h
      simp only [Option.some.injEq] at hb
      obtain ⟨h1, h2⟩ := hR.cond hb
      refine wp_cond h1 ?_
      cases b with
      | true => exact ih x k _ a w hd.1 (by simp only [kz, iz]; have := cz_pos y; omega) (hy rfl) h2
      | false => exact ih y k _ a w hd.2 (by simp only [kz, iz]; have := cz_pos x; omega) (hno rfl) h2
    | block id c =>
      rw [ev] at h
      simp only [cz] at hn
      refine wp_block (wp_mono (ih c (.blk id :: k) σ a w hd (by simp only [kz, iz]; omega) h hR) fun e a w hp => ?_)
      cases e with
      | normal =>
        obtain ⟨σ', h1, h2⟩ := hp
        rw [ev_blk'] at h1
        exact ⟨σ', h1, h2⟩
      | exit id' =>
        obtain ⟨σ', k', h1, h2, h3⟩ := hp
        simp only [exitK] at h1
        simp only [Exit.inBlock]
        by_cases e : id = id'
        · rw [if_pos e] at h1
          rw [if_pos e.symm]
          simp only [Option.some.injEq] at h1; subst h1
          exact ⟨σ', h2, h3⟩
        · rw [if_neg e] at h1
          rw [if_neg (fun h => e h.symm)]
          exact ⟨σ', k', h1, h2, h3⟩
      | ret => exact hp
      | _ => exact hp.elim
    | loop c =>
      rw [ev] at h
      simp only [cz] at hn
      obtain ⟨ι, st, I, ms, i0, hi0, hent, hround⟩ := h
      refine wp_loop_fam (fun (i : ι) a w => I i ∧ RX γ N n0 m0 S0 μs w0 (st i) a w) ms (fun i a w hI => ?_) i0 a w ⟨hi0, hR.ent hent⟩
      refine wp_mono (ih c (.lp (fun σ' => ∃ j, I j ∧ ms j < ms i ∧ Ent n0 σ' (st j)) :: k) (st i) a w hd (by simp only [kz, iz]; omega) (hround i hI.1) hI.2) fun e a w hp => ?_
      cases e with
      | normal =>
        obtain ⟨σ', h1, h2⟩ := hp
        rw [ev_lp'] at h1
        obtain ⟨j, h3, h4, h5⟩ := h1
        exact ⟨j, h4, h3, h2.ent h5⟩
      | exit id => exact hp
      | ret => exact hp
      | _ => exact hp.elim
    | exit id =>
      refine wp_exit ?_
      rw [ev] at h
      split at h
      · rename_i k' hk
        exact ⟨σ, k', hk, h, hR⟩
      · exact h.elim
    | scope c =>
      rw [ev] at h
      simp only [cz] at hn
      refine wp_scope_straight (wp_mono (ih c (.scp :: k) σ a w hd (by simp only [kz, iz]; omega) h hR) fun e a w hp => ?_)
      cases e with
      | normal =>
        obtain ⟨σ', h1, h2⟩ := hp
        rw [ev_scp'] at h1
        exact ⟨σ', h1, h2⟩
      | exit id => exact hp
      | ret => exact hp
      | _ => exact hp.elim
    | label l =>
      rw [ev] at h
      exact wp_label ⟨σ, h, hR⟩
    | skip =>
      rw [ev] at h
      exact wp_skip ⟨σ, h, hR⟩
    | ret =>
      refine wp_ret ?_
      rw [ev] at h
      split at h
      · rename_i Q hQ
        exact ⟨σ, Q, hQ, h, hR⟩
      · exact h.elim
    | _ =>
      rw [ev] at h
      · exact h.elim
      all_goals (intros; contradiction)

/-! Results. -/
def oneRes (P : Program) (env : List (Nat × AV)) (m : Mem) : ResultVar → Option AV
  | .tmp t => lk env t
  | .cell a t => match lk env a with
    | some p => if tok P t then loadF P m.find t p else none
    | none => none
def manyRes (P : Program) (env : List (Nat × AV)) (m : Mem) : List ResultVar → Option (List AV)
  | [] => some []
  | r :: rs => match oneRes P env m r, manyRes P env m rs with
    | some x, some xs => some (x :: xs)
    | _, _ => none
def resA (P : Program) (rs : List ResultVar) (env : List (Nat × AV)) (m : Mem) : Option AV :=
  match rs with
  | [r] => oneRes P env m r
  | rs => (manyRes P env m rs).map .tup

def endV (P : Program) (rs : List ResultVar) (r : AV) (_ : Exit) (σ : St) : Prop := ∃ y, resA P rs σ.env σ.mem = some y ∧ ∃ ids, snap σ.mem.find 12 (unf y) = some (r, ids)

theorem load_var {S μ} {w : World} {m : Mem} {t : TypeId} {x y : AV} {v : Value} (hr : RM S μ w m) (h : loadF P m.find t x = some y) (hx : Rep S μ w x v) (htok : tok P t = true) : ∃ ad u, v = .pointer (some ad) ∧ (loadVar t ad).run P w = .ok u w ∧ Rep S μ w y u := by
  unfold loadF at h
  split at h
  · simp only [Rep] at hx
    obtain ⟨b, off, rfl, hc⟩ := hx
    obtain ⟨ys, h1, h2, h3⟩ := hc.list
    obtain ⟨v, h4, h5⟩ := load_part h (b := b) (bo := off) h1 h2 h3 (.inl htok)
    exact ⟨_, v, rfl, h4, h5⟩
  · rename_i o off
    simp only [Rep] at hx
    obtain ⟨b, bo, hμ, rfl⟩ := hx
    split at h
    · rename_i E ys ap hf
      obtain ⟨zs, h1, h2, h3⟩ := obj_reads hr hf hμ
      obtain ⟨v, h4, h5⟩ := load_part h (b := b) (bo := bo) h1 h2 h3 (.inl htok)
      exact ⟨_, v, rfl, h4, h5⟩
    · rename_i ys hf
      obtain ⟨zs, h1, h2, h3⟩ := imm_reads hr hf hμ
      obtain ⟨v, h4, h5⟩ := load_part h (b := b) (bo := bo) h1 h2 h3 (.inl htok)
      exact ⟨_, v, rfl, h4, h5⟩
    · cases h
  · cases h

def oneRun (tmps : Array Value) : ResultVar → Sem Value
  | .tmp t => pure (tmps.getD t undef)
  | .cell a t => do loadVar t (← asAddr (tmps.getD a undef))

theorem one_res {S μ} {w : World} {env : List (Nat × AV)} {m : Mem} {a : Act} (hr : RM S μ w m) (henv : ∀ t x, lk env t = some x → Rep S μ w x (a.tmps.getD t undef)) {rv : ResultVar} {y : AV} (h : oneRes P env m rv = some y) : ∃ v, (oneRun a.tmps rv).run P w = .ok v w ∧ Rep S μ w y v := by
  cases rv with
  | tmp t => exact ⟨_, rfl, henv t y h⟩
  | cell ad t =>
    simp only [oneRes] at h
    split at h
    · rename_i p hp
      split at h
      · rename_i htok
        obtain ⟨q, u, h1, h2, h3⟩ := load_var hr h (henv ad p hp) htok
        refine ⟨u, ?_, h3⟩
        simp [oneRun, h1, asAddr, h2]
      · cases h
    · cases h

theorem many_res {S μ} {w : World} {env : List (Nat × AV)} {m : Mem} {a : Act} (hr : RM S μ w m) (henv : ∀ t x, lk env t = some x → Rep S μ w x (a.tmps.getD t undef)) : ∀ {rs : List ResultVar} {ys : List AV}, manyRes P env m rs = some ys → ∃ vs, (rs.mapM (oneRun a.tmps)).run P w = .ok vs w ∧ RepL S μ w ys vs ∧ vs.length = rs.length
  | [], ys, h => by simp only [manyRes, Option.some.injEq] at h; subst h; exact ⟨[], rfl, by simp [RepL], rfl⟩
  | r :: rs, ys, h => by
    simp only [manyRes] at h
    split at h
    · rename_i x xs hx hxs
      simp only [Option.some.injEq] at h
      subst h
      obtain ⟨v, h1, h2⟩ := one_res hr henv hx
      obtain ⟨vs, h3, h4, h5⟩ := many_res hr henv hxs
      refine ⟨v :: vs, ?_, by simp only [RepL]; exact ⟨v, vs, rfl, h2, h4⟩, by simp [h5]⟩
      rw [List.mapM_cons, Sem.run_bind, h1]
      simp [h3]
    · cases h

theorem res_run {S μ} {w : World} {env : List (Nat × AV)} {m : Mem} {a : Act} (hr : RM S μ w m) (henv : ∀ t x, lk env t = some x → Rep S μ w x (a.tmps.getD t undef)) {fn : Func} {y : AV} (h : resA P fn.results.toList env m = some y) : ∃ v, (results fn a.tmps).run P w = .ok v w ∧ Rep S μ w y v := by
  have key : ∀ vs : List Value, (fn.results.toList.mapM (oneRun a.tmps)).run P w = .ok vs w → (results fn a.tmps).run P w = .ok (if h : vs.toArray.size = 1 then vs.toArray[0] else .tuple vs.toArray) w := by
    intro vs hvs
    have e : results fn a.tmps = (do let vs ← fn.results.mapM (oneRun a.tmps); pure (if h : vs.size = 1 then vs[0] else .tuple vs)) := by
      unfold results
      congr 1
    rw [e, Sem.run_bind, Array.mapM_eq_mapM_toList, Sem.run_map, hvs]
    rfl
  generalize fn.results.toList = rs at h key
  unfold resA at h
  split at h
  · rename_i r
    obtain ⟨v, h1, h2⟩ := one_res hr henv h
    refine ⟨v, ?_, h2⟩
    have := key [v] (by rw [List.mapM_cons, Sem.run_bind, h1]; rfl)
    simpa using this
  · rename_i rs hne
    simp only [Option.map_eq_some_iff] at h
    obtain ⟨ys, h1, rfl⟩ := h
    obtain ⟨vs, h2, h3, h4⟩ := many_res hr henv h1
    refine ⟨.tuple vs.toArray, ?_, by simp only [Rep]; exact ⟨vs, rfl, h3⟩⟩
    have := key vs h2
    rw [this]
    have hne' : vs.length ≠ 1 := fun e => by
      rw [h4] at e
      obtain ⟨r, hr'⟩ := List.length_eq_one_iff.1 e
      exact hne r hr'
    simp [hne']

theorem Ext.refl0 {S w} : Ext 0 ⟨[], 0, 0, 0⟩ S μ0 w ⟨[], 0, 0, 0⟩ S μ0 w := ⟨rfl, rfl, rfl, Nat.le_refl _, fun _ _ => rfl, fun _ _ h => h, Nat.le_refl _, fun _ _ h => h, fun _ _ _ h => .inl h, fun _ _ _ => rfl, fun _ _ _ _ _ h => h, fun _ _ h => ⟨rfl, h⟩, fun _ => Nat.le_refl _, fun _ _ h => h⟩

theorem args_env {S μ} {w : World} {xs : List AV} {vs : List Value} {n : Nat} (h : RepL S μ w xs vs) : ∀ t x, lk (xs.zipIdx.map fun p => (p.2, p.1)) t = some x → Rep S μ w x ((vs.toArray ++ Array.replicate n undef).getD t undef) := by
  have key : ∀ (xs : List AV) (vs pre : List Value), RepL S μ w xs vs → ∀ t x, lk ((xs.zipIdx pre.length).map fun p => (p.2, p.1)) t = some x → Rep S μ w x (((pre ++ vs).toArray ++ Array.replicate n undef).getD t undef) := by
    intro xs
    induction xs with
    | nil => intro vs pre _ t x h; simp [lk] at h
    | cons y xs ih =>
      intro vs pre h t x ht
      simp only [RepL] at h
      obtain ⟨v, vs', rfl, h1, h2⟩ := h
      simp only [List.zipIdx_cons, List.map_cons, lk] at ht
      split at ht
      · rename_i e
        simp only [Option.some.injEq] at ht
        subst ht; subst e
        have : ((pre ++ v :: vs').toArray ++ Array.replicate n undef).getD pre.length undef = v := by
          rw [Array.getD_eq_getD_getElem?]
          simp [Array.getElem?_append]
        rw [this]; exact h1
      · have := ih vs' (pre ++ [v]) h2 t x (by simpa using ht)
        simpa using this
  intro t x ht
  exact key xs vs [] h t x (by simpa using ht)

/-- A contract from the evaluator. -/
theorem PCall.enter {f : FuncId} {fn : Func} {c : Code} {xs : List AV} {r : AV} (hf : P.funcs[f]? = some fn) (hb : fn.body = some c) (hn : (fn.name == "runtime.NumGoroutine") = false) (hm : P.follows .mixedOrders = true) (hd : dOK c = true) (hx : idfL xs = true) (hr : idf r = true)
    (h : ev P γ 0 fn.ntmps [.code c, .fin (endV P fn.results.toList r)] ⟨(xs.zipIdx.map fun p => (p.2, p.1)), ⟨[], 0, 0, 0⟩⟩) : PCall P γ f xs r := by
  refine ⟨hx, hr, ⟨fn, hf, hn, by rw [hb]; rfl⟩, fun S w vs hold hG hxs => ?_⟩
  refine calls_of_wp hf hb ?_
  have hRM : RM S μ0 w ⟨[], 0, 0, 0⟩ := ⟨fun o ob h => by simp [Mem.find, lk] at h, fun o o' ob ob' h => by simp [Mem.find, lk] at h, hold, fun _ _ => rfl, fun o _ h => by simp at h, Nat.le_refl _, fun o b bo h => by simp [μ0] at h⟩
  have hRX : RX γ fn.ntmps 0 ⟨[], 0, 0, 0⟩ S μ0 w ⟨(xs.zipIdx.map fun p => (p.2, p.1)), ⟨[], 0, 0, 0⟩⟩ { tmps := vs.toArray ++ Array.replicate (fn.ntmps - vs.toArray.size) undef, defers := [] } w :=
    ⟨S, μ0, ⟨hRM, args_env hxs, rfl⟩, hG, Ext.refl0, by simp; omega, Nat.zero_le _, Nat.zero_le _⟩
  have fin : ∀ (e : Exit) (σ : St) (a : Act) (w' : World), endV P fn.results.toList r e σ → RX γ fn.ntmps 0 ⟨[], 0, 0, 0⟩ S μ0 w σ a w' → a.defers = [] ∧ ∃ v, (results fn a.tmps).run P w' = .ok v w' ∧ ∃ u S', Ending.returned v = .returned u ∧ Ext0 S w S' w' ∧ Rep S' μ0 w' r u := by
    intro e σ a w' hE hR
    obtain ⟨S', μ, hA, hG', hX, _, _, _⟩ := hR
    obtain ⟨y, h1, ids, h2⟩ := hE
    obtain ⟨v, h3, h4⟩ := res_run hA.rm hA.env h1
    refine ⟨hA.defers, v, h3, v, (fun b off => S b off ∨ (w.heap.size ≤ b ∧ b < w'.heap.size)), rfl, ⟨hX.os, hX.tape, hX.output, hX.size, fun b off h => .inl h, fun b off hb h => ?_, fun b off h => ?_, fun b hb => ?_, hX.uf⟩, ?_⟩
    · rcases h with h | h
      · exact h
      · omega
    · rcases h with h | h
      · have := hold _ _ h; have := hX.size; omega
      · exact h.2
    · exact (hX.blk b hb owned_nil).1
    · refine (snap_repX hA.rm (fun b off hs => ?_) (fun b ho off => ?_) 12 (unf y) r ids v h2 (unf_rep h4)).2
      · rcases Nat.lt_or_ge b w.heap.size with hlt | hge
        · rcases hX.new b off hlt hs with h | h
          · exact .inl h
          · exact absurd h owned_nil
        · exact .inr ⟨hge, hA.rm.old _ _ hs⟩
      · rcases Nat.lt_or_ge b w.heap.size with hlt | hge
        · exact absurd (Or.inl ho) (hX.blk b hlt owned_nil).2
        · obtain ⟨o, ob, bo, _, _, h⟩ := ho
          exact .inr ⟨hge, hA.rm.bk _ _ _ h⟩
  refine wp_mono (ev_sound hm _ c [.fin (endV P fn.results.toList r)] _ _ w hd (Nat.le_refl _) h hRX) fun e a w' hp => ?_
  cases e with
  | normal =>
    obtain ⟨σ, h1, h2⟩ := hp
    rw [ev] at h1
    exact fin .normal σ a w' h1 h2
  | ret =>
    obtain ⟨σ, Q, h1, h2, h3⟩ := hp
    simp only [retK, Option.some.injEq] at h1
    subst h1
    exact fin .ret σ a w' h2 h3
  | exit id =>
    obtain ⟨σ, k', h1, _⟩ := hp
    simp [exitK] at h1
  | _ => exact hp.elim


/-! Results that are all new. -/
mutual
def scl : AV → Bool
  | .v _ => true
  | .agg xs => sclL xs
  | .tup xs => sclL xs
  | _ => false
def sclL : List AV → Bool
  | [] => true
  | x :: xs => scl x && sclL xs
end
mutual
theorem scl_idf : ∀ (x : AV), scl x = true → idf x = true
  | .v _, _ => rfl
  | .agg xs, h => by simp only [scl, idf] at *; exact sclL_idf xs h
  | .tup xs, h => by simp only [scl, idf] at *; exact sclL_idf xs h
  | .seq _ _ _, h => by simp [scl] at h
  | .full _ _ _, h => by simp [scl] at h
  | .slc _ _ _ _, h => by simp [scl] at h
  | .rop _, h => by simp [scl] at h
  | .ptr _ _, h => by simp [scl] at h
  | .sl _ _ _ _, h => by simp [scl] at h
  | .mp _, h => by simp [scl] at h
  | .mv _ _ _, h => by simp [scl] at h
  | .it _, h => by simp [scl] at h
  | .clo _ _ _, h => by simp [scl] at h
  | .ifc _ _, h => by simp [scl] at h
  | .on _ _ _, h => by simp [scl] at h
  | .bs _ _, h => by simp [scl] at h
  | .bp _, h => by simp [scl] at h
  | .top, h => by simp [scl] at h
theorem sclL_idf : ∀ (xs : List AV), sclL xs = true → idfL xs = true
  | [], _ => rfl
  | x :: xs, h => by simp only [sclL, idfL, Bool.and_eq_true] at *; exact ⟨scl_idf x h.1, sclL_idf xs h.2⟩
end
mutual
theorem Rep.scl {S S' μ μ'} {w w' : World} : ∀ (x : AV) (v : Value), scl x = true → Rep S μ w x v → Rep S' μ' w' x v
  | .v x, v, _, r => by simpa [Rep] using r
  | .agg xs, v, h, r => by
    simp only [Rep, Go.AW.scl] at *
    obtain ⟨ys, e, r, o⟩ := r
    exact ⟨ys, e, RepL.scl xs ys h r, o⟩
  | .tup xs, v, h, r => by
    simp only [Rep, Go.AW.scl] at *
    obtain ⟨ys, e, r⟩ := r
    exact ⟨ys, e, RepL.scl xs ys h r⟩
  | .seq _ _ _, _, h, _ => by simp [Go.AW.scl] at h
  | .full _ _ _, _, h, _ => by simp [Go.AW.scl] at h
  | .slc _ _ _ _, _, h, _ => by simp [Go.AW.scl] at h
  | .rop _, _, h, _ => by simp [Go.AW.scl] at h
  | .ptr _ _, _, h, _ => by simp [Go.AW.scl] at h
  | .sl _ _ _ _, _, h, _ => by simp [Go.AW.scl] at h
  | .mp _, _, h, _ => by simp [Go.AW.scl] at h
  | .mv _ _ _, _, h, _ => by simp [Go.AW.scl] at h
  | .it _, _, h, _ => by simp [Go.AW.scl] at h
  | .clo _ _ _, _, h, _ => by simp [Go.AW.scl] at h
  | .ifc _ _, _, h, _ => by simp [Go.AW.scl] at h
  | .on _ _ _, _, h, _ => by simp [Go.AW.scl] at h
  | .bs _ _, _, h, _ => by simp [Go.AW.scl] at h
  | .bp _, _, h, _ => by simp [Go.AW.scl] at h
  | .top, _, h, _ => by simp [Go.AW.scl] at h
theorem RepL.scl {S S' μ μ'} {w w' : World} : ∀ (xs : List AV) (ys : List Value), sclL xs = true → RepL S μ w xs ys → RepL S' μ' w' xs ys
  | [], ys, _, r => by simpa [RepL] using r
  | x :: xs, ys, h, r => by
    simp only [RepL, sclL, Bool.and_eq_true] at *
    obtain ⟨y, zs, e, r1, r2⟩ := r
    exact ⟨y, zs, e, Rep.scl x y h.1 r1, RepL.scl xs zs h.2 r2⟩
end

def snapNM (f : AV → Option AV) : List AV → Option (List AV)
  | [] => some []
  | x :: xs => match f x, snapNM f xs with
    | some p, some q => some (p :: q)
    | _, _ => none
/-- A value as it stands, where nothing of it was there before the call. -/
def snapN (find : Nat → Option AObj) : Nat → AV → Option AV
  | 0, _ => none
  | n + 1, x => match x with
    | .ptr o off => match find o with
      | some (.cells _ ys _) => if sclL ys then some (.rop (ys.drop off)) else none
      | _ => none
    | .sl o off k sz => match find o with
      | some (.cells _ ys _) => if off + k * sz ≤ ys.length then if sclL ys then some (.seq k sz ((ys.drop off).take (k * sz))) else none else none
      | _ => none
    | .mp o => match find o with
      | some (.map kt ks xs) => if sclL xs then some (.mv kt ks xs) else none
      | _ => none
    | .agg xs => (snapNM (snapN find n) xs).map .agg
    | .tup xs => (snapNM (snapN find n) xs).map .tup
    | x => if scl x then some x else none

theorem snapNM_rep {S T μ} {w : World} {F : AV → Option AV} (hF : ∀ (x : AV) y v, F x = some y → Rep S μ w x v → idf y = true ∧ Rep T μ0 w y v) : ∀ (xs ys : List AV) (vs : List Value), snapNM F xs = some ys → RepL S μ w xs vs → idfL ys = true ∧ RepL T μ0 w ys vs
  | [], ys, vs, h, r => by simp only [snapNM, Option.some.injEq] at h; subst h; exact ⟨rfl, by simpa [RepL] using r⟩
  | x :: xs, ys, vs, h, r => by
    simp only [snapNM] at h
    split at h
    · rename_i p q hp hq
      simp only [Option.some.injEq] at h
      subst h
      simp only [RepL] at r ⊢
      obtain ⟨y, zs, rfl, r1, r2⟩ := r
      obtain ⟨h1, h2⟩ := hF x p y hp r1
      obtain ⟨h3, h4⟩ := snapNM_rep hF xs q zs hq r2
      exact ⟨by simp [idfL, h1, h3], y, zs, rfl, h2, h4⟩
    · cases h

theorem snapN_rep {S T μ} {w : World} {m : Mem} (hr : RM S μ w m) (hO : ∀ b, OwnedC m μ b → ∀ off, T b off) : ∀ (n : Nat) (x y : AV) (v : Value), snapN m.find n x = some y → Rep S μ w x v → idf y = true ∧ Rep T μ0 w y v
  | 0, x, y, v, h, _ => by simp [snapN] at h
  | n + 1, x, y, v, h, r => by
    have snp : ∀ {ys : List AV}, sclL ys = true → (snapL (snap m.find 12) ys) = some (ys, []) := fun h => by simp [snapL, sclL_idf _ h]
    cases x with
    | ptr o off =>
      simp only [snapN] at h
      split at h
      · rename_i E zs ap hf
        split at h
        · rename_i hs
          simp only [Option.some.injEq] at h
          subst h
          simp only [Rep] at r
          obtain ⟨b, bo, hμ, rfl⟩ := r
          obtain ⟨ys, g1, g2, g3⟩ := obj_reads hr hf hμ
          refine ⟨by simp only [idf]; exact idfL_drop _ _ (sclL_idf _ hs), ?_⟩
          simp only [Rep]
          refine ⟨b, bo + off, rfl, RepC.drop (RepC.mk fun i x hi => ?_) off⟩
          obtain ⟨u, hu, hx⟩ := (RepL.scl (S' := T) (μ' := μ0) (w' := w) zs ys hs g1).get hi
          exact ⟨hO b ⟨o, _, bo, hf, rfl, hμ⟩ _, u, g3 i u hu, g2 u (List.mem_of_getElem? hu), hx⟩
        · cases h
      · cases h
    | sl o off k sz =>
      simp only [snapN] at h
      split at h
      · rename_i E zs ap hf
        split at h
        · rename_i hle
          split at h
          · rename_i hs
            simp only [Option.some.injEq] at h
            subst h
            simp only [Rep] at r
            obtain ⟨base, cap, rfl, hk, r⟩ := r
            refine ⟨by simp only [idf]; exact idfL_take _ _ (idfL_drop _ _ (sclL_idf _ hs)), ?_⟩
            simp only [Rep]
            refine ⟨base, cap, rfl, hk, by simp; omega, ?_⟩
            rcases r with r | ⟨b, bo, hμ, rfl, _⟩
            · left; omega
            · obtain ⟨ys, g1, g2, g3⟩ := obj_reads hr hf hμ
              refine .inr ⟨b, bo + off, rfl, RepC.take (RepC.drop (RepC.mk fun i x hi => ?_) off) _⟩
              obtain ⟨u, hu, hx⟩ := (RepL.scl (S' := T) (μ' := μ0) (w' := w) zs ys hs g1).get hi
              exact ⟨hO b ⟨o, _, bo, hf, rfl, hμ⟩ _, u, g3 i u hu, g2 u (List.mem_of_getElem? hu), hx⟩
          · cases h
        · cases h
      · cases h
    | mp o =>
      simp only [snapN] at h
      split at h
      · rename_i kt ks zs hf
        split at h
        · rename_i hs
          simp only [Option.some.injEq] at h
          subst h
          obtain ⟨b, bo, es, clock, rfl, hμ, hb, hok, hks, hxs, hno⟩ := map_obj hr hf r
          refine ⟨by simpa only [idf] using sclL_idf _ hs, ?_⟩
          simp only [Rep]
          exact .inr ⟨b, es, clock, rfl, hO b ⟨o, _, bo, hf, rfl, hμ⟩ _, hb, hok, hks, RepL.scl _ _ hs hxs⟩
        · cases h
      · cases h
    | agg xs =>
      simp only [snapN, Option.map_eq_some_iff] at h
      obtain ⟨p, hs, rfl⟩ := h
      simp only [Rep] at r
      obtain ⟨ys, e, r, o⟩ := r
      obtain ⟨k1, k2⟩ := snapNM_rep (snapN_rep hr hO n) _ _ _ hs r
      refine ⟨by simpa only [idf] using k1, ?_⟩
      simp only [Rep]
      exact ⟨ys, e, k2, o⟩
    | tup xs =>
      simp only [snapN, Option.map_eq_some_iff] at h
      obtain ⟨p, hs, rfl⟩ := h
      simp only [Rep] at r
      obtain ⟨ys, e, r⟩ := r
      obtain ⟨k1, k2⟩ := snapNM_rep (snapN_rep hr hO n) _ _ _ hs r
      refine ⟨by simpa only [idf] using k1, ?_⟩
      simp only [Rep]
      exact ⟨ys, e, k2⟩
    | v z =>
      simp only [snapN, scl, if_true, Option.some.injEq] at h
      subst h
      exact ⟨rfl, by simpa [Rep] using r⟩
    | _ => simp [snapN, scl] at h

theorem ownedC_uf {S μ} {w : World} {m : Mem} (hr : RM S μ w m) {b : Nat} (h : OwnedC m μ b) : Uf w b := by
  obtain ⟨o, ob, bo, h1, h2, h3⟩ := h
  have hob := (hr.obj o ob h1).2
  cases ob with
  | cells E xs ap =>
    simp only [RepO] at hob
    rcases hob with ⟨h, _⟩ | ⟨b', bo', ys, c, fz, e1, e2, e3, _⟩
    · rw [h3] at h; cases h
    · rw [h3] at e1; cases e1
      intro c' E' fz' hc
      rw [e2] at hc; cases hc
      exact e3
  | map kt ks xs =>
    simp only [RepO] at hob
    obtain ⟨b', bo', es, clock, e1, e2, _⟩ := hob
    rw [h3] at e1; cases e1
    intro c' E' fz' hc
    rw [e2] at hc; cases hc
  | miter last ks xs =>
    simp only [RepO] at hob
    obtain ⟨b', bo', mb, since, seen, stepped, e1, _, e2, _⟩ := hob
    rw [h3] at e1; cases e1
    intro c' E' fz' hc
    rw [e2] at hc; cases hc
  | siter s pos =>
    simp only [RepO] at hob
    obtain ⟨b', bo', e1, _, e2⟩ := hob
    rw [h3] at e1; cases e1
    intro c' E' fz' hc
    rw [e2] at hc; cases hc
  | imm xs => cases h2
  | past T => cases h2
  | bag => cases h2
  | dead => cases h2

def endN (P : Program) (rs : List ResultVar) (r : AV) (_ : Exit) (σ : St) : Prop := ∃ y, resA P rs σ.env σ.mem = some y ∧ snapN σ.mem.find 12 (unf y) = some r

/-- From what a call does in an empty memory. -/
theorem PNew.of {f : FuncId} {xs : List AV} {r : AV} (hx : idfL xs = true) (hr : idf r = true) (h : ACalls P γ f xs ⟨[], 0, 0, 0⟩ fun y m => snapN m.find 12 (unf y) = some r) : PNew P γ f xs r := by
  refine ⟨hx, hr, h.1, fun S w vs hold hG hxs => ?_⟩
  have hRM : RM S μ0 w ⟨[], 0, 0, 0⟩ := ⟨fun o ob h => by simp [Mem.find, lk] at h, fun o o' ob ob' h => by simp [Mem.find, lk] at h, hold, fun _ _ => rfl, fun o _ h => by simp at h, Nat.le_refl _, fun o b bo h => by simp [μ0] at h⟩
  refine (h.2 S μ0 w vs hRM hG hxs).mono fun e w' he => ?_
  obtain ⟨v, x, m', S', μ', rfl, _, _, hrm, hX, hrep, hsn⟩ := he
  refine ⟨v, rfl, ⟨hX.os, hX.tape, hX.output, hX.size, fun b off h => .inl h, fun b off hb h => ?_, fun b off h => ?_, fun b hb => ?_, hX.uf⟩, ?_⟩
  · rcases h with h | h
    · exact h
    · omega
  · rcases h with h | h
    · have := hold _ _ h; have := hX.size; omega
    · exact h.2
  · exact (hX.blk b hb owned_nil).1
  · refine (snapN_rep hrm (fun b ho off => ?_) 12 (unf x) r v hsn (unf_rep hrep)).2
    rcases Nat.lt_or_ge b w.heap.size with hlt | hge
    · exact absurd (Or.inl ho) (hX.blk b hlt owned_nil).2
    · have hu := ownedC_uf hrm ho
      obtain ⟨o, ob, bo, _, _, h⟩ := ho
      exact ⟨hge, hrm.bk _ _ _ h, hu⟩

theorem PNew.enter {f : FuncId} {fn : Func} {c : Code} {xs : List AV} {r : AV} (hf : P.funcs[f]? = some fn) (hb : fn.body = some c) (hn : (fn.name == "runtime.NumGoroutine") = false) (hm : P.follows .mixedOrders = true) (hd : dOK c = true) (hx : idfL xs = true) (hr : idf r = true)
    (h : ev P γ 0 fn.ntmps [.code c, .fin (endN P fn.results.toList r)] ⟨(xs.zipIdx.map fun p => (p.2, p.1)), ⟨[], 0, 0, 0⟩⟩) : PNew P γ f xs r := by
  refine PNew.of hx hr ⟨⟨fn, hf, hn, by rw [hb]; rfl⟩, fun S μ w vs hr hG hxs => ?_⟩
  refine calls_of_wp hf hb ?_
  have hRX : RX γ fn.ntmps 0 ⟨[], 0, 0, 0⟩ S μ w ⟨(xs.zipIdx.map fun p => (p.2, p.1)), ⟨[], 0, 0, 0⟩⟩ { tmps := vs.toArray ++ Array.replicate (fn.ntmps - vs.toArray.size) undef, defers := [] } w :=
    ⟨S, μ, ⟨hr, args_env hxs, rfl⟩, hG, ⟨rfl, rfl, rfl, Nat.le_refl _, fun _ _ => rfl, fun _ _ h => h, Nat.le_refl _, fun _ _ h => h, fun _ _ _ h => .inl h, fun _ _ _ => rfl, fun _ _ _ _ _ h => h, fun _ _ h => ⟨rfl, h⟩, fun _ => Nat.le_refl _, fun _ _ h => h⟩, by simp; omega, Nat.zero_le _, Nat.zero_le _⟩
  have fin : ∀ (e : Exit) (σ : St) (a : Act) (w' : World), endN P fn.results.toList r e σ → RX γ fn.ntmps 0 ⟨[], 0, 0, 0⟩ S μ w σ a w' → a.defers = [] ∧ ∃ v, (results fn a.tmps).run P w' = .ok v w' ∧
      ∃ v0 x m' S' μ', Ending.returned v = .returned v0 ∧ m'.base = 0 ∧ m'.wid = 0 ∧ RM S' μ' w' m' ∧ Ext 0 ⟨[], 0, 0, 0⟩ S μ w m' S' μ' w' ∧ Rep S' μ' w' x v0 ∧ snapN m'.find 12 (unf x) = some r := by
    intro e σ a w' hE hR
    obtain ⟨S', μ', hA, hG', hX, _, _, _⟩ := hR
    obtain ⟨y, h1, h2⟩ := hE
    obtain ⟨v, h3, h4⟩ := res_run hA.rm hA.env h1
    exact ⟨hA.defers, v, h3, v, y, ⟨σ.mem.objs, σ.mem.next, 0, 0⟩, S', μ', rfl, rfl, rfl, ⟨hA.rm.obj, hA.rm.inj, hA.rm.old, hA.rm.fr, fun o _ h => by simp at h, Nat.zero_le _, hA.rm.bk⟩, hX.same (fun _ => rfl) rfl, h4, h2⟩
  refine wp_mono (ev_sound hm _ c [.fin (endN P fn.results.toList r)] _ _ w hd (Nat.le_refl _) h hRX) fun e a w' hp => ?_
  cases e with
  | normal =>
    obtain ⟨σ, h1, h2⟩ := hp
    rw [ev] at h1
    exact fin .normal σ a w' h1 h2
  | ret =>
    obtain ⟨σ, Q, h1, h2, h3⟩ := hp
    simp only [retK, Option.some.injEq] at h1
    subst h1
    exact fin .ret σ a w' h2 h3
  | exit id =>
    obtain ⟨σ, k', h1, _⟩ := hp
    simp [exitK] at h1
  | _ => exact hp.elim

end Go.AW
namespace Go.AW
variable {P : Program} {γ : GTab} {S : Nat → Nat → Prop} {μ : Nat → Option (Nat × Nat)} {w : World}

mutual
def renA (ρ : Nat → Nat) : AV → AV
  | .v x => .v x
  | .agg xs => .agg (renL ρ xs)
  | .tup xs => .tup (renL ρ xs)
  | .seq n sz xs => .seq n sz (renL ρ xs)
  | .full n sz xs => .full n sz (renL ρ xs)
  | .slc o off n sz => .slc (ρ o) off n sz
  | .rop xs => .rop (renL ρ xs)
  | .ptr o off => .ptr (ρ o) off
  | .sl o off n sz => .sl (ρ o) off n sz
  | .mp o => .mp (ρ o)
  | .mv kt ks xs => .mv kt ks (renL ρ xs)
  | .it o => .it (ρ o)
  | .clo fn f c => .clo fn (renL ρ f) (renL ρ c)
  | .ifc t x => .ifc t (renA ρ x)
  | .on T u x => .on T u (renA ρ x)
  | .bs o n => .bs (ρ o) n
  | .bp o => .bp (ρ o)
  | .top => .top
def renL (ρ : Nat → Nat) : List AV → List AV
  | [] => []
  | x :: xs => renA ρ x :: renL ρ xs
end

def renO (ρ : Nat → Nat) : AObj → AObj
  | .cells E xs ap => .cells E (renL ρ xs) ap
  | .imm xs => .imm (renL ρ xs)
  | .map kt ks xs => .map kt ks (renL ρ xs)
  | .miter last ks xs => .miter (last.map fun p => (p.1, renA ρ p.2)) ks (renL ρ xs)
  | .siter s pos => .siter s pos
  | .past T => .past T
  | .bag => .bag
  | .dead => .dead

theorem renL_length (ρ : Nat → Nat) : ∀ xs : List AV, (renL ρ xs).length = xs.length
  | [] => rfl
  | x :: xs => by simp [renL, renL_length ρ xs]

mutual
theorem Rep.ren {S : Nat → Nat → Prop} (ρ : Nat → Nat) : ∀ (x : AV) (v : Value), Rep S μ w (renA ρ x) v → Rep S (fun o => μ (ρ o)) w x v
  | .v x, v, r => by simpa [Rep, renA] using r
  | .agg xs, v, r => by
    simp only [Rep, renA] at *
    obtain ⟨ys, e, r, o⟩ := r
    exact ⟨ys, e, RepL.ren ρ xs ys r, o⟩
  | .tup xs, v, r => by
    simp only [Rep, renA] at *
    obtain ⟨ys, e, r⟩ := r
    exact ⟨ys, e, RepL.ren ρ xs ys r⟩
  | .seq n sz xs, v, r => by
    simp only [Rep, renA] at *
    obtain ⟨base, cap, e, hn, hl, r⟩ := r
    refine ⟨base, cap, e, hn, (renL_length ρ xs).symm.trans hl, ?_⟩
    rcases r with r | ⟨b, off, e, r⟩
    · exact .inl r
    · exact .inr ⟨b, off, e, RepC.ren ρ xs b off r⟩
  | .full n sz xs, v, r => by
    simp only [Rep, renA] at *
    obtain ⟨base, e, hl, r⟩ := r
    refine ⟨base, e, (renL_length ρ xs).symm.trans hl, ?_⟩
    rcases r with r | ⟨b, off, e, r⟩
    · exact .inl r
    · exact .inr ⟨b, off, e, RepC.ren ρ xs b off r⟩
  | .slc o off n sz, v, r => by simpa only [Rep, renA] using r
  | .rop xs, v, r => by
    simp only [Rep, renA] at *
    obtain ⟨b, off, e, r⟩ := r
    exact ⟨b, off, e, RepC.ren ρ xs b off r⟩
  | .ptr o off, v, r => by simpa only [Rep, renA] using r
  | .sl o off n sz, v, r => by simpa only [Rep, renA] using r
  | .mp o, v, r => by simpa only [Rep, renA] using r
  | .it o, v, r => by simpa only [Rep, renA] using r
  | .mv kt ks xs, v, r => by
    simp only [Rep, renA] at *
    rcases r with ⟨r1, r2, r3⟩ | ⟨b, es, clock, e, hs, hb, hm, hk, r⟩
    · exact .inl ⟨r1, r2, by have := renL_length ρ xs; rw [r3] at this; exact List.eq_nil_of_length_eq_zero this.symm⟩
    · exact .inr ⟨b, es, clock, e, hs, hb, hm, hk, RepL.ren ρ xs _ r⟩
  | .clo fn f c, v, r => by
    simp only [Rep, renA] at *
    obtain ⟨fs, cs, e, r1, r2⟩ := r
    exact ⟨fs, cs, e, RepL.ren ρ f fs r1, RepL.ren ρ c cs r2⟩
  | .ifc t x, v, r => by
    simp only [Rep, renA] at *
    obtain ⟨u, e, r⟩ := r
    exact ⟨u, e, Rep.ren ρ x u r⟩
  | .on T u x, v, r => by
    simp only [Rep, renA] at *
    exact Rep.ren ρ x v r
  | .bs o n, v, r => by simpa only [Rep, renA] using r
  | .bp o, v, r => by simpa only [Rep, renA] using r
  | .top, v, _ => by simp [Rep]
theorem RepL.ren {S : Nat → Nat → Prop} (ρ : Nat → Nat) : ∀ (xs : List AV) (ys : List Value), RepL S μ w (renL ρ xs) ys → RepL S (fun o => μ (ρ o)) w xs ys
  | [], ys, r => by simpa [RepL, renL] using r
  | x :: xs, ys, r => by
    simp only [RepL, renL] at *
    obtain ⟨y, zs, e, r1, r2⟩ := r
    exact ⟨y, zs, e, Rep.ren ρ x y r1, RepL.ren ρ xs zs r2⟩
theorem RepC.ren {S : Nat → Nat → Prop} (ρ : Nat → Nat) : ∀ (xs : List AV) (b off : Nat), RepC S μ w (renL ρ xs) b off → RepC S (fun o => μ (ρ o)) w xs b off
  | [], _, _, _ => by simp [RepC]
  | x :: xs, b, off, r => by
    simp only [RepC, renL] at *
    obtain ⟨⟨hs, u, hu, ho, r1⟩, r2⟩ := r
    exact ⟨⟨hs, u, hu, ho, Rep.ren ρ x u r1⟩, RepC.ren ρ xs b (off + 1) r2⟩
end

mutual
theorem renA_idf (ρ : Nat → Nat) : ∀ (x : AV), idf x = true → renA ρ x = x
  | .v x, _ => rfl
  | .agg xs, h => by simp only [idf, renA] at *; rw [renL_idf ρ xs h]
  | .tup xs, h => by simp only [idf, renA] at *; rw [renL_idf ρ xs h]
  | .seq n sz xs, h => by simp only [idf, renA] at *; rw [renL_idf ρ xs h]
  | .full n sz xs, h => by simp only [idf, renA] at *; rw [renL_idf ρ xs h]
  | .slc o off n sz, h => by simp [idf] at h
  | .rop xs, h => by simp only [idf, renA] at *; rw [renL_idf ρ xs h]
  | .ptr o off, h => by simp [idf] at h
  | .sl o off n sz, h => by simp [idf] at h
  | .mp o, h => by simp [idf] at h
  | .it o, h => by simp [idf] at h
  | .mv kt ks xs, h => by simp only [idf, renA] at *; rw [renL_idf ρ xs h]
  | .clo fn f c, h => by simp only [idf, renA, Bool.and_eq_true] at *; rw [renL_idf ρ f h.1, renL_idf ρ c h.2]
  | .ifc t x, h => by simp only [idf, renA] at *; rw [renA_idf ρ x h]
  | .on T u x, h => by simp only [idf, renA] at *; rw [renA_idf ρ x h]
  | .bs o n, h => by simp [idf] at h
  | .bp o, h => by simp [idf] at h
  | .top, _ => rfl
theorem renL_idf (ρ : Nat → Nat) : ∀ (xs : List AV), idfL xs = true → renL ρ xs = xs
  | [], _ => rfl
  | x :: xs, h => by simp only [idfL, renL, Bool.and_eq_true] at *; rw [renA_idf ρ x h.1, renL_idf ρ xs h.2]
end

theorem RepO.ren (ρ : Nat → Nat) {o : Nat} (ob : AObj) (h : RepO S μ w (ρ o) (renO ρ ob)) : RepO S (fun o => μ (ρ o)) w o ob := by
  cases ob with
  | cells E xs ap =>
    simp only [RepO, renO] at *
    rcases h with ⟨h1, h2⟩ | ⟨b, bo, ys, c, fz, e1, e2, e3, e4, e5⟩
    · exact .inl ⟨h1, by have := renL_length ρ xs; rw [h2] at this; exact List.eq_nil_of_length_eq_zero this.symm⟩
    · exact .inr ⟨b, bo, ys, c, fz, e1, e2, e3, RepL.ren ρ _ _ e4, e5⟩
  | imm xs =>
    simp only [RepO, renO] at *
    rcases h with h | ⟨b, bo, e1, e2⟩
    · exact .inl (by have := renL_length ρ xs; rw [h] at this; exact List.eq_nil_of_length_eq_zero this.symm)
    · exact .inr ⟨b, bo, e1, RepC.ren ρ _ _ _ e2⟩
  | map kt ks xs =>
    simp only [RepO, renO] at *
    obtain ⟨b, bo, es, clock, e1, e2, e3, e4, e5, e6⟩ := h
    exact ⟨b, bo, es, clock, e1, e2, e3, e4, RepL.ren ρ _ _ e5, e6⟩
  | miter last ks xs =>
    simp only [RepO, renO] at *
    obtain ⟨b, bo, mb, since, seen, stepped, e1, e2, e3, e4⟩ := h
    refine ⟨b, bo, mb, since, seen, stepped, e1, e2, e3, ?_⟩
    rcases e4 with ⟨g1, g2, g3, g4⟩ | ⟨r, es, kt, g1, g2, g3, g4, g5, g6, g7, g8⟩
    · exact .inl ⟨g1, g2, by have := renL_length ρ xs; rw [g3] at this; exact List.eq_nil_of_length_eq_zero this.symm, by simpa using g4⟩
    · refine .inr ⟨r, es, kt, g1, g2, g3, g4, g5, g6, RepL.ren ρ _ _ g7, fun p hp => ?_⟩
      obtain ⟨e, he1, he2, he3, he4⟩ := g8 (p.1, renA ρ p.2) (by rw [hp]; rfl)
      exact ⟨e, he1, he2, he3, Rep.ren ρ _ _ he4⟩
  | siter s pos => simpa only [RepO, renO] using h
  | past T => simpa only [RepO, renO] using h
  | bag =>
    simp only [RepO, renO] at *
    obtain ⟨b0, code, e1, e2⟩ := h
    exact ⟨b0, code, e1, fun b ht => ⟨(e2 b ht).1, (e2 b ht).2.1, (e2 b ht).2.2.1, fun q bo => (e2 b ht).2.2.2 (ρ q) bo⟩⟩
  | dead => simp [RepO]

theorem renO_own (ρ : Nat → Nat) (ob : AObj) : (renO ρ ob).own = ob.own := by cases ob <;> rfl

/-- The numbers' turn. -/
def rho' (r : List (Nat × Nat)) (n0 next' next o : Nat) : Nat := if o < n0 then o else if o < next' then (lk r o).getD (next + o) else next + o

def EntE (ρ : Nat → Nat) (env : List (Nat × AV)) : List (Nat × AV) → Prop
  | [] => True
  | (t, x) :: e => lk env t = some (renA ρ x) ∧ EntE ρ env e
def EntO (ρ : Nat → Nat) (objs : List (Nat × AObj)) : List (Nat × AObj) → Prop
  | [] => True
  | (o, x) :: e => lk objs (ρ o) = some (renO ρ x) ∧ EntO ρ objs e

theorem EntE.get {ρ : Nat → Nat} {env : List (Nat × AV)} : ∀ {e : List (Nat × AV)}, EntE ρ env e → ∀ {t x}, lk e t = some x → lk env t = some (renA ρ x)
  | [], _, t, x, h => by simp [lk] at h
  | (t', x') :: e, hE, t, x, h => by
    simp only [lk] at h
    split at h
    · rename_i e; subst e; simp only [Option.some.injEq] at h; subst h; exact hE.1
    · exact hE.2.get h
theorem EntO.get {ρ : Nat → Nat} {env : List (Nat × AObj)} : ∀ {e : List (Nat × AObj)}, EntO ρ env e → ∀ {t x}, lk e t = some x → lk env (ρ t) = some (renO ρ x)
  | [], _, t, x, h => by simp [lk] at h
  | (t', x') :: e, hE, t, x, h => by
    simp only [lk] at h
    split at h
    · rename_i e; subst e; simp only [Option.some.injEq] at h; subst h; exact hE.1
    · exact hE.2.get h
theorem lk_mem {α : Type} : ∀ {e : List (Nat × α)} {t x}, lk e t = some x → (t, x) ∈ e
  | [], t, x, h => by simp [lk] at h
  | (t', x') :: e, t, x, h => by
    simp only [lk] at h
    split at h
    · rename_i e; subst e; simp only [Option.some.injEq] at h; subst h; simp
    · exact List.mem_cons_of_mem _ (lk_mem h)

def injOn (ρ : Nat → Nat) : List (Nat × AObj) → Prop
  | [] => True
  | (o, _) :: e => (e.all fun p => p.1 == o || ρ p.1 != ρ o) = true ∧ injOn ρ e
theorem injOn.get {ρ : Nat → Nat} : ∀ {e : List (Nat × AObj)}, injOn ρ e → ∀ {o o' x x'}, (o, x) ∈ e → (o', x') ∈ e → o ≠ o' → ρ o ≠ ρ o'
  | [], _, o, o', x, x', h, _, _ => by simp at h
  | (p, y) :: e, hI, o, o', x, x', h, h', hne => by
    simp only [injOn, List.all_eq_true, Bool.or_eq_true, beq_iff_eq, bne_iff_ne, ne_eq] at hI
    rcases List.mem_cons.1 h with h1 | h1 <;> rcases List.mem_cons.1 h' with h2 | h2
    · cases h1; cases h2; exact absurd rfl hne
    · cases h1
      rcases hI.1 _ h2 with h3 | h3
      · exact absurd h3.symm hne
      · exact fun e => h3 e.symm
    · cases h2
      rcases hI.1 _ h1 with h3 | h3
      · exact absurd h3 hne
      · exact h3
    · exact hI.2.get h1 h2 hne

theorem Ent.intro (r : List (Nat × Nat)) {n0 : Nat} {env env' : List (Nat × AV)} {objs objs' : List (Nat × AObj)} {next base wid next' : Nat}
    (hE : EntE (rho' r n0 next' next) env env') (hO : EntO (rho' r n0 next' next) objs objs') (hI : injOn (rho' r n0 next' next) objs') (hn : (objs'.all fun p => decide (p.1 < next')) = true) (h0 : n0 ≤ next') (h1 : n0 ≤ next) : Ent n0 ⟨env, ⟨objs, next, base, wid⟩⟩ ⟨env', ⟨objs', next', next', 0⟩⟩ := by
  intro S μ w a hr henv
  have hlt : ∀ {o ob}, lk objs' o = some ob → o < next' := fun h => by
    rw [List.all_eq_true] at hn
    simpa using hn _ (lk_mem h)
  refine ⟨S, fun o => μ (rho' r n0 next' next o), ⟨fun o ob hf => ⟨hlt hf, RepO.ren _ ob (hr.obj _ _ (hO.get hf)).2⟩, fun o o' ob ob' hf hf' ho ho' hne b i j hi => ?_, hr.old, fun o ho => ?_, fun o h1 h2 => ?_, Nat.le_refl _, fun o b bo h => hr.bk _ _ _ h⟩, fun t x ht => Rep.ren _ _ _ (henv t _ (hE.get ht)), fun _ _ h => h, fun _ _ h => .inl h, fun o ho => ?_, fun o ho hf => ?_, h0, rfl, fun b hb => ?_⟩
  · exact hr.inj _ _ _ _ (hO.get hf) (hO.get hf') (by rw [renO_own]; exact ho) (by rw [renO_own]; exact ho') (hI.get (lk_mem hf) (lk_mem hf') hne) b i j hi
  · have : rho' r n0 next' next o = next + o := by
      have ho' : next' ≤ o := ho
      unfold rho'
      rw [if_neg (by omega), if_neg (by omega)]
    show μ (rho' r n0 next' next o) = none
    rw [this]
    exact hr.fr _ (by show next ≤ next + o; omega)
  · simp only at h1 h2; omega
  · show μ (rho' r n0 next' next o) = μ o
    unfold rho'; rw [if_pos ho]
  · obtain ⟨ob, hob⟩ := Option.ne_none_iff_exists'.1 hf
    have := hO.get hob
    have e : rho' r n0 next' next o = o := by unfold rho'; rw [if_pos ho]
    rw [e] at this
    show lk objs o ≠ none
    rw [this]; simp
  · rcases hb with ⟨o, ob, bo, hf, hown, hμ⟩ | ⟨o, b0, code, hf, hμ, ht⟩
    · exact .inl ⟨rho' r n0 next' next o, renO (rho' r n0 next' next) ob, bo, hO.get hf, by rw [renO_own]; exact hown, hμ⟩
    · exact .inr ⟨rho' r n0 next' next o, b0, code, hO.get hf, hμ, ht⟩

/-- Without a turn of numbers. -/
def SubE (env : List (Nat × AV)) : List (Nat × AV) → Prop
  | [] => True
  | (t, x) :: e => lk env t = some x ∧ SubE env e
theorem SubE.get {env : List (Nat × AV)} : ∀ {e : List (Nat × AV)}, SubE env e → ∀ {t x}, lk e t = some x → lk env t = some x
  | [], _, t, x, h => by simp [lk] at h
  | (t', x') :: e, hE, t, x, h => by
    simp only [lk] at h
    split at h
    · rename_i e; subst e; simp only [Option.some.injEq] at h; subst h; exact hE.1
    · exact hE.2.get h

def idfE : List (Nat × AV) → Bool
  | [] => true
  | (_, x) :: e => idf x && idfE e
theorem idfE.get : ∀ {e : List (Nat × AV)}, idfE e = true → ∀ {t x}, lk e t = some x → idf x = true
  | [], _, t, x, h => by simp [lk] at h
  | (t', x') :: e, hE, t, x, h => by
    simp only [idfE, Bool.and_eq_true] at hE
    simp only [lk] at h
    split at h
    · simp only [Option.some.injEq] at h; subst h; exact hE.1
    · exact idfE.get hE.2 h

/-- Where no object is kept. -/
theorem Ent.val {env env' : List (Nat × AV)} {objs : List (Nat × AObj)} {next base wid : Nat} {next' : Nat} (hI : idfE env' = true) (hE : SubE env env') : Ent 0 ⟨env, ⟨objs, next, base, wid⟩⟩ ⟨env', ⟨[], next', next', 0⟩⟩ := by
  intro S μ w a hr henv
  exact ⟨S, μ0, ⟨fun o ob h => by simp [Mem.find, lk] at h, fun o o' ob ob' h => by simp [Mem.find, lk] at h, hr.old, fun o _ => rfl, fun o h1 h2 => by simp only at h1 h2; omega, Nat.le_refl _, fun o b bo h => by simp [μ0] at h⟩,
    fun t x ht => Rep.idf0 (fun _ _ h => h) _ _ (idfE.get hI ht) (henv t x (hE.get ht)), fun _ _ h => h, fun _ _ h => .inl h, fun o ho => by omega, fun o ho => by omega, Nat.zero_le _, rfl, fun b hb => absurd hb owned_nil⟩

/-- What a round leaves. -/
def LP {ι : Type} (n0 : Nat) (st : ι → St) (I : ι → Prop) (ms : ι → Nat) (i : ι) (σ : St) : Prop := ∃ j, I j ∧ ms j < ms i ∧ Ent n0 σ (st j)
theorem ev_loopI {ι : Type} {n0 N : Nat} {c : Code} {k : List KI} {σ : St} (st : ι → St) (I : ι → Prop) (ms : ι → Nat) (i0 : ι) (h0 : I i0) (h1 : Ent n0 σ (st i0))
    (h : ∀ i, I i → ev P γ n0 N (.code c :: .lp (LP n0 st I ms i) :: k) (st i)) : ev P γ n0 N (.code (.loop c) :: k) σ := by
  rw [ev]
  exact ⟨ι, st, I, ms, i0, h0, h1, h⟩


theorem snap_idf {find : Nat → Option AObj} {n : Nat} {x : AV} (h : idf x = true) : snap find (n + 1) x = some (x, []) := by
  cases x <;> simp_all [snap, snapL, idf]
def endS (m : Mem) (y : Option AV) (r : AV) : Prop := ∃ y', y = some y' ∧ ∃ ids, snap m.find 12 (unf y') = some (r, ids)
theorem endV_eq {rs : List ResultVar} {r : AV} {e : Exit} {env : List (Nat × AV)} {m : Mem} : endV P rs r e ⟨env, m⟩ = endS m (resA P rs env m) r := (rfl)
theorem idf_unf (y : AV) : idf (unf y) = idf y := by cases y <;> rfl
theorem endS_idf {m : Mem} {y r : AV} (h : idf y = true) : endS m (some y) r = (unf y = r) := by
  simp [endS, snap_idf ((idf_unf y).trans h)]
theorem endS_v {m : Mem} {p : Value} {r : AV} : endS m (some (.v p)) r = (.v p = r) := endS_idf rfl
theorem resA_one {rv : ResultVar} {env : List (Nat × AV)} {m : Mem} : resA P [rv] env m = oneRes P env m rv := (rfl)
theorem oneRes_tmp {t : Nat} {env : List (Nat × AV)} {m : Mem} : oneRes P env m (.tmp t) = lk env t := (rfl)
theorem PCall.start {f : FuncId} {fn : Func} {c : Code} {rs : List ResultVar} {nt : Nat} {xs : List AV} {r : AV} (hf : P.funcs[f]? = some fn) (hb : fn.body = some c) (hn : (fn.name == "runtime.NumGoroutine") = false) (hrs : fn.results = rs.toArray) (hnt : fn.ntmps = nt) (hm : P.follows .mixedOrders = true) (hd : dOK c = true) (hx : idfL xs = true) (hr : idf r = true)
    (h : ev P γ 0 nt [.code c, .fin (endV P rs r)] ⟨(xs.zipIdx.map fun p => (p.2, p.1)), ⟨[], 0, 0, 0⟩⟩) : PCall P γ f xs r := by
  refine PCall.enter hf hb hn hm hd hx hr ?_
  rw [hrs, hnt]
  simpa using h
attribute [push_cast] endV_eq endS_v resA_one oneRes_tmp
end Go.AW
namespace Go.AW
variable {P : Program} {t : TypeId} {x y : Operand} {k : IntKind} {a b : Int}

theorem guard_int {op : BinOp} : eqGuard op t x y (.int k a) (.int k b) = pure () := by cases op <;> rfl
theorem guard_str {op : BinOp} {p q : ByteArray} : eqGuard op t x y (.string p) (.string q) = pure () := by cases op <;> rfl

theorem pbin_add : pbin P .add t x y (.int k a) (.int k b) = some (.int k (k.wrap (a + b))) := by
  simp [pbin, guard_int, binOp, Op.intArith]; rfl
theorem pbin_sub : pbin P .sub t x y (.int k a) (.int k b) = some (.int k (k.wrap (a - b))) := by
  simp [pbin, guard_int, binOp, Op.intArith]; rfl
theorem pbin_mul : pbin P .mul t x y (.int k a) (.int k b) = some (.int k (k.wrap (a * b))) := by
  simp [pbin, guard_int, binOp, Op.intArith]; rfl
theorem pbin_lss : pbin P .lss t x y (.int k a) (.int k b) = some (.bool (decide (a < b))) := by
  simp [pbin, guard_int, binOp, Op.intCmp]; rfl
theorem pbin_leq : pbin P .leq t x y (.int k a) (.int k b) = some (.bool (decide (a ≤ b))) := by
  simp [pbin, guard_int, binOp, Op.intCmp]; rfl
theorem pbin_gtr : pbin P .gtr t x y (.int k a) (.int k b) = some (.bool (decide (b < a))) := by
  simp [pbin, guard_int, binOp, Op.intCmp]; rfl
theorem pbin_geq : pbin P .geq t x y (.int k a) (.int k b) = some (.bool (decide (b ≤ a))) := by
  simp [pbin, guard_int, binOp, Op.intCmp]; rfl

theorem prun_pure {α : Type} {a : α} : prun P (pure a) = some a := (rfl)
theorem ibeq : (a == b) = decide (a = b) := by by_cases h : a = b <;> simp [h]
theorem lbeq {p q : List UInt8} : (p == q) = decide (p = q) := by by_cases h : p = q <;> simp [h]
theorem keqA_some {p q : Value} {r : Bool} (h : keqA P t p q = some r) : r = keq p q := by
  unfold keqA at h
  split at h
  · split at h
    · simp only [Option.some.injEq] at h; exact h.symm
    · cases h
  · cases h
theorem pbin_eql : pbin P .eql t x y (.int k a) (.int k b) = some (.bool (decide (a = b))) := by
  unfold pbin
  simp only
  cases h : keqA P t (.int k a) (.int k b) with
  | some r =>
    have := keqA_some h
    subst this
    simp [keq, ibeq]
  | none => simp [guard_int, binOp, Op.intCmp, prun_pure, ibeq]
theorem pbin_neq : pbin P .neq t x y (.int k a) (.int k b) = some (.bool (!decide (a = b))) := by
  unfold pbin
  simp only
  cases h : keqA P t (.int k a) (.int k b) with
  | some r =>
    have := keqA_some h
    subst this
    simp [keq, ibeq]
  | none => simp [guard_int, binOp, Op.intCmp, prun_pure, bne, ibeq]
theorem toList_loop (bs : ByteArray) : ∀ (i : Nat) (r : List UInt8), ByteArray.toList.loop bs i r = r.reverse ++ bs.data.toList.drop i := by
  intro i r
  induction i, r using ByteArray.toList.loop.induct bs with
  | case1 i r h ih =>
    rw [ByteArray.toList.loop, if_pos h, ih]
    have h' : i < bs.data.toList.length := by simpa using h
    rw [List.drop_eq_getElem_cons h']
    simp [ByteArray.get!, h]
  | case2 i r h =>
    rw [ByteArray.toList.loop, if_neg h]
    have h' : bs.data.toList.length ≤ i := by simpa using h
    simp [List.drop_eq_nil_of_le h']
theorem toList_data (bs : ByteArray) : bs.toList = bs.data.toList := by
  rw [ByteArray.toList, toList_loop]; simp
theorem toList_inj {p q : ByteArray} : p.toList = q.toList ↔ p = q := by
  rw [toList_data, toList_data]
  constructor
  · intro h
    obtain ⟨⟨a⟩⟩ := p
    obtain ⟨⟨b⟩⟩ := q
    simp only at h
    subst h; rfl
  · rintro rfl; rfl
theorem pbin_seql {p q : ByteArray} : pbin P .eql t x y (.string p) (.string q) = some (.bool (decide (p = q))) := by
  unfold pbin
  simp only
  cases h : keqA P t (.string p) (.string q) with
  | some r =>
    have := keqA_some h
    subst this
    simp [keq, lbeq, toList_inj]
  | none => simp [guard_str, binOp, Op.stringOp, prun_pure, lbeq, toList_inj]
theorem pbin_sneq {p q : ByteArray} : pbin P .neq t x y (.string p) (.string q) = some (.bool (!decide (p = q))) := by
  unfold pbin
  simp only
  cases h : keqA P t (.string p) (.string q) with
  | some r =>
    have := keqA_some h
    subst this
    simp [keq, lbeq, toList_inj]
  | none => simp [guard_str, binOp, Op.stringOp, prun_pure, lbeq, toList_inj]

theorem pbin_beql {p q : Bool} (h : tkt P t = some .boolK) (hg : tguard P t = false) : pbin P .eql t x y (.bool p) (.bool q) = some (.bool (decide (p = q))) := by
  simp [pbin, keqA, h, hg, kwf, keq]; cases p <;> cases q <;> rfl
theorem pbin_bneq {p q : Bool} (h : tkt P t = some .boolK) (hg : tguard P t = false) : pbin P .neq t x y (.bool p) (.bool q) = some (.bool (!decide (p = q))) := by
  simp [pbin, keqA, h, hg, kwf, keq]; cases p <;> cases q <;> rfl
theorem unA_not {p : Bool} : unA P .not (some (.bool p)) = some (.v (.bool (!p)), []) := (rfl)
theorem val_v {v : Value} : AV.val? (.v v) = some v := (rfl)
theorem wrap_i64 {n : Int} (h0 : -9223372036854775808 ≤ n) (h1 : n ≤ 9223372036854775807) : IntKind.wrap .i64 n = n := by
  simp only [IntKind.wrap, IntKind.bits, IntKind.signed]
  by_cases h : 0 ≤ n
  · have : n % 18446744073709551616 = n := Int.emod_eq_of_lt h (by omega)
    simp [this]; omega
  · have : n % 18446744073709551616 = n + 18446744073709551616 := by omega
    simp [this]; omega

theorem updOK_nil {m : Mem} {dst : Option Nat} : updOK m dst [] = true := by cases dst <;> simp [updOK, lk]
theorem nilSl_v {p : Value} {q : AV} : nilSl P t (.v p) q = none := by unfold nilSl; rfl
theorem nilSl_agg {p : List AV} {q : AV} : nilSl P t (.agg p) q = none := by unfold nilSl; rfl

/-! Elements laid flat. -/
def flat {α : Type} (f : α → List AV) (l : List α) : List AV := l.flatMap f
theorem flat_length {α : Type} {f : α → List AV} {sz : Nat} (h : ∀ x, (f x).length = sz) : ∀ l : List α, (flat f l).length = l.length * sz
  | [] => by simp [flat]
  | x :: l => by have := flat_length h l; simp only [flat, List.flatMap_cons, List.length_append, h, List.length_cons] at *; rw [this, Nat.add_mul, Nat.one_mul, Nat.add_comm]
theorem flat_drop {α : Type} {f : α → List AV} {sz : Nat} (h : ∀ x, (f x).length = sz) : ∀ (l : List α) (i : Nat) (hi : i < l.length), (flat f l).drop (i * sz) = f l[i] ++ flat f (l.drop (i + 1))
  | x :: l, 0, _ => by simp [flat]
  | x :: l, i + 1, hi => by
    have := flat_drop h l i (by simpa using hi)
    simp only [flat, List.flatMap_cons] at *
    rw [Nat.add_mul, Nat.one_mul, Nat.add_comm, ← List.drop_drop, List.drop_append_of_le_length (by rw [h]; exact Nat.le_refl _), ← h x, List.drop_length, List.nil_append, h x]
    simpa using this

/-- A branch that is not gone into yet: what stands in an instance, simp leaves alone. -/
def Br (c : Prop) [b : Box] : Prop := c → b.p
theorem Br_true {p : Prop} : (@Br True ⟨p⟩) = p := by simp [Br]
theorem Br_false {p : Prop} : (@Br False ⟨p⟩) = True := by simp [Br]
theorem evB_dec {c : Prop} [Decidable c] {yes no : Prop} : @evX (some (.v (.bool (decide c)))) true ⟨yes⟩ ⟨no⟩ = (@Br c ⟨yes⟩ ∧ @Br (¬ c) ⟨no⟩) := by
  by_cases h : c <;> simp [evX, evB, evBb, boolA, boolOf, Br, h]
theorem evB_ndec {c : Prop} [Decidable c] {yes no : Prop} : @evX (some (.v (.bool (!decide c)))) true ⟨yes⟩ ⟨no⟩ = (@Br (¬ c) ⟨yes⟩ ∧ @Br c ⟨no⟩) := by
  by_cases h : c <;> simp [evX, evB, evBb, boolA, boolOf, Br, h]
theorem evB_dec' {c : Prop} [Decidable c] {yes no : Prop} : @evX (some (.v (.bool (decide c)))) false ⟨yes⟩ ⟨no⟩ = (@Br (¬ c) ⟨yes⟩ ∧ @Br c ⟨no⟩) := by
  by_cases h : c <;> simp [evX, evB, evBb, boolA, boolOf, Br, h]
theorem evB_ndec' {c : Prop} [Decidable c] {yes no : Prop} : @evX (some (.v (.bool (!decide c)))) false ⟨yes⟩ ⟨no⟩ = (@Br c ⟨yes⟩ ∧ @Br (¬ c) ⟨no⟩) := by
  by_cases h : c <;> simp [evX, evB, evBb, boolA, boolOf, Br, h]

/-! Addresses and parts. -/
theorem indexAddr_seq {n z : Nat} {xs : List AV} {i : Int} : indexAddrF P t (.seq n z xs) (.v (.int k i)) = match telem P t with | some e => if z = tsz P e ∧ tok P e = true then if 0 ≤ i ∧ i < n then some (.rop (xs.drop (i.toNat * z))) else none else none | none => none := by
  unfold indexAddrF; cases telem P t <;> cases tarr P t <;> rfl
theorem indexAddr_sl {o off n z : Nat} {i : Int} : indexAddrF P t (.sl o off n z) (.v (.int k i)) = match telem P t with | some e => if z = tsz P e ∧ tok P e = true then if 0 ≤ i ∧ i < n then some (.ptr o (off + i.toNat * z)) else none else none | none => none := by
  unfold indexAddrF; cases telem P t <;> cases tarr P t <;> rfl
theorem loadF_rop {find : Nat → Option AObj} {xs : List AV} : loadF P find t (.rop xs) = partA P t xs 0 := (rfl)
def loadO (P : Program) (t : TypeId) (off : Nat) (ob : Option AObj) : Option AV := match ob with
    | some (.cells _ ys _) => partA P t ys off
    | some (.imm ys) => partA P t ys off
    | _ => none
theorem loadF_ptr {find : Nat → Option AObj} {o off : Nat} : loadF P find t (.ptr o off) = loadO P t off (find o) := (rfl)
theorem loadO_cells {E : TypeId} {ys : List AV} {ap : Bool} {off : Nat} : loadO P t off (some (.cells E ys ap)) = partA P t ys off := (rfl)
theorem loadO_imm {ys : List AV} {off : Nat} : loadO P t off (some (.imm ys)) = partA P t ys off := (rfl)
theorem partA_agg (h : tagg P t = some true) {xs : List AV} {off : Nat} : partA P t xs off = if off + tsz P t ≤ xs.length then some (.agg ((xs.drop off).take (tsz P t))) else none := by simp [partA, h]
theorem partA_one (h : tagg P t = some false) {xs : List AV} {off : Nat} : partA P t xs off = xs[off]? := by simp [partA, h]
theorem map_ite {α β : Type} {f : α → β} {c : Prop} [Decidable c] {a : Option α} : Option.map f (if c then a else none) = if c then Option.map f a else none := by split <;> rfl
theorem evDS_if' {all : Array Oper} {i : Nat} {rd : List Nat} {log : Log} {c : Prop} [Decidable c] {r : Option (AV × Upd)} {dst : Option Nat} {σ : St} {K : Log → St → Prop} : evDS all i rd log (if c then r else none) dst σ K = (c ∧ evDS all i rd log r dst σ K) := by
  by_cases h : c <;> simp [evDS, h]

/-! Strings. -/
def scell (s : ByteArray) : List AV := [.v (.string s)]
theorem scell_length (s : ByteArray) : (scell s).length = 1 := (rfl)
theorem sflat_drop (l : List ByteArray) (i : Nat) (hi : i < l.length) : (flat scell l).drop (i * 1) = .v (.string l[i]) :: flat scell (l.drop (i + 1)) := flat_drop (f := scell) (sz := 1) scell_length l i hi
theorem idfL_scell (s : ByteArray) : idfL (scell s) = true := (rfl)

/-! Hashes. -/
abbrev Hs := { l : List Int // l.length = 32 }
def hcell (h : Hs) : List AV := h.1.map fun n => .v (.int .u8 n)
def hval (h : Hs) : Value := .agg (h.1.map fun n => .int .u8 n).toArray
theorem hflat_drop (l : List Hs) (i : Nat) (hi : i < l.length) : (flat hcell l).drop (i * 32) = hcell l[i] ++ flat hcell (l.drop (i + 1)) := flat_drop (fun h => by simp [hcell, h.2]) l i hi
theorem hcell_length (h : Hs) : (hcell h).length = 32 := by simp [hcell, h.2]
theorem hcell_take {h : Hs} {l : List AV} : (hcell h ++ l).take 32 = hcell h := by rw [← hcell_length h, List.take_left]
theorem valsL_map {α : Type} (f : α → Value) : ∀ l : List α, valsL (l.map fun x => .v (f x)) = some (l.map f)
  | [] => rfl
  | x :: l => by simp [valsL, valsL_map f l]
theorem hcell_val (h : Hs) : AV.val? (.agg (hcell h)) = some (hval h) := by simp [AV.val?, hcell, hval, valsL_map]
theorem keq_hval (h k : Hs) : keq (hval h) (hval k) = decide (h = k) := by
  obtain ⟨l, hl⟩ := h
  obtain ⟨m, hm⟩ := k
  have key : ∀ (l m : List Int), l.length = m.length → (((l.map fun n => Value.int .u8 n).zip (m.map fun n => Value.int .u8 n)).all fun p => ieq p.1 p.2) = decide (l = m) := by
    intro l
    induction l with
    | nil => intro m h; cases m with
      | nil => rfl
      | cons _ _ => simp at h
    | cons x l ih =>
      intro m h
      cases m with
      | nil => simp at h
      | cons y m =>
        simp only [List.map_cons, List.zip_cons_cons, List.all_cons, ih m (by simpa using h), List.cons.injEq]
        have : ieq (.int .u8 x) (.int .u8 y) = decide (x = y) := by simp [ieq, ibeq]
        rw [this]
        by_cases e : x = y <;> simp [e]
  simp only [keq, hval, List.size_toArray, List.length_map, hl, hm, beq_self_eq_true, Bool.true_and, Subtype.mk.injEq]
  exact key l m (hl.trans hm.symm)
theorem isInt_hval (h : Hs) : kwf (.arrK 32 .u8) (hval h) = true := by
  simp [kwf, hval, h.2, isInt]
theorem pbin_heql {h k : Hs} (h1 : tkt P t = some (.arrK 32 .u8)) (h2 : tguard P t = false) : pbin P .eql t x y (hval h) (hval k) = some (.bool (decide (h = k))) := by
  simp [pbin, keqA, h1, h2, isInt_hval, keq_hval]
theorem pbin_hneq {h k : Hs} (h1 : tkt P t = some (.arrK 32 .u8)) (h2 : tguard P t = false) : pbin P .neq t x y (hval h) (hval k) = some (.bool (!decide (h = k))) := by
  simp [pbin, keqA, h1, h2, isInt_hval, keq_hval]
theorem binA_h {op : BinOp} {h k : Hs} : binA P op t x y (.agg (hcell h)) (.agg (hcell k)) = (pbin P op t x y (hval h) (hval k)).map fun v => (.v v, []) := by
  simp [binA, hcell_val]

theorem idfL_append : ∀ (l m : List AV), idfL (l ++ m) = (idfL l && idfL m)
  | [], m => by simp [idfL]
  | x :: l, m => by simp [idfL, idfL_append l m, Bool.and_assoc]
theorem idfL_flat {α : Type} {f : α → List AV} (h : ∀ x, idfL (f x) = true) : ∀ l : List α, idfL (flat f l) = true
  | [] => rfl
  | x :: l => by have := idfL_flat h l; simp only [flat, List.flatMap_cons] at *; simp [idfL_append, h, this]
theorem idfL_vals {α : Type} (f : α → Value) : ∀ l : List α, idfL (l.map fun x => .v (f x)) = true
  | [] => rfl
  | x :: l => by simp [idfL, idf, idfL_vals f l]
theorem idfL_hcell (h : Hs) : idfL (hcell h) = true := idfL_vals _ _

attribute [push_cast] sflat_drop partA_agg partA_one pbin_heql pbin_hneq List.getElem?_cons_zero
attribute [push_cast] pbin_beql pbin_bneq unA_not val_v evB_dec' evB_ndec' Br_true Br_false indexAddr_seq indexAddr_sl loadF_rop loadF_ptr loadO_cells loadO_imm map_ite evDS_if' Int.toNat_natCast hflat_drop hcell_take hcell_length List.length_append List.drop_zero List.drop_drop Nat.zero_add Nat.add_zero Int.natCast_nonneg
attribute [push_cast] pbin_add pbin_sub pbin_mul pbin_lss pbin_leq pbin_gtr pbin_geq pbin_eql pbin_neq pbin_seql pbin_sneq updOK_nil nilSl_v nilSl_agg evB_dec evB_ndec binA_h
end Go.AW
namespace Go.AW
variable {P : Program} {γ : GTab} {S : Nat → Nat → Prop} {μ : Nat → Option (Nat × Nat)} {w : World}

/-- The objects that are not kept. -/
def unkept (keep : List (Nat × Nat)) (objs : List (Nat × AObj)) : List (Nat × AObj) := objs.filter fun p => !(keep.any fun q => q.2 == p.1)
theorem lk_unkept {keep : List (Nat × Nat)} : ∀ {objs : List (Nat × AObj)} {o : Nat} {ob : AObj}, lk (unkept keep objs) o = some ob → lk objs o = some ob ∧ (keep.any fun q => q.2 == o) = false
  | [], o, ob, h => by simp [unkept, lk] at h
  | (p, x) :: objs, o, ob, h => by
    simp only [unkept, List.filter_cons] at h
    split at h
    · rename_i hk
      simp only [lk] at h
      split at h
      · rename_i e; subst e
        exact ⟨by simpa [lk] using h, by simpa using hk⟩
      · rename_i e
        have := lk_unkept (keep := keep) h
        exact ⟨by simp only [lk, if_neg e]; exact this.1, this.2⟩
    · rename_i hk
      have := lk_unkept (keep := keep) h
      refine ⟨?_, this.2⟩
      simp only [lk]
      split
      · rename_i e; subst e
        rw [this.2] at hk; simp at hk
      · exact this.1

def keptA (keep : List (Nat × Nat)) : AV → Option AV
  | .ptr o off => (keep.find? fun q => q.2 == o).map fun q => .ptr q.1 off
  | .sl o off n sz => (keep.find? fun q => q.2 == o).map fun q => .sl q.1 off n sz
  | .mp o => (keep.find? fun q => q.2 == o).map fun q => .mp q.1
  | _ => none
/-- A nil slice may be read as an empty slice of an object that is nowhere. -/
def nilA (y : AV) : AV → Bool
  | .v (.slice none 0 0) => match y with
    | .sl _ _ 0 _ => true
    | _ => false
  | _ => false
def FzV (keep : List (Nat × Nat)) (f : Nat → Option AObj) : Option AV → AV → Prop
  | some x, y => nilA y x = true ∨ match keptA keep x with
    | some z => z = y
    | none => ∃ ids, snap f 12 x = some (y, ids)
  | none, _ => False
def FzE (keep : List (Nat × Nat)) (f : Nat → Option AObj) (env : List (Nat × AV)) : List (Nat × AV) → Prop
  | [] => True
  | (t, x) :: e => FzV keep f (lk env t) x ∧ FzE keep f env e
def FzB (f : Nat → Option AObj) : Option AObj → AObj → Prop
  | some (.cells E xs ap), .cells E' ys ap' => E = E' ∧ ap = ap' ∧ ∃ ids, snapL (snap f 12) xs = some (ys, ids)
  | some (.map kt ks xs), .map kt' ks' ys => kt = kt' ∧ ks = ks' ∧ ∃ ids, snapL (snap f 12) xs = some (ys, ids)
  | _, _ => False
def nilO : AObj → Bool
  | .cells _ [] _ => true
  | _ => false
def FzO1 (keep : List (Nat × Nat)) (f : Nat → Option AObj) (objs : List (Nat × AObj)) (o : Nat) (x : AObj) : Prop := match lk keep o with
  | some q => FzB f (lk objs q) x
  | none => nilO x = true
def FzO (keep : List (Nat × Nat)) (f : Nat → Option AObj) (objs : List (Nat × AObj)) : List (Nat × AObj) → Prop
  | [] => True
  | (o, x) :: e => FzO1 keep f objs o x ∧ FzO keep f objs e

theorem FzE.get {keep : List (Nat × Nat)} {f : Nat → Option AObj} {env : List (Nat × AV)} : ∀ {e : List (Nat × AV)}, FzE keep f env e → ∀ {t x}, lk e t = some x → FzV keep f (lk env t) x
  | [], _, t, x, h => by simp [lk] at h
  | (t', x') :: e, hE, t, x, h => by
    simp only [lk] at h
    split at h
    · rename_i e; subst e; simp only [Option.some.injEq] at h; subst h; exact hE.1
    · exact hE.2.get h
theorem FzO.get {keep : List (Nat × Nat)} {f : Nat → Option AObj} {objs : List (Nat × AObj)} : ∀ {e : List (Nat × AObj)}, FzO keep f objs e → ∀ {t x}, lk e t = some x → FzO1 keep f objs t x
  | [], _, t, x, h => by simp [lk] at h
  | (t', x') :: e, hE, t, x, h => by
    simp only [lk] at h
    split at h
    · rename_i e; subst e; simp only [Option.some.injEq] at h; subst h; exact hE.1
    · exact hE.2.get h

def kInj : List (Nat × Nat) → Bool
  | [] => true
  | (a, q) :: e => e.all (fun p => p.2 != q && p.1 != a) && kInj e

theorem lk_inj : ∀ {keep : List (Nat × Nat)}, kInj keep = true → ∀ {a b q : Nat}, lk keep a = some q → lk keep b = some q → a = b
  | [], _, a, b, q, h, _ => by simp [lk] at h
  | (c, r) :: keep, hn, a, b, q, ha, hb => by
    simp only [kInj, Bool.and_eq_true, List.all_eq_true] at hn
    simp only [lk] at ha hb
    split at ha
    · rename_i e1
      split at hb
      · rename_i e2; exact e1.symm.trans e2
      · simp only [Option.some.injEq] at ha
        have := (hn.1 _ (lk_mem hb)).1
        rw [ha] at this; simp at this
    · split at hb
      · simp only [Option.some.injEq] at hb
        have := (hn.1 _ (lk_mem ha)).1
        rw [hb] at this; simp at this
      · exact lk_inj hn.2 ha hb

theorem find_lk : ∀ {keep : List (Nat × Nat)}, kInj keep = true → ∀ {o : Nat} {q : Nat × Nat}, (keep.find? fun q => q.2 == o) = some q → lk keep q.1 = some o
  | [], _, o, q, h => by simp at h
  | (c, r) :: keep, hn, o, q, h => by
    simp only [kInj, Bool.and_eq_true, List.all_eq_true] at hn
    simp only [List.find?_cons] at h
    split at h
    · rename_i e
      simp only [Option.some.injEq] at h
      subst h
      simp only [lk, if_true]
      rw [eq_of_beq e]
    · have := find_lk hn.2 h
      simp only [lk]
      rw [if_neg (fun e => by have h2 := (hn.1 _ (lk_mem this)).2; rw [e] at h2; simp at h2)]
      exact this

theorem keep_any : ∀ {keep : List (Nat × Nat)} {a q : Nat}, lk keep a = some q → (keep.any fun p => p.2 == q) = true
  | keep, a, q, h => by
    rw [List.any_eq_true]
    exact ⟨_, lk_mem h, by simp⟩

/-- WHAT IS NOT KEPT BECOMES A VALUE. -/
theorem Ent.freeze (keep : List (Nat × Nat)) {env env' : List (Nat × AV)} {objs objs' : List (Nat × AObj)} {next base wid next' : Nat}
    (hE : FzE keep (lk (unkept keep objs)) env env') (hO : FzO keep (lk (unkept keep objs)) objs objs') (hk : kInj keep = true) (hn : (keep.all fun p => decide (p.1 < next')) = true) (hn' : (objs'.all fun p => decide (p.1 < next')) = true) : Ent 0 ⟨env, ⟨objs, next, base, wid⟩⟩ ⟨env', ⟨objs', next', next', 0⟩⟩ := by
  intro S μ w a hr henv
  have hr2 : RM S μ w ⟨unkept keep objs, next, next, 0⟩ := ⟨fun o ob h => hr.obj o ob (lk_unkept h).1, fun o o' ob ob' h h' => hr.inj o o' ob ob' (lk_unkept h).1 (lk_unkept h').1, hr.old, hr.fr, fun o h1 h2 => by simp only at h1 h2; omega, Nat.le_refl _, hr.bk⟩
  let T : Nat → Nat → Prop := fun b off => S b off ∨ OwnedC ⟨unkept keep objs, next, next, 0⟩ μ b
  let ν : Nat → Option (Nat × Nat) := fun o => (lk keep o).bind μ
  have hsn := snap_repX (T := T) hr2 (fun b off h => .inl h) (fun b h off => .inr h) 12
  have hsl := snapL_rep (T := T) (fun b off h => .inl h) hsn
  have hown : ∀ b, OwnedC ⟨unkept keep objs, next, next, 0⟩ μ b → OwnedC ⟨objs, next, base, wid⟩ μ b := fun b ⟨o, ob, bo, h1, h2, h3⟩ => ⟨o, ob, bo, (lk_unkept h1).1, h2, h3⟩
  have hnot : ∀ {q b bo : Nat} {ob : AObj}, (keep.any fun p => p.2 == q) = true → lk objs q = some ob → ob.own = true → μ q = some (b, bo) → (∀ off, ¬ S b off) → ∀ off, ¬ T b off := by
    intro q b bo ob hq hf hob hμ hS off h
    rcases h with h | ⟨o, ob', bo', h1, h2, h3⟩
    · exact hS off h
    · have hl := lk_unkept h1
      have hne : o ≠ q := fun e => by rw [e, hq] at hl; cases hl.2
      exact hr.inj o q ob' ob hl.1 hf h2 hob hne b bo' bo h3 hμ
  have hob : ∀ o ob, lk objs' o = some ob → (∃ q x, lk keep o = some q ∧ lk objs q = some x ∧ x.own = ob.own ∧ RepO T ν w o ob) ∨ (ν o = none ∧ RepO T ν w o ob) := by
    intro o ob ho
    have hB := hO.get ho
    unfold FzO1 at hB
    split at hB
    · rename_i q hq
      left
      have hν : ν o = μ q := by show (lk keep o).bind μ = μ q; rw [hq]; rfl
      cases hx : lk objs q with
      | none => rw [hx] at hB; simp [FzB] at hB
      | some x =>
        rw [hx] at hB
        have hobj := (hr.obj q x hx).2
        refine ⟨q, x, hq, hx, ?_, ?_⟩
        · cases x <;> cases ob <;> simp [FzB] at hB <;> rfl
        · cases x <;> cases ob <;> simp only [FzB] at hB
          · obtain ⟨rfl, rfl, ids, hs⟩ := hB
            simp only [RepO] at hobj ⊢
            rcases hobj with ⟨h1, h2⟩ | ⟨b, bo, ys, c, fz, e1, e2, e3, e4, e5, e6, e7, e8⟩
            · subst h2
              obtain ⟨k1, k2⟩ := hsl _ _ _ [] hs (by simp [RepL])
              exact .inl ⟨hν.trans h1, by have := k2.length; simpa using this.symm⟩
            · obtain ⟨k1, k2⟩ := hsl _ _ _ _ hs e4
              exact .inr ⟨b, bo, ys, c, fz, hν.trans e1, e2, e3, RepL.idf1 _ _ k1 k2, e5, e6, e7, hnot (keep_any hq) hx rfl e1 e8⟩
          · obtain ⟨rfl, rfl, ids, hs⟩ := hB
            simp only [RepO] at hobj ⊢
            obtain ⟨b, bo, es, clock, e1, e2, e3, e4, e5, e6⟩ := hobj
            obtain ⟨k1, k2⟩ := hsl _ _ _ _ hs e5
            exact ⟨b, bo, es, clock, hν.trans e1, e2, e3, e4, RepL.idf1 _ _ k1 k2, hnot (keep_any hq) hx rfl e1 e6⟩
    · rename_i hq
      right
      have hν : ν o = none := by show (lk keep o).bind μ = none; rw [hq]; rfl
      refine ⟨hν, ?_⟩
      unfold nilO at hB
      split at hB
      · simp only [RepO]; exact .inl ⟨hν, trivial⟩
      · cases hB
  have hlt : ∀ {o q}, lk keep o = some q → o < next' := fun h => by
    rw [List.all_eq_true] at hn
    simpa using hn _ (lk_mem h)
  refine ⟨T, ν, ⟨fun o ob h => ?_, fun o o' ob ob' h h' ho ho' hne b i j hi hj => ?_, fun b off h => ?_, fun o ho => ?_, fun o h1 h2 => by simp only at h1 h2; omega, Nat.le_refl _, fun o b bo h => ?_⟩, fun t x ht => ?_, fun b off h => .inl h, fun b off h => ?_, fun o ho => by omega, fun o ho => by omega, Nat.zero_le _, rfl, fun b hb => ?_⟩
  · refine ⟨by rw [List.all_eq_true] at hn'; simpa using hn' _ (lk_mem h), ?_⟩
    rcases hob o ob h with ⟨q, x, h1, h2, h3, h4⟩ | ⟨_, h4⟩
    · exact h4
    · exact h4
  · rcases hob o ob h with ⟨q, x, h1, h2, h3, h4⟩ | ⟨h4, _⟩
    case inr => rw [h4] at hi; cases hi
    rcases hob o' ob' h' with ⟨q', x', g1, g2, g3, g4⟩ | ⟨g4, _⟩
    case inr => rw [g4] at hj; cases hj
    have e1 : ν o = μ q := by show (lk keep o).bind μ = μ q; rw [h1]; rfl
    have e2 : ν o' = μ q' := by show (lk keep o').bind μ = μ q'; rw [g1]; rfl
    refine hr.inj q q' x x' h2 g2 (h3.trans ho) (g3.trans ho') (fun e => hne (lk_inj hk h1 (e ▸ g1))) b i j (e1 ▸ hi) (e2 ▸ hj)
  · rcases h with h | ⟨o, ob, bo, _, _, h⟩
    · exact hr.old _ _ h
    · exact hr.bk _ _ _ h
  · show (lk keep o).bind μ = none
    cases hq : lk keep o with
    | none => rfl
    | some q => have := hlt hq; have ho' : next' ≤ o := ho; omega
  · change (lk keep o).bind μ = some (b, bo) at h
    cases hq : lk keep o with
    | none => rw [hq] at h; cases h
    | some q => rw [hq] at h; exact hr.bk _ _ _ h
  · have hV := hE.get ht
    cases hx : lk env t with
    | none => rw [hx] at hV; exact hV.elim
    | some y =>
      rw [hx] at hV
      have hy := henv t y hx
      simp only [FzV] at hV
      rcases hV with hV | hV
      · unfold nilA at hV
        split at hV
        · split at hV
          · simp only [Rep] at hy ⊢
            exact ⟨none, 0, hy, Nat.le_refl _, .inl rfl⟩
          · cases hV
        · cases hV
      split at hV
      · rename_i z hz
        subst hV
        have hmu : ∀ {o : Nat} {q : Nat × Nat}, (keep.find? fun q => q.2 == o) = some q → ν q.1 = μ o := fun h => by
          show (lk keep _).bind μ = _
          rw [find_lk hk h]; rfl
        cases y <;> simp only [keptA, Option.map_eq_some_iff, reduceCtorEq] at hz
        · obtain ⟨q, h1, rfl⟩ := hz
          simp only [Rep] at hy ⊢
          rw [hmu h1]; exact hy
        · obtain ⟨q, h1, rfl⟩ := hz
          simp only [Rep] at hy ⊢
          rw [hmu h1]; exact hy
        · obtain ⟨q, h1, rfl⟩ := hz
          simp only [Rep] at hy ⊢
          rw [hmu h1]; exact hy
      · obtain ⟨ids, hs⟩ := hV
        obtain ⟨k1, k2⟩ := hsn _ _ _ _ hs hy
        exact Rep.idf1 _ _ k1 k2
  · rcases h with h | h
    · exact .inl h
    · exact .inr (.inl (hown _ h))
  · rcases hb with ⟨o, ob, bo, h1, h2, h3⟩ | ⟨o, b0, code, h1, h2, h3⟩
    case inr =>
      have := hO.get h1
      unfold FzO1 at this
      split at this
      · rename_i q hq
        cases hx : lk objs q with
        | none => simp [hx, FzB] at this
        | some x => rw [hx] at this; cases x <;> simp [FzB] at this
      · simp [nilO] at this
    rcases hob o ob h1 with ⟨q, x, g1, g2, g3, g4⟩ | ⟨g4, _⟩
    case inr => rw [g4] at h3; cases h3
    exact .inl ⟨q, x, bo, g2, g3.trans h2, by change (lk keep o).bind μ = _ at h3; rw [g1] at h3; exact h3⟩

end Go.AW
namespace Go.AW

structure PatchV where
  kind : Int
  name : ByteArray
  values : List ByteArray
  by_ : Int
  gone : Bool
  at_ : Int
  cut : Int
  put : ByteArray
  src : List Hs
  deriving DecidableEq

def pcell (p : PatchV) : List AV := [.v (.int .i64 p.kind), .v (.string p.name), .seq p.values.length 1 (flat scell p.values), .v (.int .i64 p.by_), .v (.bool p.gone), .v (.int .i64 p.at_), .v (.int .i64 p.cut), .v (.string p.put), .seq p.src.length 32 (flat hcell p.src)]
theorem pcell_length (p : PatchV) : (pcell p).length = 9 := (rfl)
theorem idfL_pcell (p : PatchV) : idfL (pcell p) = true := by simp [pcell, idfL, idf, idfL_flat idfL_hcell, idfL_flat idfL_scell]
theorem pflat_drop (l : List PatchV) (i : Nat) (hi : i < l.length) : (flat pcell l).drop (i * 9) = pcell l[i] ++ flat pcell (l.drop (i + 1)) := flat_drop (f := pcell) (sz := 9) pcell_length l i hi
theorem pcell_take {p : PatchV} {l : List AV} : (pcell p ++ l).take 9 = pcell p := (rfl)
theorem pcell_0 {p : PatchV} : (pcell p)[0]? = some (.v (.int .i64 p.kind)) := (rfl)
theorem pcell_1 {p : PatchV} : (pcell p)[1]? = some (.v (.string p.name)) := (rfl)
theorem pcell_2 {p : PatchV} : (pcell p)[2]? = some (.seq p.values.length 1 (flat scell p.values)) := (rfl)
theorem pcell_3 {p : PatchV} : (pcell p)[3]? = some (.v (.int .i64 p.by_)) := (rfl)
theorem pcell_4 {p : PatchV} : (pcell p)[4]? = some (.v (.bool p.gone)) := (rfl)
theorem pcell_5 {p : PatchV} : (pcell p)[5]? = some (.v (.int .i64 p.at_)) := (rfl)
theorem pcell_6 {p : PatchV} : (pcell p)[6]? = some (.v (.int .i64 p.cut)) := (rfl)
theorem pcell_7 {p : PatchV} : (pcell p)[7]? = some (.v (.string p.put)) := (rfl)
theorem pcell_8 {p : PatchV} : (pcell p)[8]? = some (.seq p.src.length 32 (flat hcell p.src)) := (rfl)
attribute [push_cast] pcell_0 pcell_1 pcell_2 pcell_3 pcell_4 pcell_5 pcell_6 pcell_7 pcell_8 ne_eq not_false_eq_true not_true_eq_false
attribute [push_cast] pflat_drop pcell_take pcell_length
end Go.AW
namespace Go.AW
variable {P : Program} {γ : GTab} {t : TypeId}

theorem allocA_some {zs : List Value} {e f : Nat} : allocA (some zs) e f = some (.ptr f 0, [(f, .cells e (zs.map .v) false)]) := (rfl)
theorem boxA_some {cs : List AV} {e f : Nat} : boxA (some cs) e f = some (.ptr f 0, [(f, .cells e cs false)]) := (rfl)
theorem freshOf_some {objs : List (Nat × AObj)} {n b w d : Nat} : freshOf ⟨objs, n, b, w⟩ (some d) = b + d := (rfl)
theorem freshOf_none {objs : List (Nat × AObj)} {n b w : Nat} : freshOf ⟨objs, n, b, w⟩ none = b := (rfl)
theorem updOK_some {objs : List (Nat × AObj)} {n b w d : Nat} {u : Upd} : updOK ⟨objs, n, b, w⟩ (some d) u = ((lk u (b + d)).isNone || (lk objs (b + d)).isNone) := (rfl)
theorem updOK_none {objs : List (Nat × AObj)} {n b w : Nat} {u : Upd} : updOK ⟨objs, n, b, w⟩ none u = (lk u b).isNone := (rfl)
theorem upd_mk {objs : List (Nat × AObj)} {n b w : Nat} {u : Upd} : Mem.upd ⟨objs, n, b, w⟩ u = ⟨u ++ objs, n, b, w⟩ := (rfl)
theorem wrOf_cons {o : Nat} {x : AObj} {u : Upd} : wrOf ((o, x) :: u) = o :: wrOf u := (rfl)
theorem fieldAddr_ptr {fs : List (Nat × TypeId)} {f o off : Nat} : fieldAddrA P (some fs) f (.ptr o off) = (fs[f]?).bind fun fl => if tok P fl.2 ∧ tsz P fl.2 ≠ 0 then some (.ptr o (off + fl.1), []) else none := by
  simp only [fieldAddrA]; cases fs[f]? <;> rfl
theorem fieldAddr_rop {fs : List (Nat × TypeId)} {f : Nat} {xs : List AV} : fieldAddrA P (some fs) f (.rop xs) = (fs[f]?).bind fun fl => if tok P fl.2 ∧ tsz P fl.2 ≠ 0 then some (.rop (xs.drop fl.1), []) else none := by
  simp only [fieldAddrA]; cases fs[f]? <;> rfl
def storeO (P : Program) (t : TypeId) (o off : Nat) (cs : Option (List AV)) (ob : Option AObj) : Option Upd := match cs, ob with
  | some cs, some (.cells E ys ap) => if tok P t ∧ cs.length = tsz P t ∧ off + tsz P t ≤ ys.length then some [(o, .cells E (setL ys off cs) ap)] else none
  | _, _ => none
theorem storeF_ptr {find : Nat → Option AObj} {o off : Nat} {y : AV} : storeF P find t (.ptr o off) y = storeO P t o off (cellsOf y) (find o) := by
  unfold storeF storeO
  cases cellsOf y
  · rfl
  · rename_i cs
    simp only
    cases find o with
    | none => rfl
    | some ob => cases ob <;> rfl
theorem storeO_cells {o off : Nat} {cs : List AV} {E : TypeId} {ys : List AV} {ap : Bool} : storeO P t o off (some cs) (some (.cells E ys ap)) = if tok P t ∧ cs.length = tsz P t ∧ off + tsz P t ≤ ys.length then some [(o, .cells E (setL ys off cs) ap)] else none := (rfl)
theorem cellsOf_agg {xs : List AV} : cellsOf (.agg xs) = some xs := (rfl)
theorem cellsOf_seq {n z : Nat} {xs : List AV} : cellsOf (.seq n z xs) = some [.seq n z xs] := (rfl)
theorem cellsOf_sl {o off n z : Nat} : cellsOf (.sl o off n z) = some [.sl o off n z] := (rfl)
theorem cellsOf_int {k : IntKind} {n : Int} : cellsOf (.v (.int k n)) = some [.v (.int k n)] := (rfl)
theorem cellsOf_bool {b : Bool} : cellsOf (.v (.bool b)) = some [.v (.bool b)] := (rfl)
theorem cellsOf_string {b : ByteArray} : cellsOf (.v (.string b)) = some [.v (.string b)] := (rfl)
theorem cellsOf_nilsl : cellsOf (.v (.slice none 0 0)) = some [.v (.slice none 0 0)] := (rfl)
theorem setL_nil {ys : List AV} {off : Nat} : setL ys off [] = ys := (rfl)
theorem setL_all : ∀ {ys cs : List AV}, cs.length = ys.length → setL ys 0 cs = cs := by
  intro ys cs h
  have key : ∀ (cs pre ys : List AV), cs.length = ys.length → setL (pre ++ ys) pre.length cs = pre ++ cs := by
    intro cs
    induction cs with
    | nil => intro pre ys h; cases ys with
      | nil => simp [setL]
      | cons _ _ => simp at h
    | cons c cs ih =>
      intro pre ys h
      cases ys with
      | nil => simp at h
      | cons y ys =>
        simp only [setL]
        have := ih (pre ++ [c]) ys (by simpa using h)
        simp only [List.length_append, List.length_cons, List.length_nil, Nat.zero_add, List.append_assoc, List.cons_append, List.nil_append] at this
        rw [← this]
        congr 1
        rw [List.set_append_right _ _ (Nat.le_refl _)]
        simp
  simpa using key cs [] ys h
theorem setL_one {ys : List AV} {off : Nat} {c : AV} : setL ys off [c] = ys.set off c := (rfl)
theorem okLog_cons {all : Array Oper} {i : Nat} {rd wr : List Nat} {e : Nat × List Nat × List Nat} {log : Log} : okLog all i rd wr (e :: log) = ((!(meet wr e.2.1 || meet wr e.2.2 || meet rd e.2.2) || ordB all all.size e.1 i) && okLog all i rd wr log) := (rfl)
theorem okLog_nil' {all : Array Oper} {i : Nat} {rd wr : List Nat} : okLog all i rd wr [] = true := (rfl)
theorem meet_nil {b : List Nat} : meet [] b = false := (rfl)
theorem meet_nil' {b : List Nat} : meet b [] = false := by unfold meet; simp
theorem meet_cons {x : Nat} {a b : List Nat} : meet (x :: a) b = (b.contains x || meet a b) := (rfl)
theorem partA_pcell {p : PatchV} (i : Nat) (h : tagg P t = some false) : partA P t (pcell p) i = (pcell p)[i]? := partA_one h
theorem setL_pcell {a b c d e f g h i : AV} {q : PatchV} : setL [a, b, c, d, e, f, g, h, i] 0 (pcell q) = pcell q := (rfl)
theorem setL_pp {p q : PatchV} : setL (pcell p) 0 (pcell q) = pcell q := (rfl)
attribute [push_cast] setL_pcell setL_pp
theorem setL_map {zs : List Value} {cs : List AV} (h : cs.length = zs.length) : setL (zs.map .v) 0 cs = cs := setL_all (by simpa using h)

attribute [push_cast] cond_false cond_true
attribute [push_cast] allocA_some boxA_some freshOf_some freshOf_none updOK_some updOK_none upd_mk wrOf_cons fieldAddr_ptr fieldAddr_rop storeF_ptr storeO_cells cellsOf_agg cellsOf_seq cellsOf_sl cellsOf_int cellsOf_bool cellsOf_string cellsOf_nilsl setL_nil setL_one
attribute [push_cast] okLog_nil'
def okLogT (all : Array Oper) (i : Nat) (rd wr : List Nat) (log : Log) : Prop := okLog all i rd wr log = true
theorem okT {all : Array Oper} {i : Nat} {rd wr : List Nat} {log : Log} (h : okLog all i rd wr log = true) : okLogT all i rd wr log := h
theorem okLog_ok {all : Array Oper} {i : Nat} {rd wr : List Nat} {log : Log} (h : okLogT all i rd wr log) : okLog all i rd wr log = true := h
attribute [push_cast low] okLog_ok
attribute [push_cast] List.length_cons List.length_nil Option.isNone_some Option.isNone_none Bool.or_true Bool.true_or Bool.or_false Bool.false_or Bool.not_false Bool.not_true Bool.and_true Bool.true_and List.contains_cons List.contains_nil
end Go.AW
namespace Go.AW
variable {P : Program} {γ : GTab} {m : Mem}

theorem calleeOf_v {g : FuncId} : calleeOf (.v (.func (.func g) #[] #[])) = some (g, [], []) := (rfl)
theorem calleeOf_clo {g : FuncId} {a c : List AV} : calleeOf (.clo (.func g) a c) = some (g, a, c) := (rfl)
theorem snapArgs_idf {find : Nat → Option AObj} : ∀ {xs : List AV}, idfL xs = true → snapArgs find xs = some (xs, [])
  | [], _ => rfl
  | x :: xs, h => by
    simp only [idfL, Bool.and_eq_true] at h
    simp only [snapArgs, snap_idf h.1, snapArgs_idf h.2, List.append_nil]
/-- A call by contract, its arguments without objects. -/
theorem PCall.useV {g : FuncId} {xs : List AV} {x : AV} {K : AV → Mem → Prop} (hp : PCall P γ g xs x) (hK : K x m) : ACalls P γ g xs m K :=
  PCall.use hp (snapArgs_idf hp.1) (.inr rfl) hK
theorem retTo_eq {dst : Option Nat} {env : List (Nat × AV)} {K : St → Prop} {x : AV} : retTo dst env K x m = K ⟨putE dst x env, m⟩ := (rfl)
attribute [push_cast] calleeOf_v calleeOf_clo retTo_eq
end Go.AW
namespace Go.AW
theorem unf_v {x : Value} : unf (.v x) = .v x := (rfl)
theorem unf_agg {x : List AV} : unf (.agg x) = .agg x := (rfl)
theorem unf_tup {x : List AV} : unf (.tup x) = .tup x := (rfl)
theorem unf_seq {n z : Nat} {x : List AV} : unf (.seq n z x) = .seq n z x := (rfl)
theorem unf_full {n z : Nat} {x : List AV} : unf (.full n z x) = .seq n z x := (rfl)
theorem unf_sl {o off n z : Nat} : unf (.sl o off n z) = .sl o off n z := (rfl)
theorem unf_slc {o off n z : Nat} : unf (.slc o off n z) = .sl o off n z := (rfl)
theorem unf_rop {x : List AV} : unf (.rop x) = .rop x := (rfl)
theorem unf_ptr {o off : Nat} : unf (.ptr o off) = .ptr o off := (rfl)
theorem unf_mp {o : Nat} : unf (.mp o) = .mp o := (rfl)
theorem unf_mv {k : KT} {ks : List Value} {x : List AV} : unf (.mv k ks x) = .mv k ks x := (rfl)
theorem unf_it {o : Nat} : unf (.it o) = .it o := (rfl)
theorem unf_clo {f : Fn} {a b : List AV} : unf (.clo f a b) = .clo f a b := (rfl)
theorem unf_ifc {t : TypeId} {x : AV} : unf (.ifc t x) = .ifc t x := (rfl)
theorem unf_top : unf .top = .top := (rfl)
attribute [push_cast] unf_v unf_agg unf_tup unf_seq unf_full unf_sl unf_slc unf_rop unf_ptr unf_mp unf_mv unf_it unf_clo unf_ifc unf_top
theorem builtinG_append {P : Program} {find : Nat → Option AObj} {fr : Nat} {sT xT : TypeId} {s x : AV} : builtinG P find fr .append [sT, xT].toArray [s, x] = appendG P find fr sT xT s (unf x) := (rfl)
theorem builtinG_len {P : Program} {find : Nat → Option AObj} {fr : Nat} {ts : Array TypeId} {xs : List AV} : builtinG P find fr .len ts xs = builtinF P find fr .len ts (xs.map unf) := (rfl)
theorem builtinG_copy {P : Program} {find : Nat → Option AObj} {fr : Nat} {ts : Array TypeId} {xs : List AV} : builtinG P find fr .copy ts xs = builtinF P find fr .copy ts (xs.map unf) := (rfl)
theorem builtinG_min {P : Program} {find : Nat → Option AObj} {fr : Nat} {ts : Array TypeId} {xs : List AV} : builtinG P find fr .min ts xs = builtinF P find fr .min ts (xs.map unf) := (rfl)
theorem builtinG_max {P : Program} {find : Nat → Option AObj} {fr : Nat} {ts : Array TypeId} {xs : List AV} : builtinG P find fr .max ts xs = builtinF P find fr .max ts (xs.map unf) := (rfl)
theorem builtinG_delete {P : Program} {find : Nat → Option AObj} {fr : Nat} {ts : Array TypeId} {xs : List AV} : builtinG P find fr .delete ts xs = builtinF P find fr .delete ts (xs.map unf) := (rfl)
theorem appendG_v {P : Program} {find : Nat → Option AObj} {fr : Nat} {sT xT : TypeId} {s : Value} {x : AV} : appendG P find fr sT xT (.v s) x = appendF P find fr sT xT (.v s) x := (rfl)
theorem appendG_sl {P : Program} {find : Nat → Option AObj} {fr : Nat} {sT xT : TypeId} {o off n z : Nat} {x : AV} : appendG P find fr sT xT (.sl o off n z) x = appendF P find fr sT xT (.sl o off n z) x := (rfl)
theorem appendGB_some {P : Program} {e fr z n0 n : Nat} {ys xs : List AV} : appendGB P e fr z (some (n0, ys)) (some (n, xs)) = if z = tsz P e ∧ tok P e ∧ tzok P e ∧ 0 < tby P e ∧ (n0 = 0 ∨ 0 < n) ∧ (n0 + n) * tby P e ≤ 70368744177664 ∧ tby P e ≤ 1048576 then
      some (.sl fr 0 (n0 + n) (tsz P e), [(fr, .cells e (ys ++ xs) true)]) else none := rfl
attribute [push_cast] builtinG_append builtinG_len builtinG_copy builtinG_min builtinG_max builtinG_delete appendG_v appendG_sl appendGB_some
variable {P : Program} {γ : GTab} {t : TypeId} {env : List (Nat × AV)} {m : Mem} {dst : Option Nat}

def buildSliceA (P : Program) (e : Option TypeId) (n fresh : Nat) (parts : List (Nat × AV)) : Option (AV × Upd) := match e with
    | some e => match tz P e with
      | some zs => if tok P e ∧ zs.length = tsz P e ∧ n * tsz P e ≤ 16777216 then
          (fillA (fun i => some (i * tsz P e, tsz P e)) ((List.replicate n (zs.map AV.v)).flatten) parts).map fun cs => (.sl fresh 0 n (tsz P e), [(fresh, .cells e cs true)])
        else none
      | none => none
    | none => none
theorem stepE_buildSlice {n : Nat} {parts : List (Nat × Operand)} : stepE P γ env m dst (.buildSlice t n parts.toArray) = buildSliceA P (telem P t) n (freshOf m dst) (parts.map fun p => (p.1, unf (rho γ env p.2))) := by
  simp only [stepE, stepF, stepF0, buildSliceA]
  cases telem P t with
  | none => rfl
  | some e => cases tz P e <;> rfl
def fillB (place : Nat → Option (Nat × Nat)) (cells : List AV) (pl : Option (Nat × Nat)) (cs : Option (List AV)) (rest : List (Nat × AV)) : Option (List AV) := match pl, cs with
    | some (off, size), some cs => if cs.length = size then if off + size ≤ cells.length then fillA place (setL cells off cs) rest else none else none
    | _, _ => none
theorem fillA_nil {place : Nat → Option (Nat × Nat)} {cells : List AV} : fillA place cells [] = some cells := (rfl)
theorem fillA_cons {place : Nat → Option (Nat × Nat)} {cells : List AV} {i : Nat} {x : AV} {rest : List (Nat × AV)} : fillA place cells ((i, x) :: rest) = fillB place cells (place i) (cellsOf x) rest := by
  simp only [fillA, fillB]
  rfl
theorem fillB_some {place : Nat → Option (Nat × Nat)} {cells cs : List AV} {off size : Nat} {rest : List (Nat × AV)} : fillB place cells (some (off, size)) (some cs) rest = if cs.length = size then if off + size ≤ cells.length then fillA place (setL cells off cs) rest else none else none := (rfl)
def appendC (P : Program) (e : TypeId) (fresh : Nat) (n : Nat) (xs : List AV) (o off n0 z : Nat) (ob : Option AObj) : Option (AV × Upd) := match ob with
        | some (.cells E ys true) =>
          orO (if z = tsz P e ∧ E = e ∧ tok P e ∧ tzok P e ∧ 0 < tby P e ∧ off + n0 * tsz P e = ys.length ∧ (n0 + n) * tby P e ≤ 70368744177664 ∧ tby P e ≤ 1048576 then
            some (.sl fresh 0 (n0 + n) (tsz P e), [(o, .dead), (fresh, .cells e (ys.drop off ++ xs) true)]) else none)
          (if z = tsz P e ∧ E = e ∧ tok P e ∧ tzok P e ∧ 0 < tby P e ∧ off + n0 * tsz P e ≤ ys.length ∧ (n0 + n) * tby P e ≤ 70368744177664 ∧ tby P e ≤ 1048576 then
            some (.sl fresh 0 (n0 + n) (tsz P e), [(o, .dead), (fresh, .cells e ((ys.drop off).take (n0 * tsz P e) ++ xs) true)]) else none)
        | _ => none
def appendB (P : Program) (e : TypeId) (find : Nat → Option AObj) (fresh : Nat) (src : Option (Nat × List AV)) (s : AV) : Option (AV × Upd) := match src with
    | some (n, xs) => match s with
      | .v (.slice none 0 0) =>
        if tok P e ∧ tzok P e ∧ 0 < tby P e ∧ n * tby P e ≤ 70368744177664 ∧ tby P e ≤ 1048576 then some (.sl fresh 0 n (tsz P e), [(fresh, .cells e xs true)]) else none
      | .sl o off n0 z => appendC P e fresh n xs o off n0 z (find o)
      | _ => none
    | none => none
theorem appendF_eq {find : Nat → Option AObj} {fresh : Nat} {sT xT e : TypeId} {s x : AV} (he : telem P sT = some e) (hi : tisint P xT = some false) : appendF P find fresh sT xT s x = appendB P e find fresh (srcS find (tsz P e) x) s := by
  simp only [appendF, he, hi, appendB, appendC]
  rfl
def appendFA (P : Program) (find : Nat → Option AObj) (fresh : Nat) (te : Option TypeId) (ti : Option Bool) (s x : AV) : Option (AV × Upd) := match te, ti with
  | some e, some false => appendB P e find fresh (srcS find (tsz P e) x) s
  | _, _ => none
theorem appendF_A {find : Nat → Option AObj} {fresh : Nat} {sT xT : TypeId} {s x : AV} : appendF P find fresh sT xT s x = appendFA P find fresh (telem P sT) (tisint P xT) s x := by
  unfold appendFA
  cases he : telem P sT with
  | none => simp only [appendF, he]
  | some e => cases hi : tisint P xT with
    | none => simp only [appendF, he, hi]
    | some b => cases b
                · exact appendF_eq he hi
                · simp only [appendF, he, hi]
theorem appendFA_some {find : Nat → Option AObj} {fresh : Nat} {e : TypeId} {s x : AV} : appendFA P find fresh (some e) (some false) s x = appendB P e find fresh (srcS find (tsz P e) x) s := (rfl)
def appendGE (P : Program) (fr z : Nat) (te : Option TypeId) (ti : Option Bool) (old : Option (Nat × List AV)) (src : Nat → Option (Nat × List AV)) : Option (AV × Upd) := match te, ti with
  | some e, some false => appendGB P e fr z old (src (tsz P e))
  | _, _ => none
theorem appendG_full {find : Nat → Option AObj} {fr : Nat} {sT xT : TypeId} {n z : Nat} {l : List AV} {x : AV} : appendG P find fr sT xT (.full n z l) x = appendGE P fr z (telem P sT) (tisint P xT) (some (n, l)) fun z => srcS find z x := by
  simp only [appendG, appendGA, rdS, appendGE]
  cases telem P sT <;> cases tisint P xT <;> rfl
theorem appendG_slc {find : Nat → Option AObj} {fr : Nat} {sT xT : TypeId} {o off n z : Nat} {x : AV} : appendG P find fr sT xT (.slc o off n z) x = appendGE P fr z (telem P sT) (tisint P xT) (rdS find (.sl o off n z)) fun z => srcS find z x := by
  simp only [appendG, appendGA, appendGE]
  cases telem P sT <;> cases tisint P xT <;> rfl
theorem appendGE_some {fr z : Nat} {e : TypeId} {old : Option (Nat × List AV)} {src : Nat → Option (Nat × List AV)} : appendGE P fr z (some e) (some false) old src = appendGB P e fr z old (src (tsz P e)) := (rfl)
attribute [push_cast] appendF_A appendFA_some appendG_full appendG_slc appendGE_some
theorem append_b {find : Nat → Option AObj} {fresh : Nat} {sT xT : TypeId} {s x : AV} : builtinF P find fresh .append [sT, xT].toArray [s, x] = appendF P find fresh sT xT s x := (rfl)
theorem appendB_nil {e : TypeId} {find : Nat → Option AObj} {fresh n : Nat} {xs : List AV} : appendB P e find fresh (some (n, xs)) (.v (.slice none 0 0)) = if tok P e ∧ tzok P e ∧ 0 < tby P e ∧ n * tby P e ≤ 70368744177664 ∧ tby P e ≤ 1048576 then some (.sl fresh 0 n (tsz P e), [(fresh, .cells e xs true)]) else none := (rfl)
theorem appendB_sl {e : TypeId} {find : Nat → Option AObj} {fresh n o off n0 z : Nat} {xs : List AV} : appendB P e find fresh (some (n, xs)) (.sl o off n0 z) = appendC P e fresh n xs o off n0 z (find o) := (rfl)
theorem appendC_cells {e E : TypeId} {fresh n o off n0 z : Nat} {xs ys : List AV} : appendC P e fresh n xs o off n0 z (some (.cells E ys true)) = orO (if z = tsz P e ∧ E = e ∧ tok P e ∧ tzok P e ∧ 0 < tby P e ∧ off + n0 * tsz P e = ys.length ∧ (n0 + n) * tby P e ≤ 70368744177664 ∧ tby P e ≤ 1048576 then some (.sl fresh 0 (n0 + n) (tsz P e), [(o, .dead), (fresh, .cells e (ys.drop off ++ xs) true)]) else none) (if z = tsz P e ∧ E = e ∧ tok P e ∧ tzok P e ∧ 0 < tby P e ∧ off + n0 * tsz P e ≤ ys.length ∧ (n0 + n) * tby P e ≤ 70368744177664 ∧ tby P e ≤ 1048576 then
            some (.sl fresh 0 (n0 + n) (tsz P e), [(o, .dead), (fresh, .cells e ((ys.drop off).take (n0 * tsz P e) ++ xs) true)]) else none) := (rfl)
theorem orO_some {α : Type} {x : α} {b : Option α} : orO (some x) b = some x := (rfl)
theorem orO_none {α : Type} {b : Option α} : orO none b = b := (rfl)
attribute [push_cast] orO_some orO_none
theorem srcS_seq {find : Nat → Option AObj} {sz n z : Nat} {xs : List AV} : srcS find sz (.seq n z xs) = if z = sz then some (n, xs) else none := (rfl)
theorem srcS_nil {find : Nat → Option AObj} {sz : Nat} : srcS find sz (.v (.slice none 0 0)) = some (0, []) := (rfl)
theorem srcS_sl {find : Nat → Option AObj} {sz o off n z : Nat} : srcS find sz (.sl o off n z) = if z = sz then rdS find (.sl o off n z) else none := (rfl)
def rdO (off n sz : Nat) (ob : Option AObj) : Option (Nat × List AV) := match ob with
    | some (.cells _ ys _) => if off + n * sz ≤ ys.length then some (n, (ys.drop off).take (n * sz)) else none
    | some (.imm ys) => if off + n * sz ≤ ys.length then some (n, (ys.drop off).take (n * sz)) else none
    | _ => none
theorem rdS_sl {find : Nat → Option AObj} {o off n sz : Nat} : rdS find (.sl o off n sz) = rdO off n sz (find o) := (rfl)
theorem rdO_cells {off n sz : Nat} {E : TypeId} {ys : List AV} {ap : Bool} : rdO off n sz (some (.cells E ys ap)) = if off + n * sz ≤ ys.length then some (n, (ys.drop off).take (n * sz)) else none := (rfl)
theorem len_sl {find : Nat → Option AObj} {fr o off n sz : Nat} {t : TypeId} {ts : List TypeId} : builtinF P find fr .len (t :: ts).toArray [.sl o off n sz] = match tarr P t with | some (n, _) => some (.v (.int .i64 n), []) | none => if tlenk P t = some 0 then some (.v (.int .i64 n), []) else none := by
  simp [builtinF, lenA]
  cases tarr P t <;> simp
attribute [push_cast] rdS_sl rdO_cells len_sl
attribute [push_cast] srcS_seq srcS_nil srcS_sl
attribute [push_cast] append_b appendB_nil appendB_sl appendC_cells
attribute [push_cast] stepE_buildSlice fillA_nil fillA_cons fillB_some List.replicate_zero List.replicate_succ List.flatten_nil List.flatten_cons
end Go.AW
