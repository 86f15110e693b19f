/- The evaluator, part 4: A call gone into; a closed call, run by the kernel. The rest of the evaluator's rules, for simp. Entries at a loop's head, by simp. What is read as data, as abstract values. Data, typed. More rules: lengths, texts held against each other, slices against nil. Closed runs by a plan: which calls are taken by what they make. Documents; calls by contract where the order is open. -/
import Derived.Test.YteoodenfggmpfaaFc
import Derived.IntWalk
import Derived.Carry
import Derived.ChangeSame
import Derived.OpenShut
set_option linter.unusedSimpArgs false
set_option linter.unusedVariables false
namespace Go.AW
variable {P : Program} {γ : GTab}

/-- All that was there is there still. -/
def keepsAll (m : Mem) (objs : List (Nat × AObj)) : Bool := m.objs.all fun p => (lk objs p.1).isSome

theorem keepsAll_find {m : Mem} {objs : List (Nat × AObj)} (h : keepsAll m objs = true) {o : Nat} (ho : m.find o ≠ none) : lk objs o ≠ none := by
  obtain ⟨x, hx⟩ := Option.ne_none_iff_exists'.1 ho
  unfold keepsAll at h
  rw [List.all_eq_true] at h
  have := h _ (lk_mem hx)
  intro e
  simp only [e] at this
  cases this

def endA (P : Program) (rs : List ResultVar) (m : Mem) (K : AV → Mem → Prop) (_ : Exit) (σ : St) : Prop :=
  ∃ y, resA P rs σ.env σ.mem = some y ∧ keepsAll m σ.mem.objs = true ∧ K y ⟨σ.mem.objs, σ.mem.next, m.base, m.wid⟩

/-- What a call does, by its code. -/
theorem ACalls.enter {f : FuncId} {fn : Func} {c : Code} {xs : List AV} {m : Mem} {K : AV → Mem → Prop} (hf : P.funcs[f]? = some fn) (hb : fn.body = some c) (hn : (fn.name == "runtime.NumGoroutine") = false) (hm : P.follows .mixedOrders = true) (hd : dOK c = true)
    (h : ev P γ m.next fn.ntmps [.code c, .fin (endA P fn.results.toList m K)] ⟨(xs.zipIdx.map fun p => (p.2, p.1)), m.close⟩) : ACalls P γ f xs m K := by
  refine ⟨⟨fn, hf, hn, by rw [hb]; rfl⟩, fun S μ w vs hr hG hxs => ?_⟩
  refine calls_of_wp hf hb ?_
  have hRM : RM S μ w m.close := ⟨hr.obj, hr.inj, hr.old, hr.fr, fun o h1 h2 => by simp only [Mem.close] at h1 h2; omega, by simp [Mem.close], hr.bk⟩
  have hExt : Ext m.next m S μ w m.close S μ w := ⟨rfl, rfl, rfl, Nat.le_refl _, fun _ _ => rfl, fun _ _ h => h, Nat.le_refl _, fun _ _ h => h, fun _ _ _ h => .inl h, fun _ _ _ => rfl, fun _ _ _ _ _ h => h, fun _ _ h => ⟨rfl, h⟩, fun _ => Nat.le_refl _, fun _ _ h => h⟩
  have hRX : RX γ fn.ntmps m.next m S μ w ⟨(xs.zipIdx.map fun p => (p.2, p.1)), m.close⟩ { tmps := vs.toArray ++ Array.replicate (fn.ntmps - vs.toArray.size) undef, defers := [] } w :=
    ⟨S, μ, ⟨hRM, args_env hxs, rfl⟩, hG, hExt, by simp; omega, Nat.le_refl _, Nat.zero_le _⟩
  have fin : ∀ (e : Exit) (σ : St) (a : Act) (w' : World), endA P fn.results.toList m K e σ → RX γ fn.ntmps m.next m S μ w σ a w' → a.defers = [] ∧ ∃ v, (results fn a.tmps).run P w' = .ok v w' ∧
      ∃ v0 x m' S' μ', Ending.returned v = .returned v0 ∧ m'.base = m.base ∧ m'.wid = m.wid ∧ RM S' μ' w' m' ∧ Ext m.next m S μ w m' S' μ' w' ∧ Rep S' μ' w' x v0 ∧ K x m' := by
    intro e σ a w' hE hR
    obtain ⟨S', μ', hA, hG', hX, _, _, _⟩ := hR
    obtain ⟨y, h1, hk, h2⟩ := hE
    obtain ⟨v, h3, h4⟩ := res_run hA.rm hA.env h1
    have hle := hr.le
    have hnx : m.next ≤ σ.mem.next := hX.next
    refine ⟨hA.defers, v, h3, v, y, ⟨σ.mem.objs, σ.mem.next, m.base, m.wid⟩, S', μ', rfl, rfl, rfl, ⟨hA.rm.obj, hA.rm.inj, hA.rm.old, hA.rm.fr, fun o h5 h6 h7 => ?_, by show m.base + m.wid ≤ σ.mem.next; omega, hA.rm.bk⟩, hX.same (fun _ => rfl) rfl, h4, h2⟩
    simp only at h5 h6
    rw [hX.ids o (by omega)] at h7
    exact keepsAll_find hk (hr.win o h5 h6 h7)
  refine wp_mono (ev_sound hm _ c [.fin (endA P fn.results.toList m K)] _ _ w hd (Nat.le_refl _) h hRX) fun e a w' hp => ?_
  cases e with
  | normal =>
    obtain ⟨σ, h1, h2⟩ := hp
    rw [ev] at h1
    exact fin .normal σ a w' h1 h2
  | ret =>
    obtain ⟨σ, Q, h1, h2, h3⟩ := hp
    simp only [retK, Option.some.injEq] at h1
    subst h1
    exact fin .ret σ a w' h2 h3
  | exit id =>
    obtain ⟨σ, k', h1, _⟩ := hp
    simp [exitK] at h1
  | _ => exact hp.elim

/-! The same as rho, find and stepF, laid out for the kernel. -/
noncomputable def lkF {α : Type} (l : List (Nat × α)) (m : Nat) : Option α :=
  List.rec (motive := fun _ => Option α) none (fun p _ ih => Bool.rec (motive := fun _ => Option α) ih (some p.2) (Nat.beq p.1 m)) l
theorem lkF_lk {α : Type} : ∀ (l : List (Nat × α)) (m : Nat), lkF l m = lk l m
  | [], _ => rfl
  | (n, x) :: l, m => by
    have ih := lkF_lk l m
    show (Bool.rec (motive := fun _ => Option α) (lkF l m) (some x) (Nat.beq n m)) = lk ((n, x) :: l) m
    simp only [lk]
    cases h : Nat.beq n m with
    | true => rw [if_pos (Nat.eq_of_beq_eq_true h)]
    | false => rw [if_neg (Nat.ne_of_beq_eq_false h)]; exact ih
theorem lkF_eq {α : Type} : @lkF α = @lk α := by funext l m; exact lkF_lk l m
noncomputable def rhoF (γ : GTab) (env : List (Nat × AV)) : Operand → AV
  | .tmp t => (lkF env t).getD .top
  | .const c => .v c
  | x => rho γ env x
theorem rhoF_eq : @rhoF = @rho := by
  funext γ env x
  cases x <;> simp only [rhoF, rho, lkF_eq]

theorem blt_lt {a b : Nat} (h : Nat.blt a b = true) : a < b := Nat.le_of_ble_eq_true h
/-- Numbers below it stand for themselves. -/
def limK : IntKind → Nat
  | .i8 => 128 | .i16 => 32768 | .i32 => 2147483648 | .i64 => 9223372036854775808
  | .u8 => 256 | .u16 => 65536 | .u32 => 4294967296 | .u64 => 18446744073709551616
def logK : IntKind → Nat
  | .i8 => 7 | .i16 => 15 | .i32 => 31 | .i64 => 63 | .u8 => 8 | .u16 => 16 | .u32 => 32 | .u64 => 64
def unsK : IntKind → Bool
  | .i8 => false | .i16 => false | .i32 => false | .i64 => false
  | _ => true
theorem limK_pow (k : IntKind) : limK k = 2 ^ logK k := by cases k <;> rfl
theorem wrap_lt {k : IntKind} {r : Nat} (h : r < limK k) : k.wrap (Int.ofNat r) = Int.ofNat r := by
  cases k <;> simp only [limK] at h
  · exact IntWalk.i8_in _ (by simp; omega)
  · exact IntWalk.i16_in _ (by simp; omega)
  · exact IntWalk.i32_in _ (by simp; omega)
  · exact IntWalk.i64_in _ (by simp; omega)
  · exact IntWalk.u8_in _ (by simp; omega)
  · exact IntWalk.u16_in _ (by simp; omega)
  · exact IntWalk.u32_in _ (by simp; omega)
  · exact IntWalk.u64_in _ (by simp; omega)
theorem wrap_neg {k : IntKind} {r : Nat} (hu : unsK k = false) (h : r < limK k) : k.wrap (Int.negSucc r) = Int.negSucc r := by
  cases k <;> simp only [unsK, reduceCtorEq] at hu <;> simp only [limK] at h
  · exact IntWalk.i8_in _ (by omega)
  · exact IntWalk.i16_in _ (by omega)
  · exact IntWalk.i32_in _ (by omega)
  · exact IntWalk.i64_in _ (by omega)
theorem wrap_mod {k : IntKind} (hu : unsK k = true) (n : Int) : k.wrap n = n % (limK k : Int) := by
  cases k <;> simp only [unsK, reduceCtorEq] at hu <;> simp [IntKind.wrap, IntKind.signed, IntKind.bits, limK]
def putK (k : IntKind) (r : Nat) : Option Value := bif Nat.blt r (limK k) then some (.int k (.ofNat r)) else bif unsK k then some (.int k (.ofNat (Nat.mod r (limK k)))) else none
theorem putK_ok {k : IntKind} {r : Nat} {v : Value} (h : putK k r = some v) : v = .int k (k.wrap (Int.ofNat r)) := by
  unfold putK at h
  cases h1 : Nat.blt r (limK k) with
  | true =>
    rw [h1] at h
    simp only [cond_true, Option.some.injEq] at h
    rw [wrap_lt (blt_lt h1)]; exact h.symm
  | false =>
    rw [h1] at h
    cases h2 : unsK k with
    | true =>
      rw [h2] at h
      simp only [cond_false, cond_true, Option.some.injEq] at h
      rw [wrap_mod h2, ← h]
      rfl
    | false => rw [h2] at h; cases h
def fbin (op : BinOp) (k : IntKind) (a b : Nat) : Option Value := match op with
  | .add => putK k (Nat.add a b)
  | .sub => bif Nat.ble b a then putK k (Nat.sub a b) else bif unsK k then (bif Nat.ble b (limK k) then putK k (Nat.sub (Nat.add a (limK k)) b) else none) else
      bif Nat.blt (Nat.sub (Nat.sub b a) 1) (limK k) then some (.int k (.negSucc (Nat.sub (Nat.sub b a) 1))) else none
  | .mul => putK k (Nat.mul a b)
  | .lss => some (.bool (Nat.blt a b))
  | .leq => some (.bool (Nat.ble a b))
  | .gtr => some (.bool (Nat.blt b a))
  | .geq => some (.bool (Nat.ble b a))
  | .eql => some (.bool (Nat.beq a b))
  | .neq => some (.bool (bif Nat.beq a b then false else true))
  | .and => bif Nat.blt a (limK k) then bif Nat.blt b (limK k) then some (.int k (.ofNat (Nat.land a b))) else none else none
  | .or => bif Nat.blt a (limK k) then bif Nat.blt b (limK k) then some (.int k (.ofNat (Nat.lor a b))) else none else none
  | .xor => bif Nat.blt a (limK k) then bif Nat.blt b (limK k) then some (.int k (.ofNat (Nat.xor a b))) else none else none
  | .quo => match b with
    | 0 => none
    | .succ b => putK k (Nat.div a (.succ b))
  | .rem => match b with
    | 0 => none
    | .succ b => some (.int k (.ofNat (Nat.mod a (.succ b))))
  | _ => none
def fshift (op : BinOp) (k : IntKind) (a b : Nat) : Option Value := match op with
  | .shl => bif Nat.ble b k.bits then putK k (Nat.mul a (Nat.pow 2 b)) else none
  | .shr => bif Nat.ble b k.bits then some (.int k (.ofNat (Nat.div a (Nat.pow 2 b)))) else none
  | _ => none
def isShift : BinOp → Bool
  | .shl => true
  | .shr => true
  | _ => false
theorem bits_toNat {k : IntKind} {a : Nat} (h : a < limK k) : (BitVec.ofInt k.bits (Int.ofNat a)).toNat = a := by
  have : a < 2 ^ k.bits := by cases k <;> simp [limK, IntKind.bits] at h ⊢ <;> omega
  have e : BitVec.ofInt k.bits (Int.ofNat a) = BitVec.ofNat k.bits a := by simp
  rw [e, BitVec.toNat_ofNat, Nat.mod_eq_of_lt this]
theorem pbin_bits {op : BinOp} {t : TypeId} {x y : Operand} {k : IntKind} {a b : Nat} (ha : Nat.blt a (limK k) = true) (hb : Nat.blt b (limK k) = true) (f : Nat → Nat → Nat) (hf : f a b < limK k)
    (h : (binOp op t (.int k (.ofNat a)) (.int k (.ofNat b))) = Op.intBits op k (.ofNat a) (.ofNat b)) (hop : op ≠ .eql ∧ op ≠ .neq)
    (hq : Op.intBits op k (.ofNat a) (.ofNat b) = pure (.int k (k.wrap (Int.ofNat (f (BitVec.ofInt k.bits (Int.ofNat a)).toNat (BitVec.ofInt k.bits (Int.ofNat b)).toNat))))) : pbin P op t x y (.int k (.ofNat a)) (.int k (.ofNat b)) = some (.int k (.ofNat (f a b))) := by
  have ha' : a < limK k := blt_lt ha
  have hb' : b < limK k := blt_lt hb
  have hg : eqGuard op t x y (.int k (.ofNat a)) (.int k (.ofNat b)) = pure () := by cases op <;> rfl
  rw [bits_toNat ha', bits_toNat hb', wrap_lt hf] at hq
  unfold pbin
  split
  · exact absurd rfl hop.1
  · exact absurd rfl hop.2
  · rw [hg, h, hq]; rfl
theorem ble_dec {a b : Nat} : Nat.ble a b = decide (a ≤ b) := by
  rw [Bool.eq_iff_iff, Nat.ble_eq, decide_eq_true_eq]
theorem blt_dec {a b : Nat} : Nat.blt a b = decide (a < b) := by
  unfold Nat.blt; rw [ble_dec]; rfl
theorem beq_dec {a b : Nat} : Nat.beq a b = decide (a = b) := by
  rw [Bool.eq_iff_iff, Nat.beq_eq, decide_eq_true_eq]
theorem fbin_ok {op : BinOp} {t : TypeId} {x y : Operand} {k : IntKind} {a b : Nat} {v : Value} (h : fbin op k a b = some v) : pbin P op t x y (.int k (.ofNat a)) (.int k (.ofNat b)) = some v := by
  unfold fbin at h
  split at h
  · rw [pbin_add, putK_ok h]; rfl
  · rw [pbin_sub]
    cases h1 : Nat.ble b a with
    | true =>
      rw [h1] at h
      have := Nat.le_of_ble_eq_true h1
      rw [putK_ok h]
      congr 3
      exact (Int.ofNat_sub this).symm
    | false =>
      rw [h1] at h
      have hlt : a < b := by rw [ble_dec] at h1; simpa using h1
      cases h2 : unsK k with
      | true =>
        rw [h2] at h
        simp only [cond_false, cond_true] at h
        cases h3 : Nat.ble b (limK k) with
        | false => rw [h3] at h; cases h
        | true =>
          rw [h3] at h
          have hle := Nat.le_of_ble_eq_true h3
          simp only [cond_true] at h
          rw [putK_ok h, wrap_mod h2, wrap_mod h2]
          congr 2
          have e : (Int.ofNat (Nat.sub (Nat.add a (limK k)) b)) = (Int.ofNat a - Int.ofNat b) + (limK k : Int) := by
            have : b ≤ a + limK k := by omega
            show ((a + limK k - b : Nat) : Int) = (a : Int) - (b : Int) + (limK k : Int)
            omega
          rw [e, Int.add_emod_right]
      | false =>
        rw [h2] at h
        simp only [cond_false] at h
        cases h3 : Nat.blt (Nat.sub (Nat.sub b a) 1) (limK k) with
        | false => rw [h3] at h; cases h
        | true =>
          rw [h3] at h
          simp only [cond_true, Option.some.injEq] at h
          subst h
          have e : (Int.ofNat a - Int.ofNat b) = Int.negSucc (Nat.sub (Nat.sub b a) 1) := by
            show (a : Int) - (b : Int) = Int.negSucc (b - a - 1)
            omega
          rw [e, wrap_neg h2 (blt_lt h3)]
  · rw [pbin_mul, putK_ok h]; rfl
  · rw [pbin_lss]; simp only [Option.some.injEq] at h; subst h; rw [blt_dec]; simp
  · rw [pbin_leq]; simp only [Option.some.injEq] at h; subst h; rw [ble_dec]; simp
  · rw [pbin_gtr]; simp only [Option.some.injEq] at h; subst h; rw [blt_dec]; simp
  · rw [pbin_geq]; simp only [Option.some.injEq] at h; subst h; rw [ble_dec]; simp
  · rw [pbin_eql]; simp only [Option.some.injEq] at h; subst h; rw [beq_dec]; simp [Int.ofNat_inj]
  · rw [pbin_neq]; simp only [Option.some.injEq] at h; subst h; rw [beq_dec]; by_cases e : a = b <;> simp [e, Int.ofNat_inj]
  · cases h1 : Nat.blt a (limK k) with
    | false => rw [h1] at h; cases h
    | true => cases h2 : Nat.blt b (limK k) with
      | false => rw [h1, h2] at h; cases h
      | true =>
        rw [h1, h2] at h
        simp only [cond_true, Option.some.injEq] at h
        subst h
        have l1 := blt_lt h1
        have l2 := blt_lt h2
        exact pbin_bits h1 h2 Nat.land (by rw [limK_pow] at l1 l2 ⊢; exact Nat.lt_of_le_of_lt Nat.and_le_left l1) (by simp [binOp]) (by simp) (by simp [Op.intBits, BitVec.toNat_and])
  · cases h1 : Nat.blt a (limK k) with
    | false => rw [h1] at h; cases h
    | true => cases h2 : Nat.blt b (limK k) with
      | false => rw [h1, h2] at h; cases h
      | true =>
        rw [h1, h2] at h
        simp only [cond_true, Option.some.injEq] at h
        subst h
        have l1 := blt_lt h1
        have l2 := blt_lt h2
        exact pbin_bits h1 h2 Nat.lor (by rw [limK_pow] at l1 l2 ⊢; exact Nat.or_lt_two_pow l1 l2) (by simp [binOp]) (by simp) (by simp [Op.intBits, BitVec.toNat_or])
  · cases h1 : Nat.blt a (limK k) with
    | false => rw [h1] at h; cases h
    | true => cases h2 : Nat.blt b (limK k) with
      | false => rw [h1, h2] at h; cases h
      | true =>
        rw [h1, h2] at h
        simp only [cond_true, Option.some.injEq] at h
        subst h
        have l1 := blt_lt h1
        have l2 := blt_lt h2
        exact pbin_bits h1 h2 Nat.xor (by rw [limK_pow] at l1 l2 ⊢; exact Nat.xor_lt_two_pow l1 l2) (by simp [binOp]) (by simp) (by simp [Op.intBits, BitVec.toNat_xor])
  · cases b with
    | zero => cases h
    | succ b =>
      have e : pbin P .quo t x y (.int k (.ofNat a)) (.int k (.ofNat (.succ b))) = some (.int k (k.wrap ((Int.ofNat a).tdiv (Int.ofNat (.succ b))))) := by
        simp [pbin, guard_int, binOp, Op.intDiv]; rw [if_neg (by omega)]; rfl
      rw [e, putK_ok h]; rfl
  · cases b with
    | zero => cases h
    | succ b =>
      have e : pbin P .rem t x y (.int k (.ofNat a)) (.int k (.ofNat (.succ b))) = some (.int k ((Int.ofNat a).tmod (Int.ofNat (.succ b)))) := by
        simp [pbin, guard_int, binOp, Op.intDiv]; rw [if_neg (by omega)]; rfl
      rw [e, ← h]; rfl
  · cases h
theorem fshift_ok {op : BinOp} {t : TypeId} {x y : Operand} {k k' : IntKind} {a b : Nat} {v : Value} (h : fshift op k a b = some v) : pbin P op t x y (.int k (.ofNat a)) (.int k' (.ofNat b)) = some v := by
  have hg : ∀ op, op ≠ .eql → op ≠ .neq → eqGuard op t x y (.int k (.ofNat a)) (.int k' (.ofNat b)) = pure () := by intro op _ _; cases op <;> first | rfl | contradiction
  unfold fshift at h
  split at h
  · cases h1 : Nat.ble b k.bits with
    | false => rw [h1] at h; cases h
    | true =>
      rw [h1] at h
      have hle := Nat.le_of_ble_eq_true h1
      have e : pbin P .shl t x y (.int k (.ofNat a)) (.int k' (.ofNat b)) = some (.int k (k.wrap (Int.ofNat a * 2 ^ min b k.bits))) := by
        simp [pbin, hg, binOp, Op.shift]; rw [if_neg (by omega)]; rfl
      rw [e, putK_ok h, Nat.min_eq_left hle]
      congr 3
  · cases h1 : Nat.ble b k.bits with
    | false => rw [h1] at h; cases h
    | true =>
      rw [h1] at h
      have hle := Nat.le_of_ble_eq_true h1
      simp only [cond_true, Option.some.injEq] at h
      subst h
      have e : pbin P .shr t x y (.int k (.ofNat a)) (.int k' (.ofNat b)) = some (.int k ((Int.ofNat a).fdiv (2 ^ min b k.bits))) := by
        simp [pbin, hg, binOp, Op.shift]; rw [if_neg (by omega)]; rfl
      rw [e, Nat.min_eq_left hle]
      congr 2
      show (a : Int).fdiv (2 ^ b) = ((a / 2 ^ b : Nat) : Int)
      rw [Int.fdiv_eq_ediv_of_nonneg _ (by exact Int.le_of_lt (Int.pow_pos (by decide)))]
      simp
  · cases h
def kbeq : IntKind → IntKind → Bool
  | .i64, .i64 => true
  | .u8, .u8 => true
  | .u32, .u32 => true
  | .u64, .u64 => true
  | _, _ => false
theorem kbeq_eq {k k' : IntKind} (h : kbeq k k' = true) : k = k' := by cases k <;> cases k' <;> first | rfl | cases h
def qBin (op : BinOp) (a b : AV) (other : Option (AV × Upd)) : Option (AV × Upd) := match a with
  | .v (.int k (.ofNat m)) => match b with
    | .v (.int k' (.ofNat n)) => match isShift op with
      | true => match fshift op k m n with
        | some v => some (.v v, [])
        | none => other
      | false => match kbeq k k' with
        | true => match fbin op k m n with
          | some v => some (.v v, [])
          | none => other
        | false => other
    | _ => other
  | _ => other
theorem qBin_eq {ρ : Operand → AV} {find : Nat → Option AObj} {fresh : Nat} {op : BinOp} {t yt : TypeId} {x y : Operand} : qBin op (ρ x) (ρ y) (stepF P ρ find fresh (.binOp op t x y yt)) = stepF P ρ find fresh (.binOp op t x y yt) := by
  unfold qBin
  split
  · rename_i k m hx
    split
    · rename_i k' n hy
      have e : ∀ v, pbin P op t x y (.int k (.ofNat m)) (.int k' (.ofNat n)) = some v → stepF P ρ find fresh (.binOp op t x y yt) = some (.v v, []) := fun v h => by
        simp only [stepF, stepF0, hx, hy, unf, AV.val?, h, Option.map_some]
      split
      · split
        · rename_i v h; exact (e v (fshift_ok h)).symm
        · rfl
      · split
        · rename_i hk
          obtain rfl := kbeq_eq hk
          split
          · rename_i v h; exact (e v (fbin_ok h)).symm
          · rfl
        · rfl
    · rfl
  · rfl
def qLoad (P : Program) (find : Nat → Option AObj) (t : TypeId) (x : AV) : Option (AV × Upd) := if tok P t then (loadF P find t (unf x)).map fun x => (x, []) else none
def qStore (P : Program) (find : Nat → Option AObj) (t : TypeId) (a x : AV) : Option (AV × Upd) := (storeF P find t (unf a) (unf x)).map fun u => (.v undef, u)
def qIndexAddr (P : Program) (t : TypeId) (x i : AV) : Option (AV × Upd) := (indexAddrF P t (unf x) (unf i)).map fun x => (x, [])
def qIndex (P : Program) (t : TypeId) (x i : AV) : Option (AV × Upd) := (indexF P t (unf x) (unf i)).map fun x => (x, [])
def qFieldAddr (P : Program) (s : TypeId) (f : Nat) (x : AV) : Option (AV × Upd) := match tflds P s with
    | some fs => match fs[f]?, unf x with
      | some fl, .ptr o off => if tok P fl.2 ∧ tsz P fl.2 ≠ 0 then some (.ptr o (off + fl.1), []) else none
      | some fl, .rop xs => if tok P fl.2 ∧ tsz P fl.2 ≠ 0 then some (.rop (xs.drop fl.1), []) else none
      | _, _ => none
    | none => none
def qExtract (x : AV) (i : Nat) : Option (AV × Upd) := match unf x with
    | .tup xs => (xs[i]?).map fun x => (x, [])
    | _ => none
def qAlloc (P : Program) (e : TypeId) (fresh : Nat) : Option (AV × Upd) := match tz P e with
    | some zs => some (.ptr fresh 0, [(fresh, .cells e (zs.map .v) false)])
    | none => none
def qPick (c a b : AV) : Option (AV × Upd) := match unf c with
    | .v (.bool t) => match unf a, unf b with
      | .v (.bool x), .v (.bool y) => some (.v (.bool (bif t then x else y)), [])
      | x, y => some (bif t then x else y, [])
    | _ => none
/-- What an operation does: the usual ones by short roads. -/
def stepQ (P : Program) (ρ : Operand → AV) (find : Nat → Option AObj) (fresh : Nat) (op : Op) : Option (AV × Upd) :=
  match op with
  | .binOp b t x y yt => qBin b (ρ x) (ρ y) (stepF P ρ find fresh (.binOp b t x y yt))
  | .move x => some (ρ x, [])
  | .assign x => some (ρ x, [])
  | .load t a => qLoad P find t (ρ a)
  | .store t a x => qStore P find t (ρ a) (ρ x)
  | .indexAddr t x i => qIndexAddr P t (ρ x) (ρ i)
  | .index t x i => qIndex P t (ρ x) (ρ i)
  | .fieldAddr s x f => qFieldAddr P s f (ρ x)
  | .extract t i => qExtract (ρ t) i
  | .alloc e => qAlloc P e fresh
  | .pick c a b => qPick (ρ c) (ρ a) (ρ b)
  | op => stepF P ρ find fresh op
theorem stepQ_eq : @stepQ = @stepF := by
  funext P ρ find fresh op
  cases op with
  | binOp b t x y yt => exact qBin_eq
  | _ => rfl

/-! Runs. -/
inductive RI where
  | code (c : Code)
  | blk (id : Nat)
  | scp
  | lp (c : Code)

def exitR (id : Nat) : List RI → Option (List RI)
  | .blk id' :: k => if id' = id then some k else exitR id k
  | _ :: k => exitR id k
  | [] => none

def dstB (m : Mem) : Option Nat → Bool
  | some d => decide (d < m.wid)
  | none => true
theorem dstB_ok {m : Mem} {d : Option Nat} (h : dstB m d = true) : dstOK m d := by
  cases d with
  | none => trivial
  | some d => simpa [dstB, dstOK] using h

/-! Numbers, and the rows of lists, worked out before they are handed on (for the kernel). -/
def fN {β : Type} (n : Nat) (c : Nat → β) : β := match n with
  | 0 => c 0
  | .succ k => c (.succ k)
def fI {β : Type} (n : Int) (c : Int → β) : β := match n with
  | .ofNat m => fN m fun m => c (.ofNat m)
  | .negSucc m => fN m fun m => c (.negSucc m)
def fS {α β : Type} : List α → (List α → β) → β
  | [], c => c []
  | x :: l, c => fS l fun l => c (x :: l)
def fV {β : Type} (x : Value) (c : Value → β) : β := match x with
  | .int k n => fI n fun n => c (.int k n)
  | .bool true => c (.bool true)
  | .bool false => c (.bool false)
  | x => c x
def fA {β : Type} (x : AV) (c : AV → β) : β := match x with
  | .v x => fV x fun x => c (.v x)
  | .agg xs => fS xs fun xs => c (.agg xs)
  | .tup xs => fS xs fun xs => c (.tup xs)
  | .seq n z xs => fN n fun n => fN z fun z => fS xs fun xs => c (.seq n z xs)
  | .full n z xs => fN n fun n => fN z fun z => fS xs fun xs => c (.full n z xs)
  | .slc o off n z => fN o fun o => fN off fun off => fN n fun n => fN z fun z => c (.slc o off n z)
  | .rop xs => fS xs fun xs => c (.rop xs)
  | .ptr o off => fN o fun o => fN off fun off => c (.ptr o off)
  | .sl o off n z => fN o fun o => fN off fun off => fN n fun n => fN z fun z => c (.sl o off n z)
  | .mp o => fN o fun o => c (.mp o)
  | .it o => fN o fun o => c (.it o)
  | .mv kt ks xs => fS ks fun ks => fS xs fun xs => c (.mv kt ks xs)
  | x => c x
def fO {β : Type} (x : AObj) (c : AObj → β) : β := match x with
  | .cells E xs true => fS xs fun xs => c (.cells E xs true)
  | .cells E xs false => fS xs fun xs => c (.cells E xs false)
  | .map kt ks xs => fS ks fun ks => fS xs fun xs => c (.map kt ks xs)
  | .miter l ks xs => fS ks fun ks => fS xs fun xs => c (.miter l ks xs)
  | x => c x
def fU {β : Type} : Upd → (Upd → β) → β
  | [], c => c []
  | (o, ob) :: u, c => fN o fun o => fO ob fun ob => fU u fun u => c ((o, ob) :: u)
theorem fN_eq {β : Type} (n : Nat) (c : Nat → β) : fN n c = c n := by cases n <;> rfl
theorem fI_eq {β : Type} (n : Int) (c : Int → β) : fI n c = c n := by cases n <;> simp only [fI, fN_eq]
theorem fS_eq {α β : Type} : ∀ (l : List α) (c : List α → β), fS l c = c l
  | [], _ => rfl
  | x :: l, c => fS_eq l _
theorem fV_eq {β : Type} (x : Value) (c : Value → β) : fV x c = c x := by
  cases x with
  | int k n => simp only [fV, fI_eq]
  | bool b => cases b <;> rfl
  | _ => rfl
theorem fA_eq {β : Type} (x : AV) (c : AV → β) : fA x c = c x := by
  cases x <;> simp only [fA, fV_eq, fN_eq, fS_eq]
theorem fO_eq {β : Type} (x : AObj) (c : AObj → β) : fO x c = c x := by
  cases x with
  | cells E xs ap => cases ap <;> exact fS_eq _ _
  | _ => simp only [fO, fS_eq]
theorem fU_eq {β : Type} : ∀ (u : Upd) (c : Upd → β), fU u c = c u
  | [], _ => rfl
  | (o, ob) :: u, c => by simp only [fU, fN_eq, fO_eq, fU_eq u]

def rS (r : Option (AV × Upd)) (dst : Option Nat) (σ : St) : Option St :=
  match r with
  | some (x, u) => fA x fun x => fU u fun u => if dstB σ.mem dst && updOK σ.mem dst u then some ⟨putE dst x σ.env, σ.mem.upd u⟩ else none
  | none => none
def rN (r : Option Nat) (neg : Bool) (dst : Option Nat) (σ : St) (other : Option St) : Option St :=
  match r with
  | some n => if dstB σ.mem dst && decide (n ≠ 0) then some ⟨putE dst (.v (.bool neg)) σ.env, σ.mem⟩ else none
  | none => other
def rNx (o : Nat) (dst : Option Nat) (σ : St) (ob : Option AObj) : Option St :=
  match ob with
  | some (.miter _ [] _) => if dstB σ.mem dst then some ⟨putE dst (.tup [.v (.bool false)]) σ.env, σ.mem⟩ else none
  | some (.miter _ [k] [x]) => if dstB σ.mem dst then some ⟨putE dst (.tup [.v (.bool true), .v k, x]) σ.env, σ.mem.upd [(o, .miter (some (k, x)) [] [])]⟩ else none
  | _ => none
def rNext (x : AV) (isStr : Bool) (dst : Option Nat) (σ : St) : Option St :=
  match x, isStr with
  | .it o, false => rNx o dst σ (σ.mem.find o)
  | _, _ => none
abbrev CallF := FuncId → List AV → Mem → Option (AV × Mem)
def emptyMem : Mem := ⟨[], 0, 0, 0⟩
def pC (call : CallF) (g : FuncId) (xs : List AV) : Option AV :=
  if idfL xs then (call g xs emptyMem).bind fun p => (snap p.2.find 12 (unf p.1)).bind fun q => if idf q.1 then some q.1 else none else none
def pN (call : CallF) (g : FuncId) (xs : List AV) : Option AV :=
  if idfL xs then (call g xs emptyMem).bind fun p => (snapN p.2.find 12 (unf p.1)).bind fun q => if idf q then some q else none else none
/-- A call: gone into, or else by what it makes. -/
def cc (call : CallF) (g : FuncId) (xs : List AV) (m : Mem) : Option (AV × Mem) :=
  match call g xs m with
  | some p => some p
  | none => match snapArgs m.find xs with
    | some p => (pN call g p.1).map fun r => (r, m)
    | none => none
def rC (call : CallF) (r : Option (FuncId × List AV × List AV)) (args : List AV) (dst : Option Nat) (σ : St) : Option St :=
  match r with
  | some (g, a, c) => if dstB σ.mem dst then (cc call g ((a ++ args ++ c).map unf) σ.mem).map fun p => ⟨putE dst p.1 σ.env, p.2⟩ else none
  | none => none
def rO (P : Program) (γ : GTab) (call : CallF) (o : Oper) (σ : St) : Option St :=
  match o.op with
  | .call { callee := .value f, args, .. } => rC call (calleeOf (rho γ σ.env f)) (args.toList.map (rho γ σ.env)) o.dst σ
  | .binOp .eql t x y _ => rN (nilSl P t (unf (rho γ σ.env x)) (rho γ σ.env y)) false o.dst σ (rS (stepF P (rho γ σ.env) σ.mem.find (freshOf σ.mem o.dst) o.op) o.dst σ)
  | .binOp .neq t x y _ => rN (nilSl P t (unf (rho γ σ.env x)) (rho γ σ.env y)) true o.dst σ (rS (stepF P (rho γ σ.env) σ.mem.find (freshOf σ.mem o.dst) o.op) o.dst σ)
  | .next x isStr => rNext (rho γ σ.env x) isStr o.dst σ
  | _ => rS (stepF P (rho γ σ.env) σ.mem.find (freshOf σ.mem o.dst) o.op) o.dst σ
def rG (P : Program) (γ : GTab) (call : CallF) (all : Array Oper) (o : Oper) (σ : St) : Option St :=
  match o.guard with
  | none => rO P γ call o σ
  | some (j, want) => match (all[j]?).bind (·.dst) with
    | some d => if skipA (lk σ.env d) then some ⟨putE o.dst (.v undef) σ.env, σ.mem⟩ else match (lk σ.env d).bind boolA with
      | some b => if b = want then rO P γ call o ⟨(d, .v (.bool want)) :: σ.env, σ.mem⟩ else some ⟨putE o.dst (.v undef) ((d, .v (.bool (!want))) :: σ.env), σ.mem⟩
      | none => none
    | none => none
def rL (P : Program) (γ : GTab) (call : CallF) (all : Array Oper) : List Oper → St → Option St
  | [], σ => some ⟨σ.env, σ.mem.close⟩
  | o :: l, σ => (rG P γ call all o σ).bind (rL P γ call all l)

def rDS (all : Array Oper) (i : Nat) (fp : List Nat) (log : Log) (r : Option (AV × Upd)) (dst : Option Nat) (σ : St) : Option (Log × St) :=
  match r with
  | some (x, u) => fA x fun x => fU u fun u => fS fp fun fp => if dstB σ.mem dst && updOK σ.mem dst u && okLog all i fp (wrOf u) log then some ((i, fp, wrOf u) :: log, ⟨putE dst x σ.env, σ.mem.upd u⟩) else none
  | none => none
def rDC2 (call : CallF) (all : Array Oper) (i : Nat) (log : Log) (g : FuncId) (r : Option (List AV × List Nat)) (dst : Option Nat) (σ : St) : Option (Log × St) :=
  match r with
  | some (xs, ids) => if dstB σ.mem dst && okLog all i ids [] log then match pN call g xs with
    | some r => some ((i, ids, []) :: log, ⟨putE dst r σ.env, σ.mem⟩)
    | none => match pC call g xs with
      | some r => if scalar r || ids.isEmpty then some ((i, ids, []) :: log, ⟨putE dst r σ.env, σ.mem⟩) else none
      | none => none
    else none
  | none => none
def rDC (call : CallF) (all : Array Oper) (i : Nat) (log : Log) (r : Option (FuncId × List AV × List AV)) (args : List AV) (dst : Option Nat) (σ : St) : Option (Log × St) :=
  match r with
  | some (g, a, c) => rDC2 call all i log g (snapArgs σ.mem.find ((a ++ args ++ c).map unf)) dst σ
  | none => none
def rDO (P : Program) (γ : GTab) (call : CallF) (all : Array Oper) (i : Nat) (log : Log) (o : Oper) (σ : St) : Option (Log × St) :=
  match o.op with
  | .call { callee := .value f, args, .. } => rDC call all i log (calleeOf (rho γ σ.env f)) (args.toList.map (rho γ σ.env)) o.dst σ
  | _ => rDS all i (fpOf γ σ.env o.op) log (stepF P (rho γ σ.env) σ.mem.find (freshOf σ.mem o.dst) o.op) o.dst σ
def rDG (P : Program) (γ : GTab) (call : CallF) (all : Array Oper) (i : Nat) (log : Log) (o : Oper) (σ : St) : Option (Log × St) :=
  match o.guard with
  | none => rDO P γ call all i log o σ
  | some (j, want) => match (all[j]?).bind (·.dst) with
    | some d => if skipA (lk σ.env d) then some (log, ⟨putE o.dst (.v undef) σ.env, σ.mem⟩) else match (lk σ.env d).bind boolA with
      | some b => if b = want then rDO P γ call all i log o ⟨(d, .v (.bool want)) :: σ.env, σ.mem⟩ else some (log, ⟨putE o.dst (.v undef) ((d, .v (.bool (!want))) :: σ.env), σ.mem⟩)
      | none => none
    | none => none
def rDL (P : Program) (γ : GTab) (call : CallF) (all : Array Oper) : Nat → List Oper → Log → St → Option St
  | _, [], _, σ => some ⟨σ.env, σ.mem.close⟩
  | i, o :: l, log, σ => (rDG P γ call all i log o σ).bind fun p => rDL P γ call all (i + 1) l p.1 p.2

noncomputable def rOq (P : Program) (γ : GTab) (call : CallF) (o : Oper) (σ : St) : Option St :=
  match o.op with
  | .call { callee := .value f, args, .. } => rC call (calleeOf (rhoF γ σ.env f)) (args.toList.map (rhoF γ σ.env)) o.dst σ
  | .binOp .eql t x y _ => rN (nilSl P t (unf (rhoF γ σ.env x)) (rhoF γ σ.env y)) false o.dst σ (rS (stepQ P (rhoF γ σ.env) (lkF σ.mem.objs) (freshOf σ.mem o.dst) o.op) o.dst σ)
  | .binOp .neq t x y _ => rN (nilSl P t (unf (rhoF γ σ.env x)) (rhoF γ σ.env y)) true o.dst σ (rS (stepQ P (rhoF γ σ.env) (lkF σ.mem.objs) (freshOf σ.mem o.dst) o.op) o.dst σ)
  | .next x isStr => rNext (rhoF γ σ.env x) isStr o.dst σ
  | _ => rS (stepQ P (rhoF γ σ.env) (lkF σ.mem.objs) (freshOf σ.mem o.dst) o.op) o.dst σ
noncomputable def rGq (P : Program) (γ : GTab) (call : CallF) (all : Array Oper) (o : Oper) (σ : St) : Option St :=
  match o.guard with
  | none => rOq P γ call o σ
  | some (j, want) => match (all[j]?).bind (·.dst) with
    | some d => if skipA (lkF σ.env d) then some ⟨putE o.dst (.v undef) σ.env, σ.mem⟩ else match (lkF σ.env d).bind boolA with
      | some b => if b = want then rOq P γ call o ⟨(d, .v (.bool want)) :: σ.env, σ.mem⟩ else some ⟨putE o.dst (.v undef) ((d, .v (.bool (!want))) :: σ.env), σ.mem⟩
      | none => none
    | none => none
noncomputable def rLq (P : Program) (γ : GTab) (call : CallF) (all : Array Oper) : List Oper → St → Option St
  | [], σ => some ⟨σ.env, σ.mem.close⟩
  | o :: l, σ => (rGq P γ call all o σ).bind (rLq P γ call all l)

noncomputable def rDOq (P : Program) (γ : GTab) (call : CallF) (all : Array Oper) (i : Nat) (log : Log) (o : Oper) (σ : St) : Option (Log × St) :=
  match o.op with
  | .call { callee := .value f, args, .. } => rDC call all i log (calleeOf (rhoF γ σ.env f)) (args.toList.map (rhoF γ σ.env)) o.dst σ
  | _ => rDS all i (fpOf γ σ.env o.op) log (stepQ P (rhoF γ σ.env) (lkF σ.mem.objs) (freshOf σ.mem o.dst) o.op) o.dst σ
noncomputable def rDGq (P : Program) (γ : GTab) (call : CallF) (all : Array Oper) (i : Nat) (log : Log) (o : Oper) (σ : St) : Option (Log × St) :=
  match o.guard with
  | none => rDOq P γ call all i log o σ
  | some (j, want) => match (all[j]?).bind (·.dst) with
    | some d => if skipA (lkF σ.env d) then some (log, ⟨putE o.dst (.v undef) σ.env, σ.mem⟩) else match (lkF σ.env d).bind boolA with
      | some b => if b = want then rDOq P γ call all i log o ⟨(d, .v (.bool want)) :: σ.env, σ.mem⟩ else some (log, ⟨putE o.dst (.v undef) ((d, .v (.bool (!want))) :: σ.env), σ.mem⟩)
      | none => none
    | none => none
noncomputable def rDLq (P : Program) (γ : GTab) (call : CallF) (all : Array Oper) : Nat → List Oper → Log → St → Option St
  | _, [], _, σ => some ⟨σ.env, σ.mem.close⟩
  | i, o :: l, log, σ => (rDGq P γ call all i log o σ).bind fun p => rDLq P γ call all (i + 1) l p.1 p.2


theorem find_lkF (m : Mem) : lkF m.objs = m.find := by rw [lkF_eq]
theorem rOq_eq : @rOq = @rO := by
  funext P γ call o σ
  simp only [rOq, rO, rhoF_eq, stepQ_eq, find_lkF]
theorem rGq_eq : @rGq = @rG := by
  funext P γ call all o σ
  simp only [rGq, rG, rOq_eq, lkF_eq]
theorem rLq_eq (P : Program) (γ : GTab) (call : CallF) (all : Array Oper) : ∀ (l : List Oper) (σ : St), rLq P γ call all l σ = rL P γ call all l σ
  | [], _ => rfl
  | o :: l, σ => by
    simp only [rLq, rL, rGq_eq]
    congr 1
    funext σ
    exact rLq_eq P γ call all l σ
theorem rDOq_eq : @rDOq = @rDO := by
  funext P γ call all i log o σ
  simp only [rDOq, rDO, rhoF_eq, stepQ_eq, find_lkF, fpOf]
theorem rDGq_eq : @rDGq = @rDG := by
  funext P γ call all i log o σ
  simp only [rDGq, rDG, rDOq_eq, lkF_eq]
theorem rDLq_eq (P : Program) (γ : GTab) (call : CallF) (all : Array Oper) : ∀ (i : Nat) (l : List Oper) (log : Log) (σ : St), rDLq P γ call all i l log σ = rDL P γ call all i l log σ
  | _, [], _, _ => rfl
  | i, o :: l, log, σ => by
    simp only [rDLq, rDL, rDGq_eq]
    congr 1
    funext p
    exact rDLq_eq P γ call all (i + 1) l p.1 p.2

def headOK (n0 : Nat) (σ : St) : Bool := decide (σ.mem.wid = 0) && decide (n0 ≤ σ.mem.base)

noncomputable def selE : List Nat → List (Nat × AV) → List (Nat × AV)
  | [], _ => []
  | t :: l, env => match lkF env t with
    | some x => (t, x) :: selE l env
    | none => selE l env
def isDead : AObj → Bool
  | .dead => true
  | _ => false
def hasN (l : List Nat) (o : Nat) : Bool := match l with
  | [] => false
  | x :: l => match Nat.beq x o with
    | true => true
    | false => hasN l o
def ddO (n0 : Nat) : List Nat → List (Nat × AObj) → List (Nat × AObj)
  | _, [] => []
  | seen, (o, ob) :: l => match hasN seen o with
    | true => ddO n0 seen l
    | false => match isDead ob && Nat.ble n0 o with
      | true => ddO n0 (o :: seen) l
      | false => (o, ob) :: ddO n0 (o :: seen) l
/-- A state at a loop's head: what is asked for later, each thing once. -/
noncomputable def nrm {β : Type} (lv : Option (List Nat)) (n0 : Nat) (σ : St) (c : St → β) : β := match lv with
  | none => c σ
  | some l => fS (selE l σ.env) fun env => fS (ddO n0 [] σ.mem.objs) fun objs => fN σ.mem.next fun nx => fN σ.mem.base fun bs => c ⟨env, ⟨objs, nx, bs, σ.mem.wid⟩⟩
noncomputable def nrmS (lv : Option (List Nat)) (n0 : Nat) (σ : St) : St := nrm lv n0 σ id
theorem nrm_eq {β : Type} (lv : Option (List Nat)) (n0 : Nat) (σ : St) (c : St → β) : nrm lv n0 σ c = c (nrmS lv n0 σ) := by
  cases lv with
  | none => rfl
  | some l => simp only [nrm, nrmS, fS_eq, fN_eq]; rfl
theorem selE_spec : ∀ {l : List Nat} {env : List (Nat × AV)} {t : Nat} {x : AV}, lk (selE l env) t = some x → lk env t = some x
  | [], _, _, _, h => by simp [selE, lk] at h
  | t' :: l, env, t, x, h => by
    simp only [selE, lkF_eq] at h
    cases hx : lk env t' with
    | none => rw [hx] at h; exact selE_spec h
    | some y =>
      rw [hx] at h
      simp only [lk] at h
      split at h
      · rename_i e; subst e; rw [hx]; exact h
      · exact selE_spec h
theorem hasN_spec : ∀ {l : List Nat} {o : Nat}, hasN l o = true ↔ o ∈ l
  | [], o => by simp [hasN]
  | x :: l, o => by
    simp only [hasN, List.mem_cons]
    cases h : Nat.beq x o with
    | true => have := Nat.eq_of_beq_eq_true h; simp [this]
    | false =>
      have := Nat.ne_of_beq_eq_false h
      simp only [hasN_spec]
      constructor
      · exact .inr
      · rintro (e | e)
        · exact absurd e.symm this
        · exact e
theorem ddO_spec {n0 : Nat} : ∀ {l : List (Nat × AObj)} {seen : List Nat} {o : Nat} {x : AObj}, lk (ddO n0 seen l) o = some x → o ∉ seen ∧ lk l o = some x
  | [], _, _, _, h => by simp [ddO, lk] at h
  | (o', ob) :: l, seen, o, x, h => by
    simp only [ddO] at h
    cases hs : hasN seen o' with
    | true =>
      rw [hs] at h
      have ih := ddO_spec h
      have hne : o' ≠ o := fun e => ih.1 (by subst e; exact hasN_spec.1 hs)
      exact ⟨ih.1, by simp only [lk, if_neg hne]; exact ih.2⟩
    | false =>
      rw [hs] at h
      simp only at h
      have hrec : lk (ddO n0 (o' :: seen) l) o = some x → o ∉ seen ∧ lk ((o', ob) :: l) o = some x := fun h => by
        have ih := ddO_spec h
        have hne : o' ≠ o := fun e => ih.1 (by simp [e])
        exact ⟨fun hm => ih.1 (by simp [hm]), by simp only [lk, if_neg hne]; exact ih.2⟩
      split at h
      · exact hrec h
      · simp only [lk] at h
        split at h
        · rename_i e
          subst e
          exact ⟨fun hm => (by rw [hasN_spec.2 hm] at hs; cases hs), (by simp only [lk, if_true]; exact h)⟩
        · exact hrec h

noncomputable def rk (P : Program) (γ : GTab) (call : CallF) (lv : Option (List Nat)) (n0 N : Nat) : Nat → List RI → St → Option St
  | 0, _, _ => none
  | _ + 1, [], σ => some σ
  | n + 1, .blk _ :: k, σ => rk P γ call lv n0 N n k σ
  | n + 1, .scp :: k, σ => rk P γ call lv n0 N n k σ
  | n + 1, .lp c :: k, σ => if headOK n0 σ then nrm lv n0 σ fun σ => rk P γ call lv n0 N n (.code c :: .lp c :: k) σ else none
  | n + 1, .code (.region _ ops false) :: k, σ => (rLq P γ call ops ops.toList ⟨σ.env, σ.mem.open_ N⟩).bind (rk P γ call lv n0 N n k)
  | n + 1, .code (.region _ ops true) :: k, σ => (rDLq P γ call ops 0 ops.toList [] ⟨σ.env, σ.mem.open_ N⟩).bind (rk P γ call lv n0 N n k)
  | n + 1, .code (.seq a b) :: k, σ => rk P γ call lv n0 N n (.code a :: .code b :: k) σ
  | n + 1, .code (.cond c a b) :: k, σ => match boolA (rhoF γ σ.env c) with
    | some true => rk P γ call lv n0 N n (.code a :: k) ⟨condE σ.env c true, σ.mem⟩
    | some false => rk P γ call lv n0 N n (.code b :: k) ⟨condE σ.env c false, σ.mem⟩
    | none => none
  | n + 1, .code (.block id c) :: k, σ => rk P γ call lv n0 N n (.code c :: .blk id :: k) σ
  | n + 1, .code (.loop c) :: k, σ => if headOK n0 σ then nrm lv n0 σ fun σ => rk P γ call lv n0 N n (.code c :: .lp c :: k) σ else none
  | n + 1, .code (.exit id) :: k, σ => match exitR id k with
    | some k' => rk P γ call lv n0 N n k' σ
    | none => none
  | n + 1, .code (.scope c) :: k, σ => rk P γ call lv n0 N n (.code c :: .scp :: k) σ
  | n + 1, .code (.label _) :: k, σ => rk P γ call lv n0 N n k σ
  | n + 1, .code .skip :: k, σ => rk P γ call lv n0 N n k σ
  | _ + 1, .code .ret :: _, σ => some σ
  | _ + 1, .code _ :: _, _ => none

noncomputable def rcF (P : Program) (γ : GTab) (call : CallF) (lv : Option (List Nat)) (fuel : Nat) (fn : Option Func) (xs : List AV) (m : Mem) : Option (AV × Mem) :=
  match fn with
  | some fn => match fn.body with
    | some c => if (fn.name == "runtime.NumGoroutine") = false ∧ dOK c = true then
        match rk P γ call lv m.next fn.ntmps fuel [.code c] ⟨(xs.zipIdx.map fun p => (p.2, p.1)), m.close⟩ with
        | some σ => match resA P fn.results.toList σ.env σ.mem with
          | some y => if keepsAll m σ.mem.objs then some (y, ⟨σ.mem.objs, σ.mem.next, m.base, m.wid⟩) else none
          | none => none
        | none => none
      else none
    | none => none
  | none => none
/-- A closed call, run. -/
noncomputable def rc (P : Program) (γ : GTab) (fuel : Nat) : Nat → CallF
  | 0 => fun _ _ _ => none
  | d + 1 => fun g xs m => rcF P γ (rc P γ fuel d) none fuel P.funcs[g]? xs m

/-! They are right. -/
def CallOK (P : Program) (γ : GTab) (call : CallF) : Prop := ∀ g xs m x m', call g xs m = some (x, m') → ∀ K : AV → Mem → Prop, K x m' → ACalls P γ g xs m K

theorem rS_ok {r : Option (AV × Upd)} {dst : Option Nat} {σ σ' : St} {K : St → Prop} (h : rS r dst σ = some σ') (hK : K σ') : evS r dst σ K := by
  unfold rS at h
  split at h
  · simp only [fA_eq, fU_eq] at h
    split at h
    · rename_i hc
      simp only [Bool.and_eq_true] at hc
      simp only [Option.some.injEq] at h
      subst h
      exact ⟨dstB_ok hc.1, hc.2, hK⟩
    · cases h
  · cases h

theorem PCall.of_run {call : CallF} (hc : CallOK P γ call) {g : FuncId} {xs : List AV} {r : AV} (h : pC call g xs = some r) : PCall P γ g xs r := by
  unfold pC at h
  split at h
  · rename_i hx
    simp only [Option.bind_eq_some_iff] at h
    obtain ⟨⟨x, m'⟩, h1, ⟨y, ids⟩, h2, h3⟩ := h
    simp only [Option.ite_none_right_eq_some, Option.some.injEq] at h3
    obtain ⟨hidf, rfl⟩ := h3
    have hA := hc g xs emptyMem x m' h1 (fun x0 m0 => x0 = x ∧ m0 = m') ⟨rfl, rfl⟩
    have hrm0 : ∀ (S : Nat → Nat → Prop) (w : World), (∀ b off, S b off → b < w.heap.size) → RM S μ0 w emptyMem := fun S w hold => ⟨fun o ob h => by simp [Mem.find, lk, emptyMem] at h, fun o o' ob ob' h => by simp [Mem.find, lk, emptyMem] at h, hold, fun _ _ => rfl, fun o _ h => by simp [emptyMem] at h, Nat.le_refl _, fun o b bo h => by simp [μ0] at h⟩
    refine ⟨hx, hidf, hA.1, fun S w vs hold hG hxs => ?_⟩
    refine (hA.2 S μ0 w vs (hrm0 S w hold) hG hxs).mono fun e w' he => ?_
    obtain ⟨v, x0, m0, S', μ', rfl, _, _, hrm, hX, hrep, rfl, rfl⟩ := he
    refine ⟨v, (fun b off => S b off ∨ (w.heap.size ≤ b ∧ b < w'.heap.size)), rfl, ⟨hX.os, hX.tape, hX.output, hX.size, fun b off h => .inl h, fun b off hb h => ?_, fun b off h => ?_, fun b hb => ?_, hX.uf⟩, ?_⟩
    · rcases h with h | h
      · exact h
      · omega
    · rcases h with h | h
      · have := hold _ _ h; have := hX.size; omega
      · exact h.2
    · exact (hX.blk b hb owned_nil).1
    · refine (snap_repX hrm (fun b off hs => ?_) (fun b ho off => ?_) 12 (unf x0) y ids v h2 (unf_rep hrep)).2
      · rcases Nat.lt_or_ge b w.heap.size with hlt | hge
        · rcases hX.new b off hlt hs with h | h
          · exact .inl h
          · exact absurd h owned_nil
        · exact .inr ⟨hge, hrm.old _ _ hs⟩
      · rcases Nat.lt_or_ge b w.heap.size with hlt | hge
        · exact absurd (Or.inl ho) (hX.blk b hlt owned_nil).2
        · obtain ⟨o, ob, bo, _, _, h⟩ := ho
          exact .inr ⟨hge, hrm.bk _ _ _ h⟩
  · cases h

theorem PNew.of_run {call : CallF} (hc : CallOK P γ call) {g : FuncId} {xs : List AV} {r : AV} (h : pN call g xs = some r) : PNew P γ g xs r := by
  unfold pN at h
  split at h
  · rename_i hx
    simp only [Option.bind_eq_some_iff] at h
    obtain ⟨⟨x, m'⟩, h1, y, h2, h3⟩ := h
    simp only [Option.ite_none_right_eq_some, Option.some.injEq] at h3
    obtain ⟨hidf, rfl⟩ := h3
    exact PNew.of hx hidf (hc g xs emptyMem x m' h1 (fun y0 m => snapN m.find 12 (unf y0) = some y) h2)
  · cases h
theorem cc_ok {call : CallF} (hc : CallOK P γ call) {g : FuncId} {xs : List AV} {m m' : Mem} {x : AV} (h : cc call g xs m = some (x, m')) {K : AV → Mem → Prop} (hK : K x m') : ACalls P γ g xs m K := by
  unfold cc at h
  split at h
  · rename_i p hp
    simp only [Option.some.injEq] at h
    subst h
    exact hc _ _ _ _ _ hp _ hK
  · split at h
    · rename_i p hp
      simp only [Option.map_eq_some_iff, Prod.mk.injEq] at h
      obtain ⟨r, h1, rfl, rfl⟩ := h
      exact Fit.use (.inr (PNew.of_run hc h1)) hp hK
    · cases h
theorem rC_ok {call : CallF} (hc : CallOK P γ call) {r : Option (FuncId × List AV × List AV)} {args : List AV} {dst : Option Nat} {σ σ' : St} {K : St → Prop} (h : rC call r args dst σ = some σ') (hK : K σ') : evC P γ r args dst σ K := by
  unfold rC at h
  split at h
  · rename_i g a c
    split at h
    · rename_i hd
      simp only [Option.map_eq_some_iff] at h
      obtain ⟨⟨x, m'⟩, h1, rfl⟩ := h
      exact ⟨dstB_ok hd, cc_ok hc h1 hK⟩
    · cases h
  · cases h
theorem rNx_ok {o : Nat} {ob : Option AObj} {dst : Option Nat} {σ σ' : St} {K : St → Prop} (h : rNx o dst σ ob = some σ') (hK : K σ') : evNx o dst σ K ob := by
  unfold rNx at h
  unfold evNx
  split at h
  · split at h
    · rename_i hd
      simp only [Option.some.injEq] at h
      subst h
      exact ⟨dstB_ok hd, fun _ => hK, fun i k x hk _ => by simp at hk⟩
    · cases h
  · rename_i k x
    split at h
    · rename_i hd
      simp only [Option.some.injEq] at h
      subst h
      refine ⟨dstB_ok hd, fun h => absurd h (by simp), fun i k' x' hk hx => ?_⟩
      cases i with
      | zero => simp at hk hx; subst hk; subst hx; exact hK
      | succ i => simp at hk
    · cases h
  · cases h
theorem rNext_ok {x : AV} {b : Bool} {dst : Option Nat} {σ σ' : St} {K : St → Prop} (h : rNext x b dst σ = some σ') (hK : K σ') : evNext x b dst σ K := by
  cases x with
  | it o => cases b with
    | false => exact rNx_ok h hK
    | true => cases h
  | _ => cases h
theorem rN_ok {r : Option Nat} {neg : Bool} {dst : Option Nat} {σ σ' : St} {K : St → Prop} {x : Option St} {y : Prop} (hxy : x = some σ' → y) (h : rN r neg dst σ x = some σ') (hK : K σ') : evN r neg dst σ K y := by
  unfold rN at h
  split at h
  · rename_i n
    split at h
    · rename_i hd
      simp only [Bool.and_eq_true, decide_eq_true_eq] at hd
      simp only [Option.some.injEq] at h
      subst h
      exact ⟨dstB_ok hd.1, fun e => (hd.2 e).elim, hK⟩
    · cases h
  · exact hxy h
theorem rO_plain {call : CallF} {dst : Option Nat} {op : Op} {ty : TypeId} {pos : String} {after : Array Edge} {gd : Option (Nat × Bool)} {σ : St} (h : plainOp op = true) : rO P γ call ⟨dst, op, ty, pos, after, gd⟩ σ = rS (stepF P (rho γ σ.env) σ.mem.find (freshOf σ.mem dst) op) dst σ := by
  unfold rO
  split
  · rename_i f args ts e; simp only at e; subst e; simp [plainOp] at h
  · rename_i e; simp only at e; subst e; simp [plainOp] at h
  · rename_i e; simp only at e; subst e; simp [plainOp] at h
  · rename_i e; simp only at e; subst e; simp [plainOp] at h
  · rfl
theorem rDO_plain {call : CallF} {all : Array Oper} {i : Nat} {log : Log} {dst : Option Nat} {op : Op} {ty : TypeId} {pos : String} {after : Array Edge} {gd : Option (Nat × Bool)} {σ : St} (h : callOp op = false) : rDO P γ call all i log ⟨dst, op, ty, pos, after, gd⟩ σ = rDS all i (fpOf γ σ.env op) log (stepF P (rho γ σ.env) σ.mem.find (freshOf σ.mem dst) op) dst σ := by
  unfold rDO
  split
  · rename_i f args ts e; simp only at e; subst e; simp [callOp] at h
  · rfl
theorem rO_ok {call : CallF} (hc : CallOK P γ call) {o : Oper} {σ σ' : St} {K : St → Prop} (h : rO P γ call o σ = some σ') (hK : K σ') : evO P γ o σ K := by
  obtain ⟨dst, op, ty, pos, after, guard⟩ := o
  cases op with
  | call c =>
    obtain ⟨callee, args, ts⟩ := c
    cases callee with
    | value f => exact rC_ok hc h hK
    | builtin b => rw [rO_plain rfl] at h; obtain ⟨env, m⟩ := σ; rw [evO_plain rfl]; exact rS_ok h hK
    | invoke r q => simp [rO, rS, stepF, stepF0] at h
  | binOp b t x y yT =>
    cases b with
    | eql => exact rN_ok (fun h => rS_ok h hK) h hK
    | neq => exact rN_ok (fun h => rS_ok h hK) h hK
    | _ => rw [rO_plain rfl] at h; obtain ⟨env, m⟩ := σ; rw [evO_plain rfl]; exact rS_ok h hK
  | next x b => exact rNext_ok h hK
  | go c => simp [rO, rS, stepF, stepF0] at h
  | defer c => simp [rO, rS, stepF, stepF0] at h
  | _ => rw [rO_plain rfl] at h; obtain ⟨env, m⟩ := σ; rw [evO_plain rfl]; exact rS_ok h hK

theorem boolA_ev {r : Option AV} {b want : Bool} {yes no : Prop} (h : r.bind boolA = some b) (hy : b = want → yes) (hn : b = (!want) → no) : evB r want yes no := by
  unfold evB
  rw [h]
  exact ⟨hy, hn⟩

theorem rG_ok {call : CallF} (hc : CallOK P γ call) {all : Array Oper} {o : Oper} {σ σ' : St} {K : St → Prop} (h : rG P γ call all o σ = some σ') (hK : K σ') : evG P γ all o σ K := by
  unfold rG at h
  unfold evG
  cases hg : o.guard with
  | none =>
    rw [hg] at h
    exact rO_ok hc h hK
  | some p =>
    obtain ⟨j, want⟩ := p
    rw [hg] at h
    simp only at h ⊢
    cases hd : (all[j]?).bind (·.dst) with
    | none => rw [hd] at h; cases h
    | some d =>
      rw [hd] at h
      simp only at h ⊢
      cases hsk : skipA (lk σ.env d) with
      | true =>
        rw [hsk] at h
        simp only [if_true, Option.some.injEq] at h
        subst h
        exact hK
      | false =>
      rw [hsk] at h
      simp only [Bool.false_eq_true, if_false] at h
      show evB _ _ _ _
      cases hb : (lk σ.env d).bind boolA with
      | none => rw [hb] at h; cases h
      | some b =>
        rw [hb] at h
        simp only at h
        split at h
        · rename_i e
          subst e
          exact boolA_ev hb (fun _ => rO_ok hc h hK) (fun e => by cases b <;> cases e)
        · rename_i e
          simp only [Option.some.injEq] at h
          subst h
          exact boolA_ev hb (fun e' => (e e').elim) (fun _ => hK)

theorem rL_ok {call : CallF} (hc : CallOK P γ call) {n0 N : Nat} {all : Array Oper} {k : List KI} : ∀ {l : List Oper} {σ σ' : St}, rL P γ call all l σ = some σ' → ev P γ n0 N k σ' → ev P γ n0 N (.ops all l :: k) σ
  | [], σ, σ', h, hK => by
    simp only [rL, Option.some.injEq] at h
    subst h
    rw [ev]; exact hK
  | o :: l, σ, σ', h, hK => by
    simp only [rL, Option.bind_eq_some_iff] at h
    obtain ⟨σ1, h1, h2⟩ := h
    rw [ev]
    exact rG_ok hc h1 (rL_ok hc h2 hK)

theorem rDS_ok {all : Array Oper} {i : Nat} {fp : List Nat} {log : Log} {r : Option (AV × Upd)} {dst : Option Nat} {σ : St} {p : Log × St} {K : Log → St → Prop} (h : rDS all i fp log r dst σ = some p) (hK : K p.1 p.2) : evDS all i fp log r dst σ K := by
  unfold rDS at h
  split at h
  · simp only [fA_eq, fU_eq, fS_eq] at h
    split at h
    · rename_i hc
      simp only [Bool.and_eq_true] at hc
      simp only [Option.some.injEq] at h
      subst h
      exact ⟨dstB_ok hc.1.1, hc.1.2, hc.2, hK⟩
    · cases h
  · cases h
theorem rDC2_ok {call : CallF} (hc : CallOK P γ call) {all : Array Oper} {i : Nat} {log : Log} {g : FuncId} {r : Option (List AV × List Nat)} {dst : Option Nat} {σ : St} {p : Log × St} {K : Log → St → Prop} (h : rDC2 call all i log g r dst σ = some p) (hK : K p.1 p.2) : evDC2 P γ all i log g r dst σ K := by
  unfold rDC2 at h
  split at h
  · rename_i xs ids
    split at h
    · rename_i hd
      simp only [Bool.and_eq_true] at hd
      split at h
      · rename_i r hr
        simp only [Option.some.injEq] at h
        subst h
        exact ⟨dstB_ok hd.1, .inl ⟨hd.2, r, .inr (PNew.of_run hc hr), hK⟩⟩
      · split at h
        · rename_i r hr
          split at h
          · rename_i hs
            simp only [Option.some.injEq] at h
            subst h
            refine ⟨dstB_ok hd.1, .inl ⟨hd.2, r, .inl ⟨PCall.of_run hc hr, ?_⟩, hK⟩⟩
            simpa [Bool.or_eq_true, List.isEmpty_iff] using hs
          · cases h
        · cases h
    · cases h
  · cases h
theorem rDO_ok {call : CallF} (hc : CallOK P γ call) {all : Array Oper} {i : Nat} {log : Log} {o : Oper} {σ : St} {p : Log × St} {K : Log → St → Prop} (h : rDO P γ call all i log o σ = some p) (hK : K p.1 p.2) : evDO P γ all i log o σ K := by
  obtain ⟨dst, op, ty, pos, after, guard⟩ := o
  cases op with
  | call c =>
    obtain ⟨callee, args, ts⟩ := c
    cases callee with
    | value f =>
      have h' : rDC call all i log (calleeOf (rho γ σ.env f)) (args.toList.map (rho γ σ.env)) dst σ = some p := h
      show evDC P γ all i log (calleeOf (rho γ σ.env f)) (args.toList.map (rho γ σ.env)) dst σ K
      unfold rDC at h'
      unfold evDC
      cases hcf : calleeOf (rho γ σ.env f) with
      | none => rw [hcf] at h'; cases h'
      | some q =>
        obtain ⟨g, a, c⟩ := q
        rw [hcf] at h'
        exact rDC2_ok hc h' hK
    | _ => rw [rDO_plain rfl] at h; obtain ⟨env, m⟩ := σ; rw [evDO_plain rfl]; exact rDS_ok h hK
  | _ => rw [rDO_plain rfl] at h; obtain ⟨env, m⟩ := σ; rw [evDO_plain rfl]; exact rDS_ok h hK
theorem rDG_ok {call : CallF} (hc : CallOK P γ call) {all : Array Oper} {i : Nat} {log : Log} {o : Oper} {σ : St} {p : Log × St} {K : Log → St → Prop} (h : rDG P γ call all i log o σ = some p) (hK : K p.1 p.2) : evDG P γ all i log o σ K := by
  unfold rDG at h
  unfold evDG
  cases hg : o.guard with
  | none =>
    rw [hg] at h
    exact rDO_ok hc h hK
  | some q =>
    obtain ⟨j, want⟩ := q
    rw [hg] at h
    simp only at h ⊢
    cases hd : (all[j]?).bind (·.dst) with
    | none => rw [hd] at h; cases h
    | some d =>
      rw [hd] at h
      simp only at h ⊢
      cases hsk : skipA (lk σ.env d) with
      | true =>
        rw [hsk] at h
        simp only [if_true, Option.some.injEq] at h
        subst h
        exact hK
      | false =>
      rw [hsk] at h
      simp only [Bool.false_eq_true, if_false] at h
      show evB _ _ _ _
      cases hb : (lk σ.env d).bind boolA with
      | none => rw [hb] at h; cases h
      | some b =>
        rw [hb] at h
        simp only at h
        split at h
        · rename_i e
          subst e
          exact boolA_ev hb (fun _ => rDO_ok hc h hK) (fun e => by cases b <;> cases e)
        · rename_i e
          simp only [Option.some.injEq] at h
          subst h
          exact boolA_ev hb (fun e' => (e e').elim) (fun _ => hK)
theorem rDL_ok {call : CallF} (hc : CallOK P γ call) {all : Array Oper} {K : St → Prop} : ∀ {l : List Oper} {i : Nat} {log : Log} {σ σ' : St}, rDL P γ call all i l log σ = some σ' → K σ' → evDL P γ all i l K log σ
  | [], i, log, σ, σ', h, hK => by
    simp only [rDL, Option.some.injEq] at h
    subst h
    exact hK
  | o :: l, i, log, σ, σ', h, hK => by
    simp only [rDL, Option.bind_eq_some_iff] at h
    obtain ⟨p, h1, h2⟩ := h
    exact rDG_ok hc h1 (rDL_ok hc h2 hK)

/-- A stack of a run, and one of the evaluator. -/
def Rel (P : Program) (γ : GTab) (call : CallF) (lv : Option (List Nat)) (n0 N : Nat) (σf : St) (n : Nat) : List RI → List KI → Prop
  | [], k' => ∃ Q : Exit → St → Prop, k' = [.fin Q] ∧ Q .normal σf ∧ Q .ret σf
  | .code c :: k, k' => ∃ k'', k' = .code c :: k'' ∧ Rel P γ call lv n0 N σf n k k''
  | .blk id :: k, k' => ∃ k'', k' = .blk id :: k'' ∧ Rel P γ call lv n0 N σf n k k''
  | .scp :: k, k' => ∃ k'', k' = .scp :: k'' ∧ Rel P γ call lv n0 N σf n k k''
  | .lp c :: k, k' => ∃ J k'', k' = .lp J :: k'' ∧ (∀ j, j ≤ n → ∀ σ, rk P γ call lv n0 N j (.lp c :: k) σ = some σf → J σ) ∧ Rel P γ call lv n0 N σf n k k''

theorem Rel.le {call : CallF} {lv : Option (List Nat)} {n0 N : Nat} {σf : St} {n j : Nat} (hj : j ≤ n) : ∀ {k : List RI} {k' : List KI}, Rel P γ call lv n0 N σf n k k' → Rel P γ call lv n0 N σf j k k'
  | [], _, h => h
  | .code c :: k, _, ⟨k'', h1, h2⟩ => ⟨k'', h1, h2.le hj⟩
  | .blk c :: k, _, ⟨k'', h1, h2⟩ => ⟨k'', h1, h2.le hj⟩
  | .scp :: k, _, ⟨k'', h1, h2⟩ => ⟨k'', h1, h2.le hj⟩
  | .lp c :: k, _, ⟨J, k'', h1, h2, h3⟩ => ⟨J, k'', h1, fun i hi => h2 i (by omega), h3.le hj⟩

theorem Rel.exit {call : CallF} {lv : Option (List Nat)} {n0 N : Nat} {σf : St} {n id : Nat} : ∀ {k k1 : List RI} {k' : List KI}, Rel P γ call lv n0 N σf n k k' → exitR id k = some k1 → ∃ k1', exitK id k' = some k1' ∧ Rel P γ call lv n0 N σf n k1 k1'
  | [], _, _, h, he => by simp [exitR] at he
  | .code c :: k, _, _, ⟨k'', h1, h2⟩, he => by subst h1; exact h2.exit he
  | .blk c :: k, _, _, ⟨k'', h1, h2⟩, he => by
    subst h1
    simp only [exitR] at he
    simp only [exitK]
    split at he
    · rename_i e
      simp only [Option.some.injEq] at he
      subst he
      rw [if_pos e]
      exact ⟨_, rfl, h2⟩
    · rename_i e
      rw [if_neg e]
      exact h2.exit he
  | .scp :: k, _, _, ⟨k'', h1, h2⟩, he => by subst h1; exact h2.exit he
  | .lp c :: k, _, _, ⟨J, k'', h1, h2, h3⟩, he => by subst h1; exact h3.exit he

theorem Rel.ret {call : CallF} {lv : Option (List Nat)} {n0 N : Nat} {σf : St} {n : Nat} : ∀ {k : List RI} {k' : List KI}, Rel P γ call lv n0 N σf n k k' → ∃ Q, retK k' = some Q ∧ Q .ret σf
  | [], _, ⟨Q, h1, h2, h3⟩ => by subst h1; exact ⟨Q, rfl, h3⟩
  | .code c :: k, _, ⟨k'', h1, h2⟩ => by subst h1; exact h2.ret
  | .blk c :: k, _, ⟨k'', h1, h2⟩ => by subst h1; exact h2.ret
  | .scp :: k, _, ⟨k'', h1, h2⟩ => by subst h1; exact h2.ret
  | .lp c :: k, _, ⟨J, k'', h1, h2, h3⟩ => by subst h1; exact h3.ret

theorem Ent.refl {n0 : Nat} {σ : St} (h : headOK n0 σ = true) : Ent n0 σ σ := by
  simp only [headOK, Bool.and_eq_true, decide_eq_true_eq] at h
  intro S μ w a hr henv
  exact ⟨S, μ, hr, henv, fun _ _ h => h, fun _ _ h => .inl h, fun _ _ => rfl, fun _ _ h => h, h.2, h.1, fun _ h => h⟩

theorem Ent.nrm {lv : Option (List Nat)} {n0 : Nat} {σ : St} (h : headOK n0 σ = true) : Ent n0 σ (nrmS lv n0 σ) := by
  cases lv with
  | none => exact Ent.refl h
  | some l =>
    simp only [headOK, Bool.and_eq_true, decide_eq_true_eq] at h
    have e1 : ∀ t x, lk (nrmS (some l) n0 σ).env t = some x → lk σ.env t = some x := fun t x hx => by
      simp only [nrmS, Go.AW.nrm, fS_eq, fN_eq, id] at hx; exact selE_spec hx
    have e2 : ∀ o x, (nrmS (some l) n0 σ).mem.find o = some x → σ.mem.find o = some x := fun o x hx => by
      simp only [nrmS, Go.AW.nrm, fS_eq, fN_eq, id, Mem.find] at hx; exact (ddO_spec hx).2
    have e3 : (nrmS (some l) n0 σ).mem.next = σ.mem.next := by simp only [nrmS, Go.AW.nrm, fS_eq, fN_eq, id]
    have e4 : (nrmS (some l) n0 σ).mem.base = σ.mem.base := by simp only [nrmS, Go.AW.nrm, fS_eq, fN_eq, id]
    have e5 : (nrmS (some l) n0 σ).mem.wid = σ.mem.wid := by simp only [nrmS, Go.AW.nrm, fS_eq, fN_eq, id]
    intro S μ w a hr henv
    refine ⟨S, μ, ⟨fun o ob ho => ?_, fun o o' ob ob' h1 h2 => hr.inj o o' ob ob' (e2 _ _ h1) (e2 _ _ h2), hr.old, fun o ho => hr.fr o (by rwa [e3] at ho), fun o h1 h2 => ?_, by rw [e3, e4, e5]; exact hr.le, hr.bk⟩, fun t x hx => henv t x (e1 t x hx), fun _ _ h => h, fun _ _ h => .inl h, fun _ _ => rfl, fun o _ ho => ?_, by rw [e4]; exact h.2, by rw [e5]; exact h.1, fun b hb => hb.imp (fun ⟨o, ob, bo, h1, h2⟩ => ⟨o, ob, bo, e2 _ _ h1, h2⟩) (fun ⟨o, b0, code, h1, h2⟩ => ⟨o, b0, code, e2 _ _ h1, h2⟩)⟩
    · rw [e3]; exact hr.obj o ob (e2 _ _ ho)
    · rw [e4, e5] at h2; rw [e4] at h1; have := h.1; omega
    · obtain ⟨x, hx⟩ := Option.ne_none_iff_exists'.1 ho
      rw [e2 _ _ hx]; simp

theorem rk_ok {call : CallF} (hc : CallOK P γ call) {lv : Option (List Nat)} {n0 N : Nat} {σf : St} : ∀ (n : Nat) (k : List RI) (k' : List KI) (σ : St), Rel P γ call lv n0 N σf n k k' → rk P γ call lv n0 N n k σ = some σf → ev P γ n0 N k' σ := by
  intro n
  induction n using Nat.strongRecOn with
  | _ n ih =>
    intro k k' σ hR h
    cases n with
    | zero => simp [rk] at h
    | succ n =>
      have hle : n ≤ n + 1 := Nat.le_succ n
      have ih' := fun k k' σ => ih n (Nat.lt_succ_self n) k k' σ
      cases k with
      | nil =>
        simp only [rk, Option.some.injEq] at h
        subst h
        obtain ⟨Q, h1, h2, _⟩ := hR
        subst h1
        rw [ev]; exact h2
      | cons i k =>
        cases i with
        | blk id =>
          obtain ⟨k'', h1, h2⟩ := hR
          subst h1
          rw [ev]
          exact ih' _ _ _ (h2.le hle) h
        | scp =>
          obtain ⟨k'', h1, h2⟩ := hR
          subst h1
          rw [ev]
          exact ih' _ _ _ (h2.le hle) h
        | lp c =>
          obtain ⟨J, k'', h1, h2, h3⟩ := hR
          subst h1
          rw [ev]
          exact h2 _ (Nat.le_refl _) σ h
        | code c =>
          obtain ⟨k'', h1, h2⟩ := hR
          subst h1
          cases c with
          | region id ops draw =>
            cases draw with
            | false =>
              simp only [rk, Option.bind_eq_some_iff] at h
              obtain ⟨σ1, h3, h4⟩ := h
              rw [ev]
              exact rL_ok hc (by rw [rLq_eq] at h3; exact h3) (ih' _ _ _ (h2.le hle) h4)
            | true =>
              simp only [rk, Option.bind_eq_some_iff] at h
              obtain ⟨σ1, h3, h4⟩ := h
              rw [ev]
              exact rDL_ok hc (by rw [rDLq_eq] at h3; exact h3) (ih' _ _ _ (h2.le hle) h4)
          | seq a b =>
            rw [ev]
            exact ih' (.code a :: .code b :: k) _ _ ⟨_, rfl, _, rfl, h2.le hle⟩ h
          | cond c a b =>
            simp only [rk, rhoF_eq] at h
            rw [ev]
            split at h
            · rename_i hb
              exact boolA_ev hb (fun _ => ih' (.code a :: k) _ _ ⟨_, rfl, h2.le hle⟩ h) (fun e => by cases e)
            · rename_i hb
              exact boolA_ev hb (fun e => by cases e) (fun _ => ih' (.code b :: k) _ _ ⟨_, rfl, h2.le hle⟩ h)
            · cases h
          | block id c =>
            rw [ev]
            exact ih' (.code c :: .blk id :: k) _ _ ⟨_, rfl, _, rfl, h2.le hle⟩ h
          | loop c =>
            simp only [rk] at h
            split at h
            · rename_i hh
              rw [nrm_eq] at h
              refine ev_loopI (ι := Nat × St) Prod.snd (fun p => p.1 ≤ n ∧ rk P γ call lv n0 N p.1 (.code c :: .lp c :: k) p.2 = some σf) Prod.fst (n, nrmS lv n0 σ) ⟨Nat.le_refl _, h⟩ (Ent.nrm hh) ?_
              rintro ⟨j, τ⟩ ⟨hj, hr⟩
              refine ih j (by omega) (.code c :: .lp c :: k) _ _ ⟨_, rfl, _, _, rfl, fun q hq σ1 hs => ?_, h2.le (by omega)⟩ hr
              cases q with
              | zero => simp [rk] at hs
              | succ q =>
                simp only [rk] at hs
                split at hs
                · rename_i hh1
                  rw [nrm_eq] at hs
                  exact ⟨(q, nrmS lv n0 σ1), ⟨by show q ≤ n; omega, hs⟩, by show q < j; omega, Ent.nrm hh1⟩
                · cases hs
            · cases h
          | exit id =>
            simp only [rk] at h
            split at h
            · rename_i k1 hk
              obtain ⟨k1', h3, h4⟩ := h2.exit hk
              rw [ev_exit h3]
              exact ih' _ _ _ (h4.le hle) h
            · cases h
          | scope c =>
            rw [ev]
            exact ih' (.code c :: .scp :: k) _ _ ⟨_, rfl, _, rfl, h2.le hle⟩ h
          | label l =>
            rw [ev]
            exact ih' _ _ _ (h2.le hle) h
          | skip =>
            rw [ev]
            exact ih' _ _ _ (h2.le hle) h
          | ret =>
            simp only [rk, Option.some.injEq] at h
            subst h
            obtain ⟨Q, h3, h4⟩ := h2.ret
            rw [ev_ret, h3]
            exact h4
          | _ => simp [rk] at h

theorem rc_ok (hm : P.follows .mixedOrders = true) (fuel : Nat) : ∀ d, CallOK P γ (rc P γ fuel d)
  | 0 => fun g xs m x m' h => by simp [rc] at h
  | d + 1 => fun g xs m x m' h K hK => by
    simp only [rc] at h
    unfold rcF at h
    split at h
    · rename_i fn hf
      split at h
      · rename_i c hb
        split at h
        · rename_i hcc
          split at h
          · rename_i σ hr
            split at h
            · rename_i y hy
              split at h
              · rename_i hk
                simp only [Option.some.injEq, Prod.mk.injEq] at h
                obtain ⟨rfl, rfl⟩ := h
                refine ACalls.enter hf hb hcc.1 hm hcc.2 (rk_ok (rc_ok hm fuel d) fuel [.code c] _ _ ⟨_, rfl, _, rfl, ?_, ?_⟩ hr)
                · exact ⟨y, hy, hk, hK⟩
                · exact ⟨y, hy, hk, hK⟩
              · cases h
            · cases h
          · cases h
        · cases h
      · cases h
    · cases h

/-- A CLOSED CALL: what the kernel finds is so. -/
theorem PCall.closed (fuel d : Nat) (hm : P.follows .mixedOrders = true) {g : FuncId} {xs : List AV} {r : AV} (h : pC (rc P γ fuel d) g xs = some r) : PCall P γ g xs r := PCall.of_run (rc_ok hm fuel d) h
theorem ACalls.closed (fuel d : Nat) (hm : P.follows .mixedOrders = true) {g : FuncId} {xs : List AV} {m m' : Mem} {x : AV} {K : AV → Mem → Prop} (h : rc P γ fuel d g xs m = some (x, m')) (hK : K x m') : ACalls P γ g xs m K := rc_ok hm fuel d g xs m x m' h K hK

end Go.AW
namespace Go.AW
variable {P : Program} {γ : GTab} {t : TypeId} {env : List (Nat × AV)} {m : Mem} {dst : Option Nat} {find : Nat → Option AObj}

/-! Aggregates. -/
def placesA (P : Program) (fs : Option (List (Nat × TypeId))) (ar : Option (Nat × TypeId)) : Option (Nat → Option (Nat × Nat)) := match fs, ar with
  | some fs, _ => if fs.all (fun f => tok P f.2) then some fun i => (fs[i]?).map fun f => (f.1, tsz P f.2) else none
  | none, some (_, e) => if tok P e then some fun i => some (i * tsz P e, tsz P e) else none
  | _, _ => none
def buildA (z : Option (List Value)) (pl : Option (Nat → Option (Nat × Nat))) (ps : List (Nat × AV)) : Option (AV × Upd) := match z, pl with
  | some zs, some pl => (fillA pl (zs.map .v) ps).map fun cs => (.agg cs, [])
  | _, _ => none
theorem stepE_build {parts : List (Nat × Operand)} : stepE P γ env m dst (.build t parts.toArray) = buildA (tz P t) (placesA P (tflds P t) (tarr P t)) (parts.map fun p => (p.1, unf (rho γ env p.2))) := by
  simp only [stepE, stepF, stepF0, buildA, placesF, placesA]
  rfl
theorem placesA_s {fs : List (Nat × TypeId)} {ar : Option (Nat × TypeId)} : placesA P (some fs) ar = if fs.all (fun f => tok P f.2) then some fun i => (fs[i]?).map fun f => (f.1, tsz P f.2) else none := (rfl)
theorem placesA_a {n : Nat} {e : TypeId} : placesA P none (some (n, e)) = if tok P e then some fun i => some (i * tsz P e, tsz P e) else none := (rfl)
theorem buildA_some {zs : List Value} {pl : Nat → Option (Nat × Nat)} {ps : List (Nat × AV)} : buildA (some zs) (some pl) ps = (fillA pl (zs.map .v) ps).map fun cs => (.agg cs, []) := (rfl)
def fieldA (P : Program) (fs : Option (List (Nat × TypeId))) (f : Nat) (x : AV) : Option (AV × Upd) := match fs with
    | some fs => match fs[f]?, x with
      | some fl, .agg xs => if tok P fl.2 then (partA P fl.2 xs fl.1).map fun x => (x, []) else none
      | _, _ => none
    | none => none
theorem stepE_field {x : Operand} {f : Nat} : stepE P γ env m dst (.field t x f) = fieldA P (tflds P t) f (unf (rho γ env x)) := (rfl)
theorem fieldA_agg {fs : List (Nat × TypeId)} {f : Nat} {xs : List AV} : fieldA P (some fs) f (.agg xs) = (fs[f]?).bind fun fl => if tok P fl.2 then (partA P fl.2 xs fl.1).map fun x => (x, []) else none := by
  simp only [fieldA]; cases fs[f]? <;> rfl
def extractA (i : Nat) : AV → Option (AV × Upd)
  | .tup xs => (xs[i]?).map fun x => (x, [])
  | _ => none
theorem stepE_extract {x : Operand} {i : Nat} : stepE P γ env m dst (.extract x i) = extractA i (unf (rho γ env x)) := by
  simp only [stepE, stepF, stepF0, extractA]
  cases unf (rho γ env x) <;> rfl
theorem extractA_tup {i : Nat} {xs : List AV} : extractA i (.tup xs) = (xs[i]?).map fun x => (x, []) := (rfl)

/-! Maps. -/
def mapO : Option AObj → Option (Option KT × List Value × List AV)
  | some (.map kt ks xs) => some (some kt, ks, xs)
  | _ => none
theorem mapOf_mp {o : Nat} : mapOf find (.mp o) = mapO (find o) := (rfl)
theorem mapOf_mv {kt : KT} {ks : List Value} {xs : List AV} : mapOf find (.mv kt ks xs) = some (some kt, ks, xs) := (rfl)
theorem mapOf_nil : mapOf find (.v (.map none)) = some (none, [], []) := (rfl)
theorem mapO_map {kt : KT} {ks : List Value} {xs : List AV} : mapO (some (.map kt ks xs)) = some (some kt, ks, xs) := (rfl)
def lookupB (kT : Option KT) (kt : Option KT) (ks : List Value) (xs : List AV) (key : Value) (z : Option AV) (ok : Bool) : Option AV := match kT with
  | some kt' => if (kt = none ∨ kt = some kt') ∧ kwf kt' key then
        match z with
        | some z => some (if ok then .tup [(mget ks xs key).getD z, .v (.bool (mget ks xs key).isSome)] else (mget ks xs key).getD z)
        | none => none
      else none
  | none => none
def lookupA (P : Program) (tm : Option (TypeId × TypeId)) (mo : Option (Option KT × List Value × List AV)) (k : Option Value) (ok : Bool) : Option AV := match tm, mo, k with
  | some (kT, e), some (kt, ks, xs), some key => lookupB (tkt P kT) kt ks xs key (zAV P e) ok
  | _, _, _ => none
theorem stepE_lookup {x k : Operand} {ok : Bool} : stepE P γ env m dst (.lookup t x k ok) = (lookupA P (tmap P t) (mapOf m.find (unf (rho γ env x))) (unf (rho γ env k)).val? ok).map fun x => (x, []) := (rfl)
theorem lookupA_some {kT e : TypeId} {kt : Option KT} {ks : List Value} {xs : List AV} {key : Value} {ok : Bool} : lookupA P (some (kT, e)) (some (kt, ks, xs)) (some key) ok = lookupB (tkt P kT) kt ks xs key (zAV P e) ok := (rfl)
theorem lookupB_f {kt' : KT} {kt : Option KT} {ks : List Value} {xs : List AV} {key : Value} {z : AV} : lookupB (some kt') kt ks xs key (some z) false = if (kt = none ∨ kt = some kt') ∧ kwf kt' key then some ((mget ks xs key).getD z) else none := (rfl)
theorem lookupB_t {kt' : KT} {kt : Option KT} {ks : List Value} {xs : List AV} {key : Value} {z : AV} : lookupB (some kt') kt ks xs key (some z) true = if (kt = none ∨ kt = some kt') ∧ kwf kt' key then some (.tup [(mget ks xs key).getD z, .v (.bool (mget ks xs key).isSome)]) else none := (rfl)
def mapUpdA (P : Program) (o : Nat) (tm : Option (TypeId × TypeId)) (k : Option Value) (x : AV) (ob : Option AObj) : Option Upd := match tm, k, ob with
  | some (kT, _), some key, some (.map kt ks xs) => if tkt P kT = some kt ∧ kwf kt key then some [(o, .map kt (if mhas ks key then ks else ks ++ [key]) (mset ks xs key x))] else none
  | _, _, _ => none
def mapUpdM (P : Program) (find : Nat → Option AObj) (tm : Option (TypeId × TypeId)) (k : Option Value) (x m : AV) : Option Upd := match m with
  | .mp o => mapUpdA P o tm k x (find o)
  | _ => none
theorem stepE_mapUpdate {x k y : Operand} : stepE P γ env m dst (.mapUpdate t x k y) = (mapUpdM P m.find (tmap P t) (unf (rho γ env k)).val? (unf (rho γ env y)) (unf (rho γ env x))).map fun u => (.v undef, u) := by
  simp only [stepE, stepF, stepF0, mapUpdF, mapUpdM, mapUpdA]
  cases unf (rho γ env x) <;> try rfl
  cases tmap P t <;> try rfl
  cases (unf (rho γ env k)).val? <;> try rfl
  simp only
  rename_i o _ _
  cases m.find o <;> try rfl
  rename_i ob
  cases ob <;> rfl
theorem mapUpdM_mp {o : Nat} {tm : Option (TypeId × TypeId)} {k : Option Value} {x : AV} : mapUpdM P find tm k x (.mp o) = mapUpdA P o tm k x (find o) := (rfl)
theorem mapUpdA_some {o : Nat} {kT e : TypeId} {key : Value} {x : AV} {kt : KT} {ks : List Value} {xs : List AV} : mapUpdA P o (some (kT, e)) (some key) x (some (.map kt ks xs)) = if tkt P kT = some kt ∧ kwf kt key then some [(o, .map kt (if mhas ks key then ks else ks ++ [key]) (mset ks xs key x))] else none := (rfl)
def makeMapA (P : Program) (fresh : Nat) (tm : Option (TypeId × TypeId)) : Option (AV × Upd) := match tm with
  | some (kT, _) => match tkt P kT with
      | some kt => some (.mp fresh, [(fresh, .map kt [] [])])
      | none => none
  | none => none
theorem stepE_makeMap : stepE P γ env m dst (.makeMap t none) = makeMapA P (freshOf m dst) (tmap P t) := by
  simp only [stepE, stepF, stepF0, makeMapA]
  cases tmap P t with
  | none => rfl
  | some p => simp only; cases tkt P p.1 <;> rfl
def isIntB : AV → Bool
  | .v (.int _ _) => true
  | _ => false
theorem stepE_makeMapR {h : Operand} : stepE P γ env m dst (.makeMap t (some h)) = if isIntB (unf (rho γ env h)) = true then makeMapA P (freshOf m dst) (tmap P t) else none := by
  have key : ∀ (y : AV), (match tmap P t with
    | some (kT, _) => match tkt P kT, (match y with | .v (.int _ _) => true | _ => false) with
      | some kt, true => some (.mp (freshOf m dst), [(freshOf m dst, .map kt [] [])])
      | _, _ => none
    | none => none : Option (AV × Upd)) = if isIntB y = true then makeMapA P (freshOf m dst) (tmap P t) else none := by
    intro y
    have hy : (match y with | .v (.int _ _) => true | _ => false) = isIntB y := rfl
    rw [hy]
    unfold makeMapA
    cases isIntB y <;> cases tmap P t <;> try rfl
    all_goals (rename_i p; obtain ⟨a, b⟩ := p; simp only; cases tkt P a <;> rfl)
  exact key _
theorem isIntB_v {k : IntKind} {n : Int} : isIntB (.v (.int k n)) = true := (rfl)
def makeMapB (k : Option KT) (fresh : Nat) : Option (AV × Upd) := match k with
      | some kt => some (.mp fresh, [(fresh, .map kt [] [])])
      | none => none
theorem makeMapA_some {fr : Nat} {kT e : TypeId} : makeMapA P fr (some (kT, e)) = makeMapB (tkt P kT) fr := (rfl)
theorem makeMapB_some {fr : Nat} {kt : KT} : makeMapB (some kt) fr = some (.mp fr, [(fr, .map kt [] [])]) := (rfl)
def deleteB (P : Program) (o : Nat) (kt : KT) (ks : List Value) (ys : List AV) (key : Value) (tm : Option (TypeId × TypeId)) : Option (AV × Upd) := match tm with
  | some (kT, _) => if tkt P kT = some kt ∧ kwf kt key then some (.v (.tuple #[]), [(o, .map kt (mdelK ks key) (mdelX ks ys key))]) else none
  | none => none
def deleteA (P : Program) (o : Nat) (mT : TypeId) (k : Option Value) (ob : Option AObj) : Option (AV × Upd) := match ob, k with
  | some (.map kt ks ys), some key => deleteB P o kt ks ys key (tmap P mT)
  | _, _ => none
theorem delete_mp {fr o : Nat} {mT kT0 : TypeId} {k : AV} : builtinF P find fr .delete [mT, kT0].toArray [.mp o, k] = deleteA P o mT k.val? (find o) := by
  have h0 : ([mT, kT0].toArray)[0]? = some mT := rfl
  simp only [builtinF, deleteA, deleteB, h0]
  cases find o with
  | none => rfl
  | some ob => cases ob <;> cases k.val? <;> rfl
theorem deleteA_some {o : Nat} {mT : TypeId} {key : Value} {kt : KT} {ks : List Value} {ys : List AV} : deleteA P o mT (some key) (some (.map kt ks ys)) = deleteB P o kt ks ys key (tmap P mT) := (rfl)
theorem deleteB_some {o : Nat} {kT e : TypeId} {key : Value} {kt : KT} {ks : List Value} {ys : List AV} : deleteB P o kt ks ys key (some (kT, e)) = if tkt P kT = some kt ∧ kwf kt key then some (.v (.tuple #[]), [(o, .map kt (mdelK ks key) (mdelX ks ys key))]) else none := (rfl)

/-! Iterators. -/
theorem stepE_range {x : Operand} : stepE P γ env m dst (.range t x) = rangeA P (freshOf m dst) t (rho γ env x) := (rfl)
theorem stepE_entry {x : Operand} : stepE P γ env m dst (.entry x) = entryA m.find (rho γ env x) := (rfl)
theorem rangeA_mv {fr : Nat} {kt : KT} {ks : List Value} {xs : List AV} : rangeA P fr t (.mv kt ks xs) = if (tmap P t).isSome then some (.it fr, [(fr, .miter none ks xs)]) else none := (rfl)
theorem rangeA_nil {fr : Nat} : rangeA P fr t (.v (.map none)) = if (tmap P t).isSome then some (.it fr, [(fr, .miter none [] [])]) else none := (rfl)
theorem entryA_it {o : Nat} : entryA find (.it o) = (entryO (find o)).map fun y => (y, []) := (rfl)
theorem entryO_some {p : Value × AV} {ks : List Value} {xs : List AV} : entryO (some (.miter (some p) ks xs)) = some (.tup [.v p.1, p.2]) := (rfl)
/-- The ways on from an iterator: none goes in by itself. -/
class BoxN where
  p : Nat → Value → AV → Prop
def NxBr (ks : List Value) (xs : List AV) [y : Box] [n : BoxN] : Prop := (ks = [] → y.p) ∧ ∀ i k x, ks[i]? = some k → xs[i]? = some x → n.p i k x
def evNxI (o : Nat) (dst : Option Nat) (env : List (Nat × AV)) (m : Mem) (ob : Option AObj) [y : Box] [n : BoxN] : Prop := match ob with
  | some (.miter _ ks xs) => dstOK m dst ∧ NxBr ks xs
  | _ => False
theorem evNext_it {o : Nat} {K : St → Prop} : evNext (.it o) false dst ⟨env, m⟩ K = @evNxI o dst env m (m.find o) ⟨K ⟨putE dst (.tup [.v (.bool false)]) env, m⟩⟩ ⟨fun i k x => ∀ ks xs l, m.find o = some (.miter l ks xs) → K ⟨putE dst (.tup [.v (.bool true), .v k, x]) env, m.upd [(o, .miter (some (k, x)) (ks.eraseIdx i) (xs.eraseIdx i))]⟩⟩ := by
  simp only [evNext, evNxI, evNx]
  cases h : m.find o with
  | none => rfl
  | some ob =>
    cases ob <;> try rfl
    simp only [NxBr, eq_iff_iff]
    refine and_congr Iff.rfl (and_congr Iff.rfl ⟨fun h i k x hk hx ks' xs' l e => ?_, fun h i k x hk hx => h i k x hk hx _ _ _ rfl⟩)
    simp only [Option.some.injEq, AObj.miter.injEq] at e
    obtain ⟨rfl, rfl, rfl⟩ := e
    exact h i k x hk hx
theorem evNxI_some {o : Nat} {l : Option (Value × AV)} {ks : List Value} {xs : List AV} {y : Prop} {n : Nat → Value → AV → Prop} : @evNxI o dst env m (some (.miter l ks xs)) ⟨y⟩ ⟨n⟩ = (dstOK m dst ∧ @NxBr ks xs ⟨y⟩ ⟨n⟩) := (rfl)

/-! Slices, arrays, copies. -/
theorem stepE_slice2 {x : Operand} {lo hi : Option Operand} : stepE P γ env m dst (.slice t x lo hi none) = (sliceF P m.find t (unf (rho γ env x)) (lo.map fun y => unf (rho γ env y)) (hi.map fun y => unf (rho γ env y))).map fun x => (x, []) := by cases hi <;> rfl
theorem stepE_slice3 {x hi mx : Operand} {lo : Option Operand} : stepE P γ env m dst (.slice t x lo (some hi) (some mx)) = (slice3A P (telem P t) (unf (rho γ env x)) (lo.map (rho γ env)) (rho γ env hi) (rho γ env mx)).map fun x => (x, []) := (rfl)
theorem bnds_nn {n : Nat} : bnds n none none = some (0, n) := (rfl)
theorem bnds_nh {n : Nat} {k : IntKind} {h : Int} : bnds n none (some (.v (.int k h))) = if 0 ≤ h ∧ h ≤ n then some (0, h.toNat) else none := by
  simp only [bnds, bhi]; split <;> rfl
theorem bnds_ln {n : Nat} {k : IntKind} {l : Int} : bnds n (some (.v (.int k l))) none = if 0 ≤ l ∧ l ≤ n then some (l.toNat, n) else none := (rfl)
theorem bnds_lh {n : Nat} {k k' : IntKind} {l h : Int} : bnds n (some (.v (.int k l))) (some (.v (.int k' h))) = if 0 ≤ h ∧ h ≤ n then if 0 ≤ l ∧ l ≤ (h.toNat : Int) then some (l.toNat, h.toNat) else none else none := by
  simp only [bnds, bhi]; split <;> rfl
def sliceE (P : Program) (e : Option TypeId) (n z : Nat) (b : Option (Nat × Nat)) (mk : Nat → Nat → AV) : Option AV := match e with
  | some e => if z = tsz P e ∧ tok P e then b.map fun p => mk p.1 p.2 else none
  | none => none
theorem sliceE_some {e : TypeId} {n z : Nat} {b : Option (Nat × Nat)} {mk : Nat → Nat → AV} : sliceE P (some e) n z b mk = if z = tsz P e ∧ tok P e then b.map fun p => mk p.1 p.2 else none := (rfl)
theorem sliceF_seq {n z : Nat} {xs : List AV} {lo hi : Option AV} : sliceF P find t (.seq n z xs) lo hi = sliceE P (telem P t) n z (bnds n lo hi) fun l h => .seq (h - l) z ((xs.drop (l * z)).take ((h - l) * z)) := by
  simp only [sliceF, sliceE]; cases telem P t <;> rfl
theorem sliceF_sl {o off n z : Nat} {lo hi : Option AV} : sliceF P find t (.sl o off n z) lo hi = sliceE P (telem P t) n z (bnds n lo hi) fun l h => .sl o (off + l * z) (h - l) z := by
  simp only [sliceF, sliceE]; cases telem P t <;> rfl
theorem sliceF_str {s : ByteArray} {lo hi : Option AV} : sliceF P find t (.v (.string s)) lo hi = if tstr P t then (bnds s.size lo hi).map fun p => .v (.string (s.extract p.1 p.2)) else none := (rfl)
def sliceN (P : Program) (e : Option TypeId) (b : Option (Nat × Nat)) : Option AV := match e with
  | some e => if tok P e then b.map fun _ => .v (.slice none 0 0) else none
  | none => none
theorem sliceF_nil {lo hi : Option AV} : sliceF P find t (.v (.slice none 0 0)) lo hi = sliceN P (telem P t) (bnds 0 lo hi) := by
  simp only [sliceF, sliceN]; cases telem P t <;> rfl
theorem sliceN_some {e : TypeId} {b : Option (Nat × Nat)} : sliceN P (some e) b = if tok P e then b.map fun _ => .v (.slice none 0 0) else none := (rfl)
def sliceP (P : Program) (o off : Nat) (ar : Option (Nat × TypeId)) (lo hi : Option AV) (ob : Option AObj) : Option AV := match ar, ob with
  | some (n, e), some (.cells _ ys _) => if tok P e ∧ off + n * tsz P e ≤ ys.length then (bnds n lo hi).map fun p => .sl o (off + p.1 * tsz P e) (p.2 - p.1) (tsz P e) else none
  | _, _ => none
theorem sliceF_ptr {o off : Nat} {lo hi : Option AV} : sliceF P find t (.ptr o off) lo hi = sliceP P o off (tarr P t) lo hi (find o) := by
  simp only [sliceF, sliceP]
  cases tarr P t <;> try rfl
  all_goals (cases find o <;> try rfl)
theorem sliceP_some {o off n : Nat} {e E : TypeId} {lo hi : Option AV} {ys : List AV} {ap : Bool} : sliceP P o off (some (n, e)) lo hi (some (.cells E ys ap)) = if tok P e ∧ off + n * tsz P e ≤ ys.length then (bnds n lo hi).map fun p => .sl o (off + p.1 * tsz P e) (p.2 - p.1) (tsz P e) else none := (rfl)
theorem slice3A_some {e : TypeId} {x hi mx : AV} {lo : Option AV} : slice3A P (some e) x lo hi mx = if tok P e ∧ eqInt hi mx then slice3B x (tsz P e) lo (some hi) else none := (rfl)
theorem eqInt_int {k k' : IntKind} {a b : Int} : eqInt (.v (.int k a)) (.v (.int k' b)) = decide (a = b) := by
  simp only [eqInt]; by_cases h : a = b <;> simp [h]
theorem slice3B_nil {z : Nat} {lo hi : Option AV} : slice3B (.v (.slice none 0 0)) z lo hi = (bnds 0 lo hi).map fun _ => .v (.slice none 0 0) := (rfl)
theorem slice3B_seq {n z z' : Nat} {xs : List AV} {lo hi : Option AV} : slice3B (.seq n z' xs) z lo hi = if z' = z then (bnds n lo hi).map fun p => .full (p.2 - p.1) z ((xs.drop (p.1 * z)).take ((p.2 - p.1) * z)) else none := (rfl)
theorem slice3B_sl {o off n z z' : Nat} {lo hi : Option AV} : slice3B (.sl o off n z') z lo hi = if z' = z then (bnds n lo hi).map fun p => .slc o (off + p.1 * z) (p.2 - p.1) z else none := (rfl)

theorem indexF_agg {xs : List AV} {i : Int} {k : IntKind} : indexF P t (.agg xs) (.v (.int k i)) = match tarr P t with | some (n, e) => if tok P e then if 0 ≤ i ∧ i < n then partA P e xs (i.toNat * tsz P e) else none else none | none => none := by
  unfold indexF; cases tarr P t <;> rfl
theorem indexF_str {s : ByteArray} {i : Int} {k : IntKind} (h : tarr P t = none) : indexF P t (.v (.string s)) (.v (.int k i)) = if tstr P t then if 0 ≤ i ∧ i < s.size then some (.v (.int .u8 (s.data.toList.getD i.toNat 0).toNat)) else none else none := by
  simp only [indexF, h]
def indexAddrP (P : Program) (ar : Option (Nat × TypeId)) (i : Int) (mk : Nat → AV) : Option AV := match ar with
  | some (n, e) => if tok P e then if 0 ≤ i ∧ i < n then some (mk (i.toNat * tsz P e)) else none else none
  | none => none
theorem indexAddrP_some {n : Nat} {e : TypeId} {i : Int} {mk : Nat → AV} : indexAddrP P (some (n, e)) i mk = if tok P e then if 0 ≤ i ∧ i < n then some (mk (i.toNat * tsz P e)) else none else none := (rfl)
theorem indexAddr_ptr {o off : Nat} {i : Int} {k : IntKind} (h : telem P t = none) : indexAddrF P t (.ptr o off) (.v (.int k i)) = indexAddrP P (tarr P t) i fun j => .ptr o (off + j) := by
  simp only [indexAddrF, h, indexAddrP]; cases tarr P t <;> rfl
theorem indexAddr_rop {xs : List AV} {i : Int} {k : IntKind} (h : telem P t = none) : indexAddrF P t (.rop xs) (.v (.int k i)) = indexAddrP P (tarr P t) i fun j => .rop (xs.drop j) := by
  simp only [indexAddrF, h, indexAddrP]; cases tarr P t <;> rfl

def copyA (P : Program) (e : TypeId) (o off n z : Nat) (ob : Option AObj) (src : Option (Nat × List AV)) : Option (AV × Upd) := match ob, src with
      | some (.cells E ys ap), some (k, xs) =>
        if z = tsz P e ∧ tok P e ∧ off + n * tsz P e ≤ ys.length then
          some (.v (.int .i64 (min k n : Nat)), [(o, .cells E (setL ys off (xs.take (min k n * tsz P e))) ap)]) else none
      | _, _ => none
def copyE (P : Program) (o off n z : Nat) (te : Option TypeId) (ob : Option AObj) (src : Nat → Option (Nat × List AV)) : Option (AV × Upd) := match te with
  | some e => copyA P e o off n z ob (src (tsz P e))
  | none => none
theorem copy_sl {fr o off n z : Nat} {dT xT : TypeId} {x : AV} : builtinF P find fr .copy [dT, xT].toArray [.sl o off n z, x] = copyE P o off n z (telem P dT) (find o) fun z => srcS find z x := by
  have h0 : ([dT, xT].toArray)[0]? = some dT := rfl
  simp only [builtinF, h0, copyF, copyE, copyA]
  cases telem P dT with
  | none => rfl
  | some e => cases find o <;> rfl
theorem copyE_some {o off n z : Nat} {e : TypeId} {ob : Option AObj} {src : Nat → Option (Nat × List AV)} : copyE P o off n z (some e) ob src = copyA P e o off n z ob (src (tsz P e)) := (rfl)
theorem copyA_some {e E : TypeId} {o off n z k : Nat} {ys xs : List AV} {ap : Bool} : copyA P e o off n z (some (.cells E ys ap)) (some (k, xs)) = if z = tsz P e ∧ tok P e ∧ off + n * tsz P e ≤ ys.length then
          some (.v (.int .i64 (min k n : Nat)), [(o, .cells E (setL ys off (xs.take (min k n * tsz P e))) ap)]) else none := rfl
def makeSliceA (P : Program) (fresh : Nat) (e : Option TypeId) (l c : AV) : Option (AV × Upd) := match e, l, c with
    | some e, .v (.int _ l), .v (.int _ c) => match tz P e with
      | some zs => if tok P e ∧ zs.length = tsz P e ∧ 0 ≤ l ∧ l ≤ c ∧ c ≤ 9223372036854775807 ∧ tby P e * c ≤ 281474976710656 then
          some (.sl fresh 0 l.toNat (tsz P e), [(fresh, .cells e ((List.replicate l.toNat (zs.map AV.v)).flatten) true)])
        else none
      | none => none
    | _, _, _ => none
theorem stepE_makeSlice {l c : Operand} : stepE P γ env m dst (.makeSlice t l c) = makeSliceA P (freshOf m dst) (telem P t) (unf (rho γ env l)) (unf (rho γ env c)) := (rfl)
def makeSliceB (P : Program) (fresh : Nat) (e : TypeId) (l c : Int) (z : Option (List Value)) : Option (AV × Upd) := match z with
      | some zs => if tok P e ∧ zs.length = tsz P e ∧ 0 ≤ l ∧ l ≤ c ∧ c ≤ 9223372036854775807 ∧ tby P e * c ≤ 281474976710656 then
          some (.sl fresh 0 l.toNat (tsz P e), [(fresh, .cells e ((List.replicate l.toNat (zs.map AV.v)).flatten) true)])
        else none
      | none => none
theorem makeSliceA_some {fr : Nat} {e : TypeId} {k k' : IntKind} {l c : Int} : makeSliceA P fr (some e) (.v (.int k l)) (.v (.int k' c)) = makeSliceB P fr e l c (tz P e) := (rfl)
theorem makeSliceB_some {fr : Nat} {e : TypeId} {l c : Int} {zs : List Value} : makeSliceB P fr e l c (some zs) = if tok P e ∧ zs.length = tsz P e ∧ 0 ≤ l ∧ l ≤ c ∧ c ≤ 9223372036854775807 ∧ tby P e * c ≤ 281474976710656 then
          some (.sl fr 0 l.toNat (tsz P e), [(fr, .cells e ((List.replicate l.toNat (zs.map AV.v)).flatten) true)])
        else none := rfl

/-! Conversions. -/
def tint (P : Program) (E : TypeId) : Option IntKind := (P.underlying E).bind fun | .int k => some k | _ => none
theorem tint_under {E : TypeId} {k : IntKind} (h : tint P E = some k) : P.underlying E = some (.int k) := by
  unfold tint at h
  simp only [Option.bind_eq_some_iff] at h
  obtain ⟨d, h1, h2⟩ := h
  cases d <;> simp at h2
  rw [h1, h2]
def convA (P : Program) (s d : TypeId) (find : Nat → Option AObj) (fresh : Nat) (x : AV) : Option (AV × Upd) := match x with
    | .v (.string s') => if tstr P d then (if tstr P s then some (.v (.string s'), []) else none)
      else if tbytes P d ∧ tstr P s then match telem P d with
        | some e => some (.sl fresh 0 s'.size 1, [(fresh, .cells e (bytesV s'.data.toList) true)])
        | none => none
      else none
    | .v a => (prun P (convert s d a)).map fun v => (.v v, [])
    | x => if tbytes P s ∧ tstr P d then match srcS find 1 x with
        | some (_, xs) => match valsL xs with
          | some vs => if vs.all (isInt .u8) then some (.v (.string ⟨(vs.map fun | .int _ n => UInt8.ofNat n.toNat | _ => 0).toArray⟩), []) else none
          | none => none
        | none => none
      else none
theorem stepE_convert {s d : TypeId} {x : Operand} : stepE P γ env m dst (.convert s d x) = convA P s d m.find (freshOf m dst) (unf (rho γ env x)) := (rfl)
def convI (s d : Option IntKind) (n : Int) (other : Option (AV × Upd)) : Option (AV × Upd) := match s, d with
  | some _, some k => some (.v (.int k (k.wrap n)), [])
  | _, _ => other
theorem convA_int {s d : TypeId} {fr : Nat} {k : IntKind} {n : Int} : convA P s d find fr (.v (.int k n)) = convI (tint P s) (tint P d) n ((prun P (convert s d (.int k n))).map fun v => (.v v, [])) := by
  cases h1 : tint P s with
  | none => rfl
  | some k1 => cases h2 : tint P d with
    | none => rfl
    | some k2 =>
      simp only [convA, convI]
      have : prun P (convert s d (.int k n)) = some (.int k2 (k2.wrap n)) := by
        have hu : ∀ (E : TypeId) (d : TypeDesc) (f : TypeDesc → Sem Value), P.underlying E = some d → prun P (underlying E >>= f) = prun P (f d) := by
          intro E d f h
          show prun P (Sem.bind (underlying E) f) = _
          unfold underlying
          simp only [program, bind, Sem.bind, prun, h]
          rfl
        unfold convert
        rw [hu _ _ _ (tint_under h1), hu _ _ _ (tint_under h2)]
        rfl
      rw [this]; rfl
theorem convI_some {k1 k2 : IntKind} {n : Int} {o : Option (AV × Upd)} : convI (some k1) (some k2) n o = some (.v (.int k2 (k2.wrap n)), []) := (rfl)
theorem convA_str {s d : TypeId} {fr : Nat} {b : ByteArray} : convA P s d find fr (.v (.string b)) = if tstr P d then (if tstr P s then some (.v (.string b), []) else none)
      else if tbytes P d ∧ tstr P s then match telem P d with
        | some e => some (.sl fr 0 b.size 1, [(fr, .cells e (bytesV b.data.toList) true)])
        | none => none
      else none := rfl
def buildSliceB (P : Program) (e n fresh : Nat) (parts : List (Nat × AV)) (z : Option (List Value)) : Option (AV × Upd) := match z with
      | some zs => if tok P e ∧ zs.length = tsz P e ∧ n * tsz P e ≤ 16777216 then
          (fillA (fun i => some (i * tsz P e, tsz P e)) ((List.replicate n (zs.map AV.v)).flatten) parts).map fun cs => (.sl fresh 0 n (tsz P e), [(fresh, .cells e cs true)])
        else none
      | none => none
theorem buildSliceA_some {e n fr : Nat} {parts : List (Nat × AV)} : buildSliceA P (some e) n fr parts = buildSliceB P e n fr parts (tz P e) := (rfl)
theorem buildSliceB_some {e n fr : Nat} {parts : List (Nat × AV)} {zs : List Value} : buildSliceB P e n fr parts (some zs) = if tok P e ∧ zs.length = tsz P e ∧ n * tsz P e ≤ 16777216 then
          (fillA (fun i => some (i * tsz P e, tsz P e)) ((List.replicate n (zs.map AV.v)).flatten) parts).map fun cs => (.sl fr 0 n (tsz P e), [(fr, .cells e cs true)])
        else none := rfl
/-- What a condition guards, without an instance in sight. -/
noncomputable def Cnd {α : Type} (c : Prop) (r : Option α) : Option α := open Classical in if c then r else none
theorem ite_cnd {α : Type} {c : Prop} [Decidable c] {r : Option α} : (if c then r else none) = Cnd c r := by
  unfold Cnd; by_cases h : c <;> simp [h]
theorem Cnd_true {α : Type} {r : Option α} : Cnd True r = r := by simp [Cnd]
theorem Cnd_false {α : Type} {r : Option α} : Cnd False r = none := by simp [Cnd]
/-- A side condition that arithmetic pays. -/
theorem Cnd_T {α : Type} {c : Prop} {r : Option α} (h : c) : Cnd c r = r := by simp [Cnd, h]
theorem map_Cnd {α β : Type} {f : α → β} {c : Prop} {r : Option α} : Option.map f (Cnd c r) = Cnd c (Option.map f r) := by
  unfold Cnd; by_cases h : c <;> simp [h]
theorem bind_Cnd {α β : Type} {f : α → Option β} {c : Prop} {r : Option α} : Option.bind (Cnd c r) f = Cnd c (Option.bind r f) := by
  unfold Cnd; by_cases h : c <;> simp [h]
theorem evS_Cnd {K : St → Prop} {σ : St} {c : Prop} {r : Option (AV × Upd)} : evS (Cnd c r) dst σ K = (c ∧ evS r dst σ K) := by
  unfold Cnd; by_cases h : c <;> simp [h, evS]
theorem evDS_Cnd {all : Array Oper} {i : Nat} {rd : List Nat} {log : Log} {K : Log → St → Prop} {σ : St} {c : Prop} {r : Option (AV × Upd)} : evDS all i rd log (Cnd c r) dst σ K = (c ∧ evDS all i rd log r dst σ K) := by
  unfold Cnd; by_cases h : c <;> simp [h, evDS]

attribute [push_cast high] Cnd_true Cnd_false Cnd_T
attribute [push_cast] map_Cnd bind_Cnd evS_Cnd evDS_Cnd
attribute [push_cast] buildSliceA_some buildSliceB_some Nat.le_add_right Nat.le_refl
attribute [push_cast] evO_next evO_range evO_entry evDO_range evDO_entry
attribute [push_cast] stepE_build placesA_s placesA_a buildA_some stepE_field fieldA_agg stepE_extract extractA_tup mapOf_mp mapOf_mv mapOf_nil mapO_map stepE_lookup lookupA_some lookupB_f lookupB_t stepE_mapUpdate mapUpdM_mp mapUpdA_some stepE_makeMap stepE_makeMapR isIntB_v makeMapA_some makeMapB_some delete_mp deleteA_some deleteB_some
attribute [push_cast] stepE_range stepE_entry rangeA_mv rangeA_nil entryA_it entryO_some evNext_it evNxI_some
attribute [push_cast] stepE_slice2 stepE_slice3 bnds_nn bnds_nh bnds_ln bnds_lh sliceE_some sliceF_seq sliceF_sl sliceF_str sliceF_nil sliceN_some sliceF_ptr sliceP_some slice3A_some eqInt_int slice3B_nil slice3B_seq slice3B_sl indexF_agg indexF_str indexAddrP_some indexAddr_ptr indexAddr_rop copy_sl copyE_some copyA_some stepE_makeSlice makeSliceA_some makeSliceB_some
attribute [push_cast] stepE_convert convA_int convI_some convA_str
attribute [push_cast] Option.isSome_some Option.isSome_none List.all_cons List.all_nil
end Go.AW
namespace Go.AW
attribute [push_cast] List.set_cons_zero List.set_cons_succ List.drop_succ_cons List.take_succ_cons List.take_zero List.drop_nil List.take_nil
end Go.AW
namespace Go.AW
theorem setL_cons0 {y c : AV} {ys cs : List AV} : setL (y :: ys) 0 (c :: cs) = c :: setL ys 0 cs := by
  have key : ∀ (cs pre ys : List AV), setL (pre ++ ys) pre.length cs = pre ++ setL ys 0 cs := by
    intro cs
    induction cs with
    | nil => intro pre ys; rfl
    | cons c cs ih =>
      intro pre ys
      simp only [setL]
      cases ys with
      | nil =>
        simp only [List.append_nil, List.set_nil]
        rw [List.set_eq_of_length_le (by simp)]
        have h1 := ih pre []
        have h2 : ∀ (n : Nat) (cs : List AV), setL [] n cs = [] := by
          intro n cs
          induction cs generalizing n with
          | nil => rfl
          | cons c cs ih => simp only [setL, List.set_nil]; exact ih _
        have h3 : ∀ (l : List AV) (n : Nat) (cs : List AV), l.length ≤ n → setL l n cs = l := by
          intro l n cs
          induction cs generalizing n with
          | nil => intro _; rfl
          | cons c cs ih => intro h; simp only [setL]; rw [List.set_eq_of_length_le h]; exact ih _ (by omega)
        rw [h2, List.append_nil, h3 _ _ _ (by omega)]
      | cons y ys =>
        have h1 := ih (pre ++ [c]) ys
        simp only [List.length_append, List.length_cons, List.length_nil, Nat.zero_add, List.append_assoc, List.cons_append, List.nil_append] at h1
        rw [List.set_append_right _ _ (Nat.le_refl _)]
        simp only [Nat.sub_self, List.set_cons_zero]
        rw [h1]
        have h4 := ih [c] ys
        simp only [List.length_cons, List.length_nil, Nat.zero_add, List.cons_append, List.nil_append] at h4
        rw [h4]
  have := key cs [c] ys
  simpa [setL] using this
theorem setL_succ {y : AV} {ys : List AV} {n : Nat} : ∀ {cs : List AV}, setL (y :: ys) (n + 1) cs = y :: setL ys n cs := by
  intro cs
  induction cs generalizing ys n with
  | nil => rfl
  | cons c cs ih => simp only [setL, List.set_cons_succ]; exact ih
attribute [push_cast] setL_cons0 setL_succ
end Go.AW
namespace Go.AW
variable {keep : List (Nat × Nat)} {f : Nat → Option AObj}

theorem lk_unkept_eq : ∀ {objs : List (Nat × AObj)} {o : Nat}, lk (unkept keep objs) o = if (keep.any fun q => q.2 == o) = true then none else lk objs o
  | [], o => by simp [unkept, lk]
  | (p, x) :: objs, o => by
    have ih := lk_unkept_eq (objs := objs) (o := o)
    unfold unkept at ih ⊢
    simp only [List.filter_cons, lk]
    by_cases hp : (keep.any fun q => q.2 == p) = true
    · simp only [hp, Bool.not_true, Bool.false_eq_true, if_false, ih]
      by_cases ho : (keep.any fun q => q.2 == o) = true
      · simp [ho]
      · have : p ≠ o := fun e => ho (by rw [← e]; exact hp)
        simp [ho, this]
    · simp only [hp, Bool.not_false, if_true, lk, ih]
      by_cases e : p = o
      · subst e
        simp [hp]
      · simp only [if_neg e]
theorem FzE_nil {env : List (Nat × AV)} : FzE keep f env [] = True := (rfl)
theorem FzE_cons {env e : List (Nat × AV)} {t : Nat} {x : AV} : FzE keep f env ((t, x) :: e) = (FzV keep f (lk env t) x ∧ FzE keep f env e) := (rfl)
/-- What a value is read as. -/
def fzA (k : Option AV) (s : Option (AV × List Nat)) : Option AV := match k with
  | some z => some z
  | none => s.map (·.1)
def Fz1 (n : Bool) (r : Option AV) (y : AV) : Prop := n = true ∨ r = some y
theorem FzV_some {x y : AV} : FzV keep f (some x) y = Fz1 (nilA y x) (fzA (keptA keep x) (snap f 12 x)) y := by
  simp only [FzV, Fz1, fzA, eq_iff_iff]
  cases keptA keep x with
  | some z => simp
  | none =>
    cases snap f 12 x with
    | none => simp
    | some p => simp [Prod.ext_iff]
theorem Fz1_t {r : Option AV} {y : AV} : Fz1 true r y = True := by simp [Fz1]
theorem Fz1_f {r : Option AV} {y : AV} : Fz1 false r y = (r = some y) := by simp [Fz1]
theorem fzA_some {z : AV} {s : Option (AV × List Nat)} : fzA (some z) s = some z := (rfl)
theorem fzA_none {p : AV × List Nat} : fzA none (some p) = some p.1 := (rfl)
/-- What looks at no object is read as it is. -/
theorem fzA_idf {x : AV} (h : idf x = true) : fzA (keptA keep x) (snap f 12 x) = some x := by
  have : keptA keep x = none := by cases x <;> first | rfl | simp [idf] at h
  rw [this, snap_idf h]; rfl
def keptO (keep : List (Nat × Nat)) (o : Nat) (mk : Nat → AV) : Option AV := match keep with
  | [] => none
  | q :: k => if q.2 = o then some (mk q.1) else keptO k o mk
theorem find_keptO {o : Nat} {mk : Nat → AV} : ∀ {keep : List (Nat × Nat)}, ((keep.find? fun q => q.2 == o).map fun q => mk q.1) = keptO keep o mk
  | [] => rfl
  | q :: k => by
    simp only [List.find?_cons, keptO]
    by_cases e : q.2 = o
    · simp [e]
    · have : (q.2 == o) = false := by simpa using e
      rw [this, if_neg e]; exact find_keptO
theorem keptA_ptr {o off : Nat} : keptA keep (.ptr o off) = keptO keep o fun p => .ptr p off := find_keptO (mk := fun p => .ptr p off)
theorem keptA_sl {o off n sz : Nat} : keptA keep (.sl o off n sz) = keptO keep o fun p => .sl p off n sz := find_keptO (mk := fun p => .sl p off n sz)
theorem keptA_mp {o : Nat} : keptA keep (.mp o) = keptO keep o fun p => .mp p := find_keptO
theorem keptA_agg {xs : List AV} : keptA keep (.agg xs) = none := (rfl)
theorem keptA_tup {xs : List AV} : keptA keep (.tup xs) = none := (rfl)
theorem keptO_nil {o : Nat} {mk : Nat → AV} : keptO [] o mk = none := (rfl)
theorem keptO_cons {o : Nat} {mk : Nat → AV} {a b : Nat} {k : List (Nat × Nat)} : keptO ((a, b) :: k) o mk = if b = o then some (mk a) else keptO k o mk := (rfl)
theorem nilA_v {y : AV} {i : IntKind} {n : Int} : nilA y (.v (.int i n)) = false := (rfl)
theorem nilA_nil {o off n sz : Nat} : nilA (.sl o off (n + 1) sz) (.v (.slice none 0 0)) = false := (rfl)
theorem nilA_nil0 {o off sz : Nat} : nilA (.sl o off 0 sz) (.v (.slice none 0 0)) = true := (rfl)
theorem nilA_bool {y : AV} {b : Bool} : nilA y (.v (.bool b)) = false := (rfl)
theorem nilA_str {y : AV} {b : ByteArray} : nilA y (.v (.string b)) = false := (rfl)
theorem nilA_fun {y : AV} {g : Fn} {a b : Array Value} : nilA y (.v (.func g a b)) = false := (rfl)
theorem nilA_seq {y : AV} {n z : Nat} {xs : List AV} : nilA y (.seq n z xs) = false := (rfl)
theorem nilA_sl {y : AV} {o off n z : Nat} : nilA y (.sl o off n z) = false := (rfl)
theorem nilA_ptr {y : AV} {o off : Nat} : nilA y (.ptr o off) = false := (rfl)
theorem nilA_agg {y : AV} {xs : List AV} : nilA y (.agg xs) = false := (rfl)
theorem nilA_tup {y : AV} {xs : List AV} : nilA y (.tup xs) = false := (rfl)
theorem nilA_mp {y : AV} {o : Nat} : nilA y (.mp o) = false := (rfl)
theorem nilA_rop {y : AV} {xs : List AV} : nilA y (.rop xs) = false := (rfl)
theorem nilA_mv {y : AV} {k : KT} {ks : List Value} {xs : List AV} : nilA y (.mv k ks xs) = false := (rfl)
theorem nilA_clo {y : AV} {g : Fn} {a b : List AV} : nilA y (.clo g a b) = false := (rfl)
/-- A nil slice read as no elements. -/
theorem fz_nil : fzA (keptA keep (.v (.slice none 0 0))) (snap f 12 (.v (.slice none 0 0))) = some (.v (.slice none 0 0)) := fzA_idf rfl

theorem FzO_nil {objs : List (Nat × AObj)} : FzO keep f objs [] = True := (rfl)
theorem FzO_cons {objs e : List (Nat × AObj)} {o : Nat} {x : AObj} : FzO keep f objs ((o, x) :: e) = (FzO1 keep f objs o x ∧ FzO keep f objs e) := (rfl)
def FzO2 (f : Nat → Option AObj) (objs : List (Nat × AObj)) (q : Option Nat) (x : AObj) : Prop := match q with
  | some q => FzB f (lk objs q) x
  | none => nilO x = true
theorem FzO1_eq {objs : List (Nat × AObj)} {o : Nat} {x : AObj} : FzO1 keep f objs o x = FzO2 f objs (lk keep o) x := by
  unfold FzO1 FzO2; cases lk keep o <;> rfl
theorem FzO2_some {objs : List (Nat × AObj)} {q : Nat} {x : AObj} : FzO2 f objs (some q) x = FzB f (lk objs q) x := (rfl)
theorem FzO2_none {objs : List (Nat × AObj)} {x : AObj} : FzO2 f objs none x = (nilO x = true) := (rfl)
theorem nilO_nil {E : TypeId} {ap : Bool} : nilO (.cells E [] ap) = true := (rfl)
def fzL (s : Option (List AV × List Nat)) : Option (List AV) := s.map (·.1)
theorem FzB_cells {E E' : TypeId} {xs ys : List AV} {ap ap' : Bool} : FzB f (some (.cells E xs ap)) (.cells E' ys ap') = (E = E' ∧ ap = ap' ∧ fzL (snapL (snap f 12) xs) = some ys) := by
  simp only [FzB, fzL, eq_iff_iff]
  cases snapL (snap f 12) xs with
  | none => simp
  | some p => simp [Prod.ext_iff]
theorem FzB_map {k k' : KT} {ks ks' : List Value} {xs ys : List AV} : FzB f (some (.map k ks xs)) (.map k' ks' ys) = (k = k' ∧ ks = ks' ∧ fzL (snapL (snap f 12) xs) = some ys) := by
  simp only [FzB, fzL, eq_iff_iff]
  cases snapL (snap f 12) xs with
  | none => simp
  | some p => simp [Prod.ext_iff]
theorem fzL_some {p : List AV × List Nat} : fzL (some p) = some p.1 := (rfl)

/-! What snap yields. -/
theorem snapL_idf {F : AV → Option (AV × List Nat)} {xs : List AV} (h : idfL xs = true) : snapL F xs = some (xs, []) := by simp [snapL, h]
theorem snapM_idf {n : Nat} : ∀ {xs : List AV}, idfL xs = true → snapM (snap f (n + 1)) xs = some (xs, [])
  | [], _ => rfl
  | x :: xs, h => by
    simp only [idfL, Bool.and_eq_true] at h
    simp only [snapM, snap_idf h.1, snapM_idf h.2, List.append_nil]
theorem snapL_M {n : Nat} {xs : List AV} : snapL (snap f (n + 1)) xs = snapM (snap f (n + 1)) xs := by
  unfold snapL; split
  · rename_i h; exact (snapM_idf h).symm
  · rfl
def snapC (a : Option (AV × List Nat)) (b : Option (List AV × List Nat)) : Option (List AV × List Nat) := match a, b with
    | some p, some q => some (p.1 :: q.1, p.2 ++ q.2)
    | _, _ => none
theorem snapM_nil {F : AV → Option (AV × List Nat)} : snapM F [] = some ([], []) := (rfl)
theorem snapM_cons {F : AV → Option (AV × List Nat)} {x : AV} {xs : List AV} : snapM F (x :: xs) = snapC (F x) (snapM F xs) := by simp only [snapM, snapC]; rfl
theorem snapC_some {p : AV × List Nat} {q : List AV × List Nat} : snapC (some p) (some q) = some (p.1 :: q.1, p.2 ++ q.2) := (rfl)
theorem snapM_app {n : Nat} : ∀ {xs ys : List AV}, idfL xs = true → snapM (snap f (n + 1)) (xs ++ ys) = (snapM (snap f (n + 1)) ys).map fun p => (xs ++ p.1, p.2)
  | [], ys, _ => by cases h : snapM (snap f (n + 1)) ys <;> simp [h]
  | x :: xs, ys, h => by
    simp only [idfL, Bool.and_eq_true] at h
    simp only [List.cons_append, snapM, snap_idf h.1, snapM_app h.2]
    cases h : snapM (snap f (n + 1)) ys <;> simp
def snapSl (off k sz : Nat) (F : AV → Option (AV × List Nat)) (o : Nat) (ob : Option AObj) : Option (AV × List Nat) := match ob with
      | some (.cells _ ys _) => if off + k * sz ≤ ys.length then (snapL F ys).map fun p => (.seq k sz ((p.1.drop off).take (k * sz)), o :: p.2) else none
      | some (.imm ys) => if off + k * sz ≤ ys.length then (snapL F ys).map fun p => (.seq k sz ((p.1.drop off).take (k * sz)), o :: p.2) else none
      | _ => none
theorem snap_sl {n o off k sz : Nat} : snap f (n + 1) (.sl o off k sz) = snapSl off k sz (snap f n) o (f o) := by simp only [snap, snapSl]; rfl
theorem snapSl_cells {off k sz o : Nat} {F : AV → Option (AV × List Nat)} {E : TypeId} {ys : List AV} {ap : Bool} : snapSl off k sz F o (some (.cells E ys ap)) = if off + k * sz ≤ ys.length then (snapL F ys).map fun p => (.seq k sz ((p.1.drop off).take (k * sz)), o :: p.2) else none := (rfl)
def snapPt (off : Nat) (F : AV → Option (AV × List Nat)) (o : Nat) (ob : Option AObj) : Option (AV × List Nat) := match ob with
      | some (.cells _ ys _) => (snapL F ys).map fun p => (.rop (p.1.drop off), o :: p.2)
      | some (.imm ys) => (snapL F ys).map fun p => (.rop (p.1.drop off), o :: p.2)
      | _ => none
theorem snap_ptr {n o off : Nat} : snap f (n + 1) (.ptr o off) = snapPt off (snap f n) o (f o) := by simp only [snap, snapPt]; rfl
theorem snapPt_cells {off o : Nat} {F : AV → Option (AV × List Nat)} {E : TypeId} {ys : List AV} {ap : Bool} : snapPt off F o (some (.cells E ys ap)) = (snapL F ys).map fun p => (.rop (p.1.drop off), o :: p.2) := (rfl)
def snapMp (F : AV → Option (AV × List Nat)) (o : Nat) (ob : Option AObj) : Option (AV × List Nat) := match ob with
      | some (.map kt ks xs) => (snapL F xs).map fun p => (.mv kt ks p.1, o :: p.2)
      | _ => none
theorem snap_mp {n o : Nat} : snap f (n + 1) (.mp o) = snapMp (snap f n) o (f o) := by simp only [snap, snapMp]; rfl
theorem snapMp_map {o : Nat} {F : AV → Option (AV × List Nat)} {kt : KT} {ks : List Value} {xs : List AV} : snapMp F o (some (.map kt ks xs)) = (snapL F xs).map fun p => (.mv kt ks p.1, o :: p.2) := (rfl)
theorem snap_agg {n : Nat} {xs : List AV} : snap f (n + 1) (.agg xs) = (snapL (snap f n) xs).map fun p => (.agg p.1, p.2) := (rfl)
theorem snap_tup {n : Nat} {xs : List AV} : snap f (n + 1) (.tup xs) = (snapL (snap f n) xs).map fun p => (.tup p.1, p.2) := (rfl)
theorem snap_12 {x : AV} : snap f 12 x = snap f (11 + 1) x := (rfl)
theorem snap_11 {x : AV} : snap f 11 x = snap f (10 + 1) x := (rfl)
theorem snap_10 {x : AV} : snap f 10 x = snap f (9 + 1) x := (rfl)
theorem snap_9 {x : AV} : snap f 9 x = snap f (8 + 1) x := (rfl)
theorem snap_8 {x : AV} : snap f 8 x = snap f (7 + 1) x := (rfl)
theorem snap_v {n : Nat} {x : Value} : snap f (n + 1) (.v x) = some (.v x, []) := snap_idf rfl
theorem snap_seq {n k z : Nat} {xs : List AV} (h : idfL xs = true) : snap f (n + 1) (.seq k z xs) = some (.seq k z xs, []) := snap_idf h
theorem snap_mv {n : Nat} {k : KT} {ks : List Value} {xs : List AV} (h : idfL xs = true) : snap f (n + 1) (.mv k ks xs) = some (.mv k ks xs, []) := snap_idf h
theorem snap_rop {n : Nat} {xs : List AV} (h : idfL xs = true) : snap f (n + 1) (.rop xs) = some (.rop xs, []) := snap_idf h

/-! What looks at no object. -/
theorem idf_v {x : Value} : idf (.v x) = true := (rfl)
theorem idf_agg {xs : List AV} : idf (.agg xs) = idfL xs := (rfl)
theorem idf_tup {xs : List AV} : idf (.tup xs) = idfL xs := (rfl)
theorem idf_seq {n z : Nat} {xs : List AV} : idf (.seq n z xs) = idfL xs := (rfl)
theorem idf_full {n z : Nat} {xs : List AV} : idf (.full n z xs) = idfL xs := (rfl)
theorem idf_rop {xs : List AV} : idf (.rop xs) = idfL xs := (rfl)
theorem idf_mv {k : KT} {ks : List Value} {xs : List AV} : idf (.mv k ks xs) = idfL xs := (rfl)
theorem idf_clo {g : Fn} {a b : List AV} : idf (.clo g a b) = (idfL a && idfL b) := (rfl)
theorem idf_sl {o off n z : Nat} : idf (.sl o off n z) = false := (rfl)
theorem idf_ptr {o off : Nat} : idf (.ptr o off) = false := (rfl)
theorem idf_mp {o : Nat} : idf (.mp o) = false := (rfl)
theorem idfL_nil : idfL [] = true := (rfl)
theorem idfL_cons {x : AV} {xs : List AV} : idfL (x :: xs) = (idf x && idfL xs) := (rfl)
theorem idfL_drop' {xs : List AV} {k : Nat} (h : idfL xs = true) : idfL (xs.drop k) = true := idfL_drop xs k h
theorem idfL_take' {xs : List AV} {k : Nat} (h : idfL xs = true) : idfL (xs.take k) = true := idfL_take xs k h
theorem flat_take_succ {α : Type} {g : α → List AV} {l : List α} {i : Nat} (h : i < l.length) : flat g (l.take (i + 1)) = flat g (l.take i) ++ g l[i] := by
  unfold flat
  rw [List.take_succ_eq_append_getElem h, List.flatMap_append]
  simp
theorem flat_take_all {α : Type} {g : α → List AV} {l : List α} {i : Nat} (h : l.length ≤ i) : flat g (l.take i) = flat g l := by rw [List.take_of_length_le h]
theorem flat_nil {α : Type} {g : α → List AV} : flat g [] = [] := (rfl)
theorem flat_cons {α : Type} {g : α → List AV} {x : α} {l : List α} : flat g (x :: l) = g x ++ flat g l := (rfl)
theorem flat_append {α : Type} {g : α → List AV} {l k : List α} : flat g (l ++ k) = flat g l ++ flat g k := by simp [flat]
theorem idfL_hflat {l : List Hs} : idfL (flat hcell l) = true := idfL_flat idfL_hcell l
theorem idfL_sflat {l : List ByteArray} : idfL (flat scell l) = true := idfL_flat idfL_scell l
theorem hflat_length {l : List Hs} : (flat hcell l).length = l.length * 32 := flat_length hcell_length l
theorem sflat_length {l : List ByteArray} : (flat scell l).length = l.length * 1 := flat_length scell_length l
theorem idfL_pflat {l : List PatchV} : idfL (flat pcell l) = true := idfL_flat idfL_pcell l
theorem pflat_length {l : List PatchV} : (flat pcell l).length = l.length * 9 := flat_length pcell_length l

attribute [push_cast] lk_unkept_eq FzE_nil FzE_cons FzV_some Fz1_t Fz1_f fzA_some fzA_none keptA_ptr keptA_sl keptA_mp keptA_agg keptA_tup keptO_nil keptO_cons
attribute [push_cast] nilA_v nilA_nil nilA_nil0 nilA_bool nilA_str nilA_fun nilA_seq nilA_sl nilA_ptr nilA_agg nilA_tup nilA_mp nilA_rop nilA_mv nilA_clo
attribute [push_cast high] fzA_idf
attribute [push_cast] FzO_nil FzO_cons FzO1_eq FzO2_some FzO2_none nilO_nil FzB_cells FzB_map fzL_some
attribute [push_cast high] snapL_idf snapM_idf
attribute [push_cast] snapL_M snapM_nil snapM_cons snapC_some snapM_app snap_sl snapSl_cells snap_ptr snapPt_cells snap_mp snapMp_map snap_agg snap_tup snap_v snap_seq snap_mv snap_rop
attribute [push_cast] idf_v idf_agg idf_tup idf_seq idf_full idf_rop idf_mv idf_clo idf_sl idf_ptr idf_mp idfL_nil idfL_cons idfL_append idfL_hflat idfL_sflat idfL_pflat idfL_hcell idfL_scell idfL_pcell
attribute [push_cast] flat_nil hflat_length sflat_length pflat_length List.length_take List.length_map List.any_cons List.any_nil Nat.mul_one wrap_i64
attribute [push_cast] List.take_append_of_le_length List.take_of_length_le
theorem sflat_drop' {l : List ByteArray} {i : Nat} (hi : i < l.length) : (flat scell l).drop i = .v (.string l[i]) :: flat scell (l.drop (i + 1)) := by
  have := sflat_drop l i hi
  rwa [Nat.mul_one] at this
def fzS (s : Option (AV × List Nat)) : Option AV := s.map (·.1)
theorem fzS_some {p : AV × List Nat} : fzS (some p) = some p.1 := (rfl)
theorem endS_fz {m : Mem} {y r : AV} : endS m (some y) r = (fzS (snap m.find 12 (unf y)) = some r) := by
  simp only [endS, fzS, eq_iff_iff]
  constructor
  · rintro ⟨y', h1, ids, h2⟩
    simp only [Option.some.injEq] at h1
    subst h1
    rw [h2]; rfl
  · intro h
    simp only [Option.map_eq_some_iff] at h
    obtain ⟨⟨a, b⟩, h1, rfl⟩ := h
    exact ⟨y, rfl, b, h1⟩
def endT (m : Mem) (y : Option AV) (r : AV) : Prop := (y.bind fun y => snapN m.find 12 (unf y)) = some r
theorem endN_eq {P : Program} {rs : List ResultVar} {r : AV} {e : Exit} {env : List (Nat × AV)} {m : Mem} : endN P rs r e ⟨env, m⟩ = endT m (resA P rs env m) r := by
  simp only [endN, endT, eq_iff_iff]
  constructor
  · rintro ⟨y, h1, h2⟩; rw [h1]; exact h2
  · intro h
    simp only [Option.bind_eq_some_iff] at h
    exact h
theorem endT_some {m : Mem} {y r : AV} : endT m (some y) r = (snapN m.find 12 (unf y) = some r) := (rfl)
def snapNSl (off k sz : Nat) (ob : Option AObj) : Option AV := match ob with
      | some (.cells _ ys _) => if off + k * sz ≤ ys.length then if sclL ys then some (.seq k sz ((ys.drop off).take (k * sz))) else none else none
      | _ => none
theorem snapN_sl {n o off k sz : Nat} : snapN f (n + 1) (.sl o off k sz) = snapNSl off k sz (f o) := by simp only [snapN, snapNSl]; rfl
theorem snapNSl_cells {off k sz : Nat} {E : TypeId} {ys : List AV} {ap : Bool} : snapNSl off k sz (some (.cells E ys ap)) = if off + k * sz ≤ ys.length then if sclL ys then some (.seq k sz ((ys.drop off).take (k * sz))) else none else none := (rfl)
def snapNMp (ob : Option AObj) : Option AV := match ob with
      | some (.map kt ks xs) => if sclL xs then some (.mv kt ks xs) else none
      | _ => none
theorem snapN_mp {n o : Nat} : snapN f (n + 1) (.mp o) = snapNMp (f o) := by simp only [snapN, snapNMp]; rfl
theorem snapNMp_map {kt : KT} {ks : List Value} {xs : List AV} : snapNMp (some (.map kt ks xs)) = if sclL xs then some (.mv kt ks xs) else none := (rfl)
theorem snapN_v {n : Nat} {x : Value} : snapN f (n + 1) (.v x) = some (.v x) := (rfl)
theorem snapN_tup {n : Nat} {xs : List AV} : snapN f (n + 1) (.tup xs) = (snapNM (snapN f n) xs).map .tup := (rfl)
theorem snapN_agg {n : Nat} {xs : List AV} : snapN f (n + 1) (.agg xs) = (snapNM (snapN f n) xs).map .agg := (rfl)
theorem snapNM_nil {F : AV → Option AV} : snapNM F [] = some [] := (rfl)
def snapNC (a : Option AV) (b : Option (List AV)) : Option (List AV) := match a, b with
  | some p, some q => some (p :: q)
  | _, _ => none
theorem snapNM_cons {F : AV → Option AV} {x : AV} {xs : List AV} : snapNM F (x :: xs) = snapNC (F x) (snapNM F xs) := by simp only [snapNM, snapNC]; rfl
theorem snapNC_some {p : AV} {q : List AV} : snapNC (some p) (some q) = some (p :: q) := (rfl)
theorem sclL_append : ∀ {l m : List AV}, sclL (l ++ m) = (sclL l && sclL m)
  | [], m => by simp [sclL]
  | x :: l, m => by simp [sclL, sclL_append (l := l), Bool.and_assoc]
theorem scl_v {x : Value} : scl (.v x) = true := (rfl)
theorem scl_agg {xs : List AV} : scl (.agg xs) = sclL xs := (rfl)
theorem sclL_nil : sclL [] = true := (rfl)
theorem sclL_cons {x : AV} {xs : List AV} : sclL (x :: xs) = (scl x && sclL xs) := (rfl)
theorem sclL_flat {α : Type} {g : α → List AV} (h : ∀ x, sclL (g x) = true) : ∀ l : List α, sclL (flat g l) = true
  | [] => rfl
  | x :: l => by have := sclL_flat h l; simp only [flat, List.flatMap_cons] at *; simp [sclL_append, h, this]
theorem sclL_sflat {l : List ByteArray} : sclL (flat scell l) = true := sclL_flat (fun _ => rfl) l
theorem sclL_vals {α : Type} (g : α → Value) : ∀ l : List α, sclL (l.map fun x => .v (g x)) = true
  | [] => rfl
  | x :: l => by simp [sclL, scl, sclL_vals g l]
theorem sclL_hflat {l : List Hs} : sclL (flat hcell l) = true := sclL_flat (fun h => sclL_vals _ _) l
attribute [push_cast] sflat_drop' fzS_some endS_fz endN_eq endT_some snapN_sl snapNSl_cells snapN_mp snapNMp_map snapN_v snapN_tup snapN_agg snapNM_nil snapNM_cons snapNC_some sclL_append scl_v scl_agg sclL_nil sclL_cons sclL_sflat sclL_hflat
/-- Where results are all new. -/
theorem PNew.start {P : Program} {γ : GTab} {f : FuncId} {fn : Func} {c : Code} {rs : List ResultVar} {nt : Nat} {xs : List AV} {r : AV} (hf : P.funcs[f]? = some fn) (hb : fn.body = some c) (hn : (fn.name == "runtime.NumGoroutine") = false) (hrs : fn.results = rs.toArray) (hnt : fn.ntmps = nt) (hm : P.follows .mixedOrders = true) (hd : dOK c = true) (hx : idfL xs = true) (hr : idf r = true)
    (h : ev P γ 0 nt [.code c, .fin (endN P rs r)] ⟨(xs.zipIdx.map fun p => (p.2, p.1)), ⟨[], 0, 0, 0⟩⟩) : PNew P γ f xs r := by
  refine PNew.enter hf hb hn hm hd hx hr ?_
  rw [hrs, hnt]
  simpa using h
end Go.AW
namespace Go.AW
variable {P : Program} {H : Type} {enc : TypeId × Value → H} {w : World} {base : Nat} {spare : Nat → Bool} {held : Bool}

def avsL (f : DataW H → Option (List AV)) : List (DataW H) → Option (List AV)
  | [] => some []
  | d :: ds => match f d, avsL f ds with
    | some a, some b => some (a ++ b)
    | _, _ => none
def avsF (f : TypeId → DataW H → Option (List AV)) : List TypeId → List (DataW H) → Option (List AV)
  | [], [] => some []
  | t :: ts, d :: ds => match f t d, avsF f ts ds with
    | some a, some b => some (a ++ b)
    | _, _ => none
  | _, _ => none
/-- A datum's cells. -/
def avs (P : Program) : Nat → TypeId → DataW H → Option (List AV)
  | 0, _, _ => none
  | n + 1, t, d => match P.underlying t, d with
    | some .bool, .lit (.bool b) => some [.v (.bool b)]
    | some (.int k), .lit (.int _ m) => if (Lit.int k m).wf = true then some [.v (.int k m)] else none
    | some .string, .lit (.string bs) => some [.v (.string ⟨bs.toArray⟩)]
    | some (.slice e), .nil => some [.seq 0 (tsz P e) []]
    | some (.slice e), .slice es _ => (avsL (avs P n e) es).map fun l => [.seq es.length (tsz P e) l]
    | some (.struct fs), .agg ps => avsF (avs P n) (fs.toList.map (·.type)) ps
    | some (.array m e), .agg ps => if ps.length = m then avsL (avs P n e) ps else none
    | _, _ => none

def tilesT (P : Program) : Nat → List Field → Option Nat
  | off, [] => some off
  | off, f :: fs => if f.offset = off then tilesT P (off + P.cellsOf f.type) fs else none
/-- Numbers, bools, texts; slices, structs and arrays of such. -/
def plainT (P : Program) : Nat → TypeId → Bool
  | 0, _ => false
  | n + 1, t => match P.underlying t with
    | some .bool => true
    | some (.int _) => true
    | some .string => true
    | some (.slice e) => decide (0 < P.cellsOf e) && decide (P.cellsOf e = tsz P e) && plainT P n e
    | some (.struct fs) => decide (tilesT P 0 fs.toList = some (P.cellsOf t)) && fs.toList.all fun f => plainT P n f.type
    | some (.array m e) => decide (m * P.cellsOf e = P.cellsOf t) && plainT P n e
    | _ => false

/-- What a reading gives. -/
def Got (P : Program) (w : World) (n : Nat) (t : TypeId) (cs : List Value) (d : DataW H) : Prop :=
  ∃ xs, avs P n t d = some xs ∧ RepL (Sall w) μ0 w xs cs ∧ idfL xs = true ∧ ∀ u ∈ cs, u.oneCell' = true

theorem got_fields {n : Nat} {r : TypeId → List Value → Option (DataW H × List MemPlace)} (hr : ∀ t cs x, plainT P n t = true → r t cs = some x → cs.length = P.cellsOf t → Got P w n t cs x.1) :
    ∀ (fs : List Field) (off e : Nat) (cs : List Value) (xs : List (DataW H × List MemPlace)), tilesT P off fs = some e → cs.length = e → (fs.all fun f => plainT P n f.type) = true → off ≤ e → xs.length = fs.length →
      (∀ (i : Nat) (f : Field), fs[i]? = some f → r f.type ((cs.drop f.offset).take (P.cellsOf f.type)) = xs[i]?) → ∃ ys, avsF (avs P n) (fs.map (·.type)) (xs.map (·.1)) = some ys ∧ RepL (Sall w) μ0 w ys (cs.drop off) ∧ idfL ys = true ∧ ∀ u ∈ cs.drop off, u.oneCell' = true
  | [], off, e, cs, xs, ht, hl, _, _, hxl, h => by
    simp only [tilesT, Option.some.injEq] at ht
    subst ht
    obtain rfl : xs = [] := List.eq_nil_of_length_eq_zero hxl
    refine ⟨[], rfl, ?_, rfl, ?_⟩
    · rw [List.drop_eq_nil_of_le (by omega)]; simp [RepL]
    · rw [List.drop_eq_nil_of_le (by omega)]; simp
  | f :: fs, off, e, cs, xs, ht, hl, hp, ho, hxl, h => by
    simp only [tilesT] at ht
    split at ht
    · rename_i hoff
      cases xs with
      | nil => simp at hxl
      | cons y zs =>
      have h1 := h 0 f (by simp)
      simp only [List.getElem?_cons_zero] at h1
      simp only [List.all_cons, Bool.and_eq_true] at hp
      have hle : off + P.cellsOf f.type ≤ e := by
        have key : ∀ (fs : List Field) (a b : Nat), tilesT P a fs = some b → a ≤ b := by
          intro fs
          induction fs with
          | nil => intro a b h; simp only [tilesT, Option.some.injEq] at h; omega
          | cons f fs ih =>
            intro a b h
            simp only [tilesT] at h
            split at h
            · have := ih _ _ h; omega
            · cases h
        exact key _ _ _ ht
      rw [hoff] at h1
      obtain ⟨a, a1, a2, a3, a4⟩ := hr _ _ _ hp.1 h1 (by simp; omega)
      obtain ⟨b, b1, b2, b3, b4⟩ := got_fields hr fs _ e cs zs ht hl hp.2 hle (by simpa using hxl) (fun i f' hf => by simpa using h (i + 1) f' (by simpa using hf))
      have hd : cs.drop off = (cs.drop off).take (P.cellsOf f.type) ++ cs.drop (off + P.cellsOf f.type) := by
        rw [← List.drop_drop, List.take_append_drop]
      refine ⟨a ++ b, ?_, ?_, by rw [idfL_append, a3, b3]; rfl, fun u hu => ?_⟩
      · simp only [List.map_cons, avsF, a1, b1]
      · rw [hd]; exact a2.append b2
      · rw [hd] at hu
        rcases List.mem_append.1 hu with h | h
        · exact a4 u h
        · exact b4 u h
    · cases ht

theorem mapM_cons_some {α β : Type} {f : α → Option β} {x : α} {xs : List α} {ys : List β} (h : (x :: xs).mapM f = some ys) : ∃ y zs, f x = some y ∧ xs.mapM f = some zs ∧ ys = y :: zs := by
  rw [List.mapM_cons] at h
  simp only [Option.bind_eq_bind, Option.pure_def, Option.bind_eq_some_iff, Option.some.injEq] at h
  obtain ⟨y, h1, zs, h2, h3⟩ := h
  exact ⟨y, zs, h1, h2, h3.symm⟩

theorem cells_get {a : Addr} {n : Nat} {cs : List Value} (h : w.cells? base a n = some cs) : cs.length = n ∧ ∀ i u, cs[i]? = some u → w.cell? (a.add i) = some u := by
  unfold World.cells? at h
  split at h
  · have key : ∀ (l : List Nat) (cs : List Value), l.mapM (fun i => w.cell? (a.add i)) = some cs → cs.length = l.length ∧ ∀ (i : Nat) (u : Value), cs[i]? = some u → ∃ j : Nat, l[i]? = some j ∧ w.cell? (a.add j) = some u := by
      intro l
      induction l with
      | nil => intro cs h; simp at h; subst h; simp
      | cons x l ih =>
        intro cs h
        obtain ⟨y, zs, h1, h2, rfl⟩ := mapM_cons_some h
        obtain ⟨h3, h4⟩ := ih zs h2
        refine ⟨by simp [h3], fun i u hi => ?_⟩
        cases i with
        | zero => simp at hi; subst hi; exact ⟨x, by simp, h1⟩
        | succ i => simp at hi; obtain ⟨j, h5, h6⟩ := h4 i u hi; exact ⟨j, by simpa using h5, h6⟩
    obtain ⟨h1, h2⟩ := key _ _ h
    refine ⟨by simpa using h1, fun i u hi => ?_⟩
    obtain ⟨j, h3, h4⟩ := h2 i u hi
    have : j = i := by
      have hi' : i < n := by
        have := (List.getElem?_eq_some_iff.1 h3).1
        simpa using this
      rw [List.getElem?_range hi'] at h3
      simpa using h3.symm
    rw [this] at h4; exact h4
  · cases h

theorem cell_lt {a : Addr} {u : Value} (h : w.cell? a = some u) : a.block < w.heap.size ∧ a.spot = none := by
  unfold World.cell? at h
  split at h
  · rename_i c t f hb
    refine ⟨(Array.getElem?_eq_some_iff.1 hb).1, ?_⟩
    split at h
    · cases h
    · rename_i hs; simpa using hs
  · cases h

theorem repC_of {xs : List AV} {cs : List Value} {b off : Nat} (h : RepL (Sall w) μ0 w xs cs) (ho : ∀ u ∈ cs, u.oneCell' = true) (hc : ∀ i u, cs[i]? = some u → w.cell? ⟨b, off + i, none⟩ = some u) : RepC (Sall w) μ0 w xs b off :=
  RepC.mk fun i x hi => by
    obtain ⟨u, h1, h2⟩ := h.get hi
    exact ⟨(cell_lt (hc i u h1)).1, u, hc i u h1, ho u (List.mem_of_getElem? h1), h2⟩

theorem repC_append {b : Nat} {S μ} : ∀ {xs ys : List AV} {o : Nat}, RepC S μ w xs b o → RepC S μ w ys b (o + xs.length) → RepC S μ w (xs ++ ys) b o
  | [], ys, o, _, h => by simpa using h
  | x :: xs, ys, o, h, h' => by
    simp only [RepC, List.cons_append] at h ⊢
    refine ⟨h.1, repC_append h.2 ?_⟩
    simpa [Nat.add_assoc, Nat.add_comm 1] using h'

theorem got_elems {n : Nat} {e : TypeId} {ce : Nat} {b off : Nat} {r : List Value → Option (DataW H × List MemPlace)} (hr : ∀ cs x, r cs = some x → cs.length = ce → Got P w n e cs x.1) :
    ∀ (xs : List (DataW H × List MemPlace)) (k : Nat), (∀ i, i < xs.length → (w.cells? base (⟨b, off + (k + i) * ce, none⟩ : Addr) ce).bind r = xs[i]?) →
      ∃ ys, avsL (avs P n e) (xs.map (·.1)) = some ys ∧ RepC (Sall w) μ0 w ys b (off + k * ce) ∧ idfL ys = true ∧ ys.length = xs.length * ce
  | [], k, _ => ⟨[], rfl, by simp [RepC], rfl, by simp⟩
  | y :: zs, k, h => by
    have h1 := h 0 (by simp)
    simp only [List.getElem?_cons_zero, Option.bind_eq_some_iff, Nat.add_zero] at h1
    obtain ⟨cs, h3, h4⟩ := h1
    obtain ⟨c1, c2⟩ := cells_get h3
    obtain ⟨a, a1, a2, a3, a4⟩ := hr cs y h4 c1
    obtain ⟨ys, b1, b2, b3, b4⟩ := got_elems hr zs (k + 1) (fun i hi => by
      have := h (i + 1) (by simpa using hi)
      rw [show k + 1 + i = k + (i + 1) by omega]
      simpa using this)
    have ha : a.length = ce := by rw [← a2.length]; exact c1
    refine ⟨a ++ ys, by simp only [List.map_cons, avsL, a1, b1], ?_, by rw [idfL_append, a3, b3]; rfl, by simp [ha, b4, Nat.add_mul]; omega⟩
    have hC : RepC (Sall w) μ0 w a b (off + k * ce) := repC_of a2 a4 (fun i u hi => by
      have := c2 i u hi
      rwa [addr_add] at this)
    refine repC_append hC ?_
    rw [ha, show off + k * ce + ce = off + (k + 1) * ce by rw [Nat.add_mul]; omega]
    exact b2

theorem got_list {n : Nat} {e : TypeId} {ce : Nat} {r : List Value → Option (DataW H × List MemPlace)} (hr : ∀ cs x, r cs = some x → cs.length = ce → Got P w n e cs x.1) :
    ∀ (xs : List (DataW H × List MemPlace)) (k : Nat) (cs : List Value), cs.length = (k + xs.length) * ce → (∀ i, i < xs.length → r ((cs.drop ((k + i) * ce)).take ce) = xs[i]?) →
      ∃ ys, avsL (avs P n e) (xs.map (·.1)) = some ys ∧ RepL (Sall w) μ0 w ys (cs.drop (k * ce)) ∧ idfL ys = true ∧ ∀ u ∈ cs.drop (k * ce), u.oneCell' = true
  | [], k, cs, hc, _ => by
    simp at hc
    refine ⟨[], rfl, ?_, rfl, ?_⟩
    · rw [List.drop_eq_nil_of_le (by omega)]; simp [RepL]
    · rw [List.drop_eq_nil_of_le (by omega)]; simp
  | y :: zs, k, cs, hc, h => by
    have h1 := h 0 (by simp)
    simp only [List.getElem?_cons_zero, Nat.add_zero] at h1
    have hlen : (k + (zs.length + 1)) * ce = k * ce + ce + zs.length * ce := by rw [Nat.add_mul, Nat.add_mul]; omega
    simp only [List.length_cons] at hc
    obtain ⟨a, a1, a2, a3, a4⟩ := hr _ y h1 (by simp; omega)
    obtain ⟨ys, b1, b2, b3, b4⟩ := got_list hr zs (k + 1) cs (by rw [hc]; congr 1; omega) (fun i hi => by
      have := h (i + 1) (by simpa using hi)
      rw [show k + 1 + i = k + (i + 1) by omega]
      simpa using this)
    have hd : cs.drop (k * ce) = (cs.drop (k * ce)).take ce ++ cs.drop ((k + 1) * ce) := by
      rw [Nat.add_mul, Nat.one_mul, ← List.drop_drop, List.take_append_drop]
    refine ⟨a ++ ys, by simp only [List.map_cons, avsL, a1, b1], ?_, by rw [idfL_append, a3, b3]; rfl, fun u hu => ?_⟩
    · rw [hd]; exact a2.append b2
    · rw [hd] at hu
      rcases List.mem_append.1 hu with h | h
      · exact a4 u h
      · exact b4 u h

theorem trod_got : ∀ (n : Nat) (t : TypeId) (fuel : Nat) (cs : List Value) (x : DataW H × List MemPlace), plainT P n t = true → DataW.trod enc P w base spare held fuel t cs = some x → Got P w n t cs x.1
  | 0, t, _, _, _, hp, _ => by simp [plainT] at hp
  | n + 1, t, fuel, cs, x, hp, h => by
    have ih := fun (fuel : Nat) (t : TypeId) (cs : List Value) (x : DataW H × List MemPlace) hp h => trod_got n t fuel cs x hp h
    unfold plainT at hp
    have one : ∀ (u : Value) (y : AV), cs = [u] → Rep (Sall w) μ0 w y u → idf y = true → u.oneCell' = true → avs P (n + 1) t x.1 = some [y] → Got P w (n + 1) t cs x.1 := by
      intro u y hc hr hi ho ha
      subst hc
      exact ⟨[y], ha, by simp only [RepL]; exact ⟨u, [], rfl, hr, rfl⟩, by simp [idfL, hi], by simpa using ho⟩
    cases hu : P.underlying t with
    | none => rw [hu] at hp; cases hp
    | some dd =>
      rw [hu] at hp
      cases dd with
      | bool =>
        obtain ⟨b, rfl, rfl⟩ := DataW.trod_bool hu h
        exact one _ (.v (.bool b)) rfl (by simp [Rep]) rfl rfl (by simp [avs, hu])
      | int k =>
        obtain ⟨b, rfl, rfl, hwf⟩ := DataW.trod_int hu h
        exact one _ (.v (.int k b)) rfl (by simp [Rep]) rfl rfl (by simp [avs, hu, hwf])
      | string =>
        obtain ⟨s, rfl, rfl, _⟩ := DataW.trod_string hu h
        exact one _ (.v (.string s)) rfl (by simp [Rep]) rfl rfl (by simp [avs, hu])
      | slice e =>
        simp only [Bool.and_eq_true, decide_eq_true_eq] at hp
        obtain ⟨⟨hpos, hsz⟩, hp⟩ := hp
        rcases DataW.trod_slice hu h with ⟨rfl, rfl⟩ | ⟨a, len, cap, elems, rest, m, rfl, rfl, rfl, hb, hl, hm, hlen, hel, _, _⟩
        · exact one _ (.seq 0 (tsz P e) []) rfl (by simp only [Rep]; exact ⟨none, 0, rfl, Nat.le_refl _, by simp, .inl trivial⟩) rfl rfl (by simp [avs, hu])
        · by_cases h0 : len = 0
          · have he : elems = [] := List.eq_nil_of_length_eq_zero (by omega)
            subst he
            refine one _ (.seq 0 (tsz P e) []) rfl ?_ rfl rfl (by simp [avs, hu, avsL])
            simp only [Rep]
            exact ⟨some a, cap, by rw [h0], Nat.zero_le _, by simp, .inl trivial⟩
          · have hsp : a = ⟨a.block, a.off, none⟩ := by
              have := hel 0 (by omega)
              rw [List.getElem?_eq_getElem (by omega)] at this
              simp only [Option.bind_eq_some_iff] at this
              obtain ⟨cs, h1, _⟩ := this
              obtain ⟨c1, c2⟩ := cells_get h1
              have h2 := c2 0 cs[0] (by simp)
              have h3 := (cell_lt h2).2
              obtain ⟨b, o, s⟩ := a
              simp only [Nat.zero_mul] at h3
              have : s = none := by simpa [Addr.add] using h3
              rw [this]
            obtain ⟨ys, y1, y2, y3, y4⟩ := got_elems (b := a.block) (off := a.off) (ce := P.cellsOf e) (base := base) (w := w) (n := n) (e := e) (r := DataW.trod enc P w base spare held m e) (fun cs x h _ => ih m e cs x hp h) elems 0 (fun i hi => by
              have := hel i (by omega)
              rw [hsp, addr_add] at this
              simpa using this)
            refine one _ (.seq len (tsz P e) ys) rfl ?_ y3 rfl ?_
            · simp only [Rep]
              refine ⟨some a, cap, rfl, hl, by rw [y4, hlen, hsz], .inr ⟨a.block, a.off, by rw [← hsp], by simpa using y2⟩⟩
            · simp only [avs, hu, y1, Option.map_some, List.length_map, hlen]
      | struct fs =>
        simp only [Bool.and_eq_true, decide_eq_true_eq] at hp
        obtain ⟨xs, m, rfl, rfl, hl, hxl, hf⟩ := DataW.trod_struct hu h
        obtain ⟨ys, y1, y2, y3, y4⟩ := got_fields (n := n) (w := w) (P := P) (r := fun t cs => DataW.trod enc P w base spare held m t cs) (fun t cs x hp h _ => ih m t cs x hp h) fs.toList 0 (P.cellsOf t) cs xs hp.1 hl hp.2 (Nat.zero_le _) (by simpa using hxl) (fun i f hi => hf i f (by simpa using hi))
        exact ⟨ys, by simp only [avs, hu, y1], by simpa using y2, y3, by simpa using y4⟩
      | array k e =>
        simp only [Bool.and_eq_true, decide_eq_true_eq] at hp
        obtain ⟨xs, m, rfl, rfl, hl, hxl, hf⟩ := DataW.trod_array hu h
        obtain ⟨ys, y1, y2, y3, y4⟩ := got_list (n := n) (e := e) (w := w) (P := P) (ce := P.cellsOf e) (r := DataW.trod enc P w base spare held m e) (fun cs x h _ => ih m e cs x hp.2 h) xs 0 cs (by rw [hl, Nat.zero_add, hxl]; exact hp.1.symm) (fun i hi => by
          have := hf i (by omega)
          simpa using this)
        exact ⟨ys, by simp only [avs, hu, y1, List.length_map, hxl, if_true], by simpa using y2, y3, by simpa using y4⟩
      | _ => simp at hp

/-- An argument, as an abstract value. -/
def avOf (P : Program) (t : TypeId) (xs : List AV) : Option AV := match tagg P t with
  | some true => some (.agg xs)
  | some false => xs.head?
  | none => none

theorem arg_got {n : Nat} {t : TypeId} {v : Value} {d : DataW H} {ps : List MemPlace} {k : Nat} (hp : plainT P n t = true) (hv : Value.okWide P w .any k t v) (h : DataW.Trod enc P w base spare held t v d ps) :
    ∃ xs x, avs P n t d = some xs ∧ avOf P t xs = some x ∧ Rep (Sall w) μ0 w x v ∧ idf x = true := by
  obtain ⟨fuel, h⟩ := h
  obtain ⟨xs, h1, h2, h3, h4⟩ := trod_got n t fuel _ _ hp h
  cases n with
  | zero => simp [plainT] at hp
  | succ n =>
  unfold plainT at hp
  have agg : (∃ cs, v = .agg cs) → tagg P t = some true → ∃ xs x, avs P (n + 1) t d = some xs ∧ avOf P t xs = some x ∧ Rep (Sall w) μ0 w x v ∧ idf x = true := by
    rintro ⟨cs, rfl⟩ hg
    refine ⟨xs, .agg xs, h1, by simp [avOf, hg], ?_, h3⟩
    simp only [Rep]
    exact ⟨cs.toList, by simp, by simpa [Value.cells] using h2, by simpa [Value.cells] using h4⟩
  have one : v.cells.toList = [v] → tagg P t = some false → ∃ xs x, avs P (n + 1) t d = some xs ∧ avOf P t xs = some x ∧ Rep (Sall w) μ0 w x v ∧ idf x = true := by
    intro hc hg
    rw [hc] at h2
    cases xs with
    | nil => simp [RepL] at h2
    | cons x xs =>
      simp only [RepL, List.cons.injEq] at h2
      obtain ⟨y, zs, ⟨rfl, rfl⟩, h5, h6⟩ := h2
      simp only [idfL, Bool.and_eq_true] at h3
      exact ⟨x :: xs, x, h1, by simp [avOf, hg], h5, h3.1⟩
  cases hu : P.underlying t with
  | none => rw [hu] at hp; cases hp
  | some dd =>
    rw [hu] at hp
    unfold Value.okWide at hv
    rw [hu] at hv
    cases dd with
    | struct fs => simp only at hv; obtain ⟨cs, rfl, _⟩ := hv; exact agg ⟨cs, rfl⟩ (by simp [tagg, hu])
    | array k e => simp only at hv; obtain ⟨cs, rfl, _⟩ := hv; exact agg ⟨cs, rfl⟩ (by simp [tagg, hu])
    | bool =>
      refine one ?_ (by simp [tagg, hu])
      simp only [Cell.okWide, hu] at hv
      cases v <;> first | rfl | simp [Cell.ok, hu] at hv
    | int k =>
      refine one ?_ (by simp [tagg, hu])
      simp only [Cell.okWide, hu] at hv
      cases v <;> first | rfl | simp [Cell.ok, hu] at hv
    | string =>
      refine one ?_ (by simp [tagg, hu])
      simp only [Cell.okWide, hu] at hv
      cases v <;> first | rfl | simp [Cell.ok, hu] at hv
    | slice e =>
      refine one ?_ (by simp [tagg, hu])
      simp only [Cell.okWide, hu] at hv
      cases v <;> first | rfl | simp [Cell.ok, hu] at hv
    | _ => simp at hp


theorem GOK.nil {S : Nat → Nat → Prop} {w : World} : GOK [] S w := ⟨fun g vs h => by simp [lk] at h, fun g N h => by simp [lk] at h⟩

open Go.RowKit in
/-- What a law's contract says of its call. -/
theorem PCall.law {f : FuncId} {xs : List AV} {args : Array Value} (hp : PCall P [] f xs (.v (.bool true))) (h : RepL (Sall w) μ0 w xs args.toList) :
    Calls P f args w fun e w' => e = .returned (.bool true) ∧ Below w.heap.size w w' := by
  refine (hp.2.2.2 (Sall w) w args.toList (fun b off h => h) GOK.nil h).mono fun e w' he => ?_
  obtain ⟨v, S', rfl, hE, hv⟩ := he
  simp only [Rep] at hv
  subst hv
  exact ⟨rfl, hE.os, hE.tape, hE.output, hE.size, hE.heap⟩

section
open Go.RowKit Go.WideShapes Go.ChangeShapes
/-- A law's last step. -/
theorem law_post {f : Func} {s : ChangeSpec} {apart fresh handsOn again : Bool} {W W' : World} {args : Array Value} {ds gs : List (DataW H)} {before : List MemPlace} {tb : TypeId}
    (hl : laidOutB P = true) (hts : f.params.toList.all (fun t => P.readableRec t && decide (t < P.types.size)) = true) (hrt : f.resultTypes = #[tb]) (htb : P.underlying tb = some .bool)
    (hW : DataW.Whole enc P f.params.toList s.vars apart W args.toList ds gs before) (hvars : s.vars = [])
    (hspec : (s.fn H (ds ++ gs)) = { results := [.lit (.bool true)], args := ds }) (hb : Below W.heap.size W W') :
    s.post enc P f apart fresh handsOn again W args (.bool true) W' := by
  have hW0 := hW
  obtain ⟨p, q, hA, hV, rfl, hz, hn⟩ := hW
  have hV0 := hV
  rw [hvars] at hV
  obtain ⟨rfl, rfl⟩ := trodVars_none hV
  have hlt : ∀ x ∈ p ++ [], x.block < W.heap.size := fun x hx => hW0.lt x hx
  have hold : ∀ x ∈ p ++ [], (fun b => decide (b < W.heap.size)) x.block = true := fun x hx => by simpa using hlt x hx
  have hres : ∀ (b : Nat) (sp : Nat → Bool) (hd : Bool), DataW.TrodAll enc P W' b sp hd f.resultTypes.toList ((Value.bool true).resultList f.resultTypes.size) (s.fn H (ds ++ [])).results [] := by
    intro b sp hd
    rw [hspec, hrt]
    exact trodAll_cons_mk (shut_bool htb _) trodAll_mk0
  have hargs : ∀ sp : Nat → Bool, (∀ x ∈ p ++ [], sp x.block = true) → DataW.TrodAll enc P W' 0 sp true f.params.toList args.toList (s.fn H (ds ++ [])).args p := by
    intro sp hsp
    rw [hspec]
    have key : ∀ (ts : List TypeId) (vs : List Value) (ds : List (DataW H)) (ps : List MemPlace), (ts.all fun t => P.readableRec t && decide (t < P.types.size)) = true → (∀ x ∈ ps, x.block < W.heap.size ∧ sp x.block = true) → DataW.TrodAll enc P W 0 (fun _ => true) true ts vs ds ps → DataW.TrodAll enc P W' 0 sp true ts vs ds ps := by
      intro ts
      induction ts with
      | nil => intro vs ds ps _ _ h; cases vs <;> cases ds <;> exact h
      | cons t ts ih =>
        intro vs ds ps ht hx h
        obtain ⟨v, vs', d, ds', p', q', rfl, rfl, rfl, h1, h2⟩ := trodAll_cons h
        simp only [List.all_cons, Bool.and_eq_true, decide_eq_true_eq] at ht
        exact ⟨p', q', WideElems.Trod_stays hl ht.1.1 ht.1.2 h1 (fun x hx' => hb.same (hx x (List.mem_append_left _ hx')).1) (fun x hx' => (hx x (List.mem_append_left _ hx')).2), ih _ _ _ ht.2 (fun x hx' => hx x (List.mem_append_right _ hx')) h2, rfl⟩
    exact key _ _ _ _ hts (fun x hx => ⟨hlt x (by simpa using hx), hsp x (by simpa using hx)⟩) hA
  have hvs : ∀ sp : Nat → Bool, DataW.TrodVars enc P W' sp s.vars (s.fn H (ds ++ [])).vars [] := by
    intro sp
    rw [hspec, hvars]
    rfl
  have hok : ∀ (j : Nat) (t : TypeId) (r : Value), f.resultTypes[j]? = some t → ((Value.bool true).resultList f.resultTypes.size)[j]? = some r → Value.okWide P W' .any 0 t r := ok_one hrt rfl (okWide_bool_mk htb _)
  refine ⟨ds, [], p ++ [], [], p, [], hW0, hres _ _ _, hargs _ hold, hvs _, World.keptBut_mono (fun x hx => ⟨hx, ?_⟩) (hb.frame (· ∈ p ++ [])), fun _ => ?_⟩
  · exact Or.inr (Or.inl (by simpa using hx))
  · refine ⟨hok, _, _, ([] ++ p) ++ [], ⟨[] ++ p, [], trodAll_append (hargs _ (fun _ _ => rfl)) (hres _ _ _), hvs _, rfl, ?_, ?_⟩, ?_⟩
    · intro b off hx
      have hin : MemPlace.cell b off ∈ p ++ [] := by simpa using hx
      rw [hb.frozen (hlt _ hin)]
      exact hz b off hin
    · intro ha
      simpa using hn ha
    · intro x hx _
      simpa using hx
end
end Go.AW
namespace Go.AW
variable {P : Program} {H : Type}

mutual
def bulk {H : Type} : DataW H → Nat
  | .lit (.string bytes) => bytes.length + 1
  | .lit _ => 1
  | .nil => 1
  | .ptr d => bulk d + 1
  | .slice elems spare => bulkAll elems + bulkAll spare + 1
  | .agg parts => bulkAll parts + 1
  | .iface _ d => bulk d + 1
  | .map entries => bulkEntries entries + 1
  | .held _ => 1
def bulkAll {H : Type} : List (DataW H) → Nat
  | [] => 0
  | d :: r => bulk d + bulkAll r
def bulkEntries {H : Type} : List (Lit × DataW H) → Nat
  | [] => 0
  | x :: r => bulkEntry x + bulkEntries r
def bulkEntry {H : Type} : Lit × DataW H → Nat
  | (.string bytes, d) => bytes.length + bulk d + 1
  | (_, d) => bulk d + 1
end

/-- What a datum of a type is read as. -/
def Rd (P : Program) (t : TypeId) {α : Type} (c : α → List AV) (sz : α → Nat) (ok : α → Prop) : Prop :=
  ∀ (H : Type) (n : Nat) (d : DataW H) (xs : List AV), avs P n t d = some xs → ∃ a, xs = c a ∧ sz a ≤ bulk d ∧ ok a

def icell (k : IntKind) (n : Int) : List AV := [.v (.int k n)]
def bcell (b : Bool) : List AV := [.v (.bool b)]
def iok (k : IntKind) (n : Int) : Prop := (Lit.int k n).wf = true

theorem Rd.int {t : TypeId} {k : IntKind} (h : tint P t = some k) : Rd P t (icell k) (fun _ => 1) (iok k) := by
  intro H n d xs hx
  cases n with
  | zero => simp [avs] at hx
  | succ n =>
    unfold avs at hx
    rw [tint_under h] at hx
    split at hx <;> simp_all
    obtain ⟨hw, rfl⟩ := hx
    exact ⟨_, rfl, by simp [bulk], hw⟩
theorem under_bool {t : TypeId} (h : tkt P t = some .boolK) : P.underlying t = some .bool := by
  unfold tkt at h
  simp only [Option.bind_eq_some_iff] at h
  obtain ⟨d, h1, h2⟩ := h
  cases d <;> simp at h2
  · exact h1
  · split at h2
    · split at h2 <;> simp at h2
    · cases h2
theorem Rd.bool {t : TypeId} (h : tkt P t = some .boolK) : Rd P t bcell (fun _ => 1) (fun _ => True) := by
  intro H n d xs hx
  cases n with
  | zero => simp [avs] at hx
  | succ n =>
    unfold avs at hx
    rw [under_bool h] at hx
    split at hx <;> first | (rename_i e _; cases e; done) | skip
    case h_1 b _ =>
      simp only [Option.some.injEq] at hx
      exact ⟨b, hx.symm, by simp [bulk], trivial⟩
    all_goals simp_all
theorem Rd.str {t : TypeId} (h : tstr P t = true) : Rd P t scell (fun s => s.size + 1) (fun _ => True) := by
  intro H n d xs hx
  cases n with
  | zero => simp [avs] at hx
  | succ n =>
    unfold avs at hx
    rw [under_tstr h] at hx
    split at hx <;> simp_all
    rename_i bs
    refine ⟨⟨bs.toArray⟩, hx.symm, ?_⟩
    simp [bulk, ByteArray.size]
theorem avsL_rd {α : Type} {c : α → List AV} {sz : α → Nat} {ok : α → Prop} {e : TypeId} {n : Nat} (r : Rd P e c sz ok) : ∀ (ds : List (DataW H)) (xs : List AV), avsL (avs P n e) ds = some xs → ∃ l : List α, xs = flat c l ∧ l.length = ds.length ∧ (l.map sz).sum ≤ bulkAll ds ∧ ∀ a ∈ l, ok a
  | [], xs, h => by simp only [avsL, Option.some.injEq] at h; subst h; exact ⟨[], rfl, rfl, by simp [bulkAll], by simp⟩
  | d :: ds, xs, h => by
    simp only [avsL] at h
    split at h
    · rename_i a b h1 h2
      simp only [Option.some.injEq] at h
      subst h
      obtain ⟨x, rfl, h4, h5⟩ := r H n d a h1
      obtain ⟨l, rfl, h7, h8, h9⟩ := avsL_rd r ds b h2
      refine ⟨x :: l, by simp [flat], by simp [h7], ?_, by simpa using ⟨h5, h9⟩⟩
      simp only [List.map_cons, List.sum_cons, bulkAll]; omega
    · cases h
theorem Rd.slice {α : Type} {c : α → List AV} {sz : α → Nat} {ok : α → Prop} {t e : TypeId} {z : Nat} (h : telem P t = some e) (hz : tsz P e = z) (r : Rd P e c sz ok) :
    Rd P t (fun l : List α => [.seq l.length z (flat c l)]) (fun l => (l.map sz).sum + 1) (fun l => ∀ a ∈ l, ok a) := by
  intro H n d xs hx
  subst hz
  cases n with
  | zero => simp [avs] at hx
  | succ n =>
    unfold avs at hx
    rw [under_telem h] at hx
    split at hx <;> simp_all
    · exact ⟨[], by rw [← hx]; simp [flat], by simp [bulk], by simp⟩
    · rename_i es sp
      obtain ⟨l, hl, rfl⟩ := hx
      obtain ⟨l', rfl, h7, h8, h9⟩ := avsL_rd r _ _ hl
      refine ⟨l', by simp [h7], ?_, h9⟩
      simp only [bulk]; omega
theorem flds_types {t : TypeId} {fs : List (Nat × TypeId)} (h : tflds P t = some fs) : ∃ gs : Array Field, P.underlying t = some (.struct gs) ∧ gs.toList.map (·.type) = fs.map (·.2) := by
  obtain ⟨gs, h1, h2⟩ := under_tflds h
  exact ⟨gs, h1, by rw [h2]; simp⟩
theorem rd_struct {t : TypeId} {fs : List (Nat × TypeId)} {n : Nat} {d : DataW H} {xs : List AV} (h : tflds P t = some fs) (hx : avs P n t d = some xs) : ∃ m ps, d = .agg ps ∧ avsF (avs P m) (fs.map (·.2)) ps = some xs ∧ bulkAll ps + 1 = bulk d := by
  obtain ⟨gs, h1, h2⟩ := flds_types h
  cases n with
  | zero => simp [avs] at hx
  | succ n =>
    unfold avs at hx
    rw [h1] at hx
    cases d <;> simp only [reduceCtorEq] at hx
    rename_i ps
    exact ⟨n, ps, rfl, by rw [← h2]; exact hx, by simp [bulk]⟩
theorem rd_field {α : Type} {c : α → List AV} {sz : α → Nat} {ok : α → Prop} {t : TypeId} {ts : List TypeId} {n : Nat} {ds : List (DataW H)} {xs : List AV} (r : Rd P t c sz ok) (h : avsF (avs P n) (t :: ts) ds = some xs) :
    ∃ (ds' : List (DataW H)) (a : α) (ys : List AV) (k : Nat), xs = c a ++ ys ∧ avsF (avs P n) ts ds' = some ys ∧ bulkAll ds = k + bulkAll ds' ∧ sz a ≤ k ∧ ok a := by
  cases ds with
  | nil => simp [avsF] at h
  | cons d ds =>
    simp only [avsF] at h
    split at h
    · rename_i a b h1 h2
      simp only [Option.some.injEq] at h
      subst h
      obtain ⟨x, rfl, h4, h5⟩ := r H n d a h1
      exact ⟨ds, x, b, bulk d, rfl, h2, by simp [bulkAll], h4, h5⟩
    · cases h
theorem rd_end {n : Nat} {ds : List (DataW H)} {xs : List AV} (h : avsF (avs P n) [] ds = some xs) : xs = [] := by
  cases ds with
  | nil => simp only [avsF, Option.some.injEq] at h; exact h.symm
  | cons d ds => simp [avsF] at h
def hok (h : Hs) : Prop := ∀ n ∈ h.1, 0 ≤ n ∧ n ≤ 255
theorem flat_icell (k : IntKind) : ∀ l : List Int, flat (icell k) l = l.map fun n => .v (.int k n)
  | [] => rfl
  | x :: l => by have := flat_icell k l; simp only [flat, List.flatMap_cons, icell, List.map_cons] at *; rw [this]; rfl
theorem Rd.hash {t e : TypeId} (h : tarr P t = some (32, e)) (he : tint P e = some .u8) : Rd P t hcell (fun _ => 1) hok := by
  intro H n d xs hx
  cases n with
  | zero => simp [avs] at hx
  | succ n =>
    unfold avs at hx
    rw [under_tarr h] at hx
    cases d <;> simp only [reduceCtorEq] at hx
    rename_i ps
    split at hx
    · rename_i hl
      obtain ⟨l, rfl, h7, h8, h9⟩ := avsL_rd (Rd.int he) _ _ hx
      refine ⟨⟨l, by omega⟩, by rw [flat_icell]; rfl, by simp [bulk], fun m hm => ?_⟩
      have := h9 m hm
      simpa [iok, Lit.wf, IntKind.min, IntKind.max, IntKind.signed, IntKind.bits] using this
    · cases hx
end Go.AW
namespace Go.AW
variable {P : Program} {γ : GTab} {t : TypeId} {env : List (Nat × AV)} {m : Mem} {dst : Option Nat} {find : Nat → Option AObj} {K : St → Prop} {x y : Operand}

def lenB (ar : Option (Nat × TypeId)) (lk : Option Nat) (k n : Nat) : Option (AV × Upd) := match ar with
  | some (n, _) => some (.v (.int .i64 n), [])
  | none => if lk = some k then some (.v (.int .i64 n), []) else none
theorem lenB_none {l : Option Nat} {k n : Nat} : lenB none l k n = if l = some k then some (.v (.int .i64 n), []) else none := (rfl)
theorem lenB_some {l : Option Nat} {k n n' : Nat} {e : TypeId} : lenB (some (n', e)) l k n = some (.v (.int .i64 n'), []) := (rfl)
theorem len_gen {fr k n : Nat} {ts : List TypeId} {x : AV} (h : lenA find x = some (k, n)) : builtinF P find fr .len (t :: ts).toArray [x] = lenB (tarr P t) (tlenk P t) k n := by
  have h0 : (t :: ts).toArray[0]? = some t := by simp
  simp only [builtinF, h0, lenB]
  cases tarr P t with
  | none => simp only [h]
  | some p => rfl
theorem len_str {fr : Nat} {ts : List TypeId} {s : ByteArray} : builtinF P find fr .len (t :: ts).toArray [.v (.string s)] = lenB (tarr P t) (tlenk P t) 1 s.size := len_gen rfl
theorem len_nil {fr : Nat} {ts : List TypeId} : builtinF P find fr .len (t :: ts).toArray [.v (.slice none 0 0)] = lenB (tarr P t) (tlenk P t) 0 0 := len_gen rfl
theorem len_mv {fr : Nat} {ts : List TypeId} {k : KT} {ks : List Value} {xs : List AV} : builtinF P find fr .len (t :: ts).toArray [.mv k ks xs] = lenB (tarr P t) (tlenk P t) 2 ks.length := len_gen rfl
theorem len_mnil {fr : Nat} {ts : List TypeId} : builtinF P find fr .len (t :: ts).toArray [.v (.map none)] = lenB (tarr P t) (tlenk P t) 2 0 := len_gen rfl
def lenM (ar : Option (Nat × TypeId)) (lk : Option Nat) (ob : Option AObj) : Option (AV × Upd) := match ob with
  | some (.map _ ks _) => lenB ar lk 2 ks.length
  | _ => lenB ar none 2 0
theorem len_mp {fr o : Nat} {ts : List TypeId} : builtinF P find fr .len (t :: ts).toArray [.mp o] = lenM (tarr P t) (tlenk P t) (find o) := by
  have h0 : (t :: ts).toArray[0]? = some t := by simp
  simp only [builtinF, h0, lenM, lenB]
  cases tarr P t with
  | none =>
    simp only [lenA]
    cases h : find o with
    | none => simp
    | some ob => cases ob <;> simp
  | some p =>
    cases h : find o with
    | none => rfl
    | some ob => cases ob <;> rfl
theorem lenM_map {ar : Option (Nat × TypeId)} {l : Option Nat} {k : KT} {ks : List Value} {xs : List AV} : lenM ar l (some (.map k ks xs)) = lenB ar l 2 ks.length := (rfl)
attribute [push_cast] lenB_none lenB_some len_str len_nil len_mv len_mnil len_mp lenM_map

/-! A slice against nil. -/
def nilN (e : Option TypeId) (n : Nat) : Option Nat := match e with
  | some _ => some n
  | none => none
theorem nilSl_seq {n z : Nat} {xs : List AV} : nilSl P t (.seq n z xs) (.v (.slice none 0 0)) = nilN (telem P t) n := by
  simp only [nilSl, nilN]; cases telem P t <;> rfl
theorem nilSl_sl {o off n z : Nat} : nilSl P t (.sl o off n z) (.v (.slice none 0 0)) = nilN (telem P t) n := by
  simp only [nilSl, nilN]; cases telem P t <;> rfl
theorem nilN_some {e n : Nat} : nilN (some e) n = some n := (rfl)
theorem nilSl_rop {xs : List AV} {q : AV} : nilSl P t (.rop xs) q = none := by unfold nilSl; rfl
theorem nilSl_ptr {o off : Nat} {q : AV} : nilSl P t (.ptr o off) q = none := by unfold nilSl; rfl
theorem nilSl_mp {o : Nat} {q : AV} : nilSl P t (.mp o) q = none := by unfold nilSl; rfl
theorem nilSl_mv {k : KT} {ks : List Value} {xs : List AV} {q : AV} : nilSl P t (.mv k ks xs) q = none := by unfold nilSl; rfl
theorem nilSl_clo {f : Fn} {a b : List AV} {q : AV} : nilSl P t (.clo f a b) q = none := by unfold nilSl; rfl
theorem evN_br {n : Nat} {neg : Bool} {other : Prop} : evN (some n) neg dst ⟨env, m⟩ K other = (dstOK m dst ∧ @Br (n = 0) ⟨K ⟨putE dst (.v (.bool (!neg))) env, m⟩⟩ ∧ K ⟨putE dst (.v (.bool neg)) env, m⟩) := (rfl)
theorem evN_none' {neg : Bool} {σ : St} {other : Prop} : evN none neg dst σ K other = other := (rfl)
attribute [push_cast] nilSl_seq nilSl_sl nilN_some nilSl_rop nilSl_ptr nilSl_mp nilSl_mv nilSl_clo evN_br evN_none'

/-! Texts in order. -/
def SLt (p q : ByteArray) : Prop := p.data.toList < q.data.toList
instance (p q : ByteArray) : Decidable (SLt p q) := by unfold SLt; infer_instance
theorem SLt.irrefl (p : ByteArray) : ¬ SLt p p := List.lt_irrefl _
theorem SLt.trans {p q r : ByteArray} (h : SLt p q) (h' : SLt q r) : SLt p r := List.lt_trans h h'
theorem SLt.asymm {p q : ByteArray} (h : SLt p q) : ¬ SLt q p := List.lt_asymm h
theorem data_inj {p q : ByteArray} (h : p.data.toList = q.data.toList) : p = q := by
  obtain ⟨⟨a⟩⟩ := p
  obtain ⟨⟨b⟩⟩ := q
  simp only at h
  subst h; rfl
theorem SLt.tri {p q : ByteArray} (h : ¬ SLt p q) (h' : ¬ SLt q p) : p = q := data_inj (List.le_antisymm (List.not_lt.1 h') (List.not_lt.1 h))
theorem bytesLess_dec : ∀ (x y : List UInt8), Op.bytesLess x y = decide (x < y)
  | [], [] => by simp [Op.bytesLess]
  | _ :: _, [] => by simp [Op.bytesLess]
  | [], _ :: _ => by simp [Op.bytesLess]
  | a :: x, b :: y => by
    rw [Op.bytesLess, bytesLess_dec x y, Bool.eq_iff_iff]
    simp [List.cons_lt_cons_iff]
theorem less_SLt (p q : ByteArray) : Op.bytesLess p.toList q.toList = decide (SLt p q) := by rw [bytesLess_dec, toList_data, toList_data]; rfl
theorem leq_SLt (p q : ByteArray) : (decide (SLt p q) || decide (p = q)) = !decide (SLt q p) := by
  by_cases h : SLt p q
  · simp [h, h.asymm]
  · by_cases h' : SLt q p
    · have : p ≠ q := fun e => by subst e; exact SLt.irrefl _ h'
      simp [h, h', this]
    · have := SLt.tri h h'
      simp [this, SLt.irrefl]
theorem pbin_slss {p q : ByteArray} : pbin P .lss t x y (.string p) (.string q) = some (.bool (decide (SLt p q))) := by
  simp [pbin, guard_str, binOp, Op.stringOp, less_SLt, prun_pure]
theorem pbin_sgtr {p q : ByteArray} : pbin P .gtr t x y (.string p) (.string q) = some (.bool (decide (SLt q p))) := by
  simp [pbin, guard_str, binOp, Op.stringOp, less_SLt, prun_pure, lbeq, toList_inj]
  have := leq_SLt p q
  by_cases h : SLt q p
  · simp_all
  · simp only [h, decide_false, Bool.not_false, Bool.or_eq_true, decide_eq_true_eq] at this
    rcases this with h2 | h2
    · simp [h, h2]
    · simp [h, h2, SLt.irrefl]
theorem pbin_sleq {p q : ByteArray} : pbin P .leq t x y (.string p) (.string q) = some (.bool (!decide (SLt q p))) := by
  simp [pbin, guard_str, binOp, Op.stringOp, less_SLt, prun_pure, lbeq, toList_inj]
  exact leq_SLt p q
theorem pbin_sgeq {p q : ByteArray} : pbin P .geq t x y (.string p) (.string q) = some (.bool (!decide (SLt p q))) := by
  simp [pbin, guard_str, binOp, Op.stringOp, less_SLt, prun_pure]
theorem pbin_sadd {p q : ByteArray} : pbin P .add t x y (.string p) (.string q) = if p.size + q.size ≤ 9223372036854775807 then some (.string (p ++ q)) else none := by
  have e : ((p.size + q.size : Nat) : Int) > IntKind.i64.max ↔ ¬ (p.size + q.size ≤ 9223372036854775807) := by
    simp only [IntKind.max, IntKind.signed, IntKind.bits]; simp; omega
  simp only [pbin, guard_str, binOp, Op.stringOp, e]
  by_cases h : p.size + q.size ≤ 9223372036854775807
  · rw [if_pos h, if_neg (fun h' => h' h)]; rfl
  · rw [if_neg h, if_pos h]; rfl
attribute [push_cast] pbin_slss pbin_sgtr pbin_sleq pbin_sgeq pbin_sadd ByteArray.size_append

/-! A nil slice or map, where an empty one is asked for. -/
mutual
def Wk : AV → AV → Prop
  | .v (.slice none 0 0), .seq n _ xs => n = 0 ∧ xs = []
  | .v (.map none), .mv _ ks xs => ks = [] ∧ xs = []
  | .tup xs, .tup ys => WkL xs ys
  | .agg xs, .agg ys => WkL xs ys
  | x, y => x = y
def WkL : List AV → List AV → Prop
  | [], [] => True
  | x :: xs, y :: ys => Wk x y ∧ WkL xs ys
  | _, _ => False
end
section
variable {S : Nat → Nat → Prop} {μ : Nat → Option (Nat × Nat)} {w : World}
mutual
theorem Wk.rep : ∀ (x y : AV) (v : Value), Wk x y → Rep S μ w x v → Rep S μ w y v
  | x, y, v, h, hr => by
    unfold Wk at h
    split at h
    · simp only [Rep] at hr ⊢
      obtain ⟨rfl, rfl⟩ := h
      exact ⟨none, 0, hr, Nat.le_refl _, by simp, .inl rfl⟩
    · simp only [Rep] at hr ⊢
      exact .inl ⟨hr, h.1, h.2⟩
    · rename_i xs ys
      simp only [Rep] at hr ⊢
      obtain ⟨vs, e, h1⟩ := hr
      exact ⟨vs, e, WkL.rep xs ys vs h h1⟩
    · rename_i xs ys
      simp only [Rep] at hr ⊢
      obtain ⟨vs, e, h1, h2⟩ := hr
      exact ⟨vs, e, WkL.rep xs ys vs h h1, h2⟩
    · subst h; exact hr
theorem WkL.rep : ∀ (xs ys : List AV) (vs : List Value), WkL xs ys → RepL S μ w xs vs → RepL S μ w ys vs
  | [], [], _, _, hr => hr
  | x :: xs, y :: ys, vs, h, hr => by
    simp only [WkL] at h
    simp only [RepL] at hr ⊢
    obtain ⟨v, us, e, h1, h2⟩ := hr
    exact ⟨v, us, e, Wk.rep x y v h.1 h1, WkL.rep xs ys us h.2 h2⟩
  | [], _ :: _, _, h, _ => by simp [WkL] at h
  | _ :: _, [], _, h, _ => by simp [WkL] at h
end
end

def endNW (P : Program) (rs : List ResultVar) (r : AV) (_ : Exit) (σ : St) : Prop := ∃ y, resA P rs σ.env σ.mem = some y ∧ ∃ y', snapN σ.mem.find 12 (unf y) = some y' ∧ Wk y' r
theorem PNew.ofW {f : FuncId} {xs : List AV} {r : AV} (hx : idfL xs = true) (hr : idf r = true) (h : ACalls P γ f xs ⟨[], 0, 0, 0⟩ fun y m => ∃ y', snapN m.find 12 (unf y) = some y' ∧ Wk y' r) : PNew P γ f xs r := by
  refine ⟨hx, hr, h.1, fun S w vs hold hG hxs => ?_⟩
  have hRM : RM S μ0 w ⟨[], 0, 0, 0⟩ := ⟨fun o ob h => by simp [Mem.find, lk] at h, fun o o' ob ob' h => by simp [Mem.find, lk] at h, hold, fun _ _ => rfl, fun o _ h => by simp at h, Nat.le_refl _, fun o b bo h => by simp [μ0] at h⟩
  refine (h.2 S μ0 w vs hRM hG hxs).mono fun e w' he => ?_
  obtain ⟨v, x, m', S', μ', rfl, _, _, hrm, hX, hrep, y', hsn, hwk⟩ := he
  refine ⟨v, rfl, ⟨hX.os, hX.tape, hX.output, hX.size, fun b off h => .inl h, fun b off hb h => ?_, fun b off h => ?_, fun b hb => ?_, hX.uf⟩, ?_⟩
  · rcases h with h | h
    · exact h
    · omega
  · rcases h with h | h
    · have := hold _ _ h; have := hX.size; omega
    · exact h.2
  · exact (hX.blk b hb owned_nil).1
  · refine Wk.rep _ _ _ hwk (snapN_rep hrm (fun b ho off => ?_) 12 (unf x) y' v hsn (unf_rep hrep)).2
    rcases Nat.lt_or_ge b w.heap.size with hlt | hge
    · exact absurd (Or.inl ho) (hX.blk b hlt owned_nil).2
    · have hu := ownedC_uf hrm ho
      obtain ⟨o, ob, bo, _, _, h⟩ := ho
      exact ⟨hge, hrm.bk _ _ _ h, hu⟩
theorem PNew.enterW {f : FuncId} {fn : Func} {c : Code} {xs : List AV} {r : AV} (hf : P.funcs[f]? = some fn) (hb : fn.body = some c) (hn : (fn.name == "runtime.NumGoroutine") = false) (hm : P.follows .mixedOrders = true) (hd : dOK c = true) (hx : idfL xs = true) (hr : idf r = true)
    (h : ev P γ 0 fn.ntmps [.code c, .fin (endNW P fn.results.toList r)] ⟨(xs.zipIdx.map fun p => (p.2, p.1)), ⟨[], 0, 0, 0⟩⟩) : PNew P γ f xs r := by
  refine PNew.ofW hx hr ⟨⟨fn, hf, hn, by rw [hb]; rfl⟩, fun S μ w vs hr hG hxs => ?_⟩
  refine calls_of_wp hf hb ?_
  have hRX : RX γ fn.ntmps 0 ⟨[], 0, 0, 0⟩ S μ w ⟨(xs.zipIdx.map fun p => (p.2, p.1)), ⟨[], 0, 0, 0⟩⟩ { tmps := vs.toArray ++ Array.replicate (fn.ntmps - vs.toArray.size) undef, defers := [] } w :=
    ⟨S, μ, ⟨hr, args_env hxs, rfl⟩, hG, ⟨rfl, rfl, rfl, Nat.le_refl _, fun _ _ => rfl, fun _ _ h => h, Nat.le_refl _, fun _ _ h => h, fun _ _ _ h => .inl h, fun _ _ _ => rfl, fun _ _ _ _ _ h => h, fun _ _ h => ⟨rfl, h⟩, fun _ => Nat.le_refl _, fun _ _ h => h⟩, by simp; omega, Nat.zero_le _, Nat.zero_le _⟩
  have fin : ∀ (e : Exit) (σ : St) (a : Act) (w' : World), endNW P fn.results.toList r e σ → RX γ fn.ntmps 0 ⟨[], 0, 0, 0⟩ S μ w σ a w' → a.defers = [] ∧ ∃ v, (results fn a.tmps).run P w' = .ok v w' ∧
      ∃ v0 x m' S' μ', Ending.returned v = .returned v0 ∧ m'.base = 0 ∧ m'.wid = 0 ∧ RM S' μ' w' m' ∧ Ext 0 ⟨[], 0, 0, 0⟩ S μ w m' S' μ' w' ∧ Rep S' μ' w' x v0 ∧ ∃ y', snapN m'.find 12 (unf x) = some y' ∧ Wk y' r := by
    intro e σ a w' hE hR
    obtain ⟨S', μ', hA, hG', hX, _, _, _⟩ := hR
    obtain ⟨y, h1, h2⟩ := hE
    obtain ⟨v, h3, h4⟩ := res_run hA.rm hA.env h1
    exact ⟨hA.defers, v, h3, v, y, ⟨σ.mem.objs, σ.mem.next, 0, 0⟩, S', μ', rfl, rfl, rfl, ⟨hA.rm.obj, hA.rm.inj, hA.rm.old, hA.rm.fr, fun o _ h => by simp at h, Nat.zero_le _, hA.rm.bk⟩, hX.same (fun _ => rfl) rfl, h4, h2⟩
  refine wp_mono (ev_sound hm _ c [.fin (endNW P fn.results.toList r)] _ _ w hd (Nat.le_refl _) h hRX) fun e a w' hp => ?_
  cases e with
  | normal =>
    obtain ⟨σ, h1, h2⟩ := hp
    rw [ev] at h1
    exact fin .normal σ a w' h1 h2
  | ret =>
    obtain ⟨σ, Q, h1, h2, h3⟩ := hp
    simp only [retK, Option.some.injEq] at h1
    subst h1
    exact fin .ret σ a w' h2 h3
  | exit id =>
    obtain ⟨σ, k', h1, _⟩ := hp
    simp [exitK] at h1
  | _ => exact hp.elim
theorem PNew.startW {f : FuncId} {fn : Func} {c : Code} {rs : List ResultVar} {nt : Nat} {xs : List AV} {r : AV} (hf : P.funcs[f]? = some fn) (hb : fn.body = some c) (hn : (fn.name == "runtime.NumGoroutine") = false) (hrs : fn.results = rs.toArray) (hnt : fn.ntmps = nt) (hm : P.follows .mixedOrders = true) (hd : dOK c = true) (hx : idfL xs = true) (hr : idf r = true)
    (h : ev P γ 0 nt [.code c, .fin (endNW P rs r)] ⟨(xs.zipIdx.map fun p => (p.2, p.1)), ⟨[], 0, 0, 0⟩⟩) : PNew P γ f xs r := by
  refine PNew.enterW hf hb hn hm hd hx hr ?_
  rw [hrs, hnt]
  simpa using h
def WkO (y : Option AV) (r : AV) : Prop := ∃ y', y = some y' ∧ Wk y' r
def endTW (m : Mem) (y : Option AV) (r : AV) : Prop := WkO (y.bind fun y => snapN m.find 12 (unf y)) r
theorem endNW_eq {rs : List ResultVar} {r : AV} {e : Exit} {env : List (Nat × AV)} {m : Mem} : endNW P rs r e ⟨env, m⟩ = endTW m (resA P rs env m) r := by
  simp only [endNW, endTW, WkO, eq_iff_iff]
  constructor
  · rintro ⟨y, h1, h2⟩; rw [h1]; exact h2
  · rintro ⟨y', h, h2⟩
    simp only [Option.bind_eq_some_iff] at h
    obtain ⟨y, h3, h4⟩ := h
    exact ⟨y, h3, y', h4, h2⟩
theorem endTW_some {m : Mem} {y r : AV} : endTW m (some y) r = WkO (snapN m.find 12 (unf y)) r := (rfl)
theorem WkO_some {y r : AV} : WkO (some y) r = Wk y r := by simp [WkO]
theorem WkO_Cnd {c : Prop} {y : Option AV} {r : AV} : WkO (Cnd c y) r = (c ∧ WkO y r) := by
  unfold Cnd WkO; by_cases h : c <;> simp [h]
theorem Wk_refl : ∀ (x : AV), Wk x x
  | .tup xs => by simp only [Wk]; exact go xs
  | .agg xs => by simp only [Wk]; exact go xs
  | .v x => by unfold Wk; split <;> simp_all
  | .seq _ _ _ => by simp [Wk]
  | .full _ _ _ => by simp [Wk]
  | .slc _ _ _ _ => by simp [Wk]
  | .rop _ => by simp [Wk]
  | .ptr _ _ => by simp [Wk]
  | .sl _ _ _ _ => by simp [Wk]
  | .mp _ => by simp [Wk]
  | .mv _ _ _ => by simp [Wk]
  | .it _ => by simp [Wk]
  | .clo _ _ _ => by simp [Wk]
  | .ifc _ _ => by simp [Wk]
  | .on _ _ _ => by simp [Wk]
  | .bs _ _ => by simp [Wk]
  | .bp _ => by simp [Wk]
  | .top => by simp [Wk]
where go : ∀ (xs : List AV), WkL xs xs
  | [] => by simp [WkL]
  | x :: xs => by simp only [WkL]; exact ⟨Wk_refl x, go xs⟩
theorem Wk_nil {n z : Nat} {xs : List AV} : Wk (.v (.slice none 0 0)) (.seq n z xs) = (n = 0 ∧ xs = []) := by simp [Wk]
theorem Wk_mnil {kt : KT} {ks : List Value} {xs : List AV} : Wk (.v (.map none)) (.mv kt ks xs) = (ks = [] ∧ xs = []) := by simp [Wk]
theorem Wk_v {p q : Value} : Wk (.v p) (.v q) = (p = q) := by
  have h : Wk (.v p) (.v q) = ((AV.v p) = (AV.v q)) := by
    unfold Wk
    split
    · rename_i h; cases h
    · rename_i h; cases h
    · rename_i h; cases h
    · rename_i h; cases h
    · rfl
  rw [h, eq_iff_iff]
  exact ⟨fun e => by injection e, fun e => by rw [e]⟩
theorem Wk_seq {n z : Nat} {xs : List AV} {y : AV} : Wk (.seq n z xs) y = (.seq n z xs = y) := by simp [Wk]
theorem Wk_mv {k : KT} {ks : List Value} {xs : List AV} {y : AV} : Wk (.mv k ks xs) y = (.mv k ks xs = y) := by simp [Wk]
theorem Wk_rop {xs : List AV} {y : AV} : Wk (.rop xs) y = (.rop xs = y) := by simp [Wk]
theorem Wk_tup {xs ys : List AV} : Wk (.tup xs) (.tup ys) = WkL xs ys := by simp [Wk]
theorem Wk_agg {xs ys : List AV} : Wk (.agg xs) (.agg ys) = WkL xs ys := by simp [Wk]
theorem WkL_nil : WkL [] [] = True := by simp [WkL]
theorem WkL_cons {x y : AV} {xs ys : List AV} : WkL (x :: xs) (y :: ys) = (Wk x y ∧ WkL xs ys) := by simp [WkL]
attribute [push_cast] endNW_eq endTW_some WkO_some WkO_Cnd Wk_nil Wk_mnil Wk_v Wk_seq Wk_mv Wk_rop Wk_tup Wk_agg WkL_nil WkL_cons
end Go.AW
namespace Go.AW
variable {P : Program} {γ : GTab}

theorem rcF_ok (hm : P.follows .mixedOrders = true) (fuel : Nat) {call : CallF} (hc : CallOK P γ call) {g : FuncId} {xs : List AV} {m m' : Mem} {x : AV} {lv : Option (List Nat)} (h : rcF P γ call lv fuel P.funcs[g]? xs m = some (x, m')) {K : AV → Mem → Prop} (hK : K x m') : ACalls P γ g xs m K := by
  unfold rcF at h
  split at h
  · rename_i fn hf
    split at h
    · rename_i c hb
      split at h
      · rename_i hcc
        split at h
        · rename_i σ hr
          split at h
          · rename_i y hy
            split at h
            · rename_i hk
              simp only [Option.some.injEq, Prod.mk.injEq] at h
              obtain ⟨rfl, rfl⟩ := h
              refine ACalls.enter hf hb hcc.1 hm hcc.2 (rk_ok hc fuel [.code c] _ _ ⟨_, rfl, _, rfl, ?_, ?_⟩ hr)
              · exact ⟨y, hy, hk, hK⟩
              · exact ⟨y, hy, hk, hK⟩
            · cases h
          · cases h
        · cases h
      · cases h
    · cases h
  · cases h

/-- Calls of these functions are taken by what they make, all others are gone into. -/
def wrapP (pn : List FuncId) (call : CallF) : CallF := fun g xs m =>
  if pn.contains g then
    match snapArgs m.find xs with
    | some p => match pN call g p.1 with
      | some r => some (r, m)
      | none => call g xs m
    | none => call g xs m
  else call g xs m
theorem wrapP_ok (pn : List FuncId) {call : CallF} (hc : CallOK P γ call) : CallOK P γ (wrapP pn call) := by
  intro g xs m x m' h K hK
  unfold wrapP at h
  split at h
  · split at h
    · rename_i p hp
      split at h
      · rename_i r hr
        simp only [Option.some.injEq, Prod.mk.injEq] at h
        obtain ⟨rfl, rfl⟩ := h
        exact Fit.use (.inr (PNew.of_run hc hr)) hp hK
      · exact hc _ _ _ _ _ h _ hK
    · exact hc _ _ _ _ _ h _ hK
  · exact hc _ _ _ _ _ h _ hK
/-! A table of closed calls that are known. -/
def beqV : Value → Value → Bool
  | .int k a, .int k' b => kbeq k k' && decide (a = b)
  | .bool a, .bool b => a == b
  | .string a, .string b => decide (a = b)
  | _, _ => false
theorem beqV_eq {x y : Value} (h : beqV x y = true) : x = y := by
  unfold beqV at h
  split at h
  · simp only [Bool.and_eq_true, decide_eq_true_eq] at h
    rw [kbeq_eq h.1, h.2]
  · rw [beq_iff_eq] at h; rw [h]
  · rw [decide_eq_true_eq] at h; rw [h]
  · cases h
mutual
def beqA : AV → AV → Bool
  | .v x, .v y => beqV x y
  | .agg xs, .agg ys => beqL xs ys
  | .seq n z xs, .seq n' z' ys => Nat.beq n n' && Nat.beq z z' && beqL xs ys
  | _, _ => false
def beqL : List AV → List AV → Bool
  | [], [] => true
  | x :: xs, y :: ys => beqA x y && beqL xs ys
  | _, _ => false
end
mutual
theorem beqA_eq : ∀ (x y : AV), beqA x y = true → x = y
  | .v x, y, h => by
    cases y <;> simp only [beqA, Bool.false_eq_true] at h
    rw [beqV_eq h]
  | .agg xs, y, h => by
    cases y <;> simp only [beqA, Bool.false_eq_true] at h
    rw [beqL_eq xs _ h]
  | .seq n z xs, y, h => by
    cases y <;> simp only [beqA, Bool.false_eq_true, Bool.and_eq_true] at h
    rw [Nat.eq_of_beq_eq_true h.1.1, Nat.eq_of_beq_eq_true h.1.2, beqL_eq xs _ h.2]
  | .tup _, y, h => by simp [beqA] at h
  | .full _ _ _, y, h => by simp [beqA] at h
  | .slc _ _ _ _, y, h => by simp [beqA] at h
  | .rop _, y, h => by simp [beqA] at h
  | .ptr _ _, y, h => by simp [beqA] at h
  | .sl _ _ _ _, y, h => by simp [beqA] at h
  | .mp _, y, h => by simp [beqA] at h
  | .mv _ _ _, y, h => by simp [beqA] at h
  | .it _, y, h => by simp [beqA] at h
  | .clo _ _ _, y, h => by simp [beqA] at h
  | .ifc _ _, y, h => by simp [beqA] at h
  | .on _ _ _, y, h => by simp [beqA] at h
  | .bs _ _, y, h => by simp [beqA] at h
  | .bp _, y, h => by simp [beqA] at h
  | .top, y, h => by simp [beqA] at h
theorem beqL_eq : ∀ (xs ys : List AV), beqL xs ys = true → xs = ys
  | [], ys, h => by
    cases ys with
    | nil => rfl
    | cons y ys => simp [beqL] at h
  | x :: xs, ys, h => by
    cases ys with
    | nil => simp [beqL] at h
    | cons y ys =>
      simp only [beqL, Bool.and_eq_true] at h
      rw [beqA_eq x y h.1, beqL_eq xs ys h.2]
end
abbrev Tbl := List (FuncId × List AV × AV)
def findT : Tbl → FuncId → List AV → Option AV
  | [], _, _ => none
  | e :: t, g, xs => match Nat.beq e.1 g with
    | true => match beqL e.2.1 xs with
      | true => some e.2.2
      | false => findT t g xs
    | false => findT t g xs
def hasT : Tbl → FuncId → Bool
  | [], _ => false
  | e :: t, g => match Nat.beq e.1 g with
    | true => true
    | false => hasT t g
def TblOK (P : Program) (γ : GTab) : Tbl → Prop
  | [] => True
  | e :: t => PCall P γ e.1 e.2.1 e.2.2 ∧ TblOK P γ t
theorem findT_ok : ∀ {t : Tbl} {g : FuncId} {xs : List AV} {r : AV}, TblOK P γ t → findT t g xs = some r → PCall P γ g xs r
  | [], _, _, _, _, h => by cases h
  | e :: t, g, xs, r, ht, h => by
    simp only [findT] at h
    split at h
    · rename_i hg
      split at h
      · rename_i hx
        simp only [Option.some.injEq] at h
        rw [← Nat.eq_of_beq_eq_true hg, ← beqL_eq _ _ hx, ← h]
        exact ht.1
      · exact findT_ok ht.2 h
    · exact findT_ok ht.2 h
def wrapT (t : Tbl) (call : CallF) : CallF := fun g xs m =>
  match hasT t g with
  | true => match snapArgs m.find xs with
    | some p => match findT t g p.1 with
      | some r => match scalar r || p.2.isEmpty with
        | true => some (r, m)
        | false => call g xs m
      | none => call g xs m
    | none => call g xs m
  | false => call g xs m
theorem wrapT_ok {t : Tbl} (ht : TblOK P γ t) {call : CallF} (hc : CallOK P γ call) : CallOK P γ (wrapT t call) := by
  intro g xs m x m' h K hK
  unfold wrapT at h
  split at h
  · split at h
    · rename_i p hp
      split at h
      · rename_i r hr
        split at h
        · rename_i hs
          simp only [Option.some.injEq, Prod.mk.injEq] at h
          obtain ⟨rfl, rfl⟩ := h
          refine Fit.use (.inl ⟨findT_ok ht hr, ?_⟩) hp hK
          simpa using hs
        · exact hc _ _ _ _ _ h _ hK
      · exact hc _ _ _ _ _ h _ hK
    · exact hc _ _ _ _ _ h _ hK
  · exact hc _ _ _ _ _ h _ hK

/-- How closed calls are run: what is known, what is taken by what it makes, what is kept at loops' heads. -/
structure Plan where
  tbl : Tbl
  pn : List FuncId
  lvt : List (Nat × List Nat)
noncomputable def rcx (P : Program) (γ : GTab) (pl : Plan) (fuel : Nat) : Nat → CallF
  | 0 => fun _ _ _ => none
  | d + 1 => fun g xs m => rcF P γ (wrapT pl.tbl (wrapP pl.pn (rcx P γ pl fuel d))) (lkF pl.lvt g) fuel P.funcs[g]? xs m
theorem rcx_ok (hm : P.follows .mixedOrders = true) {pl : Plan} (ht : TblOK P γ pl.tbl) (fuel : Nat) : ∀ d, CallOK P γ (rcx P γ pl fuel d)
  | 0 => fun g xs m x m' h => by simp [rcx] at h
  | d + 1 => fun _ _ _ _ _ h _ hK => rcF_ok hm fuel (wrapT_ok ht (wrapP_ok pl.pn (rcx_ok hm ht fuel d))) h hK

/-- A CLOSED CALL, by a plan. -/
theorem PCall.closedx (pl : Plan) (fuel d : Nat) (hm : P.follows .mixedOrders = true) (ht : TblOK P γ pl.tbl) {g : FuncId} {xs : List AV} {r : AV} (h : pC (rcx P γ pl fuel d) g xs = some r) : PCall P γ g xs r := PCall.of_run (rcx_ok hm ht fuel d) h
theorem PNew.closedx (pl : Plan) (fuel d : Nat) (hm : P.follows .mixedOrders = true) (ht : TblOK P γ pl.tbl) {g : FuncId} {xs : List AV} {r : AV} (h : pN (rcx P γ pl fuel d) g xs = some r) : PNew P γ g xs r := PNew.of_run (rcx_ok hm ht fuel d) h
end Go.AW
namespace Go.AW
variable {P : Program} {γ : GTab} {m : Mem}

theorem DCall.useV {g : FuncId} {xs : List AV} {x : AV} {K : AV → Prop} (hp : PCall P γ g xs x) (hK : K x) : DCall P γ g xs [] K := ⟨x, .inl ⟨hp, .inr rfl⟩, hK⟩
theorem DCall.useS {g : FuncId} {xs : List AV} {ids : List Nat} {x : AV} {K : AV → Prop} (hp : PCall P γ g xs x) (hs : scalar x = true) (hK : K x) : DCall P γ g xs ids K := ⟨x, .inl ⟨hp, .inl hs⟩, hK⟩
theorem DCall.useN {g : FuncId} {xs : List AV} {ids : List Nat} {x : AV} {K : AV → Prop} (hp : PNew P γ g xs x) (hK : K x) : DCall P γ g xs ids K := ⟨x, .inr hp, hK⟩

theorem okLog_e {all : Array Oper} {i : Nat} {log : Log} : okLog all i [] [] log = true := by
  unfold okLog
  have : ∀ a : List Nat, meet [] a = false := fun a => by unfold meet; simp
  simp [this]
theorem evDC2.useV {all : Array Oper} {i : Nat} {log : Log} {g : FuncId} {f : Nat → Option AObj} {xs : List AV} {r : AV} {dst : Option Nat} {σ : St} {K : Log → St → Prop} (hp : PCall P γ g xs r) (h1 : dstB σ.mem dst = true) (hK : K ((i, [], []) :: log) ⟨putE dst r σ.env, σ.mem⟩) : evDC2 P γ all i log g (snapArgs f xs) dst σ K := by
  rw [snapArgs_idf hp.1]
  exact ⟨dstB_ok h1, .inl ⟨okLog_e, DCall.useV hp hK⟩⟩
theorem evDC2.useN {all : Array Oper} {i : Nat} {log : Log} {g : FuncId} {f : Nat → Option AObj} {xs : List AV} {r : AV} {dst : Option Nat} {σ : St} {K : Log → St → Prop} (hp : PNew P γ g xs r) (h1 : dstB σ.mem dst = true) (hK : K ((i, [], []) :: log) ⟨putE dst r σ.env, σ.mem⟩) : evDC2 P γ all i log g (snapArgs f xs) dst σ K := by
  rw [snapArgs_idf hp.1]
  exact ⟨dstB_ok h1, .inl ⟨okLog_e, DCall.useN hp hK⟩⟩

/-- A call whose result looks at what its arguments look at: their objects are let go. -/
theorem evDC2.useF {all : Array Oper} {i : Nat} {log : Log} {g : FuncId} {f : Nat → Option AObj} {xs ys : List AV} {ids : List Nat} {u : Upd} {r : AV} {dst : Option Nat} {env : List (Nat × AV)} {mem : Mem} {K : Log → St → Prop} (hp : PCall P γ g ys r) (hf : f = mem.find) (hs : snapArgs f xs = some (ys, ids)) (h1 : dstB mem dst = true)
    (hu : deadU mem.find ids = u) (h2 : okLog all i ids (wrOf u) log = true) (hK : K ((i, ids, wrOf u) :: log) ⟨putE dst r env, mem.upd u⟩) : evDC2 P γ all i log g (snapArgs f xs) dst ⟨env, mem⟩ K := by
  rw [hs]
  subst hu
  exact ⟨dstB_ok h1, .inr ⟨h2, r, hp, hK⟩⟩
/-- A call with objects among the arguments, its result a plain value. -/
theorem evDC2.useS {all : Array Oper} {i : Nat} {log : Log} {g : FuncId} {f : Nat → Option AObj} {xs ys : List AV} {ids : List Nat} {r : AV} {dst : Option Nat} {σ : St} {K : Log → St → Prop} (hp : PCall P γ g ys r) (hs : snapArgs f xs = some (ys, ids)) (hsc : scalar r = true) (h1 : dstB σ.mem dst = true)
    (h2 : okLog all i ids [] log = true) (hK : K ((i, ids, []) :: log) ⟨putE dst r σ.env, σ.mem⟩) : evDC2 P γ all i log g (snapArgs f xs) dst σ K := by
  rw [hs]
  exact ⟨dstB_ok h1, .inl ⟨h2, DCall.useS hp hsc hK⟩⟩

structure EntryV where
  key : ByteArray
  values : List ByteArray
  deriving DecidableEq
structure CountV where
  key : ByteArray
  n : Int
  deriving DecidableEq
structure TextV where
  name : ByteArray
  chars : ByteArray
  deriving DecidableEq
structure DocV where
  entries : List EntryV
  counts : List CountV
  texts : List TextV
  deriving DecidableEq

def ecell (e : EntryV) : List AV := [.v (.string e.key), .seq e.values.length 1 (flat scell e.values)]
def ccell (c : CountV) : List AV := [.v (.string c.key), .v (.int .i64 c.n)]
def tcell (c : TextV) : List AV := [.v (.string c.name), .v (.string c.chars)]
def docL (d : DocV) : List AV := [.seq d.entries.length 2 (flat ecell d.entries), .seq d.counts.length 2 (flat ccell d.counts), .seq d.texts.length 2 (flat tcell d.texts)]

theorem ecell_length (p : EntryV) : (ecell p).length = 2 := (rfl)
theorem ccell_length (p : CountV) : (ccell p).length = 2 := (rfl)
theorem tcell_length (p : TextV) : (tcell p).length = 2 := (rfl)
theorem idfL_ecell (p : EntryV) : idfL (ecell p) = true := by simp [ecell, idfL, idf, idfL_flat idfL_scell]
theorem idfL_ccell (p : CountV) : idfL (ccell p) = true := by simp [ccell, idfL, idf]
theorem idfL_tcell (p : TextV) : idfL (tcell p) = true := by simp [tcell, idfL, idf]
theorem idfL_docL (d : DocV) : idfL (docL d) = true := by simp [docL, idfL, idf, idfL_flat idfL_ecell, idfL_flat idfL_ccell, idfL_flat idfL_tcell]
theorem eflat_drop (l : List EntryV) (i : Nat) (hi : i < l.length) : (flat ecell l).drop (i * 2) = ecell l[i] ++ flat ecell (l.drop (i + 1)) := flat_drop (f := ecell) (sz := 2) ecell_length l i hi
theorem ctflat_drop (l : List CountV) (i : Nat) (hi : i < l.length) : (flat ccell l).drop (i * 2) = ccell l[i] ++ flat ccell (l.drop (i + 1)) := flat_drop (f := ccell) (sz := 2) ccell_length l i hi
theorem tflat_drop (l : List TextV) (i : Nat) (hi : i < l.length) : (flat tcell l).drop (i * 2) = tcell l[i] ++ flat tcell (l.drop (i + 1)) := flat_drop (f := tcell) (sz := 2) tcell_length l i hi
theorem ecell_take {p : EntryV} {l : List AV} : (ecell p ++ l).take 2 = ecell p := (rfl)
theorem ccell_take {p : CountV} {l : List AV} : (ccell p ++ l).take 2 = ccell p := (rfl)
theorem tcell_take {p : TextV} {l : List AV} : (tcell p ++ l).take 2 = tcell p := (rfl)
theorem ecell_0 {p : EntryV} : (ecell p)[0]? = some (.v (.string p.key)) := (rfl)
theorem ecell_1 {p : EntryV} : (ecell p)[1]? = some (.seq p.values.length 1 (flat scell p.values)) := (rfl)
theorem ccell_0 {p : CountV} : (ccell p)[0]? = some (.v (.string p.key)) := (rfl)
theorem ccell_1 {p : CountV} : (ccell p)[1]? = some (.v (.int .i64 p.n)) := (rfl)
theorem tcell_0 {p : TextV} : (tcell p)[0]? = some (.v (.string p.name)) := (rfl)
theorem tcell_1 {p : TextV} : (tcell p)[1]? = some (.v (.string p.chars)) := (rfl)
theorem docL_length (d : DocV) : (docL d).length = 3 := (rfl)
theorem docL_0 {d : DocV} : (docL d)[0]? = some (.seq d.entries.length 2 (flat ecell d.entries)) := (rfl)
theorem docL_1 {d : DocV} : (docL d)[1]? = some (.seq d.counts.length 2 (flat ccell d.counts)) := (rfl)
theorem docL_2 {d : DocV} : (docL d)[2]? = some (.seq d.texts.length 2 (flat tcell d.texts)) := (rfl)
theorem setL_ecell {a b : AV} {e : EntryV} : setL [a, b] 0 (ecell e) = ecell e := (rfl)
theorem setL_ccell {a b : AV} {e : CountV} : setL [a, b] 0 (ccell e) = ccell e := (rfl)
theorem setL_tcell {a b : AV} {e : TextV} : setL [a, b] 0 (tcell e) = tcell e := (rfl)
attribute [push_cast] setL_ecell setL_ccell setL_tcell
attribute [push_cast] eflat_drop ctflat_drop tflat_drop ecell_take ccell_take tcell_take ecell_0 ecell_1 ccell_0 ccell_1 tcell_0 tcell_1 ecell_length ccell_length tcell_length docL_length docL_0 docL_1 docL_2
theorem idfL_eflat {l : List EntryV} : idfL (flat ecell l) = true := idfL_flat idfL_ecell l
theorem idfL_ctflat {l : List CountV} : idfL (flat ccell l) = true := idfL_flat idfL_ccell l
theorem idfL_tflat {l : List TextV} : idfL (flat tcell l) = true := idfL_flat idfL_tcell l
theorem eflat_length {l : List EntryV} : (flat ecell l).length = l.length * 2 := flat_length ecell_length l
theorem ctflat_length {l : List CountV} : (flat ccell l).length = l.length * 2 := flat_length ccell_length l
theorem tflat_length {l : List TextV} : (flat tcell l).length = l.length * 2 := flat_length tcell_length l
attribute [push_cast] idfL_eflat idfL_ctflat idfL_tflat idfL_ecell idfL_ccell idfL_tcell idfL_docL eflat_length ctflat_length tflat_length
theorem nilA_nilv {p : Value} : nilA (.v p) (.v (.slice none 0 0)) = false := (rfl)
theorem ecell_a0 {p : EntryV} {l : List AV} : (ecell p ++ l)[0]? = some (.v (.string p.key)) := (rfl)
theorem ecell_d1 {p : EntryV} {l : List AV} : (ecell p ++ l).drop 1 = .seq p.values.length 1 (flat scell p.values) :: l := (rfl)
theorem ecell_e1 {p : EntryV} : (ecell p).drop 1 = [.seq p.values.length 1 (flat scell p.values)] := (rfl)
theorem ccell_a0 {p : CountV} {l : List AV} : (ccell p ++ l)[0]? = some (.v (.string p.key)) := (rfl)
theorem ccell_d1 {p : CountV} {l : List AV} : (ccell p ++ l).drop 1 = .v (.int .i64 p.n) :: l := (rfl)
theorem ccell_e1 {p : CountV} : (ccell p).drop 1 = [.v (.int .i64 p.n)] := (rfl)
theorem tcell_a0 {p : TextV} {l : List AV} : (tcell p ++ l)[0]? = some (.v (.string p.name)) := (rfl)
theorem tcell_d1 {p : TextV} {l : List AV} : (tcell p ++ l).drop 1 = .v (.string p.chars) :: l := (rfl)
theorem tcell_e1 {p : TextV} : (tcell p).drop 1 = [.v (.string p.chars)] := (rfl)
theorem docL_d1 {d : DocV} : (docL d).drop 1 = [.seq d.counts.length 2 (flat ccell d.counts), .seq d.texts.length 2 (flat tcell d.texts)] := (rfl)
theorem docL_d2 {d : DocV} : (docL d).drop 2 = [.seq d.texts.length 2 (flat tcell d.texts)] := (rfl)
attribute [push_cast] nilA_nilv ecell_a0 ecell_d1 ecell_e1 ccell_a0 ccell_d1 ccell_e1 tcell_a0 tcell_d1 tcell_e1 docL_d1 docL_d2
end Go.AW
