/- A law that writes into a result: in two parts. -/
import Derived.Test.YteoodenfggmpfaaCZ20
namespace Go.AW
open Proofs
variable {P : Program}

theorem PCall.thawed {f : FuncId} {fn : Func} {c : Code} {rs : List ResultVar} {nt : Nat} {D0 : List AV} {L0 L2 : AV} {es : List EntryV} (hf : P.funcs[f]? = some fn) (hb : fn.body = some c) (hn : (fn.name == "runtime.NumGoroutine") = false) (hrs : fn.results = rs.toArray) (hnt : fn.ntmps = nt) (hm : P.follows .mixedOrders = true) (hd : dOK c = true) (hd2 : dOK (cutR 5 c) = true) (h7 : (cutL 5 c).length = 5)
    (hD : idfL D0 = true) (hL0 : idf L0 = true) (hL2 : idf L2 = true)
    (hA : ∀ T0, ev P [] 0 nt (codesK (fun e σ => e = .normal ∧ ∃ T1 T2 N, (∀ b, N b → ¬ T0 b ∧ ¬ T1 b ∧ ¬ T2 b) ∧ ThawAt T0 T1 T2 N D0 L0 L2 es σ) (cutL 5 c)) ⟨[(0, .agg (D0.map (.on T0 false))), (1, .on T0 false L0)], ⟨[(0, .past T0)], 1, 1, 0⟩⟩)
    (hB : ev P [] 0 nt [.code (cutR 5 c), .fin (fun _ σ => resA P rs σ.env σ.mem = some (.v (.bool true)))] (thawSt D0 L0 L2 es)) : PCall P [] f [.agg D0, L0] (.v (.bool true)) := by
  subst hnt
  refine ⟨by simp [idfL, idf, hD, hL0], rfl, ⟨fn, hf, hn, by rw [hb]; rfl⟩, fun S w vs hold hG hxs => ?_⟩
  refine calls_of_wp hf hb ?_
  have hxs2 : RepL S μ0 w [.agg (D0.map (.on (fun b => b < w.heap.size) false)), .on (fun b => b < w.heap.size) false L0] vs := by
    have h1 : RepL (fun b off => S b off ∧ b < w.heap.size) μ0 w [.agg D0, L0] vs := RepL.less (fun b off h => ⟨h, hold b off h⟩) hxs
    simp only [RepL] at h1 ⊢
    obtain ⟨y1, z1, rfl, r1, y2, z2, rfl, r2, rfl⟩ := h1
    exact ⟨y1, _, rfl, tagD_rep (T := fun b => b < w.heap.size) r1, y2, _, rfl, on_rep (T := fun b => b < w.heap.size) r2, rfl⟩
  have hRM : RM S μ0 w ⟨[(0, .past fun b => b < w.heap.size)], 1, 1, 0⟩ := by
    refine ⟨fun o ob h => ?_, fun o o' ob ob' h h' ho => ?_, hold, fun _ _ => rfl, fun o h1 h2 => ?_, Nat.le_refl _, fun o b bo h => by simp [μ0] at h⟩
    · simp only [Mem.find, lk] at h
      split at h
      · rename_i e; subst e; cases h; exact ⟨by show 0 < 1; omega, by simp only [RepO]; exact fun b h => h⟩
      · cases h
    · simp only [Mem.find, lk] at h
      split at h
      · cases h; cases ho
      · cases h
    · simp only at h1 h2; omega
  have hE : Ext 0 ⟨[], 0, 0, 0⟩ S μ0 w ⟨[(0, .past fun b => b < w.heap.size)], 1, 1, 0⟩ S μ0 w := by
    refine ⟨rfl, rfl, rfl, Nat.le_refl _, fun _ _ => rfl, fun o ho => by omega, Nat.zero_le _, fun _ _ h => h, fun _ _ _ h => .inl h, fun _ _ _ => rfl, fun _ _ _ _ _ h => h, fun b _ _ => ⟨rfl, fun hx => ?_⟩, fun _ => Nat.le_refl _, fun _ _ h => h⟩
    rcases hx with ⟨o, ob, bo, h1, h2, h3⟩ | ⟨o, b0, code, h1, h2, h3⟩
    · cases h3
    · cases h2
  have hRX : RX [] fn.ntmps 0 ⟨[], 0, 0, 0⟩ S μ0 w ⟨[(0, .agg (D0.map (.on (fun b => b < w.heap.size) false))), (1, .on (fun b => b < w.heap.size) false L0)], ⟨[(0, .past fun b => b < w.heap.size)], 1, 1, 0⟩⟩ { tmps := vs.toArray ++ Array.replicate (fn.ntmps - vs.toArray.size) undef, defers := [] } w :=
    ⟨S, μ0, ⟨hRM, args_env hxs2, rfl⟩, hG, hE, by simp; omega, Nat.zero_le _, Nat.zero_le _⟩
  refine cut_sound hm 5 c _ _ w hd (hA fun b => b < w.heap.size) hRX h7 (fun σ a w1 hQ hR => ?_) (fun σ a w1 hQ _ => by cases hQ.1)
  obtain ⟨_, T1, T2, N, hT, hth⟩ := hQ
  obtain ⟨S1, μ1, hA1, _, hX, hN, _, _⟩ := hR
  obtain ⟨S', μ', hA', hown⟩ := thaw hD hL0 hL2 hT hth hA1
  have hRX2 : RX [] fn.ntmps 0 (thawSt D0 L0 L2 es).mem S' μ' w1 (thawSt D0 L0 L2 es) a w1 :=
    ⟨S', μ', hA', GOK.nil, Ext.refl (Nat.zero_le _), hN, Nat.zero_le _, Nat.zero_le _⟩
  have hnot : ∀ b, b < w.heap.size → ¬ Owned (thawSt D0 L0 L2 es).mem μ' b := fun b hb ho => by
    rcases hown b ho with h | h
    · exact (hX.blk b hb owned_nil).2 h
    · exact (hT b h).1 hb
  have fin : ∀ (σ : St) (a : Act) (w' : World), resA P rs σ.env σ.mem = some (.v (.bool true)) → RX [] fn.ntmps 0 (thawSt D0 L0 L2 es).mem S' μ' w1 σ a w' → a.defers = [] ∧ ∃ v, (results fn a.tmps).run P w' = .ok v w' ∧ ∃ u S2, Ending.returned v = .returned u ∧ Ext0 S w S2 w' ∧ Rep S2 μ0 w' (.v (.bool true)) u := by
    intro σ a w' hr hR
    obtain ⟨S3, μ3, hA3, _, hX3, _, _, _⟩ := hR
    obtain ⟨v, h3, h4⟩ := res_run hA3.rm hA3.env (fn := fn) (by rw [hrs]; simpa using hr)
    refine ⟨hA3.defers, v, h3, v, S, rfl, ⟨hX3.os.trans hX.os, hX3.tape.trans hX.tape, hX3.output.trans hX.output, Nat.le_trans hX.size hX3.size, fun _ _ h => h, fun _ _ _ h => h, fun b off h => Nat.lt_of_lt_of_le (hold b off h) (Nat.le_trans hX.size hX3.size), fun b hb => ?_, fun b hb hu => ?_⟩, by simpa [Rep] using h4⟩
    · exact ((hX3.blk b (Nat.lt_of_lt_of_le hb hX.size) (hnot b hb)).1).trans (hX.blk b hb owned_nil).1
    · exact hX3.uf b (Nat.lt_of_lt_of_le hb hX.size) (hX.uf b hb hu)
  refine wp_mono (ev_sound hm _ (cutR 5 c) _ _ a w1 hd2 (Nat.le_refl _) hB hRX2) fun e a w' hp => ?_
  cases e with
  | normal =>
    obtain ⟨σ, h1, h2⟩ := hp
    rw [ev] at h1
    exact fin σ a w' h1 h2
  | ret =>
    obtain ⟨σ, Q, h1, h2, h3⟩ := hp
    simp only [retK, Option.some.injEq] at h1
    subst h1
    exact fin σ a w' h2 h3
  | exit id =>
    obtain ⟨σ, k', h1, _⟩ := hp
    simp [exitK] at h1
  | _ => exact hp.elim
end Go.AW
