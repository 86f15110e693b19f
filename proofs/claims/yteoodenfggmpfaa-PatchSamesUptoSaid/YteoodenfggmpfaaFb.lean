/- Abstract values and an evaluator over the given code, proved right: part Fb. -/
import Derived.Test.YteoodenfggmpfaaFa
import Derived.Lib.ConvBytes
import Derived.Laws.BytesArg
import Derived.Laws.BytesString
import Derived.MapKept
import Derived.Scope
/- Each operation does what the evaluator says (5). -/
namespace Go.AW
variable {P : Program} {γ : GTab} {S : Nat → Nat → Prop} {μ μ' : Nat → Option (Nat × Nat)} {w w' : World} {m : Mem} {env : List (Nat × AV)} {a : Act}

/-- A drawn count turns nothing that is read. -/
theorem RM.drew (hr : RM S μ w m) (d : Nat) : RM S μ { w with drawn := d } m := by
  have := (After.drew hr (d := d)).rm
  simpa [Mem.upd] using this
theorem Keeps.drew (S μ) (w : World) (d : Nat) : Keeps S μ w S μ { w with drawn := d } := ⟨fun _ _ => rfl, fun _ _ h => h, fun _ _ _ => rfl, fun _ _ _ _ _ h => h, fun _ => Nat.le_refl _⟩

theorem newrow_cells {old new : List Value} {rest : Array Value} (j : Nat) (hj : j < (old ++ new).length) : (old.toArray ++ new.toArray ++ rest)[j]? = (old ++ new)[j]? := by
  rw [Array.getElem?_append_left (by simpa using hj)]
  simp

theorem run_append_in {sT xT ty e : TypeId} {base : Option Addr} {n0 cap n : Nat} {x : Value} {new : List Value} (ht : telem P sT = some e) (hx : tisint P xT = some false) (htk : tok P e = true)
    (hcap : n0 + n ≤ cap) (hl : ∀ w2 : World, (Builtin.lenOf x).run P w2 = .ok n w2) (hnew : (Builtin.firstCells (tsz P e) n x).run P w = .ok new.toArray w) :
    (Builtin.append_ #[sT, xT] ty #[.slice base n0 cap, x]).run P w = match base with
      | some a => ((storeCells (a.add (n0 * tsz P e)) new).run P w).andThen fun _ w' => .ok (.slice base (n0 + n) cap) w'
      | none => .ok (.slice base (n0 + n) cap) w := by
  obtain ⟨d, hd, hdn⟩ := tisint_false hx
  unfold Builtin.append_
  cases d
  case int k => exact absurd rfl (hdn k)
  all_goals
    simp only [List.getElem?_toArray, List.getElem?_cons_zero, List.getElem?_cons_succ, Sem.run_bind, run_underlying (under_telem ht), run_underlying hd, Result.andThen_ok, run_tsz htk, Bool.false_eq_true, if_false, hl, Sem.run_pure, Sem.run_ite, hcap, if_true, hnew, Bool.not_false]
    cases base <;> simp

theorem tzok_spec {e : TypeId} (h : tzok P e = true) : ∃ z, zval P e = some z ∧ z.cells.size = tsz P e := by
  unfold tzok at h
  cases hz : zval P e with
  | none => simp [hz] at h
  | some z => exact ⟨z, rfl, by simpa [hz] using h⟩

set_option maxHeartbeats 800000 in
theorem ok_append {sT xT ty : TypeId} {s x y : AV} {vs vx : Value} {u : Upd} {fresh : Nat} (hr : RM S μ w m) (hf0 : m.base ≤ fresh) (hf1 : fresh < m.base + m.wid) (hf2 : m.find fresh = none)
    (h : appendF P m.find fresh sT xT s x = some (y, u)) (hs : Rep S μ w s vs) (hx : Rep S μ w x vx) : OkV P S μ w m (Builtin.append_ #[sT, xT] ty #[vs, vx]) y u := by
  unfold appendF at h
  split at h
  · rename_i e hte hti
    split at h
    · rename_i n xs hsrc
      obtain ⟨hlen, news, hn1, _, hn2, hn3, hn4⟩ := src_reads (P := P) hr hsrc hx
      have hxl := hn2.length
      split at h
      · -- onto nil
        split at h
        · rename_i hc
          obtain ⟨htk, hz, hpos, hsmall, hby⟩ := hc
          simp only [Option.some.injEq, Prod.mk.injEq] at h
          obtain ⟨rfl, rfl⟩ := h
          simp only [Rep] at hs
          subst hs
          obtain ⟨z, hz, hzs⟩ := tzok_spec hz
          by_cases h0 : n = 0
          · subst h0
            have hxs : xs = [] := List.eq_nil_of_length_eq_zero (by rw [← hxl, hn4]; simp)
            subst hxs
            refine ⟨.slice none 0 0, w, μ, ?_, by simp only [Rep]; exact ⟨none, 0, rfl, Nat.le_refl _, .inl rfl⟩, After.nil hr hf0 hf1 hf2 e true⟩
            have hin := run_append_in (w := w) (ty := ty) (base := none) (n0 := 0) (cap := 0) (n := 0) hte hti htk (Nat.le_refl 0) hlen (hn1 w fun _ => rfl)
            simpa only using hin
          · obtain ⟨cap', rest, h1, h2, h3⟩ := run_append_new (w := w) (base := none) (n0 := 0) (cap := 0) (n := n) (x := vx) (old := []) (new := news) (ty := ty) hte hti htk hz hpos hby (by simpa using hsmall) (by omega) (hlen w) (fun d => rfl) (fun d => hn1 _ fun _ => rfl)
            obtain ⟨μ', h4, h5⟩ := After.row (d := w.drawn + 1) hr hf0 hf1 hf2 e (xs := xs) (ys := [] ++ news) (#[] ++ news.toArray ++ rest) (0, 0) true (by simpa using hn2) (by simpa using hn3) (by simp) (fun j hj => newrow_cells j hj) (by omega)
            refine ⟨_, _, μ', h3, ?_, h4⟩
            simp only [Rep]
            refine ⟨_, cap', by simp, by omega, .inr ⟨_, 0, h5, rfl, ?_⟩⟩
            rw [hzs] at h2
            simp only [bsize, Array.getElem?_push_size, Array.size_append, List.size_toArray, h2, hn4]
            have : n * tsz P e + (cap' - (0 + n)) * tsz P e = cap' * tsz P e := by rw [← Nat.add_mul]; congr 1; omega
            simp only [Nat.zero_add] at this
            simp; omega
        · cases h
      · rename_i o off n0 z0
        split at h
        · rename_i E ys hf
          split at h
          · rename_i hc
            obtain ⟨hz0, hE, htk, hz, hpos, hfull, hsmall, hby⟩ := hc
            subst hz0; subst hE
            simp only [Option.some.injEq, Prod.mk.injEq] at h
            obtain ⟨rfl, rfl⟩ := h
            obtain ⟨z, hz, hzs⟩ := tzok_spec hz
            simp only [Rep] at hs
            obtain ⟨base, cap, rfl, hn0, hbase⟩ := hs
            by_cases hin : n0 + n ≤ cap
            · rcases hbase with hbase | ⟨b, bo, hμ, rfl, hfit⟩
              · -- nothing there, nothing new
                have e0 : n0 = 0 := by omega
                have e1 : n = 0 := by omega
                subst e0; subst e1; subst hbase
                have hxs : xs = [] := List.eq_nil_of_length_eq_zero (by rw [← hxl, hn4]; simp)
                have hys : ys.drop off = [] := List.drop_eq_nil_of_le (by omega)
                have hnews : news = [] := List.eq_nil_of_length_eq_zero (by rw [hn4]; simp)
                subst hxs; subst hnews
                refine ⟨.slice base 0 0, w, μ, ?_, by simp only [Rep]; exact ⟨base, 0, rfl, Nat.le_refl _, .inl rfl⟩, ?_⟩
                · have hin := run_append_in (w := w) (ty := ty) (base := base) (n0 := 0) (cap := 0) (n := 0) hte hti htk (Nat.le_refl 0) hlen (hn1 w fun _ => rfl)
                  rw [hin]
                  cases base <;> simp [storeCells]
                · rw [hys]
                  exact (After.nil hr hf0 hf1 hf2 E true).dead (by rw [hf]; simp)
              · obtain ⟨ys0, c, fz, g1, g2, g3, g4, g5, g6, g7⟩ := obj_cells hr hf hμ
                have hyl := g3.length
                have hbs : bsize w b = c.size := by simp [bsize, g1]
                have hmul : n0 * tsz P E + n * tsz P E ≤ cap * tsz P E := by rw [← Nat.add_mul]; exact Nat.mul_le_mul_right _ hin
                obtain ⟨w', e1, e2, e3, e4, e5, e6, e7, e8⟩ := run_storeRow P b (bo + off + n0 * tsz P E) E fz news 0 w c g1 g2 (by rw [hn4]; omega) hn3
                obtain ⟨μ', h4, h5⟩ := After.retake (w' := w') (bo' := bo + off) (ob' := .cells E (ys.drop off ++ xs) true) hr hf rfl hμ hf0 hf1 hf2 e7 e6 (by simp [bsize, e8, g1, setV_length]) e2 e3 e4 g7 (fun μ' hk hμ' => by
                  simp only [RepO]
                  refine .inr ⟨b, bo + off, ys0.drop off ++ news, _, fz, hμ', e8, by simpa [setV_length] using g2, (RepL.keep hk _ _ (g3.drop off)).append (RepL.keep hk _ _ hn2), fun u hu => ?_, ?_, fun j hj => ?_, g7⟩
                  · rcases List.mem_append.1 hu with h | h
                    · exact g4 u (List.mem_of_mem_drop h)
                    · exact hn3 u h
                  · simp [setV_length, hn4]; omega
                  · simp only [List.length_append, List.length_drop] at hj
                    simp only [List.getElem?_toArray, setV_get, Array.length_toList, Nat.add_zero]
                    by_cases hj2 : j < (ys0.drop off).length
                    · simp only [List.length_drop] at hj2
                      rw [if_neg (by omega), List.getElem?_append_left (by simpa using hj2), List.getElem?_drop]
                      have := g6 (off + j) (by omega)
                      simpa [Nat.add_assoc] using this
                    · simp only [List.length_drop] at hj2
                      rw [if_pos (by omega), List.getElem?_append_right (by simpa using hj2)]
                      congr 1
                      simp only [List.length_drop]
                      omega)
                refine ⟨.slice (some ⟨b, bo + off, none⟩) (n0 + n) cap, w', μ', ?_, ?_, h4⟩
                · rw [run_append_in hte hti htk hin hlen (hn1 w fun _ => rfl)]
                  simp only [addr_add, e1, Result.andThen_ok]
                · simp only [Rep]
                  exact ⟨_, cap, rfl, hin, .inr ⟨b, bo + off, h5, rfl, by simp only [bsize, e8, List.size_toArray, setV_length, Array.length_toList]; omega⟩⟩
            · -- a new row
              have hold : ∃ olds : List Value, (∀ d : Nat, (Builtin.firstCells (tsz P E) n0 (.slice base n0 cap)).run P { w with drawn := d } = .ok olds.toArray { w with drawn := d }) ∧ RepL S μ w (ys.drop off) olds ∧ (∀ u ∈ olds, u.oneCell' = true) ∧ olds.length = n0 * tsz P E := by
                have hsl : srcS m.find (tsz P E) (.sl o off n0 (tsz P E)) = some (n0, ys.drop off) := by
                  simp only [srcS, rdS, hf, if_true]
                  rw [if_pos (by omega), List.take_of_length_le (by simp; omega)]
                obtain ⟨_, olds, h1, _, h2, h3, h4⟩ := src_reads (P := P) hr hsl (v := .slice base n0 cap) (by simp only [Rep]; exact ⟨base, cap, rfl, hn0, hbase⟩)
                exact ⟨olds, fun d => h1 _ fun _ => rfl, h2, h3, h4⟩
              obtain ⟨olds, ho1, ho2, ho3, ho4⟩ := hold
              obtain ⟨cap', rest, h1, h2, h3⟩ := run_append_new (w := w) (base := base) (n0 := n0) (cap := cap) (n := n) (x := vx) (old := olds) (new := news) (ty := ty) hte hti htk hz hpos hby hsmall (by omega) (hlen w) ho1 (fun d => hn1 _ fun _ => rfl)
              obtain ⟨μ', h4, h5⟩ := After.row (d := w.drawn + 1) hr hf0 hf1 hf2 E (xs := ys.drop off ++ xs) (ys := olds ++ news) (olds.toArray ++ news.toArray ++ rest) (0, 0) true (ho2.append hn2) (fun u hu => by
                rcases List.mem_append.1 hu with h | h
                · exact ho3 u h
                · exact hn3 u h) (by simp) (fun j hj => newrow_cells j hj) (by omega)
              refine ⟨_, _, μ', h3, ?_, h4.dead (by rw [hf]; simp)⟩
              simp only [Rep]
              refine ⟨_, cap', rfl, by omega, .inr ⟨_, 0, h5, rfl, ?_⟩⟩
              simp only [bsize, Array.getElem?_push_size, Array.size_append, List.size_toArray, h2, hn4, ho4, hzs]
              have : n0 * tsz P E + n * tsz P E + (cap' - (n0 + n)) * tsz P E = cap' * tsz P E := by rw [← Nat.add_mul, ← Nat.add_mul]; congr 1; omega
              omega
          · cases h
        · cases h
      · cases h
    · cases h
  · cases h

end Go.AW
/- Each operation does what the evaluator says (6). -/
namespace Go.AW
variable {P : Program} {γ : GTab} {S : Nat → Nat → Prop} {μ μ' : Nat → Option (Nat × Nat)} {w w' : World} {m : Mem} {env : List (Nat × AV)} {a : Act}

theorem ok_copy {dT ty : TypeId} {ts : Array TypeId} {d x y : AV} {vd vx : Value} {u : Upd} (hr : RM S μ w m) (hts : ts[0]? = some dT)
    (h : copyF P m.find dT d x = some (y, u)) (hs : Rep S μ w d vd) (hx : Rep S μ w x vx) : OkV P S μ w m (Builtin.copy_ ts ty #[vd, vx]) y u := by
  unfold copyF at h
  split at h
  · rename_i e hte
    split at h
    · rename_i o off n z
      split at h
      · rename_i E ys ap k xs hf hsrc
        split at h
        · rename_i hc
          obtain ⟨rfl, htk, hfit⟩ := hc
          simp only [Option.some.injEq, Prod.mk.injEq] at h
          obtain ⟨rfl, rfl⟩ := h
          obtain ⟨hlen, news, hn1, hnk, hn2, hn3, hn4⟩ := src_reads (P := P) hr hsrc hx
          simp only [Rep] at hs
          obtain ⟨base, cap, rfl, hn0, hbase⟩ := hs
          have hxl := hn2.length
          have hmin : min k n ≤ k := Nat.min_le_left _ _
          have hmul : min k n * tsz P e ≤ n * tsz P e := Nat.mul_le_mul_right _ (Nat.min_le_right _ _)
          have hmul2 : min k n * tsz P e ≤ k * tsz P e := Nat.mul_le_mul_right _ hmin
          have hrun : ∀ (base : Option Addr), (Builtin.copy_ ts ty #[.slice base n cap, vx]).run P w = match base with
              | some a => ((storeCells a (news.take (min k n * tsz P e))).run P w).andThen fun _ w' => .ok (.int .i64 (min k n : Nat)) w'
              | none => .ok (.int .i64 (min k n : Nat)) w := by
            intro base
            have hk2 := hnk (min k n) hmin w (fun _ => rfl)
            unfold Builtin.copy_
            simp only [hts, List.getElem?_toArray, List.getElem?_cons_zero, List.getElem?_cons_succ, Sem.run_bind, run_underlying (under_telem hte), Result.andThen_ok, hlen, run_tsz htk]
            have : Nat.min k n = min k n := rfl
            rw [this]
            simp only [hk2, Result.andThen_ok]
            cases base <;> simp [goInt]
          have hwl : (news.take (min k n * tsz P e)).length = min k n * tsz P e := by rw [List.length_take, hn4]; omega
          rcases hbase with hbase | ⟨b, bo, hμ, rfl, hfit2⟩
          · have hn : n = 0 := by omega
            subst hn
            have hz : min k 0 * tsz P e = 0 := by simp
            have hobj : RepO S μ w o (.cells E (setL ys off (xs.take (min k 0 * tsz P e))) ap) := by
              rw [hz, List.take_zero]; exact (hr.obj _ _ hf).2
            have hsame : After S μ w m [(o, .cells E (setL ys off (xs.take (min k 0 * tsz P e))) ap)] μ w := by
              rw [hz, List.take_zero, setL]
              have h0 := After.pure hr
              refine ⟨⟨fun x ob hx => ?_, fun x y ob ob' hx hy => ?_, hr.old, hr.fr, fun x h1 h2 h3 => ?_, hr.le, hr.bk⟩, .refl _ _ _, ⟨rfl, rfl, rfl, Nat.le_refl _, fun _ _ => rfl, fun x hx hf' => ?_, by have := hr.le; show m.base ≤ m.next; omega, fun _ _ h => h, fun _ _ _ h => .inl h, fun _ _ _ => rfl, fun _ _ _ _ _ h => h, fun b hb hn => ⟨rfl, ?_⟩, fun _ => Nat.le_refl _⟩⟩
              · rw [find_upd1] at hx
                split at hx
                · rename_i e; subst e; simp only [Option.some.injEq] at hx; subst hx; exact hr.obj _ _ hf
                · exact hr.obj _ _ hx
              · rw [find_upd1] at hx hy
                have fix : ∀ {x ob}, (if o = x then some (AObj.cells E ys ap) else m.find x) = some ob → m.find x = some ob := by
                  intro x ob h
                  split at h
                  · rename_i e; subst e; rw [hf]; exact h
                  · exact h
                exact hr.inj x y ob ob' (fix hx) (fix hy)
              · rw [find_upd1]; split
                · simp
                · exact hr.win x h1 h2 h3
              · rw [find_upd1] at hf'; split at hf'
                · rename_i e; subst e; rw [hf]; simp
                · exact hf'
              · rintro ⟨x, ob, bo, h1, h2, h3⟩
                rw [find_upd1] at h1
                split at h1
                · rename_i e; subst e; simp only [Option.some.injEq] at h1; subst h1; exact hn ⟨o, _, bo, hf, h2, h3⟩
                · exact hn ⟨x, ob, bo, h1, h2, h3⟩
            refine ⟨.int .i64 (min k 0 : Nat), w, μ, ?_, by simp [Rep], hsame⟩
            rw [hrun base]
            have hwz : news.take (min k 0 * tsz P e) = [] := List.eq_nil_of_length_eq_zero (by rw [hwl]; simp)
            rw [hwz]
            cases base <;> simp [storeCells]
          · obtain ⟨w', e1, e2⟩ := ok_setrow (P := P) (off := off) hr hf hμ (cs := xs.take (min k n * tsz P e)) (vs := news.take (min k n * tsz P e)) (hn2.take _) (fun u hu => hn3 u (List.mem_of_mem_take hu)) (by rw [List.length_take]; omega)
            refine ⟨.int .i64 (min k n : Nat), w', μ, ?_, by simp [Rep], e2⟩
            rw [hrun (some _)]
            simp only [e1, Result.andThen_ok]
        · cases h
      · cases h
    · cases h
  · cases h

theorem tlenk_spec {t : TypeId} {k : Nat} (h : tlenk P t = some k) : (k = 0 ∧ ∃ e, P.underlying t = some (.slice e)) ∨ (k = 1 ∧ P.underlying t = some .string) ∨ (k = 2 ∧ ∃ q e, P.underlying t = some (.map q e)) := by
  unfold tlenk at h
  cases hu : P.underlying t with
  | none => simp [hu] at h
  | some d =>
    rw [hu] at h
    cases d <;> simp at h
    · subst h; exact .inr (.inl ⟨rfl, rfl⟩)
    · subst h; exact .inl ⟨rfl, _, rfl⟩
    · subst h; exact .inr (.inr ⟨rfl, _, _, rfl⟩)

theorem run_getMap {r : Nat} {es : Array MapEntry} {clock : Nat} (hb : w.heap[r]? = some (.map es clock)) : (getObj r).run P w = .ok (.map es clock) w := by
  simp [getObj, Sem.run, hb]
theorem run_setMap {r : Nat} {es : Array MapEntry} {clock : Nat} (o : Obj) (hb : w.heap[r]? = some (.map es clock)) : (setObj r o).run P w = .ok () { w with heap := w.heap.setIfInBounds r o } := by
  simp [setObj, Sem.run, hb]

theorem ok_len {t ty : TypeId} {ts : Array TypeId} {x : AV} {k n : Nat} {v : Value} (hr : RM S μ w m) (hts : ts[0]? = some t) (h : lenA m.find x = some (k, n)) (hk : tlenk P t = some k) (hx : Rep S μ w x v) :
    OkV P S μ w m (Builtin.len_ ts ty #[v]) (.v (.int .i64 n)) [] := by
  refine OkV.same hr (v := .int .i64 n) ?_ (by simp [Rep])
  rcases tlenk_spec hk with ⟨rfl, e, hu⟩ | ⟨rfl, hu⟩ | ⟨rfl, q, e, hu⟩
  · have hv : ∃ base cap, v = .slice base n cap := by
      unfold lenA at h
      split at h
      · simp at h; subst h; simp only [Rep] at hx; exact ⟨none, 0, hx⟩
      · simp at h
      · simp at h
      · simp at h; subst h; simp only [Rep] at hx; obtain ⟨base, cap, e, _⟩ := hx; exact ⟨base, cap, e⟩
      · simp at h; subst h; simp only [Rep] at hx; obtain ⟨base, cap, e, _⟩ := hx; exact ⟨base, cap, e⟩
      · simp at h
      · split at h <;> simp at h
      · simp at h
    obtain ⟨base, cap, rfl⟩ := hv
    simp [Builtin.len_, hts, run_underlying hu, goInt]
  · have hv : ∃ s : ByteArray, v = .string s ∧ s.size = n := by
      unfold lenA at h
      split at h
      · simp at h
      · simp at h; simp only [Rep] at hx; exact ⟨_, hx, h⟩
      · simp at h
      · simp at h
      · simp at h
      · simp at h
      · split at h <;> simp at h
      · simp at h
    obtain ⟨s, rfl, rfl⟩ := hv
    simp [Builtin.len_, hts, run_underlying hu, goInt]
  · have hv : (v = .map none ∧ n = 0) ∨ ∃ b es clock, v = .map (some b) ∧ w.heap[b]? = some (.map es clock) ∧ es.size = n := by
      unfold lenA at h
      split at h
      · simp at h
      · simp at h
      · simp at h; simp only [Rep] at hx; exact .inl ⟨hx, h.symm⟩
      · simp at h
      · simp at h
      · simp at h
        simp only [Rep] at hx
        rcases hx with ⟨e1, e2, e3⟩ | ⟨b, es, clock, e1, e2, e3, e4, e5, e6⟩
        · subst e2; exact .inl ⟨e1, by simpa using h.symm⟩
        · refine .inr ⟨b, es, clock, e1, e3, ?_⟩
          rw [← h, ← e5]; simp
      · split at h
        · rename_i o _ kt ks xs hf
          simp only [Option.some.injEq, Prod.mk.injEq, true_and] at h
          subst h
          simp only [Rep] at hx
          obtain ⟨b, bo, hμ, rfl⟩ := hx
          have := (hr.obj _ _ hf).2
          simp only [RepO] at this
          obtain ⟨b', bo', es, clock, h1, h2, h3, h4, _⟩ := this
          rw [hμ] at h1
          simp only [Option.some.injEq, Prod.mk.injEq] at h1
          obtain ⟨rfl, rfl⟩ := h1
          exact .inr ⟨b, es, clock, rfl, h2, by rw [← h4]; simp⟩
        · simp at h
      · simp at h
    rcases hv with ⟨rfl, rfl⟩ | ⟨b, es, clock, rfl, hb, rfl⟩
    · simp [Builtin.len_, hts, run_underlying hu, goInt]
    · simp [Builtin.len_, hts, run_underlying hu, goInt, run_getMap hb]

theorem ok_makeSlice {t e : TypeId} {kl kc : IntKind} {l c : Int} {zs : List Value} {fresh : Nat} (hr : RM S μ w m) (hf0 : m.base ≤ fresh) (hf1 : fresh < m.base + m.wid) (hf2 : m.find fresh = none)
    (ht : telem P t = some e) (hz : tz P e = some zs) (htk : tok P e = true) (hl : zs.length = tsz P e) (h0 : 0 ≤ l) (hlc : l ≤ c) (hc : c ≤ 9223372036854775807) (hb : (tby P e : Int) * c ≤ 281474976710656) :
    OkV P S μ w m (Instr.makeSlice t (.int kl l) (.int kc c)) (.sl fresh 0 l.toNat (tsz P e)) [(fresh, .cells e ((List.replicate l.toNat (zs.map AV.v)).flatten) true)] := by
  obtain ⟨z, h1, h2, h3⟩ := tz_zval hz
  obtain ⟨i, hi, his, hib⟩ := info_tok htk
  have hiz : i.zero = some z := by unfold zval at h1; rw [hi] at h1; simpa using h1
  have hrun := run_make (P := P) w t e i z (under_telem ht) hi hiz kl kc l c h0 hlc (by rw [hib]; exact hb) hc
  have hzl : z.cells.size = tsz P e := by rw [← hl, ← h2]; simp
  have hll : l.toNat * tsz P e ≤ c.toNat * tsz P e := Nat.mul_le_mul_right _ (by omega)
  have hfl : ((List.replicate l.toNat zs).flatten).length = l.toNat * tsz P e := by simp [hl]
  obtain ⟨μ', h4, h5⟩ := After.row (d := w.drawn) hr hf0 hf1 hf2 e (xs := ((List.replicate l.toNat zs).flatten).map .v) (ys := (List.replicate l.toNat zs).flatten) (madeCells z.cells (c.toNat * i.size)) (0, 0) true (RepL.of_vals _) (flat_one _ h3) (by rw [hfl, size_madeCells, his]; exact hll) (fun j hj => by
    rw [hfl] at hj
    have hpos : 0 < tsz P e := by
      rcases Nat.eq_zero_or_pos (tsz P e) with e0 | e0
      · rw [e0] at hj; simp at hj
      · exact e0
    rw [flat_rep zs (by rw [hl]; exact hpos) l.toNat j (by rw [hl]; exact hj)]
    have hm : j % tsz P e < tsz P e := Nat.mod_lt _ hpos
    have hjc : j < c.toNat * tsz P e := by omega
    simp only [madeCells, his]
    rw [Array.getElem?_map]
    simp [hjc, hzl, hl, ← h2, hm]) (by omega)
  rw [flat_vals]
  refine ⟨_, _, μ', hrun, ?_, h4⟩
  simp only [Rep]
  exact ⟨_, c.toNat, rfl, by omega, .inr ⟨w.heap.size, 0, h5, rfl, by simp only [bsize, heap_alloc_new, size_madeCells, his]; omega⟩⟩

theorem ok_makeMap {t kT e : TypeId} {kt : KT} {r : Option Value} {fresh : Nat} (hr : RM S μ w m) (hf0 : m.base ≤ fresh) (hf1 : fresh < m.base + m.wid) (hf2 : m.find fresh = none)
    (ht : tmap P t = some (kT, e)) (hh : ∀ v, r = some v → ∃ k n, v = .int k n) : OkV P S μ w m (Instr.makeMap t r) (.mp fresh) [(fresh, .map kt [] [])] := by
  obtain ⟨μ', h4, h5, _⟩ := After.new (w' := { w with heap := w.heap.push (.map #[] 0) }) hr hf0 hf1 hf2 (.map #[] 0) (.map kt [] []) rfl rfl rfl rfl (fun μ' hk _ hμ => by
    simp only [RepO]
    refine ⟨w.heap.size, 0, #[], 0, hμ, by simp, ⟨by simp, by simp, by simp⟩, by simp, by simp [RepL], fun off hs => ?_⟩
    have := hr.old _ _ hs; omega)
  refine ⟨.map (some w.heap.size), _, μ', ?_, by simp only [Rep]; exact ⟨_, 0, h5, rfl⟩, h4⟩
  cases r with
  | none => rfl
  | some v =>
    obtain ⟨k, n, rfl⟩ := hh v rfl
    simp [Instr.makeMap, run_underlying (under_tmap ht), asInt, asIntOf]

theorem ok_toBytes {src dst e : TypeId} {s : ByteArray} {fresh : Nat} (hr : RM S μ w m) (hf0 : m.base ≤ fresh) (hf1 : fresh < m.base + m.wid) (hf2 : m.find fresh = none)
    (hd : tbytes P dst = true) (he : telem P dst = some e) (hs : tstr P src = true) : OkV P S μ w m (convert src dst (.string s)) (.sl fresh 0 s.size 1) [(fresh, .cells e (bytesV s.data.toList) true)] := by
  obtain ⟨e', h1, h2, h3⟩ := under_tbytes hd
  rw [he] at h3
  simp only [Option.some.injEq] at h3
  subst h3
  have hrun := Lib.run_convert_string_bytes (P := P) w src dst e s (under_tstr hs) h1 h2
  have hheap : (Lib.bytesWorld w e s).heap = w.heap.push (.cells (Lib.bytesCells w e s) e ((Lib.bytesCells w e s).size, (Lib.bytesCells w e s).size + 1)) := by
    apply Array.ext_getElem?
    intro j
    rcases Nat.lt_trichotomy j w.heap.size with h | h | h
    · rw [Lib.bytesWorld_at_old w e s j h, Array.getElem?_push, if_neg (by omega)]
    · subst h; rw [Lib.bytesWorld_at_new]; simp
    · rw [Array.getElem?_eq_none (by rw [Lib.bytesWorld_size]; omega), Array.getElem?_eq_none (by simp; omega)]
  have hcells : ∀ j, j < s.data.toList.length → (Lib.bytesCells w e s)[j]? = (s.data.toList.map fun b => Value.int .u8 b.toNat)[j]? := by
    intro j hj
    unfold Lib.bytesCells
    rw [Array.getElem?_append_left (by simpa using hj)]
    simp
  obtain ⟨μ', h4, h5, _⟩ := After.new (w' := Lib.bytesWorld w e s) hr hf0 hf1 hf2 _ (.cells e (bytesV s.data.toList) true) hheap rfl rfl rfl (fun μ' hk _ hμ => by
    simp only [RepO]
    refine .inr ⟨w.heap.size, 0, s.data.toList.map (fun b => Value.int .u8 b.toNat), _, _, hμ, Lib.bytesWorld_at_new w e s, fun i hi => by omega, ?_, by simp [Value.oneCell'], ?_, fun j hj => ?_, fun off hs => ?_⟩
    · have : bytesV s.data.toList = (s.data.toList.map (fun b => Value.int .u8 b.toNat)).map .v := by simp [bytesV]
      rw [this]; exact RepL.of_vals _
    · simp [Lib.bytesCells]
    · simpa using hcells j (by simpa using hj)
    · have := hr.old _ _ hs; omega)
  refine ⟨_, _, μ', hrun, ?_, h4⟩
  simp only [Rep]
  refine ⟨_, _, rfl, grownCap_ge _ _ _ _, .inr ⟨w.heap.size, 0, h5, rfl, ?_⟩⟩
  have hge := grownCap_ge w s.size 0 e
  have hss : s.data.size = s.size := rfl
  simp only [bsize, Lib.bytesWorld_at_new, Lib.bytesCells, Array.size_append, Array.size_map, Array.size_replicate, hss]
  omega

theorem ints_of : ∀ (l : List Value), l.all (isInt .u8) = true → ∃ ns : List Int, l = ns.map (Value.int .u8)
  | [], _ => ⟨[], rfl⟩
  | y :: ys, h => by
    simp only [List.all_cons, Bool.and_eq_true] at h
    obtain ⟨ns, e⟩ := ints_of ys h.2
    obtain ⟨h1, _⟩ := h
    cases y <;> simp [isInt] at h1
    subst h1
    exact ⟨_ :: ns, by rw [e]; rfl⟩

theorem ok_toString {src dst : TypeId} {x : AV} {n : Nat} {xs : List AV} {vs : List Value} {v : Value} (hr : RM S μ w m) (hs : tbytes P src = true) (hd : tstr P dst = true) (hsrc : srcS m.find 1 x = some (n, xs)) (hv : valsL xs = some vs) (hall : vs.all (isInt .u8) = true)
    (hx : Rep S μ w x v) (hns : ∀ s, x ≠ .v (.string s)) : OkV P S μ w m (convert src dst v) (.v (.string ⟨(vs.map fun | .int _ n => UInt8.ofNat n.toNat | _ => 0).toArray⟩)) [] := by
  obtain ⟨e, h1, h2, h3⟩ := under_tbytes hs
  obtain ⟨hlen, news, hn1, _, hn2, hn3, hn4⟩ := src_reads (P := P) hr hsrc hx
  have hnews := valsL_rep hv hn2
  subst hnews
  have hint := ints_of _ hall
  obtain ⟨ns, rfl⟩ := hint
  have hslice : ∃ a len cap, v = .slice a len cap := by
    unfold srcS at hsrc
    split at hsrc
    · exact absurd rfl (hns _)
    · simp only [Rep] at hx; exact ⟨_, _, _, hx⟩
    · simp only [Rep] at hx; obtain ⟨_, _, e, _⟩ := hx; exact ⟨_, _, _, e⟩
    · simp only [Rep] at hx; obtain ⟨_, _, e, _⟩ := hx; exact ⟨_, _, _, e⟩
    · cases hsrc
  obtain ⟨a, len, cap, rfl⟩ := hslice
  have hl : n = len := by
    have := hlen w
    simp only [Builtin.lenOf, Sem.run_pure, Result.ok.injEq, and_true] at this
    exact this.symm
  subst hl
  refine OkV.same hr (v := .string ⟨(ns.map fun n => UInt8.ofNat n.toNat).toArray⟩) ?_ (by simp [Rep, List.map_map, Function.comp_def])
  rw [run_convert_bytes_string w src dst e a n cap h1 h2 (under_tstr hd)]
  have hload := hn1 w (fun _ => rfl)
  simp only [Builtin.firstCells, Nat.mul_one] at hload
  cases a with
  | none =>
    simp only [Sem.run_pure, Result.ok.injEq, and_true] at hload
    have : ns = [] := by simpa using congrArg Array.size hload.symm
    subst this
    rfl
  | some a =>
    rw [run_bytesToString w a n cap ns hload, foldl_push_bytes]
    have he0 : ByteArray.empty.data = #[] := rfl
    rw [he0]; simp

end Go.AW
/- Each operation does what the evaluator says (7): maps. -/
namespace Go.AW
variable {P : Program} {γ : GTab} {S : Nat → Nat → Prop} {μ μ' : Nat → Option (Nat × Nat)} {w w' : World} {m : Mem} {env : List (Nat × AV)} {a : Act}

/-- What the model's search for a key finds. -/
def mfind (key : Value) : List MapEntry → Nat → Option (Nat × Value)
  | [], _ => none
  | e :: es, i => if keq key e.key then some (i, e.val) else mfind key es (i + 1)

theorem isInt_spec {k : IntKind} {v : Value} (h : isInt k v = true) : ∃ n, v = .int k n := by
  cases v <;> simp [isInt] at h
  subst h; exact ⟨_, rfl⟩

def oieq : Option Value → Option Value → Bool
  | some a, some b => ieq a b
  | _, _ => false

theorem run_eqItems_ints (d : Nat) {e : TypeId} {k k' : IntKind} (he : P.underlying e = some (.int k')) (xs ys : Array Value) : ∀ (is : List Nat), (∀ i ∈ is, i < xs.size ∧ i < ys.size) → (∀ v ∈ xs.toList, isInt k v = true) → (∀ v ∈ ys.toList, isInt k v = true) →
    (Op.eqItems (d + 1) e 1 xs ys is).run P w = .ok (is.all fun i => oieq xs[i]? ys[i]?) w
  | [], _, _, _ => by simp [Op.eqItems]
  | i :: is, hb, hx, hy => by
    obtain ⟨h1, h2⟩ := hb i (by simp)
    have ex : xs[i]? = some xs[i] := by simp [h1]
    have ey : ys[i]? = some ys[i] := by simp [h2]
    obtain ⟨x, hx1⟩ := isInt_spec (hx xs[i] (by simp))
    obtain ⟨y, hy1⟩ := isInt_spec (hy ys[i] (by simp))
    have hagg : ∀ w : World, (isAgg e).run P w = .ok false w := fun w => run_tagg (by simp [tagg, he]) w
    have ih := run_eqItems_ints d he xs ys is (fun j hj => hb j (by simp [hj])) hx hy
    simp only [Op.eqItems, part, Sem.run_bind, hagg, Result.andThen_ok, Bool.false_eq_true, if_false, Nat.mul_one, ex, ey, hx1, hy1, Sem.run_pure, run_equalIn_int w d e k k' x y he, List.all_cons]
    cases hxy : (x == y)
    · simp [oieq, ieq, hxy]
    · simpa [oieq, ieq, hxy] using ih

theorem all_range_zip (xs ys : List Value) (f : Option Value → Option Value → Bool) (h : xs.length = ys.length) (g : Value → Value → Bool) (hf : ∀ a b, f (some a) (some b) = g a b) :
    ((List.range xs.length).all fun i => f xs[i]? ys[i]?) = (xs.zip ys).all fun p => g p.1 p.2 := by
  induction xs generalizing ys with
  | nil => simp
  | cons x xs ih =>
    cases ys with
    | nil => simp at h
    | cons y ys =>
      simp only [List.length_cons, Nat.add_right_cancel_iff] at h
      rw [List.length_cons, List.range_succ_eq_map, List.all_cons, List.all_map]
      simp only [List.getElem?_cons_zero, hf, List.zip_cons_cons, List.all_cons]
      congr 1
      have := ih ys h
      simpa [Function.comp_def] using this

theorem tkt_spec {t : TypeId} {kt : KT} (h : tkt P t = some kt) : match kt with
    | .intK k => P.underlying t = some (.int k)
    | .strK => P.underlying t = some .string
    | .boolK => P.underlying t = some .bool
    | .arrK n k => ∃ e i, P.underlying t = some (.array n e) ∧ P.underlying e = some (.int k) ∧ P.info? e = some i ∧ i.size = 1 := by
  unfold tkt at h
  cases hu : P.underlying t with
  | none => simp [hu] at h
  | some d =>
    rw [hu] at h
    cases d <;> try (simp at h; done)
    · simp at h; subst h; rfl
    · simp at h; subst h; rfl
    · simp at h; subst h; rfl
    · rename_i n e
      simp only [Option.bind_some] at h
      cases he : P.underlying e with
      | none => simp [he] at h
      | some d =>
        rw [he] at h
        cases d <;> try (simp at h; done)
        rename_i k
        simp only at h
        split at h
        · rename_i hs
          simp only [Option.some.injEq] at h
          subst h
          cases hi : P.info? e with
          | none => simp [hi] at hs
          | some i => exact ⟨e, i, rfl, he, hi, by simpa [hi] using hs⟩
        · cases h

theorem cellsOf_info {e : TypeId} {i : TypeInfo} (h : P.info? e = some i) : P.cellsOf e = i.size := by
  have h1 := run_sizeOf (P := P) default h
  have h2 : (sizeOf e).run P default = .ok i.size default := by simp [sizeOf, run_typeInfo' h]
  rw [h2] at h1
  simpa using h1.symm

/-- Keys are held against each other as the evaluator does. -/
theorem run_equal_key {t : TypeId} {kt : KT} (h : tkt P t = some kt) {x y : Value} (hx : kwf kt x = true) (hy : kwf kt y = true) (w : World) : (Op.equal t x y).run P w = .ok (keq x y) w := by
  have hs := tkt_spec h
  cases kt with
  | intK k =>
    obtain ⟨n, rfl⟩ := isInt_spec hx
    obtain ⟨n', rfl⟩ := isInt_spec hy
    simp only at hs
    have := run_equalIn_int (P := P) w 9999 t k k n n' hs
    simpa [Op.equal, Op.maxDepth, keq] using this
  | strK =>
    cases x <;> simp [kwf] at hx
    cases y <;> simp [kwf] at hy
    simp only at hs
    rename_i a b
    have := run_equalIn_string (P := P) w 9999 t a b hs
    simpa [Op.equal, Op.maxDepth, keq] using this
  | boolK =>
    cases x <;> simp [kwf] at hx
    cases y <;> simp [kwf] at hy
    simp only at hs
    rename_i a b
    have := run_equalIn_bool' (P := P) w 9999 t a b hs
    simpa [Op.equal, Op.maxDepth, keq] using this
  | arrK n k =>
    obtain ⟨e, i, hu, he, hi, hsz⟩ := hs
    cases x <;> try (simp [kwf] at hx; done)
    cases y <;> try (simp [kwf] at hy; done)
    rename_i xs ys
    simp only [kwf, Bool.and_eq_true, beq_iff_eq, List.all_eq_true] at hx hy
    have h1 := run_equalIn_array (P := P) w 9999 xs ys hu hi
    rw [cellsOf_info hi, hsz] at h1
    rw [run_eqItems_ints 9998 he xs ys (List.range n) (fun i hi => by have := List.mem_range.1 hi; omega) hx.2 hy.2] at h1
    have h2 := all_range_zip xs.toList ys.toList oieq (by simp; omega) ieq (fun p q => rfl)
    have h3 : (List.range n).all (fun i => oieq xs[i]? ys[i]?) = keq (.agg xs) (.agg ys) := by
      simp only [keq]
      have hsz2 : (xs.size == ys.size) = true := by simp; omega
      rw [hsz2, Bool.true_and]
      simp only [Array.length_toList, Array.getElem?_toList, hx.1] at h2
      rw [← hx.1] at h2 ⊢
      exact h2
    rw [h3] at h1
    simpa [Op.equal, Op.maxDepth] using h1

theorem run_findAsk {t : TypeId} {kt : KT} (h : tkt P t = some kt) {key : Value} (hk : kwf kt key = true) (w : World) : ∀ (es : List MapEntry) (i : Nat), (∀ e ∈ es, kwf kt e.key = true) → (Instr.findAsking t key es i).run P w = .ok (mfind key es i) w
  | [], i, _ => by simp [Instr.findAsking, mfind]
  | e :: es, i, he => by
    simp only [Instr.findAsking, Sem.run_bind, run_equal_key h hk (he e (by simp)), Result.andThen_ok, mfind]
    have ih := run_findAsk h hk w es (i + 1) (fun e' h' => he e' (by simp [h']))
    cases keq key e.key <;> simp [ih]

theorem findNow_eq {d : TypeDesc} {key : Value} : ∀ (es : List MapEntry) (i : Nat), (∀ e ∈ es, Instr.sameNow d key e.key = some (keq key e.key)) → Instr.findNow d key es i = some (mfind key es i)
  | [], i, _ => rfl
  | e :: es, i, he => by
    simp only [Instr.findNow, he e (by simp), mfind]
    cases keq key e.key
    · simpa using findNow_eq es (i + 1) (fun e' h' => he e' (by simp [h']))
    · simp

theorem bytes_eqB (a b : ByteArray) : (a == b) = (a.toList == b.toList) := by
  have h0 : (a == b) = (a.data == b.data) := by cases a; cases b; rfl
  rw [h0, ByteArray.toList_eq, ByteArray.toList_eq, Bool.eq_iff_iff, beq_iff_eq, beq_iff_eq]
  constructor
  · intro h; rw [h]
  · intro h; exact Array.ext' h

theorem run_findK {t : TypeId} {kt : KT} (h : tkt P t = some kt) {key : Value} (hk : kwf kt key = true) (w : World) (es : List MapEntry) (he : ∀ e ∈ es, kwf kt e.key = true) : (Instr.findKey t key es).run P w = .ok (mfind key es 0) w := by
  have hs := tkt_spec h
  have plain : ∀ d, P.underlying t = some d → (∀ e ∈ es, Instr.sameNow d key e.key = some (keq key e.key)) → (Instr.findKey t key es).run P w = .ok (mfind key es 0) w := by
    intro d hd hn
    simp [Instr.findKey, run_underlying hd, findNow_eq es 0 hn]
  cases kt with
  | intK k =>
    simp only at hs
    refine plain _ hs fun e h' => ?_
    obtain ⟨n, rfl⟩ := isInt_spec hk
    obtain ⟨n', hn'⟩ := isInt_spec (he e h')
    rw [hn']
    simp [Instr.sameNow, keq]
  | strK =>
    simp only at hs
    refine plain _ hs fun e h' => ?_
    have := he e h'
    cases key <;> simp [kwf] at hk
    cases hek : e.key <;> rw [hek] at this <;> simp [kwf] at this
    rename_i a b
    simp only [Instr.sameNow, keq]
    congr 1
    exact bytes_eqB a b
  | boolK =>
    simp only at hs
    refine plain _ hs fun e h' => ?_
    have := he e h'
    cases key <;> simp [kwf] at hk
    cases hek : e.key <;> rw [hek] at this <;> simp [kwf] at this
    simp [Instr.sameNow, keq]
  | arrK n k =>
    obtain ⟨e, i, hu, _⟩ := hs
    rw [run_findKey_eq (P := P) w (k := t) (by rw [hu]) key es]
    exact run_findAsk h hk w es 0 he

end Go.AW
/- Each operation does what the evaluator says (8): maps. -/
namespace Go.AW
variable {P : Program} {γ : GTab} {S : Nat → Nat → Prop} {μ μ' : Nat → Option (Nat × Nat)} {w w' : World} {m : Mem} {env : List (Nat × AV)} {a : Act}

theorem run_checkKeyN {t : TypeId} {kt : KT} (h : tkt P t = some kt) {key : Value} (hk : kwf kt key = true) (em : Bool) (q : Nat) (w : World) : (Instr.checkKey em (q + 2) t key).run P w = .ok () w := by
  have hs := tkt_spec h
  cases kt with
  | intK k =>
    obtain ⟨n, rfl⟩ := isInt_spec hk
    simp only at hs
    simp [Instr.checkKey, run_underlying hs]
  | strK =>
    simp only at hs
    cases key <;> simp [kwf] at hk
    simp [Instr.checkKey, run_underlying hs]
  | boolK =>
    simp only at hs
    cases key <;> simp [kwf] at hk
    simp [Instr.checkKey, run_underlying hs]
  | arrK n k =>
    obtain ⟨e, i, hu, he, hi, hsz⟩ := hs
    cases key <;> try (simp [kwf] at hk; done)
    rename_i xs
    simp only [kwf, Bool.and_eq_true, beq_iff_eq, List.all_eq_true] at hk
    have hszr : ∀ w : World, (sizeOf e).run P w = .ok 1 w := fun w => by simp [sizeOf, run_typeInfo' hi, hsz]
    have hagg : ∀ w : World, (isAgg e).run P w = .ok false w := fun w => run_tagg (by simp [tagg, he]) w
    rw [Instr.checkKey]
    simp only [Sem.run_bind, run_underlying hu, Result.andThen_ok]
    simp only [Std.Legacy.Range.forIn_eq_forIn_range', Std.Legacy.Range.size, Nat.sub_zero, Nat.add_one_sub_one, Nat.div_one]
    have key : ∀ (l : List Nat), (∀ j ∈ l, j < xs.size) → (forIn l PUnit.unit fun i (_ : PUnit) => do
        Instr.checkKey em (q + 1) e (← part e xs (i * (← sizeOf e)))
        pure (ForInStep.yield PUnit.unit) : Sem PUnit).run P w = .ok PUnit.unit w := by
      intro l
      induction l with
      | nil => intro _; rfl
      | cons j l ih =>
        intro hl
        have hj := hl j (by simp)
        have ej : xs[j]? = some xs[j] := by simp [hj]
        obtain ⟨n', hn'⟩ := isInt_spec (hk.2 xs[j] (by simp))
        have hch : (Instr.checkKey em (q + 1) e (.int k n')).run P w = .ok () w := by simp [Instr.checkKey, run_underlying he]
        simp only [List.forIn_cons, Sem.run_bind, hszr, Result.andThen_ok, part, hagg, Bool.false_eq_true, if_false, Nat.mul_one, ej, Sem.run_pure, hn', hch]
        exact ih (fun j hj => hl j (by simp [hj]))
    have := key (List.range' 0 n) (fun j hj => by rw [List.mem_range'] at hj; omega)
    simp at this ⊢
    rw [this]
    rfl

theorem run_checkKey' {t : TypeId} {kt : KT} (h : tkt P t = some kt) {key : Value} (hk : kwf kt key = true) (em : Bool) (w : World) : (Instr.checkKey em 10000 t key).run P w = .ok () w :=
  run_checkKeyN h hk em 9998 w

/-- What is found is what the evaluator gets. -/
theorem mfind_get {key : Value} : ∀ (es : List MapEntry) (i : Nat) (xs : List AV), RepL S μ w xs (es.map (·.val)) → match mfind key es i with
    | none => mget (es.map (·.key)) xs key = none
    | some (_, v) => ∃ x, mget (es.map (·.key)) xs key = some x ∧ Rep S μ w x v
  | [], i, xs, h => by simp [mfind, mget]
  | e :: es, i, xs, h => by
    cases xs with
    | nil => simp [RepL] at h
    | cons x xs =>
      simp only [List.map_cons, RepL] at h
      obtain ⟨y, zs, e1, h1, h2⟩ := h
      simp only [List.cons.injEq] at e1
      obtain ⟨rfl, rfl⟩ := e1
      simp only [mfind, List.map_cons, mget]
      cases keq key e.key
      · simpa using mfind_get es (i + 1) xs h2
      · simpa using h1

theorem zAV_rep {e : TypeId} {z : AV} (h : zAV P e = some z) : ∃ v, zval P e = some v ∧ Rep S μ w z v := by
  unfold zAV at h
  split at h
  · rename_i cs hz
    split at h
    · rename_i hall
      simp only [Option.some.injEq] at h
      subst h
      refine ⟨_, hz, ?_⟩
      simp only [Rep]
      exact ⟨cs.toList, by simp, RepL.of_vals _, by simpa using List.all_eq_true.1 hall⟩
    · cases h
  · rename_i v hne hz
    simp only [Option.some.injEq] at h
    subst h
    exact ⟨v, hz, by simp [Rep]⟩
  · cases h

theorem ok_lookup {t : TypeId} {x k y : AV} {v vk : Value} {ok : Bool} (hr : RM S μ w m) (h : lookupF P m.find t x k ok = some y) (hx : Rep S μ w x v) (hk : Rep S μ w k vk) : OkV P S μ w m (Instr.lookup t v vk ok) y [] := by
  unfold lookupF at h
  split at h
  · rename_i kT e kt ks xs key htm hmo hkv
    split at h
    · rename_i kt' hkt
      split at h
      · rename_i hc
        obtain ⟨hkts, hkw⟩ := hc
        split at h
        · rename_i z hz
          simp only [Option.some.injEq] at h
          have hvk := val_rep hkv hk
          subst hvk
          obtain ⟨zv, hz1, hz2⟩ := zAV_rep (S := S) (μ := μ) (w := w) hz
          -- the map's entries
          have hes : ∃ es : List MapEntry, es.map (·.key) = ks ∧ RepL S μ w xs (es.map (·.val)) ∧ (∀ e ∈ es, kwf kt' e.key = true) ∧
              ((v = .map none ∧ es = []) ∨ ∃ b arr clock, v = .map (some b) ∧ w.heap[b]? = some (.map arr clock) ∧ arr.toList = es) := by
            unfold mapOf at hmo
            split at hmo
            · simp only [Option.some.injEq, Prod.mk.injEq] at hmo
              obtain ⟨rfl, rfl, rfl⟩ := hmo
              simp only [Rep] at hx
              exact ⟨[], rfl, by simp [RepL], by simp, .inl ⟨hx, rfl⟩⟩
            · simp only [Option.some.injEq, Prod.mk.injEq] at hmo
              obtain ⟨rfl, rfl, rfl⟩ := hmo
              simp only [reduceCtorEq, false_or, Option.some.injEq] at hkts
              subst hkts
              simp only [Rep] at hx
              rcases hx with ⟨h1, rfl, rfl⟩ | ⟨b, es, clock, h1, h2, h3, h4, h5, h6⟩
              · exact ⟨[], rfl, by simp [RepL], by simp, .inl ⟨h1, rfl⟩⟩
              · exact ⟨es.toList, h5, h6, h4.2.2, .inr ⟨b, es, clock, h1, h3, rfl⟩⟩
            · split at hmo
              · rename_i o _ kt0 ks0 xs0 hf
                simp only [Option.some.injEq, Prod.mk.injEq] at hmo
                obtain ⟨rfl, rfl, rfl⟩ := hmo
                simp only [reduceCtorEq, false_or, Option.some.injEq] at hkts
                subst hkts
                simp only [Rep] at hx
                obtain ⟨b, bo, hμ, hv⟩ := hx
                have := (hr.obj _ _ hf).2
                simp only [RepO] at this
                obtain ⟨b', bo', es, clock, h1, h2, h3, h4, h5, h6⟩ := this
                rw [hμ] at h1
                simp only [Option.some.injEq, Prod.mk.injEq] at h1
                obtain ⟨rfl, rfl⟩ := h1
                exact ⟨es.toList, h4, h5, h3.2.2, .inr ⟨b, es, clock, hv, h2, rfl⟩⟩
              · cases hmo
            · cases hmo
          obtain ⟨es, h1, h2, h3, h4⟩ := hes
          have hg := mfind_get (key := vk) es 0 xs h2
          rw [h1] at hg
          have hfk := run_findK hkt hkw w es h3
          have hrun : ∃ (rv : Value) (rb : Bool), (Instr.lookup t v vk ok).run P w = .ok (if ok then .tuple #[rv, .bool rb] else rv) w ∧ Rep S μ w ((mget ks xs vk).getD z) rv ∧ rb = (mget ks xs vk).isSome := by
            cases hm : mfind vk es 0 with
            | none =>
              rw [hm] at hg
              simp only at hg
              refine ⟨zv, false, ?_, by rw [hg]; exact hz2, by rw [hg]; rfl⟩
              rcases h4 with ⟨rfl, rfl⟩ | ⟨b, arr, clock, rfl, hb, rfl⟩
              · rw [hm] at hfk
                simp only [Instr.lookup, Sem.run_bind, run_underlying (under_tmap htm), Result.andThen_ok, Sem.run_pure, run_checkKey' hkt hkw, hfk, run_zval hz1]
              · rw [hm] at hfk
                simp only [Instr.lookup, Sem.run_bind, run_underlying (under_tmap htm), Result.andThen_ok, run_getMap hb, Sem.run_pure, run_checkKey' hkt hkw, hfk, run_zval hz1]
            | some p =>
              obtain ⟨i, v'⟩ := p
              rw [hm] at hg
              simp only at hg
              obtain ⟨x', hx1, hx2⟩ := hg
              refine ⟨v', true, ?_, by rw [hx1]; exact hx2, by rw [hx1]; rfl⟩
              rcases h4 with ⟨rfl, rfl⟩ | ⟨b, arr, clock, rfl, hb, rfl⟩
              · rw [hm] at hfk
                simp only [Instr.lookup, Sem.run_bind, run_underlying (under_tmap htm), Result.andThen_ok, Sem.run_pure, run_checkKey' hkt hkw, hfk]
              · rw [hm] at hfk
                simp only [Instr.lookup, Sem.run_bind, run_underlying (under_tmap htm), Result.andThen_ok, run_getMap hb, Sem.run_pure, run_checkKey' hkt hkw, hfk]
          obtain ⟨rv, rb, hrun, hr1, hr2⟩ := hrun
          refine OkV.same hr hrun ?_
          rw [← h]
          cases ok
          · simpa using hr1
          · simp only [if_true, Rep, RepL]
            exact ⟨[rv, .bool rb], rfl, rv, _, rfl, hr1, .bool rb, [], rfl, by rw [hr2], rfl⟩
        · cases h
      · cases h
    · cases h
  · cases h

end Go.AW
/- Each operation does what the evaluator says (9): maps are written. -/
namespace Go.AW
variable {P : Program} {γ : GTab} {S : Nat → Nat → Prop} {μ μ' : Nat → Option (Nat × Nat)} {w w' : World} {m : Mem} {env : List (Nat × AV)} {a : Act}

theorem ieq_eq {k k' : IntKind} {x y : Value} (hx : isInt k x = true) (hy : isInt k' y = true) (h : ieq x y = true) : x = y := by
  obtain ⟨n, rfl⟩ := isInt_spec hx
  obtain ⟨n', rfl⟩ := isInt_spec hy
  simp [ieq] at h
  rw [h.1, h.2]

theorem zip_ieq {k : IntKind} : ∀ (xs ys : List Value), xs.length = ys.length → (∀ v ∈ xs, isInt k v = true) → (∀ v ∈ ys, isInt k v = true) → (xs.zip ys).all (fun p => ieq p.1 p.2) = true → xs = ys
  | [], [], _, _, _, _ => rfl
  | x :: xs, y :: ys, hl, hx, hy, h => by
    simp only [List.zip_cons_cons, List.all_cons, Bool.and_eq_true] at h
    rw [ieq_eq (hx x (by simp)) (hy y (by simp)) h.1, zip_ieq xs ys (by simpa using hl) (fun v hv => hx v (by simp [hv])) (fun v hv => hy v (by simp [hv])) h.2]
  | [], _ :: _, hl, _, _, _ => by simp at hl
  | _ :: _, [], hl, _, _, _ => by simp at hl

theorem keq_eq {kt : KT} {x y : Value} (hx : kwf kt x = true) (hy : kwf kt y = true) (h : keq x y = true) : x = y := by
  cases kt with
  | intK k =>
    obtain ⟨n, rfl⟩ := isInt_spec hx
    obtain ⟨n', rfl⟩ := isInt_spec hy
    simp [keq] at h; rw [h]
  | strK =>
    cases x <;> simp [kwf] at hx
    cases y <;> simp [kwf] at hy
    rename_i a b
    simp only [keq] at h
    rw [← bytes_eqB] at h
    have h0 : (a == b) = (a.data == b.data) := by cases a; cases b; rfl
    rw [h0] at h
    have : a.data = b.data := by simpa using h
    cases a; cases b; simp at this; rw [this]
  | boolK =>
    cases x <;> simp [kwf] at hx
    cases y <;> simp [kwf] at hy
    simp [keq] at h; rw [h]
  | arrK n k =>
    cases x <;> try (simp [kwf] at hx; done)
    cases y <;> try (simp [kwf] at hy; done)
    rename_i xs ys
    simp only [kwf, Bool.and_eq_true, beq_iff_eq, List.all_eq_true] at hx hy
    simp only [keq, Bool.and_eq_true, beq_iff_eq] at h
    have := zip_ieq (k := k) xs.toList ys.toList (by simpa using h.1) hx.2 hy.2 h.2
    rw [Array.ext' this]

theorem ieq_refl {k : IntKind} {x : Value} (hx : isInt k x = true) : ieq x x = true := by
  obtain ⟨n, rfl⟩ := isInt_spec hx
  simp [ieq]

theorem sameBits_refl {kt : KT} {x : Value} (hx : kwf kt x = true) (n : Nat) : Instr.sameBits (n + 2) x x = true := by
  cases kt with
  | intK k => obtain ⟨q, rfl⟩ := isInt_spec hx; simp [Instr.sameBits]
  | strK =>
    cases x <;> simp [kwf] at hx
    rename_i a
    have h0 : (a == a) = (a.data == a.data) := by cases a; rfl
    simp [Instr.sameBits, h0]
  | boolK => cases x <;> simp [kwf] at hx; simp [Instr.sameBits]
  | arrK q k =>
    cases x <;> try (simp [kwf] at hx; done)
    rename_i xs
    simp only [kwf, Bool.and_eq_true, beq_iff_eq, List.all_eq_true] at hx
    rw [Instr.sameBits]
    simp only [BEq.rfl, Bool.true_and, List.all_eq_true]
    intro p hp
    have hd : p.1 = p.2 ∧ p.1 ∈ xs.toList := by
      obtain ⟨i, hi, hp'⟩ := List.getElem_of_mem hp
      rw [List.getElem_zip] at hp'
      subst hp'
      exact ⟨rfl, List.getElem_mem _⟩
    obtain ⟨n', hn'⟩ := isInt_spec (hx.2 p.1 hd.2)
    rw [← hd.1, hn']
    simp [Instr.sameBits]

theorem mfind_spec {key : Value} : ∀ (es : List MapEntry) (i : Nat), match mfind key es i with
    | none => mhas (es.map (·.key)) key = false
    | some (j, _) => i ≤ j ∧ ∃ e, es[j - i]? = some e ∧ keq key e.key = true ∧ mhas (es.map (·.key)) key = true ∧ (∀ q < j - i, ∀ e', es[q]? = some e' → keq key e'.key = false)
  | [], i => by simp [mfind, mhas]
  | e :: es, i => by
    simp only [mfind, List.map_cons, mhas]
    cases hk : keq key e.key
    · have := mfind_spec (key := key) es (i + 1)
      simp only [Bool.false_eq_true, if_false, Bool.false_or]
      cases hm : mfind key es (i + 1) with
      | none => rw [hm] at this; simpa using this
      | some p =>
        obtain ⟨j, v⟩ := p
        rw [hm] at this
        simp only at this ⊢
        obtain ⟨h1, e', h2, h3, h4, h5⟩ := this
        refine ⟨by omega, e', ?_, h3, h4, fun q hq e'' hq' => ?_⟩
        · rw [show j - i = (j - (i + 1)) + 1 by omega]; simpa using h2
        · cases q with
          | zero => simp at hq'; subst hq'; exact hk
          | succ q => simp at hq'; exact h5 q (by omega) e'' hq'
    · simp only [if_true, Bool.true_or]
      exact ⟨Nat.le_refl _, e, by simp, hk, trivial, fun q hq => by omega⟩

theorem mset_set {key : Value} {x : AV} : ∀ (es : List MapEntry) (xs : List AV) (j : Nat) (e : MapEntry), es[j]? = some e → keq key e.key = true → (∀ q < j, ∀ e', es[q]? = some e' → keq key e'.key = false) → xs.length = es.length → mset (es.map (·.key)) xs key x = xs.set j x
  | [], xs, j, e, h, _, _, _ => by simp at h
  | e0 :: es, [], j, e, h, _, _, hl => by simp at hl
  | e0 :: es, x0 :: xs, 0, e, h, hk, _, hl => by
    simp at h; subst h
    simp [mset, hk]
  | e0 :: es, x0 :: xs, j + 1, e, h, hk, hn, hl => by
    have h0 := hn 0 (by omega) e0 (by simp)
    simp only [List.map_cons, mset, h0, Bool.false_eq_true, if_false, List.set_cons_succ]
    rw [mset_set es xs j e (by simpa using h) hk (fun q hq e' he' => hn (q + 1) (by omega) e' (by simpa using he')) (by simpa using hl)]

theorem mset_app {key : Value} {x : AV} : ∀ (ks : List Value) (xs : List AV), mhas ks key = false → xs.length = ks.length → mset ks xs key x = xs ++ [x]
  | [], [], _, _ => rfl
  | [], _ :: _, _, h => by simp at h
  | k :: ks, [], _, h => by simp at h
  | k :: ks, y :: xs, h, hl => by
    simp only [mhas, Bool.or_eq_false_iff] at h
    simp only [mset, h.1, Bool.false_eq_true, if_false, List.cons_append]
    rw [mset_app ks xs h.2 (by simpa using hl)]

/-- A map of the call's own turns. -/
theorem After.setMap (hr : RM S μ w m) {o b bo : Nat} {kt : KT} {ks : List Value} {xs : List AV} {es : Array MapEntry} {clock : Nat} (hf : m.find o = some (.map kt ks xs)) (hμ : μ o = some (b, bo)) (hb : w.heap[b]? = some (.map es clock)) (hS : ∀ off, ¬ S b off)
    {ks' : List Value} {xs' : List AV} {es' : Array MapEntry} {clock' : Nat} (hok : MapOK kt es' clock') (hk : es'.toList.map (·.key) = ks') (hx : RepL S μ w xs' (es'.toList.map (·.val))) :
    After S μ w m [(o, .map kt ks' xs')] μ { w with heap := w.heap.setIfInBounds b (.map es' clock') } := by
  have hlt : b < w.heap.size := (Array.getElem?_eq_some_iff.1 hb).1
  refine After.set hr hf rfl rfl hμ (fun k hk => ?_) (by simp) ?_ rfl rfl rfl (fun hkp => ?_) hS
  · simp [Ne.symm hk]
  · simp [bsize, hlt, hb]
    rw [(Array.getElem?_eq_some_iff.1 hb).2]
  · simp only [RepO]
    exact ⟨b, bo, es', clock', hμ, by simp [hlt], hok, hk, RepL.keep hkp _ _ hx, hS⟩

theorem map_obj {o : Nat} {kt : KT} {ks : List Value} {xs : List AV} {v : Value} (hr : RM S μ w m) (hf : m.find o = some (.map kt ks xs)) (hx : Rep S μ w (.mp o) v) :
    ∃ b bo es clock, v = .map (some b) ∧ μ o = some (b, bo) ∧ w.heap[b]? = some (.map es clock) ∧ MapOK kt es clock ∧ es.toList.map (·.key) = ks ∧ RepL S μ w xs (es.toList.map (·.val)) ∧ ∀ off, ¬ S b off := by
  simp only [Rep] at hx
  obtain ⟨b, bo, hμ, hv⟩ := hx
  have := (hr.obj _ _ hf).2
  simp only [RepO] at this
  obtain ⟨b', bo', es, clock, h1, h2, h3, h4, h5, h6⟩ := this
  rw [hμ] at h1
  simp only [Option.some.injEq, Prod.mk.injEq] at h1
  obtain ⟨rfl, rfl⟩ := h1
  exact ⟨b, bo, es, clock, hv, hμ, h2, h3, h4, h5, h6⟩

theorem ok_mapUpd {t : TypeId} {x k y : AV} {v vk vy : Value} {u : Upd} (hr : RM S μ w m) (h : mapUpdF P m.find t x k y = some u) (hx : Rep S μ w x v) (hk : Rep S μ w k vk) (hy : Rep S μ w y vy) : OkU P S μ w m (Instr.mapUpdate t v vk vy) u := by
  unfold mapUpdF at h
  split at h
  · rename_i o kT eT key htm hkv
    split at h
    · rename_i kt ks xs hf
      split at h
      · rename_i hc
        obtain ⟨hkt, hkw⟩ := hc
        simp only [Option.some.injEq] at h
        subst h
        have hvk := val_rep hkv hk
        subst hvk
        obtain ⟨b, bo, es, clock, rfl, hμ, hb, hok, hks, hxs, hS⟩ := map_obj hr hf hx
        have hfk := run_findK hkt hkw w es.toList hok.2.2
        have hms := mfind_spec (key := vk) es.toList 0
        have hxl := hxs.length
        cases hm : mfind vk es.toList 0 with
        | none =>
          rw [hm] at hms hfk
          simp only [hks] at hms
          refine ⟨{ w with heap := w.heap.setIfInBounds b (.map (es.push { key := vk, val := vy, born := clock }) (clock + 1)) }, μ, ?_, ?_⟩
          · simp only [Instr.mapUpdate, Sem.run_bind, run_underlying (under_tmap htm), Result.andThen_ok, run_getMap hb, run_checkKey' hkt hkw, hfk, run_setMap _ hb]
          · rw [hms]
            rw [mset_app ks xs hms (by rw [← hks]; simpa using hxl.symm)]
            refine After.setMap hr hf hμ hb hS ?_ (by simp [hks]) ?_
            · refine ⟨?_, ?_, ?_⟩
              · simp only [Array.toList_push, List.map_append, List.map_cons, List.map_nil, List.nodup_append]
                refine ⟨hok.1, by simp, fun p hp q hq => ?_⟩
                simp at hq; subst hq
                obtain ⟨e, he, rfl⟩ := List.mem_map.1 hp
                have := hok.2.1 e he
                simp; omega
              · intro e he
                simp only [Array.toList_push, List.mem_append, List.mem_singleton] at he
                rcases he with he | rfl
                · have := hok.2.1 e he; omega
                · simp
              · intro e he
                simp only [Array.toList_push, List.mem_append, List.mem_singleton] at he
                rcases he with he | rfl
                · exact hok.2.2 e he
                · exact hkw
            · simp only [Array.toList_push, List.map_append, List.map_cons, List.map_nil]
              exact hxs.append (by simp only [RepL]; exact ⟨vy, [], rfl, hy, rfl⟩)
        | some p =>
          obtain ⟨j, v'⟩ := p
          rw [hm] at hms hfk
          simp only [Nat.sub_zero] at hms
          obtain ⟨_, e, h2, h3, h4, h5⟩ := hms
          rw [hks] at h4
          have hkey : vk = e.key := keq_eq hkw (hok.2.2 e (List.mem_of_getElem? h2)) h3
          have hej : es[j]? = some e := by simpa using h2
          have hjl : j < es.size := (Array.getElem?_eq_some_iff.1 hej).1
          refine ⟨{ w with heap := w.heap.setIfInBounds b (.map (es.modify j fun e => { e with key := vk, val := vy }) clock) }, μ, ?_, ?_⟩
          · have hstay : (Instr.keyThatStays (((es[j]?).map (·.key)).getD vk) vk).run P w = .ok vk w := by
              simp only [hej, Option.map_some, Option.getD_some, Instr.keyThatStays]
              rw [← hkey, sameBits_refl (n := 9998) hkw]
              rfl
            simp only [Instr.mapUpdate, Sem.run_bind, run_underlying (under_tmap htm), Result.andThen_ok, run_getMap hb, run_checkKey' hkt hkw, hfk, hstay, run_setMap _ hb]
          · rw [h4, if_pos rfl]
            have hms2 : mset ks xs vk y = xs.set j y := by
              rw [← hks]
              exact mset_set es.toList xs j e (by simpa using hej) h3 h5 (by simpa using hxl.symm)
            rw [hms2]
            have hml : (es.modify j fun e => { e with key := vk, val := vy }).toList = es.toList.set j { e with key := vk, val := vy } := by
              apply List.ext_getElem?
              intro q
              rw [Array.getElem?_toList, Array.getElem?_modify, List.getElem?_set]
              by_cases hq : j = q
              · subst hq
                have hje : es[j] = e := (Array.getElem?_eq_some_iff.1 hej).2
                simp [hjl, hje]
              · simp [hq]
            refine After.setMap hr hf hμ hb hS ?_ ?_ ?_
            · have hborn : (es.toList.set j { e with key := vk, val := vy }).map (·.born) = es.toList.map (·.born) := by
                rw [List.map_set]
                apply List.set_getElem_self' (by simpa using hjl)
                simp [← (Array.getElem?_eq_some_iff.1 hej).2]
              refine ⟨by rw [hml, hborn]; exact hok.1, fun e' he' => ?_, fun e' he' => ?_⟩
              · rw [hml] at he'
                rcases List.mem_or_eq_of_mem_set he' with h | h
                · exact hok.2.1 e' h
                · subst h; exact hok.2.1 e (List.mem_of_getElem? h2)
              · rw [hml] at he'
                rcases List.mem_or_eq_of_mem_set he' with h | h
                · exact hok.2.2 e' h
                · subst h; exact hkw
            · rw [hml, List.map_set, ← hks]
              apply List.set_getElem_self' (by simpa using hjl)
              simp [← (Array.getElem?_eq_some_iff.1 hej).2] at hkey ⊢
              exact hkey
            · rw [hml, List.map_set]
              exact hxs.set j hy
      · cases h
    · cases h
  · cases h
where
  List.set_getElem_self' {α : Type} {l : List α} {j : Nat} (h : j < l.length) {x : α} (e : x = l[j]) : l.set j x = l := by
    subst e; simp

theorem mdel_erase {key : Value} : ∀ (es : List MapEntry) (xs : List AV) (j : Nat) (e : MapEntry), es[j]? = some e → keq key e.key = true → (∀ q < j, ∀ e', es[q]? = some e' → keq key e'.key = false) → xs.length = es.length →
    mdelK (es.map (·.key)) key = (es.eraseIdx j).map (·.key) ∧ mdelX (es.map (·.key)) xs key = xs.eraseIdx j
  | [], xs, j, e, h, _, _, _ => by simp at h
  | e0 :: es, [], j, e, h, _, _, hl => by simp at hl
  | e0 :: es, x0 :: xs, 0, e, h, hk, _, hl => by
    simp at h; subst h
    simp [mdelK, mdelX, hk]
  | e0 :: es, x0 :: xs, j + 1, e, h, hk, hn, hl => by
    have h0 := hn 0 (by omega) e0 (by simp)
    obtain ⟨h1, h2⟩ := mdel_erase es xs j e (by simpa using h) hk (fun q hq e' he' => hn (q + 1) (by omega) e' (by simpa using he')) (by simpa using hl)
    simp only [List.map_cons, mdelK, mdelX, h0, Bool.false_eq_true, if_false, List.eraseIdx_cons_succ, h1, h2, and_self]

theorem mdel_none {key : Value} : ∀ (ks : List Value) (xs : List AV), mhas ks key = false → xs.length = ks.length → mdelK ks key = ks ∧ mdelX ks xs key = xs
  | [], [], _, _ => ⟨rfl, rfl⟩
  | [], _ :: _, _, h => by simp at h
  | k :: ks, [], _, h => by simp at h
  | k :: ks, y :: xs, h, hl => by
    simp only [mhas, Bool.or_eq_false_iff] at h
    obtain ⟨h1, h2⟩ := mdel_none ks xs h.2 (by simpa using hl)
    simp [mdelK, mdelX, h.1, h1, h2]

theorem RepL.eraseIdx {xs : List AV} {ys : List Value} (h : RepL S μ w xs ys) (j : Nat) : RepL S μ w (xs.eraseIdx j) (ys.eraseIdx j) := by
  rw [List.eraseIdx_eq_take_drop_succ, List.eraseIdx_eq_take_drop_succ]
  exact (h.take j).append (h.drop (j + 1))

theorem ok_delete {t kT eT ty : TypeId} {ts : Array TypeId} {o : Nat} {k : AV} {kt : KT} {ks : List Value} {xs : List AV} {key v vk : Value} (hr : RM S μ w m) (hts : ts[0]? = some t) (hf : m.find o = some (.map kt ks xs)) (htm : tmap P t = some (kT, eT))
    (hkt : tkt P kT = some kt) (hkv : k.val? = some key) (hkw : kwf kt key = true) (hx : Rep S μ w (.mp o) v) (hk : Rep S μ w k vk) :
    OkV P S μ w m (Builtin.delete_ ts ty #[v, vk]) (.v (.tuple #[])) [(o, .map kt (mdelK ks key) (mdelX ks xs key))] := by
  have hvk := val_rep hkv hk
  subst hvk
  obtain ⟨b, bo, es, clock, rfl, hμ, hb, hok, hks, hxs, hS⟩ := map_obj hr hf hx
  have hfk := run_findK hkt hkw w es.toList hok.2.2
  have hms := mfind_spec (key := vk) es.toList 0
  have hxl := hxs.length
  cases hm : mfind vk es.toList 0 with
  | none =>
    rw [hm] at hms hfk
    simp only [hks] at hms
    obtain ⟨d1, d2⟩ := mdel_none ks xs hms (by rw [← hks]; simpa using hxl.symm)
    rw [d1, d2]
    refine ⟨.tuple #[], { w with heap := w.heap.setIfInBounds b (.map es clock) }, μ, ?_, by simp [Rep], After.setMap hr hf hμ hb hS hok hks hxs⟩
    simp only [Builtin.delete_, hts, List.getElem?_toArray, List.getElem?_cons_zero, List.getElem?_cons_succ, Sem.run_bind, run_underlying (under_tmap htm), Result.andThen_ok, run_getMap hb, run_checkKey' hkt hkw, hfk, run_setMap _ hb, Sem.run_pure]
  | some p =>
    obtain ⟨j, v'⟩ := p
    rw [hm] at hms hfk
    simp only [Nat.sub_zero] at hms
    obtain ⟨_, e, h2, h3, h4, h5⟩ := hms
    have hjl : j < es.toList.length := by
      rcases Nat.lt_or_ge j es.toList.length with h | h
      · exact h
      · rw [List.getElem?_eq_none h] at h2; cases h2
    obtain ⟨d1, d2⟩ := mdel_erase (key := vk) es.toList xs j e h2 h3 h5 (by simpa using hxl.symm)
    rw [hks] at d1 d2
    rw [d1, d2]
    have hel : (es.eraseIdxIfInBounds j).toList = es.toList.eraseIdx j := by simp
    refine ⟨.tuple #[], { w with heap := w.heap.setIfInBounds b (.map (es.eraseIdxIfInBounds j) clock) }, μ, ?_, by simp [Rep], After.setMap hr hf hμ hb hS ⟨?_, ?_, ?_⟩ (by rw [hel]) ?_⟩
    · simp only [Builtin.delete_, hts, List.getElem?_toArray, List.getElem?_cons_zero, List.getElem?_cons_succ, Sem.run_bind, run_underlying (under_tmap htm), Result.andThen_ok, run_getMap hb, run_checkKey' hkt hkw, hfk, run_setMap _ hb, Sem.run_pure]
    · rw [hel]
      exact hok.1.sublist ((List.eraseIdx_sublist _ _).map _)
    · intro e' he'
      rw [hel] at he'
      exact hok.2.1 e' ((List.eraseIdx_sublist _ _).mem he')
    · intro e' he'
      rw [hel] at he'
      exact hok.2.2 e' ((List.eraseIdx_sublist _ _).mem he')
    · rw [hel]
      have := hxs.eraseIdx j
      rw [List.eraseIdx_eq_take_drop_succ, List.eraseIdx_eq_take_drop_succ] at this
      rw [List.eraseIdx_eq_take_drop_succ, List.eraseIdx_eq_take_drop_succ, List.map_append, List.map_take, List.map_drop]
      exact this

end Go.AW
/- Each operation does what the evaluator says: all of them. -/
namespace Go.AW
variable {P : Program} {γ : GTab} {S : Nat → Nat → Prop} {μ μ' : Nat → Option (Nat × Nat)} {w w' : World} {m : Mem} {env : List (Nat × AV)} {a : Act}

/-- An operation's outcome. -/
def StepOK (P : Program) (S : Nat → Nat → Prop) (μ : Nat → Option (Nat × Nat)) (w : World) (m : Mem) (s : Sem Next) (x : AV) (u : Upd) : Prop :=
  ∃ nx v w' μ', s.run P w = .ok nx w' ∧ (nx = .value v ∨ (nx = .skip ∧ v = undef)) ∧ Rep S μ' w' x v ∧ After S μ w m u μ' w'

theorem StepOK.v {s : Sem Value} {x : AV} {u : Upd} (h : OkV P S μ w m s x u) : StepOK P S μ w m (do pure (.value (← s))) x u := by
  obtain ⟨v, w', μ', h1, h2, h3⟩ := h
  exact ⟨.value v, v, w', μ', by simp [h1], .inl rfl, h2, h3⟩
theorem StepOK.u {s : Sem Unit} {u : Upd} (h : OkU P S μ w m s u) : StepOK P S μ w m (do s; pure .skip) (.v undef) u := by
  obtain ⟨w', μ', h1, h3⟩ := h
  exact ⟨.skip, undef, w', μ', by simp [h1], .inr ⟨rfl, rfl⟩, by simp [Rep], h3⟩

theorem eqn_ptr (d : Nat) {t e : TypeId} (hu : P.underlying t = some (.pointer e)) (a : Addr) : (Op.equalIn (d + 1) t (.pointer (some a)) (.pointer none)).run P w = .ok false w := by
  simp [Op.equalIn, run_underlying hu]
theorem eqn_map (d : Nat) {t q e : TypeId} (hu : P.underlying t = some (.map q e)) (a : Nat) : (Op.equalIn (d + 1) t (.map (some a)) (.map none)).run P w = .ok false w := by
  simp [Op.equalIn, run_underlying hu]
theorem eqn_fun (d : Nat) {t : TypeId} {q e : Array TypeId} {b : Bool} (hu : P.underlying t = some (.func q e b)) (f : Fn) (x y : Array Value) : (Op.equalIn (d + 1) t (.func f x y) .nilFunc).run P w = .ok false w := by
  simp [Op.equalIn, run_underlying hu]
theorem eqn_ifc (d : Nat) {t : TypeId} {ms : Array (String × TypeId)} (hu : P.underlying t = some (.interface ms)) (q : TypeId) (x : Value) : (Op.equalIn (d + 1) t (.iface q x) .nilIface).run P w = .ok false w := by
  simp [Op.equalIn, run_underlying hu]

theorem nilEq_run {t : TypeId} {x y : AV} {v z : Value} (h : nilEq P t x y = true) (hx : Rep S μ w x v) (hy : Rep S μ w y z) (xo yo : Operand) : (do eqGuard .eql t xo yo v z; binOp .eql t v z).run P w = .ok (.bool false) w ∧ (do eqGuard .neq t xo yo v z; binOp .neq t v z).run P w = .ok (.bool true) w := by
  unfold nilEq at h
  split at h
  · rename_i k k' h1 h2
    simp only [Bool.and_eq_true, beq_iff_eq] at h
    obtain ⟨rfl, ht⟩ := h
    have hu : (k = 0 ∧ ∃ e, P.underlying t = some (.pointer e)) ∨ (k = 1 ∧ ∃ q e, P.underlying t = some (.map q e)) ∨ (k = 2 ∧ ∃ q e b, P.underlying t = some (.func q e b)) ∨ (k = 3 ∧ ∃ ms, P.underlying t = some (.interface ms)) := by
      unfold tnilk at ht
      cases hu : P.underlying t with
      | none => simp [hu] at ht
      | some d =>
        rw [hu] at ht
        cases d <;> simp at ht <;> subst ht <;> simp
    have hv : (k = 0 ∧ ∃ a, v = .pointer (some a)) ∨ (k = 1 ∧ ∃ b, v = .map (some b)) ∨ (k = 2 ∧ ∃ f a c, v = .func f a c) ∨ (k = 3 ∧ ∃ u q, v = .iface u q) := by
      unfold nilCmp at h1
      split at h1 <;> simp only [Option.some.injEq, reduceCtorEq] at h1 <;> subst h1 <;> simp only [Rep] at hx
      · obtain ⟨b, bo, _, e⟩ := hx; exact .inl ⟨rfl, _, e⟩
      · obtain ⟨b, bo, e, _⟩ := hx; exact .inl ⟨rfl, _, e⟩
      · obtain ⟨b, bo, _, e⟩ := hx; exact .inr (.inl ⟨rfl, _, e⟩)
      · obtain ⟨fs, cs, e, _⟩ := hx; exact .inr (.inr (.inl ⟨rfl, _, _, _, e⟩))
      · obtain ⟨u, e, _⟩ := hx; exact .inr (.inr (.inr ⟨rfl, _, _, e⟩))
    have hz : (k = 0 ∧ z = .pointer none) ∨ (k = 1 ∧ z = .map none) ∨ (k = 2 ∧ z = .nilFunc) ∨ (k = 3 ∧ z = .nilIface) := by
      unfold isNil at h2
      split at h2 <;> simp only [Option.some.injEq, reduceCtorEq] at h2 <;> subst h2 <;> simp only [Rep] at hy <;> simp [hy]
    have heq : ∀ v z, (Op.equal t v z).run P w = .ok false w → (∀ op, (eqGuard op t xo yo v z).run P w = .ok () w) → (binOp .eql t v z = (do pure (.bool (← Op.equal t v z)))) → (binOp .neq t v z = (do pure (.bool (!(← Op.equal t v z))))) →
        (do eqGuard .eql t xo yo v z; binOp .eql t v z).run P w = .ok (.bool false) w ∧ (do eqGuard .neq t xo yo v z; binOp .neq t v z).run P w = .ok (.bool true) w := by
      intro v z h1 h2 h3 h4
      constructor
      · rw [Sem.run_bind, h2]; simp [h3, h1]
      · rw [Sem.run_bind, h2]; simp [h4, h1]
    rcases hu with ⟨rfl, e, hu⟩ | ⟨rfl, q, e, hu⟩ | ⟨rfl, q, e, b, hu⟩ | ⟨rfl, ms, hu⟩
    · obtain ⟨a, rfl⟩ : ∃ a, v = .pointer (some a) := by simpa using hv
      obtain rfl : z = .pointer none := by simpa using hz
      exact heq _ _ (eqn_ptr 9999 hu _) (fun op => by cases op <;> simp [eqGuard]) rfl rfl
    · obtain ⟨a, rfl⟩ : ∃ a, v = .map (some a) := by simpa using hv
      obtain rfl : z = .map none := by simpa using hz
      exact heq _ _ (eqn_map 9999 hu _) (fun op => by cases op <;> simp [eqGuard]) rfl rfl
    · obtain ⟨f, a, c, rfl⟩ : ∃ f a c, v = .func f a c := by simpa using hv
      obtain rfl : z = .nilFunc := by simpa using hz
      exact heq _ _ (eqn_fun 9999 hu _ _ _) (fun op => by cases op <;> simp [eqGuard]) rfl rfl
    · obtain ⟨u, q, rfl⟩ : ∃ u q, v = .iface u q := by simpa using hv
      obtain rfl : z = .nilIface := by simpa using hz
      exact heq _ _ (eqn_ifc 9999 hu _ _) (fun op => by cases op <;> simp [eqGuard]) rfl rfl
  · cases h

theorem keqA_run {t : TypeId} {a b : Value} {r : Bool} (h : keqA P t a b = some r) (x y : Operand) (w : World) : (do eqGuard .eql t x y a b; binOp .eql t a b).run P w = .ok (.bool r) w ∧ (do eqGuard .neq t x y a b; binOp .neq t a b).run P w = .ok (.bool (!r)) w := by
  unfold keqA at h
  split at h
  · rename_i kt hkt
    split at h
    · rename_i hc
      obtain ⟨h1, h2, h3⟩ := hc
      simp only [Option.some.injEq] at h
      have heq := run_equal_key hkt h1 h2 w
      have hg : ∀ op, (eqGuard op t x y a b).run P w = .ok () w := by
        intro op
        cases kt with
        | intK k => obtain ⟨n, rfl⟩ := isInt_spec h1; cases op <;> simp [eqGuard]
        | strK => cases a <;> simp [kwf] at h1; cases op <;> simp [eqGuard]
        | boolK => cases a <;> simp [kwf] at h1; cases op <;> simp [eqGuard]
        | arrK q k =>
          cases a <;> try (simp [kwf] at h1; done)
          cases b <;> try (simp [kwf] at h2; done)
          unfold tguard at h3
          cases op <;> simp [eqGuard, h3]
      have hop : (∀ (op : BinOp), op = .eql ∨ op = .neq → binOp op t a b = (do pure (.bool (← (do let r ← Op.equal t a b; pure (if op = .eql then r else !r))))) ∨ ∃ r', binOp op t a b = pure (.bool r') ∧ r' = (if op = .eql then keq a b else !keq a b)) := by
        intro op ho
        cases kt with
        | intK k =>
          obtain ⟨n, rfl⟩ := isInt_spec h1
          obtain ⟨n', rfl⟩ := isInt_spec h2
          right
          rcases ho with rfl | rfl
          · exact ⟨n == n', by simp [binOp, Op.intCmp], by simp [keq]⟩
          · exact ⟨n != n', by simp [binOp, Op.intCmp], by simp [keq, bne]⟩
        | strK =>
          cases a <;> simp [kwf] at h1
          cases b <;> simp [kwf] at h2
          right
          rcases ho with rfl | rfl
          · exact ⟨_, rfl, by simp [keq]⟩
          · exact ⟨_, rfl, by simp [keq]⟩
        | boolK =>
          cases a <;> simp [kwf] at h1
          cases b <;> simp [kwf] at h2
          left
          rcases ho with rfl | rfl
          · simp [binOp]
          · simp [binOp]
        | arrK q k =>
          cases a <;> try (simp [kwf] at h1; done)
          cases b <;> try (simp [kwf] at h2; done)
          left
          rcases ho with rfl | rfl
          · simp [binOp]
          · simp [binOp]
      subst h
      constructor
      · rw [Sem.run_bind, hg]
        rcases hop .eql (.inl rfl) with e | ⟨r', e, e'⟩
        · simp [e, heq]
        · simp [e, e']
      · rw [Sem.run_bind, hg]
        rcases hop .neq (.inr rfl) with e | ⟨r', e, e'⟩
        · simp [e, heq]
        · simp [e, e']
    · cases h
  · cases h

theorem pbin_run {op : BinOp} {t : TypeId} {x y : Operand} {a b v : Value} (h : pbin P op t x y a b = some v) (w : World) : (do eqGuard op t x y a b; binOp op t a b).run P w = .ok v w := by
  unfold pbin at h
  split at h
  · split at h
    · rename_i r hr
      simp only [Option.some.injEq] at h; subst h
      exact (keqA_run hr x y w).1
    · exact prun_sound _ _ h w
  · split at h
    · rename_i r hr
      simp only [Option.some.injEq] at h; subst h
      exact (keqA_run hr x y w).2
    · exact prun_sound _ _ h w
  · exact prun_sound _ _ h w

theorem args_rep {ρ : Operand → AV} (rr : ∀ x, Rep S μ w (ρ x) (a.eval x)) (args : Array Operand) : RepL S μ w (args.toList.map ρ) (args.map a.eval).toList := by
  have := rhos_rep rr args.toList
  simpa using this

theorem ok_builtin {b : Builtin} {ts : Array TypeId} {ty : TypeId} {consts : Array Bool} {xs : List AV} {vs : Array Value} {x : AV} {u : Upd} {fresh : Nat} (hr : RM S μ w m) (hfr : (lk u fresh).isSome = true → m.base ≤ fresh ∧ fresh < m.base + m.wid ∧ m.find fresh = none)
    (h : builtinF P m.find fresh b ts xs = some (x, u)) (hx : RepL S μ w xs vs.toList) : StepOK P S μ w m (builtin b ts ty consts vs) x u := by
  have arr1 : ∀ {x : AV} {xs : List AV}, xs = [x] → RepL S μ w xs vs.toList → ∃ v, vs = #[v] ∧ Rep S μ w x v := by
    intro x xs e hx
    subst e
    simp only [RepL] at hx
    obtain ⟨y, zs, e, h1, h2⟩ := hx
    subst h2
    exact ⟨y, Array.ext' (by simpa using e), h1⟩
  have arr2 : ∀ {x y : AV} {xs : List AV}, xs = [x, y] → RepL S μ w xs vs.toList → ∃ v z, vs = #[v, z] ∧ Rep S μ w x v ∧ Rep S μ w y z := by
    intro x y xs e hx
    subst e
    simp only [RepL] at hx
    obtain ⟨v, zs, e, h1, z, ws, e2, h2, h3⟩ := hx
    subst h3; subst e2
    exact ⟨v, z, Array.ext' (by simpa using e), h1, h2⟩
  unfold builtinF at h
  split at h
  · -- len
    rename_i y
    obtain ⟨v, rfl, hv⟩ := arr1 rfl hx
    split at h
    · rename_i t ht
      split at h
      · rename_i n e htr
        simp only [Option.some.injEq, Prod.mk.injEq] at h
        obtain ⟨rfl, rfl⟩ := h
        refine StepOK.v (OkV.same hr (v := .int .i64 n) ?_ (by simp [Rep]))
        have hu := under_tarr htr
        simp [Builtin.len_, ht, run_underlying hu, goInt]
      · split at h
        · rename_i k n hl
          split at h
          · rename_i hk
            simp only [Option.some.injEq, Prod.mk.injEq] at h
            obtain ⟨rfl, rfl⟩ := h
            exact StepOK.v (ok_len hr ht hl hk hv)
          · cases h
        · cases h
    · cases h
  · -- append
    obtain ⟨v, z, rfl, hv, hz⟩ := arr2 rfl hx
    split at h
    · rename_i sT xT hs ht
      have hu : (lk u fresh).isSome = true := by
        unfold appendF at h
        split at h
        · split at h
          · split at h
            · split at h
              · simp only [Option.some.injEq, Prod.mk.injEq] at h
                obtain ⟨_, rfl⟩ := h; simp [lk]
              · cases h
            · split at h
              · split at h
                · simp only [Option.some.injEq, Prod.mk.injEq] at h
                  obtain ⟨_, rfl⟩ := h; simp only [lk]; split <;> simp
                · cases h
              · cases h
            · cases h
          · cases h
        · cases h
      obtain ⟨f0, f1, f2⟩ := hfr hu
      have hap := ok_append (P := P) (ty := ty) hr f0 f1 f2 h hv hz
      have heq : Builtin.append_ ts ty #[v, z] = Builtin.append_ #[sT, xT] ty #[v, z] := by
        unfold Builtin.append_
        rw [hs, ht]
        rfl
      rw [← heq] at hap
      exact StepOK.v hap
    · cases h
  · -- copy
    obtain ⟨v, z, rfl, hv, hz⟩ := arr2 rfl hx
    split at h
    · rename_i dT hd
      exact StepOK.v (ok_copy hr hd h hv hz)
    · cases h
  · -- min
    split at h
    · rename_i ys hys
      simp only [Option.map_eq_some_iff, Prod.mk.injEq] at h
      obtain ⟨y, hy, rfl, rfl⟩ := h
      have := valsA_rep hys hx
      have hvs : vs = ys.toArray := Array.ext' (by simpa using this)
      subst hvs
      exact StepOK.v (OkV.same hr (prun_sound _ _ hy w) (by simp [Rep]))
    · cases h
  · -- max
    split at h
    · rename_i ys hys
      simp only [Option.map_eq_some_iff, Prod.mk.injEq] at h
      obtain ⟨y, hy, rfl, rfl⟩ := h
      have := valsA_rep hys hx
      have hvs : vs = ys.toArray := Array.ext' (by simpa using this)
      subst hvs
      exact StepOK.v (OkV.same hr (prun_sound _ _ hy w) (by simp [Rep]))
    · cases h
  · -- delete
    obtain ⟨v, z, rfl, hv, hz⟩ := arr2 rfl hx
    split at h
    · rename_i mT kt ks ys key hts hf hkv
      split at h
      · rename_i kT eT htm
        split at h
        · rename_i hc
          simp only [Option.some.injEq, Prod.mk.injEq] at h
          obtain ⟨rfl, rfl⟩ := h
          exact StepOK.v (ok_delete hr hts hf htm hc.1 hkv hc.2 hv hz)
        · cases h
      · cases h
    · cases h
  · cases h

set_option maxHeartbeats 1000000 in
/-- **An operation does what the evaluator says.** -/
theorem step_sound0 {o : Oper} {x : AV} {u : Upd} {fresh : Nat} {ρ : Operand → AV} (hr : RM S μ w m) (rr : ∀ x, Rep S μ w (ρ x) (a.eval x)) (hs : stepF0 P ρ m.find fresh o.op = some (x, u))
    (hfr : (lk u fresh).isSome = true → m.base ≤ fresh ∧ fresh < m.base + m.wid ∧ m.find fresh = none) : StepOK P S μ w m (execOp a.eval o) x u := by
  obtain ⟨dst, op, ty, pos, after, guard⟩ := o
  simp only at hs
  unfold stepF0 at hs
  split at hs <;> simp only [execOp]
  · -- move
    rename_i x0
    simp only [Option.some.injEq, Prod.mk.injEq] at hs
    obtain ⟨rfl, rfl⟩ := hs
    exact ⟨_, a.eval x0, w, μ, rfl, .inl rfl, rr x0, After.pure hr⟩
  · -- assign
    rename_i x0
    simp only [Option.some.injEq, Prod.mk.injEq] at hs
    obtain ⟨rfl, rfl⟩ := hs
    exact ⟨_, a.eval x0, w, μ, rfl, .inl rfl, rr x0, After.pure hr⟩
  · -- pick
    rename_i c x1 x2
    split at hs
    · rename_i t hc
      have hcv := rr c
      rw [hc] at hcv
      simp only [Rep] at hcv
      have hrun : (do pure (.value (if ← asBool (a.eval c) then a.eval x1 else a.eval x2)) : Sem Next).run P w = .ok (.value (if t = true then a.eval x1 else a.eval x2)) w := by
        rw [hcv]; rfl
      split at hs
      · rename_i p q h1 h2
        simp only [Option.some.injEq, Prod.mk.injEq] at hs
        obtain ⟨rfl, rfl⟩ := hs
        have r1 := rr x1; have r2 := rr x2
        rw [h1] at r1; rw [h2] at r2
        simp only [Rep] at r1 r2
        refine ⟨_, _, w, μ, hrun, .inl rfl, ?_, After.pure hr⟩
        cases t <;> simp [Rep, r1, r2]
      · simp only [Option.some.injEq, Prod.mk.injEq] at hs
        obtain ⟨rfl, rfl⟩ := hs
        refine ⟨_, _, w, μ, hrun, .inl rfl, ?_, After.pure hr⟩
        cases t
        · simpa using rr x2
        · simpa using rr x1
    · cases hs
  · -- alloc
    split at hs
    · rename_i e zs hz
      simp only [Option.some.injEq, Prod.mk.injEq] at hs
      obtain ⟨rfl, rfl⟩ := hs
      obtain ⟨f0, f1, f2⟩ := hfr (by simp [lk])
      exact StepOK.v (ok_alloc hr f0 f1 f2 hz)
    · cases hs
  · -- box
    rename_i e x0
    split at hs
    · rename_i cs hc
      simp only [Option.some.injEq, Prod.mk.injEq] at hs
      obtain ⟨rfl, rfl⟩ := hs
      obtain ⟨f0, f1, f2⟩ := hfr (by simp [lk])
      exact StepOK.v (ok_box hr f0 f1 f2 hc (rr x0))
    · cases hs
  · -- build
    rename_i t parts
    split at hs
    · rename_i zs pl hz hp
      simp only [Option.map_eq_some_iff, Prod.mk.injEq] at hs
      obtain ⟨cs, hf, rfl, rfl⟩ := hs
      exact StepOK.v (ok_build hr hz hp hf (map_fst_parts parts _ _) (map_snd_parts rr parts))
    · cases hs
  · -- buildSlice
    rename_i t n parts
    split at hs
    · rename_i e ht
      split at hs
      · rename_i zs hz
        split at hs
        · rename_i hc
          simp only [Option.map_eq_some_iff, Prod.mk.injEq] at hs
          obtain ⟨cs, hf, rfl, rfl⟩ := hs
          obtain ⟨f0, f1, f2⟩ := hfr (by simp [lk])
          exact StepOK.v (ok_buildSlice hr f0 f1 f2 ht hz hc.1 hc.2.1 hc.2.2 hf (map_fst_parts parts _ _) (map_snd_parts rr parts))
        · cases hs
      · cases hs
    · cases hs
  · -- load
    rename_i t x0
    split at hs
    · rename_i htk
      simp only [Option.map_eq_some_iff, Prod.mk.injEq] at hs
      obtain ⟨y, hl, rfl, rfl⟩ := hs
      exact StepOK.v (ok_load hr hl (rr x0) (.inl htk))
    · cases hs
  · -- store
    rename_i t x0 x1
    simp only [Option.map_eq_some_iff, Prod.mk.injEq] at hs
    obtain ⟨y, hl, rfl, rfl⟩ := hs
    exact StepOK.u (ok_store hr hl (rr x0) (rr x1))
  · -- nilCheck
    rename_i x0
    have r0 := rr x0
    split at hs
    · rename_i o off e
      simp only [Option.some.injEq, Prod.mk.injEq] at hs
      obtain ⟨rfl, rfl⟩ := hs
      rw [e] at r0
      have r1 := r0
      simp only [Rep] at r1
      obtain ⟨b, bo, _, hv⟩ := r1
      rw [hv] at r0 ⊢
      exact ⟨_, _, w, μ, rfl, .inl rfl, r0, After.pure hr⟩
    · rename_i xs e
      simp only [Option.some.injEq, Prod.mk.injEq] at hs
      obtain ⟨rfl, rfl⟩ := hs
      rw [e] at r0
      have r1 := r0
      simp only [Rep] at r1
      obtain ⟨b, bo, hv, _⟩ := r1
      rw [hv] at r0 ⊢
      exact ⟨_, _, w, μ, rfl, .inl rfl, r0, After.pure hr⟩
    · rename_i f p q e
      simp only [Option.some.injEq, Prod.mk.injEq] at hs
      obtain ⟨rfl, rfl⟩ := hs
      rw [e] at r0
      have r1 := r0
      simp only [Rep] at r1
      obtain ⟨b, bo, hv, _⟩ := r1
      rw [hv] at r0 ⊢
      exact ⟨_, _, w, μ, rfl, .inl rfl, r0, After.pure hr⟩
    · rename_i f p q e
      simp only [Option.some.injEq, Prod.mk.injEq] at hs
      obtain ⟨rfl, rfl⟩ := hs
      rw [e] at r0
      have r1 := r0
      simp only [Rep] at r1
      rw [r1] at r0 ⊢
      exact ⟨_, _, w, μ, rfl, .inl rfl, r0, After.pure hr⟩
    · cases hs
  · -- binOp
    rename_i op xT x0 y0 yT
    split at hs
    · rename_i p q h1 h2
      simp only [Option.map_eq_some_iff, Prod.mk.injEq] at hs
      obtain ⟨y, hy, rfl, rfl⟩ := hs
      rw [val_rep h1 (rr x0), val_rep h2 (rr y0)]
      exact StepOK.v (OkV.same hr (pbin_run hy w) (by simp [Rep]))
    · split at hs
      · split at hs
        · rename_i hn
          simp only [Option.some.injEq, Prod.mk.injEq] at hs
          obtain ⟨rfl, rfl⟩ := hs
          exact StepOK.v (OkV.same hr (nilEq_run hn (rr x0) (rr y0) x0 y0).1 (by simp [Rep]))
        · cases hs
      · split at hs
        · rename_i hn
          simp only [Option.some.injEq, Prod.mk.injEq] at hs
          obtain ⟨rfl, rfl⟩ := hs
          exact StepOK.v (OkV.same hr (nilEq_run hn (rr x0) (rr y0) x0 y0).2 (by simp [Rep]))
        · cases hs
      · cases hs
  · -- unOp
    rename_i op xT x0
    split at hs
    · rename_i p h1
      simp only [Option.map_eq_some_iff, Prod.mk.injEq] at hs
      obtain ⟨y, hy, rfl, rfl⟩ := hs
      rw [val_rep h1 (rr x0)]
      exact StepOK.v (OkV.same hr (prun_sound _ _ hy w) (by simp [Rep]))
    · cases hs
  · -- convert
    rename_i src dst' x0
    have r0 := rr x0
    split at hs
    · rename_i s e
      rw [e] at r0
      simp only [Rep] at r0
      rw [r0]
      split at hs
      · rename_i htd
        split at hs
        · rename_i hts
          simp only [Option.some.injEq, Prod.mk.injEq] at hs
          obtain ⟨rfl, rfl⟩ := hs
          refine StepOK.v (OkV.same hr (v := .string s) ?_ (by simp [Rep]))
          simp [convert, run_underlying (under_tstr htd), run_underlying (under_tstr hts)]
        · cases hs
      · split at hs
        · rename_i hb
          split at hs
          · rename_i e' he
            simp only [Option.some.injEq, Prod.mk.injEq] at hs
            obtain ⟨rfl, rfl⟩ := hs
            obtain ⟨f0, f1, f2⟩ := hfr (by simp [lk])
            exact StepOK.v (ok_toBytes hr f0 f1 f2 hb.1 he hb.2)
          · cases hs
        · cases hs
    · rename_i p _ e
      rw [e] at r0
      simp only [Rep] at r0
      rw [r0]
      simp only [Option.map_eq_some_iff, Prod.mk.injEq] at hs
      obtain ⟨y, hy, rfl, rfl⟩ := hs
      exact StepOK.v (OkV.same hr (prun_sound _ _ hy w) (by simp [Rep]))
    · rename_i hn1 hn2
      split at hs
      · rename_i hb
        split at hs
        · rename_i n xs hsrc
          split at hs
          · rename_i vs hvs
            split at hs
            · rename_i hall
              simp only [Option.some.injEq, Prod.mk.injEq] at hs
              obtain ⟨rfl, rfl⟩ := hs
              exact StepOK.v (ok_toString hr hb.1 hb.2 hsrc hvs hall r0 (fun s e => hn1 s e))
            · cases hs
          · cases hs
        · cases hs
      · cases hs
  · -- makeFunc
    rename_i fn first captured
    split at hs
    · rename_i h1 h2
      simp only [Option.some.injEq, Prod.mk.injEq] at hs
      obtain ⟨rfl, rfl⟩ := hs
      have e1 : first = #[] := by simpa using h1
      have e2 : captured = #[] := by simpa using h2
      subst e1; subst e2
      exact ⟨_, _, w, μ, rfl, .inl rfl, by simp [Rep], After.pure hr⟩
    · simp only [Option.some.injEq, Prod.mk.injEq] at hs
      obtain ⟨rfl, rfl⟩ := hs
      refine ⟨_, .func fn (first.map a.eval) (captured.map a.eval), w, μ, rfl, .inl rfl, ?_, After.pure hr⟩
      simp only [Rep]
      exact ⟨(first.map a.eval).toList, (captured.map a.eval).toList, by congr 1 <;> (apply Array.ext'; simp), args_rep rr first, args_rep rr captured⟩
  · -- makeMap
    rename_i t r
    split at hs
    · rename_i kT eT ht
      split at hs
      · rename_i kt hkt hh
        simp only [Option.some.injEq, Prod.mk.injEq] at hs
        obtain ⟨rfl, rfl⟩ := hs
        obtain ⟨f0, f1, f2⟩ := hfr (by simp [lk])
        refine StepOK.v (ok_makeMap hr f0 f1 f2 ht (fun v hv => ?_))
        cases r with
        | none => simp at hv
        | some o =>
          simp at hv
          simp only at hh
          split at hh
          · rename_i k n e
            have r0 := rr o
            rw [e] at r0
            simp only [Rep] at r0
            exact ⟨k, n, by rw [← hv, r0]⟩
          · cases hh
      · cases hs
    · cases hs
  · -- makeSlice
    rename_i t l c
    split at hs
    · rename_i e kl l' kc c' ht hl hc
      split at hs
      · rename_i zs hz
        split at hs
        · rename_i hcc
          simp only [Option.some.injEq, Prod.mk.injEq] at hs
          obtain ⟨rfl, rfl⟩ := hs
          obtain ⟨f0, f1, f2⟩ := hfr (by simp [lk])
          have r1 := rr l; have r2 := rr c
          rw [hl] at r1; rw [hc] at r2
          simp only [Rep] at r1 r2
          rw [r1, r2]
          exact StepOK.v (ok_makeSlice hr f0 f1 f2 ht hz hcc.1 hcc.2.1 hcc.2.2.1 hcc.2.2.2.1 hcc.2.2.2.2.1 hcc.2.2.2.2.2)
        · cases hs
      · cases hs
    · cases hs
  · -- slice
    rename_i t x0 lo hi
    simp only [Option.map_eq_some_iff, Prod.mk.injEq] at hs
    obtain ⟨y, hy, rfl, rfl⟩ := hs
    refine StepOK.v (ok_slice hr hy (rr x0) (fun x hx => ?_) (fun hx => ?_) (fun x hx => ?_) (fun hx => ?_))
    · cases lo with
      | none => cases hx
      | some o => simp at hx; subst hx; exact ⟨_, rfl, rr o⟩
    · cases lo with
      | none => rfl
      | some o => simp at hx
    · cases hi with
      | none => cases hx
      | some o => simp at hx; subst hx; exact ⟨_, rfl, rr o⟩
    · cases hi with
      | none => rfl
      | some o => simp at hx
  · -- fieldAddr
    rename_i s x0 f
    have r0 := rr x0
    split at hs
    · rename_i fs hfs
      split at hs
      · rename_i fl o off hfl e
        split at hs
        · rename_i hc
          simp only [Option.some.injEq, Prod.mk.injEq] at hs
          obtain ⟨rfl, rfl⟩ := hs
          rw [e] at r0
          exact StepOK.v (ok_fieldAddr hr hfs hfl hc.1 hc.2 r0 (.inl ⟨_, _, rfl, rfl⟩))
        · cases hs
      · rename_i fl xs hfl e
        split at hs
        · rename_i hc
          simp only [Option.some.injEq, Prod.mk.injEq] at hs
          obtain ⟨rfl, rfl⟩ := hs
          rw [e] at r0
          exact StepOK.v (ok_fieldAddr hr hfs hfl hc.1 hc.2 r0 (.inr ⟨_, rfl, rfl⟩))
        · cases hs
      · cases hs
    · cases hs
  · -- field
    rename_i t x0 f
    have r0 := rr x0
    split at hs
    · rename_i fs hfs
      split at hs
      · rename_i fl xs hfl e
        split at hs
        · rename_i hc
          simp only [Option.map_eq_some_iff, Prod.mk.injEq] at hs
          obtain ⟨y, hy, rfl, rfl⟩ := hs
          rw [e] at r0
          exact StepOK.v (ok_field hr hfs hfl r0 hy (.inl hc))
        · cases hs
      · cases hs
    · cases hs
  · -- indexAddr
    simp only [Option.map_eq_some_iff, Prod.mk.injEq] at hs
    obtain ⟨y, hy, rfl, rfl⟩ := hs
    exact StepOK.v (ok_indexAddr hr hy (rr _) (rr _))
  · -- index
    simp only [Option.map_eq_some_iff, Prod.mk.injEq] at hs
    obtain ⟨y, hy, rfl, rfl⟩ := hs
    exact StepOK.v (ok_index hr hy (rr _) (rr _))
  · -- lookup
    simp only [Option.map_eq_some_iff, Prod.mk.injEq] at hs
    obtain ⟨y, hy, rfl, rfl⟩ := hs
    exact StepOK.v (ok_lookup hr hy (rr _) (rr _))
  · -- mapUpdate
    simp only [Option.map_eq_some_iff, Prod.mk.injEq] at hs
    obtain ⟨y, hy, rfl, rfl⟩ := hs
    exact StepOK.u (ok_mapUpd hr hy (rr _) (rr _) (rr _))
  · -- extract
    rename_i t i
    have r0 := rr t
    split at hs
    · rename_i xs e
      simp only [Option.map_eq_some_iff, Prod.mk.injEq] at hs
      obtain ⟨y, hy, rfl, rfl⟩ := hs
      rw [e] at r0
      simp only [Rep] at r0
      obtain ⟨ys, hv, hys⟩ := r0
      obtain ⟨z, hz1, hz2⟩ := hys.get hy
      refine StepOK.v (OkV.same hr (v := z) ?_ hz2)
      rw [hv]; simp [Instr.extract, hz1]
    · cases hs
  · -- builtin
    rename_i b args ts
    have := fun consts => ok_builtin (ty := ty) (consts := consts) hr hfr hs (args_rep rr args)
    simp only [resolve, invoke, pure_bind]
    exact this _
  · cases hs


/-! Slices of known capacity, iterators. -/
theorem unf_rep {x : AV} {v : Value} (h : Rep S μ w x v) : Rep S μ w (unf x) v := by
  cases x with
  | full n z xs =>
    simp only [unf, Rep] at *
    obtain ⟨base, e, hl, r⟩ := h
    exact ⟨base, n, e, Nat.le_refl _, hl, r⟩
  | slc o off n z =>
    simp only [unf, Rep] at *
    obtain ⟨base, e, r⟩ := h
    exact ⟨base, n, e, Nat.le_refl _, r⟩
  | _ => exact h
theorem unfs_rep : ∀ {xs : List AV} {vs : List Value}, RepL S μ w xs vs → RepL S μ w (xs.map unf) vs
  | [], vs, h => by simpa [RepL] using h
  | x :: xs, vs, h => by
    simp only [List.map_cons, RepL] at *
    obtain ⟨y, zs, e, h1, h2⟩ := h
    exact ⟨y, zs, e, unf_rep h1, unfs_rep h2⟩

theorem ok_appendGA {sT xT ty : TypeId} {s x y : AV} {base : Option Addr} {nb z : Nat} {vx : Value} {u : Upd} {fresh : Nat} (hr : RM S μ w m) (hf0 : m.base ≤ fresh) (hf1 : fresh < m.base + m.wid) (hf2 : m.find fresh = none)
    (h : appendGA P m.find fresh sT xT s x z = some (y, u)) (hs : Rep S μ w s (.slice base nb nb)) (hsr : ∀ e, z = tsz P e → srcS m.find (tsz P e) s = rdS m.find s) (hx : Rep S μ w x vx) : OkV P S μ w m (Builtin.append_ #[sT, xT] ty #[.slice base nb nb, vx]) y u := by
  unfold appendGA at h
  split at h
  · rename_i e hte hti
    unfold appendGB at h
    split at h
    · rename_i n0 ys n xs hold hsrc
      obtain ⟨hlen, news, hn1, _, hn2, hn3, hn4⟩ := src_reads (P := P) hr hsrc hx
      split at h
      · rename_i hc
        obtain ⟨hzz, htk, hz, hpos, h0, hsmall, hby⟩ := hc
        simp only [Option.some.injEq, Prod.mk.injEq] at h
        obtain ⟨rfl, rfl⟩ := h
        obtain ⟨zz, hz, hzs⟩ := tzok_spec hz
        have hold' : srcS m.find (tsz P e) s = some (n0, ys) := (hsr e hzz).trans hold
        obtain ⟨holen, olds, ho1, _, ho2, ho3, ho4⟩ := src_reads (P := P) hr hold' hs
        have hnb : nb = n0 := by
          have := holen w
          simp [Builtin.lenOf] at this
          exact this
        subst hnb
        by_cases hn0 : n = 0
        · subst hn0
          have e0 : nb = 0 := by omega
          subst e0
          have hxs : xs = [] := List.eq_nil_of_length_eq_zero (by rw [← hn2.length, hn4]; simp)
          have hys : ys = [] := List.eq_nil_of_length_eq_zero (by rw [← ho2.length, ho4]; simp)
          have hnews : news = [] := List.eq_nil_of_length_eq_zero (by rw [hn4]; simp)
          subst hxs; subst hys; subst hnews
          refine ⟨.slice base 0 0, w, μ, ?_, by simp only [Rep]; exact ⟨base, 0, rfl, Nat.le_refl _, .inl rfl⟩, After.nil hr hf0 hf1 hf2 e true⟩
          have hin := run_append_in (w := w) (ty := ty) (base := base) (n0 := 0) (cap := 0) (n := 0) hte hti htk (Nat.le_refl 0) hlen (hn1 w fun _ => rfl)
          rw [hin]
          cases base <;> simp [storeCells]
        · obtain ⟨cap', rest, h1, h2, h3⟩ := run_append_new (w := w) (base := base) (n0 := nb) (cap := nb) (n := n) (x := vx) (old := olds) (new := news) (ty := ty) hte hti htk hz hpos hby hsmall (by omega) (hlen w) (fun d => ho1 _ fun _ => rfl) (fun d => hn1 _ fun _ => rfl)
          obtain ⟨μ', h4, h5⟩ := After.row (d := w.drawn + 1) hr hf0 hf1 hf2 e (xs := ys ++ xs) (ys := olds ++ news) (olds.toArray ++ news.toArray ++ rest) (0, 0) true (ho2.append hn2) (fun u hu => by
            rcases List.mem_append.1 hu with h | h
            · exact ho3 u h
            · exact hn3 u h) (by simp) (fun j hj => newrow_cells j hj) (by omega)
          refine ⟨_, _, μ', h3, ?_, h4⟩
          simp only [Rep]
          refine ⟨_, cap', rfl, by omega, .inr ⟨_, 0, h5, rfl, ?_⟩⟩
          simp only [bsize, Array.getElem?_push_size, Array.size_append, List.size_toArray, h2, hn4, ho4, hzs]
          have : nb * tsz P e + n * tsz P e + (cap' - (nb + n)) * tsz P e = cap' * tsz P e := by rw [← Nat.add_mul, ← Nat.add_mul]; congr 1; omega
          omega
      · cases h
    · cases h
  · cases h

theorem ok_appendG {sT xT ty : TypeId} {s x y : AV} {vs vx : Value} {u : Upd} {fresh : Nat} (hr : RM S μ w m) (hf0 : m.base ≤ fresh) (hf1 : fresh < m.base + m.wid) (hf2 : m.find fresh = none)
    (h : appendG P m.find fresh sT xT s x = some (y, u)) (hs : Rep S μ w s vs) (hx : Rep S μ w x vx) : OkV P S μ w m (Builtin.append_ #[sT, xT] ty #[vs, vx]) y u := by
  cases s with
  | full n z xs =>
    have hu := unf_rep hs
    simp only [Rep] at hs
    obtain ⟨base, rfl, _⟩ := hs
    exact ok_appendGA hr hf0 hf1 hf2 h hu (fun e he => by simp only [srcS, rdS, he, if_true]) hx
  | slc o off n z =>
    have hu := unf_rep hs
    simp only [Rep] at hs
    obtain ⟨base, rfl, _⟩ := hs
    exact ok_appendGA hr hf0 hf1 hf2 h hu (fun e he => by simp only [srcS, rdS, he, if_true]) hx
  | _ => exact ok_append hr hf0 hf1 hf2 (by simpa only [appendG] using h) hs hx


theorem eqInt_spec {x y : AV} (h : eqInt x y = true) : ∃ k k' a, x = .v (.int k a) ∧ y = .v (.int k' a) := by
  unfold eqInt at h
  split at h
  · rename_i k a k' b
    simp only [beq_iff_eq] at h
    subst h
    exact ⟨_, _, _, rfl, rfl⟩
  · cases h

theorem run_bnds3 {n cap l h : Nat} {lo : Option AV} {k k' : IntKind} {q : Int} {vlo : Option Value} (hb : bnds n lo (some (.v (.int k q))) = some (l, h)) (hn : n ≤ cap)
    (hlo : ∀ x, lo = some x → ∃ v, vlo = some v ∧ Rep S μ w x v) (hlo' : lo = none → vlo = none) :
    (Instr.sliceBounds true n cap vlo (some (.int k q)) (some (.int k' q))).run P w = .ok (l, h, h) w ∧ l ≤ h ∧ h ≤ n := by
  unfold bnds at hb
  simp only [Option.bind_eq_some_iff] at hb
  obtain ⟨h', hh, hb⟩ := hb
  simp only [bhi] at hh
  split at hh
  · rename_i hq
    simp only [Option.some.injEq] at hh
    subst hh
    have hmx : (Instr.sliceBound (.int k' q) cap .slice3Acap).run P w = .ok q.toNat w := by
      simp only [Instr.sliceBound, Sem.run_bind, run_asIntOf, Result.andThen_ok]
      rw [if_pos (by omega)]; rfl
    have hhi : (Instr.sliceBound (.int k q) q.toNat .slice3B).run P w = .ok q.toNat w := by
      simp only [Instr.sliceBound, Sem.run_bind, run_asIntOf, Result.andThen_ok]
      rw [if_pos (by omega)]; rfl
    unfold blo at hb
    split at hb
    · simp only [Option.some.injEq, Prod.mk.injEq] at hb
      obtain ⟨rfl, rfl⟩ := hb
      rw [hlo' rfl]
      refine ⟨?_, Nat.zero_le _, by omega⟩
      simp [Instr.sliceBounds, hmx, hhi]
    · rename_i k2 q2
      obtain ⟨v, rfl, hx⟩ := hlo _ rfl
      simp only [Rep] at hx
      subst hx
      split at hb
      · rename_i hq2
        simp only [Option.some.injEq, Prod.mk.injEq] at hb
        obtain ⟨rfl, rfl⟩ := hb
        refine ⟨?_, by omega, by omega⟩
        have hl : (Instr.sliceBound (.int k2 q2) q.toNat .slice3C).run P w = .ok q2.toNat w := by
          simp only [Instr.sliceBound, Sem.run_bind, run_asIntOf, Result.andThen_ok]
          rw [if_pos hq2]; rfl
        simp [Instr.sliceBounds, hmx, hhi, hl]
      · cases hb
    · cases hb
  · cases hh

theorem ok_slice3 {t : TypeId} {x y : AV} {lo : Option AV} {hi mx : AV} {v vhi vmx : Value} {vlo : Option Value} (hr : RM S μ w m) (h : slice3A P (telem P t) x lo hi mx = some y) (hx : Rep S μ w x v) (hlo : ∀ x, lo = some x → ∃ v, vlo = some v ∧ Rep S μ w x v) (hlo' : lo = none → vlo = none)
    (hhi : Rep S μ w hi vhi) (hmx : Rep S μ w mx vmx) : OkV P S μ w m (Instr.sliceAt t v vlo (some vhi) (some vmx)) y [] := by
  unfold slice3A at h
  split at h
  · rename_i e ht
    split at h
    · rename_i hc
      obtain ⟨htk, he⟩ := hc
      obtain ⟨k, k', q, rfl, rfl⟩ := eqInt_spec he
      simp only [Rep] at hhi hmx
      subst hhi; subst hmx
      have hu := under_telem ht
      unfold slice3B at h
      split at h
      · simp only [Option.map_eq_some_iff] at h
        obtain ⟨⟨l, h'⟩, hb, rfl⟩ := h
        simp only [Rep] at hx
        subst hx
        obtain ⟨h1, h2, h3⟩ := run_bnds3 (P := P) (k' := k') hb (Nat.le_refl _) hlo hlo'
        have e1 : h' = 0 := by omega
        have e2 : l = 0 := by omega
        subst e1; subst e2
        refine OkV.same hr (v := .slice none 0 0) ?_ (by simp [Rep])
        simp [Instr.sliceAt, Instr.slice, run_underlying hu, h1, run_tsz htk]
      · rename_i n z xs
        split at h
        · rename_i hz
          subst hz
          simp only [Option.map_eq_some_iff] at h
          obtain ⟨⟨l, h'⟩, hb, rfl⟩ := h
          simp only [Rep] at hx
          obtain ⟨base, cap, rfl, hn, hlen, hc⟩ := hx
          obtain ⟨h1, h2, h3⟩ := run_bnds3 (P := P) (k' := k') hb hn hlo hlo'
          have hlz : l * tsz P e + (h' - l) * tsz P e ≤ n * tsz P e := by
            rw [← Nat.add_mul]; exact Nat.mul_le_mul_right _ (by omega)
          refine OkV.same hr (v := .slice (if h' = l then base else base.map (·.add (l * tsz P e))) (h' - l) (h' - l)) ?_ ?_
          · simp [Instr.sliceAt, Instr.slice, run_underlying hu, h1, run_tsz htk]
          · simp only [Rep]
            refine ⟨_, rfl, by simp; omega, ?_⟩
            by_cases e0 : h' = l
            · left; omega
            · right
              rcases hc with hc | ⟨b, off, rfl, hc⟩
              · omega
              · refine ⟨b, off + l * tsz P e, by simp [e0, addr_add], ?_⟩
                exact (hc.drop _).take _
        · cases h
      · rename_i o off n z
        split at h
        · rename_i hz
          subst hz
          simp only [Option.map_eq_some_iff] at h
          obtain ⟨⟨l, h'⟩, hb, rfl⟩ := h
          simp only [Rep] at hx
          obtain ⟨base, cap, rfl, hn, hc⟩ := hx
          obtain ⟨h1, h2, h3⟩ := run_bnds3 (P := P) (k' := k') hb hn hlo hlo'
          have hlz : l * tsz P e + (h' - l) * tsz P e ≤ cap * tsz P e := by
            rw [← Nat.add_mul]; exact Nat.mul_le_mul_right _ (by omega)
          refine OkV.same hr (v := .slice (if h' = l then base else base.map (·.add (l * tsz P e))) (h' - l) (h' - l)) ?_ ?_
          · simp [Instr.sliceAt, Instr.slice, run_underlying hu, h1, run_tsz htk]
          · simp only [Rep]
            refine ⟨_, rfl, ?_⟩
            by_cases e0 : h' = l
            · left; omega
            · right
              rcases hc with hc | ⟨b, bo, hμ, rfl, hc⟩
              · omega
              · exact ⟨b, bo, hμ, by simp [e0, addr_add, Nat.add_assoc], by omega⟩
        · cases h
      · cases h
    · cases h
  · cases h

theorem tmap_under {t kT e : TypeId} (h : tmap P t = some (kT, e)) : P.underlying t = some (.map kT e) := by
  unfold tmap at h
  simp only [Option.bind_eq_some_iff] at h
  obtain ⟨d, h1, h2⟩ := h
  cases d <;> simp at h2
  obtain ⟨rfl, rfl⟩ := h2
  exact h1

theorem run_getIt {b since stepped : Nat} {mb : Option Nat} {seen : Array Nat} (hb : w.heap[b]? = some (.mapIter mb since seen stepped)) : (getObj b).run P w = .ok (.mapIter mb since seen stepped) w := by
  simp [getObj, Sem.run, hb]

theorem ok_range {t : TypeId} {x y : AV} {v : Value} {u : Upd} {fresh : Nat} (hr : RM S μ w m) (hf0 : m.base ≤ fresh) (hf1 : fresh < m.base + m.wid) (hf2 : m.find fresh = none)
    (h : rangeA P fresh t x = some (y, u)) (hx : Rep S μ w x v) : OkV P S μ w m (Instr.range t v) y u := by
  have nw : ∀ (mb : Option Nat) (clock : Nat) (ks : List Value) (xs : List AV), (Instr.range t v).run P w = .ok (.pointer (some ⟨w.heap.size, 0, none⟩)) { w with heap := w.heap.push (.mapIter mb clock #[] clock) } →
      ((mb = none ∧ ks = [] ∧ xs = []) ∨ ∃ r es kt, mb = some r ∧ S r 0 ∧ w.heap[r]? = some (.map es clock) ∧ MapOK kt es clock ∧ es.toList.map (·.key) = ks ∧ RepL S μ w xs (es.toList.map (·.val))) →
      OkV P S μ w m (Instr.range t v) (.it fresh) [(fresh, .miter none ks xs)] := by
    intro mb clock ks xs hrun hcase
    obtain ⟨μ', h1, h2, h3⟩ := After.new (w' := { w with heap := w.heap.push (.mapIter mb clock #[] clock) }) hr hf0 hf1 hf2 (.mapIter mb clock #[] clock) (.miter none ks xs) rfl rfl rfl rfl (fun μ' hk hne hμ' => by
      simp only [RepO]
      refine ⟨w.heap.size, 0, mb, clock, #[], clock, hμ', fun off hs => by have := hr.old _ _ hs; omega, by simp, ?_⟩
      rcases hcase with ⟨e1, e2, e3⟩ | ⟨r, es, kt, e1, e2, e3, e4, e5, e6⟩
      · exact .inl ⟨e1, e2, e3, trivial⟩
      · have hfil : (es.toList.filter fun e => !(#[] : Array Nat).contains e.born) = es.toList := List.filter_eq_self.2 (fun _ _ => by simp)
        refine .inr ⟨r, es, kt, e1, e2, hk.map _ _ _ _ e2 e3, e4, rfl, ?_, ?_, by simp⟩
        · rw [hfil]; exact e5
        · rw [hfil]; exact RepL.keep hk _ _ e6)
    exact ⟨_, _, μ', hrun, by simp only [Rep]; exact ⟨_, _, h2, rfl⟩, h1⟩
  unfold rangeA at h
  split at h
  · split at h
    · rename_i ht
      simp only [Option.some.injEq, Prod.mk.injEq] at h
      obtain ⟨rfl, rfl⟩ := h
      obtain ⟨⟨kT, e⟩, ht⟩ := Option.isSome_iff_exists.1 ht
      simp only [Rep] at hx
      subst hx
      exact nw none 0 [] [] (by simp [Instr.range, run_underlying (tmap_under ht)]) (.inl ⟨rfl, rfl, rfl⟩)
    · cases h
  · rename_i kt ks xs
    split at h
    · rename_i ht
      simp only [Option.some.injEq, Prod.mk.injEq] at h
      obtain ⟨rfl, rfl⟩ := h
      obtain ⟨⟨kT, e⟩, ht⟩ := Option.isSome_iff_exists.1 ht
      simp only [Rep] at hx
      rcases hx with ⟨rfl, rfl, rfl⟩ | ⟨b, es, clock, rfl, hs, hb, hm, hk, hxs⟩
      · exact nw none 0 [] [] (by simp [Instr.range, run_underlying (tmap_under ht)]) (.inl ⟨rfl, rfl, rfl⟩)
      · exact nw (some b) clock ks xs (by simp [Instr.range, run_underlying (tmap_under ht), run_getMap hb]) (.inr ⟨b, es, kt, rfl, hs, hb, hm, hk, hxs⟩)
    · cases h
  · cases h

theorem miter_obj {o : Nat} {last : Option (Value × AV)} {ks : List Value} {xs : List AV} {v : Value} (hr : RM S μ w m) (hf : m.find o = some (.miter last ks xs)) (hx : Rep S μ w (.it o) v) :
    ∃ (b bo : Nat) (mb : Option Nat) (since : Nat) (seen : Array Nat) (stepped : Nat), v = .pointer (some ⟨b, 0, none⟩) ∧ μ o = some (b, bo) ∧ (∀ off, ¬ S b off) ∧ w.heap[b]? = some (.mapIter mb since seen stepped) ∧
      ((mb = none ∧ ks = [] ∧ xs = [] ∧ last = none) ∨ ∃ (r : Nat) (es : Array MapEntry) (kt : KT), mb = some r ∧ S r 0 ∧ w.heap[r]? = some (.map es since) ∧ MapOK kt es since ∧ stepped = since ∧
        (es.toList.filter fun e => !seen.contains e.born).map (·.key) = ks ∧ RepL S μ w xs ((es.toList.filter fun e => !seen.contains e.born).map (·.val)) ∧
        (∀ p, last = some p → ∃ e ∈ es.toList, seen.back? = some e.born ∧ e.key = p.1 ∧ Rep S μ w p.2 e.val)) := by
  simp only [Rep] at hx
  obtain ⟨b, bo, hμ, hv⟩ := hx
  have := (hr.obj _ _ hf).2
  simp only [RepO] at this
  obtain ⟨b', bo', mb, since, seen, stepped, h1, h2, h3, h4⟩ := this
  rw [hμ] at h1
  simp only [Option.some.injEq, Prod.mk.injEq] at h1
  obtain ⟨rfl, rfl⟩ := h1
  exact ⟨b, bo, mb, since, seen, stepped, hv, hμ, h2, h3, h4⟩

theorem find_born : ∀ {es : List MapEntry} {e : MapEntry}, (es.map (·.born)).Nodup → e ∈ es → es.find? (fun x => x.born == e.born) = some e
  | [], e, _, h => by simp at h
  | x :: es, e, hn, h => by
    simp only [List.map_cons, List.nodup_cons, List.mem_map, not_exists, not_and] at hn
    rw [List.find?_cons]
    rcases List.mem_cons.1 h with rfl | h
    · simp
    · have : (x.born == e.born) = false := by
        simp only [beq_eq_false_iff_ne, ne_eq]
        intro he
        exact hn.1 e h he.symm
      rw [this]
      exact find_born hn.2 h

theorem ok_entry {x y : AV} {v : Value} {u : Upd} (hr : RM S μ w m) (h : entryA m.find x = some (y, u)) (hx : Rep S μ w x v) : OkV P S μ w m (Instr.entry v) y u := by
  unfold entryA at h
  split at h
  · rename_i o
    simp only [Option.map_eq_some_iff, Prod.mk.injEq] at h
    obtain ⟨y', h, rfl, rfl⟩ := h
    unfold entryO at h
    split at h
    · rename_i p ks xs hf
      simp only [Option.some.injEq] at h
      subst h
      obtain ⟨b, bo, mb, since, seen, stepped, rfl, hμ, hS, hb, hc⟩ := miter_obj hr hf hx
      rcases hc with ⟨_, _, _, h⟩ | ⟨r, es, kt, rfl, hs, hm, hok, rfl, hk, hxs, hl⟩
      · cases h
      · obtain ⟨e, he1, he2, he3, he4⟩ := hl p rfl
        have hfind : es.find? (fun x => x.born == e.born) = some e := by
          rw [← Array.find?_toList]
          exact find_born hok.1 he1
        refine OkV.same hr (v := .tuple #[e.key, e.val]) ?_ ?_
        · simp [Instr.entry, run_getIt hb, run_getMap hm, he2, hfind]
        · simp only [Rep]
          exact ⟨[e.key, e.val], rfl, by simp only [RepL]; exact ⟨_, _, rfl, by simp only [Rep]; exact he3, _, _, rfl, he4, rfl⟩⟩
    · cases h
  · cases h

theorem ok_builtinG {b : Builtin} {ts : Array TypeId} {ty : TypeId} {consts : Array Bool} {xs : List AV} {vs : Array Value} {x : AV} {u : Upd} {fresh : Nat} (hr : RM S μ w m) (hfr : (lk u fresh).isSome = true → m.base ≤ fresh ∧ fresh < m.base + m.wid ∧ m.find fresh = none)
    (h : builtinG P m.find fresh b ts xs = some (x, u)) (hx : RepL S μ w xs vs.toList) : StepOK P S μ w m (builtin b ts ty consts vs) x u := by
  unfold builtinG at h
  split at h
  · rename_i s y
    simp only [RepL] at hx
    obtain ⟨v, zs, e, h1, z, ws, e2, h2, h3⟩ := hx
    subst h3; subst e2
    obtain rfl : vs = #[v, z] := Array.ext' (by simpa using e)
    split at h
    · rename_i sT xT hs ht
      have hu : (lk u fresh).isSome = true := by
        have hGA : ∀ {s : AV} {z : Nat}, appendGA P m.find fresh sT xT s (unf y) z = some (x, u) → (lk u fresh).isSome = true := by
          intro s z h
          unfold appendGA at h
          split at h
          · unfold appendGB at h
            split at h
            · split at h
              · simp only [Option.some.injEq, Prod.mk.injEq] at h
                obtain ⟨_, rfl⟩ := h; simp [lk]
              · cases h
            · cases h
          · cases h
        unfold appendG at h
        split at h
        · exact hGA h
        · exact hGA h
        · unfold appendF at h
          split at h
          · split at h
            · split at h
              · split at h
                · simp only [Option.some.injEq, Prod.mk.injEq] at h
                  obtain ⟨_, rfl⟩ := h; simp [lk]
                · cases h
              · split at h
                · split at h
                  · simp only [Option.some.injEq, Prod.mk.injEq] at h
                    obtain ⟨_, rfl⟩ := h; simp only [lk]; split <;> simp
                  · cases h
                · cases h
              · cases h
            · cases h
          · cases h
      obtain ⟨f0, f1, f2⟩ := hfr hu
      have hap := ok_appendG (P := P) (ty := ty) hr f0 f1 f2 h h1 (unf_rep h2)
      have heq : Builtin.append_ ts ty #[v, z] = Builtin.append_ #[sT, xT] ty #[v, z] := by
        unfold Builtin.append_
        rw [hs, ht]
        rfl
      rw [← heq] at hap
      exact StepOK.v hap
    · cases h
  · exact ok_builtin hr hfr h (unfs_rep hx)

theorem step_sound {o : Oper} {x : AV} {u : Upd} {fresh : Nat} (h : RA γ S μ w m env a) (hG : GOK γ S w) (hs : stepF P (rho γ env) m.find fresh o.op = some (x, u))
    (hfr : (lk u fresh).isSome = true → m.base ≤ fresh ∧ fresh < m.base + m.wid ∧ m.find fresh = none) : StepOK P S μ w m (execOp a.eval o) x u := by
  have hr := h.rm
  have rr := fun x => rho_rep h hG x
  have ru := fun x => unf_rep (rr x)
  obtain ⟨dst, op, ty, pos, after, guard⟩ := o
  simp only at hs
  unfold stepF at hs
  split at hs
  · rename_i x0
    simp only [Option.some.injEq, Prod.mk.injEq] at hs
    obtain ⟨rfl, rfl⟩ := hs
    exact ⟨_, a.eval x0, w, μ, rfl, .inl rfl, rr x0, After.pure hr⟩
  · rename_i x0
    simp only [Option.some.injEq, Prod.mk.injEq] at hs
    obtain ⟨rfl, rfl⟩ := hs
    exact ⟨_, a.eval x0, w, μ, rfl, .inl rfl, rr x0, After.pure hr⟩
  · rename_i t x0 lo hi mx
    simp only [execOp]
    simp only [Option.map_eq_some_iff, Prod.mk.injEq] at hs
    obtain ⟨y, hy, rfl, rfl⟩ := hs
    refine StepOK.v (ok_slice3 hr hy (ru x0) (fun x hx => ?_) (fun hx => ?_) (rr hi) (rr mx))
    · cases lo with
      | none => cases hx
      | some o => simp at hx; subst hx; exact ⟨_, rfl, rr o⟩
    · cases lo with
      | none => rfl
      | some o => simp at hx
  · rename_i t x0
    simp only [execOp]
    have hu : (lk u fresh).isSome = true := by
      unfold rangeA at hs
      split at hs
      · split at hs
        · simp only [Option.some.injEq, Prod.mk.injEq] at hs; obtain ⟨_, rfl⟩ := hs; simp [lk]
        · cases hs
      · split at hs
        · simp only [Option.some.injEq, Prod.mk.injEq] at hs; obtain ⟨_, rfl⟩ := hs; simp [lk]
        · cases hs
      · cases hs
    obtain ⟨f0, f1, f2⟩ := hfr hu
    exact StepOK.v (ok_range hr f0 f1 f2 hs (rr x0))
  · rename_i x0
    simp only [execOp]
    exact StepOK.v (ok_entry hr hs (rr x0))
  · rename_i b args ts
    have := fun consts => ok_builtinG (ty := ty) (consts := consts) hr hfr hs (args_rep rr args)
    simp only [execOp, resolve, invoke, pure_bind]
    exact this _
  · exact step_sound0 (o := ⟨dst, op, ty, pos, after, guard⟩) hr ru hs hfr

end Go.AW
/- The evaluator over code, and that it is sound. -/
namespace Go.AW

structure St where
  env : List (Nat × AV)
  mem : Mem

inductive KI where
  | code (c : Code)
  | blk (id : Nat)
  | scp
  | ops (all : Array Oper) (l : List Oper)
  | lp (J : St → Prop)
  | fin (Q : Exit → St → Prop)

def cz : Code → Nat
  | .region _ ops _ => 2 + ops.size
  | .seq a b => 1 + cz a + cz b
  | .cond _ a b => 1 + cz a + cz b
  | .block _ c => 2 + cz c
  | .loop c => 2 + cz c
  | .scope c => 2 + cz c
  | _ => 1
def iz : KI → Nat
  | .code c => cz c
  | .ops _ l => 1 + l.length
  | _ => 1
def kz : List KI → Nat
  | [] => 0
  | i :: k => iz i + kz k

theorem cz_pos (c : Code) : 0 < cz c := by cases c <;> simp [cz] <;> omega

/-- What an exit leads to. -/
def exitK (id : Nat) : List KI → Option (List KI)
  | .blk id' :: k => if id' = id then some k else exitK id k
  | .fin _ :: _ => none
  | .ops _ _ :: _ => none
  | _ :: k => exitK id k
  | [] => none
/-- What a return leads to. -/
def retK : List KI → Option (Exit → St → Prop)
  | .fin Q :: _ => some Q
  | .ops _ _ :: _ => none
  | _ :: k => retK k
  | [] => none

theorem exitK_kz {id : Nat} : ∀ {k k' : List KI}, exitK id k = some k' → kz k' < kz k
  | [], k', h => by simp [exitK] at h
  | i :: k, k', h => by
    have hrec : exitK id k = some k' → kz k' < kz (i :: k) := fun h => by
      have := exitK_kz h
      simp only [kz]; omega
    cases i with
    | blk id' =>
      simp only [exitK] at h
      split at h
      · simp at h; subst h; simp [kz, iz]
      · exact hrec h
    | fin Q => simp [exitK] at h
    | ops all l => simp [exitK] at h
    | code c => simp only [exitK] at h; exact hrec h
    | scp => simp only [exitK] at h; exact hrec h
    | lp J => simp only [exitK] at h; exact hrec h

def putE (dst : Option Nat) (x : AV) (env : List (Nat × AV)) : List (Nat × AV) :=
  match dst with
  | some d => (d, x) :: env
  | none => env

/-- A call that the evaluator takes by what is known of it. -/
def callable (P : Program) (f : FuncId) : Prop := ∃ fn, P.funcs[f]? = some fn ∧ (fn.name == "runtime.NumGoroutine") = false ∧ fn.body.isNone = false

def ACalls (P : Program) (γ : GTab) (f : FuncId) (xs : List AV) (m : Mem) (K : AV → Mem → Prop) : Prop :=
  callable P f ∧ ∀ (S : Nat → Nat → Prop) (μ : Nat → Option (Nat × Nat)) (w : World) (vs : List Value), RM S μ w m → GOK γ S w → RepL S μ w xs vs →
    Calls P f vs.toArray w fun e w' => ∃ v x m' S' μ', e = .returned v ∧ m'.base = m.base ∧ m'.wid = m.wid ∧ RM S' μ' w' m' ∧ Ext m.next m S μ w m' S' μ' w' ∧ Rep S' μ' w' x v ∧ K x m'

def retTo (dst : Option Nat) (env : List (Nat × AV)) (K : St → Prop) (x : AV) (m : Mem) : Prop := K ⟨putE dst x env, m⟩

def dstOK (m : Mem) : Option Nat → Prop
  | some d => d < m.wid
  | none => True

def freshOf (m : Mem) (dst : Option Nat) : Nat := m.base + dst.getD 0

def updOK (m : Mem) (dst : Option Nat) (u : Upd) : Bool :=
  match dst with
  | some d => (lk u (m.base + d)).isNone || (m.find (m.base + d)).isNone
  | none => (lk u m.base).isNone

/-- What stands behind an operation that yields. -/
def evS (r : Option (AV × Upd)) (dst : Option Nat) (σ : St) (K : St → Prop) : Prop :=
  match r with
  | some (x, u) => dstOK σ.mem dst ∧ updOK σ.mem dst u = true ∧ K ⟨putE dst x σ.env, σ.mem.upd u⟩
  | none => False

def calleeOf : AV → Option (FuncId × List AV × List AV)
  | .v (.func (.func g) a c) => if a.size = 0 ∧ c.size = 0 then some (g, [], []) else none
  | .clo (.func g) a c => some (g, a, c)
  | _ => none

def evC (P : Program) (γ : GTab) (r : Option (FuncId × List AV × List AV)) (args : List AV) (dst : Option Nat) (σ : St) (K : St → Prop) : Prop :=
  match r with
  | some (g, a, c) => dstOK σ.mem dst ∧ ACalls P γ g ((a ++ args ++ c).map unf) σ.mem (retTo dst σ.env K)
  | none => False

/-- A slice against nil: known where it has elements. -/
def nilSl (P : Program) (t : TypeId) : AV → AV → Option Nat
  | .seq n _ _, .v (.slice none 0 0) => if (telem P t).isSome then some n else none
  | .sl _ _ n _, .v (.slice none 0 0) => if (telem P t).isSome then some n else none
  | _, _ => none

def evN (r : Option Nat) (neg : Bool) (dst : Option Nat) (σ : St) (K : St → Prop) (other : Prop) : Prop :=
  match r with
  | some n => dstOK σ.mem dst ∧ (n = 0 → K ⟨putE dst (.v (.bool (!neg))) σ.env, σ.mem⟩) ∧ K ⟨putE dst (.v (.bool neg)) σ.env, σ.mem⟩
  | none => other

/-- One step of a map's iterator: any of those that are left. -/
def evNx (o : Nat) (dst : Option Nat) (σ : St) (K : St → Prop) (ob : Option AObj) : Prop :=
  match ob with
  | some (.miter _ ks xs) => dstOK σ.mem dst ∧ (ks = [] → K ⟨putE dst (.tup [.v (.bool false)]) σ.env, σ.mem⟩) ∧
      ∀ i k x, ks[i]? = some k → xs[i]? = some x → K ⟨putE dst (.tup [.v (.bool true), .v k, x]) σ.env, σ.mem.upd [(o, .miter (some (k, x)) (ks.eraseIdx i) (xs.eraseIdx i))]⟩
  | _ => False
def evNext (x : AV) (isStr : Bool) (dst : Option Nat) (σ : St) (K : St → Prop) : Prop :=
  match x, isStr with
  | .it o, false => evNx o dst σ K (σ.mem.find o)
  | _, _ => False

def evO (P : Program) (γ : GTab) (o : Oper) (σ : St) (K : St → Prop) : Prop :=
  match o.op with
  | .call { callee := .value f, args, .. } => evC P γ (calleeOf (rho γ σ.env f)) (args.toList.map (rho γ σ.env)) o.dst σ K
  | .binOp .eql t x y _ => evN (nilSl P t (unf (rho γ σ.env x)) (rho γ σ.env y)) false o.dst σ K (evS (stepF P (rho γ σ.env) σ.mem.find (freshOf σ.mem o.dst) o.op) o.dst σ K)
  | .binOp .neq t x y _ => evN (nilSl P t (unf (rho γ σ.env x)) (rho γ σ.env y)) true o.dst σ K (evS (stepF P (rho γ σ.env) σ.mem.find (freshOf σ.mem o.dst) o.op) o.dst σ K)
  | .next x isStr => evNext (rho γ σ.env x) isStr o.dst σ K
  | _ => evS (stepF P (rho γ σ.env) σ.mem.find (freshOf σ.mem o.dst) o.op) o.dst σ K

def boolOf : Value → Option Bool
  | .bool b => some b
  | _ => none
def boolA : AV → Option Bool
  | .v x => boolOf x
  | _ => none
def evBb (b : Option Bool) (want : Bool) (yes no : Prop) : Prop :=
  match b with
  | some b => (b = want → yes) ∧ (b = (!want) → no)
  | none => False
def evB (b : Option AV) (want : Bool) (yes no : Prop) : Prop := evBb (b.bind boolA) want yes no

def evG (P : Program) (γ : GTab) (all : Array Oper) (o : Oper) (σ : St) (K : St → Prop) : Prop :=
  match o.guard with
  | none => evO P γ o σ K
  | some (j, want) => match (all[j]?).bind (·.dst) with
    | some d => evB (lk σ.env d) want (evO P γ o ⟨(d, .v (.bool want)) :: σ.env, σ.mem⟩ K) (K ⟨putE o.dst (.v undef) ((d, .v (.bool (!want))) :: σ.env), σ.mem⟩)
    | none => False

/-! Regions whose order is open: in the order of the text, with what each operation looks at. -/

mutual
def idf : AV → Bool
  | .v _ => true
  | .agg xs => idfL xs
  | .tup xs => idfL xs
  | .seq _ _ xs => idfL xs
  | .full _ _ xs => idfL xs
  | .rop xs => idfL xs
  | .mv _ _ xs => idfL xs
  | .clo _ f c => idfL f && idfL c
  | .ifc _ x => idf x
  | .top => true
  | _ => false
def idfL : List AV → Bool
  | [] => true
  | x :: xs => idf x && idfL xs
end

/-- What is known of the world by the one and the other, where no object is. -/
structure Ext0 (S : Nat → Nat → Prop) (w : World) (S' : Nat → Nat → Prop) (w' : World) : Prop where
  os : w'.os = w.os
  tape : w'.tape = w.tape
  output : w'.output = w.output
  size : w.heap.size ≤ w'.heap.size
  sub : ∀ b off, S b off → S' b off
  new : ∀ b off, b < w.heap.size → S' b off → S b off
  old : ∀ b off, S' b off → b < w'.heap.size
  heap : ∀ b, b < w.heap.size → w'.heap[b]? = w.heap[b]?

def μ0 : Nat → Option (Nat × Nat) := fun _ => none

/-- A CONTRACT: values in, a value out; nothing that was there turns. -/
def PCall (P : Program) (γ : GTab) (f : FuncId) (xs : List AV) (r : AV) : Prop :=
  idfL xs = true ∧ idf r = true ∧ callable P f ∧ ∀ (S : Nat → Nat → Prop) (w : World) (vs : List Value), (∀ b off, S b off → b < w.heap.size) → GOK γ S w → RepL S μ0 w xs vs →
    Calls P f vs.toArray w fun e w' => ∃ v S', e = .returned v ∧ Ext0 S w S' w' ∧ Rep S' μ0 w' r v

/-- A CONTRACT whose result is all new. -/
def PNew (P : Program) (γ : GTab) (f : FuncId) (xs : List AV) (r : AV) : Prop :=
  idfL xs = true ∧ idf r = true ∧ callable P f ∧ ∀ (S : Nat → Nat → Prop) (w : World) (vs : List Value), (∀ b off, S b off → b < w.heap.size) → GOK γ S w → RepL S μ0 w xs vs →
    Calls P f vs.toArray w fun e w' => ∃ v, e = .returned v ∧ Ext0 S w (fun b off => S b off ∨ (w.heap.size ≤ b ∧ b < w'.heap.size)) w' ∧ Rep (fun b _ => w.heap.size ≤ b ∧ b < w'.heap.size) μ0 w' r v

def oids : AV → List Nat
  | .ptr o _ => [o]
  | .sl o _ _ _ => [o]
  | .slc o _ _ _ => [o]
  | .mp o => [o]
  | .it o => [o]
  | _ => []

def snapM (f : AV → Option (AV × List Nat)) : List AV → Option (List AV × List Nat)
  | [] => some ([], [])
  | x :: xs => match f x, snapM f xs with
    | some p, some q => some (p.1 :: q.1, p.2 ++ q.2)
    | _, _ => none
def snapL (f : AV → Option (AV × List Nat)) (xs : List AV) : Option (List AV × List Nat) := if idfL xs then some (xs, []) else snapM f xs

/-- A value as it stands now, without objects; and the objects that it looks at. -/
def snap (find : Nat → Option AObj) : Nat → AV → Option (AV × List Nat)
  | 0, _ => none
  | n + 1, x => match x with
    | .ptr o off => match find o with
      | some (.cells _ ys _) => (snapL (snap find n) ys).map fun p => (.rop (p.1.drop off), o :: p.2)
      | some (.imm ys) => (snapL (snap find n) ys).map fun p => (.rop (p.1.drop off), o :: p.2)
      | _ => none
    | .sl o off k sz => match find o with
      | some (.cells _ ys _) => if off + k * sz ≤ ys.length then (snapL (snap find n) ys).map fun p => (.seq k sz ((p.1.drop off).take (k * sz)), o :: p.2) else none
      | some (.imm ys) => if off + k * sz ≤ ys.length then (snapL (snap find n) ys).map fun p => (.seq k sz ((p.1.drop off).take (k * sz)), o :: p.2) else none
      | _ => none
    | .mp o => match find o with
      | some (.map kt ks xs) => (snapL (snap find n) xs).map fun p => (.mv kt ks p.1, o :: p.2)
      | _ => none
    | .agg xs => (snapL (snap find n) xs).map fun p => (.agg p.1, p.2)
    | .tup xs => (snapL (snap find n) xs).map fun p => (.tup p.1, p.2)
    | x => if idf x then some (x, []) else none

def scalar : AV → Bool
  | .v _ => true
  | .tup xs => xs.all fun | .v _ => true | _ => false
  | .agg xs => xs.all fun | .v _ => true | _ => false
  | _ => false

def snapArgs (find : Nat → Option AObj) : List AV → Option (List AV × List Nat)
  | [] => some ([], [])
  | x :: xs => match snap find 12 x, snapArgs find xs with
    | some p, some q => some (p.1 :: q.1, p.2 ++ q.2)
    | _, _ => none

/-- Is one operation held behind another one? -/
def ordB (all : Array Oper) : Nat → Nat → Nat → Bool
  | 0, _, _ => false
  | n + 1, j, i => ((all[i]?).map fun o => o.after.toList.any fun e => Region.binds .any e && (e.on == j || ordB all n j e.on)).getD false

/-- What operations have looked at, and what they have turned. -/
abbrev Log := List (Nat × List Nat × List Nat)

def meet (a b : List Nat) : Bool := a.any fun o => b.contains o

def okLog (all : Array Oper) (i : Nat) (rd wr : List Nat) (log : Log) : Bool :=
  log.all fun e => !(meet wr e.2.1 || meet wr e.2.2 || meet rd e.2.2) || ordB all all.size e.1 i

def fpOf (γ : GTab) (env : List (Nat × AV)) (op : Op) : List Nat := op.operands.toList.flatMap fun x => oids (rho γ env x)

def wrOf (u : Upd) : List Nat := u.map (·.1)

/-- The state behind an operation, by the text's order; what follows it. -/
def evDS (all : Array Oper) (i : Nat) (fp : List Nat) (log : Log) (r : Option (AV × Upd)) (dst : Option Nat) (σ : St) (K : Log → St → Prop) : Prop :=
  match r with
  | some (x, u) => dstOK σ.mem dst ∧ updOK σ.mem dst u = true ∧ okLog all i fp (wrOf u) log = true ∧ K ((i, fp, wrOf u) :: log) ⟨putE dst x σ.env, σ.mem.upd u⟩
  | none => False

def retTo0 (dst : Option Nat) (σ : St) (log : Log) (K : Log → St → Prop) (x : AV) : Prop := K log ⟨putE dst x σ.env, σ.mem⟩

/-- A contract that may be used where the arguments look at these objects. -/
def Fit (P : Program) (γ : GTab) (g : FuncId) (xs : List AV) (ids : List Nat) (r : AV) : Prop := (PCall P γ g xs r ∧ (scalar r = true ∨ ids = [])) ∨ PNew P γ g xs r
def DCall (P : Program) (γ : GTab) (g : FuncId) (xs : List AV) (ids : List Nat) (K : AV → Prop) : Prop :=
  ∃ r, Fit P γ g xs ids r ∧ K r

def evDC2 (P : Program) (γ : GTab) (all : Array Oper) (i : Nat) (log : Log) (g : FuncId) (r : Option (List AV × List Nat)) (dst : Option Nat) (σ : St) (K : Log → St → Prop) : Prop :=
  match r with
  | some (xs, ids) => dstOK σ.mem dst ∧ okLog all i ids [] log = true ∧ DCall P γ g xs ids (retTo0 dst σ ((i, ids, []) :: log) K)
  | none => False

def evDC (P : Program) (γ : GTab) (all : Array Oper) (i : Nat) (log : Log) (r : Option (FuncId × List AV × List AV)) (args : List AV) (dst : Option Nat) (σ : St) (K : Log → St → Prop) : Prop :=
  match r with
  | some (g, a, c) => evDC2 P γ all i log g (snapArgs σ.mem.find ((a ++ args ++ c).map unf)) dst σ K
  | none => False

def evDO (P : Program) (γ : GTab) (all : Array Oper) (i : Nat) (log : Log) (o : Oper) (σ : St) (K : Log → St → Prop) : Prop :=
  match o.op with
  | .call { callee := .value f, args, .. } => evDC P γ all i log (calleeOf (rho γ σ.env f)) (args.toList.map (rho γ σ.env)) o.dst σ K
  | _ => evDS all i (fpOf γ σ.env o.op) log (stepF P (rho γ σ.env) σ.mem.find (freshOf σ.mem o.dst) o.op) o.dst σ K

def evDG (P : Program) (γ : GTab) (all : Array Oper) (i : Nat) (log : Log) (o : Oper) (σ : St) (K : Log → St → Prop) : Prop :=
  match o.guard with
  | none => evDO P γ all i log o σ K
  | some (j, want) => match (all[j]?).bind (·.dst) with
    | some d => evB (lk σ.env d) want (evDO P γ all i log o ⟨(d, .v (.bool want)) :: σ.env, σ.mem⟩ K) (K log ⟨putE o.dst (.v undef) ((d, .v (.bool (!want))) :: σ.env), σ.mem⟩)
    | none => False

def Mem.open_ (m : Mem) (n : Nat) : Mem := { objs := m.objs, next := m.next + n, base := m.next, wid := n }
def Mem.close (m : Mem) : Mem := { objs := m.objs, next := m.next, base := m.next, wid := 0 }

def evDL (P : Program) (γ : GTab) (all : Array Oper) : Nat → List Oper → (St → Prop) → Log → St → Prop
  | _, [], K, _, σ => K ⟨σ.env, σ.mem.close⟩
  | i, o :: l, K, log, σ => evDG P γ all i log o σ (evDL P γ all (i + 1) l K)

/-- One state says all that another one says: its objects' numbers may be other ones, and objects may have become values. -/
def Ent (n0 : Nat) (σ σ' : St) : Prop :=
  ∀ (S : Nat → Nat → Prop) (μ : Nat → Option (Nat × Nat)) (w : World) (a : Act), RM S μ w σ.mem → (∀ t x, lk σ.env t = some x → Rep S μ w x (a.tmps.getD t undef)) →
    ∃ S' μ', RM S' μ' w σ'.mem ∧ (∀ t x, lk σ'.env t = some x → Rep S' μ' w x (a.tmps.getD t undef)) ∧ (∀ b off, S b off → S' b off) ∧ (∀ b off, S' b off → S b off ∨ Owned σ.mem μ b) ∧
      (∀ o, o < n0 → μ' o = μ o) ∧ (∀ o, o < n0 → σ'.mem.find o ≠ none → σ.mem.find o ≠ none) ∧ n0 ≤ σ'.mem.base ∧ σ'.mem.wid = 0 ∧ (∀ b, Owned σ'.mem μ' b → Owned σ.mem μ b)

def condE (env : List (Nat × AV)) (c : Operand) (b : Bool) : List (Nat × AV) :=
  match c with
  | .tmp t => (t, .v (.bool b)) :: env
  | _ => env

def ev (P : Program) (γ : GTab) (n0 N : Nat) (k : List KI) (σ : St) : Prop :=
  match k with
  | [] => False
  | .fin Q :: _ => Q .normal σ
  | .blk _ :: k => ev P γ n0 N k σ
  | .scp :: k => ev P γ n0 N k σ
  | .lp J :: _ => J σ
  | .ops _ [] :: k => ev P γ n0 N k ⟨σ.env, σ.mem.close⟩
  | .ops all (o :: l) :: k => evG P γ all o σ (fun σ' => ev P γ n0 N (.ops all l :: k) σ')
  | .code (.region _ ops false) :: k => ev P γ n0 N (.ops ops ops.toList :: k) ⟨σ.env, σ.mem.open_ N⟩
  | .code (.region _ ops true) :: k => evDL P γ ops 0 ops.toList (fun σ' => ev P γ n0 N k σ') [] ⟨σ.env, σ.mem.open_ N⟩
  | .code (.seq a b) :: k => ev P γ n0 N (.code a :: .code b :: k) σ
  | .code (.cond c a b) :: k => evB (some (rho γ σ.env c)) true (ev P γ n0 N (.code a :: k) ⟨condE σ.env c true, σ.mem⟩) (ev P γ n0 N (.code b :: k) ⟨condE σ.env c false, σ.mem⟩)
  | .code (.block id c) :: k => ev P γ n0 N (.code c :: .blk id :: k) σ
  | .code (.loop c) :: k => ∃ (ι : Type) (st : ι → St) (I : ι → Prop) (ms : ι → Nat) (i0 : ι), I i0 ∧ Ent n0 σ (st i0) ∧
      ∀ i, I i → ev P γ n0 N (.code c :: .lp (fun σ' => ∃ j, I j ∧ ms j < ms i ∧ Ent n0 σ' (st j)) :: k) (st i)
  | .code (.exit id) :: k => match h : exitK id k with
    | some k' => ev P γ n0 N k' σ
    | none => False
  | .code (.scope c) :: k => ev P γ n0 N (.code c :: .scp :: k) σ
  | .code (.label _) :: k => ev P γ n0 N k σ
  | .code .skip :: k => ev P γ n0 N k σ
  | .code .ret :: k => match retK k with
    | some Q => Q .ret σ
    | none => False
  | .code _ :: _ => False
termination_by kz k
decreasing_by
  all_goals simp only [kz, iz, cz, List.length_cons, Array.length_toList]
  all_goals first | omega | (have := exitK_kz h; omega) | (have := cz_pos ‹_›; omega)

end Go.AW
/- The evaluator is sound (1): operations, regions in order. -/
namespace Go.AW
variable {P : Program} {γ : GTab} {n0 N : Nat} {m0 : Mem} {S0 : Nat → Nat → Prop} {μs : Nat → Option (Nat × Nat)} {w0 : World}

/-- A state is what the evaluator says, and the world is as it was at the start but for what the call may touch. -/
def RX (γ : GTab) (N n0 : Nat) (m0 : Mem) (S0 : Nat → Nat → Prop) (μs : Nat → Option (Nat × Nat)) (w0 : World) (σ : St) (a : Act) (w : World) : Prop :=
  ∃ S μ, RA γ S μ w σ.mem σ.env a ∧ GOK γ S w ∧ Ext n0 m0 S0 μs w0 σ.mem S μ w ∧ N ≤ a.tmps.size ∧ n0 ≤ σ.mem.base ∧ σ.mem.wid ≤ N

theorem getD_put {a : Act} {d t : Nat} {v : Value} (h : d < a.tmps.size) : (a.put (some d) v).tmps.getD t undef = if d = t then v else a.tmps.getD t undef := by
  simp only [Act.put, Array.getD_eq_getD_getElem?, Array.getElem?_setIfInBounds]
  by_cases e : d = t
  · subst e; simp [h]
  · simp [e]

theorem getD_put_undef {a : Act} {d t : Nat} : (a.put (some d) undef).tmps.getD t undef = if d = t then undef else a.tmps.getD t undef := by
  simp only [Act.put, Array.getD_eq_getD_getElem?, Array.getElem?_setIfInBounds]
  by_cases e : d = t
  · subst e; by_cases h : d < a.tmps.size <;> simp [h]
  · simp [e]

theorem size_put {a : Act} {d : Option Nat} {v : Value} : (a.put d v).tmps.size = a.tmps.size := by cases d <;> simp [Act.put]
theorem defers_put {a : Act} {d : Option Nat} {v : Value} : (a.put d v).defers = a.defers := by cases d <;> simp [Act.put]

theorem env_put {S μ} {w : World} {env : List (Nat × AV)} {a : Act} {dst : Option Nat} {x : AV} {v : Value} (h : ∀ t x, lk env t = some x → Rep S μ w x (a.tmps.getD t undef)) (hd : ∀ d, dst = some d → d < a.tmps.size) (hx : Rep S μ w x v) :
    ∀ t y, lk (putE dst x env) t = some y → Rep S μ w y ((a.put dst v).tmps.getD t undef) := by
  intro t y ht
  cases dst with
  | none => exact h t y ht
  | some d =>
    simp only [putE, lk] at ht
    rw [getD_put (hd d rfl)]
    split at ht
    · rename_i e; simp only [Option.some.injEq] at ht; subst ht; simpa [e] using hx
    · rename_i e; rw [if_neg e]; exact h t y ht

theorem env_put_undef {S μ} {w : World} {env : List (Nat × AV)} {a : Act} {dst : Option Nat} (h : ∀ t x, lk env t = some x → Rep S μ w x (a.tmps.getD t undef)) :
    ∀ t y, lk (putE dst (.v undef) env) t = some y → Rep S μ w y ((a.put dst undef).tmps.getD t undef) := by
  intro t y ht
  cases dst with
  | none => exact h t y ht
  | some d =>
    simp only [putE, lk] at ht
    rw [getD_put_undef]
    split at ht
    · rename_i e; simp only [Option.some.injEq] at ht; subst ht; simp [e, Rep]
    · rename_i e; rw [if_neg e]; exact h t y ht

theorem RX.keepEnv {S μ S' μ'} {w w' : World} {env : List (Nat × AV)} {a : Act} (hk : Keeps S μ w S' μ' w') (h : ∀ t x, lk env t = some x → Rep S μ w x (a.tmps.getD t undef)) : ∀ t x, lk env t = some x → Rep S' μ' w' x (a.tmps.getD t undef) :=
  fun t x ht => Rep.keep hk x _ (h t x ht)

/-- What an operation leaves is what the evaluator says. -/
theorem RX.step {σ : St} {a : Act} {w : World} {o : Oper} {x : AV} {u : Upd} (h : RX γ N n0 m0 S0 μs w0 σ a w) (hs : stepF P (rho γ σ.env) σ.mem.find (freshOf σ.mem o.dst) o.op = some (x, u)) (hd : dstOK σ.mem o.dst) (hu : updOK σ.mem o.dst u = true) :
    ∃ nx v w', (execOp a.eval o).run P w = .ok nx w' ∧ (nx = .value v ∨ (nx = .skip ∧ v = undef)) ∧ RX γ N n0 m0 S0 μs w0 ⟨putE o.dst x σ.env, σ.mem.upd u⟩ (a.put o.dst v) w' := by
  obtain ⟨S, μ, hA, hG, hE, hN, hb, hwid⟩ := h
  obtain ⟨nx, v, w', μ', h1, h2, h3, h4⟩ := step_sound hA hG hs (fun hl => by
    cases hdst : o.dst with
    | none =>
      rw [hdst] at hu hl
      simp only [updOK] at hu
      simp only [freshOf, Option.getD_none, Nat.add_zero] at hl
      rw [Option.isSome_iff_ne_none] at hl
      rw [Option.isNone_iff_eq_none] at hu
      exact absurd hu hl
    | some d =>
      rw [hdst] at hu hl hd
      simp only [updOK, Bool.or_eq_true, Option.isNone_iff_eq_none] at hu
      simp only [freshOf, Option.getD_some] at hl ⊢
      simp only [dstOK] at hd
      rcases hu with hu | hu
      · rw [hu] at hl; cases hl
      · exact ⟨by omega, by omega, hu⟩)
  refine ⟨nx, v, w', h1, h2, S, μ', ⟨h4.rm, ?_, by rw [defers_put]; exact hA.defers⟩, hG.keep h4.keep, hE.trans hb h4.ext, by rw [size_put]; exact hN, hb, hwid⟩
  refine env_put (RX.keepEnv h4.keep hA.env) (fun d hdst => ?_) h3
  rw [hdst] at hd
  simp only [dstOK] at hd
  omega

theorem callable_run {f : FuncId} (h : callable P f) (args : Array Value) (w : World) : (callFunc f args).run P w = .ok (.enter f args) w := by
  obtain ⟨fn, h1, h2, h3⟩ := h
  have h2' : fn.name ≠ "runtime.NumGoroutine" := by simpa using h2
  have h3' : fn.body ≠ none := fun e => by rw [e] at h3; cases h3
  simp [callFunc, h1, h2', h3']

theorem callee_run {x : AV} {g : FuncId} {p q : List AV} {v : Value} {S μ} {w : World} (h : calleeOf x = some (g, p, q)) (hx : Rep S μ w x v) : ∃ fs cs : List Value, v = .func (.func g) fs.toArray cs.toArray ∧ RepL S μ w p fs ∧ RepL S μ w q cs := by
  unfold calleeOf at h
  split at h
  · split at h
    · rename_i hsz
      simp only [Option.some.injEq, Prod.mk.injEq] at h
      obtain ⟨rfl, rfl, rfl⟩ := h
      simp only [Rep] at hx
      have e1 := Array.eq_empty_of_size_eq_zero hsz.1
      have e2 := Array.eq_empty_of_size_eq_zero hsz.2
      rw [e1, e2] at hx
      exact ⟨[], [], hx, by simp [RepL], by simp [RepL]⟩
    · cases h
  · simp only [Option.some.injEq, Prod.mk.injEq] at h
    obtain ⟨rfl, rfl, rfl⟩ := h
    simp only [Rep] at hx
    obtain ⟨fs, cs, h1, h2, h3⟩ := hx
    exact ⟨fs, cs, h1, h2, h3⟩
  · cases h

theorem call_run {f : Operand} {args : Array Operand} {ts : Array TypeId} {dst : Option Nat} {ty : TypeId} {pos : String} {after : Array Edge} {guard : Option (Nat × Bool)} {a : Act} {w : World} {g : FuncId} {fs cs : List Value} (hf : a.eval f = .func (.func g) fs.toArray cs.toArray) (hc : callable P g) :
    (execOp a.eval ⟨dst, .call ⟨.value f, args, ts⟩, ty, pos, after, guard⟩).run P w = .ok (.enter g (fs ++ (args.map a.eval).toList ++ cs).toArray) w := by
  simp only [execOp, resolve, hf, Deferred.ofValue, Sem.run_bind, Sem.run_pure, Result.andThen_ok, invoke, callable_run hc]
  congr 2
  apply Array.ext'; simp

theorem evS_inv {r : Option (AV × Upd)} {dst : Option Nat} {σ : St} {K : St → Prop} (h : evS r dst σ K) : ∃ x u, r = some (x, u) ∧ dstOK σ.mem dst ∧ updOK σ.mem dst u = true ∧ K ⟨putE dst x σ.env, σ.mem.upd u⟩ := by
  unfold evS at h
  split at h
  · rename_i x u; exact ⟨x, u, rfl, h⟩
  · exact h.elim

theorem nilSl_run {t : TypeId} {x y : AV} {n : Nat} {v z : Value} {S μ} {w : World} (h : nilSl P t x y = some n) (hx : Rep S μ w x v) (hy : Rep S μ w y z) (xo yo : Operand) : ∃ b : Bool, (b = true → n = 0) ∧ (do eqGuard .eql t xo yo v z; binOp .eql t v z).run P w = .ok (.bool b) w ∧ (do eqGuard .neq t xo yo v z; binOp .neq t v z).run P w = .ok (.bool (!b)) w := by
  have key : ∀ (base : Option Addr) (cap : Nat) (e : TypeId), telem P t = some e → (base = none → n = 0) → v = .slice base n cap → z = .slice none 0 0 → ∃ b : Bool, (b = true → n = 0) ∧ (do eqGuard .eql t xo yo v z; binOp .eql t v z).run P w = .ok (.bool b) w ∧ (do eqGuard .neq t xo yo v z; binOp .neq t v z).run P w = .ok (.bool (!b)) w := by
    intro base cap e he hn hv hz
    subst hv; subst hz
    have heq : (Op.equal t (.slice base n cap) (.slice none 0 0)).run P w = .ok base.isNone w := by
      have : ∀ d, (Op.equalIn (d + 1) t (.slice base n cap) (.slice none 0 0)).run P w = .ok base.isNone w := by
        intro d
        cases base <;> simp [Op.equalIn, run_underlying (under_telem he)]
      exact this 9999
    refine ⟨base.isNone, fun hb => hn (by simpa using hb), ?_, ?_⟩
    · have h1 : (eqGuard .eql t xo yo (.slice base n cap) (.slice none 0 0)).run P w = .ok () w := by simp [eqGuard]
      have h2 : binOp .eql t (.slice base n cap) (.slice none 0 0) = (do pure (.bool (← Op.equal t (.slice base n cap) (.slice none 0 0)))) := rfl
      rw [Sem.run_bind, h1]; simp [h2, heq]
    · have h1 : (eqGuard .neq t xo yo (.slice base n cap) (.slice none 0 0)).run P w = .ok () w := by simp [eqGuard]
      have h2 : binOp .neq t (.slice base n cap) (.slice none 0 0) = (do pure (.bool (!(← Op.equal t (.slice base n cap) (.slice none 0 0))))) := rfl
      rw [Sem.run_bind, h1]; simp [h2, heq]
  unfold nilSl at h
  split at h
  · rename_i n' sz xs
    split at h
    · rename_i he
      simp only [Option.some.injEq] at h; subst h
      obtain ⟨e, he⟩ := Option.isSome_iff_exists.1 he
      simp only [Rep] at hx hy
      obtain ⟨base, cap, hv, hn, hl, hc⟩ := hx
      refine key base cap e he (fun hb => ?_) hv hy
      rcases hc with hc | ⟨b, off, hc, _⟩
      · exact hc
      · rw [hb] at hc; cases hc
    · cases h
  · rename_i o off n' sz
    split at h
    · rename_i he
      simp only [Option.some.injEq] at h; subst h
      obtain ⟨e, he⟩ := Option.isSome_iff_exists.1 he
      simp only [Rep] at hx hy
      obtain ⟨base, cap, hv, hn, hc⟩ := hx
      refine key base cap e he (fun hb => ?_) hv hy
      rcases hc with hc | ⟨b, bo, _, hc, _⟩
      · omega
      · rw [hb] at hc; cases hc
    · cases h
  · cases h

theorem RX.value {σ : St} {a : Act} {w : World} {dst : Option Nat} {x : AV} {v : Value} (h : RX γ N n0 m0 S0 μs w0 σ a w) (hd : dstOK σ.mem dst) (hx : ∀ S μ, Rep S μ w x v) : RX γ N n0 m0 S0 μs w0 ⟨putE dst x σ.env, σ.mem⟩ (a.put dst v) w := by
  obtain ⟨S, μ, hA, hG, hE, hN, hb, hwid⟩ := h
  refine ⟨S, μ, ⟨hA.rm, env_put hA.env (fun d hdst => ?_) (hx S μ), by rw [defers_put]; exact hA.defers⟩, hG, hE, by rw [size_put]; exact hN, hb, hwid⟩
  rw [hdst] at hd; simp only [dstOK] at hd; omega

theorem eraseIdx_mapL {α β : Type} (f : α → β) (l : List α) (i : Nat) : (l.eraseIdx i).map f = (l.map f).eraseIdx i := by
  rw [List.eraseIdx_eq_take_drop_succ, List.eraseIdx_eq_take_drop_succ, List.map_append, List.map_take, List.map_drop]

theorem filter_push {es : List MapEntry} {seen : Array Nat} {i : Nat} {e : MapEntry} (hn : (es.map (·.born)).Nodup) (he : (es.filter fun e => !seen.contains e.born)[i]? = some e) :
    seen.contains e.born = false ∧ (es.filter fun x => !(seen.push e.born).contains x.born) = (es.filter fun e => !seen.contains e.born).eraseIdx i := by
  have h1 : seen.contains e.born = false := by
    have := (List.mem_filter.1 (List.mem_of_getElem? he)).2
    simpa using this
  refine ⟨h1, ?_⟩
  have h2 : (es.filter fun x => !(seen.push e.born).contains x.born) = (es.filter fun e => !seen.contains e.born).filter fun x => !(x.born == e.born) := by
    rw [List.filter_filter]
    refine List.filter_congr fun x _ => ?_
    simp only [Array.contains_push, Bool.not_or]
    rw [Bool.beq_comm, Bool.and_comm]
  rw [h2]
  have hn2 : ((es.filter fun e => !seen.contains e.born).map (·.born)).Nodup := hn.sublist (List.filter_sublist.map _)
  generalize (es.filter fun e => !seen.contains e.born) = l at he hn2
  clear h2 hn h1
  induction l generalizing i with
  | nil => simp at he
  | cons x l ih =>
    simp only [List.map_cons, List.nodup_cons, List.mem_map, not_exists, not_and] at hn2
    cases i with
    | zero =>
      simp only [List.getElem?_cons_zero, Option.some.injEq] at he
      subst he
      simp only [List.filter_cons, beq_self_eq_true, Bool.not_true, Bool.false_eq_true, if_false, List.eraseIdx_cons_zero]
      refine List.filter_eq_self.2 fun y hy => ?_
      simpa using hn2.1 y hy
    | succ i =>
      simp only [List.getElem?_cons_succ] at he
      have hne : (x.born == e.born) = false := by
        simp only [beq_eq_false_iff_ne, ne_eq]
        exact fun h => hn2.1 e (List.mem_of_getElem? he) h.symm
      simp only [List.filter_cons, hne, Bool.not_false, if_true, List.eraseIdx_cons_succ]
      rw [ih he hn2.2]

theorem run_choose (k : Nat) (hk : 0 < k) (w : World) : ∃ n d, (choose (.mapNext k)).run P w = .ok n { w with drawn := d } ∧ n < k ∧ (k = 1 → n = 0 ∧ d = w.drawn) := by
  simp only [choose, Sem.run, Question.forced]
  by_cases h : k ≤ 1
  · exact ⟨0, w.drawn, by simp [h], hk, fun _ => ⟨rfl, rfl⟩⟩
  · refine ⟨(Question.mapNext k).cut (w.tape w.drawn (.mapNext k)), w.drawn + 1, by simp [h], ?_, fun h1 => by omega⟩
    simp only [Question.cut]
    exact Nat.mod_lt _ hk

theorem run_next {b r since : Nat} {seen : Array Nat} {es : Array MapEntry} {kt : KT} {ty : TypeId} {w : World} (hb : w.heap[b]? = some (.mapIter (some r) since seen since)) (hm : w.heap[r]? = some (.map es since)) (hok : MapOK kt es since) :
    ((es.toList.filter fun e => !seen.contains e.born) = [] ∧ (Instr.next (.pointer (some ⟨b, 0, none⟩)) false ty).run P w = .ok (.tuple #[.bool false]) w) ∨
      ∃ (d i : Nat) (e : MapEntry), (es.toList.filter fun e => !seen.contains e.born)[i]? = some e ∧ (Instr.next (.pointer (some ⟨b, 0, none⟩)) false ty).run P w = .ok (.tuple #[.bool true, e.key, e.val]) { w with heap := w.heap.setIfInBounds b (.mapIter (some r) since (seen.push e.born) since), drawn := d } := by
  have hguard : (!seen.isEmpty && !es.isEmpty && es.all (fun e => decide (e.born ≥ since))) = false := by
    cases hes : es.isEmpty with
    | true => simp
    | false =>
      simp only [Bool.not_false, Bool.and_true]
      rw [Bool.and_eq_false_iff]
      right
      rw [← Bool.not_eq_true, Array.all_eq_true_iff_forall_mem]
      intro h
      have hne : es ≠ #[] := fun e => by subst e; simp at hes
      obtain ⟨e, he⟩ := Array.exists_mem_of_ne_empty _ hne
      have h1 := h e he
      have h2 := hok.2.1 e (by simpa using he)
      simp at h1
      omega
  have hold : ((es.filter fun e => !seen.contains e.born).filter fun e => decide (e.born < since)) = (es.filter fun e => !seen.contains e.born) := by
    refine Array.filter_eq_self.2 fun e he => ?_
    have := hok.2.1 e (by simpa using (Array.mem_filter.1 he).1)
    simpa using this
  have hnew : ((es.filter fun e => !seen.contains e.born).filter fun e => decide (e.born ≥ since)) = #[] := by
    refine Array.filter_eq_empty_iff.2 fun e he => ?_
    have := hok.2.1 e (by simpa using (Array.mem_filter.1 he).1)
    simp; omega
  have hlt : b < w.heap.size := (Array.getElem?_eq_some_iff.1 hb).1
  have hget : ∀ d : Nat, (getObj b).run P { w with drawn := d } = .ok (.mapIter (some r) since seen since) { w with drawn := d } := fun d => run_getIt (w := { w with drawn := d }) hb
  have hset : ∀ (o : Obj) (d : Nat), (setObj b o).run P { w with drawn := d } = .ok () { w with heap := w.heap.setIfInBounds b o, drawn := d } := fun o d => by
    simp [setObj, Sem.run, hb]
  have hL : (es.filter fun e => !seen.contains e.born).toList = es.toList.filter fun e => !seen.contains e.born := by simp
  unfold Instr.next
  simp only [pure_bind, Sem.run_bind, run_getIt hb, Result.andThen_ok, run_getMap hm, hguard, Bool.false_eq_true, if_false, hold, hnew, Array.append_empty]
  generalize hl : (es.filter fun e => !seen.contains e.born) = left at *
  by_cases he : left = #[]
  · left
    subst he
    refine ⟨by rw [← hL], ?_⟩
    obtain ⟨n, d, h1, h2, h3⟩ := run_choose (P := P) 1 (by omega) w
    obtain ⟨rfl, rfl⟩ := h3 rfl
    have hsz : ((if (#[] : Array MapEntry).isEmpty = true then #[none] else #[]) ++ Array.map some (#[] : Array MapEntry)).size = 1 := by simp
    simp only [hsz, h1, Result.andThen_ok]
    simp
  · right
    have hne : left.isEmpty = false := by simpa using he
    have hpos : 0 < left.size := Array.size_pos_iff.2 he
    simp only [hne, Bool.false_eq_true, if_false, Array.empty_append, Array.size_map]
    obtain ⟨n, d, h1, h2, h3⟩ := run_choose (P := P) left.size hpos w
    refine ⟨d, n, left[n], ?_, ?_⟩
    · rw [← hL]; simp [h2]
    · simp only [h1, Result.andThen_ok, Array.getElem?_map, Array.getElem?_eq_getElem h2, Option.map_some, Sem.run_bind, hset, Sem.run_pure]

theorem evO_sound {o : Oper} {σ : St} {K : St → Prop} {a : Act} {w : World} {next : Act → World → Prop} {Q : Exit → Act → World → Prop} (h : evO P γ o σ K) (hR : RX γ N n0 m0 S0 μs w0 σ a w) (hK : ∀ σ' a' w', K σ' → RX γ N n0 m0 S0 μs w0 σ' a' w' → next a' w') : o.wp P a w next Q := by
  have other : evS (stepF P (rho γ σ.env) σ.mem.find (freshOf σ.mem o.dst) o.op) o.dst σ K → o.wp P a w next Q := by
    intro h
    obtain ⟨x, u, hs, hd, hu, hk⟩ := evS_inv h
    obtain ⟨nx, v, w', h1, h2, h3⟩ := hR.step hs hd hu
    unfold Oper.wp
    rw [h1]
    rcases h2 with rfl | ⟨rfl, rfl⟩
    · exact hK _ _ _ hk h3
    · exact hK _ _ _ hk h3
  have nil : ∀ (neg : Bool) (t : TypeId) (x y : Operand) (yT : TypeId), o.op = .binOp (if neg then .neq else .eql) t x y yT → evN (nilSl P t (unf (rho γ σ.env x)) (rho γ σ.env y)) neg o.dst σ K (evS (stepF P (rho γ σ.env) σ.mem.find (freshOf σ.mem o.dst) o.op) o.dst σ K) → o.wp P a w next Q := by
    intro neg t x y yT hop h
    unfold evN at h
    split at h
    · rename_i n hn
      obtain ⟨hd, hy1, hy2⟩ := h
      have hR' := hR
      obtain ⟨S, μ, hA, hG, hE, hN, hb, hwid⟩ := hR'
      obtain ⟨b, hb0, hb1, hb2⟩ := nilSl_run hn (unf_rep (rho_rep hA hG x)) (rho_rep hA hG y) x y
      obtain ⟨dst, op, ty, pos, after, guard⟩ := o
      simp only at hop hd hy1 hy2
      subst hop
      unfold Oper.wp
      have hrun : (execOp a.eval ⟨dst, .binOp (if neg then .neq else .eql) t x y yT, ty, pos, after, guard⟩).run P w = .ok (.value (.bool (if neg then !b else b))) w := by
        cases neg
        · simp only [execOp, Bool.false_eq_true, if_false]
          rw [Sem.run_bind, hb1]; rfl
        · simp only [execOp, if_true]
          rw [Sem.run_bind, hb2]; rfl
      rw [hrun]
      simp only [Oper.upon]
      cases b
      · have := hR.value (v := .bool neg) hd (x := .v (.bool neg)) (fun S μ => by simp [Rep])
        cases neg
        · exact hK _ _ _ hy2 this
        · exact hK _ _ _ hy2 this
      · have := hR.value (v := .bool (!neg)) hd (x := .v (.bool (!neg))) (fun S μ => by simp [Rep])
        cases neg
        · exact hK _ _ _ (hy1 (hb0 rfl)) this
        · exact hK _ _ _ (hy1 (hb0 rfl)) this
    · exact other h
  unfold evO at h
  split at h
  · -- a call
    rename_i f args ts hop
    unfold evC at h
    split at h
    · rename_i g p q hc
      obtain ⟨hd, hcall⟩ := h
      obtain ⟨S, μ, hA, hG, hE, hN, hb, hwid⟩ := hR
      obtain ⟨fs, cs, hf, hp, hq⟩ := callee_run hc (rho_rep hA hG f)
      obtain ⟨dst, op, ty, pos, after, guard⟩ := o
      simp only at hop hd hcall
      subst hop
      unfold Oper.wp
      rw [call_run hf hcall.1]
      simp only [Oper.upon]
      refine (hcall.2 S μ w _ hA.rm hG (unfs_rep ((hp.append (args_rep (fun x => rho_rep hA hG x) args)).append hq))).mono fun e w' he => ?_
      obtain ⟨v, x, m', S', μ', rfl, hbase, hwid', hrm, hext, hx, hk⟩ := he
      have hkp := hext.keeps hA.rm
      refine hK _ _ _ hk ⟨S', μ', ⟨hrm, env_put (RX.keepEnv hkp hA.env) (fun d hdst => ?_) hx, by rw [defers_put]; exact hA.defers⟩, hG.keep hkp, hE.trans (by have := hA.rm.le; omega) hext, by rw [size_put]; exact hN, by show n0 ≤ m'.base; omega, by show m'.wid ≤ N; omega⟩
      rw [hdst] at hd; simp only [dstOK] at hd; omega
    · exact h.elim
  · rename_i t x y yT hop
    exact nil false t x y yT (by simpa using hop) h
  · rename_i t x y yT hop
    exact nil true t x y yT (by simpa using hop) h
  · rename_i x isStr hop
    obtain ⟨dst, op, ty, pos, after, guard⟩ := o
    simp only at hop h
    subst hop
    obtain ⟨S, μ, hA, hG, hE, hN, hb, hwid⟩ := hR
    have hx := rho_rep hA hG x
    unfold evNext at h
    split at h
    · rename_i o e
      rw [e] at hx
      unfold evNx at h
      split at h
      · rename_i last ks xs hf
        obtain ⟨hd, hnil, hcons⟩ := h
        have hd' : dstOK σ.mem dst := hd
        obtain ⟨b, bo, mb, since, seen, stepped, hv, hμ, hS, hbk, hc⟩ := miter_obj hA.rm hf hx
        have hdst : ∀ d : Nat, dst = some d → d < a.tmps.size := fun d hdst => by rw [hdst] at hd'; have hd2 : d < σ.mem.wid := hd'; omega
        unfold Oper.wp
        have over : ks = [] → next (a.put dst (.tuple #[.bool false])) w := fun hk => hK _ _ _ (hnil hk) ⟨S, μ, ⟨hA.rm, env_put hA.env hdst (by simp only [Rep]; exact ⟨[.bool false], rfl, by simp [RepL, Rep]⟩), by rw [defers_put]; exact hA.defers⟩, hG, hE, by rw [size_put]; exact hN, hb, hwid⟩
        simp only [execOp, hv]
        rcases hc with ⟨rfl, rfl, rfl, rfl⟩ | ⟨r, es, kt, rfl, hs, hm, hok, rfl, hk, hxs, hl⟩
        · have hrun : (Instr.next (.pointer (some ⟨b, 0, none⟩)) false ty).run P w = .ok (.tuple #[.bool false]) w := by
            simp only [Instr.next, pure_bind, Sem.run_bind, run_getIt hbk, Result.andThen_ok]
            rfl
          simp only [Sem.run_bind, hrun, Result.andThen_ok, Sem.run_pure, Oper.upon]
          exact over rfl
        · have hkl : xs.length = ks.length := by
            rw [← hk, ← hxs.length]; simp
          simp only [Sem.run_bind]
          rcases run_next (P := P) (ty := ty) hbk hm hok with ⟨hn, hrun⟩ | ⟨d, i, e, he, hrun⟩
          · simp only [hrun, Result.andThen_ok, Sem.run_pure, Oper.upon]
            exact over (by rw [← hk, hn]; rfl)
          · simp only [hrun, Result.andThen_ok, Sem.run_pure, Oper.upon]
            have hki : ks[i]? = some e.key := by rw [← hk, List.getElem?_map, he]; rfl
            have hin : i < ks.length := (List.getElem?_eq_some_iff.1 hki).1
            have hxi : xs[i]? = some xs[i] := List.getElem?_eq_getElem (by omega)
            obtain ⟨v', hv1, hv2⟩ := hxs.get hxi
            have hve : v' = e.val := by rw [List.getElem?_map, he] at hv1; simpa using hv1.symm
            subst hve
            obtain ⟨hnew, heras⟩ := filter_push hok.1 he
            have hlt : b < w.heap.size := (Array.getElem?_eq_some_iff.1 hbk).1
            have hrb : r ≠ b := fun e => by subst e; exact hS _ hs
            have hmem : e ∈ es.toList := (List.mem_filter.1 (List.mem_of_getElem? he)).1
            have haft : After S μ w σ.mem [(o, .miter (some (e.key, xs[i])) (ks.eraseIdx i) (xs.eraseIdx i))] μ { w with heap := w.heap.setIfInBounds b (.mapIter (some r) stepped (seen.push e.born) stepped), drawn := d } := by
              refine After.set hA.rm hf rfl rfl hμ (fun k hk => ?_) (by simp) ?_ rfl rfl rfl (fun hkp => ?_) hS
              · simp [Ne.symm hk]
              · simp [bsize, hlt, hbk]
                rw [(Array.getElem?_eq_some_iff.1 hbk).2]
              · simp only [RepO]
                refine ⟨b, bo, some r, stepped, seen.push e.born, stepped, hμ, hS, by simp [hlt], .inr ⟨r, es, kt, rfl, hs, ?_, hok, rfl, ?_, ?_, ?_⟩⟩
                · simp [Ne.symm hrb, hm]
                · rw [heras, ← hk, eraseIdx_mapL]
                · rw [heras, eraseIdx_mapL, List.eraseIdx_eq_take_drop_succ, List.eraseIdx_eq_take_drop_succ]
                  exact RepL.keep hkp _ _ ((RepL.take hxs i).append (RepL.drop hxs (i + 1)))
                · intro p hp
                  simp only [Option.some.injEq] at hp
                  subst hp
                  exact ⟨e, hmem, by simp, rfl, Rep.keep hkp _ _ hv2⟩
            refine hK _ _ _ (hcons i e.key xs[i] hki hxi) ⟨S, μ, ⟨haft.rm, ?_, by rw [defers_put]; exact hA.defers⟩, hG.keep haft.keep, hE.trans hb haft.ext, by rw [size_put]; exact hN, hb, hwid⟩
            refine env_put (RX.keepEnv haft.keep hA.env) hdst ?_
            simp only [Rep]
            exact ⟨[.bool true, e.key, e.val], rfl, by simp only [RepL]; exact ⟨_, _, rfl, by simp [Rep], _, _, rfl, by simp [Rep], _, _, rfl, Rep.keep haft.keep _ _ hv2, rfl⟩⟩
      · exact h.elim
    · exact h.elim
  · exact other h

end Go.AW
