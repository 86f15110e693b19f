/- PatchApplies: any patches on any document do what the document says, or it is told why not, and what is handed in stays (where what is read is of bulk at most 1048576): no other condition. -/
import Derived.Test.YteoodenfggmpfaaRows
import Derived.Test.YteoodenfggmpfaaCZ23
import Derived.WalkKit
import Derived.ProofKit
import Derived.OpenShut
import Derived.JoinedCond
namespace Go.Proofs.Yteoodenfggmpfaa.patchApplies
open Go.ChangeShapes Go.WideShapes Go.ChangeAt Go.RowKit Go.AW
set_option linter.unusedVariables false

mutual
theorem bulk_eq {H : Type} : ∀ d : DataW H, Rows.uptoBulk d = bulk d
  | .lit l => by cases l <;> simp [Rows.uptoBulk, bulk]
  | .nil => by simp [Rows.uptoBulk, bulk]
  | .ptr d => by simp [Rows.uptoBulk, bulk, bulk_eq d]
  | .slice a b => by simp [Rows.uptoBulk, bulk, bulkAll_eq a, bulkAll_eq b]
  | .agg a => by simp [Rows.uptoBulk, bulk, bulkAll_eq a]
  | .iface _ d => by simp [Rows.uptoBulk, bulk, bulk_eq d]
  | .map es => by simp [Rows.uptoBulk, bulk, bulkEntries_eq es]
  | .held _ => by simp [Rows.uptoBulk, bulk]
theorem bulkAll_eq {H : Type} : ∀ ds : List (DataW H), Rows.uptoBulkAll ds = bulkAll ds
  | [] => rfl
  | d :: ds => by simp [Rows.uptoBulkAll, bulkAll, bulk_eq d, bulkAll_eq ds]
theorem bulkEntries_eq {H : Type} : ∀ es : List (Lit × DataW H), Rows.uptoBulkEntries es = bulkEntries es
  | [] => rfl
  | e :: es => by simp [Rows.uptoBulkEntries, bulkEntries, bulkEntry_eq e, bulkEntries_eq es]
theorem bulkEntry_eq {H : Type} : ∀ e : Lit × DataW H, Rows.uptoBulkEntry e = bulkEntry e
  | (l, d) => by cases l <;> simp [Rows.uptoBulkEntry, bulkEntry, bulk_eq d]
end

theorem own : ownKnob Try.prog.godebug = none := by kernel_rfl
theorem laidOut : laidOutB Try.prog = true := by kernel_rfl
theorem plain26 : plainT Try.prog 6 26 = true := by kernel_rfl
theorem plain27 : plainT Try.prog 6 27 = true := by kernel_rfl

set_option maxRecDepth 100000 in
theorem contract (H : Type) (enc : TypeId × Value → H) (W : World) (base : Nat) (args : Array Value) (ds gs : List (DataW H)) (before : List MemPlace)
    (hval : ∀ (j : Nat) t v, Try.f3.params[j]? = some t → args[j]? = some v → Value.okWide Try.prog W .any base t v)
    (hW : DataW.Whole enc Try.prog Try.f3.params.toList Rows.patchAppliesSpec.vars false W args.toList ds gs before) (hk : Rows.uptoSmall H (ds ++ gs) = true) :
    Calls Try.prog 3 args W fun e W' => ∃ v, e = .returned v ∧ Rows.patchAppliesSpec.post enc Try.prog Try.f3 false true false false W args v W' := by
  have hW' := hW
  obtain ⟨p, q, hA0, hV, rfl, hfz, hnd⟩ := hW
  have hA : DataW.TrodAll enc Try.prog W 0 (fun _ => true) true Try.f3.params.toList args.toList ds p := hA0
  rw [Try.params3] at hA hval
  obtain ⟨v0, vs0, d0, ds0, p0, q0, hargs, rfl, rfl, h0, r0⟩ := trodAll_cons hA
  obtain ⟨v1, vs1, d1, ds1, p1, q1, rfl, rfl, rfl, h1, r1⟩ := trodAll_cons r0
  obtain ⟨rfl, rfl, rfl⟩ := trodAll_nil r1
  obtain rfl : args = #[v0, v1] := by cases args; simp_all
  obtain ⟨rfl, rfl⟩ := trodVars_none hV
  clear hA0
  obtain ⟨xs0, x0, a0, b0, c0, i0⟩ := arg_got plain26 (hval 0 26 v0 rfl rfl) h0
  obtain ⟨xs1, x1, a1, b1, c1, i1⟩ := arg_got plain27 (hval 1 27 v1 rfl rfl) h1
  obtain ⟨d, rfl, sa, oa⟩ := Rd.doc H _ _ _ a0
  obtain ⟨l, rfl, sb, ob⟩ := Rd.patches H _ _ _ a1
  dsimp only at sa sb
  have hk' : bulkAll ([d0, d1] ++ []) ≤ 1048576 := by rw [← bulkAll_eq]; exact of_decide_eq_true hk
  simp only [bulkAll, List.append_nil] at hk'
  have hll := len_le (fun p => (psz_le p).2.2) l
  have hmem : ∀ p ∈ l, psz p ≤ 1048576 := fun p hp => by
    have := sum_le (f := psz) hp
    omega
  simp only [avOf, tagg_26, tagg_27, List.head?_cons, Option.some.injEq] at b0 b1
  subst b0; subst b1
  have hp := c3 d l (by omega) (doc_B (by omega)) (fun p hp => pat_ok (hmem p hp) (ob p hp)) (fun p hp => ⟨by have := (psz_le p).1; have := hmem p hp; omega, by have := (psz_le p).2.1; have := hmem p hp; omega⟩)
  refine (hp.law (w := W) (args := #[v0, v1]) (by simp only [RepL]; exact ⟨v0, _, rfl, c0, v1, _, rfl, c1, rfl⟩)).mono fun e W' ⟨he, hb⟩ => ?_
  subst he
  exact ⟨_, rfl, law_post laidOut (by kernel_rfl) (by kernel_rfl) Try.underlying4 hW' rfl rfl hb⟩

set_option maxRecDepth 100000 in
theorem lifted (os : Os) (started : os.Started) (H : Type) (enc : TypeId × Value → H) (F : Stop.Interp) :
    ReturnsInHanded {} Try.checked os 3 .any ((Rows.OpenSpec.upto Rows.patchAppliesSpec).pre6 enc Try.prog Try.f3 Rows.patchAppliesUptoRow.domain false) (((Rows.OpenSpec.upto Rows.patchAppliesSpec).at F).post enc Try.prog Try.f3 false true false false) := by
  refine returnsInHanded_of_cond (C := Try.checked) (s := Rows.OpenSpec.upto Rows.patchAppliesSpec) (k := Rows.uptoSmall) rfl own started (by kernel_rfl) Try.func3
    (OpenSpec.witness (enc := enc) (C := Try.checked) (s := Rows.OpenSpec.upto Rows.patchAppliesSpec) (k := Rows.uptoSmall) rfl false ⟨#[], #[.agg #[.slice none 0 0, .slice none 0 0, .slice none 0 0], .slice none 0 0], []⟩ 8 (by kernel_rfl) (by kernel_rfl) (by kernel_rfl)
      (x := ([.agg [.nil, .nil, .nil], .nil], [], [])) (by kernel_rfl) rfl (by kernel_rfl)) ?_
  intro W base args ds gs before hval hW _ hk _
  exact contract H enc W base args ds gs before hval hW hk

theorem proved : Rows.PatchAppliesUptoSaid :=
  OpenClaim.holds_of_cond 3 Try.f3 rfl rfl rfl rfl rfl rfl rfl ⟨rfl, rfl, rfl, rfl, rfl⟩ rfl rfl rfl rfl rfl (by kernel_rfl) Try.func3 (by kernel_rfl)
    (of_decide_eq_true (by kernel_rfl)) (by unfold Func.isWrapper; first | (rw [if_pos (by decide +kernel)]; kernel_rfl) | (rw [if_neg (by decide +kernel)]; exact ⟨rfl, rfl⟩))
    (fun os started H enc _ F => lifted os started H enc F)
#print axioms proved
end Go.Proofs.Yteoodenfggmpfaa.patchApplies
