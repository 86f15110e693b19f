/- DagPlays: changes that come in any order, some twice, some that do not fit, and any bytes between, are there, wait, or are refused, as the document says (where what is read is of bulk at most 1048576, and the tables of the sums stand as the program's text lays them): no other condition. -/
import Derived.Test.YtpcbnjbpdooejaaGreatDoorPae
import Derived.Test.YtpcbnjbpdooejaaGreatDoorPbc
set_option linter.unusedSimpArgs false
set_option linter.unusedVariables false
set_option maxRecDepth 100000
set_option maxHeartbeats 8000000
namespace Go.Proofs.YtpcbnjbpdooejaaGreatDoor.dagPlays
open Go.ChangeShapes Go.WideShapes Go.ChangeAt Go.RowKit Go.AW
theorem closed:joinedFacts Tryz.prog 5 Tryz.f5 ((Rows.OpenSpec.upto Rows.dagPlaysSpec).bare) Rows.dagPlaysUptoRow=true:=by
 unfold joinedFacts
 exact Q8 (Q8 (Q8 (Q8 (Q8 (Q8 (Q8 (Q8 (Q8 (Q8 (Q8 (Q8 (Q8 (Q8 (Q8 (Q8 (Q8 (Q8 (Q8 (Q8 (Q8 (Q8 (Q8 (Q8 (Q8 (Q8 (Q8 (Q8 (Q8 (Q8 (Q8 (fact1) fact2) fact3) fact4) fact5) fact6) fact7) fact8) fact9) fact10) fact11) fact12) fact13) fact14) fact15) fact16) fact17) fact18) fact19) fact20) fact21) fact22) fact23) fact24) fact25) fact26) fact27) fact28) fact29) fact30) fact31) fact32
theorem said:Rows.DagPlaysUptoSaid:=
 OpenClaim.holds_of_cond 5 Tryz.f5 rfl rfl rfl rfl rfl rfl rfl ⟨rfl,rfl,rfl,rfl,rfl⟩ rfl rfl rfl rfl rfl zK Tryz.func5 closed
  (of_decide_eq_true zK) (by unfold Func.isWrapper;first | (rw [if_pos (by decide+kernel)];kernel_rfl) | (rw [if_neg (by decide+kernel)];exact⟨rfl,rfl⟩))
  (fun os started H enc _ F=>by rw [OpenClaim.pre_eq_preRow];exact lifted os started H enc F)
theorem plain (f:FuncId) (fn:Func) (hf:Tryz.pinned.checked.prog.funcNamed "stemma/stemmalaw10.DagPlays"=some f) (hfn:Tryz.pinned.checked.prog.funcs[f]?=some fn):
  true=Tryz.pinned.checked.prog.looks []∧∀(j:Nat) t,fn.params[j]?=some t→Tryz.pinned.checked.prog.wantsStandIn t=false:=by
 obtain rfl:f=5:=Option.some.inj ((show Tryz.prog.funcNamed "stemma/stemmalaw10.DagPlays"=some 5 by kernel_rfl).symm.trans hf) |>.symm
 obtain rfl:fn=Tryz.f5:=(Option.some.inj (Tryz.func5.symm.trans hfn)).symm
 refine⟨by kernel_rfl,fun j t ht=>?_⟩
 rw [Tryz.params5] at ht
 have hm:t=22∨t=23:=by
  have:=Array.mem_of_getElem? ht
  simp at this
  omega
 rcases hm with rfl | rfl
 ·exact (show Tryz.prog.wantsStandIn 22=false by kernel_rfl)
 ·exact (show Tryz.prog.wantsStandIn 23=false by kernel_rfl)
theorem proved:Rows.DagPlaysUptoCardSaid:=
 Claim7.holds_tied_plain_at .later [] _ _ _ _ said (fun _ h=>by cases h) zK (fun _ h=>by cases h) dagPlaysUpto_row_tie rfl ⟨rfl,rfl⟩ zK rfl plain zK
#print axioms proved
end Go.Proofs.YtpcbnjbpdooejaaGreatDoor.dagPlays
