/- The law FnExactDeskAfter, and what it stands on (the last part): the program answers as the law says, for all arguments of a claim's bounds. -/
import Derived.Test.YtijddinlmamclaaGreatEvExactDeskAfter6
namespace Go.Proofs.YtijddinlmamclaaGreat.fnExactDeskAfter
open Go.ChangeShapes Go.WideShapes Go.ChangeAt Go.RowKit Go.Ev
set_option linter.unusedVariables false
theorem over : Rows.fnExactDeskAfterRow.holds Tryz.pinned (OpenSpec.ofChange Rows.fnExactDeskAfterSpec) :=
 OpenClaim.holds_of_wide 5 Tryz.f5 rfl rfl rfl rfl rfl rfl rfl ⟨rfl, rfl, rfl, rfl, rfl⟩ rfl rfl rfl rfl rfl (by kernel_rfl) Tryz.func5 (by kernel_rfl)
  (of_decide_eq_true (by kernel_rfl)) (by unfold Func.isWrapper; first | (rw [if_pos (by decide +kernel)]; kernel_rfl) | (rw [if_neg (by decide +kernel)]; exact ⟨rfl, rfl⟩))
  (fun os started H enc _ => lifted os started H enc)
theorem proved : Rows.FnExactDeskAfterSaid := over
end Go.Proofs.YtijddinlmamclaaGreat.fnExactDeskAfter
namespace Go.Proofs.YtijddinlmamclaaGreat
theorem fnExactDeskAfter_holds : Rows.FnExactDeskAfterSaid := fnExactDeskAfter.proved
end Go.Proofs.YtijddinlmamclaaGreat
