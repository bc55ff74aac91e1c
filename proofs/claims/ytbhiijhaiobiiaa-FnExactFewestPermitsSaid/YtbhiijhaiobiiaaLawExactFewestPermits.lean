/- The law FnExactFewestPermits, and what it stands on (the last part): the program answers as the law says, for all arguments of a claim's bounds. -/
import Derived.Test.YtbhiijhaiobiiaaEvExactFewestPermits4
namespace Go.Proofs.Ytbhiijhaiobiiaa.fnExactFewestPermits
open Go.ChangeShapes Go.WideShapes Go.ChangeAt Go.RowKit Go.Ev
set_option linter.unusedVariables false
theorem over : Rows.fnExactFewestPermitsRow.holds Try.pinned (OpenSpec.ofChange Rows.fnExactFewestPermitsSpec) :=
  OpenClaim.holds_of_wide 3 Try.f3 rfl rfl rfl rfl rfl rfl rfl ⟨rfl, rfl, rfl, rfl, rfl⟩ rfl rfl rfl rfl rfl (by kernel_rfl) Try.func3 (by kernel_rfl)
    (of_decide_eq_true (by kernel_rfl)) (by unfold Func.isWrapper; first | (rw [if_pos (by decide +kernel)]; kernel_rfl) | (rw [if_neg (by decide +kernel)]; exact ⟨rfl, rfl⟩))
    (fun os started H enc _ => lifted os started H enc)
theorem proved : Rows.FnExactFewestPermitsSaid := over
end Go.Proofs.Ytbhiijhaiobiiaa.fnExactFewestPermits
namespace Go.Proofs.Ytbhiijhaiobiiaa
theorem fnExactFewestPermits_holds : Rows.FnExactFewestPermitsSaid := fnExactFewestPermits.proved
end Go.Proofs.Ytbhiijhaiobiiaa
