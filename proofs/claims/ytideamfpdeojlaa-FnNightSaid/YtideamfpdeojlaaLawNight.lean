/- The law FnNight, and what it stands on (the last part): the program answers as the law says, for all arguments of a claim's bounds. -/
import Derived.Test.YtideamfpdeojlaaChecked
import Derived.Test.YtideamfpdeojlaaProg
import Derived.Test.YtideamfpdeojlaaRows
import Derived.Below
import Derived.Calls
import Derived.Carry
import Derived.ChangeArms
import Derived.ChangeKeysEq
import Derived.ChangeOld
import Derived.Deep.Quiet
import Derived.KernelRfl
import Derived.Laws.Append
import Derived.Laws.BytesString
import Derived.Laws.MakeOwn
import Derived.Laws.Strings
import Derived.Laws.StructEq
import Derived.OpenShut
import Derived.OrdersHeld
import Derived.ProofKit
import Derived.ShutString
import Derived.SizedLaws
import Derived.Tactics
import Derived.WalkKit
import Derived.WideShapes
import Derived.Test.YtideamfpdeojlaaEvNight27
namespace Go.Proofs.Ytideamfpdeojlaa.fnNight
open Go.ChangeShapes Go.WideShapes Go.ChangeAt Go.RowKit Go.Ev
set_option linter.unusedVariables false
theorem over : Rows.fnNightRow.holds Try.pinned (OpenSpec.ofChange Rows.fnNightSpec) :=
  OpenClaim.holds_of_wide 5 Try.f5 rfl rfl rfl rfl rfl rfl rfl ⟨rfl, rfl, rfl, rfl, rfl⟩ rfl rfl rfl rfl rfl (by kernel_rfl) Try.func5 (by kernel_rfl)
    (of_decide_eq_true (by kernel_rfl)) (by unfold Func.isWrapper; first | (rw [if_pos (by decide +kernel)]; kernel_rfl) | (rw [if_neg (by decide +kernel)]; exact ⟨rfl, rfl⟩))
    (fun os started H enc _ => lifted os started H enc)
theorem proved : Rows.FnNightSaid := over
end Go.Proofs.Ytideamfpdeojlaa.fnNight
namespace Go.Proofs.Ytideamfpdeojlaa
theorem fnNight_holds : Rows.FnNightSaid := fnNight.proved
end Go.Proofs.Ytideamfpdeojlaa
