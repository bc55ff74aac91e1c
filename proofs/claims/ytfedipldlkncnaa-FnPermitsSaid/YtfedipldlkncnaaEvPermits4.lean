/- Part 4 of what the law FnPermits stands on: an evaluator of the model's code, proved sound; the functions as plain texts; their contracts. -/
import Derived.Test.YtfedipldlkncnaaChecked
import Derived.Test.YtfedipldlkncnaaProg
import Derived.Test.YtfedipldlkncnaaRows
import Derived.Below
import Derived.Calls
import Derived.Carry
import Derived.ChangeArms
import Derived.ChangeKeysEq
import Derived.ChangeOld
import Derived.Deep.Quiet
import Derived.KernelRfl
import Derived.Laws.Append
import Derived.Laws.BytesString
import Derived.Laws.MakeOwn
import Derived.Laws.Strings
import Derived.Laws.StructEq
import Derived.OpenShut
import Derived.OrdersHeld
import Derived.ProofKit
import Derived.ShutString
import Derived.SizedLaws
import Derived.Tactics
import Derived.WalkKit
import Derived.WideShapes
import Derived.Test.YtfedipldlkncnaaEvPermits3
namespace Go.Ev.Try
open Go.Proofs Go.Pl
set_option linter.unusedVariables false
noncomputable section
set_option maxRecDepth 100000 in
theorem laws_FnPermits.body (n : Nat) (x : List Int) : bodyF laws_FnPermits.E laws_FnPermits.keep n Try.f10 laws_FnPermits.con x = laws_FnPermits.fn n x := by
  have h : bodyF laws_FnPermits.E laws_FnPermits.keep n Try.f10 laws_FnPermits.con x = laws_FnPermits.top x := by kernel_rfl
  exact h
set_option maxRecDepth 100000 in
theorem laws_FnPermits.good : Good Try.prog 10 laws_FnPermits.con :=
  good_of tabok (cs := laws_FnPermits.cs) ⟨laws_big.good, spec_RefusalsOf.good, impl_RefusalsOf.good, spec_PermitFor.good, impl_PermitFor.good, spec_FirstPermit.good, impl_FirstPermit.good, spec_NextDay.good, impl_NextDay.good, spec_DrawPermitFor.good, spec_DrawRefusalsOf.good, spec_DrawNextDay.good, laws_likePermit.good, impl_IsPermit.good, spec_IsPermit.good, impl_NetOfOrder.good, trivial⟩ 0 false (fn := Try.f10) Try.func10 rfl (by decide) (by simp [laws_FnPermits.con]) laws_FnPermits.keep NN (fun _ => rfl) (fun x => laws_FnPermits.body NN x)
end
end Go.Ev.Try
