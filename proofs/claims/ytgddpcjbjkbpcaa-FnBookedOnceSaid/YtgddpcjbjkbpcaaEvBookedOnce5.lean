/- Part 5 of what the law FnBookedOnce stands on: an evaluator of the model's code, proved sound; the functions as plain texts; their contracts. -/
import Derived.Test.YtgddpcjbjkbpcaaChecked
import Derived.Test.YtgddpcjbjkbpcaaProg
import Derived.Test.YtgddpcjbjkbpcaaRows
import Derived.Below
import Derived.Calls
import Derived.Carry
import Derived.ChangeArms
import Derived.ChangeKeysEq
import Derived.ChangeOld
import Derived.Deep.Quiet
import Derived.KernelRfl
import Derived.Laws.Append
import Derived.Laws.BytesString
import Derived.Laws.MakeOwn
import Derived.Laws.Strings
import Derived.Laws.StructEq
import Derived.OpenShut
import Derived.OrdersHeld
import Derived.ProofKit
import Derived.ShutString
import Derived.SizedLaws
import Derived.Tactics
import Derived.WalkKit
import Derived.WideShapes
import Derived.Test.YtgddpcjbjkbpcaaEvBookedOnce4
namespace Go.Ev.Try
open Go.Proofs Go.Pl
set_option linter.unusedVariables false
noncomputable section
set_option maxRecDepth 100000 in
theorem laws_FnBookedOnce.body (n : Nat) (x : (List (Int × ByteArray × Int)) × ((List (Int × Int)) × (List (ByteArray × Int × Int × Int × Int × Int × Int × Int × Int)) × List (Int × Int × ByteArray × Int)) × List Int) : bodyF laws_FnBookedOnce.E laws_FnBookedOnce.keep n Try.f12 laws_FnBookedOnce.con x = laws_FnBookedOnce.fn n x.1 x.2.1 x.2.2 := by
  have h : bodyF laws_FnBookedOnce.E laws_FnBookedOnce.keep n Try.f12 laws_FnBookedOnce.con x = laws_FnBookedOnce.top (fun fired2 b7 total11 i12 => laws_FnBookedOnce.LN13 n x n (laws_FnBookedOnce.st13 fired2 b7 total11 i12)) x.1 x.2.1 x.2.2 := by kernel_rfl
  rw [h]
  simp only [laws_FnBookedOnce.lem13]
  rfl
set_option maxRecDepth 100000 in
theorem laws_FnBookedOnce.good : Good Try.prog 12 laws_FnBookedOnce.con :=
  good_of tabok (cs := laws_FnBookedOnce.cs) ⟨laws_likeBookings.good, impl_BookShow.good, spec_BookShow.good, trivial⟩ 0 false (fn := Try.f12) Try.func12 rfl (by decide) (by simp [laws_FnBookedOnce.con]) laws_FnBookedOnce.keep NN (fun _ => rfl) (fun x => laws_FnBookedOnce.body NN x)
end
end Go.Ev.Try
