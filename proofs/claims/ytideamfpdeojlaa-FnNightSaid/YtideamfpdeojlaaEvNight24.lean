/- Part 24 of what the law FnNight stands on: an evaluator of the model's code, proved sound; the functions as plain texts; their contracts. -/
import Derived.Test.YtideamfpdeojlaaChecked
import Derived.Test.YtideamfpdeojlaaProg
import Derived.Test.YtideamfpdeojlaaRows
import Derived.Below
import Derived.Calls
import Derived.Carry
import Derived.ChangeArms
import Derived.ChangeKeysEq
import Derived.ChangeOld
import Derived.Deep.Quiet
import Derived.KernelRfl
import Derived.Laws.Append
import Derived.Laws.BytesString
import Derived.Laws.MakeOwn
import Derived.Laws.Strings
import Derived.Laws.StructEq
import Derived.OpenShut
import Derived.OrdersHeld
import Derived.ProofKit
import Derived.ShutString
import Derived.SizedLaws
import Derived.Tactics
import Derived.WalkKit
import Derived.WideShapes
import Derived.Test.YtideamfpdeojlaaEvNight23
namespace Go.Ev.Try
open Go.Proofs Go.Pl
set_option linter.unusedVariables false
noncomputable section
set_option maxRecDepth 100000 in
theorem laws_FnNight.body (n : Nat) (x : (List (Int × ByteArray × Int)) × ((List (Int × Int)) × (List (ByteArray × Int × Int × Int × Int × Int × Int × Int × Int)) × List (Int × Int × ByteArray × Int)) × (List (Int × Int)) × (List (Int × ByteArray × Int)) × List ByteArray) : bodyF laws_FnNight.E laws_FnNight.keep n Try.f5 laws_FnNight.con x = laws_FnNight.fn n x.1 x.2.1 x.2.2.1 x.2.2.2.1 x.2.2.2.2 := by
  have h : bodyF laws_FnNight.E laws_FnNight.keep n Try.f5 laws_FnNight.con x = laws_FnNight.top (fun books0 list2 moves3 zones4 x6 => laws_FnNight.LN1000001 n x n (laws_FnNight.st1000001 books0 list2 moves3 zones4 x6)) x.1 x.2.1 x.2.2.1 x.2.2.2.1 x.2.2.2.2 := by kernel_rfl
  rw [h]
  simp only [laws_FnNight.lem1000001]
  rfl
set_option maxRecDepth 100000 in
theorem laws_FnNight.good : Good Try.prog 5 laws_FnNight.con :=
  good_of tabok (cs := laws_FnNight.cs) ⟨impl_FireTimes.good, spec_FireTimes.good, laws_likeInts.good, impl_FiredSafely.good, spec_FiredSafely.good, impl_BookShow.good, spec_BookShow.good, laws_likeBookings.good, impl_PiecesLeft.good, trivial⟩ 0 false (fn := Try.f5) Try.func5 rfl (by decide) (by simp [laws_FnNight.con]) laws_FnNight.keep NN (fun _ => rfl) (fun x => laws_FnNight.body NN x)
end
end Go.Ev.Try
