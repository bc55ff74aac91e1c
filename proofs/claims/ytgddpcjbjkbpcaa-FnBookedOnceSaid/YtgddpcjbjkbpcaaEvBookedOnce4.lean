/- Part 4 of what the law FnBookedOnce stands on: an evaluator of the model's code, proved sound; the functions as plain texts; their contracts. -/
import Derived.Test.YtgddpcjbjkbpcaaChecked
import Derived.Test.YtgddpcjbjkbpcaaProg
import Derived.Test.YtgddpcjbjkbpcaaRows
import Derived.Below
import Derived.Calls
import Derived.Carry
import Derived.ChangeArms
import Derived.ChangeKeysEq
import Derived.ChangeOld
import Derived.Deep.Quiet
import Derived.KernelRfl
import Derived.Laws.Append
import Derived.Laws.BytesString
import Derived.Laws.MakeOwn
import Derived.Laws.Strings
import Derived.Laws.StructEq
import Derived.OpenShut
import Derived.OrdersHeld
import Derived.ProofKit
import Derived.ShutString
import Derived.SizedLaws
import Derived.Tactics
import Derived.WalkKit
import Derived.WideShapes
import Derived.Test.YtgddpcjbjkbpcaaEvBookedOnce3
namespace Go.Ev.Try
open Go.Proofs Go.Pl
set_option linter.unusedVariables false
noncomputable section
set_option maxRecDepth 100000 in
theorem laws_FnBookedOnce.lem13 (n : Nat) (x : (List (Int × ByteArray × Int)) × ((List (Int × Int)) × (List (ByteArray × Int × Int × Int × Int × Int × Int × Int × Int)) × List (Int × Int × ByteArray × Int)) × List Int) : ∀ (k : Nat) (fired2 : List Int) (b7 : List (Int × ByteArray × Int)) (total11 : Int) (i12 : Int), laws_FnBookedOnce.LN13 n x k (laws_FnBookedOnce.st13 fired2 b7 total11 i12) = laws_FnBookedOnce.l13 n k fired2 b7 total11 i12 := by
  intro k
  induction k with
  | zero => intro fired2 b7 total11 i12; rfl
  | succ k ih =>
    intro fired2 b7 total11 i12
    have h : laws_FnBookedOnce.LN13 n x (k + 1) (laws_FnBookedOnce.st13 fired2 b7 total11 i12) = laws_FnBookedOnce.g13 (fun fired2 b7 total11 i12 => laws_FnBookedOnce.LN13 n x k (laws_FnBookedOnce.st13 fired2 b7 total11 i12)) fired2 b7 total11 i12 := by kernel_rfl
    rw [h]
    simp only [ih]
    rfl
end
end Go.Ev.Try
