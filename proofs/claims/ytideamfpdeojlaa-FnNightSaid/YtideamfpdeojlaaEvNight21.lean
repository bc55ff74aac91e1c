/- Part 21 of what the law FnNight stands on: an evaluator of the model's code, proved sound; the functions as plain texts; their contracts. -/
import Derived.Test.YtideamfpdeojlaaChecked
import Derived.Test.YtideamfpdeojlaaProg
import Derived.Test.YtideamfpdeojlaaRows
import Derived.Below
import Derived.Calls
import Derived.Carry
import Derived.ChangeArms
import Derived.ChangeKeysEq
import Derived.ChangeOld
import Derived.Deep.Quiet
import Derived.KernelRfl
import Derived.Laws.Append
import Derived.Laws.BytesString
import Derived.Laws.MakeOwn
import Derived.Laws.Strings
import Derived.Laws.StructEq
import Derived.OpenShut
import Derived.OrdersHeld
import Derived.ProofKit
import Derived.ShutString
import Derived.SizedLaws
import Derived.Tactics
import Derived.WalkKit
import Derived.WideShapes
import Derived.Test.YtideamfpdeojlaaEvNight20
namespace Go.Ev.Try
open Go.Proofs Go.Pl
set_option linter.unusedVariables false
noncomputable section
set_option maxRecDepth 100000 in
theorem laws_FnNight.lem1000004 (n : Nat) (x : (List (Int × ByteArray × Int)) × ((List (Int × Int)) × (List (ByteArray × Int × Int × Int × Int × Int × Int × Int × Int)) × List (Int × Int × ByteArray × Int)) × (List (Int × Int)) × (List (Int × ByteArray × Int)) × List ByteArray) : ∀ (k : Nat) (books0 : List (Int × ByteArray × Int)) (list2 : List (Int × Int)) (moves3 : List (Int × ByteArray × Int)) (zones4 : List ByteArray) (bad12 : Int) (x6 : (List (Int × Int)) × (List (ByteArray × Int × Int × Int × Int × Int × Int × Int × Int)) × List (Int × Int × ByteArray × Int)) (times11 : List Int), laws_FnNight.LN1000004 n x k (laws_FnNight.st1000004 books0 list2 moves3 zones4 bad12 x6 times11) = laws_FnNight.l1000004 n k books0 list2 moves3 zones4 bad12 x6 times11 := by
  intro k
  induction k with
  | zero => intro books0 list2 moves3 zones4 bad12 x6 times11; rfl
  | succ k ih =>
    intro books0 list2 moves3 zones4 bad12 x6 times11
    have h : laws_FnNight.LN1000004 n x (k + 1) (laws_FnNight.st1000004 books0 list2 moves3 zones4 bad12 x6 times11) = laws_FnNight.g1000004 (fun books0 list2 moves3 zones4 bad12 want14 x6 times11 due13 => laws_FnNight.LN1000005 n x n (laws_FnNight.st1000005 books0 list2 moves3 zones4 bad12 want14 x6 times11 due13)) (fun books0 list2 moves3 zones4 bad12 x6 times11 => laws_FnNight.LN1000004 n x k (laws_FnNight.st1000004 books0 list2 moves3 zones4 bad12 x6 times11)) books0 list2 moves3 zones4 bad12 x6 times11 := by kernel_rfl
    rw [h]
    simp only [ih, laws_FnNight.lem1000005]
    rfl
end
end Go.Ev.Try
