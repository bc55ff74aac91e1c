/- Part 16 of what the law FnNight stands on: an evaluator of the model's code, proved sound; the functions as plain texts; their contracts. -/
import Derived.Test.YtideamfpdeojlaaChecked
import Derived.Test.YtideamfpdeojlaaProg
import Derived.Test.YtideamfpdeojlaaRows
import Derived.Below
import Derived.Calls
import Derived.Carry
import Derived.ChangeArms
import Derived.ChangeKeysEq
import Derived.ChangeOld
import Derived.Deep.Quiet
import Derived.KernelRfl
import Derived.Laws.Append
import Derived.Laws.BytesString
import Derived.Laws.MakeOwn
import Derived.Laws.Strings
import Derived.Laws.StructEq
import Derived.OpenShut
import Derived.OrdersHeld
import Derived.ProofKit
import Derived.ShutString
import Derived.SizedLaws
import Derived.Tactics
import Derived.WalkKit
import Derived.WideShapes
import Derived.Test.YtideamfpdeojlaaEvNight15
namespace Go.Ev.Try
open Go.Proofs Go.Pl
set_option linter.unusedVariables false
noncomputable section
set_option maxRecDepth 100000 in
theorem laws_FnNight.lem17 (n : Nat) (x : (List (Int × ByteArray × Int)) × ((List (Int × Int)) × (List (ByteArray × Int × Int × Int × Int × Int × Int × Int × Int)) × List (Int × Int × ByteArray × Int)) × (List (Int × Int)) × (List (Int × ByteArray × Int)) × List ByteArray) : ∀ (k : Nat) (books0 : List (Int × ByteArray × Int)) (i20 : Int) (x6 : (List (Int × Int)) × (List (ByteArray × Int × Int × Int × Int × Int × Int × Int × Int)) × List (Int × Int × ByteArray × Int)) (f15 : List Int) (fired19 : List Int), laws_FnNight.LN17 n x k (laws_FnNight.st17 books0 i20 x6 f15 fired19) = laws_FnNight.l17 n k books0 i20 x6 f15 fired19 := by
  intro k
  induction k with
  | zero => intro books0 i20 x6 f15 fired19; rfl
  | succ k ih =>
    intro books0 i20 x6 f15 fired19
    have h : laws_FnNight.LN17 n x (k + 1) (laws_FnNight.st17 books0 i20 x6 f15 fired19) = laws_FnNight.g17 (fun books0 i20 x6 f15 fired19 => laws_FnNight.LN1000019 n x (laws_FnNight.LN17 n x k) n (laws_FnNight.st1000019 books0 i20 x6 f15 fired19)) (fun books0 x6 fired19 => laws_FnNight.LN1000021 n x n (laws_FnNight.st1000021 books0 x6 fired19)) (fun books0 i20 x6 f15 fired19 => laws_FnNight.LN17 n x k (laws_FnNight.st17 books0 i20 x6 f15 fired19)) books0 i20 x6 f15 fired19 := by kernel_rfl
    rw [h]
    simp only [ih, laws_FnNight.lem1000019, laws_FnNight.lem1000021]
    rfl
end
end Go.Ev.Try
