/- Part 12 of what the law FnNight stands on: an evaluator of the model's code, proved sound; the functions as plain texts; their contracts. -/
import Derived.Test.YtideamfpdeojlaaChecked
import Derived.Test.YtideamfpdeojlaaProg
import Derived.Test.YtideamfpdeojlaaRows
import Derived.Below
import Derived.Calls
import Derived.Carry
import Derived.ChangeArms
import Derived.ChangeKeysEq
import Derived.ChangeOld
import Derived.Deep.Quiet
import Derived.KernelRfl
import Derived.Laws.Append
import Derived.Laws.BytesString
import Derived.Laws.MakeOwn
import Derived.Laws.Strings
import Derived.Laws.StructEq
import Derived.OpenShut
import Derived.OrdersHeld
import Derived.ProofKit
import Derived.ShutString
import Derived.SizedLaws
import Derived.Tactics
import Derived.WalkKit
import Derived.WideShapes
import Derived.Test.YtideamfpdeojlaaEvNight11
namespace Go.Ev.Try
open Go.Proofs Go.Pl
set_option linter.unusedVariables false
noncomputable section
set_option maxRecDepth 100000 in
theorem laws_FnNight.lem1000028 (n : Nat) (x : (List (Int × ByteArray × Int)) × ((List (Int × Int)) × (List (ByteArray × Int × Int × Int × Int × Int × Int × Int × Int)) × List (Int × Int × ByteArray × Int)) × (List (Int × Int)) × (List (Int × ByteArray × Int)) × List ByteArray) (M26 : St → Option (Bool)) : ∀ (k : Nat) (books0 : List (Int × ByteArray × Int)) (three22 : Int) (k25 : Int) (x6 : (List (Int × Int)) × (List (ByteArray × Int × Int × Int × Int × Int × Int × Int × Int)) × List (Int × Int × ByteArray × Int)) (fired19 : List Int) (b21 : List (Int × ByteArray × Int)), laws_FnNight.LN1000028 n x M26 k (laws_FnNight.st1000028 books0 three22 k25 x6 fired19 b21) = laws_FnNight.l1000028 n (fun books0 three22 k25 x6 fired19 b21 => M26 (laws_FnNight.st26 books0 three22 k25 x6 fired19 b21)) k books0 three22 k25 x6 fired19 b21 := by
  intro k
  induction k with
  | zero => intro books0 three22 k25 x6 fired19 b21; rfl
  | succ k ih =>
    intro books0 three22 k25 x6 fired19 b21
    have h : laws_FnNight.LN1000028 n x M26 (k + 1) (laws_FnNight.st1000028 books0 three22 k25 x6 fired19 b21) = laws_FnNight.g1000028 (fun books0 three22 k25 n26 i27 x6 fired19 b21 => laws_FnNight.LN30 n x M26 n (laws_FnNight.st30 books0 three22 k25 n26 i27 x6 fired19 b21)) (fun books0 three22 k25 x6 fired19 b21 => M26 (laws_FnNight.st26 books0 three22 k25 x6 fired19 b21)) (fun books0 three22 k25 x6 fired19 b21 => laws_FnNight.LN1000028 n x M26 k (laws_FnNight.st1000028 books0 three22 k25 x6 fired19 b21)) books0 three22 k25 x6 fired19 b21 := by kernel_rfl
    rw [h]
    simp only [ih, laws_FnNight.lem30]
    rfl
end
end Go.Ev.Try
