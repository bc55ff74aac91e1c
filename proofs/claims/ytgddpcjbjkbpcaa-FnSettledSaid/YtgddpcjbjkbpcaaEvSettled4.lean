/- Part 4 of what the law FnSettled stands on: an evaluator of the model's code, proved sound; the functions as plain texts; their contracts. -/
import Derived.Test.YtgddpcjbjkbpcaaChecked
import Derived.Test.YtgddpcjbjkbpcaaProg
import Derived.Test.YtgddpcjbjkbpcaaRows
import Derived.Below
import Derived.Calls
import Derived.Carry
import Derived.ChangeArms
import Derived.ChangeKeysEq
import Derived.ChangeOld
import Derived.Deep.Quiet
import Derived.KernelRfl
import Derived.Laws.Append
import Derived.Laws.BytesString
import Derived.Laws.MakeOwn
import Derived.Laws.Strings
import Derived.Laws.StructEq
import Derived.OpenShut
import Derived.OrdersHeld
import Derived.ProofKit
import Derived.ShutString
import Derived.SizedLaws
import Derived.Tactics
import Derived.WalkKit
import Derived.WideShapes
import Derived.Test.YtgddpcjbjkbpcaaEvSettled3
namespace Go.Ev.Try
open Go.Proofs Go.Pl
set_option linter.unusedVariables false
noncomputable section
set_option maxRecDepth 100000 in
theorem laws_FnSettled.lem16 (n : Nat) (x : List Int) : ∀ (k : Nat) (bad6 : Int) (three15 : Int) (i18 : Int) (list3 : List (Int × ByteArray × Int)) (s5 : List (Int × ByteArray × Int)) (x9 : List (Int × ByteArray × Int)) (o14 : List ByteArray) (open16 : List ByteArray), laws_FnSettled.LN16 n x k (laws_FnSettled.st16 bad6 three15 i18 list3 s5 x9 o14 open16) = laws_FnSettled.l16 n k bad6 three15 i18 list3 s5 x9 o14 open16 := by
  intro k
  induction k with
  | zero => intro bad6 three15 i18 list3 s5 x9 o14 open16; rfl
  | succ k ih =>
    intro bad6 three15 i18 list3 s5 x9 o14 open16
    have h : laws_FnSettled.LN16 n x (k + 1) (laws_FnSettled.st16 bad6 three15 i18 list3 s5 x9 o14 open16) = laws_FnSettled.g16 (fun bad6 three15 i18 list3 s5 x9 o14 open16 => laws_FnSettled.LN16 n x k (laws_FnSettled.st16 bad6 three15 i18 list3 s5 x9 o14 open16)) bad6 three15 i18 list3 s5 x9 o14 open16 := by kernel_rfl
    rw [h]
    simp only [ih]
    rfl
end
end Go.Ev.Try
