/- Part 5 of what the law FnPapers stands on: an evaluator of the model's code, proved sound; the functions as plain texts; their contracts. -/
import Derived.Test.YtgddpcjbjkbpcaaChecked
import Derived.Test.YtgddpcjbjkbpcaaProg
import Derived.Test.YtgddpcjbjkbpcaaRows
import Derived.Below
import Derived.Calls
import Derived.Carry
import Derived.ChangeArms
import Derived.ChangeKeysEq
import Derived.ChangeOld
import Derived.Deep.Quiet
import Derived.KernelRfl
import Derived.Laws.Append
import Derived.Laws.BytesString
import Derived.Laws.MakeOwn
import Derived.Laws.Strings
import Derived.Laws.StructEq
import Derived.OpenShut
import Derived.OrdersHeld
import Derived.ProofKit
import Derived.ShutString
import Derived.SizedLaws
import Derived.Tactics
import Derived.WalkKit
import Derived.WideShapes
import Derived.Test.YtgddpcjbjkbpcaaEvPapers4
namespace Go.Ev.Try
open Go.Proofs Go.Pl
set_option linter.unusedVariables false
noncomputable section
set_option maxRecDepth 100000 in
theorem laws_FnPapers.lem31 (n : Nat) (x : List Int) : ∀ (k : Nat) (name4 : ByteArray) (count5 : Int) (found28 : Bool) (i29 : Int) (a6a : ByteArray) (a6ba : Int) (w1 : List (ByteArray × Int)), laws_FnPapers.LN31 n x k (laws_FnPapers.st31 name4 count5 found28 i29 a6a a6ba w1) = laws_FnPapers.l31 n k name4 count5 found28 i29 a6a a6ba w1 := by
  intro k
  induction k with
  | zero => intro name4 count5 found28 i29 a6a a6ba w1; rfl
  | succ k ih =>
    intro name4 count5 found28 i29 a6a a6ba w1
    have h : laws_FnPapers.LN31 n x (k + 1) (laws_FnPapers.st31 name4 count5 found28 i29 a6a a6ba w1) = laws_FnPapers.g31 (fun name4 count5 found28 i29 a6a a6ba w1 => laws_FnPapers.LN31 n x k (laws_FnPapers.st31 name4 count5 found28 i29 a6a a6ba w1)) name4 count5 found28 i29 a6a a6ba w1 := by kernel_rfl
    rw [h]
    simp only [ih]
    rfl
end
end Go.Ev.Try
