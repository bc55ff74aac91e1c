/- Part 7 of what the law FnGrids stands on: an evaluator of the model's code, proved sound; the functions as plain texts; their contracts. -/
import Derived.Test.YtgddpcjbjkbpcaaChecked
import Derived.Test.YtgddpcjbjkbpcaaProg
import Derived.Test.YtgddpcjbjkbpcaaRows
import Derived.Below
import Derived.Calls
import Derived.Carry
import Derived.ChangeArms
import Derived.ChangeKeysEq
import Derived.ChangeOld
import Derived.Deep.Quiet
import Derived.KernelRfl
import Derived.Laws.Append
import Derived.Laws.BytesString
import Derived.Laws.MakeOwn
import Derived.Laws.Strings
import Derived.Laws.StructEq
import Derived.OpenShut
import Derived.OrdersHeld
import Derived.ProofKit
import Derived.ShutString
import Derived.SizedLaws
import Derived.Tactics
import Derived.WalkKit
import Derived.WideShapes
import Derived.Test.YtgddpcjbjkbpcaaEvGrids6
namespace Go.Ev.Try
open Go.Proofs Go.Pl
set_option linter.unusedVariables false
noncomputable section
set_option maxRecDepth 100000 in
theorem laws_FnGrids.lem1000033 (n : Nat) (x : List Int) : ∀ (k : Nat) (x4 : Int) (y5 : Int) (bad7 : Int) (d15 : Int) (three16 : Int) (g3a : Int) (g3ba : Int) (s6a : Int) (s6ba : Int) (c10 : List Int) (w3 : List Bool) (w4 : List Bool), laws_FnGrids.LN1000033 n x k (laws_FnGrids.st1000033 x4 y5 bad7 d15 three16 g3a g3ba s6a s6ba c10 w3 w4) = laws_FnGrids.l1000033 n k x4 y5 bad7 d15 three16 g3a g3ba s6a s6ba c10 w3 w4 := by
  intro k
  induction k with
  | zero => intro x4 y5 bad7 d15 three16 g3a g3ba s6a s6ba c10 w3 w4; rfl
  | succ k ih =>
    intro x4 y5 bad7 d15 three16 g3a g3ba s6a s6ba c10 w3 w4
    have h : laws_FnGrids.LN1000033 n x (k + 1) (laws_FnGrids.st1000033 x4 y5 bad7 d15 three16 g3a g3ba s6a s6ba c10 w3 w4) = laws_FnGrids.g1000033 (fun x4 y5 bad7 d15 three16 g3a g3ba s6a s6ba c10 w3 w4 => laws_FnGrids.LN1000033 n x k (laws_FnGrids.st1000033 x4 y5 bad7 d15 three16 g3a g3ba s6a s6ba c10 w3 w4)) x4 y5 bad7 d15 three16 g3a g3ba s6a s6ba c10 w3 w4 := by kernel_rfl
    rw [h]
    simp only [ih]
    rfl
end
end Go.Ev.Try
