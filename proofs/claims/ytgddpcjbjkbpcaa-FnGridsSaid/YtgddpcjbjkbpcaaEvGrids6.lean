/- Part 6 of what the law FnGrids stands on: an evaluator of the model's code, proved sound; the functions as plain texts; their contracts. -/
import Derived.Test.YtgddpcjbjkbpcaaChecked
import Derived.Test.YtgddpcjbjkbpcaaProg
import Derived.Test.YtgddpcjbjkbpcaaRows
import Derived.Below
import Derived.Calls
import Derived.Carry
import Derived.ChangeArms
import Derived.ChangeKeysEq
import Derived.ChangeOld
import Derived.Deep.Quiet
import Derived.KernelRfl
import Derived.Laws.Append
import Derived.Laws.BytesString
import Derived.Laws.MakeOwn
import Derived.Laws.Strings
import Derived.Laws.StructEq
import Derived.OpenShut
import Derived.OrdersHeld
import Derived.ProofKit
import Derived.ShutString
import Derived.SizedLaws
import Derived.Tactics
import Derived.WalkKit
import Derived.WideShapes
import Derived.Test.YtgddpcjbjkbpcaaEvGrids5
namespace Go.Ev.Try
open Go.Proofs Go.Pl
set_option linter.unusedVariables false
noncomputable section
set_option maxRecDepth 100000 in
theorem laws_FnGrids.lem1000030 (n : Nat) (x : List Int) (M28 : St → Option (Bool)) : ∀ (k : Nat) (x4 : Int) (y5 : Int) (bad7 : Int) (k14 : Int) (d15 : Int) (three16 : Int) (i31 : Int) (g3a : Int) (g3ba : Int) (s6a : Int) (s6ba : Int) (c10 : List Int) (w3 : List Bool) (w4 : List Bool), laws_FnGrids.LN1000030 n x M28 k (laws_FnGrids.st1000030 x4 y5 bad7 k14 d15 three16 i31 g3a g3ba s6a s6ba c10 w3 w4) = laws_FnGrids.l1000030 n (fun x4 y5 bad7 k14 d15 three16 i31 g3a g3ba s6a s6ba c10 w3 w4 => M28 (laws_FnGrids.st28 x4 y5 bad7 k14 d15 three16 i31 g3a g3ba s6a s6ba c10 w3 w4)) k x4 y5 bad7 k14 d15 three16 i31 g3a g3ba s6a s6ba c10 w3 w4 := by
  intro k
  induction k with
  | zero => intro x4 y5 bad7 k14 d15 three16 i31 g3a g3ba s6a s6ba c10 w3 w4; rfl
  | succ k ih =>
    intro x4 y5 bad7 k14 d15 three16 i31 g3a g3ba s6a s6ba c10 w3 w4
    have h : laws_FnGrids.LN1000030 n x M28 (k + 1) (laws_FnGrids.st1000030 x4 y5 bad7 k14 d15 three16 i31 g3a g3ba s6a s6ba c10 w3 w4) = laws_FnGrids.g1000030 (fun x4 y5 bad7 k14 d15 three16 i31 walk32 eight33 g3a g3ba s6a s6ba c10 w3 w4 => laws_FnGrids.LN1000031 n x M28 n (laws_FnGrids.st1000031 x4 y5 bad7 k14 d15 three16 i31 walk32 eight33 g3a g3ba s6a s6ba c10 w3 w4)) (fun x4 y5 bad7 k14 d15 three16 i31 g3a g3ba s6a s6ba c10 w3 w4 => M28 (laws_FnGrids.st28 x4 y5 bad7 k14 d15 three16 i31 g3a g3ba s6a s6ba c10 w3 w4)) (fun x4 y5 bad7 k14 d15 three16 i31 g3a g3ba s6a s6ba c10 w3 w4 => laws_FnGrids.LN1000030 n x M28 k (laws_FnGrids.st1000030 x4 y5 bad7 k14 d15 three16 i31 g3a g3ba s6a s6ba c10 w3 w4)) x4 y5 bad7 k14 d15 three16 i31 g3a g3ba s6a s6ba c10 w3 w4 := by kernel_rfl
    rw [h]
    simp only [ih, laws_FnGrids.lem1000031]
    rfl
end
end Go.Ev.Try
