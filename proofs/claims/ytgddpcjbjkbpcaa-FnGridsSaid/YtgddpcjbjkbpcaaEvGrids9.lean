/- Part 9 of what the law FnGrids stands on: an evaluator of the model's code, proved sound; the functions as plain texts; their contracts. -/
import Derived.Test.YtgddpcjbjkbpcaaChecked
import Derived.Test.YtgddpcjbjkbpcaaProg
import Derived.Test.YtgddpcjbjkbpcaaRows
import Derived.Below
import Derived.Calls
import Derived.Carry
import Derived.ChangeArms
import Derived.ChangeKeysEq
import Derived.ChangeOld
import Derived.Deep.Quiet
import Derived.KernelRfl
import Derived.Laws.Append
import Derived.Laws.BytesString
import Derived.Laws.MakeOwn
import Derived.Laws.Strings
import Derived.Laws.StructEq
import Derived.OpenShut
import Derived.OrdersHeld
import Derived.ProofKit
import Derived.ShutString
import Derived.SizedLaws
import Derived.Tactics
import Derived.WalkKit
import Derived.WideShapes
import Derived.Test.YtgddpcjbjkbpcaaEvGrids8
namespace Go.Ev.Try
open Go.Proofs Go.Pl
set_option linter.unusedVariables false
noncomputable section
set_option maxRecDepth 100000 in
theorem laws_FnGrids.lem21 (n : Nat) (x : List Int) : ∀ (k : Nat) (x4 : Int) (y5 : Int) (bad7 : Int) (k14 : Int) (d15 : Int) (three16 : Int) (row21 : Int) (seven27 : Int) (i30 : Int) (g3a : Int) (g3ba : Int) (s6a : Int) (s6ba : Int) (c10 : List Int) (z20a : Int) (z20ba : Int) (r22a : Int) (r22ba : Int) (left26 : List Int) (w6 : List Bool) (w7 : List Bool) (w8 : List Bool) (w9 : List Bool), laws_FnGrids.LN21 n x k (laws_FnGrids.st21 x4 y5 bad7 k14 d15 three16 row21 seven27 i30 g3a g3ba s6a s6ba c10 z20a z20ba r22a r22ba left26 w6 w7 w8 w9) = laws_FnGrids.l21 n k x4 y5 bad7 k14 d15 three16 row21 seven27 i30 g3a g3ba s6a s6ba c10 z20a z20ba r22a r22ba left26 w6 w7 w8 w9 := by
  intro k
  induction k with
  | zero => intro x4 y5 bad7 k14 d15 three16 row21 seven27 i30 g3a g3ba s6a s6ba c10 z20a z20ba r22a r22ba left26 w6 w7 w8 w9; rfl
  | succ k ih =>
    intro x4 y5 bad7 k14 d15 three16 row21 seven27 i30 g3a g3ba s6a s6ba c10 z20a z20ba r22a r22ba left26 w6 w7 w8 w9
    have h : laws_FnGrids.LN21 n x (k + 1) (laws_FnGrids.st21 x4 y5 bad7 k14 d15 three16 row21 seven27 i30 g3a g3ba s6a s6ba c10 z20a z20ba r22a r22ba left26 w6 w7 w8 w9) = laws_FnGrids.g21 (fun x4 y5 bad7 k14 d15 three16 i31 g3a g3ba s6a s6ba c10 w3 w4 => laws_FnGrids.LN28 n x n (laws_FnGrids.st28 x4 y5 bad7 k14 d15 three16 i31 g3a g3ba s6a s6ba c10 w3 w4)) (fun x4 y5 bad7 k14 d15 three16 row21 seven27 i30 g3a g3ba s6a s6ba c10 z20a z20ba r22a r22ba left26 w6 w7 w8 w9 => laws_FnGrids.LN21 n x k (laws_FnGrids.st21 x4 y5 bad7 k14 d15 three16 row21 seven27 i30 g3a g3ba s6a s6ba c10 z20a z20ba r22a r22ba left26 w6 w7 w8 w9)) x4 y5 bad7 k14 d15 three16 row21 seven27 i30 g3a g3ba s6a s6ba c10 z20a z20ba r22a r22ba left26 w6 w7 w8 w9 := by kernel_rfl
    rw [h]
    simp only [ih, laws_FnGrids.lem28]
    rfl
end
end Go.Ev.Try
