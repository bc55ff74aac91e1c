/- Part 4 of what the law FnCovered stands on: an evaluator of the model's code, proved sound; the functions as plain texts; their contracts. -/
import Derived.Test.YtfedipldlkncnaaChecked
import Derived.Test.YtfedipldlkncnaaProg
import Derived.Test.YtfedipldlkncnaaRows
import Derived.Below
import Derived.Calls
import Derived.Carry
import Derived.ChangeArms
import Derived.ChangeKeysEq
import Derived.ChangeOld
import Derived.Deep.Quiet
import Derived.KernelRfl
import Derived.Laws.Append
import Derived.Laws.BytesString
import Derived.Laws.MakeOwn
import Derived.Laws.Strings
import Derived.Laws.StructEq
import Derived.OpenShut
import Derived.OrdersHeld
import Derived.ProofKit
import Derived.ShutString
import Derived.SizedLaws
import Derived.Tactics
import Derived.WalkKit
import Derived.WideShapes
import Derived.Test.YtfedipldlkncnaaEvCovered3
namespace Go.Ev.Try
open Go.Proofs Go.Pl
set_option linter.unusedVariables false
noncomputable section
set_option maxRecDepth 100000 in
theorem laws_FnCovered.lem26 (n : Nat) (x : List Int) : ∀ (k : Nat) (from4 : Int) (to5 : Int) (n10 : Int) (some19 : List (Int × Int × Int × Int × List Int × Int)) (i23 : Int), laws_FnCovered.LN26 n x k (laws_FnCovered.st26 from4 to5 n10 some19 i23) = laws_FnCovered.l26 n k from4 to5 n10 some19 i23 := by
  intro k
  induction k with
  | zero => intro from4 to5 n10 some19 i23; rfl
  | succ k ih =>
    intro from4 to5 n10 some19 i23
    have h : laws_FnCovered.LN26 n x (k + 1) (laws_FnCovered.st26 from4 to5 n10 some19 i23) = laws_FnCovered.g26 (fun from4 to5 n10 some19 i23 => laws_FnCovered.LN26 n x k (laws_FnCovered.st26 from4 to5 n10 some19 i23)) from4 to5 n10 some19 i23 := by kernel_rfl
    rw [h]
    simp only [ih]
    rfl
end
end Go.Ev.Try
