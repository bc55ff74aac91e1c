/- Part 5 of what the law FnCovered stands on: an evaluator of the model's code, proved sound; the functions as plain texts; their contracts. -/
import Derived.Test.YtfedipldlkncnaaChecked
import Derived.Test.YtfedipldlkncnaaProg
import Derived.Test.YtfedipldlkncnaaRows
import Derived.Below
import Derived.Calls
import Derived.Carry
import Derived.ChangeArms
import Derived.ChangeKeysEq
import Derived.ChangeOld
import Derived.Deep.Quiet
import Derived.KernelRfl
import Derived.Laws.Append
import Derived.Laws.BytesString
import Derived.Laws.MakeOwn
import Derived.Laws.Strings
import Derived.Laws.StructEq
import Derived.OpenShut
import Derived.OrdersHeld
import Derived.ProofKit
import Derived.ShutString
import Derived.SizedLaws
import Derived.Tactics
import Derived.WalkKit
import Derived.WideShapes
import Derived.Test.YtfedipldlkncnaaEvCovered4
namespace Go.Ev.Try
open Go.Proofs Go.Pl
set_option linter.unusedVariables false
noncomputable section
set_option maxRecDepth 100000 in
theorem laws_FnCovered.lem19 (n : Nat) (x : List Int) : ∀ (k : Nat) (permits3 : List (Int × Int × Int × Int × List Int × Int)) (from4 : Int) (to5 : Int) (f6 : List Int) (n10 : Int) (i20 : Int) (some19 : List (Int × Int × Int × Int × List Int × Int)), laws_FnCovered.LN19 n x k (laws_FnCovered.st19 permits3 from4 to5 f6 n10 i20 some19) = laws_FnCovered.l19 n k permits3 from4 to5 f6 n10 i20 some19 := by
  intro k
  induction k with
  | zero => intro permits3 from4 to5 f6 n10 i20 some19; rfl
  | succ k ih =>
    intro permits3 from4 to5 f6 n10 i20 some19
    have h : laws_FnCovered.LN19 n x (k + 1) (laws_FnCovered.st19 permits3 from4 to5 f6 n10 i20 some19) = laws_FnCovered.g19 (fun from4 to5 n10 some19 i23 => laws_FnCovered.LN26 n x n (laws_FnCovered.st26 from4 to5 n10 some19 i23)) (fun permits3 from4 to5 f6 n10 i20 some19 => laws_FnCovered.LN19 n x k (laws_FnCovered.st19 permits3 from4 to5 f6 n10 i20 some19)) permits3 from4 to5 f6 n10 i20 some19 := by kernel_rfl
    rw [h]
    simp only [ih, laws_FnCovered.lem26]
    rfl
end
end Go.Ev.Try
