/- Part 6 of what the law FnCovered stands on: an evaluator of the model's code, proved sound; the functions as plain texts; their contracts. -/
import Derived.Test.YtfedipldlkncnaaChecked
import Derived.Test.YtfedipldlkncnaaProg
import Derived.Test.YtfedipldlkncnaaRows
import Derived.Below
import Derived.Calls
import Derived.Carry
import Derived.ChangeArms
import Derived.ChangeKeysEq
import Derived.ChangeOld
import Derived.Deep.Quiet
import Derived.KernelRfl
import Derived.Laws.Append
import Derived.Laws.BytesString
import Derived.Laws.MakeOwn
import Derived.Laws.Strings
import Derived.Laws.StructEq
import Derived.OpenShut
import Derived.OrdersHeld
import Derived.ProofKit
import Derived.ShutString
import Derived.SizedLaws
import Derived.Tactics
import Derived.WalkKit
import Derived.WideShapes
import Derived.Test.YtfedipldlkncnaaEvCovered5
namespace Go.Ev.Try
open Go.Proofs Go.Pl
set_option linter.unusedVariables false
noncomputable section
set_option maxRecDepth 100000 in
theorem laws_FnCovered.body (n : Nat) (x : List Int) : bodyF laws_FnCovered.E laws_FnCovered.keep n Try.f4 laws_FnCovered.con x = laws_FnCovered.fn n x := by
  have h : bodyF laws_FnCovered.E laws_FnCovered.keep n Try.f4 laws_FnCovered.con x = laws_FnCovered.top (fun permits3 from4 to5 f6 n10 i20 some19 => laws_FnCovered.LN19 n x n (laws_FnCovered.st19 permits3 from4 to5 f6 n10 i20 some19)) x := by kernel_rfl
  rw [h]
  simp only [laws_FnCovered.lem19]
  rfl
set_option maxRecDepth 100000 in
theorem laws_FnCovered.good : Good Try.prog 4 laws_FnCovered.con :=
  good_of tabok (cs := laws_FnCovered.cs) ⟨spec_DaysCovered.good, impl_DaysCovered.good, laws_big.good, spec_DrawFewestPermits.good, impl_FewestPermits.good, spec_FewestPermits.good, spec_DrawRefusalsText.good, impl_RefusalsText.good, spec_RefusalsText.good, laws_likeInts.good, trivial⟩ 0 false (fn := Try.f4) Try.func4 rfl (by decide) (by simp [laws_FnCovered.con]) laws_FnCovered.keep NN (fun _ => rfl) (fun x => laws_FnCovered.body NN x)
end
end Go.Ev.Try
