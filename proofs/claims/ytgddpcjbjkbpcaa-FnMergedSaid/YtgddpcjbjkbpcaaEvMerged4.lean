/- Part 4 of what the law FnMerged stands on: an evaluator of the model's code, proved sound; the functions as plain texts; their contracts. -/
import Derived.Test.YtgddpcjbjkbpcaaChecked
import Derived.Test.YtgddpcjbjkbpcaaProg
import Derived.Test.YtgddpcjbjkbpcaaRows
import Derived.Below
import Derived.Calls
import Derived.Carry
import Derived.ChangeArms
import Derived.ChangeKeysEq
import Derived.ChangeOld
import Derived.Deep.Quiet
import Derived.KernelRfl
import Derived.Laws.Append
import Derived.Laws.BytesString
import Derived.Laws.MakeOwn
import Derived.Laws.Strings
import Derived.Laws.StructEq
import Derived.OpenShut
import Derived.OrdersHeld
import Derived.ProofKit
import Derived.ShutString
import Derived.SizedLaws
import Derived.Tactics
import Derived.WalkKit
import Derived.WideShapes
import Derived.Test.YtgddpcjbjkbpcaaEvMerged3
namespace Go.Ev.Try
open Go.Proofs Go.Pl
set_option linter.unusedVariables false
noncomputable section
set_option maxRecDepth 100000 in
theorem laws_FnMerged.body (n : Nat) (x : List Int) : bodyF laws_FnMerged.E laws_FnMerged.keep n Try.f7 laws_FnMerged.con x = laws_FnMerged.fn n x := by
  have h : bodyF laws_FnMerged.E laws_FnMerged.keep n Try.f7 laws_FnMerged.con x = laws_FnMerged.top x := by kernel_rfl
  exact h
set_option maxRecDepth 100000 in
theorem laws_FnMerged.good : Good Try.prog 7 laws_FnMerged.con :=
  good_of tabok (cs := laws_FnMerged.cs) ⟨laws_big.good, spec_DrawMergePapers.good, impl_MergePapers.good, spec_MergePapers.good, impl_MissingLines.good, spec_MissingLines.good, laws_likePaper.good, laws_likeLines.good, impl_IsPaper.good, trivial⟩ 0 false (fn := Try.f7) Try.func7 rfl (by decide) (by simp [laws_FnMerged.con]) laws_FnMerged.keep NN (fun _ => rfl) (fun x => laws_FnMerged.body NN x)
end
end Go.Ev.Try
