/- Part 5 of what the law FnSettled stands on: an evaluator of the model's code, proved sound; the functions as plain texts; their contracts. -/
import Derived.Test.YtgddpcjbjkbpcaaChecked
import Derived.Test.YtgddpcjbjkbpcaaProg
import Derived.Test.YtgddpcjbjkbpcaaRows
import Derived.Below
import Derived.Calls
import Derived.Carry
import Derived.ChangeArms
import Derived.ChangeKeysEq
import Derived.ChangeOld
import Derived.Deep.Quiet
import Derived.KernelRfl
import Derived.Laws.Append
import Derived.Laws.BytesString
import Derived.Laws.MakeOwn
import Derived.Laws.Strings
import Derived.Laws.StructEq
import Derived.OpenShut
import Derived.OrdersHeld
import Derived.ProofKit
import Derived.ShutString
import Derived.SizedLaws
import Derived.Tactics
import Derived.WalkKit
import Derived.WideShapes
import Derived.Test.YtgddpcjbjkbpcaaEvSettled4
namespace Go.Ev.Try
open Go.Proofs Go.Pl
set_option linter.unusedVariables false
noncomputable section
set_option maxRecDepth 100000 in
theorem laws_FnSettled.body (n : Nat) (x : List Int) : bodyF laws_FnSettled.E laws_FnSettled.keep n Try.f6 laws_FnSettled.con x = laws_FnSettled.fn n x := by
  have h : bodyF laws_FnSettled.E laws_FnSettled.keep n Try.f6 laws_FnSettled.con x = laws_FnSettled.top (fun bad6 three15 i18 list3 s5 x9 o14 open16 => laws_FnSettled.LN16 n x n (laws_FnSettled.st16 bad6 three15 i18 list3 s5 x9 o14 open16)) x := by kernel_rfl
  rw [h]
  simp only [laws_FnSettled.lem16]
  rfl
set_option maxRecDepth 100000 in
theorem laws_FnSettled.good : Good Try.prog 6 laws_FnSettled.con :=
  good_of tabok (cs := laws_FnSettled.cs) ⟨spec_IsSettled.good, impl_IsSettled.good, spec_OpenArticles.good, impl_OpenArticles.good, spec_SettleAll.good, impl_SettleAll.good, laws_big.good, spec_DrawSettleAll.good, spec_DrawIsSettled.good, laws_likeBookings.good, laws_likeTexts.good, impl_PiecesLeft.good, trivial⟩ 0 false (fn := Try.f6) Try.func6 rfl (by decide) (by simp [laws_FnSettled.con]) laws_FnSettled.keep NN (fun _ => rfl) (fun x => laws_FnSettled.body NN x)
end
end Go.Ev.Try
