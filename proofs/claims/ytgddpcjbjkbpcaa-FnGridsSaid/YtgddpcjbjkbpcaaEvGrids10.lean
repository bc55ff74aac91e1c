/- Part 10 of what the law FnGrids stands on: an evaluator of the model's code, proved sound; the functions as plain texts; their contracts. -/
import Derived.Test.YtgddpcjbjkbpcaaChecked
import Derived.Test.YtgddpcjbjkbpcaaProg
import Derived.Test.YtgddpcjbjkbpcaaRows
import Derived.Below
import Derived.Calls
import Derived.Carry
import Derived.ChangeArms
import Derived.ChangeKeysEq
import Derived.ChangeOld
import Derived.Deep.Quiet
import Derived.KernelRfl
import Derived.Laws.Append
import Derived.Laws.BytesString
import Derived.Laws.MakeOwn
import Derived.Laws.Strings
import Derived.Laws.StructEq
import Derived.OpenShut
import Derived.OrdersHeld
import Derived.ProofKit
import Derived.ShutString
import Derived.SizedLaws
import Derived.Tactics
import Derived.WalkKit
import Derived.WideShapes
import Derived.Test.YtgddpcjbjkbpcaaEvGrids9
namespace Go.Ev.Try
open Go.Proofs Go.Pl
set_option linter.unusedVariables false
noncomputable section
set_option maxRecDepth 100000 in
theorem laws_FnGrids.body (n : Nat) (x : List Int) : bodyF laws_FnGrids.E laws_FnGrids.keep n Try.f13 laws_FnGrids.con x = laws_FnGrids.fn n x := by
  have h : bodyF laws_FnGrids.E laws_FnGrids.keep n Try.f13 laws_FnGrids.con x = laws_FnGrids.top (fun x4 y5 bad7 k14 d15 three16 row21 seven27 i30 g3a g3ba s6a s6ba c10 z20a z20ba r22a r22ba left26 w6 w7 w8 w9 => laws_FnGrids.LN21 n x n (laws_FnGrids.st21 x4 y5 bad7 k14 d15 three16 row21 seven27 i30 g3a g3ba s6a s6ba c10 z20a z20ba r22a r22ba left26 w6 w7 w8 w9)) (fun x4 y5 bad7 k14 d15 three16 i31 g3a g3ba s6a s6ba c10 w3 w4 => laws_FnGrids.LN28 n x n (laws_FnGrids.st28 x4 y5 bad7 k14 d15 three16 i31 g3a g3ba s6a s6ba c10 w3 w4)) x := by kernel_rfl
  rw [h]
  simp only [laws_FnGrids.lem21, laws_FnGrids.lem28]
  rfl
set_option maxRecDepth 100000 in
theorem laws_FnGrids.good : Good Try.prog 13 laws_FnGrids.con :=
  good_of tabok (cs := laws_FnGrids.cs) ⟨laws_big.good, spec_DrawSearchCell.good, impl_SearchCell.good, spec_SearchCell.good, impl_CellsLeft.good, spec_CellsLeft.good, impl_NearestLeft.good, spec_NearestLeft.good, spec_DrawSearchRow.good, impl_SearchRow.good, spec_SearchRow.good, laws_likeGrid.good, laws_likeInts.good, impl_IsGrid.good, impl_WalkLength.good, laws_hasInt.good, trivial⟩ 0 false (fn := Try.f13) Try.func13 rfl (by decide) (by simp [laws_FnGrids.con]) laws_FnGrids.keep NN (fun _ => rfl) (fun x => laws_FnGrids.body NN x)
end
end Go.Ev.Try
