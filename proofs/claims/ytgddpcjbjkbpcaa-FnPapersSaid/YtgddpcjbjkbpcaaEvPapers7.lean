/- Part 7 of what the law FnPapers stands on: an evaluator of the model's code, proved sound; the functions as plain texts; their contracts. -/
import Derived.Test.YtgddpcjbjkbpcaaChecked
import Derived.Test.YtgddpcjbjkbpcaaProg
import Derived.Test.YtgddpcjbjkbpcaaRows
import Derived.Below
import Derived.Calls
import Derived.Carry
import Derived.ChangeArms
import Derived.ChangeKeysEq
import Derived.ChangeOld
import Derived.Deep.Quiet
import Derived.KernelRfl
import Derived.Laws.Append
import Derived.Laws.BytesString
import Derived.Laws.MakeOwn
import Derived.Laws.Strings
import Derived.Laws.StructEq
import Derived.OpenShut
import Derived.OrdersHeld
import Derived.ProofKit
import Derived.ShutString
import Derived.SizedLaws
import Derived.Tactics
import Derived.WalkKit
import Derived.WideShapes
import Derived.Test.YtgddpcjbjkbpcaaEvPapers6
namespace Go.Ev.Try
open Go.Proofs Go.Pl
set_option linter.unusedVariables false
noncomputable section
set_option maxRecDepth 100000 in
theorem laws_FnPapers.body (n : Nat) (x : List Int) : bodyF laws_FnPapers.E laws_FnPapers.keep n Try.f11 laws_FnPapers.con x = laws_FnPapers.fn n x := by
  have h : bodyF laws_FnPapers.E laws_FnPapers.keep n Try.f11 laws_FnPapers.con x = laws_FnPapers.top (fun name4 count5 bad7 one11 n16 three17 total24 i25 p3a p3ba a6a a6ba c10a c10ba q15a q15ba b20 w5 w6 w7 w8 => laws_FnPapers.LN18 n x n (laws_FnPapers.st18 name4 count5 bad7 one11 n16 three17 total24 i25 p3a p3ba a6a a6ba c10a c10ba q15a q15ba b20 w5 w6 w7 w8)) (fun name4 count5 found28 i29 a6a a6ba w1 => laws_FnPapers.LN31 n x n (laws_FnPapers.st31 name4 count5 found28 i29 a6a a6ba w1)) x := by kernel_rfl
  rw [h]
  simp only [laws_FnPapers.lem18, laws_FnPapers.lem31]
  rfl
set_option maxRecDepth 100000 in
theorem laws_FnPapers.good : Good Try.prog 11 laws_FnPapers.con :=
  good_of tabok (cs := laws_FnPapers.cs) ⟨laws_big.good, laws_likePaper.good, impl_IsPaper.good, spec_CutLine.good, impl_CutLine.good, spec_PutLine.good, impl_PutLine.good, spec_DrawPutLine.good, spec_DrawNetOfPaper.good, impl_NetOfPaper.good, spec_NetOfPaper.good, impl_BoxesOf.good, spec_BoxesOf.good, laws_likeBoxes.good, impl_AreBoxes.good, trivial⟩ 0 false (fn := Try.f11) Try.func11 rfl (by decide) (by simp [laws_FnPapers.con]) laws_FnPapers.keep NN (fun _ => rfl) (fun x => laws_FnPapers.body NN x)
end
end Go.Ev.Try
