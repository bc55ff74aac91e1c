/- Part 3 of what the law FnPaperTexts stands on: an evaluator of the model's code, proved sound; the functions as plain texts; their contracts. -/
import Derived.Test.YtoghdlpojjplcaaChecked
import Derived.Test.YtoghdlpojjplcaaProg
import Derived.Test.YtoghdlpojjplcaaRows
import Derived.Below
import Derived.Calls
import Derived.Carry
import Derived.ChangeArms
import Derived.ChangeKeysEq
import Derived.ChangeOld
import Derived.Deep.Quiet
import Derived.KernelRfl
import Derived.Laws.Append
import Derived.Laws.BytesString
import Derived.Laws.MakeOwn
import Derived.Laws.Strings
import Derived.Laws.StructEq
import Derived.OpenShut
import Derived.OrdersHeld
import Derived.ProofKit
import Derived.ShutString
import Derived.SizedLaws
import Derived.Tactics
import Derived.WalkKit
import Derived.WideShapes
import Derived.Test.YtoghdlpojjplcaaEvPaperTexts2
namespace Go.Ev.Try
open Go.Proofs Go.Pl
set_option linter.unusedVariables false
noncomputable section
def laws_FnPaperTexts.con : Con := { ps := [(.val, (.sl 5 (.int .u8)))], rs := [(.val, .bool)], F := fun x => laws_FnPaperTexts.f x }
def laws_FnPaperTexts.cs : List (FuncId × Con) := [(15, laws_big.con), (57, spec_DrawPaperText.con), (58, impl_PaperText.con), (59, spec_PaperText.con), (60, spec_DrawReadPaper.con), (61, impl_ReadPaper.con), (62, spec_ReadPaper.con), (63, laws_likePaper.con), (64, impl_IsPaper.con)]
def laws_FnPaperTexts.E : Env := envOf tab laws_FnPaperTexts.cs 0 false
def laws_FnPaperTexts.keep (i : Nat) : List Nat := []
set_option maxRecDepth 100000 in
theorem laws_FnPaperTexts.body (n : Nat) (x : List Int) : bodyF laws_FnPaperTexts.E laws_FnPaperTexts.keep n Try.f9 laws_FnPaperTexts.con x = laws_FnPaperTexts.fn n x := by
  have h : bodyF laws_FnPaperTexts.E laws_FnPaperTexts.keep n Try.f9 laws_FnPaperTexts.con x = laws_FnPaperTexts.top x := by kernel_rfl
  exact h
set_option maxRecDepth 100000 in
theorem laws_FnPaperTexts.good : Good Try.prog 9 laws_FnPaperTexts.con :=
  good_of tabok (cs := laws_FnPaperTexts.cs) ⟨laws_big.good, spec_DrawPaperText.good, impl_PaperText.good, spec_PaperText.good, spec_DrawReadPaper.good, impl_ReadPaper.good, spec_ReadPaper.good, laws_likePaper.good, impl_IsPaper.good, trivial⟩ 0 false (fn := Try.f9) Try.func9 rfl (by decide) (by simp [laws_FnPaperTexts.con]) laws_FnPaperTexts.keep NN (fun _ => rfl) (fun x => laws_FnPaperTexts.body NN x)
end
end Go.Ev.Try
