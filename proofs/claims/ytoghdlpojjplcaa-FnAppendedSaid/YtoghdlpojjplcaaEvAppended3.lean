/- Part 3 of what the law FnAppended stands on: an evaluator of the model's code, proved sound; the functions as plain texts; their contracts. -/
import Derived.Test.YtoghdlpojjplcaaChecked
import Derived.Test.YtoghdlpojjplcaaProg
import Derived.Test.YtoghdlpojjplcaaRows
import Derived.Below
import Derived.Calls
import Derived.Carry
import Derived.ChangeArms
import Derived.ChangeKeysEq
import Derived.ChangeOld
import Derived.Deep.Quiet
import Derived.KernelRfl
import Derived.Laws.Append
import Derived.Laws.BytesString
import Derived.Laws.MakeOwn
import Derived.Laws.Strings
import Derived.Laws.StructEq
import Derived.OpenShut
import Derived.OrdersHeld
import Derived.ProofKit
import Derived.ShutString
import Derived.SizedLaws
import Derived.Tactics
import Derived.WalkKit
import Derived.WideShapes
import Derived.Test.YtoghdlpojjplcaaEvAppended2
namespace Go.Ev.Try
open Go.Proofs Go.Pl
set_option linter.unusedVariables false
noncomputable section
def laws_FnAppended.con : Con := { ps := [(.val, (.sl 5 (.int .u8)))], rs := [(.val, .bool)], F := fun x => laws_FnAppended.f x }
def laws_FnAppended.cs : List (FuncId × Con) := [(15, laws_big.con), (71, laws_likeTexts.con), (77, impl_ReadJournal.con), (78, spec_ReadJournal.con), (82, laws_likeEntries.con), (92, spec_DrawAppendEntry.con), (93, impl_AppendEntry.con), (94, spec_AppendEntry.con), (95, spec_DrawFirstDifference.con), (96, impl_FirstDifference.con), (97, spec_FirstDifference.con), (98, spec_DrawEntriesOf.con), (99, impl_EntriesOf.con), (100, spec_EntriesOf.con)]
def laws_FnAppended.E : Env := envOf tab laws_FnAppended.cs 0 false
def laws_FnAppended.keep (i : Nat) : List Nat := []
set_option maxRecDepth 100000 in
theorem laws_FnAppended.body (n : Nat) (x : List Int) : bodyF laws_FnAppended.E laws_FnAppended.keep n Try.f13 laws_FnAppended.con x = laws_FnAppended.fn n x := by
  have h : bodyF laws_FnAppended.E laws_FnAppended.keep n Try.f13 laws_FnAppended.con x = laws_FnAppended.top x := by kernel_rfl
  exact h
set_option maxRecDepth 100000 in
theorem laws_FnAppended.good : Good Try.prog 13 laws_FnAppended.con :=
  good_of tabok (cs := laws_FnAppended.cs) ⟨laws_big.good, laws_likeTexts.good, impl_ReadJournal.good, spec_ReadJournal.good, laws_likeEntries.good, spec_DrawAppendEntry.good, impl_AppendEntry.good, spec_AppendEntry.good, spec_DrawFirstDifference.good, impl_FirstDifference.good, spec_FirstDifference.good, spec_DrawEntriesOf.good, impl_EntriesOf.good, spec_EntriesOf.good, trivial⟩ 0 false (fn := Try.f13) Try.func13 rfl (by decide) (by simp [laws_FnAppended.con]) laws_FnAppended.keep NN (fun _ => rfl) (fun x => laws_FnAppended.body NN x)
end
end Go.Ev.Try
