/- Part 3 of what the law FnMerged stands on: an evaluator of the model's code, proved sound; the functions as plain texts; their contracts. -/
import Derived.Test.YtgddpcjbjkbpcaaChecked
import Derived.Test.YtgddpcjbjkbpcaaProg
import Derived.Test.YtgddpcjbjkbpcaaRows
import Derived.Below
import Derived.Calls
import Derived.Carry
import Derived.ChangeArms
import Derived.ChangeKeysEq
import Derived.ChangeOld
import Derived.Deep.Quiet
import Derived.KernelRfl
import Derived.Laws.Append
import Derived.Laws.BytesString
import Derived.Laws.MakeOwn
import Derived.Laws.Strings
import Derived.Laws.StructEq
import Derived.OpenShut
import Derived.OrdersHeld
import Derived.ProofKit
import Derived.ShutString
import Derived.SizedLaws
import Derived.Tactics
import Derived.WalkKit
import Derived.WideShapes
import Derived.Test.YtgddpcjbjkbpcaaEvMerged2
namespace Go.Ev.Try
open Go.Proofs Go.Pl
set_option linter.unusedVariables false
noncomputable section
def laws_FnMerged.con : Con := { ps := [(.val, (.sl 5 (.int .u8)))], rs := [(.val, .bool)], F := fun x => laws_FnMerged.f x }
def laws_FnMerged.cs : List (FuncId × Con) := [(29, laws_big.con), (35, spec_DrawMergePapers.con), (36, impl_MergePapers.con), (37, spec_MergePapers.con), (38, impl_MissingLines.con), (39, spec_MissingLines.con), (40, laws_likePaper.con), (41, laws_likeLines.con), (42, impl_IsPaper.con)]
def laws_FnMerged.E : Env := envOf tab laws_FnMerged.cs 0 false
def laws_FnMerged.keep (i : Nat) : List Nat := []
end
end Go.Ev.Try
