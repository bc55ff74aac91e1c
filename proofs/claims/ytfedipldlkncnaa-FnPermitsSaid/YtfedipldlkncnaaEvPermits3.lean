/- Part 3 of what the law FnPermits stands on: an evaluator of the model's code, proved sound; the functions as plain texts; their contracts. -/
import Derived.Test.YtfedipldlkncnaaChecked
import Derived.Test.YtfedipldlkncnaaProg
import Derived.Test.YtfedipldlkncnaaRows
import Derived.Below
import Derived.Calls
import Derived.Carry
import Derived.ChangeArms
import Derived.ChangeKeysEq
import Derived.ChangeOld
import Derived.Deep.Quiet
import Derived.KernelRfl
import Derived.Laws.Append
import Derived.Laws.BytesString
import Derived.Laws.MakeOwn
import Derived.Laws.Strings
import Derived.Laws.StructEq
import Derived.OpenShut
import Derived.OrdersHeld
import Derived.ProofKit
import Derived.ShutString
import Derived.SizedLaws
import Derived.Tactics
import Derived.WalkKit
import Derived.WideShapes
import Derived.Test.YtfedipldlkncnaaEvPermits2
namespace Go.Ev.Try
open Go.Proofs Go.Pl
set_option linter.unusedVariables false
noncomputable section
def laws_FnPermits.con : Con := { ps := [(.val, (.sl 5 (.int .u8)))], rs := [(.val, .bool)], F := fun x => laws_FnPermits.f x }
def laws_FnPermits.cs : List (FuncId × Con) := [(16, laws_big.con), (30, spec_RefusalsOf.con), (34, impl_RefusalsOf.con), (38, spec_PermitFor.con), (39, impl_PermitFor.con), (44, spec_FirstPermit.con), (45, impl_FirstPermit.con), (46, spec_NextDay.con), (47, impl_NextDay.con), (48, spec_DrawPermitFor.con), (49, spec_DrawRefusalsOf.con), (50, spec_DrawNextDay.con), (51, laws_likePermit.con), (52, impl_IsPermit.con), (53, spec_IsPermit.con), (54, impl_NetOfOrder.con)]
def laws_FnPermits.E : Env := envOf tab laws_FnPermits.cs 0 false
def laws_FnPermits.keep (i : Nat) : List Nat := []
end
end Go.Ev.Try
