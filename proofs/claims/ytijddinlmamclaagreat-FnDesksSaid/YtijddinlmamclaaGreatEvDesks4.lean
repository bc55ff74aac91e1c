/- Part 4 of what the law FnDesks stands on: an evaluator of the model's code, proved sound; the functions as plain texts; their contracts. -/
import Derived.Test.YtijddinlmamclaaGreatChecked
import Derived.Test.YtijddinlmamclaaGreatProg
import Derived.Test.YtijddinlmamclaaGreatRows
import Derived.Below
import Derived.Calls
import Derived.Carry
import Derived.ChangeArms
import Derived.ChangeKeysEq
import Derived.ChangeOld
import Derived.Deep.Quiet
import Derived.KernelRfl
import Derived.Laws.Append
import Derived.Laws.BytesString
import Derived.Laws.MakeOwn
import Derived.Laws.Strings
import Derived.Laws.StructEq
import Derived.OpenShut
import Derived.OrdersHeld
import Derived.ProofKit
import Derived.ShutString
import Derived.SizedLaws
import Derived.Tactics
import Derived.WalkKit
import Derived.WideShapes
import Derived.Test.YtijddinlmamclaaGreatEvDesks3
namespace Go.Ev.Tryz
open Go.Proofs Go.Pl
set_option linter.unusedVariables false
noncomputable section
def Qbh.con : Con := { ps := [(.val, (.sl 5 (.int .u8)))], rs := [(.val, .bool)], F := fun x => Qbh.f x }
def Qbh.cs : List (FuncId × Con) := [(12, Qbo.con), (18, QaC.con), (19, QaK.con), (23, Qat.con), (24, QaE.con), (25, QK.con), (26, Qw.con), (27, Qr.con), (28, Qbg.con), (29, Qbi.con)]
def Qbh.E : Env := envOf tab Qbh.cs 0 false
def Qbh.keep (i : Nat) : List Nat := []
end
end Go.Ev.Tryz
