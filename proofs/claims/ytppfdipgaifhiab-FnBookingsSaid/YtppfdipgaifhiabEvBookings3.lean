/- Part 3 of what the law FnBookings stands on: an evaluator of the model's code, proved sound; the functions as plain texts; their contracts. -/
import Derived.Test.YtppfdipgaifhiabChecked
import Derived.Test.YtppfdipgaifhiabProg
import Derived.Test.YtppfdipgaifhiabRows
import Derived.Below
import Derived.Calls
import Derived.Carry
import Derived.ChangeArms
import Derived.ChangeKeysEq
import Derived.ChangeOld
import Derived.Deep.Quiet
import Derived.KernelRfl
import Derived.Laws.Append
import Derived.Laws.BytesString
import Derived.Laws.MakeOwn
import Derived.Laws.Strings
import Derived.Laws.StructEq
import Derived.OpenShut
import Derived.OrdersHeld
import Derived.ProofKit
import Derived.ShutString
import Derived.SizedLaws
import Derived.Tactics
import Derived.WalkKit
import Derived.WideShapes
import Derived.Test.YtppfdipgaifhiabEvBookings2
namespace Go.Ev.Try
open Go.Proofs Go.Pl
set_option linter.unusedVariables false
noncomputable section
def laws_FnBookings.con : Con := { ps := [(.val, (.sl 5 (.int .u8)))], rs := [(.val, .bool)], F := fun x => laws_FnBookings.f x }
def laws_FnBookings.cs : List (FuncId × Con) := [(26, spec_BookPieces.con), (28, impl_BookPieces.con), (32, spec_TotalsOf.con), (33, impl_TotalsOf.con), (37, laws_big.con), (65, spec_DrawBookPieces.con), (66, spec_DrawTotalsOf.con), (67, impl_PiecesLeft.con), (68, spec_PiecesLeft.con), (69, impl_MostIn.con), (70, spec_MostIn.con), (71, laws_likeBookings.con), (72, laws_likeInts.con), (73, impl_AreBookings.con)]
def laws_FnBookings.E : Env := envOf tab laws_FnBookings.cs 0 false
def laws_FnBookings.keep (i : Nat) : List Nat := []
end
end Go.Ev.Try
