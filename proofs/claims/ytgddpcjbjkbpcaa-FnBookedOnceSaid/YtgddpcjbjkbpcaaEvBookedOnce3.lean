/- Part 3 of what the law FnBookedOnce stands on: an evaluator of the model's code, proved sound; the functions as plain texts; their contracts. -/
import Derived.Test.YtgddpcjbjkbpcaaChecked
import Derived.Test.YtgddpcjbjkbpcaaProg
import Derived.Test.YtgddpcjbjkbpcaaRows
import Derived.Below
import Derived.Calls
import Derived.Carry
import Derived.ChangeArms
import Derived.ChangeKeysEq
import Derived.ChangeOld
import Derived.Deep.Quiet
import Derived.KernelRfl
import Derived.Laws.Append
import Derived.Laws.BytesString
import Derived.Laws.MakeOwn
import Derived.Laws.Strings
import Derived.Laws.StructEq
import Derived.OpenShut
import Derived.OrdersHeld
import Derived.ProofKit
import Derived.ShutString
import Derived.SizedLaws
import Derived.Tactics
import Derived.WalkKit
import Derived.WideShapes
import Derived.Test.YtgddpcjbjkbpcaaEvBookedOnce2
namespace Go.Ev.Try
open Go.Proofs Go.Pl
set_option linter.unusedVariables false
noncomputable section
def laws_FnBookedOnce.st13 (fired2 : List Int) (b7 : List (Int × ByteArray × Int)) (total11 : Int) (i12 : Int) : St := ⟨[.gone, .gone, .dat (.sl 2 (.int .i64)) fired2, .gone, .gone, .gone, .gone, .dat (.sl 90 (.pair (.int .i64) (.pair .str (.int .i64)))) b7, .gone, .gone, .gone, .dat (.int .i64) total11, .dat (.int .i64) i12, .gone, .gone, .gone, .gone, .gone, .gone, .gone, .gone, .gone, .gone, .gone, .gone, .gone, .gone, .gone, .gone, .gone, .gone, .gone, .gone, .gone, .gone, .gone, .gone, .gone, .gone, .gone, .gone, .gone, .gone, .gone, .gone, .gone, .gone, .gone, .gone, .gone, .gone, .gone, .gone, .gone, .gone, .gone, .gone, .gone, .gone, .gone, .gone, .gone, .gone, .gone, .gone, .gone, .gone, .gone, .gone, .gone, .gone, .gone, .gone, .gone, .gone, .gone, .gone, .gone, .gone, .gone, .gone, .gone, .gone, .gone, .gone], []⟩
def laws_FnBookedOnce.con : Con := { ps := [(.val, (.sl 90 (.pair (.int .i64) (.pair .str (.int .i64))))), (.val, (.pair (.sl 177 (.pair (.int .i64) (.int .i64))) (.pair (.sl 142 (.pair .str (.pair (.int .i64) (.pair (.int .i64) (.pair (.int .i64) (.pair (.int .i64) (.pair (.int .i64) (.pair (.int .i64) (.pair (.int .i64) (.int .i64)))))))))) (.sl 147 (.pair (.int .i64) (.pair (.int .i64) (.pair .str (.int .i64)))))))), (.val, (.sl 2 (.int .i64)))], rs := [(.val, .bool)], F := fun x => laws_FnBookedOnce.f x.1 x.2.1 x.2.2 }
def laws_FnBookedOnce.cs : List (FuncId × Con) := [(32, laws_likeBookings.con), (61, impl_BookShow.con), (62, spec_BookShow.con)]
def laws_FnBookedOnce.E : Env := envOf tab laws_FnBookedOnce.cs 0 false
def laws_FnBookedOnce.keep (i : Nat) : List Nat := if i = 13 then [2, 7, 11, 12] else []
def laws_FnBookedOnce.at13 (n : Nat) (x : (List (Int × ByteArray × Int)) × ((List (Int × Int)) × (List (ByteArray × Int × Int × Int × Int × Int × Int × Int × Int)) × List (Int × Int × ByteArray × Int)) × List Int) : Code × (Ex → St → Option (Bool)) := ctx laws_FnBookedOnce.E laws_FnBookedOnce.keep n [.snd, .snd, .snd, .snd, .snd, .snd, .snd, .snd, .fst, .snd, .blk] (codeOf Try.f12) (kEnd laws_FnBookedOnce.E Try.f12 laws_FnBookedOnce.con x)
def laws_FnBookedOnce.LN13 (n : Nat) (x : (List (Int × ByteArray × Int)) × ((List (Int × Int)) × (List (ByteArray × Int × Int × Int × Int × Int × Int × Int × Int)) × List (Int × Int × ByteArray × Int)) × List Int) : Nat → St → Option (Bool) := loopN (exec laws_FnBookedOnce.E laws_FnBookedOnce.keep n (bodyOf (laws_FnBookedOnce.at13 n x).1)) (St.norm 0 (laws_FnBookedOnce.keep 13)) (laws_FnBookedOnce.at13 n x).2
end
end Go.Ev.Try
