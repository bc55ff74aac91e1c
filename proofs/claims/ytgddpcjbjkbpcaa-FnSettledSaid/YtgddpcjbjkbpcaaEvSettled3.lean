/- Part 3 of what the law FnSettled stands on: an evaluator of the model's code, proved sound; the functions as plain texts; their contracts. -/
import Derived.Test.YtgddpcjbjkbpcaaChecked
import Derived.Test.YtgddpcjbjkbpcaaProg
import Derived.Test.YtgddpcjbjkbpcaaRows
import Derived.Below
import Derived.Calls
import Derived.Carry
import Derived.ChangeArms
import Derived.ChangeKeysEq
import Derived.ChangeOld
import Derived.Deep.Quiet
import Derived.KernelRfl
import Derived.Laws.Append
import Derived.Laws.BytesString
import Derived.Laws.MakeOwn
import Derived.Laws.Strings
import Derived.Laws.StructEq
import Derived.OpenShut
import Derived.OrdersHeld
import Derived.ProofKit
import Derived.ShutString
import Derived.SizedLaws
import Derived.Tactics
import Derived.WalkKit
import Derived.WideShapes
import Derived.Test.YtgddpcjbjkbpcaaEvSettled2
namespace Go.Ev.Try
open Go.Proofs Go.Pl
set_option linter.unusedVariables false
noncomputable section
def laws_FnSettled.st16 (bad6 : Int) (three15 : Int) (i18 : Int) (list3 : List (Int × ByteArray × Int)) (s5 : List (Int × ByteArray × Int)) (x9 : List (Int × ByteArray × Int)) (o14 : List ByteArray) (open16 : List ByteArray) : St := ⟨[.gone, .gone, .gone, .ref 0, .gone, .ref 1, .dat (.int .i64) bad6, .gone, .gone, .ref 2, .gone, .gone, .gone, .gone, .ref 3, .dat (.int .i64) three15, .ref 4, .gone, .dat (.int .i64) i18, .gone, .gone, .gone, .gone, .gone, .gone, .gone, .gone, .gone, .gone, .gone, .gone, .gone, .gone, .gone, .gone, .gone, .gone, .gone, .gone, .gone, .gone, .gone, .gone, .gone, .gone, .gone, .gone, .gone, .gone, .gone, .gone, .gone, .gone, .gone, .gone, .gone, .gone, .gone, .gone, .gone, .gone, .gone, .gone, .gone, .gone, .gone, .gone, .gone, .gone, .gone, .gone, .gone, .gone, .gone, .gone, .gone, .gone, .gone, .gone, .gone, .gone, .gone, .gone, .gone, .gone, .gone, .gone, .gone, .gone, .gone, .gone, .gone, .gone, .gone, .gone, .gone, .gone, .gone, .gone, .gone, .gone, .gone, .gone, .gone, .gone, .gone, .gone, .gone, .gone, .gone, .gone, .gone, .gone, .gone, .gone, .gone, .gone, .gone, .gone, .gone, .gone, .gone, .gone, .gone, .gone, .gone, .gone, .gone, .gone, .gone, .gone, .gone, .gone, .gone, .gone, .gone, .gone, .gone, .gone, .gone, .gone, .gone, .gone, .gone, .gone, .gone, .gone, .gone, .gone, .gone, .gone, .gone, .gone, .gone, .gone, .gone, .gone, .gone, .gone, .gone, .gone, .gone, .gone, .gone, .gone, .gone, .gone, .gone, .gone, .gone, .gone, .gone, .gone, .gone, .gone, .gone, .gone, .gone, .gone, .gone, .gone, .gone], [.row 90 (.pair (.int .i64) (.pair .str (.int .i64))) list3 none, .row 90 (.pair (.int .i64) (.pair .str (.int .i64))) s5 none, .row 90 (.pair (.int .i64) (.pair .str (.int .i64))) x9 none, .row 9 .str o14 none, .row 9 .str open16 none]⟩
def laws_FnSettled.con : Con := { ps := [(.val, (.sl 5 (.int .u8)))], rs := [(.val, .bool)], F := fun x => laws_FnSettled.f x }
def laws_FnSettled.cs : List (FuncId × Con) := [(15, spec_IsSettled.con), (17, impl_IsSettled.con), (19, spec_OpenArticles.con), (20, impl_OpenArticles.con), (25, spec_SettleAll.con), (26, impl_SettleAll.con), (29, laws_big.con), (30, spec_DrawSettleAll.con), (31, spec_DrawIsSettled.con), (32, laws_likeBookings.con), (33, laws_likeTexts.con), (34, impl_PiecesLeft.con)]
def laws_FnSettled.E : Env := envOf tab laws_FnSettled.cs 0 false
def laws_FnSettled.keep (i : Nat) : List Nat := if i = 16 then [3, 5, 6, 9, 14, 15, 16, 18] else []
def laws_FnSettled.at16 (n : Nat) (x : List Int) : Code × (Ex → St → Option (Bool)) := ctx laws_FnSettled.E laws_FnSettled.keep n [.snd, .snd, .snd, .snd, .snd, .snd, .snd, .snd, .snd, .snd, .snd, .snd, .fst, .snd, .blk] (codeOf Try.f6) (kEnd laws_FnSettled.E Try.f6 laws_FnSettled.con x)
def laws_FnSettled.LN16 (n : Nat) (x : List Int) : Nat → St → Option (Bool) := loopN (exec laws_FnSettled.E laws_FnSettled.keep n (bodyOf (laws_FnSettled.at16 n x).1)) (St.norm 0 (laws_FnSettled.keep 16)) (laws_FnSettled.at16 n x).2
end
end Go.Ev.Try
