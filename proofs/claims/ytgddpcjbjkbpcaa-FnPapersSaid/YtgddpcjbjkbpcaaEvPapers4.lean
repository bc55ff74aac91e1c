/- Part 4 of what the law FnPapers stands on: an evaluator of the model's code, proved sound; the functions as plain texts; their contracts. -/
import Derived.Test.YtgddpcjbjkbpcaaChecked
import Derived.Test.YtgddpcjbjkbpcaaProg
import Derived.Test.YtgddpcjbjkbpcaaRows
import Derived.Below
import Derived.Calls
import Derived.Carry
import Derived.ChangeArms
import Derived.ChangeKeysEq
import Derived.ChangeOld
import Derived.Deep.Quiet
import Derived.KernelRfl
import Derived.Laws.Append
import Derived.Laws.BytesString
import Derived.Laws.MakeOwn
import Derived.Laws.Strings
import Derived.Laws.StructEq
import Derived.OpenShut
import Derived.OrdersHeld
import Derived.ProofKit
import Derived.ShutString
import Derived.SizedLaws
import Derived.Tactics
import Derived.WalkKit
import Derived.WideShapes
import Derived.Test.YtgddpcjbjkbpcaaEvPapers3
namespace Go.Ev.Try
open Go.Proofs Go.Pl
set_option linter.unusedVariables false
noncomputable section
def laws_FnPapers.st31 (name4 : ByteArray) (count5 : Int) (found28 : Bool) (i29 : Int) (a6a : ByteArray) (a6ba : Int) (w1 : List (ByteArray × Int)) : St := ⟨[.gone, .gone, .gone, .gone, .dat .str name4, .dat (.int .i64) count5, .ptr 0 [], .gone, .gone, .gone, .gone, .gone, .gone, .gone, .gone, .gone, .gone, .gone, .gone, .gone, .gone, .gone, .gone, .gone, .gone, .gone, .gone, .gone, .dat .bool found28, .dat (.int .i64) i29, .gone, .gone, .gone, .gone, .gone, .gone, .gone, .gone, .gone, .gone, .gone, .gone, .gone, .gone, .gone, .gone, .gone, .gone, .gone, .gone, .gone, .gone, .gone, .gone, .gone, .gone, .gone, .gone, .gone, .gone, .gone, .gone, .gone, .gone, .gone, .gone, .gone, .gone, .gone, .gone, .gone, .gone, .gone, .gone, .gone, .gone, .gone, .gone, .gone, .gone, .gone, .gone, .gone, .gone, .gone, .gone, .gone, .gone, .gone, .gone, .gone, .gone, .gone, .gone, .gone, .gone, .gone, .gone, .gone, .gone, .gone, .gone, .gone, .gone, .gone, .gone, .gone, .gone, .gone, .gone, .gone, .gone, .gone, .gone, .gone, .gone, .gone, .gone, .gone, .gone, .gone, .gone, .gone, .gone, .gone, .gone, .gone, .gone, .gone, .gone, .gone, .gone, .gone, .gone, .gone, .gone, .gone, .gone, .gone, .gone, .gone, .gone, .gone, .gone, .gone, .gone, .gone, .gone, .gone, .gone, .gone, .gone, .gone, .gone, .gone, .gone, .gone, .gone, .gone, .gone, .gone, .gone, .gone, .gone, .gone, .gone, .gone, .gone, .gone, .gone, .gone, .gone, .gone, .gone, .gone, .gone, .gone, .gone, .gone, .gone, .gone, .gone, .gone, .gone, .gone, .gone, .gone, .gone, .gone, .gone, .gone, .gone, .gone, .gone, .gone, .gone, .gone, .gone, .gone, .gone, .gone, .gone, .gone, .gone, .gone, .gone, .gone, .gone, .gone, .gone, .gone, .gone, .gone, .gone, .gone, .gone, .gone, .gone, .gone, .gone, .gone, .gone, .gone, .gone, .gone, .gone, .gone, .gone, .gone, .gone, .gone, .gone, .gone, .gone, .gone, .gone, .gone, .gone, .gone, .gone, .gone, .gone, .gone, .gone, .gone, .gone, .gone], [.box 47 (.pair .str (.pair (.int .i64) (.sl 82 (.pair .str (.int .i64))))) (.pr (.dat .str a6a) (.pr (.dat (.int .i64) a6ba) (.ref 1))), .row 82 (.pair .str (.int .i64)) w1 none]⟩
def laws_FnPapers.st18 (name4 : ByteArray) (count5 : Int) (bad7 : Int) (one11 : Int) (n16 : Int) (three17 : Int) (total24 : Int) (i25 : Int) (p3a : ByteArray) (p3ba : Int) (a6a : ByteArray) (a6ba : Int) (c10a : ByteArray) (c10ba : Int) (q15a : ByteArray) (q15ba : Int) (b20 : List (Int × Int)) (w5 : List (ByteArray × Int)) (w6 : List (ByteArray × Int)) (w7 : List (ByteArray × Int)) (w8 : List (ByteArray × Int)) : St := ⟨[.gone, .gone, .gone, .ptr 0 [], .dat .str name4, .dat (.int .i64) count5, .ptr 1 [], .dat (.int .i64) bad7, .gone, .gone, .ptr 2 [], .dat (.int .i64) one11, .gone, .gone, .gone, .ptr 3 [], .dat (.int .i64) n16, .dat (.int .i64) three17, .gone, .gone, .ref 4, .gone, .gone, .gone, .dat (.int .i64) total24, .dat (.int .i64) i25, .gone, .gone, .gone, .gone, .gone, .gone, .gone, .gone, .gone, .gone, .gone, .gone, .gone, .gone, .gone, .gone, .gone, .gone, .gone, .gone, .gone, .gone, .gone, .gone, .gone, .gone, .gone, .gone, .gone, .gone, .gone, .gone, .gone, .gone, .gone, .gone, .gone, .gone, .gone, .gone, .gone, .gone, .gone, .gone, .gone, .gone, .gone, .gone, .gone, .gone, .gone, .gone, .gone, .gone, .gone, .gone, .gone, .gone, .gone, .gone, .gone, .gone, .gone, .gone, .gone, .gone, .gone, .gone, .gone, .gone, .gone, .gone, .gone, .gone, .gone, .gone, .gone, .gone, .gone, .gone, .gone, .gone, .gone, .gone, .gone, .gone, .gone, .gone, .gone, .gone, .gone, .gone, .gone, .gone, .gone, .gone, .gone, .gone, .gone, .gone, .gone, .gone, .gone, .gone, .gone, .gone, .gone, .gone, .gone, .gone, .gone, .gone, .gone, .gone, .gone, .gone, .gone, .gone, .gone, .gone, .gone, .gone, .gone, .gone, .gone, .gone, .gone, .gone, .gone, .gone, .gone, .gone, .gone, .gone, .gone, .gone, .gone, .gone, .gone, .gone, .gone, .gone, .gone, .gone, .gone, .gone, .gone, .gone, .gone, .gone, .gone, .gone, .gone, .gone, .gone, .gone, .gone, .gone, .gone, .gone, .gone, .gone, .gone, .gone, .gone, .gone, .gone, .gone, .gone, .gone, .gone, .gone, .gone, .gone, .gone, .gone, .gone, .gone, .gone, .gone, .gone, .gone, .gone, .gone, .gone, .gone, .gone, .gone, .gone, .gone, .gone, .gone, .gone, .gone, .gone, .gone, .gone, .gone, .gone, .gone, .gone, .gone, .gone, .gone, .gone, .gone, .gone, .gone, .gone, .gone, .gone, .gone, .gone, .gone, .gone, .gone, .gone, .gone, .gone, .gone, .gone], [.box 47 (.pair .str (.pair (.int .i64) (.sl 82 (.pair .str (.int .i64))))) (.pr (.dat .str p3a) (.pr (.dat (.int .i64) p3ba) (.ref 5))), .box 47 (.pair .str (.pair (.int .i64) (.sl 82 (.pair .str (.int .i64))))) (.pr (.dat .str a6a) (.pr (.dat (.int .i64) a6ba) (.ref 6))), .box 47 (.pair .str (.pair (.int .i64) (.sl 82 (.pair .str (.int .i64))))) (.pr (.dat .str c10a) (.pr (.dat (.int .i64) c10ba) (.ref 7))), .box 47 (.pair .str (.pair (.int .i64) (.sl 82 (.pair .str (.int .i64))))) (.pr (.dat .str q15a) (.pr (.dat (.int .i64) q15ba) (.ref 8))), .row 79 (.pair (.int .i64) (.int .i64)) b20 none, .row 82 (.pair .str (.int .i64)) w5 none, .row 82 (.pair .str (.int .i64)) w6 none, .row 82 (.pair .str (.int .i64)) w7 none, .row 82 (.pair .str (.int .i64)) w8 none]⟩
def laws_FnPapers.con : Con := { ps := [(.val, (.sl 5 (.int .u8)))], rs := [(.val, .bool)], F := fun x => laws_FnPapers.f x }
def laws_FnPapers.cs : List (FuncId × Con) := [(29, laws_big.con), (40, laws_likePaper.con), (42, impl_IsPaper.con), (44, spec_CutLine.con), (46, impl_CutLine.con), (51, spec_PutLine.con), (52, impl_PutLine.con), (53, spec_DrawPutLine.con), (54, spec_DrawNetOfPaper.con), (55, impl_NetOfPaper.con), (56, spec_NetOfPaper.con), (57, impl_BoxesOf.con), (58, spec_BoxesOf.con), (59, laws_likeBoxes.con), (60, impl_AreBoxes.con)]
def laws_FnPapers.E : Env := envOf tab laws_FnPapers.cs 0 false
def laws_FnPapers.keep (i : Nat) : List Nat := if i = 31 then [4, 5, 6, 28, 29] else if i = 18 then [3, 4, 5, 6, 7, 10, 11, 15, 16, 17, 20, 24, 25] else []
def laws_FnPapers.at31 (n : Nat) (x : List Int) : Code × (Ex → St → Option (Bool)) := ctx laws_FnPapers.E laws_FnPapers.keep n [.snd, .snd, .snd, .snd, .snd, .snd, .snd, .snd, .snd, .snd, .snd, .snd, .snd, .snd, .snd, .snd, .snd, .fst, .snd, .blk] (codeOf Try.f11) (kEnd laws_FnPapers.E Try.f11 laws_FnPapers.con x)
def laws_FnPapers.LN31 (n : Nat) (x : List Int) : Nat → St → Option (Bool) := loopN (exec laws_FnPapers.E laws_FnPapers.keep n (bodyOf (laws_FnPapers.at31 n x).1)) (St.norm 0 (laws_FnPapers.keep 31)) (laws_FnPapers.at31 n x).2
def laws_FnPapers.at18 (n : Nat) (x : List Int) : Code × (Ex → St → Option (Bool)) := ctx laws_FnPapers.E laws_FnPapers.keep n [.snd, .snd, .snd, .snd, .snd, .snd, .snd, .snd, .snd, .snd, .snd, .snd, .snd, .fst, .snd, .yes, .snd, .fst, .snd, .blk] (codeOf Try.f11) (kEnd laws_FnPapers.E Try.f11 laws_FnPapers.con x)
def laws_FnPapers.LN18 (n : Nat) (x : List Int) : Nat → St → Option (Bool) := loopN (exec laws_FnPapers.E laws_FnPapers.keep n (bodyOf (laws_FnPapers.at18 n x).1)) (St.norm 0 (laws_FnPapers.keep 18)) (laws_FnPapers.at18 n x).2
end
end Go.Ev.Try
