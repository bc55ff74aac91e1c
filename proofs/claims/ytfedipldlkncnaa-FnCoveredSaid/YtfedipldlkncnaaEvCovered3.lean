/- Part 3 of what the law FnCovered stands on: an evaluator of the model's code, proved sound; the functions as plain texts; their contracts. -/
import Derived.Test.YtfedipldlkncnaaChecked
import Derived.Test.YtfedipldlkncnaaProg
import Derived.Test.YtfedipldlkncnaaRows
import Derived.Below
import Derived.Calls
import Derived.Carry
import Derived.ChangeArms
import Derived.ChangeKeysEq
import Derived.ChangeOld
import Derived.Deep.Quiet
import Derived.KernelRfl
import Derived.Laws.Append
import Derived.Laws.BytesString
import Derived.Laws.MakeOwn
import Derived.Laws.Strings
import Derived.Laws.StructEq
import Derived.OpenShut
import Derived.OrdersHeld
import Derived.ProofKit
import Derived.ShutString
import Derived.SizedLaws
import Derived.Tactics
import Derived.WalkKit
import Derived.WideShapes
import Derived.Test.YtfedipldlkncnaaEvCovered2
namespace Go.Ev.Try
open Go.Proofs Go.Pl
set_option linter.unusedVariables false
noncomputable section
def laws_FnCovered.st26 (from4 : Int) (to5 : Int) (n10 : Int) (some19 : List (Int × Int × Int × Int × List Int × Int)) (i23 : Int) : St := ⟨[.gone, .gone, .gone, .gone, .dat (.int .i64) from4, .dat (.int .i64) to5, .gone, .gone, .gone, .gone, .dat (.int .i64) n10, .gone, .gone, .gone, .gone, .gone, .gone, .gone, .gone, .dat (.sl 42 (.pair (.int .i64) (.pair (.int .i64) (.pair (.int .i64) (.pair (.int .i64) (.pair (.sl 2 (.int .i64)) (.int .i64))))))) some19, .gone, .gone, .gone, .dat (.int .i64) i23, .gone, .gone, .gone, .gone, .gone, .gone, .gone, .gone, .gone, .gone, .gone, .gone, .gone, .gone, .gone, .gone, .gone, .gone, .gone, .gone, .gone, .gone, .gone, .gone, .gone, .gone, .gone, .gone, .gone, .gone, .gone, .gone, .gone, .gone, .gone, .gone, .gone, .gone, .gone, .gone, .gone, .gone, .gone, .gone, .gone, .gone, .gone, .gone, .gone, .gone, .gone, .gone, .gone, .gone, .gone, .gone, .gone, .gone, .gone, .gone, .gone, .gone, .gone, .gone, .gone, .gone, .gone, .gone, .gone, .gone, .gone, .gone, .gone, .gone, .gone, .gone, .gone, .gone, .gone, .gone, .gone, .gone, .gone, .gone, .gone, .gone, .gone, .gone, .gone, .gone, .gone, .gone, .gone, .gone, .gone, .gone, .gone, .gone, .gone, .gone, .gone, .gone, .gone, .gone, .gone, .gone, .gone, .gone, .gone, .gone, .gone, .gone, .gone, .gone, .gone, .gone, .gone, .gone, .gone, .gone, .gone, .gone, .gone, .gone, .gone, .gone, .gone, .gone, .gone, .gone, .gone, .gone, .gone, .gone, .gone, .gone, .gone, .gone, .gone, .gone, .gone, .gone, .gone, .gone, .gone, .gone, .gone, .gone, .gone, .gone, .gone, .gone, .gone, .gone, .gone, .gone], []⟩
def laws_FnCovered.st19 (permits3 : List (Int × Int × Int × Int × List Int × Int)) (from4 : Int) (to5 : Int) (f6 : List Int) (n10 : Int) (i20 : Int) (some19 : List (Int × Int × Int × Int × List Int × Int)) : St := ⟨[.gone, .gone, .gone, .dat (.sl 42 (.pair (.int .i64) (.pair (.int .i64) (.pair (.int .i64) (.pair (.int .i64) (.pair (.sl 2 (.int .i64)) (.int .i64))))))) permits3, .dat (.int .i64) from4, .dat (.int .i64) to5, .dat (.sl 2 (.int .i64)) f6, .gone, .gone, .gone, .dat (.int .i64) n10, .gone, .gone, .gone, .gone, .gone, .gone, .gone, .gone, .ref 0, .dat (.int .i64) i20, .gone, .gone, .gone, .gone, .gone, .gone, .gone, .gone, .gone, .gone, .gone, .gone, .gone, .gone, .gone, .gone, .gone, .gone, .gone, .gone, .gone, .gone, .gone, .gone, .gone, .gone, .gone, .gone, .gone, .gone, .gone, .gone, .gone, .gone, .gone, .gone, .gone, .gone, .gone, .gone, .gone, .gone, .gone, .gone, .gone, .gone, .gone, .gone, .gone, .gone, .gone, .gone, .gone, .gone, .gone, .gone, .gone, .gone, .gone, .gone, .gone, .gone, .gone, .gone, .gone, .gone, .gone, .gone, .gone, .gone, .gone, .gone, .gone, .gone, .gone, .gone, .gone, .gone, .gone, .gone, .gone, .gone, .gone, .gone, .gone, .gone, .gone, .gone, .gone, .gone, .gone, .gone, .gone, .gone, .gone, .gone, .gone, .gone, .gone, .gone, .gone, .gone, .gone, .gone, .gone, .gone, .gone, .gone, .gone, .gone, .gone, .gone, .gone, .gone, .gone, .gone, .gone, .gone, .gone, .gone, .gone, .gone, .gone, .gone, .gone, .gone, .gone, .gone, .gone, .gone, .gone, .gone, .gone, .gone, .gone, .gone, .gone, .gone, .gone, .gone, .gone, .gone, .gone, .gone, .gone, .gone, .gone, .gone, .gone, .gone, .gone, .gone, .gone, .gone, .gone, .gone, .gone, .gone, .gone], [.row 42 (.pair (.int .i64) (.pair (.int .i64) (.pair (.int .i64) (.pair (.int .i64) (.pair (.sl 2 (.int .i64)) (.int .i64)))))) some19 none]⟩
def laws_FnCovered.con : Con := { ps := [(.val, (.sl 5 (.int .u8)))], rs := [(.val, .bool)], F := fun x => laws_FnCovered.f x }
def laws_FnCovered.cs : List (FuncId × Con) := [(12, spec_DaysCovered.con), (14, impl_DaysCovered.con), (16, laws_big.con), (17, spec_DrawFewestPermits.con), (18, impl_FewestPermits.con), (19, spec_FewestPermits.con), (20, spec_DrawRefusalsText.con), (21, impl_RefusalsText.con), (22, spec_RefusalsText.con), (23, laws_likeInts.con)]
def laws_FnCovered.E : Env := envOf tab laws_FnCovered.cs 0 false
def laws_FnCovered.keep (i : Nat) : List Nat := if i = 26 then [4, 5, 10, 19, 23, 100019] else if i = 19 then [3, 4, 5, 6, 10, 19, 20] else []
def laws_FnCovered.at26 (n : Nat) (x : List Int) : Code × (Ex → St → Option (Bool)) := ctx laws_FnCovered.E laws_FnCovered.keep n [.snd, .snd, .snd, .snd, .snd, .snd, .snd, .snd, .snd, .snd, .snd, .snd, .snd, .snd, .snd, .snd, .snd, .fst, .snd, .blk] (codeOf Try.f4) (kEnd laws_FnCovered.E Try.f4 laws_FnCovered.con x)
def laws_FnCovered.LN26 (n : Nat) (x : List Int) : Nat → St → Option (Bool) := loopN (exec laws_FnCovered.E laws_FnCovered.keep n (bodyOf (laws_FnCovered.at26 n x).1)) (St.norm 0 (laws_FnCovered.keep 26)) (laws_FnCovered.at26 n x).2
def laws_FnCovered.at19 (n : Nat) (x : List Int) : Code × (Ex → St → Option (Bool)) := ctx laws_FnCovered.E laws_FnCovered.keep n [.snd, .snd, .snd, .snd, .snd, .snd, .snd, .snd, .snd, .snd, .snd, .snd, .snd, .snd, .fst, .snd, .blk] (codeOf Try.f4) (kEnd laws_FnCovered.E Try.f4 laws_FnCovered.con x)
def laws_FnCovered.LN19 (n : Nat) (x : List Int) : Nat → St → Option (Bool) := loopN (exec laws_FnCovered.E laws_FnCovered.keep n (bodyOf (laws_FnCovered.at19 n x).1)) (St.norm 0 (laws_FnCovered.keep 19)) (laws_FnCovered.at19 n x).2
end
end Go.Ev.Try
