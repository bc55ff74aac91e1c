/- Part 3 of what the law FnJournals stands on: an evaluator of the model's code, proved sound; the functions as plain texts; their contracts. -/
import Derived.Test.YtoghdlpojjplcaaChecked
import Derived.Test.YtoghdlpojjplcaaProg
import Derived.Test.YtoghdlpojjplcaaRows
import Derived.Below
import Derived.Calls
import Derived.Carry
import Derived.ChangeArms
import Derived.ChangeKeysEq
import Derived.ChangeOld
import Derived.Deep.Quiet
import Derived.KernelRfl
import Derived.Laws.Append
import Derived.Laws.BytesString
import Derived.Laws.MakeOwn
import Derived.Laws.Strings
import Derived.Laws.StructEq
import Derived.OpenShut
import Derived.OrdersHeld
import Derived.ProofKit
import Derived.ShutString
import Derived.SizedLaws
import Derived.Tactics
import Derived.WalkKit
import Derived.WideShapes
import Derived.Test.YtoghdlpojjplcaaEvJournals2
namespace Go.Ev.Try
open Go.Proofs Go.Pl
set_option linter.unusedVariables false
noncomputable section
def laws_FnJournals.st27 (s4 : ByteArray) (at23 : Int) (left25 : Int) (lines26 : Int) (i27 : Int) (some24 : List (Int × ByteArray)) : St := ⟨[.gone, .gone, .gone, .gone, .dat .str s4, .gone, .gone, .gone, .gone, .gone, .gone, .gone, .gone, .gone, .gone, .gone, .gone, .gone, .gone, .gone, .gone, .gone, .gone, .dat (.int .i64) at23, .ref 0, .dat (.int .i64) left25, .dat (.int .i64) lines26, .dat (.int .i64) i27, .gone, .gone, .gone, .gone, .gone, .gone, .gone, .gone, .gone, .gone, .gone, .gone, .gone, .gone, .gone, .gone, .gone, .gone, .gone, .gone, .gone, .gone, .gone, .gone, .gone, .gone, .gone, .gone, .gone, .gone, .gone, .gone, .gone, .gone, .gone, .gone, .gone, .gone, .gone, .gone, .gone, .gone, .gone, .gone, .gone, .gone, .gone, .gone, .gone, .gone, .gone, .gone, .gone, .gone, .gone, .gone, .gone, .gone, .gone, .gone, .gone, .gone, .gone, .gone, .gone, .gone, .gone, .gone, .gone, .gone, .gone, .gone, .gone, .gone, .gone, .gone, .gone, .gone, .gone, .gone, .gone, .gone, .gone, .gone, .gone, .gone, .gone, .gone, .gone, .gone, .gone, .gone, .gone, .gone, .gone, .gone, .gone, .gone, .gone, .gone, .gone, .gone, .gone, .gone, .gone, .gone, .gone, .gone, .gone, .gone, .gone, .gone, .gone, .gone, .gone, .gone, .gone, .gone, .gone, .gone, .gone, .gone, .gone, .gone, .gone, .gone, .gone, .gone, .gone, .gone, .gone, .gone, .gone, .gone, .gone, .gone, .gone, .gone, .gone, .gone, .gone, .gone, .gone, .gone, .gone, .gone, .gone, .gone, .gone, .gone, .gone, .gone, .gone, .gone, .gone, .gone, .gone, .gone, .gone, .gone, .gone, .gone, .gone, .gone, .gone, .gone, .gone, .gone, .gone, .gone, .gone], [.row 120 (.pair (.int .u8) .str) some24 none]⟩
def laws_FnJournals.con : Con := { ps := [(.val, (.sl 5 (.int .u8)))], rs := [(.val, .bool)], F := fun x => laws_FnJournals.f x }
def laws_FnJournals.cs : List (FuncId × Con) := [(15, laws_big.con), (73, spec_DrawWriteJournal.con), (74, impl_WriteJournal.con), (75, spec_WriteJournal.con), (76, spec_DrawReadJournal.con), (77, impl_ReadJournal.con), (78, spec_ReadJournal.con), (79, spec_DrawCutJournal.con), (80, impl_CutJournal.con), (81, spec_CutJournal.con), (82, laws_likeEntries.con), (83, impl_AreEntries.con), (84, impl_IsWhole.con), (85, laws_roll.con), (86, laws_dice_below.con)]
def laws_FnJournals.E : Env := envOf tab laws_FnJournals.cs 0 false
def laws_FnJournals.keep (i : Nat) : List Nat := if i = 27 then [4, 23, 24, 25, 26, 27] else []
def laws_FnJournals.at27 (n : Nat) (x : List Int) : Code × (Ex → St → Option (Bool)) := ctx laws_FnJournals.E laws_FnJournals.keep n [.snd, .snd, .snd, .snd, .snd, .snd, .snd, .snd, .snd, .snd, .snd, .snd, .snd, .snd, .snd, .snd, .snd, .snd, .snd, .fst, .snd, .blk] (codeOf Try.f11) (kEnd laws_FnJournals.E Try.f11 laws_FnJournals.con x)
def laws_FnJournals.LN27 (n : Nat) (x : List Int) : Nat → St → Option (Bool) := loopN (exec laws_FnJournals.E laws_FnJournals.keep n (bodyOf (laws_FnJournals.at27 n x).1)) (St.norm 0 (laws_FnJournals.keep 27)) (laws_FnJournals.at27 n x).2
set_option maxRecDepth 100000 in
theorem laws_FnJournals.lem27 (n : Nat) (x : List Int) : ∀ (k : Nat) (s4 : ByteArray) (at23 : Int) (left25 : Int) (lines26 : Int) (i27 : Int) (some24 : List (Int × ByteArray)), laws_FnJournals.LN27 n x k (laws_FnJournals.st27 s4 at23 left25 lines26 i27 some24) = laws_FnJournals.l27 n k s4 at23 left25 lines26 i27 some24 := by
  intro k
  induction k with
  | zero => intro s4 at23 left25 lines26 i27 some24; rfl
  | succ k ih =>
    intro s4 at23 left25 lines26 i27 some24
    have h : laws_FnJournals.LN27 n x (k + 1) (laws_FnJournals.st27 s4 at23 left25 lines26 i27 some24) = laws_FnJournals.g27 (fun s4 at23 left25 lines26 i27 some24 => laws_FnJournals.LN27 n x k (laws_FnJournals.st27 s4 at23 left25 lines26 i27 some24)) s4 at23 left25 lines26 i27 some24 := by kernel_rfl
    rw [h]
    simp only [ih]
    rfl
set_option maxRecDepth 100000 in
theorem laws_FnJournals.body (n : Nat) (x : List Int) : bodyF laws_FnJournals.E laws_FnJournals.keep n Try.f11 laws_FnJournals.con x = laws_FnJournals.fn n x := by
  have h : bodyF laws_FnJournals.E laws_FnJournals.keep n Try.f11 laws_FnJournals.con x = laws_FnJournals.top (fun s4 at23 left25 lines26 i27 some24 => laws_FnJournals.LN27 n x n (laws_FnJournals.st27 s4 at23 left25 lines26 i27 some24)) x := by kernel_rfl
  rw [h]
  simp only [laws_FnJournals.lem27]
  rfl
set_option maxRecDepth 100000 in
theorem laws_FnJournals.good : Good Try.prog 11 laws_FnJournals.con :=
  good_of tabok (cs := laws_FnJournals.cs) ⟨laws_big.good, spec_DrawWriteJournal.good, impl_WriteJournal.good, spec_WriteJournal.good, spec_DrawReadJournal.good, impl_ReadJournal.good, spec_ReadJournal.good, spec_DrawCutJournal.good, impl_CutJournal.good, spec_CutJournal.good, laws_likeEntries.good, impl_AreEntries.good, impl_IsWhole.good, laws_roll.good, laws_dice_below.good, trivial⟩ 0 false (fn := Try.f11) Try.func11 rfl (by decide) (by simp [laws_FnJournals.con]) laws_FnJournals.keep NN (fun _ => rfl) (fun x => laws_FnJournals.body NN x)
end
end Go.Ev.Try
