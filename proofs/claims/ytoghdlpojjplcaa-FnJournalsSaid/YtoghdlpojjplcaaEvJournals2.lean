/- Part 2 of what the law FnJournals stands on: an evaluator of the model's code, proved sound; the functions as plain texts; their contracts. -/
import Derived.Test.YtoghdlpojjplcaaChecked
import Derived.Test.YtoghdlpojjplcaaProg
import Derived.Test.YtoghdlpojjplcaaRows
import Derived.Below
import Derived.Calls
import Derived.Carry
import Derived.ChangeArms
import Derived.ChangeKeysEq
import Derived.ChangeOld
import Derived.Deep.Quiet
import Derived.KernelRfl
import Derived.Laws.Append
import Derived.Laws.BytesString
import Derived.Laws.MakeOwn
import Derived.Laws.Strings
import Derived.Laws.StructEq
import Derived.OpenShut
import Derived.OrdersHeld
import Derived.ProofKit
import Derived.ShutString
import Derived.SizedLaws
import Derived.Tactics
import Derived.WalkKit
import Derived.WideShapes
import Derived.Test.YtoghdlpojjplcaaEvJournals1
namespace Go.Ev.Try
open Go.Proofs Go.Pl
set_option linter.unusedVariables false
noncomputable section
def impl_WriteJournal.con : Con := { ps := [(.val, (.sl 120 (.pair (.int .u8) .str)))], rs := [(.val, .str), (.val, (.int .i64))], F := fun x => impl_WriteJournal.f x }
def impl_WriteJournal.cs : List (FuncId × Con) := [(182, impl_areEntries.con), (183, impl_journalOf.con)]
def impl_WriteJournal.E : Env := envOf tab impl_WriteJournal.cs 0 false
def impl_WriteJournal.keep (i : Nat) : List Nat := []
set_option maxRecDepth 100000 in
theorem impl_WriteJournal.body (n : Nat) (x : List (Int × ByteArray)) : bodyF impl_WriteJournal.E impl_WriteJournal.keep n Try.f74 impl_WriteJournal.con x = impl_WriteJournal.fn n x := by
  have h : bodyF impl_WriteJournal.E impl_WriteJournal.keep n Try.f74 impl_WriteJournal.con x = impl_WriteJournal.top x := by kernel_rfl
  exact h
set_option maxRecDepth 100000 in
theorem impl_WriteJournal.good : Good Try.prog 74 impl_WriteJournal.con :=
  good_of tabok (cs := impl_WriteJournal.cs) ⟨impl_areEntries.good, impl_journalOf.good, trivial⟩ 0 false (fn := Try.f74) Try.func74 rfl (by decide) (by simp [impl_WriteJournal.con]) impl_WriteJournal.keep NN (fun _ => rfl) (fun x => impl_WriteJournal.body NN x)
end
end Go.Ev.Try

namespace Go.Ev.Try
open Go.Proofs Go.Pl
set_option linter.unusedVariables false
noncomputable section
def spec_l33Is.st2 (i3 : Int) (e1 : Int × ByteArray) : St := ⟨[.gone, .ptr 0 [], .gone, .dat (.int .i64) i3, .gone, .gone, .gone, .gone, .gone, .gone, .gone, .gone, .gone, .gone, .gone, .gone, .gone, .gone, .gone, .gone, .gone, .gone, .gone, .gone, .gone, .gone, .gone, .gone, .gone, .gone, .gone, .gone, .gone, .gone, .gone, .gone, .gone], [.box 120 (.pair (.int .u8) .str) (.dat (.pair (.int .u8) .str) e1)]⟩
def spec_l33Is.con : Con := { ps := [(.val, (.pair (.int .u8) .str))], rs := [(.val, .bool)], F := fun x => spec_l33Is.f x }
def spec_l33Is.cs : List (FuncId × Con) := []
def spec_l33Is.E : Env := envOf tab spec_l33Is.cs 0 false
def spec_l33Is.keep (i : Nat) : List Nat := if i = 2 then [1, 3] else []
def spec_l33Is.at2 (n : Nat) (x : Int × ByteArray) : Code × (Ex → St → Option (Bool)) := ctx spec_l33Is.E spec_l33Is.keep n [.snd, .fst, .snd, .blk] (codeOf Try.f254) (kEnd spec_l33Is.E Try.f254 spec_l33Is.con x)
def spec_l33Is.LN2 (n : Nat) (x : Int × ByteArray) : Nat → St → Option (Bool) := loopN (exec spec_l33Is.E spec_l33Is.keep n (bodyOf (spec_l33Is.at2 n x).1)) (St.norm 0 (spec_l33Is.keep 2)) (spec_l33Is.at2 n x).2
set_option maxRecDepth 100000 in
theorem spec_l33Is.lem2 (n : Nat) (x : Int × ByteArray) : ∀ (k : Nat) (i3 : Int) (e1 : Int × ByteArray), spec_l33Is.LN2 n x k (spec_l33Is.st2 i3 e1) = spec_l33Is.l2 n k i3 e1 := by
  intro k
  induction k with
  | zero => intro i3 e1; rfl
  | succ k ih =>
    intro i3 e1
    have h : spec_l33Is.LN2 n x (k + 1) (spec_l33Is.st2 i3 e1) = spec_l33Is.g2 (fun i3 e1 => spec_l33Is.LN2 n x k (spec_l33Is.st2 i3 e1)) i3 e1 := by kernel_rfl
    rw [h]
    simp only [ih]
    rfl
set_option maxRecDepth 100000 in
theorem spec_l33Is.body (n : Nat) (x : Int × ByteArray) : bodyF spec_l33Is.E spec_l33Is.keep n Try.f254 spec_l33Is.con x = spec_l33Is.fn n x := by
  have h : bodyF spec_l33Is.E spec_l33Is.keep n Try.f254 spec_l33Is.con x = spec_l33Is.top (fun i3 e1 => spec_l33Is.LN2 n x n (spec_l33Is.st2 i3 e1)) x := by kernel_rfl
  rw [h]
  simp only [spec_l33Is.lem2]
  rfl
set_option maxRecDepth 100000 in
theorem spec_l33Is.good : Good Try.prog 254 spec_l33Is.con :=
  good_of tabok (cs := spec_l33Is.cs) trivial 0 false (fn := Try.f254) Try.func254 rfl (by decide) (by simp [spec_l33Is.con]) spec_l33Is.keep NN (fun _ => rfl) (fun x => spec_l33Is.body NN x)
end
end Go.Ev.Try

namespace Go.Ev.Try
open Go.Proofs Go.Pl
set_option linter.unusedVariables false
noncomputable section
def spec_l33All.st2 (list0 : List (Int × ByteArray)) (i3 : Int) : St := ⟨[.dat (.sl 120 (.pair (.int .u8) .str)) list0, .gone, .gone, .dat (.int .i64) i3, .gone, .gone, .gone, .gone, .gone, .gone, .gone, .gone, .gone, .gone, .gone, .gone], []⟩
def spec_l33All.con : Con := { ps := [(.val, (.sl 120 (.pair (.int .u8) .str)))], rs := [(.val, .bool)], F := fun x => spec_l33All.f x }
def spec_l33All.cs : List (FuncId × Con) := [(254, spec_l33Is.con)]
def spec_l33All.E : Env := envOf tab spec_l33All.cs 0 false
def spec_l33All.keep (i : Nat) : List Nat := if i = 2 then [0, 3] else []
def spec_l33All.at2 (n : Nat) (x : List (Int × ByteArray)) : Code × (Ex → St → Option (Bool)) := ctx spec_l33All.E spec_l33All.keep n [.snd, .fst, .snd, .blk] (codeOf Try.f236) (kEnd spec_l33All.E Try.f236 spec_l33All.con x)
def spec_l33All.LN2 (n : Nat) (x : List (Int × ByteArray)) : Nat → St → Option (Bool) := loopN (exec spec_l33All.E spec_l33All.keep n (bodyOf (spec_l33All.at2 n x).1)) (St.norm 0 (spec_l33All.keep 2)) (spec_l33All.at2 n x).2
set_option maxRecDepth 100000 in
theorem spec_l33All.lem2 (n : Nat) (x : List (Int × ByteArray)) : ∀ (k : Nat) (list0 : List (Int × ByteArray)) (i3 : Int), spec_l33All.LN2 n x k (spec_l33All.st2 list0 i3) = spec_l33All.l2 n k list0 i3 := by
  intro k
  induction k with
  | zero => intro list0 i3; rfl
  | succ k ih =>
    intro list0 i3
    have h : spec_l33All.LN2 n x (k + 1) (spec_l33All.st2 list0 i3) = spec_l33All.g2 (fun list0 i3 => spec_l33All.LN2 n x k (spec_l33All.st2 list0 i3)) list0 i3 := by kernel_rfl
    rw [h]
    simp only [ih]
    rfl
set_option maxRecDepth 100000 in
theorem spec_l33All.body (n : Nat) (x : List (Int × ByteArray)) : bodyF spec_l33All.E spec_l33All.keep n Try.f236 spec_l33All.con x = spec_l33All.fn n x := by
  have h : bodyF spec_l33All.E spec_l33All.keep n Try.f236 spec_l33All.con x = spec_l33All.top (fun list0 i3 => spec_l33All.LN2 n x n (spec_l33All.st2 list0 i3)) x := by kernel_rfl
  rw [h]
  simp only [spec_l33All.lem2]
  rfl
set_option maxRecDepth 100000 in
theorem spec_l33All.good : Good Try.prog 236 spec_l33All.con :=
  good_of tabok (cs := spec_l33All.cs) ⟨spec_l33Is.good, trivial⟩ 0 false (fn := Try.f236) Try.func236 rfl (by decide) (by simp [spec_l33All.con]) spec_l33All.keep NN (fun _ => rfl) (fun x => spec_l33All.body NN x)
end
end Go.Ev.Try

namespace Go.Ev.Try
open Go.Proofs Go.Pl
set_option linter.unusedVariables false
noncomputable section
def spec_l33Code.con : Con := { ps := [(.val, (.sl 120 (.pair (.int .u8) .str)))], rs := [(.val, (.int .i64))], F := fun x => spec_l33Code.f x }
def spec_l33Code.cs : List (FuncId × Con) := [(236, spec_l33All.con)]
def spec_l33Code.E : Env := envOf tab spec_l33Code.cs 0 false
def spec_l33Code.keep (i : Nat) : List Nat := []
set_option maxRecDepth 100000 in
theorem spec_l33Code.body (n : Nat) (x : List (Int × ByteArray)) : bodyF spec_l33Code.E spec_l33Code.keep n Try.f184 spec_l33Code.con x = spec_l33Code.fn n x := by
  have h : bodyF spec_l33Code.E spec_l33Code.keep n Try.f184 spec_l33Code.con x = spec_l33Code.top x := by kernel_rfl
  exact h
set_option maxRecDepth 100000 in
theorem spec_l33Code.good : Good Try.prog 184 spec_l33Code.con :=
  good_of tabok (cs := spec_l33Code.cs) ⟨spec_l33All.good, trivial⟩ 0 false (fn := Try.f184) Try.func184 rfl (by decide) (by simp [spec_l33Code.con]) spec_l33Code.keep NN (fun _ => rfl) (fun x => spec_l33Code.body NN x)
end
end Go.Ev.Try

namespace Go.Ev.Try
open Go.Proofs Go.Pl
set_option linter.unusedVariables false
noncomputable section
def spec_l33Check.st3 (check0 : Int) (i5 : Int) (e3 : Int × ByteArray) : St := ⟨[.dat (.int .i64) check0, .gone, .gone, .ptr 0 [], .gone, .dat (.int .i64) i5, .gone, .gone, .gone, .gone, .gone, .gone, .gone, .gone, .gone, .gone, .gone, .gone, .gone, .gone, .gone, .gone, .gone, .gone, .gone, .gone, .gone, .gone, .gone, .gone], [.box 120 (.pair (.int .u8) .str) (.dat (.pair (.int .u8) .str) e3)]⟩
def spec_l33Check.con : Con := { ps := [(.val, (.int .i64)), (.val, (.pair (.int .u8) .str))], rs := [(.val, (.int .i64))], F := fun x => spec_l33Check.f x.1 x.2 }
def spec_l33Check.cs : List (FuncId × Con) := []
def spec_l33Check.E : Env := envOf tab spec_l33Check.cs 0 false
def spec_l33Check.keep (i : Nat) : List Nat := if i = 3 then [0, 3, 5] else []
def spec_l33Check.at3 (n : Nat) (x : Int × Int × ByteArray) : Code × (Ex → St → Option (Int)) := ctx spec_l33Check.E spec_l33Check.keep n [.snd, .snd, .fst, .snd, .blk] (codeOf Try.f237) (kEnd spec_l33Check.E Try.f237 spec_l33Check.con x)
def spec_l33Check.LN3 (n : Nat) (x : Int × Int × ByteArray) : Nat → St → Option (Int) := loopN (exec spec_l33Check.E spec_l33Check.keep n (bodyOf (spec_l33Check.at3 n x).1)) (St.norm 0 (spec_l33Check.keep 3)) (spec_l33Check.at3 n x).2
set_option maxRecDepth 100000 in
theorem spec_l33Check.lem3 (n : Nat) (x : Int × Int × ByteArray) : ∀ (k : Nat) (check0 : Int) (i5 : Int) (e3 : Int × ByteArray), spec_l33Check.LN3 n x k (spec_l33Check.st3 check0 i5 e3) = spec_l33Check.l3 n k check0 i5 e3 := by
  intro k
  induction k with
  | zero => intro check0 i5 e3; rfl
  | succ k ih =>
    intro check0 i5 e3
    have h : spec_l33Check.LN3 n x (k + 1) (spec_l33Check.st3 check0 i5 e3) = spec_l33Check.g3 (fun check0 i5 e3 => spec_l33Check.LN3 n x k (spec_l33Check.st3 check0 i5 e3)) check0 i5 e3 := by kernel_rfl
    rw [h]
    simp only [ih]
    rfl
set_option maxRecDepth 100000 in
theorem spec_l33Check.body (n : Nat) (x : Int × Int × ByteArray) : bodyF spec_l33Check.E spec_l33Check.keep n Try.f237 spec_l33Check.con x = spec_l33Check.fn n x.1 x.2 := by
  have h : bodyF spec_l33Check.E spec_l33Check.keep n Try.f237 spec_l33Check.con x = spec_l33Check.top (fun check0 i5 e3 => spec_l33Check.LN3 n x n (spec_l33Check.st3 check0 i5 e3)) x.1 x.2 := by kernel_rfl
  rw [h]
  simp only [spec_l33Check.lem3]
  rfl
set_option maxRecDepth 100000 in
theorem spec_l33Check.good : Good Try.prog 237 spec_l33Check.con :=
  good_of tabok (cs := spec_l33Check.cs) trivial 0 false (fn := Try.f237) Try.func237 rfl (by decide) (by simp [spec_l33Check.con]) spec_l33Check.keep NN (fun _ => rfl) (fun x => spec_l33Check.body NN x)
end
end Go.Ev.Try

namespace Go.Ev.Try
open Go.Proofs Go.Pl
set_option linter.unusedVariables false
noncomputable section
def spec_l01Dec.topraw (S : Int → Option ByteArray) (n0 : Int) : Option ByteArray :=
  if (decide ((n0 : Int) < 10)) = true then
    some (bytesOf ([IntKind.u8.wrap (IntKind.i64.wrap (48 + n0))]))
  else
    agree (
      (S (IntKind.i64.wrap (Int.tdiv n0 10))).bind fun r1 =>
      if r1.size + (bytesOf ([IntKind.u8.wrap (IntKind.i64.wrap (48 + (Int.tmod n0 10)))])).size ≤ 9223372036854775807 then
        some (r1 ++ (bytesOf ([IntKind.u8.wrap (IntKind.i64.wrap (48 + (Int.tmod n0 10)))])))
      else
        none
    ) (
      (S (IntKind.i64.wrap (Int.tdiv n0 10))).bind fun r1 =>
      if r1.size + (bytesOf ([IntKind.u8.wrap (IntKind.i64.wrap (48 + (Int.tmod n0 10)))])).size ≤ 9223372036854775807 then
        some (r1 ++ (bytesOf ([IntKind.u8.wrap (IntKind.i64.wrap (48 + (Int.tmod n0 10)))])))
      else
        none
    )
theorem spec_l01Dec.topraw_eq (S : Int → Option ByteArray) (n0 : Int) : (spec_l01Dec.topraw S) n0 = (spec_l01Dec.top S) n0 := by
  unfold spec_l01Dec.topraw spec_l01Dec.top
  simp only [agree_self]
def spec_l01Dec.con (S : Int → Option ByteArray) : Con := { ps := [(.val, (.int .i64))], rs := [(.val, .str)], F := fun x => S x }
def spec_l01Dec.cs (S : Int → Option ByteArray) : List (FuncId × Con) := [(231, (spec_l01Dec.con S))]
def spec_l01Dec.E (S : Int → Option ByteArray) : Env := envOf tab (spec_l01Dec.cs S) 0 false
def spec_l01Dec.keep (i : Nat) : List Nat := []
set_option maxRecDepth 100000 in
theorem spec_l01Dec.body (S : Int → Option ByteArray) (n : Nat) (x : Int) : bodyF (spec_l01Dec.E S) spec_l01Dec.keep n Try.f231 (spec_l01Dec.con S) x = (spec_l01Dec.fn S) n x := by
  have h : bodyF (spec_l01Dec.E S) spec_l01Dec.keep n Try.f231 (spec_l01Dec.con S) x = (spec_l01Dec.topraw S) x := by kernel_rfl
  rw [(spec_l01Dec.topraw_eq S)] at h
  exact h
set_option maxRecDepth 100000 in
theorem spec_l01Dec.goodk : ∀ k : Nat, Good Try.prog 231 (spec_l01Dec.con (spec_l01Dec.rc k)) := by
  intro k
  induction k with
  | zero => exact good_none (fn := Try.f231) Try.func231 rfl (by decide) (by simp [spec_l01Dec.con]) (fun _ => rfl)
  | succ k ih => exact good_of tabok (cs := spec_l01Dec.cs (spec_l01Dec.rc k)) ⟨ih, trivial⟩ 0 false (fn := Try.f231) Try.func231 rfl (by decide) (by simp [spec_l01Dec.con]) spec_l01Dec.keep NN (fun _ => rfl) (fun x => spec_l01Dec.body (spec_l01Dec.rc k) NN x)
theorem spec_l01Dec.good : Good Try.prog 231 (spec_l01Dec.con (fun n0 => spec_l01Dec.f n0)) := spec_l01Dec.goodk NN
end
end Go.Ev.Try

namespace Go.Ev.Try
open Go.Proofs Go.Pl
set_option linter.unusedVariables false
noncomputable section
def spec_l33Line.topraw (e0 : Int × ByteArray) (check1 : Int) : Option ByteArray :=
  agree (
    if (bytesOf ([e0.1])).size + (⟨#[32]⟩ : ByteArray).size ≤ 9223372036854775807 then
      if ((bytesOf ([e0.1])) ++ (⟨#[32]⟩ : ByteArray)).size + e0.2.size ≤ 9223372036854775807 then
        if (((bytesOf ([e0.1])) ++ (⟨#[32]⟩ : ByteArray)) ++ e0.2).size + (⟨#[32]⟩ : ByteArray).size ≤ 9223372036854775807 then
          (spec_l01Dec.f check1).bind fun r1 =>
          if ((((bytesOf ([e0.1])) ++ (⟨#[32]⟩ : ByteArray)) ++ e0.2) ++ (⟨#[32]⟩ : ByteArray)).size + r1.size ≤ 9223372036854775807 then
            if (((((bytesOf ([e0.1])) ++ (⟨#[32]⟩ : ByteArray)) ++ e0.2) ++ (⟨#[32]⟩ : ByteArray)) ++ r1).size + (⟨#[10]⟩ : ByteArray).size ≤ 9223372036854775807 then
              some ((((((bytesOf ([e0.1])) ++ (⟨#[32]⟩ : ByteArray)) ++ e0.2) ++ (⟨#[32]⟩ : ByteArray)) ++ r1) ++ (⟨#[10]⟩ : ByteArray))
            else
              none
          else
            none
        else
          none
      else
        none
    else
      none
  ) (
    (spec_l01Dec.f check1).bind fun r1 =>
    if (bytesOf ([e0.1])).size + (⟨#[32]⟩ : ByteArray).size ≤ 9223372036854775807 then
      if ((bytesOf ([e0.1])) ++ (⟨#[32]⟩ : ByteArray)).size + e0.2.size ≤ 9223372036854775807 then
        if (((bytesOf ([e0.1])) ++ (⟨#[32]⟩ : ByteArray)) ++ e0.2).size + (⟨#[32]⟩ : ByteArray).size ≤ 9223372036854775807 then
          if ((((bytesOf ([e0.1])) ++ (⟨#[32]⟩ : ByteArray)) ++ e0.2) ++ (⟨#[32]⟩ : ByteArray)).size + r1.size ≤ 9223372036854775807 then
            if (((((bytesOf ([e0.1])) ++ (⟨#[32]⟩ : ByteArray)) ++ e0.2) ++ (⟨#[32]⟩ : ByteArray)) ++ r1).size + (⟨#[10]⟩ : ByteArray).size ≤ 9223372036854775807 then
              some ((((((bytesOf ([e0.1])) ++ (⟨#[32]⟩ : ByteArray)) ++ e0.2) ++ (⟨#[32]⟩ : ByteArray)) ++ r1) ++ (⟨#[10]⟩ : ByteArray))
            else
              none
          else
            none
        else
          none
      else
        none
    else
      none
  )
theorem spec_l33Line.topraw_eq (e0 : Int × ByteArray) (check1 : Int) : spec_l33Line.topraw e0 check1 = spec_l33Line.top e0 check1 := by
  unfold spec_l33Line.topraw spec_l33Line.top
  simp only [agree_self]
def spec_l33Line.con : Con := { ps := [(.val, (.pair (.int .u8) .str)), (.val, (.int .i64))], rs := [(.val, .str)], F := fun x => spec_l33Line.f x.1 x.2 }
def spec_l33Line.cs : List (FuncId × Con) := [(231, (spec_l01Dec.con (fun a0 => spec_l01Dec.f a0)))]
def spec_l33Line.E : Env := envOf tab spec_l33Line.cs 0 false
def spec_l33Line.keep (i : Nat) : List Nat := []
set_option maxRecDepth 100000 in
theorem spec_l33Line.body (n : Nat) (x : (Int × ByteArray) × Int) : bodyF spec_l33Line.E spec_l33Line.keep n Try.f238 spec_l33Line.con x = spec_l33Line.fn n x.1 x.2 := by
  have h : bodyF spec_l33Line.E spec_l33Line.keep n Try.f238 spec_l33Line.con x = spec_l33Line.topraw x.1 x.2 := by kernel_rfl
  rw [spec_l33Line.topraw_eq] at h
  exact h
set_option maxRecDepth 100000 in
theorem spec_l33Line.good : Good Try.prog 238 spec_l33Line.con :=
  good_of tabok (cs := spec_l33Line.cs) ⟨spec_l01Dec.good, trivial⟩ 0 false (fn := Try.f238) Try.func238 rfl (by decide) (by simp [spec_l33Line.con]) spec_l33Line.keep NN (fun _ => rfl) (fun x => spec_l33Line.body NN x)
end
end Go.Ev.Try

namespace Go.Ev.Try
open Go.Proofs Go.Pl
set_option linter.unusedVariables false
noncomputable section
def spec_l33Write.st3 (list0 : List (Int × ByteArray)) (out3 : ByteArray) (check4 : Int) (i5 : Int) : St := ⟨[.dat (.sl 120 (.pair (.int .u8) .str)) list0, .gone, .gone, .dat .str out3, .dat (.int .i64) check4, .dat (.int .i64) i5, .gone, .gone, .gone, .gone, .gone, .gone, .gone, .gone, .gone, .gone, .gone, .gone, .gone, .gone, .gone, .gone, .gone, .gone, .gone, .gone, .gone], []⟩
def spec_l33Write.con : Con := { ps := [(.val, (.sl 120 (.pair (.int .u8) .str)))], rs := [(.val, .str)], F := fun x => spec_l33Write.f x }
def spec_l33Write.cs : List (FuncId × Con) := [(237, spec_l33Check.con), (238, spec_l33Line.con)]
def spec_l33Write.E : Env := envOf tab spec_l33Write.cs 0 false
def spec_l33Write.keep (i : Nat) : List Nat := if i = 3 then [0, 3, 4, 5] else []
def spec_l33Write.at3 (n : Nat) (x : List (Int × ByteArray)) : Code × (Ex → St → Option (ByteArray)) := ctx spec_l33Write.E spec_l33Write.keep n [.snd, .snd, .fst, .snd, .blk] (codeOf Try.f185) (kEnd spec_l33Write.E Try.f185 spec_l33Write.con x)
def spec_l33Write.LN3 (n : Nat) (x : List (Int × ByteArray)) : Nat → St → Option (ByteArray) := loopN (exec spec_l33Write.E spec_l33Write.keep n (bodyOf (spec_l33Write.at3 n x).1)) (St.norm 0 (spec_l33Write.keep 3)) (spec_l33Write.at3 n x).2
set_option maxRecDepth 100000 in
theorem spec_l33Write.lem3 (n : Nat) (x : List (Int × ByteArray)) : ∀ (k : Nat) (list0 : List (Int × ByteArray)) (out3 : ByteArray) (check4 : Int) (i5 : Int), spec_l33Write.LN3 n x k (spec_l33Write.st3 list0 out3 check4 i5) = spec_l33Write.l3 n k list0 out3 check4 i5 := by
  intro k
  induction k with
  | zero => intro list0 out3 check4 i5; rfl
  | succ k ih =>
    intro list0 out3 check4 i5
    have h : spec_l33Write.LN3 n x (k + 1) (spec_l33Write.st3 list0 out3 check4 i5) = spec_l33Write.g3 (fun list0 out3 check4 i5 => spec_l33Write.LN3 n x k (spec_l33Write.st3 list0 out3 check4 i5)) list0 out3 check4 i5 := by kernel_rfl
    rw [h]
    simp only [ih]
    rfl
set_option maxRecDepth 100000 in
theorem spec_l33Write.body (n : Nat) (x : List (Int × ByteArray)) : bodyF spec_l33Write.E spec_l33Write.keep n Try.f185 spec_l33Write.con x = spec_l33Write.fn n x := by
  have h : bodyF spec_l33Write.E spec_l33Write.keep n Try.f185 spec_l33Write.con x = spec_l33Write.top (fun list0 out3 check4 i5 => spec_l33Write.LN3 n x n (spec_l33Write.st3 list0 out3 check4 i5)) x := by kernel_rfl
  rw [h]
  simp only [spec_l33Write.lem3]
  rfl
set_option maxRecDepth 100000 in
theorem spec_l33Write.good : Good Try.prog 185 spec_l33Write.con :=
  good_of tabok (cs := spec_l33Write.cs) ⟨spec_l33Check.good, spec_l33Line.good, trivial⟩ 0 false (fn := Try.f185) Try.func185 rfl (by decide) (by simp [spec_l33Write.con]) spec_l33Write.keep NN (fun _ => rfl) (fun x => spec_l33Write.body NN x)
end
end Go.Ev.Try

namespace Go.Ev.Try
open Go.Proofs Go.Pl
set_option linter.unusedVariables false
noncomputable section
def spec_WriteJournal.con : Con := { ps := [(.val, (.sl 120 (.pair (.int .u8) .str)))], rs := [(.val, .str), (.val, (.int .i64))], F := fun x => spec_WriteJournal.f x }
def spec_WriteJournal.cs : List (FuncId × Con) := [(184, spec_l33Code.con), (185, spec_l33Write.con)]
def spec_WriteJournal.E : Env := envOf tab spec_WriteJournal.cs 0 false
def spec_WriteJournal.keep (i : Nat) : List Nat := []
set_option maxRecDepth 100000 in
theorem spec_WriteJournal.body (n : Nat) (x : List (Int × ByteArray)) : bodyF spec_WriteJournal.E spec_WriteJournal.keep n Try.f75 spec_WriteJournal.con x = spec_WriteJournal.fn n x := by
  have h : bodyF spec_WriteJournal.E spec_WriteJournal.keep n Try.f75 spec_WriteJournal.con x = spec_WriteJournal.top x := by kernel_rfl
  exact h
set_option maxRecDepth 100000 in
theorem spec_WriteJournal.good : Good Try.prog 75 spec_WriteJournal.con :=
  good_of tabok (cs := spec_WriteJournal.cs) ⟨spec_l33Code.good, spec_l33Write.good, trivial⟩ 0 false (fn := Try.f75) Try.func75 rfl (by decide) (by simp [spec_WriteJournal.con]) spec_WriteJournal.keep NN (fun _ => rfl) (fun x => spec_WriteJournal.body NN x)
end
end Go.Ev.Try

namespace Go.Ev.Try
open Go.Proofs Go.Pl
set_option linter.unusedVariables false
noncomputable section
def spec_l01Damage.topraw (s0 : List Int × Int × Int) (t1 : ByteArray) : Option (ByteArray × List Int × Int × Int) :=
  (spec_l01Next.f s0 (IntKind.i64.wrap ((t1.size : Int) + 1))).bind fun r1 =>
  (spec_l01Next.f r1.2 8).bind fun r2 =>
  if ((r2.1 : Int) == 0) = true then
    if (0 : Int) ≤ r1.1 ∧ (r1.1 : Int) ≤ t1.size then
      some (t1.extract 0 (r1.1 : Int).toNat, r2.2)
    else
      none
  else if ((r2.1 : Int) == 1) = true then
    if (0 : Int) ≤ r1.1 ∧ (r1.1 : Int) ≤ t1.size then
      if (0 : Int) ≤ r1.1 ∧ (r1.1 : Int) ≤ t1.size then
        agree (
          (spec_l01Next.f r2.2 8).bind fun r3 =>
          if (0 : Int) ≤ r3.1 ∧ (r3.1 : Int) < ([(⟨#[48]⟩ : ByteArray), (⟨#[35]⟩ : ByteArray), (⟨#[46]⟩ : ByteArray), (⟨#[47]⟩ : ByteArray), (⟨#[32]⟩ : ByteArray), (⟨#[97]⟩ : ByteArray), (⟨#[45]⟩ : ByteArray), (⟨#[10]⟩ : ByteArray)]).length then
            if (t1.extract 0 (r1.1 : Int).toNat).size + (([(⟨#[48]⟩ : ByteArray), (⟨#[35]⟩ : ByteArray), (⟨#[46]⟩ : ByteArray), (⟨#[47]⟩ : ByteArray), (⟨#[32]⟩ : ByteArray), (⟨#[97]⟩ : ByteArray), (⟨#[45]⟩ : ByteArray), (⟨#[10]⟩ : ByteArray)]).getD (r3.1 : Int).toNat ByteArray.empty).size ≤ 9223372036854775807 then
              if ((t1.extract 0 (r1.1 : Int).toNat) ++ (([(⟨#[48]⟩ : ByteArray), (⟨#[35]⟩ : ByteArray), (⟨#[46]⟩ : ByteArray), (⟨#[47]⟩ : ByteArray), (⟨#[32]⟩ : ByteArray), (⟨#[97]⟩ : ByteArray), (⟨#[45]⟩ : ByteArray), (⟨#[10]⟩ : ByteArray)]).getD (r3.1 : Int).toNat ByteArray.empty)).size + (t1.extract (r1.1 : Int).toNat t1.size).size ≤ 9223372036854775807 then
                some (((t1.extract 0 (r1.1 : Int).toNat) ++ (([(⟨#[48]⟩ : ByteArray), (⟨#[35]⟩ : ByteArray), (⟨#[46]⟩ : ByteArray), (⟨#[47]⟩ : ByteArray), (⟨#[32]⟩ : ByteArray), (⟨#[97]⟩ : ByteArray), (⟨#[45]⟩ : ByteArray), (⟨#[10]⟩ : ByteArray)]).getD (r3.1 : Int).toNat ByteArray.empty)) ++ (t1.extract (r1.1 : Int).toNat t1.size), r3.2)
              else
                none
            else
              none
          else
            none
        ) (
          (spec_l01Next.f r2.2 8).bind fun r3 =>
          if (0 : Int) ≤ r3.1 ∧ (r3.1 : Int) < ([(⟨#[48]⟩ : ByteArray), (⟨#[35]⟩ : ByteArray), (⟨#[46]⟩ : ByteArray), (⟨#[47]⟩ : ByteArray), (⟨#[32]⟩ : ByteArray), (⟨#[97]⟩ : ByteArray), (⟨#[45]⟩ : ByteArray), (⟨#[10]⟩ : ByteArray)]).length then
            if (t1.extract 0 (r1.1 : Int).toNat).size + (([(⟨#[48]⟩ : ByteArray), (⟨#[35]⟩ : ByteArray), (⟨#[46]⟩ : ByteArray), (⟨#[47]⟩ : ByteArray), (⟨#[32]⟩ : ByteArray), (⟨#[97]⟩ : ByteArray), (⟨#[45]⟩ : ByteArray), (⟨#[10]⟩ : ByteArray)]).getD (r3.1 : Int).toNat ByteArray.empty).size ≤ 9223372036854775807 then
              if ((t1.extract 0 (r1.1 : Int).toNat) ++ (([(⟨#[48]⟩ : ByteArray), (⟨#[35]⟩ : ByteArray), (⟨#[46]⟩ : ByteArray), (⟨#[47]⟩ : ByteArray), (⟨#[32]⟩ : ByteArray), (⟨#[97]⟩ : ByteArray), (⟨#[45]⟩ : ByteArray), (⟨#[10]⟩ : ByteArray)]).getD (r3.1 : Int).toNat ByteArray.empty)).size + (t1.extract (r1.1 : Int).toNat t1.size).size ≤ 9223372036854775807 then
                some (((t1.extract 0 (r1.1 : Int).toNat) ++ (([(⟨#[48]⟩ : ByteArray), (⟨#[35]⟩ : ByteArray), (⟨#[46]⟩ : ByteArray), (⟨#[47]⟩ : ByteArray), (⟨#[32]⟩ : ByteArray), (⟨#[97]⟩ : ByteArray), (⟨#[45]⟩ : ByteArray), (⟨#[10]⟩ : ByteArray)]).getD (r3.1 : Int).toNat ByteArray.empty)) ++ (t1.extract (r1.1 : Int).toNat t1.size), r3.2)
              else
                none
            else
              none
          else
            none
        )
      else
        none
    else
      none
  else if ((r2.1 : Int) == 2) = true then
    if (decide ((r1.1 : Int) < (t1.size : Int))) = true then
      if (0 : Int) ≤ r1.1 ∧ (r1.1 : Int) ≤ t1.size then
        if (0 : Int) ≤ (IntKind.i64.wrap (r1.1 + 1)) ∧ ((IntKind.i64.wrap (r1.1 + 1)) : Int) ≤ t1.size then
          if (t1.extract 0 (r1.1 : Int).toNat).size + (t1.extract ((IntKind.i64.wrap (r1.1 + 1)) : Int).toNat t1.size).size ≤ 9223372036854775807 then
            some ((t1.extract 0 (r1.1 : Int).toNat) ++ (t1.extract ((IntKind.i64.wrap (r1.1 + 1)) : Int).toNat t1.size), r2.2)
          else
            none
        else
          none
      else
        none
    else
      some (t1, r2.2)
  else
    some (t1, r2.2)
theorem spec_l01Damage.topraw_eq (s0 : List Int × Int × Int) (t1 : ByteArray) : spec_l01Damage.topraw s0 t1 = spec_l01Damage.top s0 t1 := by
  unfold spec_l01Damage.topraw spec_l01Damage.top
  simp only [agree_self]
def spec_l01Damage.con : Con := { ps := [(.bx 219, (.pair (.sl 5 (.int .u8)) (.pair (.int .i64) (.int .i64)))), (.val, .str)], rs := [(.val, .str)], F := fun x => spec_l01Damage.f x.1 x.2 }
def spec_l01Damage.cs : List (FuncId × Con) := [(109, spec_l01Next.con)]
def spec_l01Damage.E : Env := envOf tab spec_l01Damage.cs 1 false
def spec_l01Damage.keep (i : Nat) : List Nat := []
set_option maxRecDepth 100000 in
theorem spec_l01Damage.body (n : Nat) (x : (List Int × Int × Int) × ByteArray) : bodyF spec_l01Damage.E spec_l01Damage.keep n Try.f170 spec_l01Damage.con x = spec_l01Damage.fn n x.1 x.2 := by
  have h : bodyF spec_l01Damage.E spec_l01Damage.keep n Try.f170 spec_l01Damage.con x = spec_l01Damage.topraw x.1 x.2 := by kernel_rfl
  rw [spec_l01Damage.topraw_eq] at h
  exact h
set_option maxRecDepth 100000 in
theorem spec_l01Damage.good : Good Try.prog 170 spec_l01Damage.con :=
  good_of tabok (cs := spec_l01Damage.cs) ⟨spec_l01Next.good, trivial⟩ 1 false (fn := Try.f170) Try.func170 rfl (by decide) (by simp [spec_l01Damage.con]) spec_l01Damage.keep NN (fun _ => rfl) (fun x => spec_l01Damage.body NN x)
end
end Go.Ev.Try

namespace Go.Ev.Try
open Go.Proofs Go.Pl
set_option linter.unusedVariables false
noncomputable section
def spec_l33Journal.con : Con := { ps := [(.bx 219, (.pair (.sl 5 (.int .u8)) (.pair (.int .i64) (.int .i64))))], rs := [(.val, .str)], F := fun x => spec_l33Journal.f x }
def spec_l33Journal.cs : List (FuncId × Con) := [(109, spec_l01Next.con), (170, spec_l01Damage.con), (181, spec_l33List.con), (184, spec_l33Code.con), (185, spec_l33Write.con)]
def spec_l33Journal.E : Env := envOf tab spec_l33Journal.cs 1 false
def spec_l33Journal.keep (i : Nat) : List Nat := []
set_option maxRecDepth 100000 in
theorem spec_l33Journal.body (n : Nat) (x : List Int × Int × Int) : bodyF spec_l33Journal.E spec_l33Journal.keep n Try.f186 spec_l33Journal.con x = spec_l33Journal.fn n x := by
  have h : bodyF spec_l33Journal.E spec_l33Journal.keep n Try.f186 spec_l33Journal.con x = spec_l33Journal.top x := by kernel_rfl
  exact h
set_option maxRecDepth 100000 in
theorem spec_l33Journal.good : Good Try.prog 186 spec_l33Journal.con :=
  good_of tabok (cs := spec_l33Journal.cs) ⟨spec_l01Next.good, spec_l01Damage.good, spec_l33List.good, spec_l33Code.good, spec_l33Write.good, trivial⟩ 1 false (fn := Try.f186) Try.func186 rfl (by decide) (by simp [spec_l33Journal.con]) spec_l33Journal.keep NN (fun _ => rfl) (fun x => spec_l33Journal.body NN x)
end
end Go.Ev.Try

namespace Go.Ev.Try
open Go.Proofs Go.Pl
set_option linter.unusedVariables false
noncomputable section
def spec_DrawReadJournal.con : Con := { ps := [(.val, (.sl 5 (.int .u8)))], rs := [(.val, .str)], F := fun x => spec_DrawReadJournal.f x }
def spec_DrawReadJournal.cs : List (FuncId × Con) := [(107, spec_l01From.con), (186, spec_l33Journal.con)]
def spec_DrawReadJournal.E : Env := envOf tab spec_DrawReadJournal.cs 0 false
def spec_DrawReadJournal.keep (i : Nat) : List Nat := []
set_option maxRecDepth 100000 in
theorem spec_DrawReadJournal.body (n : Nat) (x : List Int) : bodyF spec_DrawReadJournal.E spec_DrawReadJournal.keep n Try.f76 spec_DrawReadJournal.con x = spec_DrawReadJournal.fn n x := by
  have h : bodyF spec_DrawReadJournal.E spec_DrawReadJournal.keep n Try.f76 spec_DrawReadJournal.con x = spec_DrawReadJournal.top x := by kernel_rfl
  exact h
set_option maxRecDepth 100000 in
theorem spec_DrawReadJournal.good : Good Try.prog 76 spec_DrawReadJournal.con :=
  good_of tabok (cs := spec_DrawReadJournal.cs) ⟨spec_l01From.good, spec_l33Journal.good, trivial⟩ 0 false (fn := Try.f76) Try.func76 rfl (by decide) (by simp [spec_DrawReadJournal.con]) spec_DrawReadJournal.keep NN (fun _ => rfl) (fun x => spec_DrawReadJournal.body NN x)
end
end Go.Ev.Try

namespace Go.Ev.Try
open Go.Proofs Go.Pl
set_option linter.unusedVariables false
noncomputable section
def impl_readEntry.st3 (line0 : ByteArray) (last4 : Int) (i5 : Int) (v2a : Int) (v2b : ByteArray) : St := ⟨[.dat .str line0, .gone, .ptr 0 [], .gone, .dat (.int .i64) last4, .dat (.int .i64) i5, .gone, .gone, .gone, .gone, .gone, .gone, .gone, .gone, .gone, .gone, .gone, .gone, .gone, .gone, .gone, .gone, .gone, .gone, .gone, .gone, .gone, .gone, .gone, .gone], [.box 120 (.pair (.int .u8) .str) (.pr (.dat (.int .u8) v2a) (.dat .str v2b))]⟩
def impl_readEntry.con : Con := { ps := [(.val, .str)], rs := [(.val, (.pair (.int .u8) .str)), (.val, .bool)], F := fun x => impl_readEntry.f x }
def impl_readEntry.cs : List (FuncId × Con) := [(197, impl_isEntry.con)]
def impl_readEntry.E : Env := envOf tab impl_readEntry.cs 0 false
def impl_readEntry.keep (i : Nat) : List Nat := if i = 3 then [0, 2, 4, 5] else []
def impl_readEntry.at3 (n : Nat) (x : ByteArray) : Code × (Ex → St → Option (((Int × ByteArray) × Bool))) := ctx impl_readEntry.E impl_readEntry.keep n [.snd, .snd, .fst, .snd, .blk] (codeOf Try.f239) (kEnd impl_readEntry.E Try.f239 impl_readEntry.con x)
def impl_readEntry.LN3 (n : Nat) (x : ByteArray) : Nat → St → Option (((Int × ByteArray) × Bool)) := loopN (exec impl_readEntry.E impl_readEntry.keep n (bodyOf (impl_readEntry.at3 n x).1)) (St.norm 0 (impl_readEntry.keep 3)) (impl_readEntry.at3 n x).2
set_option maxRecDepth 100000 in
theorem impl_readEntry.lem3 (n : Nat) (x : ByteArray) : ∀ (k : Nat) (line0 : ByteArray) (last4 : Int) (i5 : Int) (v2a : Int) (v2b : ByteArray), impl_readEntry.LN3 n x k (impl_readEntry.st3 line0 last4 i5 v2a v2b) = impl_readEntry.l3 n k line0 last4 i5 v2a v2b := by
  intro k
  induction k with
  | zero => intro line0 last4 i5 v2a v2b; rfl
  | succ k ih =>
    intro line0 last4 i5 v2a v2b
    have h : impl_readEntry.LN3 n x (k + 1) (impl_readEntry.st3 line0 last4 i5 v2a v2b) = impl_readEntry.g3 (fun line0 last4 i5 v2a v2b => impl_readEntry.LN3 n x k (impl_readEntry.st3 line0 last4 i5 v2a v2b)) line0 last4 i5 v2a v2b := by kernel_rfl
    rw [h]
    simp only [ih]
    rfl
set_option maxRecDepth 100000 in
theorem impl_readEntry.body (n : Nat) (x : ByteArray) : bodyF impl_readEntry.E impl_readEntry.keep n Try.f239 impl_readEntry.con x = impl_readEntry.fn n x := by
  have h : bodyF impl_readEntry.E impl_readEntry.keep n Try.f239 impl_readEntry.con x = impl_readEntry.top (fun line0 last4 i5 v2a v2b => impl_readEntry.LN3 n x n (impl_readEntry.st3 line0 last4 i5 v2a v2b)) x := by kernel_rfl
  rw [h]
  simp only [impl_readEntry.lem3]
  rfl
set_option maxRecDepth 100000 in
theorem impl_readEntry.good : Good Try.prog 239 impl_readEntry.con :=
  good_of tabok (cs := impl_readEntry.cs) ⟨impl_isEntry.good, trivial⟩ 0 false (fn := Try.f239) Try.func239 rfl (by decide) (by simp [impl_readEntry.con]) impl_readEntry.keep NN (fun _ => rfl) (fun x => impl_readEntry.body NN x)
end
end Go.Ev.Try

namespace Go.Ev.Try
open Go.Proofs Go.Pl
set_option linter.unusedVariables false
noncomputable section
def impl_readJournal.st5 (s0 : ByteArray) (check5 : Int) (end6 : Int) (out4 : List (Int × ByteArray)) : St := ⟨[.dat .str s0, .gone, .gone, .gone, .ref 0, .dat (.int .i64) check5, .dat (.int .i64) end6, .gone, .gone, .gone, .gone, .gone, .gone, .gone, .gone, .gone, .gone, .gone, .gone, .gone, .gone, .gone, .gone, .gone, .gone, .gone, .gone, .gone, .gone, .gone, .gone, .gone, .gone, .gone, .gone, .gone, .gone, .gone, .gone, .gone, .gone, .gone, .gone, .gone, .gone, .gone, .gone, .gone, .gone, .gone, .gone, .gone, .gone, .gone, .gone, .gone, .gone, .gone, .gone, .gone, .gone, .gone, .gone], [.row 120 (.pair (.int .u8) .str) out4 none]⟩
def impl_readJournal.st3 (s0 : ByteArray) (check5 : Int) (out4 : List (Int × ByteArray)) : St := ⟨[.dat .str s0, .gone, .gone, .gone, .ref 0, .dat (.int .i64) check5, .gone, .gone, .gone, .gone, .gone, .gone, .gone, .gone, .gone, .gone, .gone, .gone, .gone, .gone, .gone, .gone, .gone, .gone, .gone, .gone, .gone, .gone, .gone, .gone, .gone, .gone, .gone, .gone, .gone, .gone, .gone, .gone, .gone, .gone, .gone, .gone, .gone, .gone, .gone, .gone, .gone, .gone, .gone, .gone, .gone, .gone, .gone, .gone, .gone, .gone, .gone, .gone, .gone, .gone, .gone, .gone, .gone], [.row 120 (.pair (.int .u8) .str) out4 none]⟩
def impl_readJournal.con : Con := { ps := [(.val, .str)], rs := [(.own, (.sl 120 (.pair (.int .u8) .str))), (.own, (.int .i64))], F := fun x => impl_readJournal.f x }
def impl_readJournal.cs : List (FuncId × Con) := [(234, impl_nextCheck.con), (235, impl_entryLine.con), (239, impl_readEntry.con)]
def impl_readJournal.E : Env := envOf tab impl_readJournal.cs 0 false
def impl_readJournal.keep (i : Nat) : List Nat := if i = 5 then [0, 4, 5, 6] else if i = 3 then [0, 4, 5] else []
def impl_readJournal.at5 (n : Nat) (x : ByteArray) (M3 : St → Option (((List (Int × ByteArray)) × Int))) : Code × (Ex → St → Option (((List (Int × ByteArray)) × Int))) := ctx impl_readJournal.E impl_readJournal.keep n [.snd, .snd, .snd, .fst, .blk, .rd M3, .snd, .blk, .snd, .fst, .blk] (codeOf Try.f187) (kEnd impl_readJournal.E Try.f187 impl_readJournal.con x)
def impl_readJournal.LN5 (n : Nat) (x : ByteArray) (M3 : St → Option (((List (Int × ByteArray)) × Int))) : Nat → St → Option (((List (Int × ByteArray)) × Int)) := loopN (exec impl_readJournal.E impl_readJournal.keep n (bodyOf (impl_readJournal.at5 n x M3).1)) (St.norm 0 (impl_readJournal.keep 5)) (impl_readJournal.at5 n x M3).2
def impl_readJournal.at3 (n : Nat) (x : ByteArray) : Code × (Ex → St → Option (((List (Int × ByteArray)) × Int))) := ctx impl_readJournal.E impl_readJournal.keep n [.snd, .snd, .snd, .fst, .blk] (codeOf Try.f187) (kEnd impl_readJournal.E Try.f187 impl_readJournal.con x)
def impl_readJournal.LN3 (n : Nat) (x : ByteArray) : Nat → St → Option (((List (Int × ByteArray)) × Int)) := loopN (exec impl_readJournal.E impl_readJournal.keep n (bodyOf (impl_readJournal.at3 n x).1)) (St.norm 0 (impl_readJournal.keep 3)) (impl_readJournal.at3 n x).2
set_option maxRecDepth 100000 in
theorem impl_readJournal.lem5 (n : Nat) (x : ByteArray) (M3 : St → Option (((List (Int × ByteArray)) × Int))) : ∀ (k : Nat) (s0 : ByteArray) (check5 : Int) (end6 : Int) (out4 : List (Int × ByteArray)), impl_readJournal.LN5 n x M3 k (impl_readJournal.st5 s0 check5 end6 out4) = impl_readJournal.l5 n (fun s0 check5 out4 => M3 (impl_readJournal.st3 s0 check5 out4)) k s0 check5 end6 out4 := by
  intro k
  induction k with
  | zero => intro s0 check5 end6 out4; rfl
  | succ k ih =>
    intro s0 check5 end6 out4
    have h : impl_readJournal.LN5 n x M3 (k + 1) (impl_readJournal.st5 s0 check5 end6 out4) = impl_readJournal.g5 (fun s0 check5 out4 => M3 (impl_readJournal.st3 s0 check5 out4)) (fun s0 check5 end6 out4 => impl_readJournal.LN5 n x M3 k (impl_readJournal.st5 s0 check5 end6 out4)) s0 check5 end6 out4 := by kernel_rfl
    rw [h]
    simp only [ih]
    rfl
set_option maxRecDepth 100000 in
theorem impl_readJournal.lem3 (n : Nat) (x : ByteArray) : ∀ (k : Nat) (s0 : ByteArray) (check5 : Int) (out4 : List (Int × ByteArray)), impl_readJournal.LN3 n x k (impl_readJournal.st3 s0 check5 out4) = impl_readJournal.l3 n k s0 check5 out4 := by
  intro k
  induction k with
  | zero => intro s0 check5 out4; rfl
  | succ k ih =>
    intro s0 check5 out4
    have h : impl_readJournal.LN3 n x (k + 1) (impl_readJournal.st3 s0 check5 out4) = impl_readJournal.g3 (fun s0 check5 end6 out4 => impl_readJournal.LN5 n x (impl_readJournal.LN3 n x k) n (impl_readJournal.st5 s0 check5 end6 out4)) (fun s0 check5 out4 => impl_readJournal.LN3 n x k (impl_readJournal.st3 s0 check5 out4)) s0 check5 out4 := by kernel_rfl
    rw [h]
    simp only [ih, impl_readJournal.lem5]
    rfl
set_option maxRecDepth 100000 in
theorem impl_readJournal.body (n : Nat) (x : ByteArray) : bodyF impl_readJournal.E impl_readJournal.keep n Try.f187 impl_readJournal.con x = impl_readJournal.fn n x := by
  have h : bodyF impl_readJournal.E impl_readJournal.keep n Try.f187 impl_readJournal.con x = impl_readJournal.top (fun s0 check5 out4 => impl_readJournal.LN3 n x n (impl_readJournal.st3 s0 check5 out4)) x := by kernel_rfl
  rw [h]
  simp only [impl_readJournal.lem3]
  rfl
set_option maxRecDepth 100000 in
theorem impl_readJournal.good : Good Try.prog 187 impl_readJournal.con :=
  good_of tabok (cs := impl_readJournal.cs) ⟨impl_nextCheck.good, impl_entryLine.good, impl_readEntry.good, trivial⟩ 0 false (fn := Try.f187) Try.func187 rfl (by decide) (by simp [impl_readJournal.con]) impl_readJournal.keep NN (fun _ => rfl) (fun x => impl_readJournal.body NN x)
end
end Go.Ev.Try

namespace Go.Ev.Try
open Go.Proofs Go.Pl
set_option linter.unusedVariables false
noncomputable section
def impl_ReadJournal.con : Con := { ps := [(.val, .str)], rs := [(.own, (.sl 120 (.pair (.int .u8) .str))), (.own, (.int .i64))], F := fun x => impl_ReadJournal.f x }
def impl_ReadJournal.cs : List (FuncId × Con) := [(187, impl_readJournal.con)]
def impl_ReadJournal.E : Env := envOf tab impl_ReadJournal.cs 0 false
def impl_ReadJournal.keep (i : Nat) : List Nat := []
set_option maxRecDepth 100000 in
theorem impl_ReadJournal.body (n : Nat) (x : ByteArray) : bodyF impl_ReadJournal.E impl_ReadJournal.keep n Try.f77 impl_ReadJournal.con x = impl_ReadJournal.fn n x := by
  have h : bodyF impl_ReadJournal.E impl_ReadJournal.keep n Try.f77 impl_ReadJournal.con x = impl_ReadJournal.top x := by kernel_rfl
  exact h
set_option maxRecDepth 100000 in
theorem impl_ReadJournal.good : Good Try.prog 77 impl_ReadJournal.con :=
  good_of tabok (cs := impl_ReadJournal.cs) ⟨impl_readJournal.good, trivial⟩ 0 false (fn := Try.f77) Try.func77 rfl (by decide) (by simp [impl_ReadJournal.con]) impl_ReadJournal.keep NN (fun _ => rfl) (fun x => impl_ReadJournal.body NN x)
end
end Go.Ev.Try

namespace Go.Ev.Try
open Go.Proofs Go.Pl
set_option linter.unusedVariables false
noncomputable section
def spec_l33Next.st2 (s0 : ByteArray) (check1 : Int) (end7 : Int) (blank8 : Int) (v4a : Int) (v4b : ByteArray) : St := ⟨[.dat .str s0, .dat (.int .i64) check1, .gone, .gone, .ptr 0 [], .gone, .gone, .dat (.int .i64) end7, .dat (.int .i64) blank8, .gone, .gone, .gone, .gone, .gone, .gone, .gone, .gone, .gone, .gone, .gone, .gone, .gone, .gone, .gone, .gone, .gone, .gone, .gone, .gone, .gone, .gone, .gone, .gone, .gone, .gone, .gone, .gone, .gone, .gone, .gone, .gone, .gone, .gone, .gone, .gone, .gone, .gone, .gone, .gone, .gone, .gone, .gone, .gone, .gone, .gone, .gone, .gone, .gone, .gone, .gone, .gone, .gone, .gone, .gone], [.box 120 (.pair (.int .u8) .str) (.pr (.dat (.int .u8) v4a) (.dat .str v4b))]⟩
def spec_l33Next.con : Con := { ps := [(.val, .str), (.val, (.int .i64))], rs := [(.val, (.pair (.int .u8) .str)), (.val, (.int .i64)), (.val, (.int .i64))], F := fun x => spec_l33Next.f x.1 x.2 }
def spec_l33Next.cs : List (FuncId × Con) := [(237, spec_l33Check.con), (238, spec_l33Line.con), (254, spec_l33Is.con)]
def spec_l33Next.E : Env := envOf tab spec_l33Next.cs 0 false
def spec_l33Next.keep (i : Nat) : List Nat := if i = 2 then [0, 1, 4, 7, 8] else []
def spec_l33Next.at2 (n : Nat) (x : ByteArray × Int) : Code × (Ex → St → Option (((Int × ByteArray) × Int × Int))) := ctx spec_l33Next.E spec_l33Next.keep n [.snd, .snd, .fst, .blk] (codeOf Try.f240) (kEnd spec_l33Next.E Try.f240 spec_l33Next.con x)
def spec_l33Next.LN2 (n : Nat) (x : ByteArray × Int) : Nat → St → Option (((Int × ByteArray) × Int × Int)) := loopN (exec spec_l33Next.E spec_l33Next.keep n (bodyOf (spec_l33Next.at2 n x).1)) (St.norm 0 (spec_l33Next.keep 2)) (spec_l33Next.at2 n x).2
set_option maxRecDepth 100000 in
theorem spec_l33Next.lem2 (n : Nat) (x : ByteArray × Int) : ∀ (k : Nat) (s0 : ByteArray) (check1 : Int) (end7 : Int) (blank8 : Int) (v4a : Int) (v4b : ByteArray), spec_l33Next.LN2 n x k (spec_l33Next.st2 s0 check1 end7 blank8 v4a v4b) = spec_l33Next.l2 n k s0 check1 end7 blank8 v4a v4b := by
  intro k
  induction k with
  | zero => intro s0 check1 end7 blank8 v4a v4b; rfl
  | succ k ih =>
    intro s0 check1 end7 blank8 v4a v4b
    have h : spec_l33Next.LN2 n x (k + 1) (spec_l33Next.st2 s0 check1 end7 blank8 v4a v4b) = spec_l33Next.g2 (fun s0 check1 end7 blank8 v4a v4b => spec_l33Next.LN2 n x k (spec_l33Next.st2 s0 check1 end7 blank8 v4a v4b)) s0 check1 end7 blank8 v4a v4b := by kernel_rfl
    rw [h]
    simp only [ih]
    rfl
set_option maxRecDepth 100000 in
theorem spec_l33Next.body (n : Nat) (x : ByteArray × Int) : bodyF spec_l33Next.E spec_l33Next.keep n Try.f240 spec_l33Next.con x = spec_l33Next.fn n x.1 x.2 := by
  have h : bodyF spec_l33Next.E spec_l33Next.keep n Try.f240 spec_l33Next.con x = spec_l33Next.top (fun s0 check1 end7 blank8 v4a v4b => spec_l33Next.LN2 n x n (spec_l33Next.st2 s0 check1 end7 blank8 v4a v4b)) x.1 x.2 := by kernel_rfl
  rw [h]
  simp only [spec_l33Next.lem2]
  rfl
set_option maxRecDepth 100000 in
theorem spec_l33Next.good : Good Try.prog 240 spec_l33Next.con :=
  good_of tabok (cs := spec_l33Next.cs) ⟨spec_l33Check.good, spec_l33Line.good, spec_l33Is.good, trivial⟩ 0 false (fn := Try.f240) Try.func240 rfl (by decide) (by simp [spec_l33Next.con]) spec_l33Next.keep NN (fun _ => rfl) (fun x => spec_l33Next.body NN x)
end
end Go.Ev.Try

namespace Go.Ev.Try
open Go.Proofs Go.Pl
set_option linter.unusedVariables false
noncomputable section
def spec_l33Read.st2 (s0 : ByteArray) (check5 : Int) (out4 : List (Int × ByteArray)) : St := ⟨[.dat .str s0, .gone, .gone, .gone, .ref 0, .dat (.int .i64) check5, .gone, .gone, .gone, .gone, .gone, .gone, .gone, .gone, .gone, .gone, .gone, .gone, .gone, .gone, .gone, .gone, .gone, .gone, .gone, .gone, .gone, .gone, .gone, .gone, .gone, .gone, .gone], [.row 120 (.pair (.int .u8) .str) out4 none]⟩
def spec_l33Read.con : Con := { ps := [(.val, .str)], rs := [(.own, (.sl 120 (.pair (.int .u8) .str))), (.own, (.int .i64))], F := fun x => spec_l33Read.f x }
def spec_l33Read.cs : List (FuncId × Con) := [(240, spec_l33Next.con)]
def spec_l33Read.E : Env := envOf tab spec_l33Read.cs 0 false
def spec_l33Read.keep (i : Nat) : List Nat := if i = 2 then [0, 4, 5] else []
def spec_l33Read.at2 (n : Nat) (x : ByteArray) : Code × (Ex → St → Option (((List (Int × ByteArray)) × Int))) := ctx spec_l33Read.E spec_l33Read.keep n [.snd, .snd, .fst, .blk] (codeOf Try.f188) (kEnd spec_l33Read.E Try.f188 spec_l33Read.con x)
def spec_l33Read.LN2 (n : Nat) (x : ByteArray) : Nat → St → Option (((List (Int × ByteArray)) × Int)) := loopN (exec spec_l33Read.E spec_l33Read.keep n (bodyOf (spec_l33Read.at2 n x).1)) (St.norm 0 (spec_l33Read.keep 2)) (spec_l33Read.at2 n x).2
set_option maxRecDepth 100000 in
theorem spec_l33Read.lem2 (n : Nat) (x : ByteArray) : ∀ (k : Nat) (s0 : ByteArray) (check5 : Int) (out4 : List (Int × ByteArray)), spec_l33Read.LN2 n x k (spec_l33Read.st2 s0 check5 out4) = spec_l33Read.l2 n k s0 check5 out4 := by
  intro k
  induction k with
  | zero => intro s0 check5 out4; rfl
  | succ k ih =>
    intro s0 check5 out4
    have h : spec_l33Read.LN2 n x (k + 1) (spec_l33Read.st2 s0 check5 out4) = spec_l33Read.g2 (fun s0 check5 out4 => spec_l33Read.LN2 n x k (spec_l33Read.st2 s0 check5 out4)) s0 check5 out4 := by kernel_rfl
    rw [h]
    simp only [ih]
    rfl
set_option maxRecDepth 100000 in
theorem spec_l33Read.body (n : Nat) (x : ByteArray) : bodyF spec_l33Read.E spec_l33Read.keep n Try.f188 spec_l33Read.con x = spec_l33Read.fn n x := by
  have h : bodyF spec_l33Read.E spec_l33Read.keep n Try.f188 spec_l33Read.con x = spec_l33Read.top (fun s0 check5 out4 => spec_l33Read.LN2 n x n (spec_l33Read.st2 s0 check5 out4)) x := by kernel_rfl
  rw [h]
  simp only [spec_l33Read.lem2]
  rfl
set_option maxRecDepth 100000 in
theorem spec_l33Read.good : Good Try.prog 188 spec_l33Read.con :=
  good_of tabok (cs := spec_l33Read.cs) ⟨spec_l33Next.good, trivial⟩ 0 false (fn := Try.f188) Try.func188 rfl (by decide) (by simp [spec_l33Read.con]) spec_l33Read.keep NN (fun _ => rfl) (fun x => spec_l33Read.body NN x)
end
end Go.Ev.Try

namespace Go.Ev.Try
open Go.Proofs Go.Pl
set_option linter.unusedVariables false
noncomputable section
def spec_ReadJournal.con : Con := { ps := [(.val, .str)], rs := [(.own, (.sl 120 (.pair (.int .u8) .str))), (.own, (.int .i64))], F := fun x => spec_ReadJournal.f x }
def spec_ReadJournal.cs : List (FuncId × Con) := [(188, spec_l33Read.con)]
def spec_ReadJournal.E : Env := envOf tab spec_ReadJournal.cs 0 false
def spec_ReadJournal.keep (i : Nat) : List Nat := []
set_option maxRecDepth 100000 in
theorem spec_ReadJournal.body (n : Nat) (x : ByteArray) : bodyF spec_ReadJournal.E spec_ReadJournal.keep n Try.f78 spec_ReadJournal.con x = spec_ReadJournal.fn n x := by
  have h : bodyF spec_ReadJournal.E spec_ReadJournal.keep n Try.f78 spec_ReadJournal.con x = spec_ReadJournal.top x := by kernel_rfl
  exact h
set_option maxRecDepth 100000 in
theorem spec_ReadJournal.good : Good Try.prog 78 spec_ReadJournal.con :=
  good_of tabok (cs := spec_ReadJournal.cs) ⟨spec_l33Read.good, trivial⟩ 0 false (fn := Try.f78) Try.func78 rfl (by decide) (by simp [spec_ReadJournal.con]) spec_ReadJournal.keep NN (fun _ => rfl) (fun x => spec_ReadJournal.body NN x)
end
end Go.Ev.Try

namespace Go.Ev.Try
open Go.Proofs Go.Pl
set_option linter.unusedVariables false
noncomputable section
def spec_DrawCutJournal.con : Con := { ps := [(.val, (.sl 5 (.int .u8)))], rs := [(.val, .str), (.val, (.int .i64))], F := fun x => spec_DrawCutJournal.f x }
def spec_DrawCutJournal.cs : List (FuncId × Con) := [(107, spec_l01From.con), (109, spec_l01Next.con), (186, spec_l33Journal.con)]
def spec_DrawCutJournal.E : Env := envOf tab spec_DrawCutJournal.cs 0 false
def spec_DrawCutJournal.keep (i : Nat) : List Nat := []
set_option maxRecDepth 100000 in
theorem spec_DrawCutJournal.body (n : Nat) (x : List Int) : bodyF spec_DrawCutJournal.E spec_DrawCutJournal.keep n Try.f79 spec_DrawCutJournal.con x = spec_DrawCutJournal.fn n x := by
  have h : bodyF spec_DrawCutJournal.E spec_DrawCutJournal.keep n Try.f79 spec_DrawCutJournal.con x = spec_DrawCutJournal.top x := by kernel_rfl
  exact h
set_option maxRecDepth 100000 in
theorem spec_DrawCutJournal.good : Good Try.prog 79 spec_DrawCutJournal.con :=
  good_of tabok (cs := spec_DrawCutJournal.cs) ⟨spec_l01From.good, spec_l01Next.good, spec_l33Journal.good, trivial⟩ 0 false (fn := Try.f79) Try.func79 rfl (by decide) (by simp [spec_DrawCutJournal.con]) spec_DrawCutJournal.keep NN (fun _ => rfl) (fun x => spec_DrawCutJournal.body NN x)
end
end Go.Ev.Try

namespace Go.Ev.Try
open Go.Proofs Go.Pl
set_option linter.unusedVariables false
noncomputable section
def impl_within.con : Con := { ps := [(.val, (.int .i64)), (.val, (.int .i64)), (.val, (.int .i64))], rs := [(.val, .bool)], F := fun x => impl_within.f x.1 x.2.1 x.2.2 }
def impl_within.cs : List (FuncId × Con) := []
def impl_within.E : Env := envOf tab impl_within.cs 0 false
def impl_within.keep (i : Nat) : List Nat := []
set_option maxRecDepth 100000 in
theorem impl_within.body (n : Nat) (x : Int × Int × Int) : bodyF impl_within.E impl_within.keep n Try.f119 impl_within.con x = impl_within.fn n x.1 x.2.1 x.2.2 := by
  have h : bodyF impl_within.E impl_within.keep n Try.f119 impl_within.con x = impl_within.top x.1 x.2.1 x.2.2 := by kernel_rfl
  exact h
set_option maxRecDepth 100000 in
theorem impl_within.good : Good Try.prog 119 impl_within.con :=
  good_of tabok (cs := impl_within.cs) trivial 0 false (fn := Try.f119) Try.func119 rfl (by decide) (by simp [impl_within.con]) impl_within.keep NN (fun _ => rfl) (fun x => impl_within.body NN x)
end
end Go.Ev.Try

namespace Go.Ev.Try
open Go.Proofs Go.Pl
set_option linter.unusedVariables false
noncomputable section
def impl_CutJournal.con : Con := { ps := [(.val, .str), (.val, (.int .i64))], rs := [(.val, .str), (.val, (.int .i64))], F := fun x => impl_CutJournal.f x.1 x.2 }
def impl_CutJournal.cs : List (FuncId × Con) := [(119, impl_within.con), (183, impl_journalOf.con), (187, impl_readJournal.con)]
def impl_CutJournal.E : Env := envOf tab impl_CutJournal.cs 0 false
def impl_CutJournal.keep (i : Nat) : List Nat := []
set_option maxRecDepth 100000 in
theorem impl_CutJournal.body (n : Nat) (x : ByteArray × Int) : bodyF impl_CutJournal.E impl_CutJournal.keep n Try.f80 impl_CutJournal.con x = impl_CutJournal.fn n x.1 x.2 := by
  have h : bodyF impl_CutJournal.E impl_CutJournal.keep n Try.f80 impl_CutJournal.con x = impl_CutJournal.top x.1 x.2 := by kernel_rfl
  exact h
set_option maxRecDepth 100000 in
theorem impl_CutJournal.good : Good Try.prog 80 impl_CutJournal.con :=
  good_of tabok (cs := impl_CutJournal.cs) ⟨impl_within.good, impl_journalOf.good, impl_readJournal.good, trivial⟩ 0 false (fn := Try.f80) Try.func80 rfl (by decide) (by simp [impl_CutJournal.con]) impl_CutJournal.keep NN (fun _ => rfl) (fun x => impl_CutJournal.body NN x)
end
end Go.Ev.Try

namespace Go.Ev.Try
open Go.Proofs Go.Pl
set_option linter.unusedVariables false
noncomputable section
def spec_l01In.con : Con := { ps := [(.val, (.int .i64)), (.val, (.int .i64)), (.val, (.int .i64))], rs := [(.val, .bool)], F := fun x => spec_l01In.f x.1 x.2.1 x.2.2 }
def spec_l01In.cs : List (FuncId × Con) := []
def spec_l01In.E : Env := envOf tab spec_l01In.cs 0 false
def spec_l01In.keep (i : Nat) : List Nat := []
set_option maxRecDepth 100000 in
theorem spec_l01In.body (n : Nat) (x : Int × Int × Int) : bodyF spec_l01In.E spec_l01In.keep n Try.f142 spec_l01In.con x = spec_l01In.fn n x.1 x.2.1 x.2.2 := by
  have h : bodyF spec_l01In.E spec_l01In.keep n Try.f142 spec_l01In.con x = spec_l01In.top x.1 x.2.1 x.2.2 := by kernel_rfl
  exact h
set_option maxRecDepth 100000 in
theorem spec_l01In.good : Good Try.prog 142 spec_l01In.con :=
  good_of tabok (cs := spec_l01In.cs) trivial 0 false (fn := Try.f142) Try.func142 rfl (by decide) (by simp [spec_l01In.con]) spec_l01In.keep NN (fun _ => rfl) (fun x => spec_l01In.body NN x)
end
end Go.Ev.Try

namespace Go.Ev.Try
open Go.Proofs Go.Pl
set_option linter.unusedVariables false
noncomputable section
def spec_CutJournal.con : Con := { ps := [(.val, .str), (.val, (.int .i64))], rs := [(.val, .str), (.val, (.int .i64))], F := fun x => spec_CutJournal.f x.1 x.2 }
def spec_CutJournal.cs : List (FuncId × Con) := [(142, spec_l01In.con), (185, spec_l33Write.con), (188, spec_l33Read.con)]
def spec_CutJournal.E : Env := envOf tab spec_CutJournal.cs 0 false
def spec_CutJournal.keep (i : Nat) : List Nat := []
set_option maxRecDepth 100000 in
theorem spec_CutJournal.body (n : Nat) (x : ByteArray × Int) : bodyF spec_CutJournal.E spec_CutJournal.keep n Try.f81 spec_CutJournal.con x = spec_CutJournal.fn n x.1 x.2 := by
  have h : bodyF spec_CutJournal.E spec_CutJournal.keep n Try.f81 spec_CutJournal.con x = spec_CutJournal.top x.1 x.2 := by kernel_rfl
  exact h
set_option maxRecDepth 100000 in
theorem spec_CutJournal.good : Good Try.prog 81 spec_CutJournal.con :=
  good_of tabok (cs := spec_CutJournal.cs) ⟨spec_l01In.good, spec_l33Write.good, spec_l33Read.good, trivial⟩ 0 false (fn := Try.f81) Try.func81 rfl (by decide) (by simp [spec_CutJournal.con]) spec_CutJournal.keep NN (fun _ => rfl) (fun x => spec_CutJournal.body NN x)
end
end Go.Ev.Try

namespace Go.Ev.Try
open Go.Proofs Go.Pl
set_option linter.unusedVariables false
noncomputable section
def laws_likeEntries.st4 (a0 : List (Int × ByteArray)) (b1 : List (Int × ByteArray)) (i5 : Int) : St := ⟨[.dat (.sl 120 (.pair (.int .u8) .str)) a0, .dat (.sl 120 (.pair (.int .u8) .str)) b1, .gone, .gone, .gone, .dat (.int .i64) i5, .gone, .gone, .gone, .gone, .gone, .gone, .gone, .gone, .gone, .gone, .gone, .gone, .gone, .gone, .gone, .gone, .gone, .gone, .gone, .gone], []⟩
def laws_likeEntries.con : Con := { ps := [(.val, (.sl 120 (.pair (.int .u8) .str))), (.val, (.sl 120 (.pair (.int .u8) .str)))], rs := [(.val, .bool)], F := fun x => laws_likeEntries.f x.1 x.2 }
def laws_likeEntries.cs : List (FuncId × Con) := []
def laws_likeEntries.E : Env := envOf tab laws_likeEntries.cs 0 false
def laws_likeEntries.keep (i : Nat) : List Nat := if i = 4 then [0, 1, 5] else []
def laws_likeEntries.at4 (n : Nat) (x : (List (Int × ByteArray)) × List (Int × ByteArray)) : Code × (Ex → St → Option (Bool)) := ctx laws_likeEntries.E laws_likeEntries.keep n [.snd, .snd, .fst, .snd, .blk] (codeOf Try.f82) (kEnd laws_likeEntries.E Try.f82 laws_likeEntries.con x)
def laws_likeEntries.LN4 (n : Nat) (x : (List (Int × ByteArray)) × List (Int × ByteArray)) : Nat → St → Option (Bool) := loopN (exec laws_likeEntries.E laws_likeEntries.keep n (bodyOf (laws_likeEntries.at4 n x).1)) (St.norm 0 (laws_likeEntries.keep 4)) (laws_likeEntries.at4 n x).2
set_option maxRecDepth 100000 in
theorem laws_likeEntries.lem4 (n : Nat) (x : (List (Int × ByteArray)) × List (Int × ByteArray)) : ∀ (k : Nat) (a0 : List (Int × ByteArray)) (b1 : List (Int × ByteArray)) (i5 : Int), laws_likeEntries.LN4 n x k (laws_likeEntries.st4 a0 b1 i5) = laws_likeEntries.l4 n k a0 b1 i5 := by
  intro k
  induction k with
  | zero => intro a0 b1 i5; rfl
  | succ k ih =>
    intro a0 b1 i5
    have h : laws_likeEntries.LN4 n x (k + 1) (laws_likeEntries.st4 a0 b1 i5) = laws_likeEntries.g4 (fun a0 b1 i5 => laws_likeEntries.LN4 n x k (laws_likeEntries.st4 a0 b1 i5)) a0 b1 i5 := by kernel_rfl
    rw [h]
    simp only [ih]
    rfl
set_option maxRecDepth 100000 in
theorem laws_likeEntries.body (n : Nat) (x : (List (Int × ByteArray)) × List (Int × ByteArray)) : bodyF laws_likeEntries.E laws_likeEntries.keep n Try.f82 laws_likeEntries.con x = laws_likeEntries.fn n x.1 x.2 := by
  have h : bodyF laws_likeEntries.E laws_likeEntries.keep n Try.f82 laws_likeEntries.con x = laws_likeEntries.top (fun a0 b1 i5 => laws_likeEntries.LN4 n x n (laws_likeEntries.st4 a0 b1 i5)) x.1 x.2 := by kernel_rfl
  rw [h]
  simp only [laws_likeEntries.lem4]
  rfl
set_option maxRecDepth 100000 in
theorem laws_likeEntries.good : Good Try.prog 82 laws_likeEntries.con :=
  good_of tabok (cs := laws_likeEntries.cs) trivial 0 false (fn := Try.f82) Try.func82 rfl (by decide) (by simp [laws_likeEntries.con]) laws_likeEntries.keep NN (fun _ => rfl) (fun x => laws_likeEntries.body NN x)
end
end Go.Ev.Try

namespace Go.Ev.Try
open Go.Proofs Go.Pl
set_option linter.unusedVariables false
noncomputable section
def impl_AreEntries.con : Con := { ps := [(.val, (.sl 120 (.pair (.int .u8) .str)))], rs := [(.val, .bool)], F := fun x => impl_AreEntries.f x }
def impl_AreEntries.cs : List (FuncId × Con) := [(182, impl_areEntries.con)]
def impl_AreEntries.E : Env := envOf tab impl_AreEntries.cs 0 false
def impl_AreEntries.keep (i : Nat) : List Nat := []
set_option maxRecDepth 100000 in
theorem impl_AreEntries.body (n : Nat) (x : List (Int × ByteArray)) : bodyF impl_AreEntries.E impl_AreEntries.keep n Try.f83 impl_AreEntries.con x = impl_AreEntries.fn n x := by
  have h : bodyF impl_AreEntries.E impl_AreEntries.keep n Try.f83 impl_AreEntries.con x = impl_AreEntries.top x := by kernel_rfl
  exact h
set_option maxRecDepth 100000 in
theorem impl_AreEntries.good : Good Try.prog 83 impl_AreEntries.con :=
  good_of tabok (cs := impl_AreEntries.cs) ⟨impl_areEntries.good, trivial⟩ 0 false (fn := Try.f83) Try.func83 rfl (by decide) (by simp [impl_AreEntries.con]) impl_AreEntries.keep NN (fun _ => rfl) (fun x => impl_AreEntries.body NN x)
end
end Go.Ev.Try

namespace Go.Ev.Try
open Go.Proofs Go.Pl
set_option linter.unusedVariables false
noncomputable section
def impl_IsWhole.con : Con := { ps := [(.val, .str)], rs := [(.val, .bool)], F := fun x => impl_IsWhole.f x }
def impl_IsWhole.cs : List (FuncId × Con) := [(187, impl_readJournal.con)]
def impl_IsWhole.E : Env := envOf tab impl_IsWhole.cs 0 false
def impl_IsWhole.keep (i : Nat) : List Nat := []
set_option maxRecDepth 100000 in
theorem impl_IsWhole.body (n : Nat) (x : ByteArray) : bodyF impl_IsWhole.E impl_IsWhole.keep n Try.f84 impl_IsWhole.con x = impl_IsWhole.fn n x := by
  have h : bodyF impl_IsWhole.E impl_IsWhole.keep n Try.f84 impl_IsWhole.con x = impl_IsWhole.top x := by kernel_rfl
  exact h
set_option maxRecDepth 100000 in
theorem impl_IsWhole.good : Good Try.prog 84 impl_IsWhole.con :=
  good_of tabok (cs := impl_IsWhole.cs) ⟨impl_readJournal.good, trivial⟩ 0 false (fn := Try.f84) Try.func84 rfl (by decide) (by simp [impl_IsWhole.con]) impl_IsWhole.keep NN (fun _ => rfl) (fun x => impl_IsWhole.body NN x)
end
end Go.Ev.Try

namespace Go.Ev.Try
open Go.Proofs Go.Pl
set_option linter.unusedVariables false
noncomputable section
def laws_roll.st3 (code0 : List Int) (i6 : Int) (d5a : List Int) (d5ba : Int) (d5bb : Int) : St := ⟨[.dat (.sl 5 (.int .u8)) code0, .gone, .gone, .gone, .gone, .ptr 0 [], .dat (.int .i64) i6, .gone, .gone, .gone, .gone, .gone, .gone, .gone, .gone, .gone, .gone, .gone, .gone, .gone, .gone, .gone, .gone, .gone, .gone, .gone, .gone, .gone, .gone, .gone, .gone, .gone, .gone, .gone, .gone, .gone, .gone, .gone], [.box 204 (.pair (.sl 5 (.int .u8)) (.pair (.int .i64) (.int .u64))) (.pr (.dat (.sl 5 (.int .u8)) d5a) (.pr (.dat (.int .i64) d5ba) (.dat (.int .u64) d5bb)))]⟩
def laws_roll.con : Con := { ps := [(.val, (.sl 5 (.int .u8))), (.val, (.int .u64))], rs := [(.bx 204, (.pair (.sl 5 (.int .u8)) (.pair (.int .i64) (.int .u64))))], F := fun x => laws_roll.f x.1 x.2 }
def laws_roll.cs : List (FuncId × Con) := []
def laws_roll.E : Env := envOf tab laws_roll.cs 0 false
def laws_roll.keep (i : Nat) : List Nat := if i = 3 then [0, 5, 6] else []
def laws_roll.at3 (n : Nat) (x : List Int × Int) : Code × (Ex → St → Option ((List Int × Int × Int))) := ctx laws_roll.E laws_roll.keep n [.snd, .snd, .fst, .snd, .blk] (codeOf Try.f85) (kEnd laws_roll.E Try.f85 laws_roll.con x)
def laws_roll.LN3 (n : Nat) (x : List Int × Int) : Nat → St → Option ((List Int × Int × Int)) := loopN (exec laws_roll.E laws_roll.keep n (bodyOf (laws_roll.at3 n x).1)) (St.norm 0 (laws_roll.keep 3)) (laws_roll.at3 n x).2
set_option maxRecDepth 100000 in
theorem laws_roll.lem3 (n : Nat) (x : List Int × Int) : ∀ (k : Nat) (code0 : List Int) (i6 : Int) (d5a : List Int) (d5ba : Int) (d5bb : Int), laws_roll.LN3 n x k (laws_roll.st3 code0 i6 d5a d5ba d5bb) = laws_roll.l3 n k code0 i6 d5a d5ba d5bb := by
  intro k
  induction k with
  | zero => intro code0 i6 d5a d5ba d5bb; rfl
  | succ k ih =>
    intro code0 i6 d5a d5ba d5bb
    have h : laws_roll.LN3 n x (k + 1) (laws_roll.st3 code0 i6 d5a d5ba d5bb) = laws_roll.g3 (fun code0 i6 d5a d5ba d5bb => laws_roll.LN3 n x k (laws_roll.st3 code0 i6 d5a d5ba d5bb)) code0 i6 d5a d5ba d5bb := by kernel_rfl
    rw [h]
    simp only [ih]
    rfl
set_option maxRecDepth 100000 in
theorem laws_roll.body (n : Nat) (x : List Int × Int) : bodyF laws_roll.E laws_roll.keep n Try.f85 laws_roll.con x = laws_roll.fn n x.1 x.2 := by
  have h : bodyF laws_roll.E laws_roll.keep n Try.f85 laws_roll.con x = laws_roll.top (fun code0 i6 d5a d5ba d5bb => laws_roll.LN3 n x n (laws_roll.st3 code0 i6 d5a d5ba d5bb)) x.1 x.2 := by kernel_rfl
  rw [h]
  simp only [laws_roll.lem3]
  rfl
set_option maxRecDepth 100000 in
theorem laws_roll.good : Good Try.prog 85 laws_roll.con :=
  good_of tabok (cs := laws_roll.cs) trivial 0 false (fn := Try.f85) Try.func85 rfl (by decide) (by simp [laws_roll.con]) laws_roll.keep NN (fun _ => rfl) (fun x => laws_roll.body NN x)
end
end Go.Ev.Try

namespace Go.Ev.Try
open Go.Proofs Go.Pl
set_option linter.unusedVariables false
noncomputable section
def laws_dice_below.con : Con := { ps := [(.bx 204, (.pair (.sl 5 (.int .u8)) (.pair (.int .i64) (.int .u64)))), (.val, (.int .i64))], rs := [(.val, (.int .i64))], F := fun x => laws_dice_below.f x.1 x.2 }
def laws_dice_below.cs : List (FuncId × Con) := []
def laws_dice_below.E : Env := envOf tab laws_dice_below.cs 1 false
def laws_dice_below.keep (i : Nat) : List Nat := []
set_option maxRecDepth 100000 in
theorem laws_dice_below.body (n : Nat) (x : (List Int × Int × Int) × Int) : bodyF laws_dice_below.E laws_dice_below.keep n Try.f86 laws_dice_below.con x = laws_dice_below.fn n x.1 x.2 := by
  have h : bodyF laws_dice_below.E laws_dice_below.keep n Try.f86 laws_dice_below.con x = laws_dice_below.top x.1 x.2 := by kernel_rfl
  exact h
set_option maxRecDepth 100000 in
theorem laws_dice_below.good : Good Try.prog 86 laws_dice_below.con :=
  good_of tabok (cs := laws_dice_below.cs) trivial 1 false (fn := Try.f86) Try.func86 rfl (by decide) (by simp [laws_dice_below.con]) laws_dice_below.keep NN (fun _ => rfl) (fun x => laws_dice_below.body NN x)
end
end Go.Ev.Try
