/- Part 2 of what the law FnExactIsDesk stands on: an evaluator of the model's code, proved sound; the functions as plain texts; their contracts. -/
import Derived.Test.YtideamfpdeojlaaChecked
import Derived.Test.YtideamfpdeojlaaProg
import Derived.Test.YtideamfpdeojlaaRows
import Derived.Below
import Derived.Calls
import Derived.Carry
import Derived.ChangeArms
import Derived.ChangeKeysEq
import Derived.ChangeOld
import Derived.Deep.Quiet
import Derived.KernelRfl
import Derived.Laws.Append
import Derived.Laws.BytesString
import Derived.Laws.MakeOwn
import Derived.Laws.Strings
import Derived.Laws.StructEq
import Derived.OpenShut
import Derived.OrdersHeld
import Derived.ProofKit
import Derived.ShutString
import Derived.SizedLaws
import Derived.Tactics
import Derived.WalkKit
import Derived.WideShapes
import Derived.Test.YtideamfpdeojlaaEvExactIsDesk1
namespace Go.Ev.Try
open Go.Proofs Go.Pl
set_option linter.unusedVariables false
noncomputable section
def spec_AreMoves.st2 (list0 : List (Int × ByteArray × Int)) (i3 : Int) : St := ⟨[.dat (.sl 148 (.pair (.int .i64) (.pair .str (.int .i64)))) list0, .gone, .gone, .dat (.int .i64) i3, .gone, .gone, .gone, .gone, .gone, .gone, .gone, .gone, .gone, .gone, .gone, .gone, .gone, .gone, .gone, .gone, .gone, .gone, .gone, .gone, .gone, .gone, .gone, .gone, .gone, .gone, .gone, .gone, .gone, .gone, .gone, .gone, .gone, .gone, .gone, .gone, .gone, .gone, .gone, .gone, .gone, .gone, .gone, .gone, .gone, .gone, .gone, .gone, .gone, .gone, .gone, .gone, .gone, .gone, .gone, .gone, .gone, .gone, .gone], []⟩
def spec_AreMoves.con : Con := { ps := [(.val, (.sl 148 (.pair (.int .i64) (.pair .str (.int .i64)))))], rs := [(.val, .bool)], F := fun x => spec_AreMoves.f x }
def spec_AreMoves.cs : List (FuncId × Con) := [(103, spec_l01IsTime.con), (104, spec_IsWord.con), (105, spec_l01In.con), (106, spec_l20People.con)]
def spec_AreMoves.E : Env := envOf tab spec_AreMoves.cs 0 false
def spec_AreMoves.keep (i : Nat) : List Nat := if i = 2 then [0, 3] else []
def spec_AreMoves.at2 (n : Nat) (x : List (Int × ByteArray × Int)) : Code × (Ex → St → Option (Bool)) := ctx spec_AreMoves.E spec_AreMoves.keep n [.snd, .fst, .snd, .blk] (codeOf Try.f49) (kEnd spec_AreMoves.E Try.f49 spec_AreMoves.con x)
def spec_AreMoves.LN2 (n : Nat) (x : List (Int × ByteArray × Int)) : Nat → St → Option (Bool) := loopN (exec spec_AreMoves.E spec_AreMoves.keep n (bodyOf (spec_AreMoves.at2 n x).1)) (St.norm 0 (spec_AreMoves.keep 2)) (spec_AreMoves.at2 n x).2
set_option maxRecDepth 100000 in
theorem spec_AreMoves.lem2 (n : Nat) (x : List (Int × ByteArray × Int)) : ∀ (k : Nat) (list0 : List (Int × ByteArray × Int)) (i3 : Int), spec_AreMoves.LN2 n x k (spec_AreMoves.st2 list0 i3) = spec_AreMoves.l2 n k list0 i3 := by
  intro k
  induction k with
  | zero => intro list0 i3; rfl
  | succ k ih =>
    intro list0 i3
    have h : spec_AreMoves.LN2 n x (k + 1) (spec_AreMoves.st2 list0 i3) = spec_AreMoves.g2 (fun list0 i3 => spec_AreMoves.LN2 n x k (spec_AreMoves.st2 list0 i3)) list0 i3 := by kernel_rfl
    rw [h]
    simp only [ih]
    rfl
set_option maxRecDepth 100000 in
theorem spec_AreMoves.body (n : Nat) (x : List (Int × ByteArray × Int)) : bodyF spec_AreMoves.E spec_AreMoves.keep n Try.f49 spec_AreMoves.con x = spec_AreMoves.fn n x := by
  have h : bodyF spec_AreMoves.E spec_AreMoves.keep n Try.f49 spec_AreMoves.con x = spec_AreMoves.top (fun list0 i3 => spec_AreMoves.LN2 n x n (spec_AreMoves.st2 list0 i3)) x := by kernel_rfl
  rw [h]
  simp only [spec_AreMoves.lem2]
  rfl
set_option maxRecDepth 100000 in
theorem spec_AreMoves.good : Good Try.prog 49 spec_AreMoves.con :=
  good_of tabok (cs := spec_AreMoves.cs) ⟨spec_l01IsTime.good, spec_IsWord.good, spec_l01In.good, spec_l20People.good, trivial⟩ 0 false (fn := Try.f49) Try.func49 rfl (by decide) (by simp [spec_AreMoves.con]) spec_AreMoves.keep NN (fun _ => rfl) (fun x => spec_AreMoves.body NN x)
end
end Go.Ev.Try

namespace Go.Ev.Try
open Go.Proofs Go.Pl
set_option linter.unusedVariables false
noncomputable section
def spec_AreSignals.st2 (list0 : List (Int × Int)) (i3 : Int) : St := ⟨[.dat (.sl 153 (.pair (.int .i64) (.int .i64))) list0, .gone, .gone, .dat (.int .i64) i3, .gone, .gone, .gone, .gone, .gone, .gone, .gone, .gone, .gone, .gone, .gone, .gone, .gone, .gone, .gone, .gone, .gone, .gone, .gone, .gone, .gone, .gone, .gone, .gone, .gone, .gone, .gone, .gone, .gone, .gone, .gone, .gone, .gone, .gone, .gone, .gone, .gone, .gone, .gone, .gone, .gone, .gone, .gone, .gone], []⟩
def spec_AreSignals.con : Con := { ps := [(.val, (.sl 153 (.pair (.int .i64) (.int .i64))))], rs := [(.val, .bool)], F := fun x => spec_AreSignals.f x }
def spec_AreSignals.cs : List (FuncId × Con) := [(105, spec_l01In.con)]
def spec_AreSignals.E : Env := envOf tab spec_AreSignals.cs 0 false
def spec_AreSignals.keep (i : Nat) : List Nat := if i = 2 then [0, 3] else []
def spec_AreSignals.at2 (n : Nat) (x : List (Int × Int)) : Code × (Ex → St → Option (Bool)) := ctx spec_AreSignals.E spec_AreSignals.keep n [.snd, .fst, .snd, .blk] (codeOf Try.f50) (kEnd spec_AreSignals.E Try.f50 spec_AreSignals.con x)
def spec_AreSignals.LN2 (n : Nat) (x : List (Int × Int)) : Nat → St → Option (Bool) := loopN (exec spec_AreSignals.E spec_AreSignals.keep n (bodyOf (spec_AreSignals.at2 n x).1)) (St.norm 0 (spec_AreSignals.keep 2)) (spec_AreSignals.at2 n x).2
set_option maxRecDepth 100000 in
theorem spec_AreSignals.lem2 (n : Nat) (x : List (Int × Int)) : ∀ (k : Nat) (list0 : List (Int × Int)) (i3 : Int), spec_AreSignals.LN2 n x k (spec_AreSignals.st2 list0 i3) = spec_AreSignals.l2 n k list0 i3 := by
  intro k
  induction k with
  | zero => intro list0 i3; rfl
  | succ k ih =>
    intro list0 i3
    have h : spec_AreSignals.LN2 n x (k + 1) (spec_AreSignals.st2 list0 i3) = spec_AreSignals.g2 (fun list0 i3 => spec_AreSignals.LN2 n x k (spec_AreSignals.st2 list0 i3)) list0 i3 := by kernel_rfl
    rw [h]
    simp only [ih]
    rfl
set_option maxRecDepth 100000 in
theorem spec_AreSignals.body (n : Nat) (x : List (Int × Int)) : bodyF spec_AreSignals.E spec_AreSignals.keep n Try.f50 spec_AreSignals.con x = spec_AreSignals.fn n x := by
  have h : bodyF spec_AreSignals.E spec_AreSignals.keep n Try.f50 spec_AreSignals.con x = spec_AreSignals.top (fun list0 i3 => spec_AreSignals.LN2 n x n (spec_AreSignals.st2 list0 i3)) x := by kernel_rfl
  rw [h]
  simp only [spec_AreSignals.lem2]
  rfl
set_option maxRecDepth 100000 in
theorem spec_AreSignals.good : Good Try.prog 50 spec_AreSignals.con :=
  good_of tabok (cs := spec_AreSignals.cs) ⟨spec_l01In.good, trivial⟩ 0 false (fn := Try.f50) Try.func50 rfl (by decide) (by simp [spec_AreSignals.con]) spec_AreSignals.keep NN (fun _ => rfl) (fun x => spec_AreSignals.body NN x)
end
end Go.Ev.Try

namespace Go.Ev.Try
open Go.Proofs Go.Pl
set_option linter.unusedVariables false
noncomputable section
def spec_l32Left.st3 (list0 : List (Int × ByteArray × Int)) (article1 : ByteArray) (n2 : Int) (left7 : Int) (i8 : Int) : St := ⟨[.dat (.sl 127 (.pair (.int .i64) (.pair .str (.int .i64)))) list0, .dat .str article1, .dat (.int .i64) n2, .gone, .gone, .gone, .gone, .dat (.int .i64) left7, .dat (.int .i64) i8, .gone, .gone, .gone, .gone, .gone, .gone, .gone, .gone, .gone, .gone, .gone, .gone, .gone, .gone, .gone, .gone, .gone, .gone, .gone, .gone, .gone, .gone, .gone, .gone, .gone, .gone, .gone, .gone, .gone, .gone, .gone, .gone, .gone, .gone, .gone], []⟩
def spec_l32Left.con : Con := { ps := [(.val, (.sl 127 (.pair (.int .i64) (.pair .str (.int .i64))))), (.val, .str), (.val, (.int .i64))], rs := [(.val, (.int .i64))], F := fun x => spec_l32Left.f x.1 x.2.1 x.2.2 }
def spec_l32Left.cs : List (FuncId × Con) := []
def spec_l32Left.E : Env := envOf tab spec_l32Left.cs 0 false
def spec_l32Left.keep (i : Nat) : List Nat := if i = 3 then [0, 1, 2, 7, 8] else []
def spec_l32Left.at3 (n : Nat) (x : (List (Int × ByteArray × Int)) × ByteArray × Int) : Code × (Ex → St → Option (Int)) := ctx spec_l32Left.E spec_l32Left.keep n [.snd, .snd, .fst, .snd, .blk] (codeOf Try.f107) (kEnd spec_l32Left.E Try.f107 spec_l32Left.con x)
def spec_l32Left.LN3 (n : Nat) (x : (List (Int × ByteArray × Int)) × ByteArray × Int) : Nat → St → Option (Int) := loopN (exec spec_l32Left.E spec_l32Left.keep n (bodyOf (spec_l32Left.at3 n x).1)) (St.norm 0 (spec_l32Left.keep 3)) (spec_l32Left.at3 n x).2
set_option maxRecDepth 100000 in
theorem spec_l32Left.lem3 (n : Nat) (x : (List (Int × ByteArray × Int)) × ByteArray × Int) : ∀ (k : Nat) (list0 : List (Int × ByteArray × Int)) (article1 : ByteArray) (n2 : Int) (left7 : Int) (i8 : Int), spec_l32Left.LN3 n x k (spec_l32Left.st3 list0 article1 n2 left7 i8) = spec_l32Left.l3 n k list0 article1 n2 left7 i8 := by
  intro k
  induction k with
  | zero => intro list0 article1 n2 left7 i8; rfl
  | succ k ih =>
    intro list0 article1 n2 left7 i8
    have h : spec_l32Left.LN3 n x (k + 1) (spec_l32Left.st3 list0 article1 n2 left7 i8) = spec_l32Left.g3 (fun list0 article1 n2 left7 i8 => spec_l32Left.LN3 n x k (spec_l32Left.st3 list0 article1 n2 left7 i8)) list0 article1 n2 left7 i8 := by kernel_rfl
    rw [h]
    simp only [ih]
    rfl
set_option maxRecDepth 100000 in
theorem spec_l32Left.body (n : Nat) (x : (List (Int × ByteArray × Int)) × ByteArray × Int) : bodyF spec_l32Left.E spec_l32Left.keep n Try.f107 spec_l32Left.con x = spec_l32Left.fn n x.1 x.2.1 x.2.2 := by
  have h : bodyF spec_l32Left.E spec_l32Left.keep n Try.f107 spec_l32Left.con x = spec_l32Left.top (fun list0 article1 n2 left7 i8 => spec_l32Left.LN3 n x n (spec_l32Left.st3 list0 article1 n2 left7 i8)) x.1 x.2.1 x.2.2 := by kernel_rfl
  rw [h]
  simp only [spec_l32Left.lem3]
  rfl
set_option maxRecDepth 100000 in
theorem spec_l32Left.good : Good Try.prog 107 spec_l32Left.con :=
  good_of tabok (cs := spec_l32Left.cs) trivial 0 false (fn := Try.f107) Try.func107 rfl (by decide) (by simp [spec_l32Left.con]) spec_l32Left.keep NN (fun _ => rfl) (fun x => spec_l32Left.body NN x)
end
end Go.Ev.Try

namespace Go.Ev.Try
open Go.Proofs Go.Pl
set_option linter.unusedVariables false
noncomputable section
def spec_AreBookings.st2 (list0 : List (Int × ByteArray × Int)) (i3 : Int) : St := ⟨[.dat (.sl 127 (.pair (.int .i64) (.pair .str (.int .i64)))) list0, .gone, .gone, .dat (.int .i64) i3, .gone, .gone, .gone, .gone, .gone, .gone, .gone, .gone, .gone, .gone, .gone, .gone, .gone, .gone, .gone, .gone, .gone, .gone, .gone, .gone, .gone, .gone, .gone, .gone, .gone, .gone, .gone, .gone, .gone, .gone, .gone, .gone, .gone, .gone, .gone, .gone, .gone, .gone, .gone], []⟩
def spec_AreBookings.con : Con := { ps := [(.val, (.sl 127 (.pair (.int .i64) (.pair .str (.int .i64)))))], rs := [(.val, .bool)], F := fun x => spec_AreBookings.f x }
def spec_AreBookings.cs : List (FuncId × Con) := [(104, spec_IsWord.con), (105, spec_l01In.con), (107, spec_l32Left.con)]
def spec_AreBookings.E : Env := envOf tab spec_AreBookings.cs 0 false
def spec_AreBookings.keep (i : Nat) : List Nat := if i = 2 then [0, 3] else []
def spec_AreBookings.at2 (n : Nat) (x : List (Int × ByteArray × Int)) : Code × (Ex → St → Option (Bool)) := ctx spec_AreBookings.E spec_AreBookings.keep n [.snd, .fst, .snd, .blk] (codeOf Try.f51) (kEnd spec_AreBookings.E Try.f51 spec_AreBookings.con x)
def spec_AreBookings.LN2 (n : Nat) (x : List (Int × ByteArray × Int)) : Nat → St → Option (Bool) := loopN (exec spec_AreBookings.E spec_AreBookings.keep n (bodyOf (spec_AreBookings.at2 n x).1)) (St.norm 0 (spec_AreBookings.keep 2)) (spec_AreBookings.at2 n x).2
set_option maxRecDepth 100000 in
theorem spec_AreBookings.lem2 (n : Nat) (x : List (Int × ByteArray × Int)) : ∀ (k : Nat) (list0 : List (Int × ByteArray × Int)) (i3 : Int), spec_AreBookings.LN2 n x k (spec_AreBookings.st2 list0 i3) = spec_AreBookings.l2 n k list0 i3 := by
  intro k
  induction k with
  | zero => intro list0 i3; rfl
  | succ k ih =>
    intro list0 i3
    have h : spec_AreBookings.LN2 n x (k + 1) (spec_AreBookings.st2 list0 i3) = spec_AreBookings.g2 (fun list0 i3 => spec_AreBookings.LN2 n x k (spec_AreBookings.st2 list0 i3)) list0 i3 := by kernel_rfl
    rw [h]
    simp only [ih]
    rfl
set_option maxRecDepth 100000 in
theorem spec_AreBookings.body (n : Nat) (x : List (Int × ByteArray × Int)) : bodyF spec_AreBookings.E spec_AreBookings.keep n Try.f51 spec_AreBookings.con x = spec_AreBookings.fn n x := by
  have h : bodyF spec_AreBookings.E spec_AreBookings.keep n Try.f51 spec_AreBookings.con x = spec_AreBookings.top (fun list0 i3 => spec_AreBookings.LN2 n x n (spec_AreBookings.st2 list0 i3)) x := by kernel_rfl
  rw [h]
  simp only [spec_AreBookings.lem2]
  rfl
set_option maxRecDepth 100000 in
theorem spec_AreBookings.good : Good Try.prog 51 spec_AreBookings.con :=
  good_of tabok (cs := spec_AreBookings.cs) ⟨spec_IsWord.good, spec_l01In.good, spec_l32Left.good, trivial⟩ 0 false (fn := Try.f51) Try.func51 rfl (by decide) (by simp [spec_AreBookings.con]) spec_AreBookings.keep NN (fun _ => rfl) (fun x => spec_AreBookings.body NN x)
end
end Go.Ev.Try

namespace Go.Ev.Try
open Go.Proofs Go.Pl
set_option linter.unusedVariables false
noncomputable section
def spec_IsDesk.con : Con := { ps := [(.val, (.pair (.sl 148 (.pair (.int .i64) (.pair .str (.int .i64)))) (.pair (.sl 153 (.pair (.int .i64) (.int .i64))) (.sl 127 (.pair (.int .i64) (.pair .str (.int .i64)))))))], rs := [(.val, .bool)], F := fun x => spec_IsDesk.f x }
def spec_IsDesk.cs : List (FuncId × Con) := [(49, spec_AreMoves.con), (50, spec_AreSignals.con), (51, spec_AreBookings.con)]
def spec_IsDesk.E : Env := envOf tab spec_IsDesk.cs 0 false
def spec_IsDesk.keep (i : Nat) : List Nat := []
set_option maxRecDepth 100000 in
theorem spec_IsDesk.body (n : Nat) (x : (List (Int × ByteArray × Int)) × (List (Int × Int)) × List (Int × ByteArray × Int)) : bodyF spec_IsDesk.E spec_IsDesk.keep n Try.f8 spec_IsDesk.con x = spec_IsDesk.fn n x := by
  have h : bodyF spec_IsDesk.E spec_IsDesk.keep n Try.f8 spec_IsDesk.con x = spec_IsDesk.top x := by kernel_rfl
  exact h
set_option maxRecDepth 100000 in
theorem spec_IsDesk.good : Good Try.prog 8 spec_IsDesk.con :=
  good_of tabok (cs := spec_IsDesk.cs) ⟨spec_AreMoves.good, spec_AreSignals.good, spec_AreBookings.good, trivial⟩ 0 false (fn := Try.f8) Try.func8 rfl (by decide) (by simp [spec_IsDesk.con]) spec_IsDesk.keep NN (fun _ => rfl) (fun x => spec_IsDesk.body NN x)
end
end Go.Ev.Try

namespace Go.Ev.Try
open Go.Proofs Go.Pl
set_option linter.unusedVariables false
noncomputable section
def laws_roomBehind.con : Con := { ps := [(.val, (.int .i64))], rs := [(.val, (.int .i64))], F := fun x => laws_roomBehind.f x }
def laws_roomBehind.cs : List (FuncId × Con) := []
def laws_roomBehind.E : Env := envOf tab laws_roomBehind.cs 0 false
def laws_roomBehind.keep (i : Nat) : List Nat := []
set_option maxRecDepth 100000 in
theorem laws_roomBehind.body (n : Nat) (x : Int) : bodyF laws_roomBehind.E laws_roomBehind.keep n Try.f64 laws_roomBehind.con x = laws_roomBehind.fn n x := by
  have h : bodyF laws_roomBehind.E laws_roomBehind.keep n Try.f64 laws_roomBehind.con x = laws_roomBehind.top x := by kernel_rfl
  exact h
set_option maxRecDepth 100000 in
theorem laws_roomBehind.good : Good Try.prog 64 laws_roomBehind.con :=
  good_of tabok (cs := laws_roomBehind.cs) trivial 0 false (fn := Try.f64) Try.func64 rfl (by decide) (by simp [laws_roomBehind.con]) laws_roomBehind.keep NN (fun _ => rfl) (fun x => laws_roomBehind.body NN x)
end
end Go.Ev.Try

namespace Go.Ev.Try
open Go.Proofs Go.Pl
set_option linter.unusedVariables false
noncomputable section
def laws_toBooking.con : Con := { ps := [(.val, (.pair (.int .i64) (.pair .str (.int .i64))))], rs := [(.own, (.pair (.int .i64) (.pair .str (.int .i64))))], F := fun x => laws_toBooking.f x }
def laws_toBooking.cs : List (FuncId × Con) := []
def laws_toBooking.E : Env := envOf tab laws_toBooking.cs 0 true
def laws_toBooking.keep (i : Nat) : List Nat := []
set_option maxRecDepth 100000 in
theorem laws_toBooking.body (n : Nat) (x : Int × ByteArray × Int) : bodyF laws_toBooking.E laws_toBooking.keep n Try.f92 laws_toBooking.con x = laws_toBooking.fn n x := by
  have h : bodyF laws_toBooking.E laws_toBooking.keep n Try.f92 laws_toBooking.con x = laws_toBooking.top x := by kernel_rfl
  exact h
set_option maxRecDepth 100000 in
theorem laws_toBooking.good : Good Try.prog 92 laws_toBooking.con :=
  good_of tabok (cs := laws_toBooking.cs) trivial 0 true (fn := Try.f92) Try.func92 rfl (by decide) (by simp [laws_toBooking.con]) laws_toBooking.keep NN (fun _ => rfl) (fun x => laws_toBooking.body NN x)
end
end Go.Ev.Try

namespace Go.Ev.Try
open Go.Proofs Go.Pl
set_option linter.unusedVariables false
noncomputable section
def laws_fillerBooking.con : Con := { ps := [], rs := [(.val, (.pair (.int .i64) (.pair .str (.int .i64))))], F := fun x => laws_fillerBooking.f  }
def laws_fillerBooking.cs : List (FuncId × Con) := []
def laws_fillerBooking.E : Env := envOf tab laws_fillerBooking.cs 0 false
def laws_fillerBooking.keep (i : Nat) : List Nat := []
set_option maxRecDepth 100000 in
theorem laws_fillerBooking.body (n : Nat) (x : Unit) : bodyF laws_fillerBooking.E laws_fillerBooking.keep n Try.f93 laws_fillerBooking.con x = laws_fillerBooking.fn n  := by
  have h : bodyF laws_fillerBooking.E laws_fillerBooking.keep n Try.f93 laws_fillerBooking.con x = laws_fillerBooking.top  := by kernel_rfl
  exact h
set_option maxRecDepth 100000 in
theorem laws_fillerBooking.good : Good Try.prog 93 laws_fillerBooking.con :=
  good_of tabok (cs := laws_fillerBooking.cs) trivial 0 false (fn := Try.f93) Try.func93 rfl (by decide) (by simp [laws_fillerBooking.con]) laws_fillerBooking.keep NN (fun _ => rfl) (fun x => laws_fillerBooking.body NN x)
end
end Go.Ev.Try

namespace Go.Ev.Try
open Go.Proofs Go.Pl
set_option linter.unusedVariables false
noncomputable section
def laws_toBookingS.st9 (a0 : List (Int × ByteArray × Int)) (i7 : Int) (out5 : List (Int × ByteArray × Int)) : St := ⟨[.dat (.sl 133 (.pair (.int .i64) (.pair .str (.int .i64)))) a0, .gone, .gone, .gone, .gone, .ref 0, .gone, .dat (.int .i64) i7, .gone, .gone, .gone, .gone, .gone, .gone, .gone, .gone, .gone, .gone, .gone, .gone, .gone, .gone, .gone, .gone, .gone, .gone, .gone, .gone, .gone, .gone, .gone, .gone, .gone, .gone, .gone, .gone, .gone, .gone, .gone, .gone, .gone, .gone, .gone, .gone, .gone, .gone, .gone, .gone, .gone, .gone, .gone], [.row 127 (.pair (.int .i64) (.pair .str (.int .i64))) out5 none]⟩
def laws_toBookingS.st5 (a0 : List (Int × ByteArray × Int)) (i6 : Int) (out5 : List (Int × ByteArray × Int)) : St := ⟨[.dat (.sl 133 (.pair (.int .i64) (.pair .str (.int .i64)))) a0, .gone, .gone, .gone, .gone, .ref 0, .dat (.int .i64) i6, .gone, .gone, .gone, .gone, .gone, .gone, .gone, .gone, .gone, .gone, .gone, .gone, .gone, .gone, .gone, .gone, .gone, .gone, .gone, .gone, .gone, .gone, .gone, .gone, .gone, .gone, .gone, .gone, .gone, .gone, .gone, .gone, .gone, .gone, .gone, .gone, .gone, .gone, .gone, .gone, .gone, .gone, .gone, .gone], [.row 127 (.pair (.int .i64) (.pair .str (.int .i64))) out5 none]⟩
def laws_toBookingS.con : Con := { ps := [(.val, (.sl 133 (.pair (.int .i64) (.pair .str (.int .i64))))), (.val, .bool)], rs := [(.own, (.slb 127 (.pair (.int .i64) (.pair .str (.int .i64)))))], F := fun x => laws_toBookingS.f x.1 x.2 }
def laws_toBookingS.cs : List (FuncId × Con) := [(64, laws_roomBehind.con), (92, laws_toBooking.con), (93, laws_fillerBooking.con)]
def laws_toBookingS.E : Env := envOf tab laws_toBookingS.cs 0 true
def laws_toBookingS.keep (i : Nat) : List Nat := if i = 9 then [0, 5, 7] else if i = 5 then [0, 5, 6] else []
def laws_toBookingS.at9 (n : Nat) (x : (List (Int × ByteArray × Int)) × Bool) : Code × (Ex → St → Option ((List (Int × ByteArray × Int) × List (Int × ByteArray × Int)))) := ctx laws_toBookingS.E laws_toBookingS.keep n [.snd, .snd, .snd, .snd, .fst, .snd, .blk] (codeOf Try.f36) (kEnd laws_toBookingS.E Try.f36 laws_toBookingS.con x)
def laws_toBookingS.LN9 (n : Nat) (x : (List (Int × ByteArray × Int)) × Bool) : Nat → St → Option ((List (Int × ByteArray × Int) × List (Int × ByteArray × Int))) := loopN (exec laws_toBookingS.E laws_toBookingS.keep n (bodyOf (laws_toBookingS.at9 n x).1)) (St.norm 0 (laws_toBookingS.keep 9)) (laws_toBookingS.at9 n x).2
def laws_toBookingS.at5 (n : Nat) (x : (List (Int × ByteArray × Int)) × Bool) : Code × (Ex → St → Option ((List (Int × ByteArray × Int) × List (Int × ByteArray × Int)))) := ctx laws_toBookingS.E laws_toBookingS.keep n [.snd, .snd, .snd, .fst, .snd, .blk] (codeOf Try.f36) (kEnd laws_toBookingS.E Try.f36 laws_toBookingS.con x)
def laws_toBookingS.LN5 (n : Nat) (x : (List (Int × ByteArray × Int)) × Bool) : Nat → St → Option ((List (Int × ByteArray × Int) × List (Int × ByteArray × Int))) := loopN (exec laws_toBookingS.E laws_toBookingS.keep n (bodyOf (laws_toBookingS.at5 n x).1)) (St.norm 0 (laws_toBookingS.keep 5)) (laws_toBookingS.at5 n x).2
set_option maxRecDepth 100000 in
theorem laws_toBookingS.lem9 (n : Nat) (x : (List (Int × ByteArray × Int)) × Bool) : ∀ (k : Nat) (a0 : List (Int × ByteArray × Int)) (i7 : Int) (out5 : List (Int × ByteArray × Int)), laws_toBookingS.LN9 n x k (laws_toBookingS.st9 a0 i7 out5) = laws_toBookingS.l9 n k a0 i7 out5 := by
  intro k
  induction k with
  | zero => intro a0 i7 out5; rfl
  | succ k ih =>
    intro a0 i7 out5
    have h : laws_toBookingS.LN9 n x (k + 1) (laws_toBookingS.st9 a0 i7 out5) = laws_toBookingS.g9 (fun a0 i7 out5 => laws_toBookingS.LN9 n x k (laws_toBookingS.st9 a0 i7 out5)) a0 i7 out5 := by kernel_rfl
    rw [h]
    simp only [ih]
    rfl
set_option maxRecDepth 100000 in
theorem laws_toBookingS.lem5 (n : Nat) (x : (List (Int × ByteArray × Int)) × Bool) : ∀ (k : Nat) (a0 : List (Int × ByteArray × Int)) (i6 : Int) (out5 : List (Int × ByteArray × Int)), laws_toBookingS.LN5 n x k (laws_toBookingS.st5 a0 i6 out5) = laws_toBookingS.l5 n k a0 i6 out5 := by
  intro k
  induction k with
  | zero => intro a0 i6 out5; rfl
  | succ k ih =>
    intro a0 i6 out5
    have h : laws_toBookingS.LN5 n x (k + 1) (laws_toBookingS.st5 a0 i6 out5) = laws_toBookingS.g5 (fun a0 i7 out5 => laws_toBookingS.LN9 n x n (laws_toBookingS.st9 a0 i7 out5)) (fun a0 i6 out5 => laws_toBookingS.LN5 n x k (laws_toBookingS.st5 a0 i6 out5)) a0 i6 out5 := by kernel_rfl
    rw [h]
    simp only [ih, laws_toBookingS.lem9]
    rfl
set_option maxRecDepth 100000 in
theorem laws_toBookingS.body (n : Nat) (x : (List (Int × ByteArray × Int)) × Bool) : bodyF laws_toBookingS.E laws_toBookingS.keep n Try.f36 laws_toBookingS.con x = laws_toBookingS.fn n x.1 x.2 := by
  have h : bodyF laws_toBookingS.E laws_toBookingS.keep n Try.f36 laws_toBookingS.con x = laws_toBookingS.top (fun a0 i6 out5 => laws_toBookingS.LN5 n x n (laws_toBookingS.st5 a0 i6 out5)) x.1 x.2 := by kernel_rfl
  rw [h]
  simp only [laws_toBookingS.lem5]
  rfl
set_option maxRecDepth 100000 in
theorem laws_toBookingS.good : Good Try.prog 36 laws_toBookingS.con :=
  good_of tabok (cs := laws_toBookingS.cs) ⟨laws_roomBehind.good, laws_toBooking.good, laws_fillerBooking.good, trivial⟩ 0 true (fn := Try.f36) Try.func36 rfl (by decide) (by simp [laws_toBookingS.con]) laws_toBookingS.keep NN (fun _ => rfl) (fun x => laws_toBookingS.body NN x)
end
end Go.Ev.Try

namespace Go.Ev.Try
open Go.Proofs Go.Pl
set_option linter.unusedVariables false
noncomputable section
def laws_toMove.con : Con := { ps := [(.val, (.pair (.int .i64) (.pair .str (.int .i64))))], rs := [(.own, (.pair (.int .i64) (.pair .str (.int .i64))))], F := fun x => laws_toMove.f x }
def laws_toMove.cs : List (FuncId × Con) := []
def laws_toMove.E : Env := envOf tab laws_toMove.cs 0 true
def laws_toMove.keep (i : Nat) : List Nat := []
set_option maxRecDepth 100000 in
theorem laws_toMove.body (n : Nat) (x : Int × ByteArray × Int) : bodyF laws_toMove.E laws_toMove.keep n Try.f108 laws_toMove.con x = laws_toMove.fn n x := by
  have h : bodyF laws_toMove.E laws_toMove.keep n Try.f108 laws_toMove.con x = laws_toMove.top x := by kernel_rfl
  exact h
set_option maxRecDepth 100000 in
theorem laws_toMove.good : Good Try.prog 108 laws_toMove.con :=
  good_of tabok (cs := laws_toMove.cs) trivial 0 true (fn := Try.f108) Try.func108 rfl (by decide) (by simp [laws_toMove.con]) laws_toMove.keep NN (fun _ => rfl) (fun x => laws_toMove.body NN x)
end
end Go.Ev.Try

namespace Go.Ev.Try
open Go.Proofs Go.Pl
set_option linter.unusedVariables false
noncomputable section
def laws_fillerMove.con : Con := { ps := [], rs := [(.val, (.pair (.int .i64) (.pair .str (.int .i64))))], F := fun x => laws_fillerMove.f  }
def laws_fillerMove.cs : List (FuncId × Con) := []
def laws_fillerMove.E : Env := envOf tab laws_fillerMove.cs 0 false
def laws_fillerMove.keep (i : Nat) : List Nat := []
set_option maxRecDepth 100000 in
theorem laws_fillerMove.body (n : Nat) (x : Unit) : bodyF laws_fillerMove.E laws_fillerMove.keep n Try.f109 laws_fillerMove.con x = laws_fillerMove.fn n  := by
  have h : bodyF laws_fillerMove.E laws_fillerMove.keep n Try.f109 laws_fillerMove.con x = laws_fillerMove.top  := by kernel_rfl
  exact h
set_option maxRecDepth 100000 in
theorem laws_fillerMove.good : Good Try.prog 109 laws_fillerMove.con :=
  good_of tabok (cs := laws_fillerMove.cs) trivial 0 false (fn := Try.f109) Try.func109 rfl (by decide) (by simp [laws_fillerMove.con]) laws_fillerMove.keep NN (fun _ => rfl) (fun x => laws_fillerMove.body NN x)
end
end Go.Ev.Try

namespace Go.Ev.Try
open Go.Proofs Go.Pl
set_option linter.unusedVariables false
noncomputable section
def laws_toMoveS.st9 (a0 : List (Int × ByteArray × Int)) (i7 : Int) (out5 : List (Int × ByteArray × Int)) : St := ⟨[.dat (.sl 147 (.pair (.int .i64) (.pair .str (.int .i64)))) a0, .gone, .gone, .gone, .gone, .ref 0, .gone, .dat (.int .i64) i7, .gone, .gone, .gone, .gone, .gone, .gone, .gone, .gone, .gone, .gone, .gone, .gone, .gone, .gone, .gone, .gone, .gone, .gone, .gone, .gone, .gone, .gone, .gone, .gone, .gone, .gone, .gone, .gone, .gone, .gone, .gone, .gone, .gone, .gone, .gone, .gone, .gone, .gone, .gone, .gone, .gone, .gone, .gone], [.row 148 (.pair (.int .i64) (.pair .str (.int .i64))) out5 none]⟩
def laws_toMoveS.st5 (a0 : List (Int × ByteArray × Int)) (i6 : Int) (out5 : List (Int × ByteArray × Int)) : St := ⟨[.dat (.sl 147 (.pair (.int .i64) (.pair .str (.int .i64)))) a0, .gone, .gone, .gone, .gone, .ref 0, .dat (.int .i64) i6, .gone, .gone, .gone, .gone, .gone, .gone, .gone, .gone, .gone, .gone, .gone, .gone, .gone, .gone, .gone, .gone, .gone, .gone, .gone, .gone, .gone, .gone, .gone, .gone, .gone, .gone, .gone, .gone, .gone, .gone, .gone, .gone, .gone, .gone, .gone, .gone, .gone, .gone, .gone, .gone, .gone, .gone, .gone, .gone], [.row 148 (.pair (.int .i64) (.pair .str (.int .i64))) out5 none]⟩
def laws_toMoveS.con : Con := { ps := [(.val, (.sl 147 (.pair (.int .i64) (.pair .str (.int .i64))))), (.val, .bool)], rs := [(.own, (.slb 148 (.pair (.int .i64) (.pair .str (.int .i64)))))], F := fun x => laws_toMoveS.f x.1 x.2 }
def laws_toMoveS.cs : List (FuncId × Con) := [(64, laws_roomBehind.con), (108, laws_toMove.con), (109, laws_fillerMove.con)]
def laws_toMoveS.E : Env := envOf tab laws_toMoveS.cs 0 true
def laws_toMoveS.keep (i : Nat) : List Nat := if i = 9 then [0, 5, 7] else if i = 5 then [0, 5, 6] else []
def laws_toMoveS.at9 (n : Nat) (x : (List (Int × ByteArray × Int)) × Bool) : Code × (Ex → St → Option ((List (Int × ByteArray × Int) × List (Int × ByteArray × Int)))) := ctx laws_toMoveS.E laws_toMoveS.keep n [.snd, .snd, .snd, .snd, .fst, .snd, .blk] (codeOf Try.f52) (kEnd laws_toMoveS.E Try.f52 laws_toMoveS.con x)
def laws_toMoveS.LN9 (n : Nat) (x : (List (Int × ByteArray × Int)) × Bool) : Nat → St → Option ((List (Int × ByteArray × Int) × List (Int × ByteArray × Int))) := loopN (exec laws_toMoveS.E laws_toMoveS.keep n (bodyOf (laws_toMoveS.at9 n x).1)) (St.norm 0 (laws_toMoveS.keep 9)) (laws_toMoveS.at9 n x).2
def laws_toMoveS.at5 (n : Nat) (x : (List (Int × ByteArray × Int)) × Bool) : Code × (Ex → St → Option ((List (Int × ByteArray × Int) × List (Int × ByteArray × Int)))) := ctx laws_toMoveS.E laws_toMoveS.keep n [.snd, .snd, .snd, .fst, .snd, .blk] (codeOf Try.f52) (kEnd laws_toMoveS.E Try.f52 laws_toMoveS.con x)
def laws_toMoveS.LN5 (n : Nat) (x : (List (Int × ByteArray × Int)) × Bool) : Nat → St → Option ((List (Int × ByteArray × Int) × List (Int × ByteArray × Int))) := loopN (exec laws_toMoveS.E laws_toMoveS.keep n (bodyOf (laws_toMoveS.at5 n x).1)) (St.norm 0 (laws_toMoveS.keep 5)) (laws_toMoveS.at5 n x).2
set_option maxRecDepth 100000 in
theorem laws_toMoveS.lem9 (n : Nat) (x : (List (Int × ByteArray × Int)) × Bool) : ∀ (k : Nat) (a0 : List (Int × ByteArray × Int)) (i7 : Int) (out5 : List (Int × ByteArray × Int)), laws_toMoveS.LN9 n x k (laws_toMoveS.st9 a0 i7 out5) = laws_toMoveS.l9 n k a0 i7 out5 := by
  intro k
  induction k with
  | zero => intro a0 i7 out5; rfl
  | succ k ih =>
    intro a0 i7 out5
    have h : laws_toMoveS.LN9 n x (k + 1) (laws_toMoveS.st9 a0 i7 out5) = laws_toMoveS.g9 (fun a0 i7 out5 => laws_toMoveS.LN9 n x k (laws_toMoveS.st9 a0 i7 out5)) a0 i7 out5 := by kernel_rfl
    rw [h]
    simp only [ih]
    rfl
set_option maxRecDepth 100000 in
theorem laws_toMoveS.lem5 (n : Nat) (x : (List (Int × ByteArray × Int)) × Bool) : ∀ (k : Nat) (a0 : List (Int × ByteArray × Int)) (i6 : Int) (out5 : List (Int × ByteArray × Int)), laws_toMoveS.LN5 n x k (laws_toMoveS.st5 a0 i6 out5) = laws_toMoveS.l5 n k a0 i6 out5 := by
  intro k
  induction k with
  | zero => intro a0 i6 out5; rfl
  | succ k ih =>
    intro a0 i6 out5
    have h : laws_toMoveS.LN5 n x (k + 1) (laws_toMoveS.st5 a0 i6 out5) = laws_toMoveS.g5 (fun a0 i7 out5 => laws_toMoveS.LN9 n x n (laws_toMoveS.st9 a0 i7 out5)) (fun a0 i6 out5 => laws_toMoveS.LN5 n x k (laws_toMoveS.st5 a0 i6 out5)) a0 i6 out5 := by kernel_rfl
    rw [h]
    simp only [ih, laws_toMoveS.lem9]
    rfl
set_option maxRecDepth 100000 in
theorem laws_toMoveS.body (n : Nat) (x : (List (Int × ByteArray × Int)) × Bool) : bodyF laws_toMoveS.E laws_toMoveS.keep n Try.f52 laws_toMoveS.con x = laws_toMoveS.fn n x.1 x.2 := by
  have h : bodyF laws_toMoveS.E laws_toMoveS.keep n Try.f52 laws_toMoveS.con x = laws_toMoveS.top (fun a0 i6 out5 => laws_toMoveS.LN5 n x n (laws_toMoveS.st5 a0 i6 out5)) x.1 x.2 := by kernel_rfl
  rw [h]
  simp only [laws_toMoveS.lem5]
  rfl
set_option maxRecDepth 100000 in
theorem laws_toMoveS.good : Good Try.prog 52 laws_toMoveS.con :=
  good_of tabok (cs := laws_toMoveS.cs) ⟨laws_roomBehind.good, laws_toMove.good, laws_fillerMove.good, trivial⟩ 0 true (fn := Try.f52) Try.func52 rfl (by decide) (by simp [laws_toMoveS.con]) laws_toMoveS.keep NN (fun _ => rfl) (fun x => laws_toMoveS.body NN x)
end
end Go.Ev.Try

namespace Go.Ev.Try
open Go.Proofs Go.Pl
set_option linter.unusedVariables false
noncomputable section
def laws_toSignal.con : Con := { ps := [(.val, (.pair (.int .i64) (.int .i64)))], rs := [(.own, (.pair (.int .i64) (.int .i64)))], F := fun x => laws_toSignal.f x }
def laws_toSignal.cs : List (FuncId × Con) := []
def laws_toSignal.E : Env := envOf tab laws_toSignal.cs 0 true
def laws_toSignal.keep (i : Nat) : List Nat := []
set_option maxRecDepth 100000 in
theorem laws_toSignal.body (n : Nat) (x : Int × Int) : bodyF laws_toSignal.E laws_toSignal.keep n Try.f110 laws_toSignal.con x = laws_toSignal.fn n x := by
  have h : bodyF laws_toSignal.E laws_toSignal.keep n Try.f110 laws_toSignal.con x = laws_toSignal.top x := by kernel_rfl
  exact h
set_option maxRecDepth 100000 in
theorem laws_toSignal.good : Good Try.prog 110 laws_toSignal.con :=
  good_of tabok (cs := laws_toSignal.cs) trivial 0 true (fn := Try.f110) Try.func110 rfl (by decide) (by simp [laws_toSignal.con]) laws_toSignal.keep NN (fun _ => rfl) (fun x => laws_toSignal.body NN x)
end
end Go.Ev.Try

namespace Go.Ev.Try
open Go.Proofs Go.Pl
set_option linter.unusedVariables false
noncomputable section
def laws_fillerSignal.con : Con := { ps := [], rs := [(.val, (.pair (.int .i64) (.int .i64)))], F := fun x => laws_fillerSignal.f  }
def laws_fillerSignal.cs : List (FuncId × Con) := []
def laws_fillerSignal.E : Env := envOf tab laws_fillerSignal.cs 0 false
def laws_fillerSignal.keep (i : Nat) : List Nat := []
set_option maxRecDepth 100000 in
theorem laws_fillerSignal.body (n : Nat) (x : Unit) : bodyF laws_fillerSignal.E laws_fillerSignal.keep n Try.f111 laws_fillerSignal.con x = laws_fillerSignal.fn n  := by
  have h : bodyF laws_fillerSignal.E laws_fillerSignal.keep n Try.f111 laws_fillerSignal.con x = laws_fillerSignal.top  := by kernel_rfl
  exact h
set_option maxRecDepth 100000 in
theorem laws_fillerSignal.good : Good Try.prog 111 laws_fillerSignal.con :=
  good_of tabok (cs := laws_fillerSignal.cs) trivial 0 false (fn := Try.f111) Try.func111 rfl (by decide) (by simp [laws_fillerSignal.con]) laws_fillerSignal.keep NN (fun _ => rfl) (fun x => laws_fillerSignal.body NN x)
end
end Go.Ev.Try

namespace Go.Ev.Try
open Go.Proofs Go.Pl
set_option linter.unusedVariables false
noncomputable section
def laws_toSignalS.st9 (a0 : List (Int × Int)) (i7 : Int) (out5 : List (Int × Int)) : St := ⟨[.dat (.sl 158 (.pair (.int .i64) (.int .i64))) a0, .gone, .gone, .gone, .gone, .ref 0, .gone, .dat (.int .i64) i7, .gone, .gone, .gone, .gone, .gone, .gone, .gone, .gone, .gone, .gone, .gone, .gone, .gone, .gone, .gone, .gone, .gone, .gone, .gone, .gone, .gone, .gone, .gone, .gone, .gone, .gone, .gone, .gone, .gone, .gone, .gone, .gone, .gone, .gone, .gone, .gone, .gone, .gone, .gone, .gone, .gone, .gone, .gone], [.row 153 (.pair (.int .i64) (.int .i64)) out5 none]⟩
def laws_toSignalS.st5 (a0 : List (Int × Int)) (i6 : Int) (out5 : List (Int × Int)) : St := ⟨[.dat (.sl 158 (.pair (.int .i64) (.int .i64))) a0, .gone, .gone, .gone, .gone, .ref 0, .dat (.int .i64) i6, .gone, .gone, .gone, .gone, .gone, .gone, .gone, .gone, .gone, .gone, .gone, .gone, .gone, .gone, .gone, .gone, .gone, .gone, .gone, .gone, .gone, .gone, .gone, .gone, .gone, .gone, .gone, .gone, .gone, .gone, .gone, .gone, .gone, .gone, .gone, .gone, .gone, .gone, .gone, .gone, .gone, .gone, .gone, .gone], [.row 153 (.pair (.int .i64) (.int .i64)) out5 none]⟩
def laws_toSignalS.con : Con := { ps := [(.val, (.sl 158 (.pair (.int .i64) (.int .i64)))), (.val, .bool)], rs := [(.own, (.slb 153 (.pair (.int .i64) (.int .i64))))], F := fun x => laws_toSignalS.f x.1 x.2 }
def laws_toSignalS.cs : List (FuncId × Con) := [(64, laws_roomBehind.con), (110, laws_toSignal.con), (111, laws_fillerSignal.con)]
def laws_toSignalS.E : Env := envOf tab laws_toSignalS.cs 0 true
def laws_toSignalS.keep (i : Nat) : List Nat := if i = 9 then [0, 5, 7] else if i = 5 then [0, 5, 6] else []
def laws_toSignalS.at9 (n : Nat) (x : (List (Int × Int)) × Bool) : Code × (Ex → St → Option ((List (Int × Int) × List (Int × Int)))) := ctx laws_toSignalS.E laws_toSignalS.keep n [.snd, .snd, .snd, .snd, .fst, .snd, .blk] (codeOf Try.f53) (kEnd laws_toSignalS.E Try.f53 laws_toSignalS.con x)
def laws_toSignalS.LN9 (n : Nat) (x : (List (Int × Int)) × Bool) : Nat → St → Option ((List (Int × Int) × List (Int × Int))) := loopN (exec laws_toSignalS.E laws_toSignalS.keep n (bodyOf (laws_toSignalS.at9 n x).1)) (St.norm 0 (laws_toSignalS.keep 9)) (laws_toSignalS.at9 n x).2
def laws_toSignalS.at5 (n : Nat) (x : (List (Int × Int)) × Bool) : Code × (Ex → St → Option ((List (Int × Int) × List (Int × Int)))) := ctx laws_toSignalS.E laws_toSignalS.keep n [.snd, .snd, .snd, .fst, .snd, .blk] (codeOf Try.f53) (kEnd laws_toSignalS.E Try.f53 laws_toSignalS.con x)
def laws_toSignalS.LN5 (n : Nat) (x : (List (Int × Int)) × Bool) : Nat → St → Option ((List (Int × Int) × List (Int × Int))) := loopN (exec laws_toSignalS.E laws_toSignalS.keep n (bodyOf (laws_toSignalS.at5 n x).1)) (St.norm 0 (laws_toSignalS.keep 5)) (laws_toSignalS.at5 n x).2
set_option maxRecDepth 100000 in
theorem laws_toSignalS.lem9 (n : Nat) (x : (List (Int × Int)) × Bool) : ∀ (k : Nat) (a0 : List (Int × Int)) (i7 : Int) (out5 : List (Int × Int)), laws_toSignalS.LN9 n x k (laws_toSignalS.st9 a0 i7 out5) = laws_toSignalS.l9 n k a0 i7 out5 := by
  intro k
  induction k with
  | zero => intro a0 i7 out5; rfl
  | succ k ih =>
    intro a0 i7 out5
    have h : laws_toSignalS.LN9 n x (k + 1) (laws_toSignalS.st9 a0 i7 out5) = laws_toSignalS.g9 (fun a0 i7 out5 => laws_toSignalS.LN9 n x k (laws_toSignalS.st9 a0 i7 out5)) a0 i7 out5 := by kernel_rfl
    rw [h]
    simp only [ih]
    rfl
set_option maxRecDepth 100000 in
theorem laws_toSignalS.lem5 (n : Nat) (x : (List (Int × Int)) × Bool) : ∀ (k : Nat) (a0 : List (Int × Int)) (i6 : Int) (out5 : List (Int × Int)), laws_toSignalS.LN5 n x k (laws_toSignalS.st5 a0 i6 out5) = laws_toSignalS.l5 n k a0 i6 out5 := by
  intro k
  induction k with
  | zero => intro a0 i6 out5; rfl
  | succ k ih =>
    intro a0 i6 out5
    have h : laws_toSignalS.LN5 n x (k + 1) (laws_toSignalS.st5 a0 i6 out5) = laws_toSignalS.g5 (fun a0 i7 out5 => laws_toSignalS.LN9 n x n (laws_toSignalS.st9 a0 i7 out5)) (fun a0 i6 out5 => laws_toSignalS.LN5 n x k (laws_toSignalS.st5 a0 i6 out5)) a0 i6 out5 := by kernel_rfl
    rw [h]
    simp only [ih, laws_toSignalS.lem9]
    rfl
set_option maxRecDepth 100000 in
theorem laws_toSignalS.body (n : Nat) (x : (List (Int × Int)) × Bool) : bodyF laws_toSignalS.E laws_toSignalS.keep n Try.f53 laws_toSignalS.con x = laws_toSignalS.fn n x.1 x.2 := by
  have h : bodyF laws_toSignalS.E laws_toSignalS.keep n Try.f53 laws_toSignalS.con x = laws_toSignalS.top (fun a0 i6 out5 => laws_toSignalS.LN5 n x n (laws_toSignalS.st5 a0 i6 out5)) x.1 x.2 := by kernel_rfl
  rw [h]
  simp only [laws_toSignalS.lem5]
  rfl
set_option maxRecDepth 100000 in
theorem laws_toSignalS.good : Good Try.prog 53 laws_toSignalS.con :=
  good_of tabok (cs := laws_toSignalS.cs) ⟨laws_roomBehind.good, laws_toSignal.good, laws_fillerSignal.good, trivial⟩ 0 true (fn := Try.f53) Try.func53 rfl (by decide) (by simp [laws_toSignalS.con]) laws_toSignalS.keep NN (fun _ => rfl) (fun x => laws_toSignalS.body NN x)
end
end Go.Ev.Try

namespace Go.Ev.Try
open Go.Proofs Go.Pl
set_option linter.unusedVariables false
noncomputable section
def laws_toDesk.con : Con := { ps := [(.val, (.pair (.sl 147 (.pair (.int .i64) (.pair .str (.int .i64)))) (.pair (.sl 158 (.pair (.int .i64) (.int .i64))) (.sl 133 (.pair (.int .i64) (.pair .str (.int .i64))))))), (.val, .bool)], rs := [(.own, (.pair (.slb 148 (.pair (.int .i64) (.pair .str (.int .i64)))) (.pair (.slb 153 (.pair (.int .i64) (.int .i64))) (.slb 127 (.pair (.int .i64) (.pair .str (.int .i64)))))))], F := fun x => laws_toDesk.f x.1 x.2 }
def laws_toDesk.cs : List (FuncId × Con) := [(36, laws_toBookingS.con), (52, laws_toMoveS.con), (53, laws_toSignalS.con)]
def laws_toDesk.E : Env := envOf tab laws_toDesk.cs 0 true
def laws_toDesk.keep (i : Nat) : List Nat := []
set_option maxRecDepth 100000 in
theorem laws_toDesk.body (n : Nat) (x : ((List (Int × ByteArray × Int)) × (List (Int × Int)) × List (Int × ByteArray × Int)) × Bool) : bodyF laws_toDesk.E laws_toDesk.keep n Try.f9 laws_toDesk.con x = laws_toDesk.fn n x.1 x.2 := by
  have h : bodyF laws_toDesk.E laws_toDesk.keep n Try.f9 laws_toDesk.con x = laws_toDesk.top x.1 x.2 := by kernel_rfl
  exact h
set_option maxRecDepth 100000 in
theorem laws_toDesk.good : Good Try.prog 9 laws_toDesk.con :=
  good_of tabok (cs := laws_toDesk.cs) ⟨laws_toBookingS.good, laws_toMoveS.good, laws_toSignalS.good, trivial⟩ 0 true (fn := Try.f9) Try.func9 rfl (by decide) (by simp [laws_toDesk.con]) laws_toDesk.keep NN (fun _ => rfl) (fun x => laws_toDesk.body NN x)
end
end Go.Ev.Try

namespace Go.Ev.Try
open Go.Proofs Go.Pl
set_option linter.unusedVariables false
noncomputable section
def impl_IsWord.st4 (s0 : ByteArray) (i3 : Int) : St := ⟨[.dat .str s0, .gone, .gone, .dat (.int .i64) i3, .gone, .gone, .gone, .gone, .gone, .gone, .gone, .gone, .gone, .gone, .gone, .gone, .gone, .gone, .gone, .gone, .gone, .gone, .gone, .gone, .gone, .gone, .gone, .gone], []⟩
def impl_IsWord.con : Con := { ps := [(.val, .str)], rs := [(.val, .bool)], F := fun x => impl_IsWord.f x }
def impl_IsWord.cs : List (FuncId × Con) := []
def impl_IsWord.E : Env := envOf tab impl_IsWord.cs 0 false
def impl_IsWord.keep (i : Nat) : List Nat := if i = 4 then [0, 3] else []
def impl_IsWord.at4 (n : Nat) (x : ByteArray) : Code × (Ex → St → Option (Bool)) := ctx impl_IsWord.E impl_IsWord.keep n [.snd, .snd, .fst, .snd, .blk] (codeOf Try.f87) (kEnd impl_IsWord.E Try.f87 impl_IsWord.con x)
def impl_IsWord.LN4 (n : Nat) (x : ByteArray) : Nat → St → Option (Bool) := loopN (exec impl_IsWord.E impl_IsWord.keep n (bodyOf (impl_IsWord.at4 n x).1)) (St.norm 0 (impl_IsWord.keep 4)) (impl_IsWord.at4 n x).2
set_option maxRecDepth 100000 in
theorem impl_IsWord.lem4 (n : Nat) (x : ByteArray) : ∀ (k : Nat) (s0 : ByteArray) (i3 : Int), impl_IsWord.LN4 n x k (impl_IsWord.st4 s0 i3) = impl_IsWord.l4 n k s0 i3 := by
  intro k
  induction k with
  | zero => intro s0 i3; rfl
  | succ k ih =>
    intro s0 i3
    have h : impl_IsWord.LN4 n x (k + 1) (impl_IsWord.st4 s0 i3) = impl_IsWord.g4 (fun s0 i3 => impl_IsWord.LN4 n x k (impl_IsWord.st4 s0 i3)) s0 i3 := by kernel_rfl
    rw [h]
    simp only [ih]
    rfl
set_option maxRecDepth 100000 in
theorem impl_IsWord.body (n : Nat) (x : ByteArray) : bodyF impl_IsWord.E impl_IsWord.keep n Try.f87 impl_IsWord.con x = impl_IsWord.fn n x := by
  have h : bodyF impl_IsWord.E impl_IsWord.keep n Try.f87 impl_IsWord.con x = impl_IsWord.top (fun s0 i3 => impl_IsWord.LN4 n x n (impl_IsWord.st4 s0 i3)) x := by kernel_rfl
  rw [h]
  simp only [impl_IsWord.lem4]
  rfl
set_option maxRecDepth 100000 in
theorem impl_IsWord.good : Good Try.prog 87 impl_IsWord.con :=
  good_of tabok (cs := impl_IsWord.cs) trivial 0 false (fn := Try.f87) Try.func87 rfl (by decide) (by simp [impl_IsWord.con]) impl_IsWord.keep NN (fun _ => rfl) (fun x => impl_IsWord.body NN x)
end
end Go.Ev.Try

namespace Go.Ev.Try
open Go.Proofs Go.Pl
set_option linter.unusedVariables false
noncomputable section
def impl_within.con : Con := { ps := [(.val, (.int .i64)), (.val, (.int .i64)), (.val, (.int .i64))], rs := [(.val, .bool)], F := fun x => impl_within.f x.1 x.2.1 x.2.2 }
def impl_within.cs : List (FuncId × Con) := []
def impl_within.E : Env := envOf tab impl_within.cs 0 false
def impl_within.keep (i : Nat) : List Nat := []
set_option maxRecDepth 100000 in
theorem impl_within.body (n : Nat) (x : Int × Int × Int) : bodyF impl_within.E impl_within.keep n Try.f113 impl_within.con x = impl_within.fn n x.1 x.2.1 x.2.2 := by
  have h : bodyF impl_within.E impl_within.keep n Try.f113 impl_within.con x = impl_within.top x.1 x.2.1 x.2.2 := by kernel_rfl
  exact h
set_option maxRecDepth 100000 in
theorem impl_within.good : Good Try.prog 113 impl_within.con :=
  good_of tabok (cs := impl_within.cs) trivial 0 false (fn := Try.f113) Try.func113 rfl (by decide) (by simp [impl_within.con]) impl_within.keep NN (fun _ => rfl) (fun x => impl_within.body NN x)
end
end Go.Ev.Try

namespace Go.Ev.Try
open Go.Proofs Go.Pl
set_option linter.unusedVariables false
noncomputable section
def impl_isTime.con : Con := { ps := [(.val, (.int .i64))], rs := [(.val, .bool)], F := fun x => impl_isTime.f x }
def impl_isTime.cs : List (FuncId × Con) := [(113, impl_within.con)]
def impl_isTime.E : Env := envOf tab impl_isTime.cs 0 false
def impl_isTime.keep (i : Nat) : List Nat := []
set_option maxRecDepth 100000 in
theorem impl_isTime.body (n : Nat) (x : Int) : bodyF impl_isTime.E impl_isTime.keep n Try.f112 impl_isTime.con x = impl_isTime.fn n x := by
  have h : bodyF impl_isTime.E impl_isTime.keep n Try.f112 impl_isTime.con x = impl_isTime.top x := by kernel_rfl
  exact h
set_option maxRecDepth 100000 in
theorem impl_isTime.good : Good Try.prog 112 impl_isTime.con :=
  good_of tabok (cs := impl_isTime.cs) ⟨impl_within.good, trivial⟩ 0 false (fn := Try.f112) Try.func112 rfl (by decide) (by simp [impl_isTime.con]) impl_isTime.keep NN (fun _ => rfl) (fun x => impl_isTime.body NN x)
end
end Go.Ev.Try

namespace Go.Ev.Try
open Go.Proofs Go.Pl
set_option linter.unusedVariables false
noncomputable section
def impl_peopleIn.st3 (zone1 : ByteArray) (t2 : Int) (sum7 : Int) (v10 : List (Int × ByteArray × Int)) (v11 : Int) (v12 : Int) : St := ⟨[.gone, .dat .str zone1, .dat (.int .i64) t2, .gone, .gone, .gone, .gone, .dat (.int .i64) sum7, .gone, .gone, .dat (.sl 148 (.pair (.int .i64) (.pair .str (.int .i64)))) v10, .dat (.int .i64) v11, .dat (.int .i64) v12, .gone, .gone, .gone, .gone, .gone, .gone, .gone, .gone, .gone, .gone, .gone, .gone, .gone, .gone, .gone, .gone, .gone, .gone, .gone], []⟩
def impl_peopleIn.con : Con := { ps := [(.val, (.sl 148 (.pair (.int .i64) (.pair .str (.int .i64))))), (.val, .str), (.val, (.int .i64))], rs := [(.val, (.int .i64))], F := fun x => impl_peopleIn.f x.1 x.2.1 x.2.2 }
def impl_peopleIn.cs : List (FuncId × Con) := []
def impl_peopleIn.E : Env := envOf tab impl_peopleIn.cs 0 false
def impl_peopleIn.keep (i : Nat) : List Nat := if i = 3 then [1, 2, 7, 10, 11, 12] else []
def impl_peopleIn.at3 (n : Nat) (x : (List (Int × ByteArray × Int)) × ByteArray × Int) : Code × (Ex → St → Option (Int)) := ctx impl_peopleIn.E impl_peopleIn.keep n [.snd, .snd, .fst, .snd, .blk] (codeOf Try.f114) (kEnd impl_peopleIn.E Try.f114 impl_peopleIn.con x)
def impl_peopleIn.LN3 (n : Nat) (x : (List (Int × ByteArray × Int)) × ByteArray × Int) : Nat → St → Option (Int) := loopN (exec impl_peopleIn.E impl_peopleIn.keep n (bodyOf (impl_peopleIn.at3 n x).1)) (St.norm 0 (impl_peopleIn.keep 3)) (impl_peopleIn.at3 n x).2
set_option maxRecDepth 100000 in
theorem impl_peopleIn.lem3 (n : Nat) (x : (List (Int × ByteArray × Int)) × ByteArray × Int) : ∀ (k : Nat) (zone1 : ByteArray) (t2 : Int) (sum7 : Int) (v10 : List (Int × ByteArray × Int)) (v11 : Int) (v12 : Int), impl_peopleIn.LN3 n x k (impl_peopleIn.st3 zone1 t2 sum7 v10 v11 v12) = impl_peopleIn.l3 n k zone1 t2 sum7 v10 v11 v12 := by
  intro k
  induction k with
  | zero => intro zone1 t2 sum7 v10 v11 v12; rfl
  | succ k ih =>
    intro zone1 t2 sum7 v10 v11 v12
    have h : impl_peopleIn.LN3 n x (k + 1) (impl_peopleIn.st3 zone1 t2 sum7 v10 v11 v12) = impl_peopleIn.g3 (fun zone1 t2 sum7 v10 v11 v12 => impl_peopleIn.LN3 n x k (impl_peopleIn.st3 zone1 t2 sum7 v10 v11 v12)) zone1 t2 sum7 v10 v11 v12 := by kernel_rfl
    rw [h]
    simp only [ih]
    rfl
set_option maxRecDepth 100000 in
theorem impl_peopleIn.body (n : Nat) (x : (List (Int × ByteArray × Int)) × ByteArray × Int) : bodyF impl_peopleIn.E impl_peopleIn.keep n Try.f114 impl_peopleIn.con x = impl_peopleIn.fn n x.1 x.2.1 x.2.2 := by
  have h : bodyF impl_peopleIn.E impl_peopleIn.keep n Try.f114 impl_peopleIn.con x = impl_peopleIn.top (fun zone1 t2 sum7 v10 v11 v12 => impl_peopleIn.LN3 n x n (impl_peopleIn.st3 zone1 t2 sum7 v10 v11 v12)) x.1 x.2.1 x.2.2 := by kernel_rfl
  rw [h]
  simp only [impl_peopleIn.lem3]
  rfl
set_option maxRecDepth 100000 in
theorem impl_peopleIn.good : Good Try.prog 114 impl_peopleIn.con :=
  good_of tabok (cs := impl_peopleIn.cs) trivial 0 false (fn := Try.f114) Try.func114 rfl (by decide) (by simp [impl_peopleIn.con]) impl_peopleIn.keep NN (fun _ => rfl) (fun x => impl_peopleIn.body NN x)
end
end Go.Ev.Try

namespace Go.Ev.Try
open Go.Proofs Go.Pl
set_option linter.unusedVariables false
noncomputable section
def impl_AreMoves.st4 (list0 : List (Int × ByteArray × Int)) (v8 : List (Int × ByteArray × Int)) (v9 : Int) (v10 : Int) : St := ⟨[.dat (.sl 148 (.pair (.int .i64) (.pair .str (.int .i64)))) list0, .gone, .gone, .gone, .gone, .gone, .gone, .gone, .dat (.sl 148 (.pair (.int .i64) (.pair .str (.int .i64)))) v8, .dat (.int .i64) v9, .dat (.int .i64) v10, .gone, .gone, .gone, .gone, .gone, .gone, .gone, .gone, .gone, .gone, .gone, .gone, .gone, .gone, .gone, .gone, .gone, .gone, .gone, .gone, .gone, .gone, .gone, .gone, .gone, .gone, .gone, .gone, .gone, .gone, .gone, .gone, .gone, .gone, .gone, .gone, .gone, .gone, .gone, .gone, .gone, .gone, .gone, .gone, .gone, .gone, .gone, .gone, .gone, .gone, .gone], []⟩
def impl_AreMoves.con : Con := { ps := [(.val, (.sl 148 (.pair (.int .i64) (.pair .str (.int .i64)))))], rs := [(.val, .bool)], F := fun x => impl_AreMoves.f x }
def impl_AreMoves.cs : List (FuncId × Con) := [(87, impl_IsWord.con), (112, impl_isTime.con), (113, impl_within.con), (114, impl_peopleIn.con)]
def impl_AreMoves.E : Env := envOf tab impl_AreMoves.cs 0 false
def impl_AreMoves.keep (i : Nat) : List Nat := if i = 4 then [0, 8, 9, 10] else []
def impl_AreMoves.at4 (n : Nat) (x : List (Int × ByteArray × Int)) : Code × (Ex → St → Option (Bool)) := ctx impl_AreMoves.E impl_AreMoves.keep n [.snd, .snd, .fst, .snd, .blk] (codeOf Try.f54) (kEnd impl_AreMoves.E Try.f54 impl_AreMoves.con x)
def impl_AreMoves.LN4 (n : Nat) (x : List (Int × ByteArray × Int)) : Nat → St → Option (Bool) := loopN (exec impl_AreMoves.E impl_AreMoves.keep n (bodyOf (impl_AreMoves.at4 n x).1)) (St.norm 0 (impl_AreMoves.keep 4)) (impl_AreMoves.at4 n x).2
set_option maxRecDepth 100000 in
theorem impl_AreMoves.lem4 (n : Nat) (x : List (Int × ByteArray × Int)) : ∀ (k : Nat) (list0 : List (Int × ByteArray × Int)) (v8 : List (Int × ByteArray × Int)) (v9 : Int) (v10 : Int), impl_AreMoves.LN4 n x k (impl_AreMoves.st4 list0 v8 v9 v10) = impl_AreMoves.l4 n k list0 v8 v9 v10 := by
  intro k
  induction k with
  | zero => intro list0 v8 v9 v10; rfl
  | succ k ih =>
    intro list0 v8 v9 v10
    have h : impl_AreMoves.LN4 n x (k + 1) (impl_AreMoves.st4 list0 v8 v9 v10) = impl_AreMoves.g4 (fun list0 v8 v9 v10 => impl_AreMoves.LN4 n x k (impl_AreMoves.st4 list0 v8 v9 v10)) list0 v8 v9 v10 := by kernel_rfl
    rw [h]
    simp only [ih]
    rfl
set_option maxRecDepth 100000 in
theorem impl_AreMoves.body (n : Nat) (x : List (Int × ByteArray × Int)) : bodyF impl_AreMoves.E impl_AreMoves.keep n Try.f54 impl_AreMoves.con x = impl_AreMoves.fn n x := by
  have h : bodyF impl_AreMoves.E impl_AreMoves.keep n Try.f54 impl_AreMoves.con x = impl_AreMoves.top (fun list0 v8 v9 v10 => impl_AreMoves.LN4 n x n (impl_AreMoves.st4 list0 v8 v9 v10)) x := by kernel_rfl
  rw [h]
  simp only [impl_AreMoves.lem4]
  rfl
set_option maxRecDepth 100000 in
theorem impl_AreMoves.good : Good Try.prog 54 impl_AreMoves.con :=
  good_of tabok (cs := impl_AreMoves.cs) ⟨impl_IsWord.good, impl_isTime.good, impl_within.good, impl_peopleIn.good, trivial⟩ 0 false (fn := Try.f54) Try.func54 rfl (by decide) (by simp [impl_AreMoves.con]) impl_AreMoves.keep NN (fun _ => rfl) (fun x => impl_AreMoves.body NN x)
end
end Go.Ev.Try

namespace Go.Ev.Try
open Go.Proofs Go.Pl
set_option linter.unusedVariables false
noncomputable section
def impl_isTick.con : Con := { ps := [(.val, (.int .i64))], rs := [(.val, .bool)], F := fun x => impl_isTick.f x }
def impl_isTick.cs : List (FuncId × Con) := [(113, impl_within.con)]
def impl_isTick.E : Env := envOf tab impl_isTick.cs 0 false
def impl_isTick.keep (i : Nat) : List Nat := []
set_option maxRecDepth 100000 in
theorem impl_isTick.body (n : Nat) (x : Int) : bodyF impl_isTick.E impl_isTick.keep n Try.f115 impl_isTick.con x = impl_isTick.fn n x := by
  have h : bodyF impl_isTick.E impl_isTick.keep n Try.f115 impl_isTick.con x = impl_isTick.top x := by kernel_rfl
  exact h
set_option maxRecDepth 100000 in
theorem impl_isTick.good : Good Try.prog 115 impl_isTick.con :=
  good_of tabok (cs := impl_isTick.cs) ⟨impl_within.good, trivial⟩ 0 false (fn := Try.f115) Try.func115 rfl (by decide) (by simp [impl_isTick.con]) impl_isTick.keep NN (fun _ => rfl) (fun x => impl_isTick.body NN x)
end
end Go.Ev.Try

namespace Go.Ev.Try
open Go.Proofs Go.Pl
set_option linter.unusedVariables false
noncomputable section
def impl_AreSignals.st4 (list0 : List (Int × Int)) (v8 : List (Int × Int)) (v9 : Int) (v10 : Int) : St := ⟨[.dat (.sl 153 (.pair (.int .i64) (.int .i64))) list0, .gone, .gone, .gone, .gone, .gone, .gone, .gone, .dat (.sl 153 (.pair (.int .i64) (.int .i64))) v8, .dat (.int .i64) v9, .dat (.int .i64) v10, .gone, .gone, .gone, .gone, .gone, .gone, .gone, .gone, .gone, .gone, .gone, .gone, .gone, .gone, .gone, .gone, .gone, .gone, .gone, .gone, .gone, .gone, .gone, .gone, .gone, .gone, .gone, .gone, .gone, .gone, .gone, .gone, .gone, .gone, .gone], []⟩
def impl_AreSignals.con : Con := { ps := [(.val, (.sl 153 (.pair (.int .i64) (.int .i64))))], rs := [(.val, .bool)], F := fun x => impl_AreSignals.f x }
def impl_AreSignals.cs : List (FuncId × Con) := [(113, impl_within.con), (115, impl_isTick.con)]
def impl_AreSignals.E : Env := envOf tab impl_AreSignals.cs 0 false
def impl_AreSignals.keep (i : Nat) : List Nat := if i = 4 then [0, 8, 9, 10] else []
def impl_AreSignals.at4 (n : Nat) (x : List (Int × Int)) : Code × (Ex → St → Option (Bool)) := ctx impl_AreSignals.E impl_AreSignals.keep n [.snd, .snd, .fst, .snd, .blk] (codeOf Try.f55) (kEnd impl_AreSignals.E Try.f55 impl_AreSignals.con x)
def impl_AreSignals.LN4 (n : Nat) (x : List (Int × Int)) : Nat → St → Option (Bool) := loopN (exec impl_AreSignals.E impl_AreSignals.keep n (bodyOf (impl_AreSignals.at4 n x).1)) (St.norm 0 (impl_AreSignals.keep 4)) (impl_AreSignals.at4 n x).2
set_option maxRecDepth 100000 in
theorem impl_AreSignals.lem4 (n : Nat) (x : List (Int × Int)) : ∀ (k : Nat) (list0 : List (Int × Int)) (v8 : List (Int × Int)) (v9 : Int) (v10 : Int), impl_AreSignals.LN4 n x k (impl_AreSignals.st4 list0 v8 v9 v10) = impl_AreSignals.l4 n k list0 v8 v9 v10 := by
  intro k
  induction k with
  | zero => intro list0 v8 v9 v10; rfl
  | succ k ih =>
    intro list0 v8 v9 v10
    have h : impl_AreSignals.LN4 n x (k + 1) (impl_AreSignals.st4 list0 v8 v9 v10) = impl_AreSignals.g4 (fun list0 v8 v9 v10 => impl_AreSignals.LN4 n x k (impl_AreSignals.st4 list0 v8 v9 v10)) list0 v8 v9 v10 := by kernel_rfl
    rw [h]
    simp only [ih]
    rfl
set_option maxRecDepth 100000 in
theorem impl_AreSignals.body (n : Nat) (x : List (Int × Int)) : bodyF impl_AreSignals.E impl_AreSignals.keep n Try.f55 impl_AreSignals.con x = impl_AreSignals.fn n x := by
  have h : bodyF impl_AreSignals.E impl_AreSignals.keep n Try.f55 impl_AreSignals.con x = impl_AreSignals.top (fun list0 v8 v9 v10 => impl_AreSignals.LN4 n x n (impl_AreSignals.st4 list0 v8 v9 v10)) x := by kernel_rfl
  rw [h]
  simp only [impl_AreSignals.lem4]
  rfl
set_option maxRecDepth 100000 in
theorem impl_AreSignals.good : Good Try.prog 55 impl_AreSignals.con :=
  good_of tabok (cs := impl_AreSignals.cs) ⟨impl_within.good, impl_isTick.good, trivial⟩ 0 false (fn := Try.f55) Try.func55 rfl (by decide) (by simp [impl_AreSignals.con]) impl_AreSignals.keep NN (fun _ => rfl) (fun x => impl_AreSignals.body NN x)
end
end Go.Ev.Try

namespace Go.Ev.Try
open Go.Proofs Go.Pl
set_option linter.unusedVariables false
noncomputable section
def impl_totalsOf.st3 (article1 : ByteArray) (v9 : List (Int × ByteArray × Int)) (v10 : Int) (v11 : Int) (out5 : List Int) : St := ⟨[.gone, .dat .str article1, .gone, .gone, .gone, .ref 0, .gone, .gone, .gone, .dat (.sl 127 (.pair (.int .i64) (.pair .str (.int .i64)))) v9, .dat (.int .i64) v10, .dat (.int .i64) v11, .gone, .gone, .gone, .gone, .gone, .gone, .gone, .gone, .gone, .gone, .gone, .gone, .gone, .gone, .gone, .gone, .gone, .gone], [.row 2 (.int .i64) out5 none]⟩
def impl_totalsOf.con : Con := { ps := [(.val, (.sl 127 (.pair (.int .i64) (.pair .str (.int .i64))))), (.val, .str)], rs := [(.own, (.sl 2 (.int .i64)))], F := fun x => impl_totalsOf.f x.1 x.2 }
def impl_totalsOf.cs : List (FuncId × Con) := []
def impl_totalsOf.E : Env := envOf tab impl_totalsOf.cs 0 false
def impl_totalsOf.keep (i : Nat) : List Nat := if i = 3 then [1, 5, 9, 10, 11] else []
def impl_totalsOf.at3 (n : Nat) (x : (List (Int × ByteArray × Int)) × ByteArray) : Code × (Ex → St → Option ((List Int))) := ctx impl_totalsOf.E impl_totalsOf.keep n [.snd, .snd, .fst, .snd, .blk] (codeOf Try.f141) (kEnd impl_totalsOf.E Try.f141 impl_totalsOf.con x)
def impl_totalsOf.LN3 (n : Nat) (x : (List (Int × ByteArray × Int)) × ByteArray) : Nat → St → Option ((List Int)) := loopN (exec impl_totalsOf.E impl_totalsOf.keep n (bodyOf (impl_totalsOf.at3 n x).1)) (St.norm 0 (impl_totalsOf.keep 3)) (impl_totalsOf.at3 n x).2
set_option maxRecDepth 100000 in
theorem impl_totalsOf.lem3 (n : Nat) (x : (List (Int × ByteArray × Int)) × ByteArray) : ∀ (k : Nat) (article1 : ByteArray) (v9 : List (Int × ByteArray × Int)) (v10 : Int) (v11 : Int) (out5 : List Int), impl_totalsOf.LN3 n x k (impl_totalsOf.st3 article1 v9 v10 v11 out5) = impl_totalsOf.l3 n k article1 v9 v10 v11 out5 := by
  intro k
  induction k with
  | zero => intro article1 v9 v10 v11 out5; rfl
  | succ k ih =>
    intro article1 v9 v10 v11 out5
    have h : impl_totalsOf.LN3 n x (k + 1) (impl_totalsOf.st3 article1 v9 v10 v11 out5) = impl_totalsOf.g3 (fun article1 v9 v10 v11 out5 => impl_totalsOf.LN3 n x k (impl_totalsOf.st3 article1 v9 v10 v11 out5)) article1 v9 v10 v11 out5 := by kernel_rfl
    rw [h]
    simp only [ih]
    rfl
set_option maxRecDepth 100000 in
theorem impl_totalsOf.body (n : Nat) (x : (List (Int × ByteArray × Int)) × ByteArray) : bodyF impl_totalsOf.E impl_totalsOf.keep n Try.f141 impl_totalsOf.con x = impl_totalsOf.fn n x.1 x.2 := by
  have h : bodyF impl_totalsOf.E impl_totalsOf.keep n Try.f141 impl_totalsOf.con x = impl_totalsOf.top (fun article1 v9 v10 v11 out5 => impl_totalsOf.LN3 n x n (impl_totalsOf.st3 article1 v9 v10 v11 out5)) x.1 x.2 := by kernel_rfl
  rw [h]
  simp only [impl_totalsOf.lem3]
  rfl
set_option maxRecDepth 100000 in
theorem impl_totalsOf.good : Good Try.prog 141 impl_totalsOf.con :=
  good_of tabok (cs := impl_totalsOf.cs) trivial 0 false (fn := Try.f141) Try.func141 rfl (by decide) (by simp [impl_totalsOf.con]) impl_totalsOf.keep NN (fun _ => rfl) (fun x => impl_totalsOf.body NN x)
end
end Go.Ev.Try

namespace Go.Ev.Try
open Go.Proofs Go.Pl
set_option linter.unusedVariables false
noncomputable section
def impl_piecesLeft.con : Con := { ps := [(.val, (.sl 127 (.pair (.int .i64) (.pair .str (.int .i64))))), (.val, .str)], rs := [(.val, (.int .i64))], F := fun x => impl_piecesLeft.f x.1 x.2 }
def impl_piecesLeft.cs : List (FuncId × Con) := [(141, impl_totalsOf.con)]
def impl_piecesLeft.E : Env := envOf tab impl_piecesLeft.cs 0 false
def impl_piecesLeft.keep (i : Nat) : List Nat := []
set_option maxRecDepth 100000 in
theorem impl_piecesLeft.body (n : Nat) (x : (List (Int × ByteArray × Int)) × ByteArray) : bodyF impl_piecesLeft.E impl_piecesLeft.keep n Try.f88 impl_piecesLeft.con x = impl_piecesLeft.fn n x.1 x.2 := by
  have h : bodyF impl_piecesLeft.E impl_piecesLeft.keep n Try.f88 impl_piecesLeft.con x = impl_piecesLeft.top x.1 x.2 := by kernel_rfl
  exact h
set_option maxRecDepth 100000 in
theorem impl_piecesLeft.good : Good Try.prog 88 impl_piecesLeft.con :=
  good_of tabok (cs := impl_piecesLeft.cs) ⟨impl_totalsOf.good, trivial⟩ 0 false (fn := Try.f88) Try.func88 rfl (by decide) (by simp [impl_piecesLeft.con]) impl_piecesLeft.keep NN (fun _ => rfl) (fun x => impl_piecesLeft.body NN x)
end
end Go.Ev.Try

namespace Go.Ev.Try
open Go.Proofs Go.Pl
set_option linter.unusedVariables false
noncomputable section
def impl_AreBookings.st4 (list0 : List (Int × ByteArray × Int)) (v8 : List (Int × ByteArray × Int)) (v9 : Int) (v10 : Int) : St := ⟨[.dat (.sl 127 (.pair (.int .i64) (.pair .str (.int .i64)))) list0, .gone, .gone, .gone, .gone, .gone, .gone, .gone, .dat (.sl 127 (.pair (.int .i64) (.pair .str (.int .i64)))) v8, .dat (.int .i64) v9, .dat (.int .i64) v10, .gone, .gone, .gone, .gone, .gone, .gone, .gone, .gone, .gone, .gone, .gone, .gone, .gone, .gone, .gone, .gone, .gone, .gone, .gone, .gone, .gone, .gone, .gone, .gone, .gone, .gone, .gone, .gone, .gone, .gone, .gone], []⟩
def impl_AreBookings.con : Con := { ps := [(.val, (.sl 127 (.pair (.int .i64) (.pair .str (.int .i64)))))], rs := [(.val, .bool)], F := fun x => impl_AreBookings.f x }
def impl_AreBookings.cs : List (FuncId × Con) := [(87, impl_IsWord.con), (88, impl_piecesLeft.con), (113, impl_within.con)]
def impl_AreBookings.E : Env := envOf tab impl_AreBookings.cs 0 false
def impl_AreBookings.keep (i : Nat) : List Nat := if i = 4 then [0, 8, 9, 10] else []
def impl_AreBookings.at4 (n : Nat) (x : List (Int × ByteArray × Int)) : Code × (Ex → St → Option (Bool)) := ctx impl_AreBookings.E impl_AreBookings.keep n [.snd, .snd, .fst, .snd, .blk] (codeOf Try.f56) (kEnd impl_AreBookings.E Try.f56 impl_AreBookings.con x)
def impl_AreBookings.LN4 (n : Nat) (x : List (Int × ByteArray × Int)) : Nat → St → Option (Bool) := loopN (exec impl_AreBookings.E impl_AreBookings.keep n (bodyOf (impl_AreBookings.at4 n x).1)) (St.norm 0 (impl_AreBookings.keep 4)) (impl_AreBookings.at4 n x).2
set_option maxRecDepth 100000 in
theorem impl_AreBookings.lem4 (n : Nat) (x : List (Int × ByteArray × Int)) : ∀ (k : Nat) (list0 : List (Int × ByteArray × Int)) (v8 : List (Int × ByteArray × Int)) (v9 : Int) (v10 : Int), impl_AreBookings.LN4 n x k (impl_AreBookings.st4 list0 v8 v9 v10) = impl_AreBookings.l4 n k list0 v8 v9 v10 := by
  intro k
  induction k with
  | zero => intro list0 v8 v9 v10; rfl
  | succ k ih =>
    intro list0 v8 v9 v10
    have h : impl_AreBookings.LN4 n x (k + 1) (impl_AreBookings.st4 list0 v8 v9 v10) = impl_AreBookings.g4 (fun list0 v8 v9 v10 => impl_AreBookings.LN4 n x k (impl_AreBookings.st4 list0 v8 v9 v10)) list0 v8 v9 v10 := by kernel_rfl
    rw [h]
    simp only [ih]
    rfl
set_option maxRecDepth 100000 in
theorem impl_AreBookings.body (n : Nat) (x : List (Int × ByteArray × Int)) : bodyF impl_AreBookings.E impl_AreBookings.keep n Try.f56 impl_AreBookings.con x = impl_AreBookings.fn n x := by
  have h : bodyF impl_AreBookings.E impl_AreBookings.keep n Try.f56 impl_AreBookings.con x = impl_AreBookings.top (fun list0 v8 v9 v10 => impl_AreBookings.LN4 n x n (impl_AreBookings.st4 list0 v8 v9 v10)) x := by kernel_rfl
  rw [h]
  simp only [impl_AreBookings.lem4]
  rfl
set_option maxRecDepth 100000 in
theorem impl_AreBookings.good : Good Try.prog 56 impl_AreBookings.con :=
  good_of tabok (cs := impl_AreBookings.cs) ⟨impl_IsWord.good, impl_piecesLeft.good, impl_within.good, trivial⟩ 0 false (fn := Try.f56) Try.func56 rfl (by decide) (by simp [impl_AreBookings.con]) impl_AreBookings.keep NN (fun _ => rfl) (fun x => impl_AreBookings.body NN x)
end
end Go.Ev.Try

namespace Go.Ev.Try
open Go.Proofs Go.Pl
set_option linter.unusedVariables false
noncomputable section
def impl_IsDesk.con : Con := { ps := [(.val, (.pair (.sl 148 (.pair (.int .i64) (.pair .str (.int .i64)))) (.pair (.sl 153 (.pair (.int .i64) (.int .i64))) (.sl 127 (.pair (.int .i64) (.pair .str (.int .i64)))))))], rs := [(.val, .bool)], F := fun x => impl_IsDesk.f x }
def impl_IsDesk.cs : List (FuncId × Con) := [(54, impl_AreMoves.con), (55, impl_AreSignals.con), (56, impl_AreBookings.con)]
def impl_IsDesk.E : Env := envOf tab impl_IsDesk.cs 0 false
def impl_IsDesk.keep (i : Nat) : List Nat := []
set_option maxRecDepth 100000 in
theorem impl_IsDesk.body (n : Nat) (x : (List (Int × ByteArray × Int)) × (List (Int × Int)) × List (Int × ByteArray × Int)) : bodyF impl_IsDesk.E impl_IsDesk.keep n Try.f10 impl_IsDesk.con x = impl_IsDesk.fn n x := by
  have h : bodyF impl_IsDesk.E impl_IsDesk.keep n Try.f10 impl_IsDesk.con x = impl_IsDesk.top x := by kernel_rfl
  exact h
set_option maxRecDepth 100000 in
theorem impl_IsDesk.good : Good Try.prog 10 impl_IsDesk.con :=
  good_of tabok (cs := impl_IsDesk.cs) ⟨impl_AreMoves.good, impl_AreSignals.good, impl_AreBookings.good, trivial⟩ 0 false (fn := Try.f10) Try.func10 rfl (by decide) (by simp [impl_IsDesk.con]) impl_IsDesk.keep NN (fun _ => rfl) (fun x => impl_IsDesk.body NN x)
end
end Go.Ev.Try

namespace Go.Ev.Try
open Go.Proofs Go.Pl
set_option linter.unusedVariables false
noncomputable section
def laws_eqBooking.con : Con := { ps := [(.val, (.pair (.int .i64) (.pair .str (.int .i64)))), (.val, (.pair (.int .i64) (.pair .str (.int .i64))))], rs := [(.val, .bool)], F := fun x => laws_eqBooking.f x.1 x.2 }
def laws_eqBooking.cs : List (FuncId × Con) := []
def laws_eqBooking.E : Env := envOf tab laws_eqBooking.cs 0 false
def laws_eqBooking.keep (i : Nat) : List Nat := []
set_option maxRecDepth 100000 in
theorem laws_eqBooking.body (n : Nat) (x : (Int × ByteArray × Int) × Int × ByteArray × Int) : bodyF laws_eqBooking.E laws_eqBooking.keep n Try.f96 laws_eqBooking.con x = laws_eqBooking.fn n x.1 x.2 := by
  have h : bodyF laws_eqBooking.E laws_eqBooking.keep n Try.f96 laws_eqBooking.con x = laws_eqBooking.top x.1 x.2 := by kernel_rfl
  exact h
set_option maxRecDepth 100000 in
theorem laws_eqBooking.good : Good Try.prog 96 laws_eqBooking.con :=
  good_of tabok (cs := laws_eqBooking.cs) trivial 0 false (fn := Try.f96) Try.func96 rfl (by decide) (by simp [laws_eqBooking.con]) laws_eqBooking.keep NN (fun _ => rfl) (fun x => laws_eqBooking.body NN x)
end
end Go.Ev.Try

namespace Go.Ev.Try
open Go.Proofs Go.Pl
set_option linter.unusedVariables false
noncomputable section
def laws_eqBookingS.st4 (a0 : List (Int × ByteArray × Int)) (b1 : List (Int × ByteArray × Int)) (i5 : Int) : St := ⟨[.dat (.sl 127 (.pair (.int .i64) (.pair .str (.int .i64)))) a0, .dat (.sl 127 (.pair (.int .i64) (.pair .str (.int .i64)))) b1, .gone, .gone, .gone, .dat (.int .i64) i5, .gone, .gone, .gone, .gone, .gone, .gone, .gone, .gone, .gone, .gone, .gone, .gone, .gone, .gone, .gone, .gone, .gone, .gone, .gone, .gone, .gone], []⟩
def laws_eqBookingS.con : Con := { ps := [(.val, (.sl 127 (.pair (.int .i64) (.pair .str (.int .i64))))), (.val, (.sl 127 (.pair (.int .i64) (.pair .str (.int .i64)))))], rs := [(.val, .bool)], F := fun x => laws_eqBookingS.f x.1 x.2 }
def laws_eqBookingS.cs : List (FuncId × Con) := [(96, laws_eqBooking.con)]
def laws_eqBookingS.E : Env := envOf tab laws_eqBookingS.cs 0 false
def laws_eqBookingS.keep (i : Nat) : List Nat := if i = 4 then [0, 1, 5] else []
def laws_eqBookingS.at4 (n : Nat) (x : (List (Int × ByteArray × Int)) × List (Int × ByteArray × Int)) : Code × (Ex → St → Option (Bool)) := ctx laws_eqBookingS.E laws_eqBookingS.keep n [.snd, .snd, .fst, .snd, .blk] (codeOf Try.f39) (kEnd laws_eqBookingS.E Try.f39 laws_eqBookingS.con x)
def laws_eqBookingS.LN4 (n : Nat) (x : (List (Int × ByteArray × Int)) × List (Int × ByteArray × Int)) : Nat → St → Option (Bool) := loopN (exec laws_eqBookingS.E laws_eqBookingS.keep n (bodyOf (laws_eqBookingS.at4 n x).1)) (St.norm 0 (laws_eqBookingS.keep 4)) (laws_eqBookingS.at4 n x).2
set_option maxRecDepth 100000 in
theorem laws_eqBookingS.lem4 (n : Nat) (x : (List (Int × ByteArray × Int)) × List (Int × ByteArray × Int)) : ∀ (k : Nat) (a0 : List (Int × ByteArray × Int)) (b1 : List (Int × ByteArray × Int)) (i5 : Int), laws_eqBookingS.LN4 n x k (laws_eqBookingS.st4 a0 b1 i5) = laws_eqBookingS.l4 n k a0 b1 i5 := by
  intro k
  induction k with
  | zero => intro a0 b1 i5; rfl
  | succ k ih =>
    intro a0 b1 i5
    have h : laws_eqBookingS.LN4 n x (k + 1) (laws_eqBookingS.st4 a0 b1 i5) = laws_eqBookingS.g4 (fun a0 b1 i5 => laws_eqBookingS.LN4 n x k (laws_eqBookingS.st4 a0 b1 i5)) a0 b1 i5 := by kernel_rfl
    rw [h]
    simp only [ih]
    rfl
set_option maxRecDepth 100000 in
theorem laws_eqBookingS.body (n : Nat) (x : (List (Int × ByteArray × Int)) × List (Int × ByteArray × Int)) : bodyF laws_eqBookingS.E laws_eqBookingS.keep n Try.f39 laws_eqBookingS.con x = laws_eqBookingS.fn n x.1 x.2 := by
  have h : bodyF laws_eqBookingS.E laws_eqBookingS.keep n Try.f39 laws_eqBookingS.con x = laws_eqBookingS.top (fun a0 b1 i5 => laws_eqBookingS.LN4 n x n (laws_eqBookingS.st4 a0 b1 i5)) x.1 x.2 := by kernel_rfl
  rw [h]
  simp only [laws_eqBookingS.lem4]
  rfl
set_option maxRecDepth 100000 in
theorem laws_eqBookingS.good : Good Try.prog 39 laws_eqBookingS.con :=
  good_of tabok (cs := laws_eqBookingS.cs) ⟨laws_eqBooking.good, trivial⟩ 0 false (fn := Try.f39) Try.func39 rfl (by decide) (by simp [laws_eqBookingS.con]) laws_eqBookingS.keep NN (fun _ => rfl) (fun x => laws_eqBookingS.body NN x)
end
end Go.Ev.Try

namespace Go.Ev.Try
open Go.Proofs Go.Pl
set_option linter.unusedVariables false
noncomputable section
def laws_intactBookingS.con : Con := { ps := [(.val, (.slb 127 (.pair (.int .i64) (.pair .str (.int .i64))))), (.val, (.slb 127 (.pair (.int .i64) (.pair .str (.int .i64)))))], rs := [(.val, .bool)], F := fun x => laws_intactBookingS.f x.1 x.2 }
def laws_intactBookingS.cs : List (FuncId × Con) := [(39, laws_eqBookingS.con), (64, laws_roomBehind.con)]
def laws_intactBookingS.E : Env := envOf tab laws_intactBookingS.cs 0 false
def laws_intactBookingS.keep (i : Nat) : List Nat := []
set_option maxRecDepth 100000 in
theorem laws_intactBookingS.body (n : Nat) (x : (List (Int × ByteArray × Int) × List (Int × ByteArray × Int)) × List (Int × ByteArray × Int) × List (Int × ByteArray × Int)) : bodyF laws_intactBookingS.E laws_intactBookingS.keep n Try.f40 laws_intactBookingS.con x = laws_intactBookingS.fn n x.1 x.2 := by
  have h : bodyF laws_intactBookingS.E laws_intactBookingS.keep n Try.f40 laws_intactBookingS.con x = laws_intactBookingS.top x.1 x.2 := by kernel_rfl
  exact h
set_option maxRecDepth 100000 in
theorem laws_intactBookingS.good : Good Try.prog 40 laws_intactBookingS.con :=
  good_of tabok (cs := laws_intactBookingS.cs) ⟨laws_eqBookingS.good, laws_roomBehind.good, trivial⟩ 0 false (fn := Try.f40) Try.func40 rfl (by decide) (by simp [laws_intactBookingS.con]) laws_intactBookingS.keep NN (fun _ => rfl) (fun x => laws_intactBookingS.body NN x)
end
end Go.Ev.Try

namespace Go.Ev.Try
open Go.Proofs Go.Pl
set_option linter.unusedVariables false
noncomputable section
def laws_eqMove.con : Con := { ps := [(.val, (.pair (.int .i64) (.pair .str (.int .i64)))), (.val, (.pair (.int .i64) (.pair .str (.int .i64))))], rs := [(.val, .bool)], F := fun x => laws_eqMove.f x.1 x.2 }
def laws_eqMove.cs : List (FuncId × Con) := []
def laws_eqMove.E : Env := envOf tab laws_eqMove.cs 0 false
def laws_eqMove.keep (i : Nat) : List Nat := []
set_option maxRecDepth 100000 in
theorem laws_eqMove.body (n : Nat) (x : (Int × ByteArray × Int) × Int × ByteArray × Int) : bodyF laws_eqMove.E laws_eqMove.keep n Try.f149 laws_eqMove.con x = laws_eqMove.fn n x.1 x.2 := by
  have h : bodyF laws_eqMove.E laws_eqMove.keep n Try.f149 laws_eqMove.con x = laws_eqMove.top x.1 x.2 := by kernel_rfl
  exact h
set_option maxRecDepth 100000 in
theorem laws_eqMove.good : Good Try.prog 149 laws_eqMove.con :=
  good_of tabok (cs := laws_eqMove.cs) trivial 0 false (fn := Try.f149) Try.func149 rfl (by decide) (by simp [laws_eqMove.con]) laws_eqMove.keep NN (fun _ => rfl) (fun x => laws_eqMove.body NN x)
end
end Go.Ev.Try

namespace Go.Ev.Try
open Go.Proofs Go.Pl
set_option linter.unusedVariables false
noncomputable section
def laws_eqMoveS.st4 (a0 : List (Int × ByteArray × Int)) (b1 : List (Int × ByteArray × Int)) (i5 : Int) : St := ⟨[.dat (.sl 148 (.pair (.int .i64) (.pair .str (.int .i64)))) a0, .dat (.sl 148 (.pair (.int .i64) (.pair .str (.int .i64)))) b1, .gone, .gone, .gone, .dat (.int .i64) i5, .gone, .gone, .gone, .gone, .gone, .gone, .gone, .gone, .gone, .gone, .gone, .gone, .gone, .gone, .gone, .gone, .gone, .gone, .gone, .gone, .gone], []⟩
def laws_eqMoveS.con : Con := { ps := [(.val, (.sl 148 (.pair (.int .i64) (.pair .str (.int .i64))))), (.val, (.sl 148 (.pair (.int .i64) (.pair .str (.int .i64)))))], rs := [(.val, .bool)], F := fun x => laws_eqMoveS.f x.1 x.2 }
def laws_eqMoveS.cs : List (FuncId × Con) := [(149, laws_eqMove.con)]
def laws_eqMoveS.E : Env := envOf tab laws_eqMoveS.cs 0 false
def laws_eqMoveS.keep (i : Nat) : List Nat := if i = 4 then [0, 1, 5] else []
def laws_eqMoveS.at4 (n : Nat) (x : (List (Int × ByteArray × Int)) × List (Int × ByteArray × Int)) : Code × (Ex → St → Option (Bool)) := ctx laws_eqMoveS.E laws_eqMoveS.keep n [.snd, .snd, .fst, .snd, .blk] (codeOf Try.f116) (kEnd laws_eqMoveS.E Try.f116 laws_eqMoveS.con x)
def laws_eqMoveS.LN4 (n : Nat) (x : (List (Int × ByteArray × Int)) × List (Int × ByteArray × Int)) : Nat → St → Option (Bool) := loopN (exec laws_eqMoveS.E laws_eqMoveS.keep n (bodyOf (laws_eqMoveS.at4 n x).1)) (St.norm 0 (laws_eqMoveS.keep 4)) (laws_eqMoveS.at4 n x).2
set_option maxRecDepth 100000 in
theorem laws_eqMoveS.lem4 (n : Nat) (x : (List (Int × ByteArray × Int)) × List (Int × ByteArray × Int)) : ∀ (k : Nat) (a0 : List (Int × ByteArray × Int)) (b1 : List (Int × ByteArray × Int)) (i5 : Int), laws_eqMoveS.LN4 n x k (laws_eqMoveS.st4 a0 b1 i5) = laws_eqMoveS.l4 n k a0 b1 i5 := by
  intro k
  induction k with
  | zero => intro a0 b1 i5; rfl
  | succ k ih =>
    intro a0 b1 i5
    have h : laws_eqMoveS.LN4 n x (k + 1) (laws_eqMoveS.st4 a0 b1 i5) = laws_eqMoveS.g4 (fun a0 b1 i5 => laws_eqMoveS.LN4 n x k (laws_eqMoveS.st4 a0 b1 i5)) a0 b1 i5 := by kernel_rfl
    rw [h]
    simp only [ih]
    rfl
set_option maxRecDepth 100000 in
theorem laws_eqMoveS.body (n : Nat) (x : (List (Int × ByteArray × Int)) × List (Int × ByteArray × Int)) : bodyF laws_eqMoveS.E laws_eqMoveS.keep n Try.f116 laws_eqMoveS.con x = laws_eqMoveS.fn n x.1 x.2 := by
  have h : bodyF laws_eqMoveS.E laws_eqMoveS.keep n Try.f116 laws_eqMoveS.con x = laws_eqMoveS.top (fun a0 b1 i5 => laws_eqMoveS.LN4 n x n (laws_eqMoveS.st4 a0 b1 i5)) x.1 x.2 := by kernel_rfl
  rw [h]
  simp only [laws_eqMoveS.lem4]
  rfl
set_option maxRecDepth 100000 in
theorem laws_eqMoveS.good : Good Try.prog 116 laws_eqMoveS.con :=
  good_of tabok (cs := laws_eqMoveS.cs) ⟨laws_eqMove.good, trivial⟩ 0 false (fn := Try.f116) Try.func116 rfl (by decide) (by simp [laws_eqMoveS.con]) laws_eqMoveS.keep NN (fun _ => rfl) (fun x => laws_eqMoveS.body NN x)
end
end Go.Ev.Try

namespace Go.Ev.Try
open Go.Proofs Go.Pl
set_option linter.unusedVariables false
noncomputable section
def laws_intactMoveS.con : Con := { ps := [(.val, (.slb 148 (.pair (.int .i64) (.pair .str (.int .i64))))), (.val, (.slb 148 (.pair (.int .i64) (.pair .str (.int .i64)))))], rs := [(.val, .bool)], F := fun x => laws_intactMoveS.f x.1 x.2 }
def laws_intactMoveS.cs : List (FuncId × Con) := [(64, laws_roomBehind.con), (116, laws_eqMoveS.con)]
def laws_intactMoveS.E : Env := envOf tab laws_intactMoveS.cs 0 false
def laws_intactMoveS.keep (i : Nat) : List Nat := []
set_option maxRecDepth 100000 in
theorem laws_intactMoveS.body (n : Nat) (x : (List (Int × ByteArray × Int) × List (Int × ByteArray × Int)) × List (Int × ByteArray × Int) × List (Int × ByteArray × Int)) : bodyF laws_intactMoveS.E laws_intactMoveS.keep n Try.f57 laws_intactMoveS.con x = laws_intactMoveS.fn n x.1 x.2 := by
  have h : bodyF laws_intactMoveS.E laws_intactMoveS.keep n Try.f57 laws_intactMoveS.con x = laws_intactMoveS.top x.1 x.2 := by kernel_rfl
  exact h
set_option maxRecDepth 100000 in
theorem laws_intactMoveS.good : Good Try.prog 57 laws_intactMoveS.con :=
  good_of tabok (cs := laws_intactMoveS.cs) ⟨laws_roomBehind.good, laws_eqMoveS.good, trivial⟩ 0 false (fn := Try.f57) Try.func57 rfl (by decide) (by simp [laws_intactMoveS.con]) laws_intactMoveS.keep NN (fun _ => rfl) (fun x => laws_intactMoveS.body NN x)
end
end Go.Ev.Try

namespace Go.Ev.Try
open Go.Proofs Go.Pl
set_option linter.unusedVariables false
noncomputable section
def laws_eqSignal.con : Con := { ps := [(.val, (.pair (.int .i64) (.int .i64))), (.val, (.pair (.int .i64) (.int .i64)))], rs := [(.val, .bool)], F := fun x => laws_eqSignal.f x.1 x.2 }
def laws_eqSignal.cs : List (FuncId × Con) := []
def laws_eqSignal.E : Env := envOf tab laws_eqSignal.cs 0 false
def laws_eqSignal.keep (i : Nat) : List Nat := []
set_option maxRecDepth 100000 in
theorem laws_eqSignal.body (n : Nat) (x : (Int × Int) × Int × Int) : bodyF laws_eqSignal.E laws_eqSignal.keep n Try.f150 laws_eqSignal.con x = laws_eqSignal.fn n x.1 x.2 := by
  have h : bodyF laws_eqSignal.E laws_eqSignal.keep n Try.f150 laws_eqSignal.con x = laws_eqSignal.top x.1 x.2 := by kernel_rfl
  exact h
set_option maxRecDepth 100000 in
theorem laws_eqSignal.good : Good Try.prog 150 laws_eqSignal.con :=
  good_of tabok (cs := laws_eqSignal.cs) trivial 0 false (fn := Try.f150) Try.func150 rfl (by decide) (by simp [laws_eqSignal.con]) laws_eqSignal.keep NN (fun _ => rfl) (fun x => laws_eqSignal.body NN x)
end
end Go.Ev.Try

namespace Go.Ev.Try
open Go.Proofs Go.Pl
set_option linter.unusedVariables false
noncomputable section
def laws_eqSignalS.st4 (a0 : List (Int × Int)) (b1 : List (Int × Int)) (i5 : Int) : St := ⟨[.dat (.sl 153 (.pair (.int .i64) (.int .i64))) a0, .dat (.sl 153 (.pair (.int .i64) (.int .i64))) b1, .gone, .gone, .gone, .dat (.int .i64) i5, .gone, .gone, .gone, .gone, .gone, .gone, .gone, .gone, .gone, .gone, .gone, .gone, .gone, .gone, .gone, .gone, .gone, .gone, .gone, .gone, .gone], []⟩
def laws_eqSignalS.con : Con := { ps := [(.val, (.sl 153 (.pair (.int .i64) (.int .i64)))), (.val, (.sl 153 (.pair (.int .i64) (.int .i64))))], rs := [(.val, .bool)], F := fun x => laws_eqSignalS.f x.1 x.2 }
def laws_eqSignalS.cs : List (FuncId × Con) := [(150, laws_eqSignal.con)]
def laws_eqSignalS.E : Env := envOf tab laws_eqSignalS.cs 0 false
def laws_eqSignalS.keep (i : Nat) : List Nat := if i = 4 then [0, 1, 5] else []
def laws_eqSignalS.at4 (n : Nat) (x : (List (Int × Int)) × List (Int × Int)) : Code × (Ex → St → Option (Bool)) := ctx laws_eqSignalS.E laws_eqSignalS.keep n [.snd, .snd, .fst, .snd, .blk] (codeOf Try.f117) (kEnd laws_eqSignalS.E Try.f117 laws_eqSignalS.con x)
def laws_eqSignalS.LN4 (n : Nat) (x : (List (Int × Int)) × List (Int × Int)) : Nat → St → Option (Bool) := loopN (exec laws_eqSignalS.E laws_eqSignalS.keep n (bodyOf (laws_eqSignalS.at4 n x).1)) (St.norm 0 (laws_eqSignalS.keep 4)) (laws_eqSignalS.at4 n x).2
set_option maxRecDepth 100000 in
theorem laws_eqSignalS.lem4 (n : Nat) (x : (List (Int × Int)) × List (Int × Int)) : ∀ (k : Nat) (a0 : List (Int × Int)) (b1 : List (Int × Int)) (i5 : Int), laws_eqSignalS.LN4 n x k (laws_eqSignalS.st4 a0 b1 i5) = laws_eqSignalS.l4 n k a0 b1 i5 := by
  intro k
  induction k with
  | zero => intro a0 b1 i5; rfl
  | succ k ih =>
    intro a0 b1 i5
    have h : laws_eqSignalS.LN4 n x (k + 1) (laws_eqSignalS.st4 a0 b1 i5) = laws_eqSignalS.g4 (fun a0 b1 i5 => laws_eqSignalS.LN4 n x k (laws_eqSignalS.st4 a0 b1 i5)) a0 b1 i5 := by kernel_rfl
    rw [h]
    simp only [ih]
    rfl
set_option maxRecDepth 100000 in
theorem laws_eqSignalS.body (n : Nat) (x : (List (Int × Int)) × List (Int × Int)) : bodyF laws_eqSignalS.E laws_eqSignalS.keep n Try.f117 laws_eqSignalS.con x = laws_eqSignalS.fn n x.1 x.2 := by
  have h : bodyF laws_eqSignalS.E laws_eqSignalS.keep n Try.f117 laws_eqSignalS.con x = laws_eqSignalS.top (fun a0 b1 i5 => laws_eqSignalS.LN4 n x n (laws_eqSignalS.st4 a0 b1 i5)) x.1 x.2 := by kernel_rfl
  rw [h]
  simp only [laws_eqSignalS.lem4]
  rfl
set_option maxRecDepth 100000 in
theorem laws_eqSignalS.good : Good Try.prog 117 laws_eqSignalS.con :=
  good_of tabok (cs := laws_eqSignalS.cs) ⟨laws_eqSignal.good, trivial⟩ 0 false (fn := Try.f117) Try.func117 rfl (by decide) (by simp [laws_eqSignalS.con]) laws_eqSignalS.keep NN (fun _ => rfl) (fun x => laws_eqSignalS.body NN x)
end
end Go.Ev.Try

namespace Go.Ev.Try
open Go.Proofs Go.Pl
set_option linter.unusedVariables false
noncomputable section
def laws_intactSignalS.con : Con := { ps := [(.val, (.slb 153 (.pair (.int .i64) (.int .i64)))), (.val, (.slb 153 (.pair (.int .i64) (.int .i64))))], rs := [(.val, .bool)], F := fun x => laws_intactSignalS.f x.1 x.2 }
def laws_intactSignalS.cs : List (FuncId × Con) := [(64, laws_roomBehind.con), (117, laws_eqSignalS.con)]
def laws_intactSignalS.E : Env := envOf tab laws_intactSignalS.cs 0 false
def laws_intactSignalS.keep (i : Nat) : List Nat := []
set_option maxRecDepth 100000 in
theorem laws_intactSignalS.body (n : Nat) (x : (List (Int × Int) × List (Int × Int)) × List (Int × Int) × List (Int × Int)) : bodyF laws_intactSignalS.E laws_intactSignalS.keep n Try.f58 laws_intactSignalS.con x = laws_intactSignalS.fn n x.1 x.2 := by
  have h : bodyF laws_intactSignalS.E laws_intactSignalS.keep n Try.f58 laws_intactSignalS.con x = laws_intactSignalS.top x.1 x.2 := by kernel_rfl
  exact h
set_option maxRecDepth 100000 in
theorem laws_intactSignalS.good : Good Try.prog 58 laws_intactSignalS.con :=
  good_of tabok (cs := laws_intactSignalS.cs) ⟨laws_roomBehind.good, laws_eqSignalS.good, trivial⟩ 0 false (fn := Try.f58) Try.func58 rfl (by decide) (by simp [laws_intactSignalS.con]) laws_intactSignalS.keep NN (fun _ => rfl) (fun x => laws_intactSignalS.body NN x)
end
end Go.Ev.Try

namespace Go.Ev.Try
open Go.Proofs Go.Pl
set_option linter.unusedVariables false
noncomputable section
def laws_intactDesk.con : Con := { ps := [(.val, (.pair (.slb 148 (.pair (.int .i64) (.pair .str (.int .i64)))) (.pair (.slb 153 (.pair (.int .i64) (.int .i64))) (.slb 127 (.pair (.int .i64) (.pair .str (.int .i64))))))), (.val, (.pair (.slb 148 (.pair (.int .i64) (.pair .str (.int .i64)))) (.pair (.slb 153 (.pair (.int .i64) (.int .i64))) (.slb 127 (.pair (.int .i64) (.pair .str (.int .i64)))))))], rs := [(.val, .bool)], F := fun x => laws_intactDesk.f x.1 x.2 }
def laws_intactDesk.cs : List (FuncId × Con) := [(40, laws_intactBookingS.con), (57, laws_intactMoveS.con), (58, laws_intactSignalS.con)]
def laws_intactDesk.E : Env := envOf tab laws_intactDesk.cs 0 false
def laws_intactDesk.keep (i : Nat) : List Nat := []
set_option maxRecDepth 100000 in
theorem laws_intactDesk.body (n : Nat) (x : ((List (Int × ByteArray × Int) × List (Int × ByteArray × Int)) × (List (Int × Int) × List (Int × Int)) × List (Int × ByteArray × Int) × List (Int × ByteArray × Int)) × (List (Int × ByteArray × Int) × List (Int × ByteArray × Int)) × (List (Int × Int) × List (Int × Int)) × List (Int × ByteArray × Int) × List (Int × ByteArray × Int)) : bodyF laws_intactDesk.E laws_intactDesk.keep n Try.f11 laws_intactDesk.con x = laws_intactDesk.fn n x.1 x.2 := by
  have h : bodyF laws_intactDesk.E laws_intactDesk.keep n Try.f11 laws_intactDesk.con x = laws_intactDesk.top x.1 x.2 := by kernel_rfl
  exact h
set_option maxRecDepth 100000 in
theorem laws_intactDesk.good : Good Try.prog 11 laws_intactDesk.con :=
  good_of tabok (cs := laws_intactDesk.cs) ⟨laws_intactBookingS.good, laws_intactMoveS.good, laws_intactSignalS.good, trivial⟩ 0 false (fn := Try.f11) Try.func11 rfl (by decide) (by simp [laws_intactDesk.con]) laws_intactDesk.keep NN (fun _ => rfl) (fun x => laws_intactDesk.body NN x)
end
end Go.Ev.Try

namespace Go.Ev.Try
open Go.Proofs Go.Pl
set_option linter.unusedVariables false
noncomputable section
def laws_FnExactIsDesk.con : Con := { ps := [(.val, (.pair (.sl 147 (.pair (.int .i64) (.pair .str (.int .i64)))) (.pair (.sl 158 (.pair (.int .i64) (.int .i64))) (.sl 133 (.pair (.int .i64) (.pair .str (.int .i64)))))))], rs := [(.val, .bool)], F := fun x => laws_FnExactIsDesk.f x }
def laws_FnExactIsDesk.cs : List (FuncId × Con) := [(7, laws_szDesk.con), (8, spec_IsDesk.con), (9, laws_toDesk.con), (10, impl_IsDesk.con), (11, laws_intactDesk.con)]
def laws_FnExactIsDesk.E : Env := envOf tab laws_FnExactIsDesk.cs 0 false
def laws_FnExactIsDesk.keep (i : Nat) : List Nat := []
set_option maxRecDepth 100000 in
theorem laws_FnExactIsDesk.body (n : Nat) (x : (List (Int × ByteArray × Int)) × (List (Int × Int)) × List (Int × ByteArray × Int)) : bodyF laws_FnExactIsDesk.E laws_FnExactIsDesk.keep n Try.f3 laws_FnExactIsDesk.con x = laws_FnExactIsDesk.fn n x := by
  have h : bodyF laws_FnExactIsDesk.E laws_FnExactIsDesk.keep n Try.f3 laws_FnExactIsDesk.con x = laws_FnExactIsDesk.top x := by kernel_rfl
  exact h
set_option maxRecDepth 100000 in
theorem laws_FnExactIsDesk.good : Good Try.prog 3 laws_FnExactIsDesk.con :=
  good_of tabok (cs := laws_FnExactIsDesk.cs) ⟨laws_szDesk.good, spec_IsDesk.good, laws_toDesk.good, impl_IsDesk.good, laws_intactDesk.good, trivial⟩ 0 false (fn := Try.f3) Try.func3 rfl (by decide) (by simp [laws_FnExactIsDesk.con]) laws_FnExactIsDesk.keep NN (fun _ => rfl) (fun x => laws_FnExactIsDesk.body NN x)
end
end Go.Ev.Try

/- Words for the plain laws. -/
namespace Go.Pl
open Go.Ev
set_option linter.unusedVariables false

theorem wf64 {n : Int} : (Lit.int .i64 n).wf = true ↔ (-9223372036854775808 ≤ n ∧ n ≤ 9223372036854775807) := by
  simp only [Lit.wf, Bool.and_eq_true, decide_eq_true_eq]
  have e1 : IntKind.i64.min = -9223372036854775808 := by decide
  have e2 : IntKind.i64.max = 9223372036854775807 := by decide
  omega
theorem wf8 {n : Int} : (Lit.int .u8 n).wf = true ↔ (0 ≤ n ∧ n ≤ 255) := by
  simp only [Lit.wf, Bool.and_eq_true, decide_eq_true_eq]
  have e1 : IntKind.u8.min = 0 := by decide
  have e2 : IntKind.u8.max = 255 := by decide
  omega
theorem w8 {n : Int} (h1 : 0 ≤ n) (h2 : n < 256) : IntKind.u8.wrap n = n := by
  simp only [IntKind.wrap, IntKind.bits, IntKind.signed]
  simp
  omega
theorem w8_range (n : Int) : 0 ≤ IntKind.u8.wrap n ∧ IntKind.u8.wrap n < 256 := by
  simp only [IntKind.wrap, IntKind.bits, IntKind.signed]
  simp
  omega

/-! Rows, taken apart where a loop stands. -/
theorem mid_get {α : Type} (p r : List α) (x z : α) : (p ++ x :: r).getD (p.length : Int).toNat z = x := by simp
theorem mid_set {α : Type} (p r : List α) (x y : α) : (p ++ x :: r).set (p.length : Int).toNat y = p ++ y :: r := by simp
theorem mid_getn {α : Type} (p r : List α) (x z : α) : (p ++ x :: r).getD p.length z = x := by simp
theorem mid_setn {α : Type} (p r : List α) (x y : α) : (p ++ x :: r).set p.length y = p ++ y :: r := by simp
theorem mid_len {α : Type} (p r : List α) (x : α) : ((p ++ x :: r).length : Int) = (p.length : Int) + r.length + 1 := by simp; omega
theorem mid_nil {α : Type} (p : List α) : p ++ [] = p := by simp
theorem mid_snoc {α : Type} (p r : List α) (x : α) : (p ++ [x]) ++ r = p ++ x :: r := by simp
theorem snoc_len {α : Type} (p : List α) (x : α) : ((p ++ [x]).length : Int) = (p.length : Int) + 1 := by simp
/-- A loop over a row: l stands for its rounds, f for what it comes to. -/
theorem loop_mid {α ρ σ : Type} {B : Nat} (l : Nat → List α → Int → σ → Option ρ) (f : List α → List α → σ → Option ρ)
    (hnil : ∀ k pre st, pre.length ≤ B → l (k + 1) pre (pre.length : Int) st = f pre [] st)
    (hcons : ∀ k pre a r st, pre.length + r.length + 1 ≤ B → (∀ st', l k (pre ++ a :: r) ((pre.length : Int) + 1) st' = f (pre ++ [a]) r st') → l (k + 1) (pre ++ a :: r) (pre.length : Int) st = f pre (a :: r) st) :
    ∀ r pre k st, pre.length + r.length ≤ B → r.length < k → l k (pre ++ r) (pre.length : Int) st = f pre r st := by
  intro r
  induction r with
  | nil =>
    intro pre k st h1 h2
    obtain ⟨k, rfl⟩ : ∃ j, k = j + 1 := ⟨k - 1, by omega⟩
    rw [List.append_nil]
    exact hnil k pre st (by simpa using h1)
  | cons a r ih =>
    intro pre k st h1 h2
    simp only [List.length_cons] at h1 h2
    obtain ⟨k, rfl⟩ : ∃ j, k = j + 1 := ⟨k - 1, by omega⟩
    refine hcons k pre a r st (by omega) fun st' => ?_
    have := ih (pre ++ [a]) k st' (by simp; omega) (by omega)
    rw [mid_snoc, snoc_len] at this
    exact this
/-- The same, where the row itself is written. -/
theorem loop_mid0 {α ρ σ : Type} {B : Nat} (l : Nat → List α → Int → σ → Option ρ) (f : List α → List α → σ → Option ρ)
    (hnil : ∀ k pre st, pre.length ≤ B → l (k + 1) pre (pre.length : Int) st = f pre [] st)
    (hcons : ∀ k pre a r st, pre.length + r.length + 1 ≤ B → (∀ st', l k (pre ++ a :: r) ((pre.length : Int) + 1) st' = f (pre ++ [a]) r st') → l (k + 1) (pre ++ a :: r) (pre.length : Int) st = f pre (a :: r) st)
    (xs : List α) (k : Nat) (st : σ) (h1 : xs.length ≤ B) (h2 : xs.length < k) : l k xs 0 st = f [] xs st := by
  have := loop_mid l f hnil hcons xs [] k st (by simpa using h1) h2
  simpa using this
/-- A loop by a measure. -/
theorem loop_by {ρ σ : Type} (l : Nat → σ → Option ρ) (μ : σ → Nat) (Q : σ → Option ρ → Prop)
    (h : ∀ k st, (∀ st', μ st' < μ st → Q st' (l k st')) → Q st (l (k + 1) st)) : ∀ k st, μ st < k → Q st (l k st) := by
  intro k
  induction k with
  | zero => intro st h; omega
  | succ k ih => intro st hk; exact h k st fun st' h' => ih st' (by omega)

/-! Bytes. -/
theorem ba_toList {a b : ByteArray} : a.toList = b.toList ↔ a = b := by
  rw [ByteArray.toList_eq, ByteArray.toList_eq]
  exact ⟨fun h => ByteArray.ext (Array.toList_inj.mp h), fun h => by rw [h]⟩
theorem ba_beq (a b : ByteArray) : (a.toList == b.toList) = decide (a = b) := by
  by_cases h : a = b
  · subst h; simp
  · rw [decide_eq_false h, beq_eq_false_iff_ne]; exact fun e => h (ba_toList.1 e)
def bl (s : ByteArray) : List UInt8 := s.data.toList
def ob (l : List UInt8) : ByteArray := ⟨l.toArray⟩
theorem bl_ob (l : List UInt8) : bl (ob l) = l := by simp [bl, ob]
theorem ob_bl (s : ByteArray) : ob (bl s) = s := by simp [bl, ob]
theorem bl_inj {a b : ByteArray} (h : bl a = bl b) : a = b := by rw [← ob_bl a, h, ob_bl]
theorem ob_inj {a b : List UInt8} (h : ob a = ob b) : a = b := by rw [← bl_ob a, h, bl_ob]
theorem bl_length (s : ByteArray) : (bl s).length = s.size := by simp only [bl, Array.length_toList]; rfl
theorem ob_size (l : List UInt8) : (ob l).size = l.length := by rw [← bl_length, bl_ob]
theorem bl_append (a b : ByteArray) : bl (a ++ b) = bl a ++ bl b := by simp [bl]
theorem ob_append (a b : List UInt8) : ob a ++ ob b = ob (a ++ b) := by apply bl_inj; rw [bl_append, bl_ob, bl_ob, bl_ob]
theorem bl_lit (a : Array UInt8) : bl (⟨a⟩ : ByteArray) = a.toList := rfl
theorem lit_ob (l : List UInt8) : (⟨l.toArray⟩ : ByteArray) = ob l := rfl
theorem bl_extract (s : ByteArray) (i j : Nat) : bl (s.extract i j) = ((bl s).take j).drop i := by
  simp only [bl, ByteArray.data_extract, Array.toList_extract, List.extract]
  rw [List.drop_take]
theorem ob_extract (l : List UInt8) (i j : Nat) : (ob l).extract i j = ob ((l.take j).drop i) := by apply bl_inj; rw [bl_extract, bl_ob, bl_ob]
theorem ob_toList (l : List UInt8) : (ob l).toList = l := by rw [ByteArray.toList_eq]; rfl
theorem ba_bl (s : ByteArray) : s.toList = bl s := by rw [ByteArray.toList_eq]; rfl
theorem bt_ob (l : List UInt8) (i : Int) : bt (ob l) i = ((l.getD i.toNat 0).toNat : Int) := rfl
theorem bt_mid (p r : List UInt8) (c : UInt8) : bt (ob (p ++ c :: r)) (p.length : Int) = (c.toNat : Int) := by rw [bt_ob, mid_get]
theorem bt_range (s : ByteArray) (i : Int) : 0 ≤ bt s i ∧ bt s i ≤ 255 := by
  unfold bt
  have := UInt8.toNat_lt ((s.data.toList.getD i.toNat 0))
  omega
theorem u8_lt (c : UInt8) : c.toNat < 256 := UInt8.toNat_lt c
theorem u8_eq {a : UInt8} {n : Nat} (h : n < 256) : ((a.toNat : Int) = (n : Int)) ↔ a = UInt8.ofNat n := by
  constructor
  · intro e
    apply UInt8.toNat_inj.mp
    rw [UInt8.toNat_ofNat']; omega
  · rintro rfl
    rw [UInt8.toNat_ofNat']; omega
theorem bytesOf_ob (l : List Int) : bytesOf l = ob (l.map fun n => UInt8.ofNat n.toNat) := rfl
/-- Every string is of bytes. -/
theorem ob_all {P : ByteArray → Prop} (h : ∀ l, P (ob l)) (s : ByteArray) : P s := by rw [← ob_bl s]; exact h _
/-- A loop over a string's bytes. -/
theorem loop_str0 {ρ σ : Type} {B : Nat} (l : Nat → ByteArray → Int → σ → Option ρ) (f : List UInt8 → List UInt8 → σ → Option ρ)
    (hnil : ∀ k pre st, pre.length ≤ B → l (k + 1) (ob pre) (pre.length : Int) st = f pre [] st)
    (hcons : ∀ k pre a r st, pre.length + r.length + 1 ≤ B → (∀ st', l k (ob (pre ++ a :: r)) ((pre.length : Int) + 1) st' = f (pre ++ [a]) r st') → l (k + 1) (ob (pre ++ a :: r)) (pre.length : Int) st = f pre (a :: r) st)
    (s : ByteArray) (k : Nat) (st : σ) (h1 : s.size ≤ B) (h2 : s.size < k) : l k s 0 st = f [] (bl s) st := by
  have := loop_mid0 (fun k xs i st => l k (ob xs) i st) f hnil hcons (bl s) k st (by rw [bl_length]; exact h1) (by rw [bl_length]; exact h2)
  rw [ob_bl] at this
  exact this
theorem room1 : room 1 = 140737488355328 := by decide
theorem room8 : room 8 = 17592186044416 := by decide
theorem room16 : room 16 = 8796093022208 := by decide
theorem room24 : room 24 = 5864062014805 := by decide
theorem room32 : room 32 = 4398046511104 := by decide
theorem room40 : room 40 = 3518437208883 := by decide
theorem NNb : (1000000000000 : Nat) < NN := by rw [NN_eq]; omega
theorem NN_lt {n : Nat} (h : n < 1152921504606846976) : n < NN := by rw [NN_eq]; omega
theorem some_iff {b c : Bool} (h : b = true ↔ c = true) : some b = some c := by
  congr 1; exact Bool.eq_iff_iff.mpr h
end Go.Pl

/- A law's row: what its arguments are, in plain words. -/
namespace Go.Ev
set_option linter.unusedVariables false
set_option linter.unusedSimpArgs false
open Go.RowKit Go.WideShapes Go.ChangeShapes Go.ChangeAt
variable {P : Program}

def Rg (k : IntKind) (n : Int) : Prop := (Lit.int k n).wf = true
def Sz (s : ByteArray) : Prop := s.size ≤ 140737488355328
def Ls {α : Type} (Q : α → Prop) (xs : List α) : Prop := xs.length ≤ 140737488355328 ∧ ∀ x ∈ xs, Q x
def Plain : (t : Ty) → t.I → Prop
  | .int k, n => Rg k n
  | .bool, _ => True
  | .str, s => Sz s
  | .sl _ t, xs => Ls (Plain t) xs
  | .slb _ _, _ => True
  | .pair a b, x => Plain a x.1 ∧ Plain b x.2
  | .arr n t, xs => xs.length = n ∧ ∀ x ∈ xs, Plain t x
def PlainAll : (ts : List Ty) → Tup ts → Prop
  | [], _ => True
  | [t], x => Plain t x
  | t :: u :: r, x => Plain t x.1 ∧ PlainAll (u :: r) x.2
def okE (B : TypeId → Nat) : Ty → Bool
  | .sl e t => decide (1 ≤ B e) && okE B t
  | .slb e t => decide (1 ≤ B e) && okE B t
  | .pair a b => okE B a && okE B b
  | .arr _ t => okE B t
  | _ => true
theorem reach_lt : reachBytes ≤ 140737488355328 := by decide
theorem fit_plain {B : TypeId → Nat} : ∀ (t : Ty) (x : t.I), okE B t = true → Fit B t x → Plain t x := by
  intro t
  induction t with
  | int k => intro x _ h; exact h
  | bool => intro x _ h; trivial
  | str => intro x _ h; exact Nat.le_trans h reach_lt
  | sl e t ih =>
    intro x ho h
    simp only [okE, Bool.and_eq_true, decide_eq_true_eq] at ho
    refine ⟨?_, fun y hy => ih y ho.2 (h.2 y hy)⟩
    have h1 : x.length * 1 ≤ x.length * B e := Nat.mul_le_mul_left _ ho.1
    have h2 := h.1
    have h3 := reach_lt
    omega
  | slb e t ih => intro x ho h; trivial
  | pair a b iha ihb =>
    intro x ho h
    simp only [okE, Bool.and_eq_true] at ho
    exact ⟨iha _ ho.1 h.1, ihb _ ho.2 h.2⟩
  | arr n t ih => intro x ho h; exact ⟨h.1, fun y hy => ih y ho (h.2 y hy)⟩
theorem fit_plainAll {B : TypeId → Nat} : ∀ (ts : List Ty) (x : Tup ts), ts.all (okE B) = true → FitAll B ts x → PlainAll ts x := by
  intro ts
  induction ts with
  | nil => intro x _ _; trivial
  | cons t r ih =>
    intro x ho h
    simp only [List.all_cons, Bool.and_eq_true] at ho
    cases r with
    | nil => exact fit_plain t x ho.1 h
    | cons u r => exact ⟨fit_plain t x.1 ho.1 h.1, ih x.2 ho.2 h.2⟩
theorem ok_all {tab : List TRow} (h : okB P tab = true) : tab.all (rowB P tab) = true := by
  unfold okB at h; simp only [Bool.and_eq_true] at h; exact h.2.2
theorem bytes_sound {tab : List TRow} (h : okB P tab = true) : ∀ t x, tabT tab t = some x → P.bytesOf t = tabB tab t := by
  intro t x ht
  have hs := tab_sound (ok_all h)
  obtain ⟨ty, n⟩ := x
  obtain ⟨i, h1, h2⟩ := (hs.1 t ty n ht).info
  unfold Program.bytesOf
  rw [h1]
  exact hs.2 t _ ht i h1
section
variable {H : Type} {enc : TypeId × Value → H} {w : World} {base : Nat} {spare : Nat → Bool} {held : Bool}
theorem law_row {tab : List TRow} (hok : okB P tab = true) (hpos : posB tab = true) {f : FuncId} {c : Con} (hg : Good P f c) (hps : (c.ps.map (·.2)).map ((Kn.val, ·)) = c.ps) (hE : (c.ps.map (·.2)).all (okE (tabB tab)) = true)
    (hlaw : ∀ x, PlainAll (c.ps.map (·.2)) x → ∃ r, c.F x = some r ∧ kds' c.rs (dats _ r) = [(.val, ⟨.bool, true⟩)])
    {r : Reach} {b0 : Nat} {ts : List TypeId} {args : Array Value} {ds : List (DataW H)} {p : List MemPlace} (hts : tysOf (tabT tab) ts = some (c.ps.map (·.2))) (h : DataW.TrodAll enc P w base spare held ts args.toList ds p)
    (hval : ∀ (j : Nat) t v, ts[j]? = some t → args[j]? = some v → Value.okWide P w r b0 t v) {vt : List TypeId} {gs : List (DataW H)} (hgs : vt = [] ∨ gs = []) (hw : (DataW.weightsEach P (ts ++ vt) (ds ++ gs)).all (· ≤ reachBytes) = true) (hl : ts.length = ds.length) :
    Calls P f args w fun e w' => e = .returned (.bool true) ∧ Below w.heap.size w w' := by
  refine law_calls (tab_sound (ok_all hok)).1 (bytes_sound hok) (posB_sound hpos) hg hps (fun x hx => hlaw x (fit_plainAll _ x hE hx)) hts h (fun j t v hj hv => hval j t v hj (by simpa using hv)) ?_
  have key : ∀ (ts : List TypeId) (ds : List (DataW H)), ts.length = ds.length → ∀ m ∈ DataW.weightsEach P ts ds, m ∈ DataW.weightsEach P (ts ++ vt) (ds ++ gs) := by
    intro ts
    induction ts with
    | nil => intro ds hl m hm; cases ds <;> simp [DataW.weightsEach] at hm
    | cons t ts ih =>
      intro ds hl m hm
      cases ds with
      | nil => simp [DataW.weightsEach] at hm
      | cons d ds =>
        simp only [List.cons_append, DataW.weightsEach, List.mem_append] at hm ⊢
        rcases hm with hm | hm
        · exact .inl hm
        · exact .inr (ih ds (by simpa using hl) m hm)
  intro m hm
  have := List.all_eq_true.1 hw m (key ts ds hl m hm)
  simpa using this
end
end Go.Ev

/- What the laws' own helpers do, loop by loop: sizes, copies, comparisons, marks. -/
namespace Go.Pl
open Go.Ev
set_option linter.unusedVariables false

def Sm (s : ByteArray) : Prop := s.size ≤ 1000000
def Lm {α : Type} (Q : α → Prop) (xs : List α) : Prop := xs.length ≤ 1000000 ∧ ∀ x ∈ xs, Q x

theorem eqS_loop {α : Type} {E : α → Prop} (l : Nat → List α → List α → Int → Option Bool) (a : List α) (hE : ∀ x ∈ a, E x)
    (hs : ∀ k p x r, E x → a = p ++ x :: r → l (k + 1) a a p.length = l k a a ((p.length : Int) + 1)) (he : ∀ k, l (k + 1) a a a.length = some true) :
    ∀ k, a.length < k → l k a a 0 = some true := by
  have key : ∀ (r p : List α) (k : Nat), a = p ++ r → r.length < k → l k a a p.length = some true := by
    intro r
    induction r with
    | nil =>
      intro p k h hk
      obtain ⟨k, rfl⟩ : ∃ j, k = j + 1 := ⟨k - 1, by omega⟩
      rw [List.append_nil] at h
      rw [← h]; exact he k
    | cons x r ih =>
      intro p k h hk
      simp only [List.length_cons] at hk
      obtain ⟨k, rfl⟩ : ∃ j, k = j + 1 := ⟨k - 1, by omega⟩
      rw [hs k p x r (hE x (by rw [h]; simp)) h]
      have := ih (p ++ [x]) k (by rw [h]; simp) (by omega)
      rw [snoc_len] at this
      exact this
  intro k hk
  have := key a [] k (by simp) hk
  simpa using this

theorem szS_loop {α : Type} {Q R : α → Prop} (l : Nat → List α → Int → Int → Option Int)
    (he : ∀ k p left, l (k + 1) p left p.length = some left)
    (hs : ∀ x, Q x → ∀ left, -1000000000000000 ≤ left → left ≤ 1000000 → ∃ s, s ≤ 1000000 ∧ (0 ≤ s → s ≤ left ∧ R x) ∧ ∀ k p r, p.length + r.length + 1 ≤ 140737488355328 → l (k + 1) (p ++ x :: r) left p.length = if s < 0 then some (-1) else l k (p ++ x :: r) s ((p.length : Int) + 1))
    (a : List α) (k : Nat) (left : Int) (h0 : -1000000000000000 ≤ left) (h1 : left ≤ 1000000) (ha : Ls Q a) (hk : a.length < k) : ∃ s, l k a left 0 = some s ∧ s ≤ 1000000 ∧ (0 ≤ s → s ≤ left ∧ ∀ x ∈ a, R x) := by
  have key : ∀ (r p : List α) (k : Nat) (left : Int), p.length + r.length ≤ 140737488355328 → (∀ x ∈ r, Q x) → -1000000000000000 ≤ left → left ≤ 1000000 → r.length < k → ∃ s, l k (p ++ r) left p.length = some s ∧ s ≤ 1000000 ∧ (0 ≤ s → s ≤ left ∧ ∀ x ∈ r, R x) := by
    intro r
    induction r with
    | nil =>
      intro p k left _ _ _ _ hk
      obtain ⟨k, rfl⟩ : ∃ j, k = j + 1 := ⟨k - 1, by omega⟩
      rw [List.append_nil]
      exact ⟨left, he k p left, by omega, fun _ => ⟨by omega, fun x hx => by cases hx⟩⟩
    | cons x r ih =>
      intro p k left hb hq h0 h1 hk
      simp only [List.length_cons] at hk hb
      obtain ⟨k, rfl⟩ : ∃ j, k = j + 1 := ⟨k - 1, by omega⟩
      obtain ⟨s, s1, s2, s3⟩ := hs x (hq x (by simp)) left h0 h1
      rw [s3 k p r (by omega)]
      by_cases hn : s < 0
      · rw [if_pos hn]; exact ⟨-1, rfl, by omega, by omega⟩
      · rw [if_neg hn]
        obtain ⟨u, u1, u2, u3⟩ := ih (p ++ [x]) k s (by simp; omega) (fun y hy => hq y (by simp [hy])) (by omega) (by omega) (by omega)
        rw [mid_snoc, snoc_len] at u1
        refine ⟨u, u1, by omega, fun h => ⟨by have := (u3 h).1; have := (s2 (by omega)).1; omega, fun y hy => ?_⟩⟩
        rcases List.mem_cons.1 hy with rfl | hy
        · exact (s2 (by omega)).2
        · exact (u3 h).2 y hy
  have := key a [] k left (by simpa using ha.1) ha.2 h0 h1 hk
  simpa using this

theorem toS_loop {α : Type} {Z R : α → Prop} (l5 l9 : Nat → List α → Int → List α → Option (List α × List α))
    (he9 : ∀ k a (out : List α), (a.length : Int) ≤ out.length → l9 (k + 1) a out.length out = some (out.take a.length, out.drop a.length))
    (hs9 : ∀ k a (i : Nat) (out : List α), i < out.length → out.length ≤ 140737488355328 → ∃ z, Z z ∧ l9 (k + 1) a i out = l9 k a ((i : Int) + 1) (out.set i z))
    (he5 : ∀ k a (out : List α), l5 (k + 1) a a.length out = l9 NN a a.length out)
    (hs5 : ∀ k (p r : List α) x (q s : List α) y, R x → p.length = q.length → p.length + r.length + 1 ≤ 140737488355328 → p.length + s.length + 1 ≤ 140737488355328 → l5 (k + 1) (p ++ x :: r) p.length (q ++ y :: s) = l5 k (p ++ x :: r) ((p.length : Int) + 1) (q ++ x :: s))
    (a : List α) (out : List α) (k : Nat) (ha : ∀ x ∈ a, R x) (h : a.length ≤ out.length) (hb : out.length ≤ 140737488355328) (hk : a.length < k) :
    ∃ fil, l5 k a 0 out = some (a, fil) ∧ fil.length = out.length - a.length ∧ ∀ x ∈ fil, Z x := by
  have hN : 140737488355328 < NN := NN_lt (by omega)
  have k9 : ∀ (d : Nat) (k : Nat) (i : Nat) (out : List α), out.length ≤ 140737488355328 → i + d = out.length → d < k → a.length ≤ i → out.take a.length = a → (∀ j x, a.length ≤ j → j < i → out[j]? = some x → Z x) →
      ∃ fil, l9 k a i out = some (a, fil) ∧ fil.length = out.length - a.length ∧ ∀ x ∈ fil, Z x := by
    intro d
    induction d with
    | zero =>
      intro k i out hb hi hk ha ht hz
      obtain ⟨k, rfl⟩ : ∃ j, k = j + 1 := ⟨k - 1, by omega⟩
      obtain rfl : i = out.length := by omega
      refine ⟨_, by rw [he9 k a out (by omega), ht], by simp, fun x hx => ?_⟩
      obtain ⟨m, hm⟩ := List.mem_iff_getElem?.1 hx
      rw [List.getElem?_drop] at hm
      exact hz _ x (by omega) (List.getElem?_eq_some_iff.1 hm).1 hm
    | succ d ih =>
      intro k i out hb hi hk ha ht hz
      obtain ⟨k, rfl⟩ : ∃ j, k = j + 1 := ⟨k - 1, by omega⟩
      obtain ⟨z, z1, z2⟩ := hs9 k a i out (by omega) hb
      rw [z2]
      obtain ⟨fil, f1, f2, f3⟩ := ih k (i + 1) (out.set i z) (by simpa using hb) (by simp; omega) (by omega) (by omega) (by rw [List.take_set_of_le ha]; exact ht) (fun j x h1 h2 h3 => by
        by_cases hj : i = j
        · subst hj
          rw [List.getElem?_set_self (by omega)] at h3
          cases h3; exact z1
        · rw [List.getElem?_set_ne hj] at h3
          exact hz j x h1 (by omega) h3)
      exact ⟨fil, f1, by simpa using f2, f3⟩
  have k5 : ∀ (r p : List α) (s : List α) (k : Nat), p ++ r = a → p.length + s.length ≤ 140737488355328 → r.length ≤ s.length → r.length < k → (∀ x ∈ r, R x) →
      ∃ fil, l5 k a p.length (p ++ s) = some (a, fil) ∧ fil.length = p.length + s.length - a.length ∧ ∀ x ∈ fil, Z x := by
    intro r
    induction r with
    | nil =>
      intro p s k h3 h4 h5 hk _
      obtain ⟨k, rfl⟩ : ∃ j, k = j + 1 := ⟨k - 1, by omega⟩
      rw [List.append_nil] at h3
      subst h3
      rw [he5]
      obtain ⟨fil, f1, f2, f3⟩ := k9 s.length NN p.length (p ++ s) (by simp; omega) (by simp) (by omega) (by omega) (by rw [List.take_left' rfl]) (fun j x h1 h2 => by omega)
      exact ⟨fil, f1, by rw [f2]; simp, f3⟩
    | cons x r ih =>
      intro p s k h3 h4 h5 hk hR
      simp only [List.length_cons] at h5 hk
      obtain ⟨k, rfl⟩ : ∃ j, k = j + 1 := ⟨k - 1, by omega⟩
      cases s with
      | nil => simp at h5
      | cons y s =>
        have hs := hs5 k p r x p s y (hR x (by simp)) rfl (by simp only [List.length_cons] at h4 h5; omega) (by simp only [List.length_cons] at h4; omega)
        rw [h3] at hs
        rw [hs]
        obtain ⟨fil, f1, f2, f3⟩ := ih (p ++ [x]) s k (by rw [← h3]; simp) (by simp only [List.length_append, List.length_cons, List.length_nil] at h4 ⊢; omega) (by simp only [List.length_cons] at h5; omega) (by omega) (fun z hz => hR z (by simp [hz]))
        rw [mid_snoc, snoc_len] at f1
        exact ⟨fil, f1, by rw [f2]; simp only [List.length_append, List.length_cons, List.length_nil]; omega, f3⟩
  obtain ⟨fil, f1, f2, f3⟩ := k5 a [] out k rfl (by simpa using hb) h hk ha
  exact ⟨fil, by simpa using f1, by simpa using f2, f3⟩

/-- Rows that are marked, and looked at afterwards. -/
theorem mark_held {α : Type} {Q : α → Prop} (l : Nat → List α → Int → Int → Option (Int × List α)) (lh : Nat → List α → Int → Int → Option Int) (C : Nat) (K : Int)
    (he : ∀ k p n, l (k + 1) p n p.length = some (n, p)) (heh : ∀ k p n, lh (k + 1) p n p.length = some n)
    (hs : ∀ x, Q x → ∀ n, 0 ≤ n → n ≤ K → ∃ x' n', n ≤ n' ∧ n' ≤ n + C ∧ (∀ k p r, p.length + r.length + 1 ≤ 1000000 → l (k + 1) (p ++ x :: r) n p.length = l k (p ++ x' :: r) n' ((p.length : Int) + 1))
      ∧ (∀ k p r, p.length + r.length + 1 ≤ 1000000 → lh (k + 1) (p ++ x' :: r) n p.length = lh k (p ++ x' :: r) n' ((p.length : Int) + 1)))
    (a : List α) (ha : Lm Q a) (n : Int) (h0 : 0 ≤ n) (h1 : n + (1000000 * C : Nat) ≤ K) (k kh : Nat) (hk : 1000000 < k) (hkh : 1000000 < kh) :
    ∃ n' a', l k a n 0 = some (n', a') ∧ lh kh a' n 0 = some n' ∧ n ≤ n' ∧ n' ≤ n + (1000000 * C : Nat) := by
  have key : ∀ (r p : List α) (k : Nat) (n : Int), p.length + r.length ≤ 1000000 → (∀ x ∈ r, Q x) → 0 ≤ n → n + ((r.length * C : Nat) : Int) ≤ K → r.length < k →
      ∃ n' r', l k (p ++ r) n p.length = some (n', p ++ r') ∧ r'.length = r.length ∧ n ≤ n' ∧ n' ≤ n + ((r.length * C : Nat) : Int) ∧ (∀ (q : List α) kh, q.length = p.length → r.length < kh → lh kh (q ++ r') n q.length = some n') := by
    intro r
    induction r with
    | nil =>
      intro p k n _ _ h0 _ hk
      obtain ⟨k, rfl⟩ : ∃ j, k = j + 1 := ⟨k - 1, by omega⟩
      refine ⟨n, [], by rw [List.append_nil]; exact he k p n, rfl, by omega, by simp, fun q kh _ hkh => ?_⟩
      obtain ⟨kh, rfl⟩ : ∃ j, kh = j + 1 := ⟨kh - 1, by simp at hkh; omega⟩
      rw [List.append_nil]; exact heh kh q n
    | cons x r ih =>
      intro p k n hb hq h0 hK hk
      simp only [List.length_cons] at hk hb hK
      obtain ⟨k, rfl⟩ : ∃ j, k = j + 1 := ⟨k - 1, by omega⟩
      have hm : (r.length + 1) * C = r.length * C + C := by rw [Nat.add_mul, Nat.one_mul]
      rw [hm] at hK
      obtain ⟨x', n1, a1, a2, a3, a4⟩ := hs x (hq x (by simp)) n h0 (by omega)
      rw [a3 k p r (by omega)]
      obtain ⟨n', r', b1, b2, b3, b4, b5⟩ := ih (p ++ [x']) k n1 (by simp; omega) (fun y hy => hq y (by simp [hy])) (by omega) (by omega) (by omega)
      rw [mid_snoc, snoc_len] at b1
      refine ⟨n', x' :: r', by rw [b1]; simp, by simp [b2], by omega, by simp only [List.length_cons]; rw [hm]; omega, fun q kh hq' hkh => ?_⟩
      simp only [List.length_cons] at hkh
      obtain ⟨kh, rfl⟩ : ∃ j, kh = j + 1 := ⟨kh - 1, by omega⟩
      rw [a4 kh q r' (by omega)]
      have := b5 (q ++ [x']) kh (by simp [hq']) (by omega)
      rw [mid_snoc, snoc_len] at this
      exact this
  have hle : ((a.length * C : Nat) : Int) ≤ ((1000000 * C : Nat) : Int) := Int.ofNat_le.2 (Nat.mul_le_mul_right _ ha.1)
  obtain ⟨n', r', b1, b2, b3, b4, b5⟩ := key a [] k n (by simpa using ha.1) ha.2 h0 (by omega) (by have := ha.1; omega)
  have := b5 [] kh rfl (by have := ha.1; omega)
  exact ⟨n', r', by simpa using b1, by simpa using this, b3, by omega⟩
theorem mem_mid {α : Type} {a p r : List α} {x : α} (h : a = p ++ x :: r) : x ∈ a := by rw [h]; simp
end Go.Pl

namespace Go.Pl
open Go.Ev
set_option linter.unusedVariables false
set_option linter.unusedSimpArgs false
def PlRatio (x : Int × Int) : Prop := Rg .i64 x.1 ∧ Rg .i64 x.2
def OkRatio (x : Int × Int) : Prop := Rg .i64 x.1 ∧ Rg .i64 x.2
def PlArticle (x : ByteArray × Int × Int × Int × Int × Int × Int × Int × Int) : Prop := Sz x.1 ∧ Rg .i64 x.2.1 ∧ Rg .i64 x.2.2.1 ∧ Rg .i64 x.2.2.2.1 ∧ Rg .i64 x.2.2.2.2.1 ∧ Rg .i64 x.2.2.2.2.2.1 ∧ Rg .i64 x.2.2.2.2.2.2.1 ∧ Rg .i64 x.2.2.2.2.2.2.2.1 ∧ Rg .i64 x.2.2.2.2.2.2.2.2
def OkArticle (x : ByteArray × Int × Int × Int × Int × Int × Int × Int × Int) : Prop := Sm x.1 ∧ Rg .i64 x.2.1 ∧ Rg .i64 x.2.2.1 ∧ Rg .i64 x.2.2.2.1 ∧ Rg .i64 x.2.2.2.2.1 ∧ Rg .i64 x.2.2.2.2.2.1 ∧ Rg .i64 x.2.2.2.2.2.2.1 ∧ Rg .i64 x.2.2.2.2.2.2.2.1 ∧ Rg .i64 x.2.2.2.2.2.2.2.2
def PlLayer (x : Int × Int × Int) : Prop := Rg .i64 x.1 ∧ Rg .i64 x.2.1 ∧ Rg .i64 x.2.2
def OkLayer (x : Int × Int × Int) : Prop := Rg .i64 x.1 ∧ Rg .i64 x.2.1 ∧ Rg .i64 x.2.2
def PlShot (x : Int × Int × Int × Int) : Prop := Rg .i64 x.1 ∧ Rg .i64 x.2.1 ∧ Rg .i64 x.2.2.1 ∧ Rg .i64 x.2.2.2
def OkShot (x : Int × Int × Int × Int) : Prop := Rg .i64 x.1 ∧ Rg .i64 x.2.1 ∧ Rg .i64 x.2.2.1 ∧ Rg .i64 x.2.2.2
def PlBar (x : Int × Int) : Prop := Rg .i64 x.1 ∧ Rg .i64 x.2
def OkBar (x : Int × Int) : Prop := Rg .i64 x.1 ∧ Rg .i64 x.2
def PlCue (x : Int × Int × ByteArray × Int) : Prop := Rg .i64 x.1 ∧ Rg .i64 x.2.1 ∧ Sz x.2.2.1 ∧ Rg .i64 x.2.2.2
def OkCue (x : Int × Int × ByteArray × Int) : Prop := Rg .i64 x.1 ∧ Rg .i64 x.2.1 ∧ Sm x.2.2.1 ∧ Rg .i64 x.2.2.2
def PlShow (x : (List (Int × Int)) × (List (ByteArray × Int × Int × Int × Int × Int × Int × Int × Int)) × (List (Int × Int × ByteArray × Int))) : Prop := Ls PlBar x.1 ∧ Ls PlArticle x.2.1 ∧ Ls PlCue x.2.2
def OkShow (x : (List (Int × Int)) × (List (ByteArray × Int × Int × Int × Int × Int × Int × Int × Int)) × (List (Int × Int × ByteArray × Int))) : Prop := Lm OkBar x.1 ∧ Lm OkArticle x.2.1 ∧ Lm OkCue x.2.2
def PlFuse (x : Int × Int × Int × Int) : Prop := Rg .i64 x.1 ∧ Rg .i64 x.2.1 ∧ Rg .i64 x.2.2.1 ∧ Rg .i64 x.2.2.2
def OkFuse (x : Int × Int × Int × Int) : Prop := Rg .i64 x.1 ∧ Rg .i64 x.2.1 ∧ Rg .i64 x.2.2.1 ∧ Rg .i64 x.2.2.2
def PlLink (x : Int × Int) : Prop := Rg .i64 x.1 ∧ Rg .i64 x.2
def OkLink (x : Int × Int) : Prop := Rg .i64 x.1 ∧ Rg .i64 x.2
def PlModule (x : Int × Int) : Prop := Rg .i64 x.1 ∧ Rg .i64 x.2
def OkModule (x : Int × Int) : Prop := Rg .i64 x.1 ∧ Rg .i64 x.2
def PlWire (x : Int × Int × Int) : Prop := Rg .i64 x.1 ∧ Rg .i64 x.2.1 ∧ Rg .i64 x.2.2
def OkWire (x : Int × Int × Int) : Prop := Rg .i64 x.1 ∧ Rg .i64 x.2.1 ∧ Rg .i64 x.2.2
def PlCircuit (x : Int × List Int) : Prop := Rg .i64 x.1 ∧ Ls (Rg .i64) x.2
def OkCircuit (x : Int × List Int) : Prop := Rg .i64 x.1 ∧ Lm (Rg .i64) x.2
def PlArea (x : Int × Int × Int × Int × Int) : Prop := Rg .i64 x.1 ∧ Rg .i64 x.2.1 ∧ Rg .i64 x.2.2.1 ∧ Rg .i64 x.2.2.2.1 ∧ Rg .i64 x.2.2.2.2
def OkArea (x : Int × Int × Int × Int × Int) : Prop := Rg .i64 x.1 ∧ Rg .i64 x.2.1 ∧ Rg .i64 x.2.2.1 ∧ Rg .i64 x.2.2.2.1 ∧ Rg .i64 x.2.2.2.2
def PlDemand (x : Int × Int × Int) : Prop := Rg .i64 x.1 ∧ Rg .i64 x.2.1 ∧ Rg .i64 x.2.2
def OkDemand (x : Int × Int × Int) : Prop := Rg .i64 x.1 ∧ Rg .i64 x.2.1 ∧ Rg .i64 x.2.2
def PlRack (x : Int × Int × List Int × List ByteArray) : Prop := Rg .i64 x.1 ∧ Rg .i64 x.2.1 ∧ Ls (Rg .i64) x.2.2.1 ∧ Ls Sz x.2.2.2
def OkRack (x : Int × Int × List Int × List ByteArray) : Prop := Rg .i64 x.1 ∧ Rg .i64 x.2.1 ∧ Lm (Rg .i64) x.2.2.1 ∧ Lm Sm x.2.2.2
def PlField (x : (List (Int × Int × Int)) × (List (Int × Int × Int × Int × Int)) × List Int × List Int × List Int × Int) : Prop := Ls PlDemand x.1 ∧ Ls PlArea x.2.1 ∧ Ls (Rg .i64) x.2.2.1 ∧ Ls (Rg .i64) x.2.2.2.1 ∧ Ls (Rg .i64) x.2.2.2.2.1 ∧ Rg .i64 x.2.2.2.2.2
def OkField (x : (List (Int × Int × Int)) × (List (Int × Int × Int × Int × Int)) × List Int × List Int × List Int × Int) : Prop := Lm OkDemand x.1 ∧ Lm OkArea x.2.1 ∧ Lm (Rg .i64) x.2.2.1 ∧ Lm (Rg .i64) x.2.2.2.1 ∧ Lm (Rg .i64) x.2.2.2.2.1 ∧ Rg .i64 x.2.2.2.2.2
def PlMove (x : Int × ByteArray × Int) : Prop := Rg .i64 x.1 ∧ Sz x.2.1 ∧ Rg .i64 x.2.2
def OkMove (x : Int × ByteArray × Int) : Prop := Rg .i64 x.1 ∧ Sm x.2.1 ∧ Rg .i64 x.2.2
def PlController (x : Bool × Bool × Bool × Bool × Bool × Int) : Prop := True ∧ True ∧ True ∧ True ∧ True ∧ Rg .i64 x.2.2.2.2.2
def OkController (x : Bool × Bool × Bool × Bool × Bool × Int) : Prop := True ∧ True ∧ True ∧ True ∧ True ∧ Rg .i64 x.2.2.2.2.2
def PlSignal (x : Int × Int) : Prop := Rg .i64 x.1 ∧ Rg .i64 x.2
def OkSignal (x : Int × Int) : Prop := Rg .i64 x.1 ∧ Rg .i64 x.2
def PlTry (x : Int × Int × Bool) : Prop := Rg .i64 x.1 ∧ Rg .i64 x.2.1 ∧ True
def OkTry (x : Int × Int × Bool) : Prop := Rg .i64 x.1 ∧ Rg .i64 x.2.1 ∧ True
def PlMagazine (x : Int × List Int) : Prop := Rg .i64 x.1 ∧ Ls (Rg .i64) x.2
def OkMagazine (x : Int × List Int) : Prop := Rg .i64 x.1 ∧ Lm (Rg .i64) x.2
def PlDepot (x : Int × Int × Int) : Prop := Rg .i64 x.1 ∧ Rg .i64 x.2.1 ∧ Rg .i64 x.2.2
def OkDepot (x : Int × Int × Int) : Prop := Rg .i64 x.1 ∧ Rg .i64 x.2.1 ∧ Rg .i64 x.2.2
def PlBox (x : Int × Int) : Prop := Rg .i64 x.1 ∧ Rg .i64 x.2
def OkBox (x : Int × Int) : Prop := Rg .i64 x.1 ∧ Rg .i64 x.2
def PlLine (x : ByteArray × Int) : Prop := Sz x.1 ∧ Rg .i64 x.2
def OkLine (x : ByteArray × Int) : Prop := Sm x.1 ∧ Rg .i64 x.2
def PlPaper (x : ByteArray × Int × (List (ByteArray × Int))) : Prop := Sz x.1 ∧ Rg .i64 x.2.1 ∧ Ls PlLine x.2.2
def OkPaper (x : ByteArray × Int × (List (ByteArray × Int))) : Prop := Sm x.1 ∧ Rg .i64 x.2.1 ∧ Lm OkLine x.2.2
def PlPermit (x : Int × Int × Int × Int × List Int × Int) : Prop := Rg .i64 x.1 ∧ Rg .i64 x.2.1 ∧ Rg .i64 x.2.2.1 ∧ Rg .i64 x.2.2.2.1 ∧ Ls (Rg .i64) x.2.2.2.2.1 ∧ Rg .i64 x.2.2.2.2.2
def OkPermit (x : Int × Int × Int × Int × List Int × Int) : Prop := Rg .i64 x.1 ∧ Rg .i64 x.2.1 ∧ Rg .i64 x.2.2.1 ∧ Rg .i64 x.2.2.2.1 ∧ Lm (Rg .i64) x.2.2.2.2.1 ∧ Rg .i64 x.2.2.2.2.2
def PlGrid (x : Int × Int × List Bool) : Prop := Rg .i64 x.1 ∧ Rg .i64 x.2.1 ∧ Ls (fun _ => True) x.2.2
def OkGrid (x : Int × Int × List Bool) : Prop := Rg .i64 x.1 ∧ Rg .i64 x.2.1 ∧ Lm (fun _ => True) x.2.2
def PlBooking (x : Int × ByteArray × Int) : Prop := Rg .i64 x.1 ∧ Sz x.2.1 ∧ Rg .i64 x.2.2
def OkBooking (x : Int × ByteArray × Int) : Prop := Rg .i64 x.1 ∧ Sm x.2.1 ∧ Rg .i64 x.2.2
def PlEntry (x : Int × ByteArray) : Prop := Rg .u8 x.1 ∧ Sz x.2
def OkEntry (x : Int × ByteArray) : Prop := Rg .u8 x.1 ∧ Sm x.2
def PlDesk (x : (List (Int × ByteArray × Int)) × (List (Int × Int)) × (List (Int × ByteArray × Int))) : Prop := Ls PlMove x.1 ∧ Ls PlSignal x.2.1 ∧ Ls PlBooking x.2.2
def OkDesk (x : (List (Int × ByteArray × Int)) × (List (Int × Int)) × (List (Int × ByteArray × Int))) : Prop := Lm OkMove x.1 ∧ Lm OkSignal x.2.1 ∧ Lm OkBooking x.2.2
end Go.Pl

namespace Go.Pl
open Go.Ev
set_option linter.unusedVariables false
set_option linter.unusedSimpArgs false
theorem laws_szBooking_ok (a : Int × ByteArray × Int) (left : Int) (h0 : -1000000000000000 ≤ left) (h1 : left ≤ 1000000) (ha : PlBooking a) : ∃ s, laws_szBooking.f a left = some s ∧ s ≤ 1000000 ∧ (0 ≤ s → s ≤ left ∧ OkBooking a) := by
  unfold laws_szBooking.f laws_szBooking.fn laws_szBooking.top
  have hz1 : a.2.1.size ≤ 140737488355328 := ha.2.1
  have hw1 := w64 (n := left - (a.2.1.size : Int)) (by omega) (by omega)
  simp only [hw1]
  by_cases hn1 : left - (a.2.1.size : Int) < 0
  · exact ⟨-1, by simp [hn1], by omega, by omega⟩
  simp only [hn1, decide_false, Bool.false_eq_true, if_false]
  exact ⟨_, rfl, by omega, fun h => ⟨by omega, ha.1, (by unfold Sm; omega), ha.2.2⟩⟩
end Go.Pl

namespace Go.Pl
open Go.Ev
set_option linter.unusedVariables false
set_option linter.unusedSimpArgs false
theorem laws_szBookingS_ok (a : List (Int × ByteArray × Int)) (left : Int) (h0 : -1000000000000000 ≤ left) (h1 : left ≤ 1000000) (ha : Ls PlBooking a) : ∃ s, laws_szBookingS.f a left = some s ∧ s ≤ 1000000 ∧ (0 ≤ s → s ≤ left ∧ Lm OkBooking a) := by
  unfold laws_szBookingS.f laws_szBookingS.fn laws_szBookingS.top
  have hl : a.length ≤ 140737488355328 := ha.1
  have hw := w64 (n := left - (a.length : Int)) (by omega) (by omega)
  simp only [hw]
  by_cases hn : left - (a.length : Int) < 0
  · exact ⟨-1, by simp [hn], by omega, by omega⟩
  · simp only [hn, decide_false, Bool.false_eq_true, if_false]
    have := szS_loop (Q := PlBooking) (R := OkBooking) (fun k a left i => laws_szBookingS.l5 NN k a left i) ?_ ?_ a NN (left - (a.length : Int)) (by omega) (by omega) ha (NN_lt (by omega))
    · obtain ⟨s, s1, s2, s3⟩ := this
      exact ⟨s, s1, by omega, fun h => ⟨by have := (s3 h).1; omega, by omega, (s3 h).2⟩⟩
    · intro k p left
      show laws_szBookingS.g5 (laws_szBookingS.l5 NN k) p left p.length = _
      unfold laws_szBookingS.g5
      simp
    · intro x hx left l0 l1
      obtain ⟨s, s1, s2, s3⟩ := laws_szBooking_ok x left l0 l1 hx
      refine ⟨s, s2, s3, fun k p r hb => ?_⟩
      show laws_szBookingS.g5 (laws_szBookingS.l5 NN k) (p ++ x :: r) left p.length = _
      unfold laws_szBookingS.g5
      have hl := mid_len p r x
      have c1 : (p.length : Int) < ((p ++ x :: r).length : Int) := by omega
      have c0 : (0 : Int) ≤ (p.length : Int) := by omega
      have cw := w64 (n := (p.length : Int) + 1) (by omega) (by omega)
      simp only [c0, c1, and_self, decide_true, if_true, mid_get, s1, Option.bind_some, cw, decide_eq_true_eq]
end Go.Pl

namespace Go.Pl
open Go.Ev
set_option linter.unusedVariables false
set_option linter.unusedSimpArgs false
theorem laws_szMove_ok (a : Int × ByteArray × Int) (left : Int) (h0 : -1000000000000000 ≤ left) (h1 : left ≤ 1000000) (ha : PlMove a) : ∃ s, laws_szMove.f a left = some s ∧ s ≤ 1000000 ∧ (0 ≤ s → s ≤ left ∧ OkMove a) := by
  unfold laws_szMove.f laws_szMove.fn laws_szMove.top
  have hz1 : a.2.1.size ≤ 140737488355328 := ha.2.1
  have hw1 := w64 (n := left - (a.2.1.size : Int)) (by omega) (by omega)
  simp only [hw1]
  by_cases hn1 : left - (a.2.1.size : Int) < 0
  · exact ⟨-1, by simp [hn1], by omega, by omega⟩
  simp only [hn1, decide_false, Bool.false_eq_true, if_false]
  exact ⟨_, rfl, by omega, fun h => ⟨by omega, ha.1, (by unfold Sm; omega), ha.2.2⟩⟩
end Go.Pl

namespace Go.Pl
open Go.Ev
set_option linter.unusedVariables false
set_option linter.unusedSimpArgs false
theorem laws_szMoveS_ok (a : List (Int × ByteArray × Int)) (left : Int) (h0 : -1000000000000000 ≤ left) (h1 : left ≤ 1000000) (ha : Ls PlMove a) : ∃ s, laws_szMoveS.f a left = some s ∧ s ≤ 1000000 ∧ (0 ≤ s → s ≤ left ∧ Lm OkMove a) := by
  unfold laws_szMoveS.f laws_szMoveS.fn laws_szMoveS.top
  have hl : a.length ≤ 140737488355328 := ha.1
  have hw := w64 (n := left - (a.length : Int)) (by omega) (by omega)
  simp only [hw]
  by_cases hn : left - (a.length : Int) < 0
  · exact ⟨-1, by simp [hn], by omega, by omega⟩
  · simp only [hn, decide_false, Bool.false_eq_true, if_false]
    have := szS_loop (Q := PlMove) (R := OkMove) (fun k a left i => laws_szMoveS.l5 NN k a left i) ?_ ?_ a NN (left - (a.length : Int)) (by omega) (by omega) ha (NN_lt (by omega))
    · obtain ⟨s, s1, s2, s3⟩ := this
      exact ⟨s, s1, by omega, fun h => ⟨by have := (s3 h).1; omega, by omega, (s3 h).2⟩⟩
    · intro k p left
      show laws_szMoveS.g5 (laws_szMoveS.l5 NN k) p left p.length = _
      unfold laws_szMoveS.g5
      simp
    · intro x hx left l0 l1
      obtain ⟨s, s1, s2, s3⟩ := laws_szMove_ok x left l0 l1 hx
      refine ⟨s, s2, s3, fun k p r hb => ?_⟩
      show laws_szMoveS.g5 (laws_szMoveS.l5 NN k) (p ++ x :: r) left p.length = _
      unfold laws_szMoveS.g5
      have hl := mid_len p r x
      have c1 : (p.length : Int) < ((p ++ x :: r).length : Int) := by omega
      have c0 : (0 : Int) ≤ (p.length : Int) := by omega
      have cw := w64 (n := (p.length : Int) + 1) (by omega) (by omega)
      simp only [c0, c1, and_self, decide_true, if_true, mid_get, s1, Option.bind_some, cw, decide_eq_true_eq]
end Go.Pl

namespace Go.Pl
open Go.Ev
set_option linter.unusedVariables false
set_option linter.unusedSimpArgs false
theorem laws_szSignalS_ok (a : List (Int × Int)) (left : Int) (h0 : -1000000000000000 ≤ left) (h1 : left ≤ 1000000) (ha : Ls PlSignal a) : ∃ s, laws_szSignalS.f a left = some s ∧ s ≤ 1000000 ∧ (0 ≤ s → s ≤ left ∧ Lm OkSignal a) := by
  unfold laws_szSignalS.f laws_szSignalS.fn laws_szSignalS.top
  have hl : a.length ≤ 140737488355328 := ha.1
  have hw := w64 (n := left - (a.length : Int)) (by omega) (by omega)
  simp only [hw]
  by_cases hn : left - (a.length : Int) < 0
  · exact ⟨-1, by simp [hn], by omega, by omega⟩
  · simp only [hn, decide_false, Bool.false_eq_true, if_false]
    exact ⟨_, rfl, by omega, fun h => ⟨by omega, by omega, ha.2⟩⟩
end Go.Pl

namespace Go.Pl
open Go.Ev
set_option linter.unusedVariables false
set_option linter.unusedSimpArgs false
theorem laws_szDesk_ok (a : (List (Int × ByteArray × Int)) × (List (Int × Int)) × (List (Int × ByteArray × Int))) (left : Int) (h0 : -1000000000000000 ≤ left) (h1 : left ≤ 1000000) (ha : PlDesk a) : ∃ s, laws_szDesk.f a left = some s ∧ s ≤ 1000000 ∧ (0 ≤ s → s ≤ left ∧ OkDesk a) := by
  unfold laws_szDesk.f laws_szDesk.fn laws_szDesk.top
  obtain ⟨s1, e1, l1, k1⟩ := laws_szMoveS_ok a.1 left (by omega) (by omega) ha.1
  simp only [e1, Option.bind_some, decide_eq_true_eq]
  by_cases hn1 : s1 < 0
  · exact ⟨-1, by simp [hn1], by omega, by omega⟩
  simp only [hn1, if_false]
  obtain ⟨s2, e2, l2, k2⟩ := laws_szSignalS_ok a.2.1 s1 (by omega) (by omega) ha.2.1
  simp only [e2, Option.bind_some, decide_eq_true_eq]
  by_cases hn2 : s2 < 0
  · exact ⟨-1, by simp [hn2], by omega, by omega⟩
  simp only [hn2, if_false]
  obtain ⟨s3, e3, l3, k3⟩ := laws_szBookingS_ok a.2.2 s2 (by omega) (by omega) ha.2.2
  simp only [e3, Option.bind_some, decide_eq_true_eq]
  by_cases hn3 : s3 < 0
  · exact ⟨-1, by simp [hn3], by omega, by omega⟩
  simp only [hn3, if_false]
  exact ⟨_, rfl, by omega, fun h => ⟨by have t1 := (k1 (by omega)).1; have t2 := (k2 (by omega)).1; have t3 := (k3 (by omega)).1; omega, (k1 (by omega)).2, (k2 (by omega)).2, (k3 (by omega)).2⟩⟩
end Go.Pl

namespace Go.Pl
open Go.Ev
set_option linter.unusedVariables false
set_option linter.unusedSimpArgs false
theorem laws_eqBooking_self (a : Int × ByteArray × Int) : laws_eqBooking.f a a = some true := by
  unfold laws_eqBooking.f laws_eqBooking.fn laws_eqBooking.top
  simp []
end Go.Pl

namespace Go.Pl
open Go.Ev
set_option linter.unusedVariables false
set_option linter.unusedSimpArgs false
theorem laws_eqBookingS_self (a : List (Int × ByteArray × Int)) (hl : a.length ≤ 140737488355328) : laws_eqBookingS.f a a = some true := by
  unfold laws_eqBookingS.f laws_eqBookingS.fn laws_eqBookingS.top
  simp only [bne_self_eq_false, Bool.false_eq_true, if_false]
  refine eqS_loop (E := fun _ => True) (fun k a b i => laws_eqBookingS.l4 NN k a b i) a (fun _ _ => trivial) ?_ ?_ NN (NN_lt (by omega))
  · intro k p x r hx ha
    subst ha
    show laws_eqBookingS.g4 (laws_eqBookingS.l4 NN k) (p ++ x :: r) (p ++ x :: r) p.length = _
    unfold laws_eqBookingS.g4
    have hm := mid_len p r x
    have c1 : (p.length : Int) < ((p ++ x :: r).length : Int) := by omega
    have c0 : (0 : Int) ≤ (p.length : Int) := by omega
    have cw := w64 (n := (p.length : Int) + 1) (by omega) (by omega)
    simp only [c0, c1, and_self, decide_true, if_true, mid_get, laws_eqBooking_self x, Option.bind_some, cw, Bool.not_true, Bool.false_eq_true, if_false]
  · intro k
    show laws_eqBookingS.g4 (laws_eqBookingS.l4 NN k) a a a.length = _
    unfold laws_eqBookingS.g4
    simp
end Go.Pl

namespace Go.Pl
open Go.Ev
set_option linter.unusedVariables false
set_option linter.unusedSimpArgs false
theorem roomBehind_le (n : Int) (h0 : 0 ≤ n) : ∃ r, laws_roomBehind.f n = some r ∧ 0 ≤ r ∧ (r ≤ n ∨ r = 1) := by
  unfold laws_roomBehind.f laws_roomBehind.fn laws_roomBehind.top
  split
  · exact ⟨0, rfl, by omega, by omega⟩
  · split
    · exact ⟨1, rfl, by omega, .inr rfl⟩
    · exact ⟨n, rfl, h0, .inl (by omega)⟩
theorem roomv1 : room 1 = 140737488355328 := by decide
theorem roomv8 : room 8 = 17592186044416 := by decide
theorem roomv16 : room 16 = 8796093022208 := by decide
theorem roomv24 : room 24 = 5864062014805 := by decide
theorem roomv32 : room 32 = 4398046511104 := by decide
theorem roomv40 : room 40 = 3518437208883 := by decide
theorem roomv48 : room 48 = 2932031007402 := by decide
theorem roomv56 : room 56 = 2513169434916 := by decide
theorem roomv64 : room 64 = 2199023255552 := by decide
theorem roomv72 : room 72 = 1954687338268 := by decide
theorem roomv80 : room 80 = 1759218604441 := by decide
theorem roomv88 : room 88 = 1599289640401 := by decide
theorem roomv96 : room 96 = 1466015503701 := by decide
theorem roomv104 : room 104 = 1353245080339 := by decide
theorem roomv112 : room 112 = 1256584717458 := by decide
theorem roomv120 : room 120 = 1172812402961 := by decide
theorem roomv128 : room 128 = 1099511627776 := by decide
end Go.Pl

namespace Go.Pl
open Go.Ev
set_option linter.unusedVariables false
set_option linter.unusedSimpArgs false
theorem laws_toBooking_ok (a : Int × ByteArray × Int) : laws_toBooking.f a = some a := rfl
end Go.Pl

namespace Go.Pl
open Go.Ev
set_option linter.unusedVariables false
set_option linter.unusedSimpArgs false
theorem laws_toBookingS_ok (a : List (Int × ByteArray × Int)) (ha : Lm OkBooking a) (bare : Bool) : ∃ fil, laws_toBookingS.f a bare = some (a, fil) ∧ (bare = false → laws_roomBehind.f a.length = some (fil.length : Int)) ∧ fil.length ≤ 1000001 ∧ ∀ x ∈ fil, (fun _ => True) x := by
  have hl : a.length ≤ 1000000 := ha.1
  obtain ⟨r, h1, h2, h3⟩ := roomBehind_le a.length (by omega)
  have hw := w64 (n := (a.length : Int) + r) (by omega) (by omega)
  have c1 : (0 : Int) ≤ a.length + r ∧ (a.length : Int) + r < (room 32 : Nat) ∧ (a.length : Int) + r = a.length + r := by rw [roomv32]; omega
  have key : ∃ fil, laws_toBookingS.l5 NN NN a 0 (List.replicate ((a.length : Int) + r).toNat (0, (ByteArray.empty, 0))) = some (a, fil) ∧ fil.length = ((a.length : Int) + r).toNat - a.length ∧ ∀ x ∈ fil, (fun _ => True) x := by
    have := toS_loop (Z := fun _ => True) (R := OkBooking) (fun k a i out => laws_toBookingS.l5 NN k a i out) (fun k a i out => laws_toBookingS.l9 NN k a i out) ?_ ?_ ?_ ?_ a (List.replicate ((a.length : Int) + r).toNat (0, (ByteArray.empty, 0))) NN ha.2 (by rw [List.length_replicate]; omega) (by rw [List.length_replicate]; omega) (NN_lt (by omega))
    · simpa using this
    · intro k a out h
      show laws_toBookingS.g9 (laws_toBookingS.l9 NN k) a out.length out = _
      unfold laws_toBookingS.g9
      have c2 : (0 : Int) ≤ (a.length : Int) := by omega
      simp [h]
    · intro k a i out hi hb
      have d1 : (i : Int) < (out.length : Int) := by omega
      have d0 : (0 : Int) ≤ (i : Int) := by omega
      have dw := w64 (n := (i : Int) + 1) (by omega) (by omega)
      have e : laws_toBookingS.g9 (laws_toBookingS.l9 NN k) a i out = laws_toBookingS.l9 NN k a ((i : Int) + 1) (out.set i ((-7000000000000000101), ((⟨#[126, 115, 112, 97, 114, 101, 126]⟩ : ByteArray), (-7000000000000000101)))) := by
        unfold laws_toBookingS.g9
        simp only [d0, d1, and_self, decide_true, if_true, dw, Int.toNat_natCast, laws_fillerBooking.f, laws_fillerBooking.fn, laws_fillerBooking.top, Option.bind_some]
      exact ⟨_, trivial, e⟩
    · intro k a out
      show laws_toBookingS.g5 (laws_toBookingS.l9 NN NN) (laws_toBookingS.l5 NN k) a a.length out = _
      unfold laws_toBookingS.g5
      simp
    · intro k p r x q s y hx hpq hb hb2
      have hm := mid_len p r x
      have hm2 := mid_len q s y
      have d1 : (p.length : Int) < ((p ++ x :: r).length : Int) := by omega
      have d2 : (q.length : Int) < ((q ++ y :: s).length : Int) := by omega
      have d0 : (0 : Int) ≤ (q.length : Int) := by omega
      have dw := w64 (n := (q.length : Int) + 1) (by omega) (by omega)
      have g := mid_get p r x (0, (ByteArray.empty, 0))
      show laws_toBookingS.g5 (laws_toBookingS.l9 NN NN) (laws_toBookingS.l5 NN k) (p ++ x :: r) p.length (q ++ y :: s) = laws_toBookingS.l5 NN k (p ++ x :: r) ((p.length : Int) + 1) (q ++ x :: s)
      unfold laws_toBookingS.g5
      rw [hpq] at d1 g ⊢
      have e5 := hpq
      simp only [d0, d1, d2, and_self, decide_true, if_true, g, laws_toBooking_ok, Option.bind_some, dw, mid_set]
  obtain ⟨fil, k1, k2, k3⟩ := key
  have k4 : (fil.length : Int) = r := by omega
  unfold laws_toBookingS.f laws_toBookingS.fn laws_toBookingS.top
  simp only [h1, Option.bind_some, hw, c1, and_self, if_true]
  by_cases hb : bare = true
  · simp only [hb, if_true]
    by_cases he : a = []
    · subst he
      exact ⟨[], by simp, by simp, by simp, by simp⟩
    · have : ((a.length : Int) == 0) = false := by simpa using he
      simp only [this, Bool.false_eq_true, if_false]
      exact ⟨fil, by first | exact k1 | (rw [hb] at k1; exact k1), by simp, by omega, k3⟩
  · simp only [hb, Bool.false_eq_true, if_false]
    exact ⟨fil, by first | exact k1 | (rw [Bool.not_eq_true] at hb; rw [hb] at k1; exact k1), fun _ => by rw [k4], by omega, k3⟩
theorem laws_intactBookingS_self (a fil : List (Int × ByteArray × Int)) (ha : Lm OkBooking a) (h1 : laws_roomBehind.f a.length = some (fil.length : Int)) (h2 : fil.length ≤ 1000001) (h3 : ∀ x ∈ fil, (fun _ => True) x) : laws_intactBookingS.f (a, fil) (a, fil) = some true := by
  have hl : a.length ≤ 1000000 := ha.1
  unfold laws_intactBookingS.f laws_intactBookingS.fn laws_intactBookingS.top
  have hw := w64 (n := (a.length : Int) + (fil.length : Int)) (by omega) (by omega)
  have c1 : (0 : Int) ≤ a.length + fil.length ∧ (a.length : Int) + fil.length ≤ ((a ++ fil).length : Nat) := by rw [List.length_append]; omega
  simp only [h1, Option.bind_some, hw, beq_self_eq_true, if_true, c1, and_self]
  rw [laws_eqBookingS_self _ (by rw [List.length_take, List.length_append]; omega)]
  rfl
theorem laws_toBookingS_both (a : List (Int × ByteArray × Int)) (ha : Lm OkBooking a) : ∃ f : Bool → List (Int × ByteArray × Int), (∀ bare, laws_toBookingS.f a bare = some (a, f bare)) ∧ laws_intactBookingS.f (a, f false) (a, f false) = some true := by
  obtain ⟨f1, a1, a2, a3, a4⟩ := laws_toBookingS_ok a ha false
  obtain ⟨f2, b1, b2, b3, b4⟩ := laws_toBookingS_ok a ha true
  refine ⟨fun bare => if bare = true then f2 else f1, fun bare => ?_, ?_⟩
  · cases bare
    · simpa using a1
    · simpa using b1
  · simpa using laws_intactBookingS_self a f1 ha (a2 rfl) a3 a4
end Go.Pl

namespace Go.Pl
open Go.Ev
set_option linter.unusedVariables false
set_option linter.unusedSimpArgs false
theorem laws_eqMove_self (a : Int × ByteArray × Int) : laws_eqMove.f a a = some true := by
  unfold laws_eqMove.f laws_eqMove.fn laws_eqMove.top
  simp []
end Go.Pl

namespace Go.Pl
open Go.Ev
set_option linter.unusedVariables false
set_option linter.unusedSimpArgs false
theorem laws_eqMoveS_self (a : List (Int × ByteArray × Int)) (hl : a.length ≤ 140737488355328) : laws_eqMoveS.f a a = some true := by
  unfold laws_eqMoveS.f laws_eqMoveS.fn laws_eqMoveS.top
  simp only [bne_self_eq_false, Bool.false_eq_true, if_false]
  refine eqS_loop (E := fun _ => True) (fun k a b i => laws_eqMoveS.l4 NN k a b i) a (fun _ _ => trivial) ?_ ?_ NN (NN_lt (by omega))
  · intro k p x r hx ha
    subst ha
    show laws_eqMoveS.g4 (laws_eqMoveS.l4 NN k) (p ++ x :: r) (p ++ x :: r) p.length = _
    unfold laws_eqMoveS.g4
    have hm := mid_len p r x
    have c1 : (p.length : Int) < ((p ++ x :: r).length : Int) := by omega
    have c0 : (0 : Int) ≤ (p.length : Int) := by omega
    have cw := w64 (n := (p.length : Int) + 1) (by omega) (by omega)
    simp only [c0, c1, and_self, decide_true, if_true, mid_get, laws_eqMove_self x, Option.bind_some, cw, Bool.not_true, Bool.false_eq_true, if_false]
  · intro k
    show laws_eqMoveS.g4 (laws_eqMoveS.l4 NN k) a a a.length = _
    unfold laws_eqMoveS.g4
    simp
end Go.Pl

namespace Go.Pl
open Go.Ev
set_option linter.unusedVariables false
set_option linter.unusedSimpArgs false
theorem laws_toMove_ok (a : Int × ByteArray × Int) : laws_toMove.f a = some a := rfl
end Go.Pl

namespace Go.Pl
open Go.Ev
set_option linter.unusedVariables false
set_option linter.unusedSimpArgs false
theorem laws_toMoveS_ok (a : List (Int × ByteArray × Int)) (ha : Lm OkMove a) (bare : Bool) : ∃ fil, laws_toMoveS.f a bare = some (a, fil) ∧ (bare = false → laws_roomBehind.f a.length = some (fil.length : Int)) ∧ fil.length ≤ 1000001 ∧ ∀ x ∈ fil, (fun _ => True) x := by
  have hl : a.length ≤ 1000000 := ha.1
  obtain ⟨r, h1, h2, h3⟩ := roomBehind_le a.length (by omega)
  have hw := w64 (n := (a.length : Int) + r) (by omega) (by omega)
  have c1 : (0 : Int) ≤ a.length + r ∧ (a.length : Int) + r < (room 32 : Nat) ∧ (a.length : Int) + r = a.length + r := by rw [roomv32]; omega
  have key : ∃ fil, laws_toMoveS.l5 NN NN a 0 (List.replicate ((a.length : Int) + r).toNat (0, (ByteArray.empty, 0))) = some (a, fil) ∧ fil.length = ((a.length : Int) + r).toNat - a.length ∧ ∀ x ∈ fil, (fun _ => True) x := by
    have := toS_loop (Z := fun _ => True) (R := OkMove) (fun k a i out => laws_toMoveS.l5 NN k a i out) (fun k a i out => laws_toMoveS.l9 NN k a i out) ?_ ?_ ?_ ?_ a (List.replicate ((a.length : Int) + r).toNat (0, (ByteArray.empty, 0))) NN ha.2 (by rw [List.length_replicate]; omega) (by rw [List.length_replicate]; omega) (NN_lt (by omega))
    · simpa using this
    · intro k a out h
      show laws_toMoveS.g9 (laws_toMoveS.l9 NN k) a out.length out = _
      unfold laws_toMoveS.g9
      have c2 : (0 : Int) ≤ (a.length : Int) := by omega
      simp [h]
    · intro k a i out hi hb
      have d1 : (i : Int) < (out.length : Int) := by omega
      have d0 : (0 : Int) ≤ (i : Int) := by omega
      have dw := w64 (n := (i : Int) + 1) (by omega) (by omega)
      have e : laws_toMoveS.g9 (laws_toMoveS.l9 NN k) a i out = laws_toMoveS.l9 NN k a ((i : Int) + 1) (out.set i ((-7000000000000000101), ((⟨#[126, 115, 112, 97, 114, 101, 126]⟩ : ByteArray), (-7000000000000000101)))) := by
        unfold laws_toMoveS.g9
        simp only [d0, d1, and_self, decide_true, if_true, dw, Int.toNat_natCast, laws_fillerMove.f, laws_fillerMove.fn, laws_fillerMove.top, Option.bind_some]
      exact ⟨_, trivial, e⟩
    · intro k a out
      show laws_toMoveS.g5 (laws_toMoveS.l9 NN NN) (laws_toMoveS.l5 NN k) a a.length out = _
      unfold laws_toMoveS.g5
      simp
    · intro k p r x q s y hx hpq hb hb2
      have hm := mid_len p r x
      have hm2 := mid_len q s y
      have d1 : (p.length : Int) < ((p ++ x :: r).length : Int) := by omega
      have d2 : (q.length : Int) < ((q ++ y :: s).length : Int) := by omega
      have d0 : (0 : Int) ≤ (q.length : Int) := by omega
      have dw := w64 (n := (q.length : Int) + 1) (by omega) (by omega)
      have g := mid_get p r x (0, (ByteArray.empty, 0))
      show laws_toMoveS.g5 (laws_toMoveS.l9 NN NN) (laws_toMoveS.l5 NN k) (p ++ x :: r) p.length (q ++ y :: s) = laws_toMoveS.l5 NN k (p ++ x :: r) ((p.length : Int) + 1) (q ++ x :: s)
      unfold laws_toMoveS.g5
      rw [hpq] at d1 g ⊢
      have e5 := hpq
      simp only [d0, d1, d2, and_self, decide_true, if_true, g, laws_toMove_ok, Option.bind_some, dw, mid_set]
  obtain ⟨fil, k1, k2, k3⟩ := key
  have k4 : (fil.length : Int) = r := by omega
  unfold laws_toMoveS.f laws_toMoveS.fn laws_toMoveS.top
  simp only [h1, Option.bind_some, hw, c1, and_self, if_true]
  by_cases hb : bare = true
  · simp only [hb, if_true]
    by_cases he : a = []
    · subst he
      exact ⟨[], by simp, by simp, by simp, by simp⟩
    · have : ((a.length : Int) == 0) = false := by simpa using he
      simp only [this, Bool.false_eq_true, if_false]
      exact ⟨fil, by first | exact k1 | (rw [hb] at k1; exact k1), by simp, by omega, k3⟩
  · simp only [hb, Bool.false_eq_true, if_false]
    exact ⟨fil, by first | exact k1 | (rw [Bool.not_eq_true] at hb; rw [hb] at k1; exact k1), fun _ => by rw [k4], by omega, k3⟩
theorem laws_intactMoveS_self (a fil : List (Int × ByteArray × Int)) (ha : Lm OkMove a) (h1 : laws_roomBehind.f a.length = some (fil.length : Int)) (h2 : fil.length ≤ 1000001) (h3 : ∀ x ∈ fil, (fun _ => True) x) : laws_intactMoveS.f (a, fil) (a, fil) = some true := by
  have hl : a.length ≤ 1000000 := ha.1
  unfold laws_intactMoveS.f laws_intactMoveS.fn laws_intactMoveS.top
  have hw := w64 (n := (a.length : Int) + (fil.length : Int)) (by omega) (by omega)
  have c1 : (0 : Int) ≤ a.length + fil.length ∧ (a.length : Int) + fil.length ≤ ((a ++ fil).length : Nat) := by rw [List.length_append]; omega
  simp only [h1, Option.bind_some, hw, beq_self_eq_true, if_true, c1, and_self]
  rw [laws_eqMoveS_self _ (by rw [List.length_take, List.length_append]; omega)]
  rfl
theorem laws_toMoveS_both (a : List (Int × ByteArray × Int)) (ha : Lm OkMove a) : ∃ f : Bool → List (Int × ByteArray × Int), (∀ bare, laws_toMoveS.f a bare = some (a, f bare)) ∧ laws_intactMoveS.f (a, f false) (a, f false) = some true := by
  obtain ⟨f1, a1, a2, a3, a4⟩ := laws_toMoveS_ok a ha false
  obtain ⟨f2, b1, b2, b3, b4⟩ := laws_toMoveS_ok a ha true
  refine ⟨fun bare => if bare = true then f2 else f1, fun bare => ?_, ?_⟩
  · cases bare
    · simpa using a1
    · simpa using b1
  · simpa using laws_intactMoveS_self a f1 ha (a2 rfl) a3 a4
end Go.Pl

namespace Go.Pl
open Go.Ev
set_option linter.unusedVariables false
set_option linter.unusedSimpArgs false
theorem laws_eqSignal_self (a : Int × Int) : laws_eqSignal.f a a = some true := by
  unfold laws_eqSignal.f laws_eqSignal.fn laws_eqSignal.top
  simp []
end Go.Pl

namespace Go.Pl
open Go.Ev
set_option linter.unusedVariables false
set_option linter.unusedSimpArgs false
theorem laws_eqSignalS_self (a : List (Int × Int)) (hl : a.length ≤ 140737488355328) : laws_eqSignalS.f a a = some true := by
  unfold laws_eqSignalS.f laws_eqSignalS.fn laws_eqSignalS.top
  simp only [bne_self_eq_false, Bool.false_eq_true, if_false]
  refine eqS_loop (E := fun _ => True) (fun k a b i => laws_eqSignalS.l4 NN k a b i) a (fun _ _ => trivial) ?_ ?_ NN (NN_lt (by omega))
  · intro k p x r hx ha
    subst ha
    show laws_eqSignalS.g4 (laws_eqSignalS.l4 NN k) (p ++ x :: r) (p ++ x :: r) p.length = _
    unfold laws_eqSignalS.g4
    have hm := mid_len p r x
    have c1 : (p.length : Int) < ((p ++ x :: r).length : Int) := by omega
    have c0 : (0 : Int) ≤ (p.length : Int) := by omega
    have cw := w64 (n := (p.length : Int) + 1) (by omega) (by omega)
    simp only [c0, c1, and_self, decide_true, if_true, mid_get, laws_eqSignal_self x, Option.bind_some, cw, Bool.not_true, Bool.false_eq_true, if_false]
  · intro k
    show laws_eqSignalS.g4 (laws_eqSignalS.l4 NN k) a a a.length = _
    unfold laws_eqSignalS.g4
    simp
end Go.Pl

namespace Go.Pl
open Go.Ev
set_option linter.unusedVariables false
set_option linter.unusedSimpArgs false
theorem laws_toSignal_ok (a : Int × Int) : laws_toSignal.f a = some a := rfl
end Go.Pl

namespace Go.Pl
open Go.Ev
set_option linter.unusedVariables false
set_option linter.unusedSimpArgs false
theorem laws_toSignalS_ok (a : List (Int × Int)) (ha : Lm OkSignal a) (bare : Bool) : ∃ fil, laws_toSignalS.f a bare = some (a, fil) ∧ (bare = false → laws_roomBehind.f a.length = some (fil.length : Int)) ∧ fil.length ≤ 1000001 ∧ ∀ x ∈ fil, (fun _ => True) x := by
  have hl : a.length ≤ 1000000 := ha.1
  obtain ⟨r, h1, h2, h3⟩ := roomBehind_le a.length (by omega)
  have hw := w64 (n := (a.length : Int) + r) (by omega) (by omega)
  have c1 : (0 : Int) ≤ a.length + r ∧ (a.length : Int) + r < (room 16 : Nat) ∧ (a.length : Int) + r = a.length + r := by rw [roomv16]; omega
  have key : ∃ fil, laws_toSignalS.l5 NN NN a 0 (List.replicate ((a.length : Int) + r).toNat (0, 0)) = some (a, fil) ∧ fil.length = ((a.length : Int) + r).toNat - a.length ∧ ∀ x ∈ fil, (fun _ => True) x := by
    have := toS_loop (Z := fun _ => True) (R := OkSignal) (fun k a i out => laws_toSignalS.l5 NN k a i out) (fun k a i out => laws_toSignalS.l9 NN k a i out) ?_ ?_ ?_ ?_ a (List.replicate ((a.length : Int) + r).toNat (0, 0)) NN ha.2 (by rw [List.length_replicate]; omega) (by rw [List.length_replicate]; omega) (NN_lt (by omega))
    · simpa using this
    · intro k a out h
      show laws_toSignalS.g9 (laws_toSignalS.l9 NN k) a out.length out = _
      unfold laws_toSignalS.g9
      have c2 : (0 : Int) ≤ (a.length : Int) := by omega
      simp [h]
    · intro k a i out hi hb
      have d1 : (i : Int) < (out.length : Int) := by omega
      have d0 : (0 : Int) ≤ (i : Int) := by omega
      have dw := w64 (n := (i : Int) + 1) (by omega) (by omega)
      have e : laws_toSignalS.g9 (laws_toSignalS.l9 NN k) a i out = laws_toSignalS.l9 NN k a ((i : Int) + 1) (out.set i ((-7000000000000000101), (-7000000000000000101))) := by
        unfold laws_toSignalS.g9
        simp only [d0, d1, and_self, decide_true, if_true, dw, Int.toNat_natCast, laws_fillerSignal.f, laws_fillerSignal.fn, laws_fillerSignal.top, Option.bind_some]
      exact ⟨_, trivial, e⟩
    · intro k a out
      show laws_toSignalS.g5 (laws_toSignalS.l9 NN NN) (laws_toSignalS.l5 NN k) a a.length out = _
      unfold laws_toSignalS.g5
      simp
    · intro k p r x q s y hx hpq hb hb2
      have hm := mid_len p r x
      have hm2 := mid_len q s y
      have d1 : (p.length : Int) < ((p ++ x :: r).length : Int) := by omega
      have d2 : (q.length : Int) < ((q ++ y :: s).length : Int) := by omega
      have d0 : (0 : Int) ≤ (q.length : Int) := by omega
      have dw := w64 (n := (q.length : Int) + 1) (by omega) (by omega)
      have g := mid_get p r x (0, 0)
      show laws_toSignalS.g5 (laws_toSignalS.l9 NN NN) (laws_toSignalS.l5 NN k) (p ++ x :: r) p.length (q ++ y :: s) = laws_toSignalS.l5 NN k (p ++ x :: r) ((p.length : Int) + 1) (q ++ x :: s)
      unfold laws_toSignalS.g5
      rw [hpq] at d1 g ⊢
      have e5 := hpq
      simp only [d0, d1, d2, and_self, decide_true, if_true, g, laws_toSignal_ok, Option.bind_some, dw, mid_set]
  obtain ⟨fil, k1, k2, k3⟩ := key
  have k4 : (fil.length : Int) = r := by omega
  unfold laws_toSignalS.f laws_toSignalS.fn laws_toSignalS.top
  simp only [h1, Option.bind_some, hw, c1, and_self, if_true]
  by_cases hb : bare = true
  · simp only [hb, if_true]
    by_cases he : a = []
    · subst he
      exact ⟨[], by simp, by simp, by simp, by simp⟩
    · have : ((a.length : Int) == 0) = false := by simpa using he
      simp only [this, Bool.false_eq_true, if_false]
      exact ⟨fil, by first | exact k1 | (rw [hb] at k1; exact k1), by simp, by omega, k3⟩
  · simp only [hb, Bool.false_eq_true, if_false]
    exact ⟨fil, by first | exact k1 | (rw [Bool.not_eq_true] at hb; rw [hb] at k1; exact k1), fun _ => by rw [k4], by omega, k3⟩
theorem laws_intactSignalS_self (a fil : List (Int × Int)) (ha : Lm OkSignal a) (h1 : laws_roomBehind.f a.length = some (fil.length : Int)) (h2 : fil.length ≤ 1000001) (h3 : ∀ x ∈ fil, (fun _ => True) x) : laws_intactSignalS.f (a, fil) (a, fil) = some true := by
  have hl : a.length ≤ 1000000 := ha.1
  unfold laws_intactSignalS.f laws_intactSignalS.fn laws_intactSignalS.top
  have hw := w64 (n := (a.length : Int) + (fil.length : Int)) (by omega) (by omega)
  have c1 : (0 : Int) ≤ a.length + fil.length ∧ (a.length : Int) + fil.length ≤ ((a ++ fil).length : Nat) := by rw [List.length_append]; omega
  simp only [h1, Option.bind_some, hw, beq_self_eq_true, if_true, c1, and_self]
  rw [laws_eqSignalS_self _ (by rw [List.length_take, List.length_append]; omega)]
  rfl
theorem laws_toSignalS_both (a : List (Int × Int)) (ha : Lm OkSignal a) : ∃ f : Bool → List (Int × Int), (∀ bare, laws_toSignalS.f a bare = some (a, f bare)) ∧ laws_intactSignalS.f (a, f false) (a, f false) = some true := by
  obtain ⟨f1, a1, a2, a3, a4⟩ := laws_toSignalS_ok a ha false
  obtain ⟨f2, b1, b2, b3, b4⟩ := laws_toSignalS_ok a ha true
  refine ⟨fun bare => if bare = true then f2 else f1, fun bare => ?_, ?_⟩
  · cases bare
    · simpa using a1
    · simpa using b1
  · simpa using laws_intactSignalS_self a f1 ha (a2 rfl) a3 a4
end Go.Pl

namespace Go.Pl
open Go.Ev
set_option linter.unusedVariables false
set_option linter.unusedSimpArgs false
theorem laws_toDesk_both (a : (List (Int × ByteArray × Int)) × (List (Int × Int)) × (List (Int × ByteArray × Int))) (ha : OkDesk a) : ∃ (f0 : Bool → List (Int × ByteArray × Int)) (f1 : Bool → List (Int × Int)) (f2 : Bool → List (Int × ByteArray × Int)), (∀ bare, laws_toDesk.f a bare = some ((a.1, f0 bare), (a.2.1, f1 bare), (a.2.2, f2 bare))) ∧ laws_intactDesk.f ((a.1, f0 false), (a.2.1, f1 false), (a.2.2, f2 false)) ((a.1, f0 false), (a.2.1, f1 false), (a.2.2, f2 false)) = some true := by
  obtain ⟨f0, a0, i0⟩ := laws_toMoveS_both a.1 ha.1
  obtain ⟨f1, a1, i1⟩ := laws_toSignalS_both a.2.1 ha.2.1
  obtain ⟨f2, a2, i2⟩ := laws_toBookingS_both a.2.2 ha.2.2
  refine ⟨f0, f1, f2, fun bare => ?_, ?_⟩
  · unfold laws_toDesk.f laws_toDesk.fn laws_toDesk.top
    simp only [a0, a1, a2, Option.bind_some]
  · unfold laws_intactDesk.f laws_intactDesk.fn laws_intactDesk.top
    simp [i0, i1, i2]
end Go.Pl

/- Loops of a few sorts, and what they come to. -/
namespace Go.Pl
open Go.Ev
set_option linter.unusedVariables false

/-- false at the first element that fails -/
theorem all_loop {α : Type} {E : α → Prop} (P : α → Bool) (fin : List α → Option Bool) (l : Nat → List α → Int → Option Bool)
    (hn : ∀ k p, l (k + 1) p p.length = fin p)
    (hc : ∀ k p a r, E a → (0 : Int) ≤ (p.length : Int) → (p.length : Int) < ((p ++ a :: r).length : Int) → IntKind.i64.wrap ((p.length : Int) + 1) = (p.length : Int) + 1 → l (k + 1) (p ++ a :: r) p.length = if P a = true then l k (p ++ a :: r) ((p.length : Int) + 1) else some false)
    (xs : List α) (hE : ∀ x ∈ xs, E x) (hB : xs.length ≤ 140737488355328) (k : Nat) (hk : xs.length < k) : l k xs 0 = if xs.all P = true then fin xs else some false := by
  have key : ∀ (r p : List α) (k : Nat), p.length + r.length ≤ 140737488355328 → (∀ x ∈ r, E x) → r.length < k → l k (p ++ r) p.length = if r.all P = true then fin (p ++ r) else some false := by
    intro r
    induction r with
    | nil =>
      intro p k _ _ hk
      obtain ⟨k, rfl⟩ : ∃ j, k = j + 1 := ⟨k - 1, by omega⟩
      rw [List.append_nil, hn]; simp
    | cons a r ih =>
      intro p k hb he hk
      simp only [List.length_cons] at hk hb
      obtain ⟨k, rfl⟩ : ∃ j, k = j + 1 := ⟨k - 1, by omega⟩
      have hm := mid_len p r a
      rw [hc k p a r (he a (by simp)) (by omega) (by omega) (w64 (by omega) (by omega))]
      have := ih (p ++ [a]) k (by simp; omega) (fun y hy => he y (by simp [hy])) (by omega)
      rw [mid_snoc, snoc_len] at this
      rw [this]
      cases h : P a <;> simp [h]
  have := key xs [] k (by simpa using hB) hE hk
  simpa using this
/-- the same over a string's bytes -/
theorem all_loop_str (P : UInt8 → Bool) (fin : ByteArray → Option Bool) (l : Nat → ByteArray → Int → Option Bool)
    (hn : ∀ k p, l (k + 1) (ob p) p.length = fin (ob p))
    (hc : ∀ k p a r, (0 : Int) ≤ (p.length : Int) → (p.length : Int) < ((ob (p ++ a :: r)).size : Int) → IntKind.i64.wrap ((p.length : Int) + 1) = (p.length : Int) + 1 → l (k + 1) (ob (p ++ a :: r)) p.length = if P a = true then l k (ob (p ++ a :: r)) ((p.length : Int) + 1) else some false)
    (s : ByteArray) (hB : s.size ≤ 140737488355328) (k : Nat) (hk : s.size < k) : l k s 0 = if (bl s).all P = true then fin s else some false := by
  have := all_loop (E := fun _ => True) P (fun x => fin (ob x)) (fun k x i => l k (ob x) i) hn (fun k p a r _ h1 h2 h3 => hc k p a r h1 (by rw [ob_size]; exact h2) h3) (bl s) (fun _ _ => trivial) (by rw [bl_length]; exact hB) k (by rw [bl_length]; exact hk)
  rw [ob_bl] at this
  exact this

def foldi {α σ : Type} (f : Nat → σ → α → σ) : Nat → σ → List α → σ
  | _, st, [] => st
  | i, st, a :: r => foldi f (i + 1) (f i st a) r
theorem foldi_foldl {α σ : Type} (f : σ → α → σ) : ∀ (xs : List α) (i : Nat) (st : σ), foldi (fun _ => f) i st xs = xs.foldl f st := by
  intro xs
  induction xs with
  | nil => intro i st; rfl
  | cons a r ih => intro i st; exact ih _ _
theorem foldi_append {α σ : Type} (f : Nat → σ → α → σ) : ∀ (xs ys : List α) (i : Nat) (st : σ), foldi f i st (xs ++ ys) = foldi f (i + xs.length) (foldi f i st xs) ys := by
  intro xs
  induction xs with
  | nil => intro ys i st; rfl
  | cons a r ih => intro ys i st; simp only [List.cons_append, foldi, List.length_cons]; rw [ih, show i + 1 + r.length = i + (r.length + 1) by omega]
/-- a state that goes from element to element; I: what holds of it behind a part of the row -/
theorem fold_loop {α σ ρ : Type} {E : α → Prop} (I : List α → σ → Prop) (f : Nat → σ → α → σ) (fin : List α → σ → Option ρ) (l : Nat → List α → Int → σ → Option ρ)
    (hn : ∀ k p st, I p st → l (k + 1) p p.length st = fin p st)
    (hc : ∀ k p a r st, E a → I p st → (0 : Int) ≤ (p.length : Int) → (p.length : Int) < ((p ++ a :: r).length : Int) → p.length < 140737488355328 → IntKind.i64.wrap ((p.length : Int) + 1) = (p.length : Int) + 1 →
      I (p ++ [a]) (f p.length st a) ∧ l (k + 1) (p ++ a :: r) p.length st = l k (p ++ a :: r) ((p.length : Int) + 1) (f p.length st a))
    (xs : List α) (st : σ) (hE : ∀ x ∈ xs, E x) (hI : I [] st) (hB : xs.length ≤ 140737488355328) (k : Nat) (hk : xs.length < k) :
    I xs (foldi f 0 st xs) ∧ l k xs 0 st = fin xs (foldi f 0 st xs) := by
  have key : ∀ (r p : List α) (k : Nat) (st : σ), p.length + r.length ≤ 140737488355328 → (∀ x ∈ r, E x) → I p st → r.length < k → I (p ++ r) (foldi f p.length st r) ∧ l k (p ++ r) p.length st = fin (p ++ r) (foldi f p.length st r) := by
    intro r
    induction r with
    | nil =>
      intro p k st _ _ hI hk
      obtain ⟨k, rfl⟩ : ∃ j, k = j + 1 := ⟨k - 1, by omega⟩
      rw [List.append_nil]; exact ⟨hI, hn k p st hI⟩
    | cons a r ih =>
      intro p k st hb he hI hk
      simp only [List.length_cons] at hk hb
      obtain ⟨k, rfl⟩ : ∃ j, k = j + 1 := ⟨k - 1, by omega⟩
      have hm := mid_len p r a
      obtain ⟨h1, h2⟩ := hc k p a r st (he a (by simp)) hI (by omega) (by omega) (by omega) (w64 (by omega) (by omega))
      have := ih (p ++ [a]) k (f p.length st a) (by simp; omega) (fun y hy => he y (by simp [hy])) h1 (by omega)
      rw [mid_snoc, snoc_len] at this
      rw [h2]
      simpa [foldi] using this
  have := key xs [] k st (by simpa using hB) hE hI hk
  simpa using this
/-- the same over a string's bytes -/
theorem fold_loop_str {σ ρ : Type} (I : List UInt8 → σ → Prop) (f : Nat → σ → UInt8 → σ) (fin : ByteArray → σ → Option ρ) (l : Nat → ByteArray → Int → σ → Option ρ)
    (hn : ∀ k p st, I p st → l (k + 1) (ob p) p.length st = fin (ob p) st)
    (hc : ∀ k p a r st, I p st → (0 : Int) ≤ (p.length : Int) → (p.length : Int) < ((ob (p ++ a :: r)).size : Int) → p.length < 140737488355328 → IntKind.i64.wrap ((p.length : Int) + 1) = (p.length : Int) + 1 →
      I (p ++ [a]) (f p.length st a) ∧ l (k + 1) (ob (p ++ a :: r)) p.length st = l k (ob (p ++ a :: r)) ((p.length : Int) + 1) (f p.length st a))
    (s : ByteArray) (st : σ) (hI : I [] st) (hB : s.size ≤ 140737488355328) (k : Nat) (hk : s.size < k) :
    I (bl s) (foldi f 0 st (bl s)) ∧ l k s 0 st = fin s (foldi f 0 st (bl s)) := by
  have := fold_loop (E := fun _ => True) I f (fun x => fin (ob x)) (fun k x i st => l k (ob x) i st) hn (fun k p a r st _ hI h1 h2 h3 h4 => hc k p a r st hI h1 (by rw [ob_size]; exact h2) h3 h4) (bl s) st (fun _ _ => trivial) hI (by rw [bl_length]; exact hB) k (by rw [bl_length]; exact hk)
  rw [ob_bl] at this
  exact this
/-- fold_loop, of one row: the rounds may look at it as a whole -/
theorem fold_fix {α σ ρ : Type} {E : α → Prop} (I : List α → σ → Prop) (f : Nat → σ → α → σ) (fin : σ → Option ρ) (l : Nat → Int → σ → Option ρ) (xs : List α)
    (hn : ∀ k st, I xs st → l (k + 1) xs.length st = fin st)
    (hc : ∀ k p a r st, xs = p ++ a :: r → E a → I p st → (0 : Int) ≤ (p.length : Int) → (p.length : Int) < (xs.length : Int) → p.length < 140737488355328 → IntKind.i64.wrap ((p.length : Int) + 1) = (p.length : Int) + 1 → (∀ z, xs.getD p.length z = a) →
      I (p ++ [a]) (f p.length st a) ∧ l (k + 1) p.length st = l k ((p.length : Int) + 1) (f p.length st a))
    (st : σ) (hE : ∀ x ∈ xs, E x) (hI : I [] st) (hB : xs.length ≤ 140737488355328) (k : Nat) (hk : xs.length < k) :
    I xs (foldi f 0 st xs) ∧ l k 0 st = fin (foldi f 0 st xs) := by
  have key : ∀ (r p : List α) (k : Nat) (st : σ), xs = p ++ r → (∀ x ∈ r, E x) → I p st → r.length < k → I xs (foldi f p.length st r) ∧ l k p.length st = fin (foldi f p.length st r) := by
    intro r
    induction r with
    | nil =>
      intro p k st hx _ hI hk
      obtain ⟨k, rfl⟩ : ∃ j, k = j + 1 := ⟨k - 1, by omega⟩
      rw [List.append_nil] at hx
      subst hx; exact ⟨hI, hn k st hI⟩
    | cons a r ih =>
      intro p k st hx he hI hk
      simp only [List.length_cons] at hk
      obtain ⟨k, rfl⟩ : ∃ j, k = j + 1 := ⟨k - 1, by omega⟩
      have hm := mid_len p r a
      have hxl : (xs.length : Int) = ((p ++ a :: r).length : Int) := by rw [hx]
      obtain ⟨h1, h2⟩ := hc k p a r st hx (he a (by simp)) hI (by omega) (by omega) (by omega) (w64 (by omega) (by omega)) (fun z => by rw [hx, mid_getn])
      have := ih (p ++ [a]) k (f p.length st a) (by rw [hx]; simp) (fun y hy => he y (by simp [hy])) h1 (by omega)
      rw [snoc_len] at this
      rw [h2]
      simpa [foldi] using this
  have := key xs [] k st (by simp) hE hI hk
  simpa using this
/-- the first element that is looked for, and its number -/
def firstOf {α : Type} (P : α → Bool) : Nat → List α → Option (Nat × α)
  | _, [] => none
  | i, a :: r => if P a = true then some (i, a) else firstOf P (i + 1) r
theorem find_loop {α ρ : Type} {E : α → Prop} (P : α → Bool) (hit : Nat → α → Option ρ) (fin : List α → Option ρ) (l : Nat → List α → Int → Option ρ)
    (hn : ∀ k p, l (k + 1) p p.length = fin p)
    (hc : ∀ k p a r, E a → (0 : Int) ≤ (p.length : Int) → (p.length : Int) < ((p ++ a :: r).length : Int) → p.length < 140737488355328 → IntKind.i64.wrap ((p.length : Int) + 1) = (p.length : Int) + 1 → l (k + 1) (p ++ a :: r) p.length = if P a = true then hit p.length a else l k (p ++ a :: r) ((p.length : Int) + 1))
    (xs : List α) (hE : ∀ x ∈ xs, E x) (hB : xs.length ≤ 140737488355328) (k : Nat) (hk : xs.length < k) : l k xs 0 = (firstOf P 0 xs).elim (fin xs) (fun x => hit x.1 x.2) := by
  have key : ∀ (r p : List α) (k : Nat), p.length + r.length ≤ 140737488355328 → (∀ x ∈ r, E x) → r.length < k → l k (p ++ r) p.length = (firstOf P p.length r).elim (fin (p ++ r)) (fun x => hit x.1 x.2) := by
    intro r
    induction r with
    | nil =>
      intro p k _ _ hk
      obtain ⟨k, rfl⟩ : ∃ j, k = j + 1 := ⟨k - 1, by omega⟩
      rw [List.append_nil, hn]; rfl
    | cons a r ih =>
      intro p k hb he hk
      simp only [List.length_cons] at hk hb
      obtain ⟨k, rfl⟩ : ∃ j, k = j + 1 := ⟨k - 1, by omega⟩
      have hm := mid_len p r a
      rw [hc k p a r (he a (by simp)) (by omega) (by omega) (by omega) (w64 (by omega) (by omega))]
      have := ih (p ++ [a]) k (by simp; omega) (fun y hy => he y (by simp [hy])) (by omega)
      rw [mid_snoc, snoc_len] at this
      rw [this]
      cases h : P a <;> simp [h, firstOf]
  have := key xs [] k (by simpa using hB) hE hk
  simpa using this
end Go.Pl

namespace Go.Pl
open Go.Ev
set_option linter.unusedVariables false
set_option linter.unusedSimpArgs false
def inB (n lo hi : Int) : Bool := decide (lo ≤ n) && decide (n ≤ hi)
theorem inB_iff {n lo hi : Int} : inB n lo hi = true ↔ lo ≤ n ∧ n ≤ hi := by unfold inB; simp
theorem impl_within_f (n lo hi : Int) : impl_within.f n lo hi = some (inB n lo hi) := by
  unfold impl_within.f impl_within.fn impl_within.top inB
  by_cases h : lo ≤ n <;> simp [h]
theorem spec_l01In_f (n lo hi : Int) : spec_l01In.f n lo hi = some (inB n lo hi) := by
  unfold spec_l01In.f spec_l01In.fn spec_l01In.top inB
  by_cases h : lo ≤ n <;> simp [h]
/-- a letter -/
def letB (c : UInt8) : Bool := !(decide ((c.toNat : Int) < 97)) && !(decide (122 < (c.toNat : Int)))
def wordB (s : ByteArray) : Bool := decide (1 ≤ s.size) && decide (s.size ≤ 16) && (bl s).all letB
theorem wordB_size {s : ByteArray} (h : wordB s = true) : 1 ≤ s.size ∧ s.size ≤ 16 := by
  unfold wordB at h; simp at h; exact h.1
theorem impl_IsWord_loop (s : ByteArray) (h : s.size ≤ 140737488355328) : impl_IsWord.l4 NN NN s 0 = if (bl s).all letB = true then some true else some false := by
  refine all_loop_str letB (fun s => some true) (fun k s i => impl_IsWord.l4 NN k s i) ?_ ?_ s h NN (NN_lt (by omega))
  · intro k p
    show impl_IsWord.g4 _ (ob p) p.length = _
    simp [impl_IsWord.g4, ob_size, spec_l01In_f]
  · intro k p a r c0 c1 cw
    show impl_IsWord.g4 (impl_IsWord.l4 NN k) (ob (p ++ a :: r)) p.length = _
    simp only [impl_IsWord.g4, c0, c1, cw, and_self, and_true, true_and, decide_true, decide_false, if_true, if_false, mid_get, mid_set, mid_getn, mid_setn, bt_mid, Option.bind_some, Bool.not_true, Bool.not_false, Bool.false_eq_true, Bool.true_eq_false, beq_self_eq_true, bne_self_eq_false, Int.toNat_natCast]
    unfold letB
    by_cases h1 : (a.toNat : Int) < 97 <;> by_cases h2 : (122 : Int) < (a.toNat : Int) <;> simp [h1, h2]
theorem spec_IsWord_loop (s : ByteArray) (h : s.size ≤ 140737488355328) : spec_IsWord.l2 NN NN s 0 = if (bl s).all letB = true then some (inB s.size 1 16) else some false := by
  refine all_loop_str letB (fun s => some (inB s.size 1 16)) (fun k s i => spec_IsWord.l2 NN k s i) ?_ ?_ s h NN (NN_lt (by omega))
  · intro k p
    show spec_IsWord.g2 _ (ob p) p.length = _
    simp [spec_IsWord.g2, ob_size, spec_l01In_f]
  · intro k p a r c0 c1 cw
    show spec_IsWord.g2 (spec_IsWord.l2 NN k) (ob (p ++ a :: r)) p.length = _
    simp only [spec_IsWord.g2, c0, c1, cw, and_self, and_true, true_and, decide_true, decide_false, if_true, if_false, mid_get, mid_set, mid_getn, mid_setn, bt_mid, Option.bind_some, Bool.not_true, Bool.not_false, Bool.false_eq_true, Bool.true_eq_false, beq_self_eq_true, bne_self_eq_false, Int.toNat_natCast]
    unfold letB
    by_cases h1 : (a.toNat : Int) < 97 <;> by_cases h2 : (122 : Int) < (a.toNat : Int) <;> simp [h1, h2]
theorem impl_IsWord_f (s : ByteArray) (h : s.size ≤ 140737488355328) : impl_IsWord.f s = some (wordB s) := by
  unfold impl_IsWord.f impl_IsWord.fn impl_IsWord.top
  rw [impl_IsWord_loop s h]
  unfold wordB
  by_cases h1 : (s.size : Int) < 1
  · have : ¬ 1 ≤ s.size := by omega
    simp [h1, this]
  · have e1 : 1 ≤ s.size := by omega
    by_cases h2 : (16 : Int) < s.size
    · have : ¬ s.size ≤ 16 := by omega
      simp [h1, h2, this]
    · have : s.size ≤ 16 := by omega
      cases h3 : (bl s).all letB <;> simp [h1, h2, this, h3, e1]
theorem spec_IsWord_f (s : ByteArray) (h : s.size ≤ 140737488355328) : spec_IsWord.f s = some (wordB s) := by
  unfold spec_IsWord.f spec_IsWord.fn spec_IsWord.top
  rw [spec_IsWord_loop s h]
  unfold wordB inB
  have e1 : decide ((1 : Int) ≤ s.size) = decide (1 ≤ s.size) := by congr 1; simp; omega
  have e2 : decide ((s.size : Int) ≤ 16) = decide (s.size ≤ 16) := by congr 1; simp; omega
  rw [e1, e2]
  cases h3 : (bl s).all letB <;> simp
end Go.Pl

namespace Go.Pl
open Go.Ev
set_option linter.unusedVariables false
set_option linter.unusedSimpArgs false
abbrev Mov := Int × ByteArray × Int
def movB (m : Mov) : Bool := inB m.1 0 10000000 && wordB m.2.1 && inB m.2.2 (-1000) 1000 && !decide (m.2.2 = 0)
theorem movB_iff {m : Mov} (h : movB m = true) : (0 ≤ m.1 ∧ m.1 ≤ 10000000) ∧ wordB m.2.1 = true ∧ (-1000 ≤ m.2.2 ∧ m.2.2 ≤ 1000) := by
  unfold movB at h
  simp only [Bool.and_eq_true, inB_iff] at h
  exact ⟨h.1.1.1, h.1.1.2, h.1.2⟩
theorem impl_isTime_f (t : Int) : impl_isTime.f t = some (inB t 0 10000000) := by
  unfold impl_isTime.f impl_isTime.fn impl_isTime.top
  rw [impl_within_f]; rfl
theorem impl_isTick_f (t : Int) : impl_isTick.f t = some (inB t 0 100000) := by
  unfold impl_isTick.f impl_isTick.fn impl_isTick.top
  rw [impl_within_f]; rfl
theorem spec_l01IsTime_f (t : Int) : spec_l01IsTime.f t = some (inB t 0 10000000) := by
  unfold spec_l01IsTime.f spec_l01IsTime.fn spec_l01IsTime.top
  rw [spec_l01In_f]; rfl
def addP (z : ByteArray) (s : Int) (m : Mov) : Int := if m.2.1 = z then s + m.2.2 else s
def peopS (xs : List Mov) (z : ByteArray) : Int := xs.foldl (addP z) 0
theorem peop_bd (z : ByteArray) : ∀ (xs : List Mov) (s : Int), (∀ m ∈ xs, movB m = true) → s - 1000 * (xs.length : Int) ≤ xs.foldl (addP z) s ∧ xs.foldl (addP z) s ≤ s + 1000 * (xs.length : Int) := by
  intro xs
  induction xs with
  | nil => intro s _; simp
  | cons m r ih =>
    intro s h
    have h1 := movB_iff (h m (by simp))
    have h2 := ih (addP z s m) (fun x hx => h x (by simp [hx]))
    have h3 : s - 1000 ≤ addP z s m ∧ addP z s m ≤ s + 1000 := by unfold addP; split <;> omega
    simp only [List.foldl_cons, List.length_cons]
    omega
theorem impl_peopleIn_f (xs : List Mov) (z : ByteArray) (t : Int) (h : ∀ m ∈ xs, movB m = true) (ht : ∀ m ∈ xs, m.1 ≤ t) (hl : xs.length ≤ 1000000) : impl_peopleIn.f xs z t = some (peopS xs z) := by
  have := (fold_fix (E := fun m : Mov => movB m = true ∧ m.1 ≤ t) (fun p st => -(1000 * (p.length : Int)) ≤ st ∧ st ≤ 1000 * (p.length : Int)) (fun _ => addP z) (fun st => some st) (fun k i st => impl_peopleIn.l3 NN k z t st xs xs.length i) xs ?_ ?_ 0 (fun m hm => ⟨h m hm, ht m hm⟩) (by simp) (by omega) NN (NN_lt (by omega))).2
  · rw [foldi_foldl] at this
    exact this
  · intro k st _
    simp [impl_peopleIn.l3, impl_peopleIn.g3]
  · intro k p m r st hx hm hI c0 c1 c2 cw g
    have hb := movB_iff hm.1
    have hp : p.length ≤ 1000000 := by omega
    have w1 := w64 (n := st + m.2.2) (by omega) (by omega)
    have q := hm.2
    refine ⟨by unfold addP; rw [List.length_append, List.length_singleton]; split <;> omega, ?_⟩
    simp only [impl_peopleIn.l3, impl_peopleIn.g3, c0, c1, cw, and_self, and_true, true_and, decide_true, decide_false, if_true, if_false, mid_get, mid_set, mid_getn, mid_setn, bt_mid, Option.bind_some, Bool.not_true, Bool.not_false, Bool.false_eq_true, Bool.true_eq_false, beq_self_eq_true, bne_self_eq_false, Int.toNat_natCast, g, ba_beq, q, w1]
    unfold addP
    by_cases e : m.2.1 = z <;> simp [e]
theorem spec_l20People_f (xs rest : List Mov) (z : ByteArray) (h : ∀ m ∈ xs, movB m = true) (hl : xs.length ≤ 1000000) : spec_l20People.f (xs ++ rest) z xs.length = some (peopS xs z) := by
  have := (fold_fix (E := fun m : Mov => movB m = true) (fun p st => -(1000 * (p.length : Int)) ≤ st ∧ st ≤ 1000 * (p.length : Int)) (fun _ => addP z) (fun st => some st) (fun k i st => spec_l20People.l3 NN k (xs ++ rest) z xs.length st i) xs ?_ ?_ 0 h (by simp) (by omega) NN (NN_lt (by omega))).2
  · rw [foldi_foldl] at this
    exact this
  · intro k st _
    simp [spec_l20People.l3, spec_l20People.g3]
  · intro k p m r st hx hm hI c0 c1 c2 cw g
    have hb := movB_iff hm
    have hp : p.length ≤ 1000000 := by omega
    have w1 := w64 (n := st + m.2.2) (by omega) (by omega)
    have c3 : (p.length : Int) < ((xs ++ rest).length : Int) := by simp; omega
    have g2 : ∀ w, (xs ++ rest).getD p.length w = m := fun w => by rw [hx, List.append_assoc, List.cons_append, mid_getn]
    refine ⟨by unfold addP; rw [List.length_append, List.length_singleton]; split <;> omega, ?_⟩
    simp only [spec_l20People.l3, spec_l20People.g3, c0, c1, c3, cw, and_self, and_true, true_and, decide_true, decide_false, if_true, if_false, mid_get, mid_set, mid_getn, mid_setn, bt_mid, Option.bind_some, Bool.not_true, Bool.not_false, Bool.false_eq_true, Bool.true_eq_false, beq_self_eq_true, bne_self_eq_false, Int.toNat_natCast, g2, ba_beq, w1]
    unfold addP
    by_cases e : m.2.1 = z <;> simp [e]
def prevM (p : List Mov) (t : Int) : Bool := match p.getLast? with | none => true | some y => !decide (t < y.1)
def movF (p : List Mov) : List Mov → Bool
  | [] => true
  | m :: r => movB m && (prevM p m.1 && (!decide (peopS (p ++ [m]) m.2.1 < 0) && movF (p ++ [m]) r))
def movesB (xs : List Mov) : Bool := decide (xs.length ≤ 40) && movF [] xs
structure MvI (p : List Mov) : Prop where
  ok : ∀ m ∈ p, movB m = true
  le : ∀ m ∈ p, ∀ y, p.getLast? = some y → m.1 ≤ y.1
theorem mvi_snoc {p : List Mov} {m : Mov} (h : MvI p) (hm : movB m = true) (hp : prevM p m.1 = true) : MvI (p ++ [m]) ∧ ∀ x ∈ p ++ [m], x.1 ≤ m.1 := by
  have key : ∀ x ∈ p ++ [m], x.1 ≤ m.1 := fun x hx => by
    rcases List.mem_append.1 hx with h1 | h1
    · unfold prevM at hp
      cases e : p.getLast? with
      | none => rw [List.getLast?_eq_none_iff.1 e] at h1; cases h1
      | some y =>
        rw [e] at hp
        simp only [Bool.not_eq_true', decide_eq_false_iff_not] at hp
        have := h.le x h1 y e
        omega
    · rw [List.mem_singleton.1 h1]; omega
  refine ⟨⟨fun x hx => ?_, fun x hx y hy => ?_⟩, key⟩
  · rcases List.mem_append.1 hx with h1 | h1
    · exact h.ok x h1
    · rw [List.mem_singleton.1 h1]; exact hm
  · rw [List.getLast?_append] at hy
    simp at hy
    rw [← hy]; exact key x hx
theorem last_cases {α : Type} (p : List α) : p = [] ∨ ∃ q y, p = q ++ [y] := by
  rcases List.eq_nil_or_concat p with h | ⟨q, y, h⟩
  · exact .inl h
  · exact .inr ⟨q, y, by rw [h]; simp⟩
theorem last_snoc {α : Type} (q : List α) (y : α) : (q ++ [y]).getLast? = some y := by simp
theorem impl_AreMoves_l : ∀ (r p : List Mov) (k : Nat), MvI p → (∀ m ∈ r, Sz m.2.1) → p.length + r.length ≤ 1000000 → r.length < k → impl_AreMoves.l4 NN k (p ++ r) (p ++ r) (p ++ r).length p.length = some (movF p r) := by
  intro r
  induction r with
  | nil =>
    intro p k _ _ _ hk
    obtain ⟨k, rfl⟩ : ∃ j, k = j + 1 := ⟨k - 1, by omega⟩
    simp [impl_AreMoves.l4, impl_AreMoves.g4, movF]
  | cons m r ih =>
    intro p k hI hs hb hk
    simp only [List.length_cons] at hb hk
    obtain ⟨k, rfl⟩ : ∃ j, k = j + 1 := ⟨k - 1, by omega⟩
    have hl := mid_len p r m
    have c0 : (0 : Int) ≤ (p.length : Int) := by omega
    have c1 : (p.length : Int) < ((p ++ m :: r).length : Int) := by omega
    have cw := w64 (n := (p.length : Int) + 1) (by omega) (by omega)
    have c3 : (0 : Int) ≤ (p.length : Int) + 1 := by omega
    have c4 : (p.length : Int) + 1 ≤ ((p ++ m :: r).length : Int) := by omega
    have t1 : ((p.length : Int) + 1).toNat = (p ++ [m]).length := by simp
    have htk : (p ++ m :: r).take (p ++ [m]).length = p ++ [m] := by rw [← mid_snoc p r m, List.take_left]
    simp only [impl_AreMoves.l4, impl_AreMoves.g4, c0, c1, c3, c4, cw, t1, htk, and_self, and_true, true_and, decide_true, decide_false, if_true, if_false, mid_get, mid_set, mid_getn, mid_setn, bt_mid, Option.bind_some, Bool.not_true, Bool.not_false, Bool.false_eq_true, Bool.true_eq_false, beq_self_eq_true, bne_self_eq_false, Int.toNat_natCast, impl_isTime_f, impl_IsWord_f _ (hs m (by simp)), impl_within_f]
    by_cases hm : movB m = true
    rotate_left
    · have e : movF p (m :: r) = false := by simp only [movF]; cases q : movB m; rfl; exact absurd q hm
      rw [e]
      unfold movB at hm
      simp only [Bool.and_eq_true, Bool.not_eq_true', decide_eq_false_iff_not, not_and] at hm
      by_cases h1 : inB m.1 0 10000000 = true
      · by_cases h2 : wordB m.2.1 = true
        · by_cases h3 : inB m.2.2 (-1000) 1000 = true
          · have h4 : m.2.2 = 0 := by have := hm ⟨⟨h1, h2⟩, h3⟩; omega
            simp [h1, h2, h3, h4]
          · simp [h1, h2, h3]
        · simp [h1, h2]
      · simp [h1]
    have hm' := hm
    unfold movB at hm'
    simp only [Bool.and_eq_true, Bool.not_eq_true', decide_eq_false_iff_not] at hm'
    obtain ⟨⟨⟨h1, h2⟩, h3⟩, h4⟩ := hm'
    have h4' : (m.2.2 == 0) = false := by simpa using h4
    simp only [h1, h2, h3, h4', and_self, and_true, true_and, decide_true, decide_false, if_true, if_false, mid_get, mid_set, mid_getn, mid_setn, bt_mid, Option.bind_some, Bool.not_true, Bool.not_false, Bool.false_eq_true, Bool.true_eq_false, beq_self_eq_true, bne_self_eq_false, Int.toNat_natCast]
    have fin : prevM p m.1 = true → ((impl_peopleIn.f (p ++ [m]) m.2.1 m.1).bind fun r4 => if (decide (r4 < 0)) = true then some false else impl_AreMoves.l4 NN k (p ++ m :: r) (p ++ m :: r) (p ++ m :: r).length ((p.length : Int) + 1)) = some (movF p (m :: r)) := fun hp => by
      obtain ⟨q1, q2⟩ := mvi_snoc hI hm hp
      rw [impl_peopleIn_f _ _ _ q1.ok q2 (by simp; omega)]
      have := ih (p ++ [m]) k q1 (fun x hx => hs x (by simp [hx])) (by simp; omega) (by omega)
      rw [mid_snoc, snoc_len] at this
      simp only [movF, hm, hp, Bool.true_and, Option.bind_some, this]
      by_cases e : peopS (p ++ [m]) m.2.1 < 0 <;> simp [e]
    rcases last_cases p with hp | ⟨q, y, hp⟩
    · have n1 : ¬ (0 : Int) < (p.length : Int) := by rw [hp]; simp
      simp only [n1, and_self, and_true, true_and, decide_true, decide_false, if_true, if_false, mid_get, mid_set, mid_getn, mid_setn, bt_mid, Option.bind_some, Bool.not_true, Bool.not_false, Bool.false_eq_true, Bool.true_eq_false, beq_self_eq_true, bne_self_eq_false, Int.toNat_natCast]
      exact fin (by rw [hp]; rfl)
    · have hpl : (p.length : Int) - 1 = (q.length : Int) := by rw [hp]; simp
      have n1 : (0 : Int) < (p.length : Int) := by rw [hp]; simp
      have w1 := w64 (n := (q.length : Int)) (by omega) (by omega)
      have q0 : (0 : Int) ≤ (q.length : Int) := by omega
      have q1 : (q.length : Int) < ((p ++ m :: r).length : Int) := by omega
      have g2 : ∀ z, (p ++ m :: r).getD q.length z = y := fun z => by rw [hp, List.append_assoc, List.singleton_append, mid_getn]
      simp only [n1, hpl, w1, q0, q1, g2, and_self, and_true, true_and, decide_true, decide_false, if_true, if_false, mid_get, mid_set, mid_getn, mid_setn, bt_mid, Option.bind_some, Bool.not_true, Bool.not_false, Bool.false_eq_true, Bool.true_eq_false, beq_self_eq_true, bne_self_eq_false, Int.toNat_natCast]
      have hpr : prevM p m.1 = !decide (m.1 < y.1) := by unfold prevM; rw [hp, last_snoc]
      by_cases e : m.1 < y.1
      · have : movF p (m :: r) = false := by simp [movF, hpr, e]
        simp [e, this]
      · simp only [e, and_self, and_true, true_and, decide_true, decide_false, if_true, if_false, mid_get, mid_set, mid_getn, mid_setn, bt_mid, Option.bind_some, Bool.not_true, Bool.not_false, Bool.false_eq_true, Bool.true_eq_false, beq_self_eq_true, bne_self_eq_false, Int.toNat_natCast]
        exact fin (by rw [hpr]; simp [e])
theorem spec_AreMoves_l : ∀ (r p : List Mov) (k : Nat), MvI p → (∀ m ∈ r, Sz m.2.1) → p.length + r.length ≤ 1000000 → r.length < k → spec_AreMoves.l2 NN k (p ++ r) p.length = some (movF p r && decide ((p ++ r).length ≤ 40)) := by
  intro r
  induction r with
  | nil =>
    intro p k _ _ _ hk
    obtain ⟨k, rfl⟩ : ∃ j, k = j + 1 := ⟨k - 1, by omega⟩
    have e : decide ((p.length : Int) ≤ 40) = decide (p.length ≤ 40) := by congr 1; exact propext (by omega)
    simp [spec_AreMoves.l2, spec_AreMoves.g2, movF, e]
  | cons m r ih =>
    intro p k hI hs hb hk
    simp only [List.length_cons] at hb hk
    obtain ⟨k, rfl⟩ : ∃ j, k = j + 1 := ⟨k - 1, by omega⟩
    have hl := mid_len p r m
    have c0 : (0 : Int) ≤ (p.length : Int) := by omega
    have c1 : (p.length : Int) < ((p ++ m :: r).length : Int) := by omega
    have cw := w64 (n := (p.length : Int) + 1) (by omega) (by omega)
    simp only [spec_AreMoves.l2, spec_AreMoves.g2, c0, c1, cw, and_self, and_true, true_and, decide_true, decide_false, if_true, if_false, mid_get, mid_set, mid_getn, mid_setn, bt_mid, Option.bind_some, Bool.not_true, Bool.not_false, Bool.false_eq_true, Bool.true_eq_false, beq_self_eq_true, bne_self_eq_false, Int.toNat_natCast, spec_l01IsTime_f, spec_IsWord_f _ (hs m (by simp)), spec_l01In_f]
    by_cases hm : movB m = true
    rotate_left
    · have e : movF p (m :: r) = false := by simp only [movF]; cases q : movB m; rfl; exact absurd q hm
      rw [e]
      unfold movB at hm
      simp only [Bool.and_eq_true, Bool.not_eq_true', decide_eq_false_iff_not, not_and] at hm
      by_cases h1 : inB m.1 0 10000000 = true
      · by_cases h2 : wordB m.2.1 = true
        · by_cases h3 : inB m.2.2 (-1000) 1000 = true
          · have h4 : m.2.2 = 0 := by have := hm ⟨⟨h1, h2⟩, h3⟩; omega
            simp [h1, h2, h3, h4]
          · simp [h1, h2, h3]
        · simp [h1, h2]
      · simp [h1]
    have hm' := hm
    unfold movB at hm'
    simp only [Bool.and_eq_true, Bool.not_eq_true', decide_eq_false_iff_not] at hm'
    obtain ⟨⟨⟨h1, h2⟩, h3⟩, h4⟩ := hm'
    have h4' : (m.2.2 == 0) = false := by simpa using h4
    simp only [h1, h2, h3, h4', and_self, and_true, true_and, decide_true, decide_false, if_true, if_false, mid_get, mid_set, mid_getn, mid_setn, bt_mid, Option.bind_some, Bool.not_true, Bool.not_false, Bool.false_eq_true, Bool.true_eq_false, beq_self_eq_true, bne_self_eq_false, Int.toNat_natCast]
    have fin : prevM p m.1 = true → ((spec_l20People.f (p ++ m :: r) m.2.1 ((p.length : Int) + 1)).bind fun r4 => if (decide (r4 < 0)) = true then some false else spec_AreMoves.l2 NN k (p ++ m :: r) ((p.length : Int) + 1)) = some (movF p (m :: r) && decide ((p ++ m :: r).length ≤ 40)) := fun hp => by
      obtain ⟨q1, q2⟩ := mvi_snoc hI hm hp
      have hpe := spec_l20People_f (p ++ [m]) r m.2.1 q1.ok (by simp; omega)
      rw [mid_snoc, snoc_len] at hpe
      rw [hpe]
      have := ih (p ++ [m]) k q1 (fun x hx => hs x (by simp [hx])) (by simp; omega) (by omega)
      rw [mid_snoc, snoc_len] at this
      simp only [movF, hm, hp, Bool.true_and, Option.bind_some, this]
      by_cases e : peopS (p ++ [m]) m.2.1 < 0 <;> simp [e]
    rcases last_cases p with hp | ⟨q, y, hp⟩
    · have n1 : ¬ (0 : Int) < (p.length : Int) := by rw [hp]; simp
      simp only [n1, and_self, and_true, true_and, decide_true, decide_false, if_true, if_false, mid_get, mid_set, mid_getn, mid_setn, bt_mid, Option.bind_some, Bool.not_true, Bool.not_false, Bool.false_eq_true, Bool.true_eq_false, beq_self_eq_true, bne_self_eq_false, Int.toNat_natCast]
      exact fin (by rw [hp]; rfl)
    · have hpl : (p.length : Int) - 1 = (q.length : Int) := by rw [hp]; simp
      have n1 : (0 : Int) < (p.length : Int) := by rw [hp]; simp
      have w1 := w64 (n := (q.length : Int)) (by omega) (by omega)
      have q0 : (0 : Int) ≤ (q.length : Int) := by omega
      have q1 : (q.length : Int) < ((p ++ m :: r).length : Int) := by omega
      have g2 : ∀ z, (p ++ m :: r).getD q.length z = y := fun z => by rw [hp, List.append_assoc, List.singleton_append, mid_getn]
      simp only [n1, hpl, w1, q0, q1, g2, and_self, and_true, true_and, decide_true, decide_false, if_true, if_false, mid_get, mid_set, mid_getn, mid_setn, bt_mid, Option.bind_some, Bool.not_true, Bool.not_false, Bool.false_eq_true, Bool.true_eq_false, beq_self_eq_true, bne_self_eq_false, Int.toNat_natCast]
      have hpr : prevM p m.1 = !decide (m.1 < y.1) := by unfold prevM; rw [hp, last_snoc]
      by_cases e : m.1 < y.1
      · have : movF p (m :: r) = false := by simp [movF, hpr, e]
        simp [e, this]
      · simp only [e, and_self, and_true, true_and, decide_true, decide_false, if_true, if_false, mid_get, mid_set, mid_getn, mid_setn, bt_mid, Option.bind_some, Bool.not_true, Bool.not_false, Bool.false_eq_true, Bool.true_eq_false, beq_self_eq_true, bne_self_eq_false, Int.toNat_natCast]
        exact fin (by rw [hpr]; simp [e])
theorem mvi_nil : MvI [] := ⟨by simp, by simp⟩
theorem impl_AreMoves_f (xs : List Mov) (hl : xs.length ≤ 1000000) (hs : ∀ m ∈ xs, Sz m.2.1) : impl_AreMoves.f xs = some (movesB xs) := by
  unfold impl_AreMoves.f impl_AreMoves.fn impl_AreMoves.top movesB
  have := impl_AreMoves_l xs [] NN mvi_nil hs (by simpa using hl) (NN_lt (by omega))
  rw [List.nil_append] at this
  by_cases h8 : (40 : Int) < (xs.length : Int)
  · have : ¬ xs.length ≤ 40 := by omega
    simp [h8, this]
  · have e8 : xs.length ≤ 40 := by omega
    simp only [h8, e8, and_self, and_true, true_and, decide_true, decide_false, if_true, if_false, mid_get, mid_set, mid_getn, mid_setn, bt_mid, Option.bind_some, Bool.not_true, Bool.not_false, Bool.false_eq_true, Bool.true_eq_false, beq_self_eq_true, bne_self_eq_false, Int.toNat_natCast, Bool.true_and]
    exact this
theorem spec_AreMoves_f (xs : List Mov) (hl : xs.length ≤ 1000000) (hs : ∀ m ∈ xs, Sz m.2.1) : spec_AreMoves.f xs = some (movesB xs) := by
  unfold spec_AreMoves.f spec_AreMoves.fn spec_AreMoves.top movesB
  have := spec_AreMoves_l xs [] NN mvi_nil hs (by simpa using hl) (NN_lt (by omega))
  rw [List.nil_append] at this
  rw [Bool.and_comm]
  exact this
end Go.Pl

namespace Go.Pl
open Go.Ev
set_option linter.unusedVariables false
set_option linter.unusedSimpArgs false
/-- a booking that stands -/
def valB (b : Int × ByteArray × Int) : Bool := inB b.1 0 3 && wordB b.2.1 && inB b.2.2 1 1000
def addL (a : ByteArray) (s : Int) (b : Int × ByteArray × Int) : Int := if b.2.1 = a then (if b.1 = 0 then s + b.2.2 else s - b.2.2) else s
def leftOf (xs : List (Int × ByteArray × Int)) (a : ByteArray) : Int := xs.foldl (addL a) 0
theorem leftOf_snoc (p : List (Int × ByteArray × Int)) (b : Int × ByteArray × Int) (a : ByteArray) : leftOf (p ++ [b]) a = addL a (leftOf p a) b := by
  unfold leftOf; rw [List.foldl_append]; rfl
theorem valB_count {b : Int × ByteArray × Int} (h : valB b = true) : 1 ≤ b.2.2 ∧ b.2.2 ≤ 1000 ∧ 0 ≤ b.1 ∧ b.1 ≤ 3 := by
  unfold valB at h
  simp only [Bool.and_eq_true, inB_iff] at h
  omega
theorem leftOf_le (a : ByteArray) (xs : List (Int × ByteArray × Int)) (h : ∀ b ∈ xs, valB b = true) : -(1000 * (xs.length : Int)) ≤ leftOf xs a ∧ leftOf xs a ≤ 1000 * (xs.length : Int) := by
  have key : ∀ (ys : List (Int × ByteArray × Int)) (s : Int), (∀ b ∈ ys, valB b = true) → s - 1000 * (ys.length : Int) ≤ ys.foldl (addL a) s ∧ ys.foldl (addL a) s ≤ s + 1000 * (ys.length : Int) := by
    intro ys
    induction ys with
    | nil => intro s _; simp
    | cons b r ih =>
      intro s hb
      have h1 := ih (addL a s b) (fun x hx => hb x (by simp [hx]))
      have h2 := valB_count (hb b (by simp))
      simp only [List.foldl_cons, List.length_cons]
      have : s - 1000 ≤ addL a s b ∧ addL a s b ≤ s + 1000 := by
        unfold addL; split <;> (try split) <;> omega
      omega
  have := key xs 0 h
  unfold leftOf; omega
theorem spec_l32Left_f (xs rest : List (Int × ByteArray × Int)) (a : ByteArray) (h : ∀ b ∈ xs, valB b = true) (hl : xs.length ≤ 1000000) : spec_l32Left.f (xs ++ rest) a xs.length = some (leftOf xs a) := by
  have := (fold_fix (E := fun b => valB b = true) (fun p s => (∀ b ∈ p, valB b = true) ∧ s = leftOf p a) (fun _ => addL a) some (fun k i s => spec_l32Left.l3 NN k (xs ++ rest) a xs.length s i) xs ?_ ?_ 0 h ⟨by simp, rfl⟩ (by omega) NN (NN_lt (by omega))).2
  · rw [foldi_foldl] at this
    exact this
  · intro k st _
    simp [spec_l32Left.l3, spec_l32Left.g3]
  · intro k p b r st hx hb hI c0 c1 c2 cw g
    obtain ⟨h1, rfl⟩ := hI
    have h2 : ∀ x ∈ p ++ [b], valB x = true := fun x hx => by
      rcases List.mem_append.1 hx with h | h
      · exact h1 x h
      · rw [List.mem_singleton.1 h]; exact hb
    refine ⟨⟨h2, (leftOf_snoc p b a).symm⟩, ?_⟩
    have c3 : (p.length : Int) < ((xs ++ rest).length : Int) := by rw [List.length_append]; omega
    have g' : ∀ z, (xs ++ rest).getD p.length z = b := fun z => by rw [hx]; simp
    have bd := leftOf_le a (p ++ [b]) h2
    rw [leftOf_snoc] at bd
    have hpl : p.length ≤ 1000000 := by omega
    simp only [List.length_append, List.length_cons, List.length_nil] at bd
    simp only [spec_l32Left.l3, spec_l32Left.g3, c0, c1, c3, cw, and_self, and_true, true_and, decide_true, decide_false, if_true, if_false, mid_get, mid_set, mid_getn, mid_setn, bt_mid, Option.bind_some, Bool.not_true, Bool.not_false, Bool.false_eq_true, Bool.true_eq_false, beq_self_eq_true, bne_self_eq_false, Int.toNat_natCast, g', ba_beq]
    unfold addL at bd ⊢
    by_cases ha : b.2.1 = a
    · by_cases hz : b.1 = 0
      · have e := w64 (n := leftOf p a + b.2.2) (by simp only [ha, hz, if_true] at bd; omega) (by simp only [ha, hz, if_true] at bd; omega)
        simp [ha, hz, e]
      · have e := w64 (n := leftOf p a - b.2.2) (by simp only [ha, hz, if_true, if_false] at bd; omega) (by simp only [ha, hz, if_true, if_false] at bd; omega)
        simp [ha, hz, e]
    · simp [ha]
/-- how many of each kind -/
def addT (a : ByteArray) (s : List Int) (b : Int × ByteArray × Int) : List Int := if b.2.1 = a then s.set b.1.toNat (s.getD b.1.toNat 0 + b.2.2) else s
def totL (xs : List (Int × ByteArray × Int)) (a : ByteArray) : List Int := xs.foldl (addT a) [0, 0, 0, 0]
theorem totL_snoc (p : List (Int × ByteArray × Int)) (b : Int × ByteArray × Int) (a : ByteArray) : totL (p ++ [b]) a = addT a (totL p a) b := by
  unfold totL; rw [List.foldl_append]; rfl
theorem totL_shape (a : ByteArray) (xs : List (Int × ByteArray × Int)) (h : ∀ b ∈ xs, valB b = true) : ∃ t0 t1 t2 t3, totL xs a = [t0, t1, t2, t3] ∧ t0 - t1 - t2 - t3 = leftOf xs a ∧ 0 ≤ t0 ∧ 0 ≤ t1 ∧ 0 ≤ t2 ∧ 0 ≤ t3 ∧ t0 + t1 + t2 + t3 ≤ 1000 * (xs.length : Int) := by
  have key : ∀ (n : Nat) (xs : List (Int × ByteArray × Int)), xs.length = n → (∀ b ∈ xs, valB b = true) → ∃ t0 t1 t2 t3, totL xs a = [t0, t1, t2, t3] ∧ t0 - t1 - t2 - t3 = leftOf xs a ∧ 0 ≤ t0 ∧ 0 ≤ t1 ∧ 0 ≤ t2 ∧ 0 ≤ t3 ∧ t0 + t1 + t2 + t3 ≤ 1000 * (xs.length : Int) := by
    intro n
    induction n with
    | zero => intro xs hn _; obtain rfl := List.length_eq_zero_iff.1 hn; exact ⟨0, 0, 0, 0, rfl, rfl, by omega, by omega, by omega, by omega, by simp⟩
    | succ n ih =>
      intro xs hn hb
      rcases List.eq_nil_or_concat xs with rfl | ⟨p, b, rfl⟩
      · simp at hn
      simp only [List.concat_eq_append] at hn hb ⊢
      obtain ⟨t0, t1, t2, t3, e1, e2, e3, e4, e5, e6, e7⟩ := ih p (by simpa using hn) (fun x hx => hb x (by simp [hx]))
      have hv := valB_count (hb b (by simp))
      rw [totL_snoc, leftOf_snoc, e1]
      simp only [List.length_append, List.length_cons, List.length_nil]
      unfold addT addL
      by_cases ha : b.2.1 = a
      · simp only [ha, if_true]
        obtain h | h | h | h : b.1 = 0 ∨ b.1 = 1 ∨ b.1 = 2 ∨ b.1 = 3 := by omega
        · exact ⟨t0 + b.2.2, t1, t2, t3, by simp [h], by simp [h]; omega, by omega, by omega, by omega, by omega, by omega⟩
        · exact ⟨t0, t1 + b.2.2, t2, t3, by simp [h], by simp [h]; omega, by omega, by omega, by omega, by omega, by omega⟩
        · exact ⟨t0, t1, t2 + b.2.2, t3, by simp [h], by simp [h]; omega, by omega, by omega, by omega, by omega, by omega⟩
        · exact ⟨t0, t1, t2, t3 + b.2.2, by simp [h], by simp [h]; omega, by omega, by omega, by omega, by omega, by omega⟩
      · simp only [ha, if_false]
        exact ⟨t0, t1, t2, t3, rfl, by omega, by omega, by omega, by omega, by omega, by omega⟩
  exact key _ xs rfl h
theorem impl_totalsOf_f (xs : List (Int × ByteArray × Int)) (a : ByteArray) (h : ∀ b ∈ xs, valB b = true) (hl : xs.length ≤ 1000000) : impl_totalsOf.f xs a = some (totL xs a) := by
  have := (fold_fix (E := fun b => valB b = true) (fun p s => (∀ b ∈ p, valB b = true) ∧ s = totL p a) (fun _ => addT a) some (fun k i s => impl_totalsOf.l3 NN k a xs xs.length i s) xs ?_ ?_ [0, 0, 0, 0] h ⟨by simp, rfl⟩ (by omega) NN (NN_lt (by omega))).2
  · rw [foldi_foldl] at this
    unfold impl_totalsOf.f impl_totalsOf.fn impl_totalsOf.top
    rw [if_pos (by rw [room8]; omega)]
    exact this
  · intro k st _
    simp [impl_totalsOf.l3, impl_totalsOf.g3]
  · intro k p b r st hx hb hI c0 c1 c2 cw g
    obtain ⟨h1, rfl⟩ := hI
    have h2 : ∀ x ∈ p ++ [b], valB x = true := fun x hx => by
      rcases List.mem_append.1 hx with h | h
      · exact h1 x h
      · rw [List.mem_singleton.1 h]; exact hb
    refine ⟨⟨h2, (totL_snoc p b a).symm⟩, ?_⟩
    obtain ⟨t0, t1, t2, t3, e1, e2, e3, e4, e5, e6, e7⟩ := totL_shape a p h1
    have hpl : p.length ≤ 1000000 := by omega
    have hv := valB_count hb
    simp only [impl_totalsOf.l3, impl_totalsOf.g3, c0, c1, cw, and_self, and_true, true_and, decide_true, decide_false, if_true, if_false, mid_get, mid_set, mid_getn, mid_setn, bt_mid, Option.bind_some, Bool.not_true, Bool.not_false, Bool.false_eq_true, Bool.true_eq_false, beq_self_eq_true, bne_self_eq_false, Int.toNat_natCast, g, ba_beq]
    unfold addT
    by_cases ha : b.2.1 = a
    · have k1 : b.1 < ((totL p a).length : Int) := by rw [e1]; simp; omega
      have k2 : 0 ≤ (totL p a).getD b.1.toNat 0 ∧ (totL p a).getD b.1.toNat 0 ≤ 1000000000 := by
        rw [e1]
        obtain h | h | h | h : b.1 = 0 ∨ b.1 = 1 ∨ b.1 = 2 ∨ b.1 = 3 := by omega
        all_goals (rw [h]; simp; omega)
      have e := w64 (n := (totL p a).getD b.1.toNat 0 + b.2.2) (by omega) (by omega)
      simp only [ha, decide_true, if_true, hv.2.2.1, k1, and_self, e]
    · simp [ha]
theorem impl_piecesLeft_f (xs : List (Int × ByteArray × Int)) (a : ByteArray) (h : ∀ b ∈ xs, valB b = true) (hl : xs.length ≤ 1000000) : impl_piecesLeft.f xs a = some (leftOf xs a) := by
  unfold impl_piecesLeft.f impl_piecesLeft.fn impl_piecesLeft.top
  rw [impl_totalsOf_f xs a h hl]
  obtain ⟨t0, t1, t2, t3, e1, e2, e3, e4, e5, e6, e7⟩ := totL_shape a xs h
  have w1 := w64 (n := t0 - t1) (by omega) (by omega)
  have w2 := w64 (n := t0 - t1 - t2) (by omega) (by omega)
  have w3 := w64 (n := t0 - t1 - t2 - t3) (by omega) (by omega)
  have w4 : IntKind.i64.wrap (leftOf xs a) = leftOf xs a := by rw [← e2]; exact w3
  rw [e1]
  simp [w1, w2, w3, e2, w4]
/-- no article short at any time -/
def okFrom (p : List (Int × ByteArray × Int)) : List (Int × ByteArray × Int) → Bool
  | [] => true
  | b :: r => valB b && decide (0 ≤ leftOf (p ++ [b]) b.2.1) && okFrom (p ++ [b]) r
def booksB (xs : List (Int × ByteArray × Int)) : Bool := decide (xs.length ≤ 60) && okFrom [] xs
theorem okFrom_val : ∀ (r p : List (Int × ByteArray × Int)), okFrom p r = true → ∀ b ∈ r, valB b = true := by
  intro r
  induction r with
  | nil => intro p _ b hb; cases hb
  | cons x r ih =>
    intro p h b hb
    simp only [okFrom, Bool.and_eq_true] at h
    rcases List.mem_cons.1 hb with rfl | hb
    · exact h.1.1
    · exact ih _ h.2 b hb
theorem booksB_val {xs : List (Int × ByteArray × Int)} (h : booksB xs = true) : (∀ b ∈ xs, valB b = true) ∧ xs.length ≤ 60 := by
  unfold booksB at h
  simp only [Bool.and_eq_true, decide_eq_true_eq] at h
  exact ⟨okFrom_val _ _ h.2, h.1⟩
theorem val_snoc {p : List (Int × ByteArray × Int)} {b : Int × ByteArray × Int} (h1 : ∀ x ∈ p, valB x = true) (hb : valB b = true) : ∀ x ∈ p ++ [b], valB x = true := fun x hx => by
  rcases List.mem_append.1 hx with h | h
  · exact h1 x h
  · rw [List.mem_singleton.1 h]; exact hb
theorem spec_AreBookings_loop : ∀ (r p : List (Int × ByteArray × Int)) (k : Nat), (∀ b ∈ p, valB b = true) → (∀ b ∈ r, Sz b.2.1) → p.length + r.length ≤ 1000000 → r.length < k →
    spec_AreBookings.l2 NN k (p ++ r) p.length = some (okFrom p r && decide ((p ++ r).length ≤ 60)) := by
  intro r
  induction r with
  | nil =>
    intro p k _ _ _ hk
    obtain ⟨k, rfl⟩ : ∃ j, k = j + 1 := ⟨k - 1, by omega⟩
    simp [spec_AreBookings.l2, spec_AreBookings.g2, okFrom]
    omega
  | cons b r ih =>
    intro p k hp hr hb hk
    simp only [List.length_cons] at hk hb
    obtain ⟨k, rfl⟩ : ∃ j, k = j + 1 := ⟨k - 1, by omega⟩
    have hm := mid_len p r b
    have c0 : (0 : Int) ≤ (p.length : Int) := by omega
    have c1 : (p.length : Int) < ((p ++ b :: r).length : Int) := by omega
    have cw := w64 (n := (p.length : Int) + 1) (by omega) (by omega)
    simp only [spec_AreBookings.l2, spec_AreBookings.g2, c0, c1, cw, and_self, and_true, true_and, decide_true, decide_false, if_true, if_false, mid_get, mid_set, mid_getn, mid_setn, bt_mid, Option.bind_some, Bool.not_true, Bool.not_false, Bool.false_eq_true, Bool.true_eq_false, beq_self_eq_true, bne_self_eq_false, Int.toNat_natCast, spec_l01In_f, spec_IsWord_f _ (hr b (by simp))]
    have hv : valB b = (inB b.1 0 3 && wordB b.2.1 && inB b.2.2 1 1000) := rfl
    simp only [okFrom]
    cases h1 : inB b.1 0 3
    · simp [hv, h1]
    cases h2 : wordB b.2.1
    · simp [hv, h2]
    cases h3 : inB b.2.2 1 1000
    · simp [hv, h3]
    have hvt : valB b = true := by rw [hv, h1, h2, h3]; rfl
    have hl := spec_l32Left_f (p ++ [b]) r b.2.1 (val_snoc hp hvt) (by simp; omega)
    rw [mid_snoc, snoc_len] at hl
    have := ih (p ++ [b]) k (val_snoc hp hvt) (fun x hx => hr x (by simp [hx])) (by simp; omega) (by omega)
    rw [mid_snoc, snoc_len] at this
    simp only [hl, this, hvt, and_self, and_true, true_and, decide_true, decide_false, if_true, if_false, mid_get, mid_set, mid_getn, mid_setn, bt_mid, Option.bind_some, Bool.not_true, Bool.not_false, Bool.false_eq_true, Bool.true_eq_false, beq_self_eq_true, bne_self_eq_false, Int.toNat_natCast, decide_eq_true_eq]
    by_cases hn : leftOf (p ++ [b]) b.2.1 < 0
    · have : ¬ 0 ≤ leftOf (p ++ [b]) b.2.1 := by omega
      simp [hn, this]
    · have h4 : 0 ≤ leftOf (p ++ [b]) b.2.1 := by omega
      simp [hn, h4]
theorem spec_AreBookings_f (xs : List (Int × ByteArray × Int)) (h : Lm OkBooking xs) : spec_AreBookings.f xs = some (booksB xs) := by
  have := spec_AreBookings_loop xs [] NN (by simp) (fun b hb => Nat.le_trans (h.2 b hb).2.1 (by omega)) (by simpa using h.1) (NN_lt (by have := h.1; omega))
  unfold spec_AreBookings.f spec_AreBookings.fn spec_AreBookings.top booksB
  rw [Bool.and_comm]
  simpa using this
theorem impl_AreBookings_loop : ∀ (r p : List (Int × ByteArray × Int)) (k : Nat), (∀ b ∈ p, valB b = true) → (∀ b ∈ r, Sz b.2.1) → p.length + r.length ≤ 1000000 → r.length < k →
    impl_AreBookings.l4 NN k (p ++ r) (p ++ r) (p ++ r).length p.length = some (okFrom p r) := by
  intro r
  induction r with
  | nil =>
    intro p k _ _ _ hk
    obtain ⟨k, rfl⟩ : ∃ j, k = j + 1 := ⟨k - 1, by omega⟩
    simp [impl_AreBookings.l4, impl_AreBookings.g4, okFrom]
  | cons b r ih =>
    intro p k hp hr hb hk
    simp only [List.length_cons] at hk hb
    obtain ⟨k, rfl⟩ : ∃ j, k = j + 1 := ⟨k - 1, by omega⟩
    have hm := mid_len p r b
    have c0 : (0 : Int) ≤ (p.length : Int) := by omega
    have c1 : (p.length : Int) < ((p ++ b :: r).length : Int) := by omega
    have cw := w64 (n := (p.length : Int) + 1) (by omega) (by omega)
    have c2 : (0 : Int) ≤ (p.length : Int) + 1 := by omega
    have c3 : (p.length : Int) + 1 ≤ ((p ++ b :: r).length : Int) := by omega
    have ct : (p ++ b :: r).take ((p.length : Int) + 1).toNat = p ++ [b] := by
      rw [show ((p.length : Int) + 1).toNat = (p ++ [b]).length by simp, show p ++ b :: r = (p ++ [b]) ++ r by simp, List.take_left' rfl]
    simp only [impl_AreBookings.l4, impl_AreBookings.g4, c0, c1, c2, c3, cw, ct, and_self, and_true, true_and, decide_true, decide_false, if_true, if_false, mid_get, mid_set, mid_getn, mid_setn, bt_mid, Option.bind_some, Bool.not_true, Bool.not_false, Bool.false_eq_true, Bool.true_eq_false, beq_self_eq_true, bne_self_eq_false, Int.toNat_natCast, impl_within_f, impl_IsWord_f _ (hr b (by simp))]
    have hv : valB b = (inB b.1 0 3 && wordB b.2.1 && inB b.2.2 1 1000) := rfl
    simp only [okFrom]
    cases h1 : inB b.1 0 3
    · simp [hv, h1]
    cases h2 : wordB b.2.1
    · simp [hv, h2]
    cases h3 : inB b.2.2 1 1000
    · simp [hv, h3]
    have hvt : valB b = true := by rw [hv, h1, h2, h3]; rfl
    have hl := impl_piecesLeft_f (p ++ [b]) b.2.1 (val_snoc hp hvt) (by simp; omega)
    have := ih (p ++ [b]) k (val_snoc hp hvt) (fun x hx => hr x (by simp [hx])) (by simp; omega) (by omega)
    rw [mid_snoc, snoc_len] at this
    simp only [hl, this, hvt, and_self, and_true, true_and, decide_true, decide_false, if_true, if_false, mid_get, mid_set, mid_getn, mid_setn, bt_mid, Option.bind_some, Bool.not_true, Bool.not_false, Bool.false_eq_true, Bool.true_eq_false, beq_self_eq_true, bne_self_eq_false, Int.toNat_natCast, decide_eq_true_eq]
    by_cases hn : leftOf (p ++ [b]) b.2.1 < 0
    · have : ¬ 0 ≤ leftOf (p ++ [b]) b.2.1 := by omega
      simp [hn, this]
    · have h4 : 0 ≤ leftOf (p ++ [b]) b.2.1 := by omega
      simp [hn, h4]
theorem impl_AreBookings_f (xs : List (Int × ByteArray × Int)) (h : Lm OkBooking xs) : impl_AreBookings.f xs = some (booksB xs) := by
  have := impl_AreBookings_loop xs [] NN (by simp) (fun b hb => Nat.le_trans (h.2 b hb).2.1 (by omega)) (by simpa using h.1) (NN_lt (by have := h.1; omega))
  unfold impl_AreBookings.f impl_AreBookings.fn impl_AreBookings.top booksB
  simp only [List.nil_append, List.length_nil] at this
  by_cases h1 : (60 : Int) < xs.length
  · have h2 : ¬ xs.length ≤ 60 := by omega
    simp [h1, h2]
  · have h2 : xs.length ≤ 60 := by omega
    simp only [h1, h2, decide_false, Bool.false_eq_true, if_false, decide_true, Bool.true_and]
    exact this
theorem AreBookings_core (xs : List (Int × ByteArray × Int)) (h : Lm OkBooking xs) : ∃ w, spec_AreBookings.f xs = some w ∧ impl_AreBookings.f xs = some w ∧ True :=
  ⟨_, spec_AreBookings_f xs h, impl_AreBookings_f xs h, trivial⟩
end Go.Pl

namespace Go.Pl
open Go.Ev
set_option linter.unusedVariables false
noncomputable section
def impl_PiecesLeft.top (list0 : List (Int × ByteArray × Int)) (article1 : ByteArray) : Option (Int × Int) :=
  (impl_AreBookings.f list0).bind fun r1 =>
  if (!r1) = false then
    (impl_IsWord.f article1).bind fun r2 =>
    if (!r2) = true then
      some (0, 1)
    else
      (impl_piecesLeft.f list0 article1).bind fun r3 =>
      some (r3, 0)
  else
    some (0, 1)
def impl_PiecesLeft.fn (n : Nat) (list0 : List (Int × ByteArray × Int)) (article1 : ByteArray) : Option (Int × Int) := impl_PiecesLeft.top list0 article1
def impl_PiecesLeft.f (list0 : List (Int × ByteArray × Int)) (article1 : ByteArray) : Option (Int × Int) := impl_PiecesLeft.fn NN list0 article1
end
end Go.Pl

namespace Go.Pl
open Go.Ev
set_option linter.unusedVariables false
noncomputable section
def spec_PiecesLeft.top (list0 : List (Int × ByteArray × Int)) (article1 : ByteArray) : Option (Int × Int) :=
  (spec_AreBookings.f list0).bind fun r1 =>
  if (!r1) = false then
    (spec_IsWord.f article1).bind fun r2 =>
    if (!r2) = true then
      some (0, 1)
    else
      (spec_l32Left.f list0 article1 (list0.length : Int)).bind fun r3 =>
      some (r3, 0)
  else
    some (0, 1)
def spec_PiecesLeft.fn (n : Nat) (list0 : List (Int × ByteArray × Int)) (article1 : ByteArray) : Option (Int × Int) := spec_PiecesLeft.top list0 article1
def spec_PiecesLeft.f (list0 : List (Int × ByteArray × Int)) (article1 : ByteArray) : Option (Int × Int) := spec_PiecesLeft.fn NN list0 article1
end
end Go.Pl

namespace Go.Pl
open Go.Ev
set_option linter.unusedVariables false
noncomputable section
def impl_MostIn.g5 (L5 : (List (Int × ByteArray × Int)) → ByteArray → Int → Int → Int → Option (Int × Int)) (list0 : List (Int × ByteArray × Int)) (article1 : ByteArray) (most6 : Int) (v17 : Int) (v18 : Int) : Option (Int × Int) :=
  if (decide ((v18 : Int) < v17)) = true then
    if (0 : Int) ≤ (IntKind.i64.wrap (v18 + 1)) ∧ ((IntKind.i64.wrap (v18 + 1)) : Int) ≤ list0.length then
      (impl_piecesLeft.f (list0.take ((IntKind.i64.wrap (v18 + 1)) : Int).toNat) article1).bind fun r3 =>
      L5 list0 article1 (if r3 > most6 then r3 else most6) v17 (IntKind.i64.wrap (v18 + 1))
    else
      none
  else
    some (most6, 0)
def impl_MostIn.l5 (n : Nat) : Nat → (List (Int × ByteArray × Int)) → ByteArray → Int → Int → Int → Option (Int × Int)
  | 0 => fun _ _ _ _ _ => none
  | k + 1 => impl_MostIn.g5 (impl_MostIn.l5 n k)
def impl_MostIn.top (I5 : (List (Int × ByteArray × Int)) → ByteArray → Int → Int → Int → Option (Int × Int)) (list0 : List (Int × ByteArray × Int)) (article1 : ByteArray) : Option (Int × Int) :=
  (impl_AreBookings.f list0).bind fun r1 =>
  if (!r1) = false then
    (impl_IsWord.f article1).bind fun r2 =>
    if (!r2) = true then
      some (0, 1)
    else
      I5 list0 article1 0 (list0.length : Int) 0
  else
    some (0, 1)
def impl_MostIn.fn (n : Nat) (list0 : List (Int × ByteArray × Int)) (article1 : ByteArray) : Option (Int × Int) := impl_MostIn.top (impl_MostIn.l5 n n) list0 article1
def impl_MostIn.f (list0 : List (Int × ByteArray × Int)) (article1 : ByteArray) : Option (Int × Int) := impl_MostIn.fn NN list0 article1
end
end Go.Pl

namespace Go.Pl
open Go.Ev
set_option linter.unusedVariables false
noncomputable section
def spec_MostIn.g5 (L5 : (List (Int × ByteArray × Int)) → ByteArray → Int → Int → Option (Int × Int)) (list0 : List (Int × ByteArray × Int)) (article1 : ByteArray) (most6 : Int) (n7 : Int) : Option (Int × Int) :=
  if (decide ((n7 : Int) ≤ (list0.length : Int))) = true then
    (spec_l32Left.f list0 article1 n7).bind fun r3 =>
    L5 list0 article1 (if r3 > most6 then r3 else most6) (IntKind.i64.wrap (n7 + 1))
  else
    some (most6, 0)
def spec_MostIn.l5 (n : Nat) : Nat → (List (Int × ByteArray × Int)) → ByteArray → Int → Int → Option (Int × Int)
  | 0 => fun _ _ _ _ => none
  | k + 1 => spec_MostIn.g5 (spec_MostIn.l5 n k)
def spec_MostIn.top (I5 : (List (Int × ByteArray × Int)) → ByteArray → Int → Int → Option (Int × Int)) (list0 : List (Int × ByteArray × Int)) (article1 : ByteArray) : Option (Int × Int) :=
  (spec_AreBookings.f list0).bind fun r1 =>
  if (!r1) = false then
    (spec_IsWord.f article1).bind fun r2 =>
    if (!r2) = true then
      some (0, 1)
    else
      I5 list0 article1 0 0
  else
    some (0, 1)
def spec_MostIn.fn (n : Nat) (list0 : List (Int × ByteArray × Int)) (article1 : ByteArray) : Option (Int × Int) := spec_MostIn.top (spec_MostIn.l5 n n) list0 article1
def spec_MostIn.f (list0 : List (Int × ByteArray × Int)) (article1 : ByteArray) : Option (Int × Int) := spec_MostIn.fn NN list0 article1
end
end Go.Pl

namespace Go.Pl
open Go.Ev
set_option linter.unusedVariables false
set_option linter.unusedSimpArgs false
theorem l32Left_all (xs : List (Int × ByteArray × Int)) (a : ByteArray) (h : ∀ b ∈ xs, valB b = true) (hl : xs.length ≤ 1000000) : spec_l32Left.f xs a xs.length = some (leftOf xs a) := by
  have := spec_l32Left_f xs [] a h hl
  rwa [List.append_nil] at this
theorem l32Left_take (xs : List (Int × ByteArray × Int)) (a : ByteArray) (n : Nat) (hn : n ≤ xs.length) (h : ∀ b ∈ xs, valB b = true) (hl : xs.length ≤ 1000000) : spec_l32Left.f xs a n = some (leftOf (xs.take n) a) := by
  have := spec_l32Left_f (xs.take n) (xs.drop n) a (fun b hb => h b (List.mem_of_mem_take hb)) (by rw [List.length_take]; omega)
  rwa [List.take_append_drop, List.length_take, Nat.min_eq_left hn] at this
def leftR (xs : List (Int × ByteArray × Int)) (a : ByteArray) : Int × Int := if booksB xs = true ∧ wordB a = true then (leftOf xs a, 0) else (0, 1)
theorem PiecesLeft_both (xs : List (Int × ByteArray × Int)) (a : ByteArray) (h : Lm OkBooking xs) (ha : Sm a) : spec_PiecesLeft.f xs a = some (leftR xs a) ∧ impl_PiecesLeft.f xs a = some (leftR xs a) := by
  unfold leftR
  refine ⟨?_, ?_⟩
  · unfold spec_PiecesLeft.f spec_PiecesLeft.fn spec_PiecesLeft.top
    rw [spec_AreBookings_f xs h, spec_IsWord_f a (Nat.le_trans ha (by omega))]
    cases hb : booksB xs
    · rfl
    cases hw : wordB a
    · rfl
    have hv := booksB_val hb
    simp only [and_self, and_true, true_and, decide_true, decide_false, if_true, if_false, mid_get, mid_set, mid_getn, mid_setn, bt_mid, Option.bind_some, Bool.not_true, Bool.not_false, Bool.false_eq_true, Bool.true_eq_false, beq_self_eq_true, bne_self_eq_false, Int.toNat_natCast]
    rw [l32Left_all xs a hv.1 (by omega)]; rfl
  · unfold impl_PiecesLeft.f impl_PiecesLeft.fn impl_PiecesLeft.top
    rw [impl_AreBookings_f xs h, impl_IsWord_f a (Nat.le_trans ha (by omega))]
    cases hb : booksB xs
    · rfl
    cases hw : wordB a
    · rfl
    have hv := booksB_val hb
    simp only [and_self, and_true, true_and, decide_true, decide_false, if_true, if_false, mid_get, mid_set, mid_getn, mid_setn, bt_mid, Option.bind_some, Bool.not_true, Bool.not_false, Bool.false_eq_true, Bool.true_eq_false, beq_self_eq_true, bne_self_eq_false, Int.toNat_natCast]
    rw [impl_piecesLeft_f xs a hv.1 (by omega)]; rfl
theorem PiecesLeft_core (xs : List (Int × ByteArray × Int)) (a : ByteArray) (h : Lm OkBooking xs) (ha : Sm a) : ∃ w, spec_PiecesLeft.f xs a = some w ∧ impl_PiecesLeft.f xs a = some w ∧ True :=
  ⟨_, (PiecesLeft_both xs a h ha).1, (PiecesLeft_both xs a h ha).2, trivial⟩
def mostF (xs : List (Int × ByteArray × Int)) (a : ByteArray) (i : Nat) (st : Int) : Int := if leftOf (xs.take (i + 1)) a > st then leftOf (xs.take (i + 1)) a else st
def mostL (xs : List (Int × ByteArray × Int)) (a : ByteArray) : Int := foldi (fun i st (_ : Int × ByteArray × Int) => mostF xs a i st) 0 0 xs
theorem impl_MostIn_l (xs : List (Int × ByteArray × Int)) (a : ByteArray) (h : ∀ b ∈ xs, valB b = true) (hl : xs.length ≤ 60) : impl_MostIn.l5 NN NN xs a 0 xs.length 0 = some (mostL xs a, 0) := by
  have := (fold_fix (E := fun _ => True) (fun _ _ => True) (fun i st (_ : Int × ByteArray × Int) => mostF xs a i st) (fun st => some (st, (0 : Int))) (fun k i st => impl_MostIn.l5 NN k xs a st xs.length i) xs ?_ ?_ 0 (fun _ _ => trivial) trivial (by omega) NN (NN_lt (by omega))).2
  · exact this
  · intro k st _
    simp [impl_MostIn.l5, impl_MostIn.g5]
  · intro k p b r st hx _ _ c0 c1 c2 cw g
    refine ⟨trivial, ?_⟩
    have c3 : (0 : Int) ≤ (p.length : Int) + 1 := by omega
    have c4 : (p.length : Int) + 1 ≤ (xs.length : Int) := by omega
    have e : ((p.length : Int) + 1).toNat = p.length + 1 := by omega
    simp only [impl_MostIn.l5, impl_MostIn.g5, c1, c3, c4, cw, e, and_self, and_true, true_and, decide_true, decide_false, if_true, if_false, mid_get, mid_set, mid_getn, mid_setn, bt_mid, Option.bind_some, Bool.not_true, Bool.not_false, Bool.false_eq_true, Bool.true_eq_false, beq_self_eq_true, bne_self_eq_false, Int.toNat_natCast]
    rw [impl_piecesLeft_f (xs.take (p.length + 1)) a (fun b hb => h b (List.mem_of_mem_take hb)) (by rw [List.length_take]; omega)]
    rfl
theorem spec_MostIn_l (xs : List (Int × ByteArray × Int)) (a : ByteArray) (h : ∀ b ∈ xs, valB b = true) (hl : xs.length ≤ 60) : spec_MostIn.l5 NN NN xs a 0 0 = some (mostL xs a, 0) := by
  obtain ⟨k, hk⟩ : ∃ j, NN = j + 1 := ⟨NN - 1, by have := NNb; omega⟩
  have hkb : 1000 < k := by rw [NN_eq] at hk; omega
  have := (fold_fix (E := fun _ => True) (fun _ _ => True) (fun i st (_ : Int × ByteArray × Int) => mostF xs a i st) (fun st => some (st, (0 : Int))) (fun k i st => spec_MostIn.l5 NN k xs a st (i + 1)) xs ?_ ?_ 0 (fun _ _ => trivial) trivial (by omega) k (by omega)).2
  · rw [show spec_MostIn.l5 NN NN = spec_MostIn.l5 NN (k + 1) by rw [← hk]]
    have c0 : (0 : Int) ≤ (xs.length : Int) := by omega
    have z := l32Left_take xs a 0 (by omega) h (by omega)
    have w := w64 (n := 0 + 1) (by omega) (by omega)
    simp only [spec_MostIn.l5, spec_MostIn.g5, c0, and_self, and_true, true_and, decide_true, decide_false, if_true, if_false, mid_get, mid_set, mid_getn, mid_setn, bt_mid, Option.bind_some, Bool.not_true, Bool.not_false, Bool.false_eq_true, Bool.true_eq_false, beq_self_eq_true, bne_self_eq_false, Int.toNat_natCast, w]
    rw [show ((0 : Nat) : Int) = 0 from rfl] at z
    rw [z]
    exact this
  · intro k st _
    simp [spec_MostIn.l5, spec_MostIn.g5]
    omega
  · intro k p b r st hx _ _ c0 c1 c2 cw g
    refine ⟨trivial, ?_⟩
    have c4 : (p.length : Int) + 1 ≤ (xs.length : Int) := by omega
    have z := l32Left_take xs a (p.length + 1) (by omega) h (by omega)
    rw [show ((p.length + 1 : Nat) : Int) = (p.length : Int) + 1 by omega] at z
    have w := w64 (n := (p.length : Int) + 1 + 1) (by omega) (by omega)
    simp only [spec_MostIn.l5, spec_MostIn.g5, c4, w, z, and_self, and_true, true_and, decide_true, decide_false, if_true, if_false, mid_get, mid_set, mid_getn, mid_setn, bt_mid, Option.bind_some, Bool.not_true, Bool.not_false, Bool.false_eq_true, Bool.true_eq_false, beq_self_eq_true, bne_self_eq_false, Int.toNat_natCast]
    rfl
def mostR (xs : List (Int × ByteArray × Int)) (a : ByteArray) : Int × Int := if booksB xs = true ∧ wordB a = true then (mostL xs a, 0) else (0, 1)
theorem MostIn_both (xs : List (Int × ByteArray × Int)) (a : ByteArray) (h : Lm OkBooking xs) (ha : Sm a) : spec_MostIn.f xs a = some (mostR xs a) ∧ impl_MostIn.f xs a = some (mostR xs a) := by
  unfold mostR
  refine ⟨?_, ?_⟩
  · unfold spec_MostIn.f spec_MostIn.fn spec_MostIn.top
    rw [spec_AreBookings_f xs h, spec_IsWord_f a (Nat.le_trans ha (by omega))]
    cases hb : booksB xs
    · rfl
    cases hw : wordB a
    · rfl
    have hv := booksB_val hb
    exact spec_MostIn_l xs a hv.1 hv.2
  · unfold impl_MostIn.f impl_MostIn.fn impl_MostIn.top
    rw [impl_AreBookings_f xs h, impl_IsWord_f a (Nat.le_trans ha (by omega))]
    cases hb : booksB xs
    · rfl
    cases hw : wordB a
    · rfl
    have hv := booksB_val hb
    exact impl_MostIn_l xs a hv.1 hv.2
theorem MostIn_core (xs : List (Int × ByteArray × Int)) (a : ByteArray) (h : Lm OkBooking xs) (ha : Sm a) : ∃ w, spec_MostIn.f xs a = some w ∧ impl_MostIn.f xs a = some w ∧ True :=
  ⟨_, (MostIn_both xs a h ha).1, (MostIn_both xs a h ha).2, trivial⟩
end Go.Pl

namespace Go.Pl
open Go.Ev
set_option linter.unusedVariables false
set_option linter.unusedSimpArgs false
abbrev Sig := Int × Int
def sigB (m : Sig) : Bool := inB m.1 0 100000 && inB m.2 0 9 && !decide (m.2 = 8)
def prevS (p : List Sig) (t : Int) : Bool := match p.getLast? with | none => true | some y => !decide (t < y.1)
def sigF (p : List Sig) : List Sig → Bool
  | [] => true
  | m :: r => sigB m && (prevS p m.1 && sigF (p ++ [m]) r)
def sigsB (xs : List Sig) : Bool := decide (xs.length ≤ 40) && sigF [] xs
theorem impl_AreSignals_l : ∀ (r p : List Sig) (k : Nat), p.length + r.length ≤ 1000000 → r.length < k → impl_AreSignals.l4 NN k (p ++ r) (p ++ r) (p ++ r).length p.length = some (sigF p r) := by
  intro r
  induction r with
  | nil =>
    intro p k _ hk
    obtain ⟨k, rfl⟩ : ∃ j, k = j + 1 := ⟨k - 1, by omega⟩
    have e : decide ((p.length : Int) ≤ 40) = decide (p.length ≤ 40) := by congr 1; exact propext (by omega)
    simp [impl_AreSignals.l4, impl_AreSignals.g4, sigF, e]
  | cons m r ih =>
    intro p k hb hk
    simp only [List.length_cons] at hb hk
    obtain ⟨k, rfl⟩ : ∃ j, k = j + 1 := ⟨k - 1, by omega⟩
    have hl := mid_len p r m
    have c0 : (0 : Int) ≤ (p.length : Int) := by omega
    have c1 : (p.length : Int) < ((p ++ m :: r).length : Int) := by omega
    have cw := w64 (n := (p.length : Int) + 1) (by omega) (by omega)
    have i1 := ih (p ++ [m]) k (by simp; omega) (by omega)
    rw [mid_snoc, snoc_len] at i1
    simp only [impl_AreSignals.l4, impl_AreSignals.g4, c0, c1, cw, and_self, and_true, true_and, decide_true, decide_false, if_true, if_false, mid_get, mid_set, mid_getn, mid_setn, bt_mid, Option.bind_some, Bool.not_true, Bool.not_false, Bool.false_eq_true, Bool.true_eq_false, beq_self_eq_true, bne_self_eq_false, Int.toNat_natCast, impl_isTick_f, impl_within_f]
    by_cases hm : sigB m = true
    rotate_left
    · have e : sigF p (m :: r) = false := by simp only [sigF]; cases q : sigB m; rfl; exact absurd q hm
      rw [e]
      unfold sigB at hm
      simp only [Bool.and_eq_true, Bool.not_eq_true', decide_eq_false_iff_not, not_and] at hm
      by_cases h1 : inB m.1 0 100000 = true
      · by_cases h3 : inB m.2 0 9 = true
        · have h4 : m.2 = 8 := by have := hm ⟨h1, h3⟩; omega
          simp [h1, h3, h4]
        · simp [h1, h3]
      · simp [h1]
    have hm' := hm
    unfold sigB at hm'
    simp only [Bool.and_eq_true, Bool.not_eq_true', decide_eq_false_iff_not] at hm'
    obtain ⟨⟨h1, h3⟩, h4⟩ := hm'
    have h4' : (m.2 == 8) = false := by simpa using h4
    simp only [h1, h3, h4', and_self, and_true, true_and, decide_true, decide_false, if_true, if_false, mid_get, mid_set, mid_getn, mid_setn, bt_mid, Option.bind_some, Bool.not_true, Bool.not_false, Bool.false_eq_true, Bool.true_eq_false, beq_self_eq_true, bne_self_eq_false, Int.toNat_natCast]
    rcases last_cases p with hp | ⟨q, y, hp⟩
    · have n1 : ¬ (0 : Int) < (p.length : Int) := by rw [hp]; simp
      have hpr : prevS p m.1 = true := by rw [hp]; rfl
      simp only [n1, and_self, and_true, true_and, decide_true, decide_false, if_true, if_false, mid_get, mid_set, mid_getn, mid_setn, bt_mid, Option.bind_some, Bool.not_true, Bool.not_false, Bool.false_eq_true, Bool.true_eq_false, beq_self_eq_true, bne_self_eq_false, Int.toNat_natCast, i1, sigF, hm, hpr, Bool.true_and]
    · have hpl : (p.length : Int) - 1 = (q.length : Int) := by rw [hp]; simp
      have n1 : (0 : Int) < (p.length : Int) := by rw [hp]; simp
      have w1 := w64 (n := (q.length : Int)) (by omega) (by omega)
      have q0 : (0 : Int) ≤ (q.length : Int) := by omega
      have q1 : (q.length : Int) < ((p ++ m :: r).length : Int) := by omega
      have g2 : ∀ z, (p ++ m :: r).getD q.length z = y := fun z => by rw [hp, List.append_assoc, List.singleton_append, mid_getn]
      have hpr : prevS p m.1 = !decide (m.1 < y.1) := by unfold prevS; rw [hp, last_snoc]
      simp only [n1, hpl, w1, q0, q1, g2, and_self, and_true, true_and, decide_true, decide_false, if_true, if_false, mid_get, mid_set, mid_getn, mid_setn, bt_mid, Option.bind_some, Bool.not_true, Bool.not_false, Bool.false_eq_true, Bool.true_eq_false, beq_self_eq_true, bne_self_eq_false, Int.toNat_natCast, i1, sigF, hm, hpr, Bool.true_and]
      by_cases e : m.1 < y.1 <;> simp [e]
theorem spec_AreSignals_l : ∀ (r p : List Sig) (k : Nat), p.length + r.length ≤ 1000000 → r.length < k → spec_AreSignals.l2 NN k (p ++ r) p.length = some (sigF p r && decide ((p ++ r).length ≤ 40)) := by
  intro r
  induction r with
  | nil =>
    intro p k _ hk
    obtain ⟨k, rfl⟩ : ∃ j, k = j + 1 := ⟨k - 1, by omega⟩
    have e : decide ((p.length : Int) ≤ 40) = decide (p.length ≤ 40) := by congr 1; exact propext (by omega)
    simp [spec_AreSignals.l2, spec_AreSignals.g2, sigF, e]
  | cons m r ih =>
    intro p k hb hk
    simp only [List.length_cons] at hb hk
    obtain ⟨k, rfl⟩ : ∃ j, k = j + 1 := ⟨k - 1, by omega⟩
    have hl := mid_len p r m
    have c0 : (0 : Int) ≤ (p.length : Int) := by omega
    have c1 : (p.length : Int) < ((p ++ m :: r).length : Int) := by omega
    have cw := w64 (n := (p.length : Int) + 1) (by omega) (by omega)
    have i1 := ih (p ++ [m]) k (by simp; omega) (by omega)
    rw [mid_snoc, snoc_len] at i1
    simp only [spec_AreSignals.l2, spec_AreSignals.g2, c0, c1, cw, and_self, and_true, true_and, decide_true, decide_false, if_true, if_false, mid_get, mid_set, mid_getn, mid_setn, bt_mid, Option.bind_some, Bool.not_true, Bool.not_false, Bool.false_eq_true, Bool.true_eq_false, beq_self_eq_true, bne_self_eq_false, Int.toNat_natCast, spec_l01In_f]
    by_cases hm : sigB m = true
    rotate_left
    · have e : sigF p (m :: r) = false := by simp only [sigF]; cases q : sigB m; rfl; exact absurd q hm
      rw [e]
      unfold sigB at hm
      simp only [Bool.and_eq_true, Bool.not_eq_true', decide_eq_false_iff_not, not_and] at hm
      by_cases h1 : inB m.1 0 100000 = true
      · by_cases h3 : inB m.2 0 9 = true
        · have h4 : m.2 = 8 := by have := hm ⟨h1, h3⟩; omega
          simp [h1, h3, h4]
        · simp [h1, h3]
      · simp [h1]
    have hm' := hm
    unfold sigB at hm'
    simp only [Bool.and_eq_true, Bool.not_eq_true', decide_eq_false_iff_not] at hm'
    obtain ⟨⟨h1, h3⟩, h4⟩ := hm'
    have h4' : (m.2 == 8) = false := by simpa using h4
    simp only [h1, h3, h4', and_self, and_true, true_and, decide_true, decide_false, if_true, if_false, mid_get, mid_set, mid_getn, mid_setn, bt_mid, Option.bind_some, Bool.not_true, Bool.not_false, Bool.false_eq_true, Bool.true_eq_false, beq_self_eq_true, bne_self_eq_false, Int.toNat_natCast]
    rcases last_cases p with hp | ⟨q, y, hp⟩
    · have n1 : ¬ (0 : Int) < (p.length : Int) := by rw [hp]; simp
      have hpr : prevS p m.1 = true := by rw [hp]; rfl
      simp only [n1, and_self, and_true, true_and, decide_true, decide_false, if_true, if_false, mid_get, mid_set, mid_getn, mid_setn, bt_mid, Option.bind_some, Bool.not_true, Bool.not_false, Bool.false_eq_true, Bool.true_eq_false, beq_self_eq_true, bne_self_eq_false, Int.toNat_natCast, i1, sigF, hm, hpr, Bool.true_and]
    · have hpl : (p.length : Int) - 1 = (q.length : Int) := by rw [hp]; simp
      have n1 : (0 : Int) < (p.length : Int) := by rw [hp]; simp
      have w1 := w64 (n := (q.length : Int)) (by omega) (by omega)
      have q0 : (0 : Int) ≤ (q.length : Int) := by omega
      have q1 : (q.length : Int) < ((p ++ m :: r).length : Int) := by omega
      have g2 : ∀ z, (p ++ m :: r).getD q.length z = y := fun z => by rw [hp, List.append_assoc, List.singleton_append, mid_getn]
      have hpr : prevS p m.1 = !decide (m.1 < y.1) := by unfold prevS; rw [hp, last_snoc]
      simp only [n1, hpl, w1, q0, q1, g2, and_self, and_true, true_and, decide_true, decide_false, if_true, if_false, mid_get, mid_set, mid_getn, mid_setn, bt_mid, Option.bind_some, Bool.not_true, Bool.not_false, Bool.false_eq_true, Bool.true_eq_false, beq_self_eq_true, bne_self_eq_false, Int.toNat_natCast, i1, sigF, hm, hpr, Bool.true_and]
      by_cases e : m.1 < y.1 <;> simp [e]
theorem impl_AreSignals_f (xs : List Sig) (hl : xs.length ≤ 1000000) : impl_AreSignals.f xs = some (sigsB xs) := by
  unfold impl_AreSignals.f impl_AreSignals.fn impl_AreSignals.top sigsB
  have := impl_AreSignals_l xs [] NN (by simpa using hl) (NN_lt (by omega))
  rw [List.nil_append] at this
  by_cases h8 : (40 : Int) < (xs.length : Int)
  · have : ¬ xs.length ≤ 40 := by omega
    simp [h8, this]
  · have e8 : xs.length ≤ 40 := by omega
    simp only [h8, e8, and_self, and_true, true_and, decide_true, decide_false, if_true, if_false, mid_get, mid_set, mid_getn, mid_setn, bt_mid, Option.bind_some, Bool.not_true, Bool.not_false, Bool.false_eq_true, Bool.true_eq_false, beq_self_eq_true, bne_self_eq_false, Int.toNat_natCast, Bool.true_and]
    exact this
theorem spec_AreSignals_f (xs : List Sig) (hl : xs.length ≤ 1000000) : spec_AreSignals.f xs = some (sigsB xs) := by
  unfold spec_AreSignals.f spec_AreSignals.fn spec_AreSignals.top sigsB
  have := spec_AreSignals_l xs [] NN (by simpa using hl) (NN_lt (by omega))
  rw [List.nil_append] at this
  rw [Bool.and_comm]
  exact this
abbrev Dsk := List Mov × List Sig × List (Int × ByteArray × Int)
def deskB (d : Dsk) : Bool := movesB d.1 && (sigsB d.2.1 && booksB d.2.2)
theorem IsDesk_both (d : Dsk) (h : OkDesk d) : spec_IsDesk.f d = some (deskB d) ∧ impl_IsDesk.f d = some (deskB d) := by
  have hs : ∀ m ∈ d.1, Sz m.2.1 := fun m hm => Nat.le_trans (h.1.2 m hm).2.1 (by omega)
  unfold spec_IsDesk.f spec_IsDesk.fn spec_IsDesk.top impl_IsDesk.f impl_IsDesk.fn impl_IsDesk.top deskB
  rw [spec_AreMoves_f _ h.1.1 hs, impl_AreMoves_f _ h.1.1 hs, spec_AreSignals_f _ h.2.1.1, impl_AreSignals_f _ h.2.1.1, spec_AreBookings_f _ h.2.2, impl_AreBookings_f _ h.2.2]
  cases movesB d.1
  · exact ⟨rfl, rfl⟩
  cases sigsB d.2.1
  · exact ⟨rfl, rfl⟩
  cases booksB d.2.2 <;> exact ⟨rfl, rfl⟩
theorem IsDesk_core (d : Dsk) (h : OkDesk d) : ∃ w, spec_IsDesk.f d = some w ∧ impl_IsDesk.f d = some w ∧ True :=
  ⟨_, (IsDesk_both d h).1, (IsDesk_both d h).2, trivial⟩
end Go.Pl

namespace Go.Pl
open Go.Ev
set_option linter.unusedVariables false
set_option linter.unusedSimpArgs false
theorem FnExactIsDesk_true (aD : (List (Int × ByteArray × Int)) × (List (Int × Int)) × (List (Int × ByteArray × Int))) (hyp : PlDesk aD) : laws_FnExactIsDesk.f aD = some true := by
  have h_aD := hyp
  unfold laws_FnExactIsDesk.f laws_FnExactIsDesk.fn laws_FnExactIsDesk.top
  obtain ⟨s1, e1, l1, k1⟩ := laws_szDesk_ok aD 1000000 (by omega) (by omega) h_aD
  simp only [e1, Option.bind_some, decide_eq_true_eq]
  by_cases hn1 : s1 < 0
  · simp [hn1]
  simp only [hn1, if_false]
  obtain ⟨q1, o_aD⟩ := k1 (by omega)
  obtain ⟨f0_aD, f1_aD, f2_aD, t_aD, i_aD⟩ := laws_toDesk_both aD o_aD
  obtain ⟨w0, c1, c2, c3⟩ := IsDesk_core aD o_aD
  have c4 := c3
  simp [t_aD, i_aD, c1, c2]
end Go.Pl
