/- Part 2 of what the law FnCovered stands on: an evaluator of the model's code, proved sound; the functions as plain texts; their contracts. -/
import Derived.Test.YtfedipldlkncnaaChecked
import Derived.Test.YtfedipldlkncnaaProg
import Derived.Test.YtfedipldlkncnaaRows
import Derived.Below
import Derived.Calls
import Derived.Carry
import Derived.ChangeArms
import Derived.ChangeKeysEq
import Derived.ChangeOld
import Derived.Deep.Quiet
import Derived.KernelRfl
import Derived.Laws.Append
import Derived.Laws.BytesString
import Derived.Laws.MakeOwn
import Derived.Laws.Strings
import Derived.Laws.StructEq
import Derived.OpenShut
import Derived.OrdersHeld
import Derived.ProofKit
import Derived.ShutString
import Derived.SizedLaws
import Derived.Tactics
import Derived.WalkKit
import Derived.WideShapes
import Derived.Test.YtfedipldlkncnaaEvCovered1
namespace Go.Ev.Try
open Go.Proofs Go.Pl
set_option linter.unusedVariables false
noncomputable section
def spec_DaysCovered.st7 (permits0 : List (Int × Int × Int × Int × List Int × Int)) (to2 : Int) (n9 : Int) (day11 : Int) (all10 : List Int) : St := ⟨[.dat (.sl 42 (.pair (.int .i64) (.pair (.int .i64) (.pair (.int .i64) (.pair (.int .i64) (.pair (.sl 2 (.int .i64)) (.int .i64))))))) permits0, .gone, .dat (.int .i64) to2, .gone, .gone, .gone, .gone, .gone, .gone, .dat (.int .i64) n9, .ref 0, .dat (.int .i64) day11, .gone, .gone, .gone, .gone, .gone, .gone, .gone, .gone, .gone, .gone, .gone, .gone, .gone, .gone, .gone, .gone, .gone, .gone, .gone, .gone, .gone, .gone], [.row 2 (.int .i64) all10 none]⟩
def spec_DaysCovered.con : Con := { ps := [(.val, (.sl 42 (.pair (.int .i64) (.pair (.int .i64) (.pair (.int .i64) (.pair (.int .i64) (.pair (.sl 2 (.int .i64)) (.int .i64)))))))), (.val, (.int .i64)), (.val, (.int .i64))], rs := [(.val, (.int .i64)), (.val, (.int .i64))], F := fun x => spec_DaysCovered.f x.1 x.2.1 x.2.2 }
def spec_DaysCovered.cs : List (FuncId × Con) := [(55, spec_l30Days.con), (56, spec_l30Every.con), (57, spec_l30Holds.con)]
def spec_DaysCovered.E : Env := envOf tab spec_DaysCovered.cs 0 false
def spec_DaysCovered.keep (i : Nat) : List Nat := if i = 7 then [0, 2, 9, 10, 11] else []
def spec_DaysCovered.at7 (n : Nat) (x : (List (Int × Int × Int × Int × List Int × Int)) × Int × Int) : Code × (Ex → St → Option ((Int × Int))) := ctx spec_DaysCovered.E spec_DaysCovered.keep n [.snd, .snd, .snd, .snd, .snd, .fst, .snd, .blk] (codeOf Try.f12) (kEnd spec_DaysCovered.E Try.f12 spec_DaysCovered.con x)
def spec_DaysCovered.LN7 (n : Nat) (x : (List (Int × Int × Int × Int × List Int × Int)) × Int × Int) : Nat → St → Option ((Int × Int)) := loopN (exec spec_DaysCovered.E spec_DaysCovered.keep n (bodyOf (spec_DaysCovered.at7 n x).1)) (St.norm 0 (spec_DaysCovered.keep 7)) (spec_DaysCovered.at7 n x).2
set_option maxRecDepth 100000 in
theorem spec_DaysCovered.lem7 (n : Nat) (x : (List (Int × Int × Int × Int × List Int × Int)) × Int × Int) : ∀ (k : Nat) (permits0 : List (Int × Int × Int × Int × List Int × Int)) (to2 : Int) (n9 : Int) (day11 : Int) (all10 : List Int), spec_DaysCovered.LN7 n x k (spec_DaysCovered.st7 permits0 to2 n9 day11 all10) = spec_DaysCovered.l7 n k permits0 to2 n9 day11 all10 := by
  intro k
  induction k with
  | zero => intro permits0 to2 n9 day11 all10; rfl
  | succ k ih =>
    intro permits0 to2 n9 day11 all10
    have h : spec_DaysCovered.LN7 n x (k + 1) (spec_DaysCovered.st7 permits0 to2 n9 day11 all10) = spec_DaysCovered.g7 (fun permits0 to2 n9 day11 all10 => spec_DaysCovered.LN7 n x k (spec_DaysCovered.st7 permits0 to2 n9 day11 all10)) permits0 to2 n9 day11 all10 := by kernel_rfl
    rw [h]
    simp only [ih]
    rfl
set_option maxRecDepth 100000 in
theorem spec_DaysCovered.body (n : Nat) (x : (List (Int × Int × Int × Int × List Int × Int)) × Int × Int) : bodyF spec_DaysCovered.E spec_DaysCovered.keep n Try.f12 spec_DaysCovered.con x = spec_DaysCovered.fn n x.1 x.2.1 x.2.2 := by
  have h : bodyF spec_DaysCovered.E spec_DaysCovered.keep n Try.f12 spec_DaysCovered.con x = spec_DaysCovered.top (fun permits0 to2 n9 day11 all10 => spec_DaysCovered.LN7 n x n (spec_DaysCovered.st7 permits0 to2 n9 day11 all10)) x.1 x.2.1 x.2.2 := by kernel_rfl
  rw [h]
  simp only [spec_DaysCovered.lem7]
  rfl
set_option maxRecDepth 100000 in
theorem spec_DaysCovered.good : Good Try.prog 12 spec_DaysCovered.con :=
  good_of tabok (cs := spec_DaysCovered.cs) ⟨spec_l30Days.good, spec_l30Every.good, spec_l30Holds.good, trivial⟩ 0 false (fn := Try.f12) Try.func12 rfl (by decide) (by simp [spec_DaysCovered.con]) spec_DaysCovered.keep NN (fun _ => rfl) (fun x => spec_DaysCovered.body NN x)
end
end Go.Ev.Try

namespace Go.Ev.Try
open Go.Proofs Go.Pl
set_option linter.unusedVariables false
noncomputable section
def impl_within.con : Con := { ps := [(.val, (.int .i64)), (.val, (.int .i64)), (.val, (.int .i64))], rs := [(.val, .bool)], F := fun x => impl_within.f x.1 x.2.1 x.2.2 }
def impl_within.cs : List (FuncId × Con) := []
def impl_within.E : Env := envOf tab impl_within.cs 0 false
def impl_within.keep (i : Nat) : List Nat := []
set_option maxRecDepth 100000 in
theorem impl_within.body (n : Nat) (x : Int × Int × Int) : bodyF impl_within.E impl_within.keep n Try.f70 impl_within.con x = impl_within.fn n x.1 x.2.1 x.2.2 := by
  have h : bodyF impl_within.E impl_within.keep n Try.f70 impl_within.con x = impl_within.top x.1 x.2.1 x.2.2 := by kernel_rfl
  exact h
set_option maxRecDepth 100000 in
theorem impl_within.good : Good Try.prog 70 impl_within.con :=
  good_of tabok (cs := impl_within.cs) trivial 0 false (fn := Try.f70) Try.func70 rfl (by decide) (by simp [impl_within.con]) impl_within.keep NN (fun _ => rfl) (fun x => impl_within.body NN x)
end
end Go.Ev.Try

namespace Go.Ev.Try
open Go.Proofs Go.Pl
set_option linter.unusedVariables false
noncomputable section
def impl_isDay.con : Con := { ps := [(.val, (.int .i64))], rs := [(.val, .bool)], F := fun x => impl_isDay.f x }
def impl_isDay.cs : List (FuncId × Con) := [(70, impl_within.con)]
def impl_isDay.E : Env := envOf tab impl_isDay.cs 0 false
def impl_isDay.keep (i : Nat) : List Nat := []
set_option maxRecDepth 100000 in
theorem impl_isDay.body (n : Nat) (x : Int) : bodyF impl_isDay.E impl_isDay.keep n Try.f82 impl_isDay.con x = impl_isDay.fn n x := by
  have h : bodyF impl_isDay.E impl_isDay.keep n Try.f82 impl_isDay.con x = impl_isDay.top x := by kernel_rfl
  exact h
set_option maxRecDepth 100000 in
theorem impl_isDay.good : Good Try.prog 82 impl_isDay.con :=
  good_of tabok (cs := impl_isDay.cs) ⟨impl_within.good, trivial⟩ 0 false (fn := Try.f82) Try.func82 rfl (by decide) (by simp [impl_isDay.con]) impl_isDay.keep NN (fun _ => rfl) (fun x => impl_isDay.body NN x)
end
end Go.Ev.Try

namespace Go.Ev.Try
open Go.Proofs Go.Pl
set_option linter.unusedVariables false
noncomputable section
def impl_isCalibre.con : Con := { ps := [(.val, (.int .i64))], rs := [(.val, .bool)], F := fun x => impl_isCalibre.f x }
def impl_isCalibre.cs : List (FuncId × Con) := [(70, impl_within.con)]
def impl_isCalibre.E : Env := envOf tab impl_isCalibre.cs 0 false
def impl_isCalibre.keep (i : Nat) : List Nat := []
set_option maxRecDepth 100000 in
theorem impl_isCalibre.body (n : Nat) (x : Int) : bodyF impl_isCalibre.E impl_isCalibre.keep n Try.f94 impl_isCalibre.con x = impl_isCalibre.fn n x := by
  have h : bodyF impl_isCalibre.E impl_isCalibre.keep n Try.f94 impl_isCalibre.con x = impl_isCalibre.top x := by kernel_rfl
  exact h
set_option maxRecDepth 100000 in
theorem impl_isCalibre.good : Good Try.prog 94 impl_isCalibre.con :=
  good_of tabok (cs := impl_isCalibre.cs) ⟨impl_within.good, trivial⟩ 0 false (fn := Try.f94) Try.func94 rfl (by decide) (by simp [impl_isCalibre.con]) impl_isCalibre.keep NN (fun _ => rfl) (fun x => impl_isCalibre.body NN x)
end
end Go.Ev.Try

namespace Go.Ev.Try
open Go.Proofs Go.Pl
set_option linter.unusedVariables false
noncomputable section
def impl_allWithin.st2 (low1 : Int) (high2 : Int) (v9 : List Int) (v10 : Int) (v11 : Int) : St := ⟨[.gone, .dat (.int .i64) low1, .dat (.int .i64) high2, .gone, .gone, .gone, .gone, .gone, .gone, .dat (.sl 2 (.int .i64)) v9, .dat (.int .i64) v10, .dat (.int .i64) v11, .gone, .gone, .gone, .gone, .gone, .gone, .gone, .gone, .gone], []⟩
def impl_allWithin.con : Con := { ps := [(.val, (.sl 2 (.int .i64))), (.val, (.int .i64)), (.val, (.int .i64))], rs := [(.val, .bool)], F := fun x => impl_allWithin.f x.1 x.2.1 x.2.2 }
def impl_allWithin.cs : List (FuncId × Con) := [(70, impl_within.con)]
def impl_allWithin.E : Env := envOf tab impl_allWithin.cs 0 false
def impl_allWithin.keep (i : Nat) : List Nat := if i = 2 then [1, 2, 9, 10, 11] else []
def impl_allWithin.at2 (n : Nat) (x : List Int × Int × Int) : Code × (Ex → St → Option (Bool)) := ctx impl_allWithin.E impl_allWithin.keep n [.snd, .fst, .snd, .blk] (codeOf Try.f95) (kEnd impl_allWithin.E Try.f95 impl_allWithin.con x)
def impl_allWithin.LN2 (n : Nat) (x : List Int × Int × Int) : Nat → St → Option (Bool) := loopN (exec impl_allWithin.E impl_allWithin.keep n (bodyOf (impl_allWithin.at2 n x).1)) (St.norm 0 (impl_allWithin.keep 2)) (impl_allWithin.at2 n x).2
set_option maxRecDepth 100000 in
theorem impl_allWithin.lem2 (n : Nat) (x : List Int × Int × Int) : ∀ (k : Nat) (low1 : Int) (high2 : Int) (v9 : List Int) (v10 : Int) (v11 : Int), impl_allWithin.LN2 n x k (impl_allWithin.st2 low1 high2 v9 v10 v11) = impl_allWithin.l2 n k low1 high2 v9 v10 v11 := by
  intro k
  induction k with
  | zero => intro low1 high2 v9 v10 v11; rfl
  | succ k ih =>
    intro low1 high2 v9 v10 v11
    have h : impl_allWithin.LN2 n x (k + 1) (impl_allWithin.st2 low1 high2 v9 v10 v11) = impl_allWithin.g2 (fun low1 high2 v9 v10 v11 => impl_allWithin.LN2 n x k (impl_allWithin.st2 low1 high2 v9 v10 v11)) low1 high2 v9 v10 v11 := by kernel_rfl
    rw [h]
    simp only [ih]
    rfl
set_option maxRecDepth 100000 in
theorem impl_allWithin.body (n : Nat) (x : List Int × Int × Int) : bodyF impl_allWithin.E impl_allWithin.keep n Try.f95 impl_allWithin.con x = impl_allWithin.fn n x.1 x.2.1 x.2.2 := by
  have h : bodyF impl_allWithin.E impl_allWithin.keep n Try.f95 impl_allWithin.con x = impl_allWithin.top (fun low1 high2 v9 v10 v11 => impl_allWithin.LN2 n x n (impl_allWithin.st2 low1 high2 v9 v10 v11)) x.1 x.2.1 x.2.2 := by kernel_rfl
  rw [h]
  simp only [impl_allWithin.lem2]
  rfl
set_option maxRecDepth 100000 in
theorem impl_allWithin.good : Good Try.prog 95 impl_allWithin.con :=
  good_of tabok (cs := impl_allWithin.cs) ⟨impl_within.good, trivial⟩ 0 false (fn := Try.f95) Try.func95 rfl (by decide) (by simp [impl_allWithin.con]) impl_allWithin.keep NN (fun _ => rfl) (fun x => impl_allWithin.body NN x)
end
end Go.Ev.Try

namespace Go.Ev.Try
open Go.Proofs Go.Pl
set_option linter.unusedVariables false
noncomputable section
def impl_IsPermit.st4 (i3 : Int) (p1 : Int × Int × Int × Int × List Int × Int) : St := ⟨[.gone, .ptr 0 [], .gone, .dat (.int .i64) i3, .gone, .gone, .gone, .gone, .gone, .gone, .gone, .gone, .gone, .gone, .gone, .gone, .gone, .gone, .gone, .gone, .gone, .gone, .gone, .gone, .gone, .gone, .gone, .gone, .gone, .gone, .gone, .gone, .gone, .gone, .gone, .gone, .gone, .gone, .gone, .gone, .gone, .gone, .gone, .gone, .gone, .gone, .gone, .gone, .gone, .gone, .gone, .gone, .gone, .gone, .gone, .gone, .gone, .gone, .gone, .gone, .gone, .gone, .gone, .gone], [.box 42 (.pair (.int .i64) (.pair (.int .i64) (.pair (.int .i64) (.pair (.int .i64) (.pair (.sl 2 (.int .i64)) (.int .i64)))))) (.dat (.pair (.int .i64) (.pair (.int .i64) (.pair (.int .i64) (.pair (.int .i64) (.pair (.sl 2 (.int .i64)) (.int .i64)))))) p1)]⟩
def impl_IsPermit.con : Con := { ps := [(.val, (.pair (.int .i64) (.pair (.int .i64) (.pair (.int .i64) (.pair (.int .i64) (.pair (.sl 2 (.int .i64)) (.int .i64)))))))], rs := [(.val, .bool)], F := fun x => impl_IsPermit.f x }
def impl_IsPermit.cs : List (FuncId × Con) := [(70, impl_within.con), (82, impl_isDay.con), (94, impl_isCalibre.con), (95, impl_allWithin.con)]
def impl_IsPermit.E : Env := envOf tab impl_IsPermit.cs 0 false
def impl_IsPermit.keep (i : Nat) : List Nat := if i = 4 then [1, 3] else []
def impl_IsPermit.at4 (n : Nat) (x : Int × Int × Int × Int × List Int × Int) : Code × (Ex → St → Option (Bool)) := ctx impl_IsPermit.E impl_IsPermit.keep n [.snd, .snd, .fst, .snd, .blk] (codeOf Try.f52) (kEnd impl_IsPermit.E Try.f52 impl_IsPermit.con x)
def impl_IsPermit.LN4 (n : Nat) (x : Int × Int × Int × Int × List Int × Int) : Nat → St → Option (Bool) := loopN (exec impl_IsPermit.E impl_IsPermit.keep n (bodyOf (impl_IsPermit.at4 n x).1)) (St.norm 0 (impl_IsPermit.keep 4)) (impl_IsPermit.at4 n x).2
set_option maxRecDepth 100000 in
theorem impl_IsPermit.lem4 (n : Nat) (x : Int × Int × Int × Int × List Int × Int) : ∀ (k : Nat) (i3 : Int) (p1 : Int × Int × Int × Int × List Int × Int), impl_IsPermit.LN4 n x k (impl_IsPermit.st4 i3 p1) = impl_IsPermit.l4 n k i3 p1 := by
  intro k
  induction k with
  | zero => intro i3 p1; rfl
  | succ k ih =>
    intro i3 p1
    have h : impl_IsPermit.LN4 n x (k + 1) (impl_IsPermit.st4 i3 p1) = impl_IsPermit.g4 (fun i3 p1 => impl_IsPermit.LN4 n x k (impl_IsPermit.st4 i3 p1)) i3 p1 := by kernel_rfl
    rw [h]
    simp only [ih]
    rfl
set_option maxRecDepth 100000 in
theorem impl_IsPermit.body (n : Nat) (x : Int × Int × Int × Int × List Int × Int) : bodyF impl_IsPermit.E impl_IsPermit.keep n Try.f52 impl_IsPermit.con x = impl_IsPermit.fn n x := by
  have h : bodyF impl_IsPermit.E impl_IsPermit.keep n Try.f52 impl_IsPermit.con x = impl_IsPermit.top (fun i3 p1 => impl_IsPermit.LN4 n x n (impl_IsPermit.st4 i3 p1)) x := by kernel_rfl
  rw [h]
  simp only [impl_IsPermit.lem4]
  rfl
set_option maxRecDepth 100000 in
theorem impl_IsPermit.good : Good Try.prog 52 impl_IsPermit.con :=
  good_of tabok (cs := impl_IsPermit.cs) ⟨impl_within.good, impl_isDay.good, impl_isCalibre.good, impl_allWithin.good, trivial⟩ 0 false (fn := Try.f52) Try.func52 rfl (by decide) (by simp [impl_IsPermit.con]) impl_IsPermit.keep NN (fun _ => rfl) (fun x => impl_IsPermit.body NN x)
end
end Go.Ev.Try

namespace Go.Ev.Try
open Go.Proofs Go.Pl
set_option linter.unusedVariables false
noncomputable section
def impl_arePermits.st4 (v8 : List (Int × Int × Int × Int × List Int × Int)) (v9 : Int) (v10 : Int) : St := ⟨[.gone, .gone, .gone, .gone, .gone, .gone, .gone, .gone, .dat (.sl 42 (.pair (.int .i64) (.pair (.int .i64) (.pair (.int .i64) (.pair (.int .i64) (.pair (.sl 2 (.int .i64)) (.int .i64))))))) v8, .dat (.int .i64) v9, .dat (.int .i64) v10, .gone, .gone, .gone, .gone, .gone, .gone, .gone], []⟩
def impl_arePermits.con : Con := { ps := [(.val, (.sl 42 (.pair (.int .i64) (.pair (.int .i64) (.pair (.int .i64) (.pair (.int .i64) (.pair (.sl 2 (.int .i64)) (.int .i64))))))))], rs := [(.val, .bool)], F := fun x => impl_arePermits.f x }
def impl_arePermits.cs : List (FuncId × Con) := [(52, impl_IsPermit.con)]
def impl_arePermits.E : Env := envOf tab impl_arePermits.cs 0 false
def impl_arePermits.keep (i : Nat) : List Nat := if i = 4 then [8, 9, 10] else []
def impl_arePermits.at4 (n : Nat) (x : List (Int × Int × Int × Int × List Int × Int)) : Code × (Ex → St → Option (Bool)) := ctx impl_arePermits.E impl_arePermits.keep n [.snd, .snd, .fst, .snd, .blk] (codeOf Try.f60) (kEnd impl_arePermits.E Try.f60 impl_arePermits.con x)
def impl_arePermits.LN4 (n : Nat) (x : List (Int × Int × Int × Int × List Int × Int)) : Nat → St → Option (Bool) := loopN (exec impl_arePermits.E impl_arePermits.keep n (bodyOf (impl_arePermits.at4 n x).1)) (St.norm 0 (impl_arePermits.keep 4)) (impl_arePermits.at4 n x).2
set_option maxRecDepth 100000 in
theorem impl_arePermits.lem4 (n : Nat) (x : List (Int × Int × Int × Int × List Int × Int)) : ∀ (k : Nat) (v8 : List (Int × Int × Int × Int × List Int × Int)) (v9 : Int) (v10 : Int), impl_arePermits.LN4 n x k (impl_arePermits.st4 v8 v9 v10) = impl_arePermits.l4 n k v8 v9 v10 := by
  intro k
  induction k with
  | zero => intro v8 v9 v10; rfl
  | succ k ih =>
    intro v8 v9 v10
    have h : impl_arePermits.LN4 n x (k + 1) (impl_arePermits.st4 v8 v9 v10) = impl_arePermits.g4 (fun v8 v9 v10 => impl_arePermits.LN4 n x k (impl_arePermits.st4 v8 v9 v10)) v8 v9 v10 := by kernel_rfl
    rw [h]
    simp only [ih]
    rfl
set_option maxRecDepth 100000 in
theorem impl_arePermits.body (n : Nat) (x : List (Int × Int × Int × Int × List Int × Int)) : bodyF impl_arePermits.E impl_arePermits.keep n Try.f60 impl_arePermits.con x = impl_arePermits.fn n x := by
  have h : bodyF impl_arePermits.E impl_arePermits.keep n Try.f60 impl_arePermits.con x = impl_arePermits.top (fun v8 v9 v10 => impl_arePermits.LN4 n x n (impl_arePermits.st4 v8 v9 v10)) x := by kernel_rfl
  rw [h]
  simp only [impl_arePermits.lem4]
  rfl
set_option maxRecDepth 100000 in
theorem impl_arePermits.good : Good Try.prog 60 impl_arePermits.con :=
  good_of tabok (cs := impl_arePermits.cs) ⟨impl_IsPermit.good, trivial⟩ 0 false (fn := Try.f60) Try.func60 rfl (by decide) (by simp [impl_arePermits.con]) impl_arePermits.keep NN (fun _ => rfl) (fun x => impl_arePermits.body NN x)
end
end Go.Ev.Try

namespace Go.Ev.Try
open Go.Proofs Go.Pl
set_option linter.unusedVariables false
noncomputable section
def impl_areDays.con : Con := { ps := [(.val, (.int .i64)), (.val, (.int .i64))], rs := [(.val, .bool)], F := fun x => impl_areDays.f x.1 x.2 }
def impl_areDays.cs : List (FuncId × Con) := [(82, impl_isDay.con)]
def impl_areDays.E : Env := envOf tab impl_areDays.cs 0 false
def impl_areDays.keep (i : Nat) : List Nat := []
set_option maxRecDepth 100000 in
theorem impl_areDays.body (n : Nat) (x : Int × Int) : bodyF impl_areDays.E impl_areDays.keep n Try.f61 impl_areDays.con x = impl_areDays.fn n x.1 x.2 := by
  have h : bodyF impl_areDays.E impl_areDays.keep n Try.f61 impl_areDays.con x = impl_areDays.top x.1 x.2 := by kernel_rfl
  exact h
set_option maxRecDepth 100000 in
theorem impl_areDays.good : Good Try.prog 61 impl_areDays.con :=
  good_of tabok (cs := impl_areDays.cs) ⟨impl_isDay.good, trivial⟩ 0 false (fn := Try.f61) Try.func61 rfl (by decide) (by simp [impl_areDays.con]) impl_areDays.keep NN (fun _ => rfl) (fun x => impl_areDays.body NN x)
end
end Go.Ev.Try

namespace Go.Ev.Try
open Go.Proofs Go.Pl
set_option linter.unusedVariables false
noncomputable section
def impl_covers.st4 (permits0 : List (Int × Int × Int × Int × List Int × Int)) (from1 : Int) (to2 : Int) (next7 : Int) (v14 : List (Int × Int × Int × Int × List Int × Int)) (v15 : Int) (v16 : Int) : St := ⟨[.dat (.sl 42 (.pair (.int .i64) (.pair (.int .i64) (.pair (.int .i64) (.pair (.int .i64) (.pair (.sl 2 (.int .i64)) (.int .i64))))))) permits0, .dat (.int .i64) from1, .dat (.int .i64) to2, .gone, .gone, .gone, .gone, .dat (.int .i64) next7, .gone, .gone, .gone, .gone, .gone, .gone, .dat (.sl 42 (.pair (.int .i64) (.pair (.int .i64) (.pair (.int .i64) (.pair (.int .i64) (.pair (.sl 2 (.int .i64)) (.int .i64))))))) v14, .dat (.int .i64) v15, .dat (.int .i64) v16, .gone, .gone, .gone, .gone, .gone, .gone, .gone, .gone, .gone, .gone, .gone, .gone, .gone, .gone, .gone, .gone, .gone, .gone, .gone], []⟩
def impl_covers.st1 (permits0 : List (Int × Int × Int × Int × List Int × Int)) (from1 : Int) (to2 : Int) : St := ⟨[.dat (.sl 42 (.pair (.int .i64) (.pair (.int .i64) (.pair (.int .i64) (.pair (.int .i64) (.pair (.sl 2 (.int .i64)) (.int .i64))))))) permits0, .dat (.int .i64) from1, .dat (.int .i64) to2, .gone, .gone, .gone, .gone, .gone, .gone, .gone, .gone, .gone, .gone, .gone, .gone, .gone, .gone, .gone, .gone, .gone, .gone, .gone, .gone, .gone, .gone, .gone, .gone, .gone, .gone, .gone, .gone, .gone, .gone, .gone, .gone, .gone], []⟩
def impl_covers.con : Con := { ps := [(.val, (.sl 42 (.pair (.int .i64) (.pair (.int .i64) (.pair (.int .i64) (.pair (.int .i64) (.pair (.sl 2 (.int .i64)) (.int .i64)))))))), (.val, (.int .i64)), (.val, (.int .i64))], rs := [(.val, .bool)], F := fun x => impl_covers.f x.1 x.2.1 x.2.2 }
def impl_covers.cs : List (FuncId × Con) := [(70, impl_within.con)]
def impl_covers.E : Env := envOf tab impl_covers.cs 0 false
def impl_covers.keep (i : Nat) : List Nat := if i = 4 then [0, 1, 2, 7, 14, 15, 16] else if i = 1 then [0, 1, 2] else []
def impl_covers.at4 (n : Nat) (x : (List (Int × Int × Int × Int × List Int × Int)) × Int × Int) (M1 : St → Option (Bool)) : Code × (Ex → St → Option (Bool)) := ctx impl_covers.E impl_covers.keep n [.snd, .fst, .blk, .rd M1, .snd, .blk, .snd, .fst, .snd, .blk] (codeOf Try.f62) (kEnd impl_covers.E Try.f62 impl_covers.con x)
def impl_covers.LN4 (n : Nat) (x : (List (Int × Int × Int × Int × List Int × Int)) × Int × Int) (M1 : St → Option (Bool)) : Nat → St → Option (Bool) := loopN (exec impl_covers.E impl_covers.keep n (bodyOf (impl_covers.at4 n x M1).1)) (St.norm 0 (impl_covers.keep 4)) (impl_covers.at4 n x M1).2
def impl_covers.at1 (n : Nat) (x : (List (Int × Int × Int × Int × List Int × Int)) × Int × Int) : Code × (Ex → St → Option (Bool)) := ctx impl_covers.E impl_covers.keep n [.snd, .fst, .blk] (codeOf Try.f62) (kEnd impl_covers.E Try.f62 impl_covers.con x)
def impl_covers.LN1 (n : Nat) (x : (List (Int × Int × Int × Int × List Int × Int)) × Int × Int) : Nat → St → Option (Bool) := loopN (exec impl_covers.E impl_covers.keep n (bodyOf (impl_covers.at1 n x).1)) (St.norm 0 (impl_covers.keep 1)) (impl_covers.at1 n x).2
set_option maxRecDepth 100000 in
theorem impl_covers.lem4 (n : Nat) (x : (List (Int × Int × Int × Int × List Int × Int)) × Int × Int) (M1 : St → Option (Bool)) : ∀ (k : Nat) (permits0 : List (Int × Int × Int × Int × List Int × Int)) (from1 : Int) (to2 : Int) (next7 : Int) (v14 : List (Int × Int × Int × Int × List Int × Int)) (v15 : Int) (v16 : Int), impl_covers.LN4 n x M1 k (impl_covers.st4 permits0 from1 to2 next7 v14 v15 v16) = impl_covers.l4 n (fun permits0 from1 to2 => M1 (impl_covers.st1 permits0 from1 to2)) k permits0 from1 to2 next7 v14 v15 v16 := by
  intro k
  induction k with
  | zero => intro permits0 from1 to2 next7 v14 v15 v16; rfl
  | succ k ih =>
    intro permits0 from1 to2 next7 v14 v15 v16
    have h : impl_covers.LN4 n x M1 (k + 1) (impl_covers.st4 permits0 from1 to2 next7 v14 v15 v16) = impl_covers.g4 (fun permits0 from1 to2 => M1 (impl_covers.st1 permits0 from1 to2)) (fun permits0 from1 to2 next7 v14 v15 v16 => impl_covers.LN4 n x M1 k (impl_covers.st4 permits0 from1 to2 next7 v14 v15 v16)) permits0 from1 to2 next7 v14 v15 v16 := by kernel_rfl
    rw [h]
    simp only [ih]
    rfl
set_option maxRecDepth 100000 in
theorem impl_covers.lem1 (n : Nat) (x : (List (Int × Int × Int × Int × List Int × Int)) × Int × Int) : ∀ (k : Nat) (permits0 : List (Int × Int × Int × Int × List Int × Int)) (from1 : Int) (to2 : Int), impl_covers.LN1 n x k (impl_covers.st1 permits0 from1 to2) = impl_covers.l1 n k permits0 from1 to2 := by
  intro k
  induction k with
  | zero => intro permits0 from1 to2; rfl
  | succ k ih =>
    intro permits0 from1 to2
    have h : impl_covers.LN1 n x (k + 1) (impl_covers.st1 permits0 from1 to2) = impl_covers.g1 (fun permits0 from1 to2 next7 v14 v15 v16 => impl_covers.LN4 n x (impl_covers.LN1 n x k) n (impl_covers.st4 permits0 from1 to2 next7 v14 v15 v16)) (fun permits0 from1 to2 => impl_covers.LN1 n x k (impl_covers.st1 permits0 from1 to2)) permits0 from1 to2 := by kernel_rfl
    rw [h]
    simp only [ih, impl_covers.lem4]
    rfl
set_option maxRecDepth 100000 in
theorem impl_covers.body (n : Nat) (x : (List (Int × Int × Int × Int × List Int × Int)) × Int × Int) : bodyF impl_covers.E impl_covers.keep n Try.f62 impl_covers.con x = impl_covers.fn n x.1 x.2.1 x.2.2 := by
  have h : bodyF impl_covers.E impl_covers.keep n Try.f62 impl_covers.con x = impl_covers.top (fun permits0 from1 to2 => impl_covers.LN1 n x n (impl_covers.st1 permits0 from1 to2)) x.1 x.2.1 x.2.2 := by kernel_rfl
  rw [h]
  simp only [impl_covers.lem1]
  rfl
set_option maxRecDepth 100000 in
theorem impl_covers.good : Good Try.prog 62 impl_covers.con :=
  good_of tabok (cs := impl_covers.cs) ⟨impl_within.good, trivial⟩ 0 false (fn := Try.f62) Try.func62 rfl (by decide) (by simp [impl_covers.con]) impl_covers.keep NN (fun _ => rfl) (fun x => impl_covers.body NN x)
end
end Go.Ev.Try

namespace Go.Ev.Try
open Go.Proofs Go.Pl
set_option linter.unusedVariables false
noncomputable section
def impl_DaysCovered.st7 (permits0 : List (Int × Int × Int × Int × List Int × Int)) (to2 : Int) (count8 : Int) (day9 : Int) : St := ⟨[.dat (.sl 42 (.pair (.int .i64) (.pair (.int .i64) (.pair (.int .i64) (.pair (.int .i64) (.pair (.sl 2 (.int .i64)) (.int .i64))))))) permits0, .gone, .dat (.int .i64) to2, .gone, .gone, .gone, .gone, .gone, .dat (.int .i64) count8, .dat (.int .i64) day9, .gone, .gone, .gone, .gone, .gone, .gone, .gone, .gone, .gone, .gone, .gone, .gone, .gone, .gone, .gone, .gone, .gone, .gone, .gone, .gone], []⟩
def impl_DaysCovered.con : Con := { ps := [(.val, (.sl 42 (.pair (.int .i64) (.pair (.int .i64) (.pair (.int .i64) (.pair (.int .i64) (.pair (.sl 2 (.int .i64)) (.int .i64)))))))), (.val, (.int .i64)), (.val, (.int .i64))], rs := [(.val, (.int .i64)), (.val, (.int .i64))], F := fun x => impl_DaysCovered.f x.1 x.2.1 x.2.2 }
def impl_DaysCovered.cs : List (FuncId × Con) := [(60, impl_arePermits.con), (61, impl_areDays.con), (62, impl_covers.con)]
def impl_DaysCovered.E : Env := envOf tab impl_DaysCovered.cs 0 false
def impl_DaysCovered.keep (i : Nat) : List Nat := if i = 7 then [0, 2, 8, 9] else []
def impl_DaysCovered.at7 (n : Nat) (x : (List (Int × Int × Int × Int × List Int × Int)) × Int × Int) : Code × (Ex → St → Option ((Int × Int))) := ctx impl_DaysCovered.E impl_DaysCovered.keep n [.snd, .snd, .snd, .snd, .fst, .snd, .blk] (codeOf Try.f14) (kEnd impl_DaysCovered.E Try.f14 impl_DaysCovered.con x)
def impl_DaysCovered.LN7 (n : Nat) (x : (List (Int × Int × Int × Int × List Int × Int)) × Int × Int) : Nat → St → Option ((Int × Int)) := loopN (exec impl_DaysCovered.E impl_DaysCovered.keep n (bodyOf (impl_DaysCovered.at7 n x).1)) (St.norm 0 (impl_DaysCovered.keep 7)) (impl_DaysCovered.at7 n x).2
set_option maxRecDepth 100000 in
theorem impl_DaysCovered.lem7 (n : Nat) (x : (List (Int × Int × Int × Int × List Int × Int)) × Int × Int) : ∀ (k : Nat) (permits0 : List (Int × Int × Int × Int × List Int × Int)) (to2 : Int) (count8 : Int) (day9 : Int), impl_DaysCovered.LN7 n x k (impl_DaysCovered.st7 permits0 to2 count8 day9) = impl_DaysCovered.l7 n k permits0 to2 count8 day9 := by
  intro k
  induction k with
  | zero => intro permits0 to2 count8 day9; rfl
  | succ k ih =>
    intro permits0 to2 count8 day9
    have h : impl_DaysCovered.LN7 n x (k + 1) (impl_DaysCovered.st7 permits0 to2 count8 day9) = impl_DaysCovered.g7 (fun permits0 to2 count8 day9 => impl_DaysCovered.LN7 n x k (impl_DaysCovered.st7 permits0 to2 count8 day9)) permits0 to2 count8 day9 := by kernel_rfl
    rw [h]
    simp only [ih]
    rfl
set_option maxRecDepth 100000 in
theorem impl_DaysCovered.body (n : Nat) (x : (List (Int × Int × Int × Int × List Int × Int)) × Int × Int) : bodyF impl_DaysCovered.E impl_DaysCovered.keep n Try.f14 impl_DaysCovered.con x = impl_DaysCovered.fn n x.1 x.2.1 x.2.2 := by
  have h : bodyF impl_DaysCovered.E impl_DaysCovered.keep n Try.f14 impl_DaysCovered.con x = impl_DaysCovered.top (fun permits0 to2 count8 day9 => impl_DaysCovered.LN7 n x n (impl_DaysCovered.st7 permits0 to2 count8 day9)) x.1 x.2.1 x.2.2 := by kernel_rfl
  rw [h]
  simp only [impl_DaysCovered.lem7]
  rfl
set_option maxRecDepth 100000 in
theorem impl_DaysCovered.good : Good Try.prog 14 impl_DaysCovered.con :=
  good_of tabok (cs := impl_DaysCovered.cs) ⟨impl_arePermits.good, impl_areDays.good, impl_covers.good, trivial⟩ 0 false (fn := Try.f14) Try.func14 rfl (by decide) (by simp [impl_DaysCovered.con]) impl_DaysCovered.keep NN (fun _ => rfl) (fun x => impl_DaysCovered.body NN x)
end
end Go.Ev.Try

namespace Go.Ev.Try
open Go.Proofs Go.Pl
set_option linter.unusedVariables false
noncomputable section
def laws_big.con : Con := { ps := [(.val, (.sl 5 (.int .u8)))], rs := [(.val, .bool)], F := fun x => laws_big.f x }
def laws_big.cs : List (FuncId × Con) := []
def laws_big.E : Env := envOf tab laws_big.cs 0 false
def laws_big.keep (i : Nat) : List Nat := []
set_option maxRecDepth 100000 in
theorem laws_big.body (n : Nat) (x : List Int) : bodyF laws_big.E laws_big.keep n Try.f16 laws_big.con x = laws_big.fn n x := by
  have h : bodyF laws_big.E laws_big.keep n Try.f16 laws_big.con x = laws_big.top x := by kernel_rfl
  exact h
set_option maxRecDepth 100000 in
theorem laws_big.good : Good Try.prog 16 laws_big.con :=
  good_of tabok (cs := laws_big.cs) trivial 0 false (fn := Try.f16) Try.func16 rfl (by decide) (by simp [laws_big.con]) laws_big.keep NN (fun _ => rfl) (fun x => laws_big.body NN x)
end
end Go.Ev.Try

namespace Go.Ev.Try
open Go.Proofs Go.Pl
set_option linter.unusedVariables false
noncomputable section
def spec_l01From.st3 (code0 : List Int) (i4 : Int) (s3a : List Int) (s3ba : Int) (s3bb : Int) : St := ⟨[.dat (.sl 5 (.int .u8)) code0, .gone, .gone, .ptr 0 [], .dat (.int .i64) i4, .gone, .gone, .gone, .gone, .gone, .gone, .gone, .gone, .gone, .gone, .gone, .gone, .gone, .gone, .gone, .gone, .gone, .gone, .gone, .gone, .gone, .gone, .gone, .gone, .gone, .gone, .gone, .gone, .gone], [.box 112 (.pair (.sl 5 (.int .u8)) (.pair (.int .i64) (.int .i64))) (.pr (.dat (.sl 5 (.int .u8)) s3a) (.pr (.dat (.int .i64) s3ba) (.dat (.int .i64) s3bb)))]⟩
def spec_l01From.con : Con := { ps := [(.val, (.sl 5 (.int .u8)))], rs := [(.bx 112, (.pair (.sl 5 (.int .u8)) (.pair (.int .i64) (.int .i64))))], F := fun x => spec_l01From.f x }
def spec_l01From.cs : List (FuncId × Con) := []
def spec_l01From.E : Env := envOf tab spec_l01From.cs 0 false
def spec_l01From.keep (i : Nat) : List Nat := if i = 3 then [0, 3, 4] else []
def spec_l01From.at3 (n : Nat) (x : List Int) : Code × (Ex → St → Option ((List Int × Int × Int))) := ctx spec_l01From.E spec_l01From.keep n [.snd, .snd, .fst, .snd, .blk] (codeOf Try.f64) (kEnd spec_l01From.E Try.f64 spec_l01From.con x)
def spec_l01From.LN3 (n : Nat) (x : List Int) : Nat → St → Option ((List Int × Int × Int)) := loopN (exec spec_l01From.E spec_l01From.keep n (bodyOf (spec_l01From.at3 n x).1)) (St.norm 0 (spec_l01From.keep 3)) (spec_l01From.at3 n x).2
set_option maxRecDepth 100000 in
theorem spec_l01From.lem3 (n : Nat) (x : List Int) : ∀ (k : Nat) (code0 : List Int) (i4 : Int) (s3a : List Int) (s3ba : Int) (s3bb : Int), spec_l01From.LN3 n x k (spec_l01From.st3 code0 i4 s3a s3ba s3bb) = spec_l01From.l3 n k code0 i4 s3a s3ba s3bb := by
  intro k
  induction k with
  | zero => intro code0 i4 s3a s3ba s3bb; rfl
  | succ k ih =>
    intro code0 i4 s3a s3ba s3bb
    have h : spec_l01From.LN3 n x (k + 1) (spec_l01From.st3 code0 i4 s3a s3ba s3bb) = spec_l01From.g3 (fun code0 i4 s3a s3ba s3bb => spec_l01From.LN3 n x k (spec_l01From.st3 code0 i4 s3a s3ba s3bb)) code0 i4 s3a s3ba s3bb := by kernel_rfl
    rw [h]
    simp only [ih]
    rfl
set_option maxRecDepth 100000 in
theorem spec_l01From.body (n : Nat) (x : List Int) : bodyF spec_l01From.E spec_l01From.keep n Try.f64 spec_l01From.con x = spec_l01From.fn n x := by
  have h : bodyF spec_l01From.E spec_l01From.keep n Try.f64 spec_l01From.con x = spec_l01From.top (fun code0 i4 s3a s3ba s3bb => spec_l01From.LN3 n x n (spec_l01From.st3 code0 i4 s3a s3ba s3bb)) x := by kernel_rfl
  rw [h]
  simp only [spec_l01From.lem3]
  rfl
set_option maxRecDepth 100000 in
theorem spec_l01From.good : Good Try.prog 64 spec_l01From.con :=
  good_of tabok (cs := spec_l01From.cs) trivial 0 false (fn := Try.f64) Try.func64 rfl (by decide) (by simp [spec_l01From.con]) spec_l01From.keep NN (fun _ => rfl) (fun x => spec_l01From.body NN x)
end
end Go.Ev.Try

namespace Go.Ev.Try
open Go.Proofs Go.Pl
set_option linter.unusedVariables false
noncomputable section
def spec_l01Next.con : Con := { ps := [(.bx 112, (.pair (.sl 5 (.int .u8)) (.pair (.int .i64) (.int .i64)))), (.val, (.int .i64))], rs := [(.val, (.int .i64))], F := fun x => spec_l01Next.f x.1 x.2 }
def spec_l01Next.cs : List (FuncId × Con) := []
def spec_l01Next.E : Env := envOf tab spec_l01Next.cs 1 false
def spec_l01Next.keep (i : Nat) : List Nat := []
set_option maxRecDepth 100000 in
theorem spec_l01Next.body (n : Nat) (x : (List Int × Int × Int) × Int) : bodyF spec_l01Next.E spec_l01Next.keep n Try.f66 spec_l01Next.con x = spec_l01Next.fn n x.1 x.2 := by
  have h : bodyF spec_l01Next.E spec_l01Next.keep n Try.f66 spec_l01Next.con x = spec_l01Next.top x.1 x.2 := by kernel_rfl
  exact h
set_option maxRecDepth 100000 in
theorem spec_l01Next.good : Good Try.prog 66 spec_l01Next.con :=
  good_of tabok (cs := spec_l01Next.cs) trivial 1 false (fn := Try.f66) Try.func66 rfl (by decide) (by simp [spec_l01Next.con]) spec_l01Next.keep NN (fun _ => rfl) (fun x => spec_l01Next.body NN x)
end
end Go.Ev.Try

namespace Go.Ev.Try
open Go.Proofs Go.Pl
set_option linter.unusedVariables false
noncomputable section
def spec_l01Pick.con : Con := { ps := [(.bx 112, (.pair (.sl 5 (.int .u8)) (.pair (.int .i64) (.int .i64)))), (.val, (.sl 2 (.int .i64)))], rs := [(.val, (.int .i64))], F := fun x => spec_l01Pick.f x.1 x.2 }
def spec_l01Pick.cs : List (FuncId × Con) := [(66, spec_l01Next.con)]
def spec_l01Pick.E : Env := envOf tab spec_l01Pick.cs 1 false
def spec_l01Pick.keep (i : Nat) : List Nat := []
set_option maxRecDepth 100000 in
theorem spec_l01Pick.body (n : Nat) (x : (List Int × Int × Int) × List Int) : bodyF spec_l01Pick.E spec_l01Pick.keep n Try.f92 spec_l01Pick.con x = spec_l01Pick.fn n x.1 x.2 := by
  have h : bodyF spec_l01Pick.E spec_l01Pick.keep n Try.f92 spec_l01Pick.con x = spec_l01Pick.top x.1 x.2 := by kernel_rfl
  exact h
set_option maxRecDepth 100000 in
theorem spec_l01Pick.good : Good Try.prog 92 spec_l01Pick.con :=
  good_of tabok (cs := spec_l01Pick.cs) ⟨spec_l01Next.good, trivial⟩ 1 false (fn := Try.f92) Try.func92 rfl (by decide) (by simp [spec_l01Pick.con]) spec_l01Pick.keep NN (fun _ => rfl) (fun x => spec_l01Pick.body NN x)
end
end Go.Ev.Try

namespace Go.Ev.Try
open Go.Proofs Go.Pl
set_option linter.unusedVariables false
noncomputable section
def spec_l30Good.st4 (kind4 : Int) (s0 : List Int × Int × Int) (v2a : Int) (v2ba : Int) (v2bba : Int) (v2bbba : Int) (v2bbbbb : Int) (p3a : Int) (p3ba : Int) (p3bba : Int) (p3bbba : Int) (p3bbbbb : Int) (w3 : List Int) (w4 : List Int) : St := ⟨[.ptr 0 [], .gone, .ptr 1 [], .ptr 2 [], .dat (.int .i64) kind4, .gone, .gone, .gone, .gone, .gone, .gone, .gone, .gone, .gone, .gone, .gone, .gone, .gone, .gone, .gone, .gone, .gone, .gone, .gone, .gone, .gone, .gone, .gone, .gone, .gone, .gone, .gone, .gone, .gone, .gone, .gone, .gone, .gone, .gone, .gone, .gone], [.box 112 (.pair (.sl 5 (.int .u8)) (.pair (.int .i64) (.int .i64))) (.dat (.pair (.sl 5 (.int .u8)) (.pair (.int .i64) (.int .i64))) s0), .box 42 (.pair (.int .i64) (.pair (.int .i64) (.pair (.int .i64) (.pair (.int .i64) (.pair (.sl 2 (.int .i64)) (.int .i64)))))) (.pr (.dat (.int .i64) v2a) (.pr (.dat (.int .i64) v2ba) (.pr (.dat (.int .i64) v2bba) (.pr (.dat (.int .i64) v2bbba) (.pr (.ref 3) (.dat (.int .i64) v2bbbbb)))))), .box 42 (.pair (.int .i64) (.pair (.int .i64) (.pair (.int .i64) (.pair (.int .i64) (.pair (.sl 2 (.int .i64)) (.int .i64)))))) (.pr (.dat (.int .i64) p3a) (.pr (.dat (.int .i64) p3ba) (.pr (.dat (.int .i64) p3bba) (.pr (.dat (.int .i64) p3bbba) (.pr (.ref 4) (.dat (.int .i64) p3bbbbb)))))), .row 2 (.int .i64) w3 none, .row 2 (.int .i64) w4 none]⟩
def spec_l30Good.topraw (I4 : Int → (List Int × Int × Int) → Int → Int → Int → Int → Int → Int → Int → Int → Int → Int → List Int → List Int → Option ((Int × Int × Int × Int × List Int × Int) × List Int × Int × Int)) (s0 : List Int × Int × Int) : Option ((Int × Int × Int × Int × List Int × Int) × List Int × Int × Int) :=
  (spec_l01Next.f s0 30).bind fun r1 =>
  (spec_l01Next.f r1.2 40000).bind fun r2 =>
  (spec_l01Pick.f r2.2 ([75, 150, 300])).bind fun r3 =>
  (spec_l01Next.f r3.2 4).bind fun r4 =>
  (spec_l01Pick.f r4.2 ([3, 3, r4.1])).bind fun r5 =>
  agree (
    (spec_l01Next.f r5.2 20).bind fun r6 =>
    I4 0 r6.2 0 0 0 0 0 (IntKind.i64.wrap (100 + r1.1)) (IntKind.i64.wrap ((IntKind.i64.wrap (100 + r1.1)) + r6.1)) (IntKind.i64.wrap (5000 + r2.1)) r3.1 r5.1 [] []
  ) (
    (spec_l01Next.f r5.2 20).bind fun r6 =>
    I4 0 r6.2 0 0 0 0 0 (IntKind.i64.wrap (100 + r1.1)) (IntKind.i64.wrap ((IntKind.i64.wrap (100 + r1.1)) + r6.1)) (IntKind.i64.wrap (5000 + r2.1)) r3.1 r5.1 [] []
  )
theorem spec_l30Good.topraw_eq (I4 : Int → (List Int × Int × Int) → Int → Int → Int → Int → Int → Int → Int → Int → Int → Int → List Int → List Int → Option ((Int × Int × Int × Int × List Int × Int) × List Int × Int × Int)) (s0 : List Int × Int × Int) : spec_l30Good.topraw I4 s0 = spec_l30Good.top I4 s0 := by
  unfold spec_l30Good.topraw spec_l30Good.top
  simp only [agree_self]
def spec_l30Good.con : Con := { ps := [(.bx 112, (.pair (.sl 5 (.int .u8)) (.pair (.int .i64) (.int .i64))))], rs := [(.own, (.pair (.int .i64) (.pair (.int .i64) (.pair (.int .i64) (.pair (.int .i64) (.pair (.sl 2 (.int .i64)) (.int .i64)))))))], F := fun x => spec_l30Good.f x }
def spec_l30Good.cs : List (FuncId × Con) := [(66, spec_l01Next.con), (92, spec_l01Pick.con)]
def spec_l30Good.E : Env := envOf tab spec_l30Good.cs 1 false
def spec_l30Good.keep (i : Nat) : List Nat := if i = 4 then [0, 2, 3, 4] else []
def spec_l30Good.at4 (n : Nat) (x : List Int × Int × Int) : Code × (Ex → St → Option (((Int × Int × Int × Int × List Int × Int) × List Int × Int × Int))) := ctx spec_l30Good.E spec_l30Good.keep n [.snd, .snd, .snd, .fst, .snd, .blk] (codeOf Try.f105) (kEnd spec_l30Good.E Try.f105 spec_l30Good.con x)
def spec_l30Good.LN4 (n : Nat) (x : List Int × Int × Int) : Nat → St → Option (((Int × Int × Int × Int × List Int × Int) × List Int × Int × Int)) := loopN (exec spec_l30Good.E spec_l30Good.keep n (bodyOf (spec_l30Good.at4 n x).1)) (St.norm 1 (spec_l30Good.keep 4)) (spec_l30Good.at4 n x).2
set_option maxRecDepth 100000 in
theorem spec_l30Good.lem4 (n : Nat) (x : List Int × Int × Int) : ∀ (k : Nat) (kind4 : Int) (s0 : List Int × Int × Int) (v2a : Int) (v2ba : Int) (v2bba : Int) (v2bbba : Int) (v2bbbbb : Int) (p3a : Int) (p3ba : Int) (p3bba : Int) (p3bbba : Int) (p3bbbbb : Int) (w3 : List Int) (w4 : List Int), spec_l30Good.LN4 n x k (spec_l30Good.st4 kind4 s0 v2a v2ba v2bba v2bbba v2bbbbb p3a p3ba p3bba p3bbba p3bbbbb w3 w4) = spec_l30Good.l4 n k kind4 s0 v2a v2ba v2bba v2bbba v2bbbbb p3a p3ba p3bba p3bbba p3bbbbb w3 w4 := by
  intro k
  induction k with
  | zero => intro kind4 s0 v2a v2ba v2bba v2bbba v2bbbbb p3a p3ba p3bba p3bbba p3bbbbb w3 w4; rfl
  | succ k ih =>
    intro kind4 s0 v2a v2ba v2bba v2bbba v2bbbbb p3a p3ba p3bba p3bbba p3bbbbb w3 w4
    have h : spec_l30Good.LN4 n x (k + 1) (spec_l30Good.st4 kind4 s0 v2a v2ba v2bba v2bbba v2bbbbb p3a p3ba p3bba p3bbba p3bbbbb w3 w4) = spec_l30Good.g4 (fun kind4 s0 v2a v2ba v2bba v2bbba v2bbbbb p3a p3ba p3bba p3bbba p3bbbbb w3 w4 => spec_l30Good.LN4 n x k (spec_l30Good.st4 kind4 s0 v2a v2ba v2bba v2bbba v2bbbbb p3a p3ba p3bba p3bbba p3bbbbb w3 w4)) kind4 s0 v2a v2ba v2bba v2bbba v2bbbbb p3a p3ba p3bba p3bbba p3bbbbb w3 w4 := by kernel_rfl
    rw [h]
    simp only [ih]
    rfl
set_option maxRecDepth 100000 in
theorem spec_l30Good.body (n : Nat) (x : List Int × Int × Int) : bodyF spec_l30Good.E spec_l30Good.keep n Try.f105 spec_l30Good.con x = spec_l30Good.fn n x := by
  have h : bodyF spec_l30Good.E spec_l30Good.keep n Try.f105 spec_l30Good.con x = spec_l30Good.topraw (fun kind4 s0 v2a v2ba v2bba v2bbba v2bbbbb p3a p3ba p3bba p3bbba p3bbbbb w3 w4 => spec_l30Good.LN4 n x n (spec_l30Good.st4 kind4 s0 v2a v2ba v2bba v2bbba v2bbbbb p3a p3ba p3bba p3bbba p3bbbbb w3 w4)) x := by kernel_rfl
  rw [spec_l30Good.topraw_eq] at h
  rw [h]
  simp only [spec_l30Good.lem4]
  rfl
set_option maxRecDepth 100000 in
theorem spec_l30Good.good : Good Try.prog 105 spec_l30Good.con :=
  good_of tabok (cs := spec_l30Good.cs) ⟨spec_l01Next.good, spec_l01Pick.good, trivial⟩ 1 false (fn := Try.f105) Try.func105 rfl (by decide) (by simp [spec_l30Good.con]) spec_l30Good.keep NN (fun _ => rfl) (fun x => spec_l30Good.body NN x)
end
end Go.Ev.Try

namespace Go.Ev.Try
open Go.Proofs Go.Pl
set_option linter.unusedVariables false
noncomputable section
def spec_l30Draw.topraw (s0 : List Int × Int × Int) : Option ((Int × Int × Int × Int × List Int × Int) × List Int × Int × Int) :=
  (spec_l30Good.f s0).bind fun r1 =>
  (spec_l01Next.f r1.2 40).bind fun r2 =>
  if ((r2.1 : Int) == 0) = true then
    (spec_l01Pick.f r2.2 ([IntKind.i64.wrap (r1.1.1 - 1), 100000, 100001])).bind fun r3 =>
    some ((r1.1.1, (r3.1, (r1.1.2.2.1, (r1.1.2.2.2.1, (r1.1.2.2.2.2.1, r1.1.2.2.2.2.2))))), r3.2)
  else if ((r2.1 : Int) == 1) = true then
    agree (
      (spec_l01Next.f r2.2 6).bind fun r4 =>
      if r1.1.2.2.2.2.1.length + ([r4.1]).length < room 8 then
        some ((r1.1.1, (r1.1.2.1, (r1.1.2.2.1, (r1.1.2.2.2.1, (r1.1.2.2.2.2.1 ++ ([r4.1]), r1.1.2.2.2.2.2))))), r4.2)
      else
        none
    ) (
      (spec_l01Next.f r2.2 6).bind fun r4 =>
      if r1.1.2.2.2.2.1.length + ([r4.1]).length < room 8 then
        some ((r1.1.1, (r1.1.2.1, (r1.1.2.2.1, (r1.1.2.2.2.1, (r1.1.2.2.2.2.1 ++ ([r4.1]), r1.1.2.2.2.2.2))))), r4.2)
      else
        none
    )
  else if ((r2.1 : Int) == 2) = true then
    (spec_l01Pick.f r2.2 ([(-1), 0, 1000000000, 1000000001])).bind fun r5 =>
    some ((r1.1.1, (r1.1.2.1, (r5.1, (r1.1.2.2.2.1, (r1.1.2.2.2.2.1, r1.1.2.2.2.2.2))))), r5.2)
  else
    some ((r1.1.1, (r1.1.2.1, (r1.1.2.2.1, (r1.1.2.2.2.1, (r1.1.2.2.2.2.1, r1.1.2.2.2.2.2))))), r2.2)
theorem spec_l30Draw.topraw_eq (s0 : List Int × Int × Int) : spec_l30Draw.topraw s0 = spec_l30Draw.top s0 := by
  unfold spec_l30Draw.topraw spec_l30Draw.top
  simp only [agree_self]
def spec_l30Draw.con : Con := { ps := [(.bx 112, (.pair (.sl 5 (.int .u8)) (.pair (.int .i64) (.int .i64))))], rs := [(.own, (.pair (.int .i64) (.pair (.int .i64) (.pair (.int .i64) (.pair (.int .i64) (.pair (.sl 2 (.int .i64)) (.int .i64)))))))], F := fun x => spec_l30Draw.f x }
def spec_l30Draw.cs : List (FuncId × Con) := [(66, spec_l01Next.con), (92, spec_l01Pick.con), (105, spec_l30Good.con)]
def spec_l30Draw.E : Env := envOf tab spec_l30Draw.cs 1 false
def spec_l30Draw.keep (i : Nat) : List Nat := []
set_option maxRecDepth 100000 in
theorem spec_l30Draw.body (n : Nat) (x : List Int × Int × Int) : bodyF spec_l30Draw.E spec_l30Draw.keep n Try.f89 spec_l30Draw.con x = spec_l30Draw.fn n x := by
  have h : bodyF spec_l30Draw.E spec_l30Draw.keep n Try.f89 spec_l30Draw.con x = spec_l30Draw.topraw x := by kernel_rfl
  rw [spec_l30Draw.topraw_eq] at h
  exact h
set_option maxRecDepth 100000 in
theorem spec_l30Draw.good : Good Try.prog 89 spec_l30Draw.con :=
  good_of tabok (cs := spec_l30Draw.cs) ⟨spec_l01Next.good, spec_l01Pick.good, spec_l30Good.good, trivial⟩ 1 false (fn := Try.f89) Try.func89 rfl (by decide) (by simp [spec_l30Draw.con]) spec_l30Draw.keep NN (fun _ => rfl) (fun x => spec_l30Draw.body NN x)
end
end Go.Ev.Try

namespace Go.Ev.Try
open Go.Proofs Go.Pl
set_option linter.unusedVariables false
noncomputable section
def spec_l30List.st8 (s0 : List Int × Int × Int) (out3 : List (Int × Int × Int × Int × List Int × Int)) (p5a : Int) (p5ba : Int) (p5bba : Int) (p5bbba : Int) (p5bbbba : List Int) (p5bbbbb : Int) : St := ⟨[.ptr 0 [], .gone, .gone, .ref 1, .gone, .ptr 2 [], .gone, .gone, .gone, .gone, .gone, .gone, .gone, .gone, .gone, .gone, .gone, .gone, .gone, .gone, .gone, .gone, .gone, .gone, .gone, .gone, .gone, .gone, .gone, .gone, .gone, .gone, .gone, .gone], [.box 112 (.pair (.sl 5 (.int .u8)) (.pair (.int .i64) (.int .i64))) (.dat (.pair (.sl 5 (.int .u8)) (.pair (.int .i64) (.int .i64))) s0), .row 42 (.pair (.int .i64) (.pair (.int .i64) (.pair (.int .i64) (.pair (.int .i64) (.pair (.sl 2 (.int .i64)) (.int .i64)))))) out3 none, .box 42 (.pair (.int .i64) (.pair (.int .i64) (.pair (.int .i64) (.pair (.int .i64) (.pair (.sl 2 (.int .i64)) (.int .i64)))))) (.pr (.dat (.int .i64) p5a) (.pr (.dat (.int .i64) p5ba) (.pr (.dat (.int .i64) p5bba) (.pr (.dat (.int .i64) p5bbba) (.pr (.dat (.sl 2 (.int .i64)) p5bbbba) (.dat (.int .i64) p5bbbbb))))))]⟩
def spec_l30List.st3 (n4 : Int) (s0 : List Int × Int × Int) (out3 : List (Int × Int × Int × Int × List Int × Int)) : St := ⟨[.ptr 0 [], .gone, .gone, .ref 1, .dat (.int .i64) n4, .gone, .gone, .gone, .gone, .gone, .gone, .gone, .gone, .gone, .gone, .gone, .gone, .gone, .gone, .gone, .gone, .gone, .gone, .gone, .gone, .gone, .gone, .gone, .gone, .gone, .gone, .gone, .gone, .gone], [.box 112 (.pair (.sl 5 (.int .u8)) (.pair (.int .i64) (.int .i64))) (.dat (.pair (.sl 5 (.int .u8)) (.pair (.int .i64) (.int .i64))) s0), .row 42 (.pair (.int .i64) (.pair (.int .i64) (.pair (.int .i64) (.pair (.int .i64) (.pair (.sl 2 (.int .i64)) (.int .i64)))))) out3 none]⟩
def spec_l30List.con : Con := { ps := [(.bx 112, (.pair (.sl 5 (.int .u8)) (.pair (.int .i64) (.int .i64))))], rs := [(.own, (.sl 42 (.pair (.int .i64) (.pair (.int .i64) (.pair (.int .i64) (.pair (.int .i64) (.pair (.sl 2 (.int .i64)) (.int .i64))))))))], F := fun x => spec_l30List.f x }
def spec_l30List.cs : List (FuncId × Con) := [(66, spec_l01Next.con), (89, spec_l30Draw.con), (105, spec_l30Good.con)]
def spec_l30List.E : Env := envOf tab spec_l30List.cs 1 false
def spec_l30List.keep (i : Nat) : List Nat := if i = 8 then [0, 3, 5, 100005] else if i = 3 then [0, 3, 4] else []
def spec_l30List.at8 (n : Nat) (x : List Int × Int × Int) : Code × (Ex → St → Option (((List (Int × Int × Int × Int × List Int × Int)) × List Int × Int × Int))) := ctx spec_l30List.E spec_l30List.keep n [.snd, .snd, .snd, .fst, .snd, .yes, .snd, .blk] (codeOf Try.f98) (kEnd spec_l30List.E Try.f98 spec_l30List.con x)
def spec_l30List.LN8 (n : Nat) (x : List Int × Int × Int) : Nat → St → Option (((List (Int × Int × Int × Int × List Int × Int)) × List Int × Int × Int)) := loopN (exec spec_l30List.E spec_l30List.keep n (bodyOf (spec_l30List.at8 n x).1)) (St.norm 1 (spec_l30List.keep 8)) (spec_l30List.at8 n x).2
def spec_l30List.at3 (n : Nat) (x : List Int × Int × Int) : Code × (Ex → St → Option (((List (Int × Int × Int × Int × List Int × Int)) × List Int × Int × Int))) := ctx spec_l30List.E spec_l30List.keep n [.snd, .snd, .fst, .snd, .blk] (codeOf Try.f98) (kEnd spec_l30List.E Try.f98 spec_l30List.con x)
def spec_l30List.LN3 (n : Nat) (x : List Int × Int × Int) : Nat → St → Option (((List (Int × Int × Int × Int × List Int × Int)) × List Int × Int × Int)) := loopN (exec spec_l30List.E spec_l30List.keep n (bodyOf (spec_l30List.at3 n x).1)) (St.norm 1 (spec_l30List.keep 3)) (spec_l30List.at3 n x).2
set_option maxRecDepth 100000 in
theorem spec_l30List.lem8 (n : Nat) (x : List Int × Int × Int) : ∀ (k : Nat) (s0 : List Int × Int × Int) (out3 : List (Int × Int × Int × Int × List Int × Int)) (p5a : Int) (p5ba : Int) (p5bba : Int) (p5bbba : Int) (p5bbbba : List Int) (p5bbbbb : Int), spec_l30List.LN8 n x k (spec_l30List.st8 s0 out3 p5a p5ba p5bba p5bbba p5bbbba p5bbbbb) = spec_l30List.l8 n k s0 out3 p5a p5ba p5bba p5bbba p5bbbba p5bbbbb := by
  intro k
  induction k with
  | zero => intro s0 out3 p5a p5ba p5bba p5bbba p5bbbba p5bbbbb; rfl
  | succ k ih =>
    intro s0 out3 p5a p5ba p5bba p5bbba p5bbbba p5bbbbb
    have h : spec_l30List.LN8 n x (k + 1) (spec_l30List.st8 s0 out3 p5a p5ba p5bba p5bbba p5bbbba p5bbbbb) = spec_l30List.g8 (fun s0 out3 p5a p5ba p5bba p5bbba p5bbbba p5bbbbb => spec_l30List.LN8 n x k (spec_l30List.st8 s0 out3 p5a p5ba p5bba p5bbba p5bbbba p5bbbbb)) s0 out3 p5a p5ba p5bba p5bbba p5bbbba p5bbbbb := by kernel_rfl
    rw [h]
    simp only [ih]
    rfl
set_option maxRecDepth 100000 in
theorem spec_l30List.lem3 (n : Nat) (x : List Int × Int × Int) : ∀ (k : Nat) (n4 : Int) (s0 : List Int × Int × Int) (out3 : List (Int × Int × Int × Int × List Int × Int)), spec_l30List.LN3 n x k (spec_l30List.st3 n4 s0 out3) = spec_l30List.l3 n k n4 s0 out3 := by
  intro k
  induction k with
  | zero => intro n4 s0 out3; rfl
  | succ k ih =>
    intro n4 s0 out3
    have h : spec_l30List.LN3 n x (k + 1) (spec_l30List.st3 n4 s0 out3) = spec_l30List.g3 (fun s0 out3 p5a p5ba p5bba p5bbba p5bbbba p5bbbbb => spec_l30List.LN8 n x n (spec_l30List.st8 s0 out3 p5a p5ba p5bba p5bbba p5bbbba p5bbbbb)) (fun n4 s0 out3 => spec_l30List.LN3 n x k (spec_l30List.st3 n4 s0 out3)) n4 s0 out3 := by kernel_rfl
    rw [h]
    simp only [ih, spec_l30List.lem8]
    rfl
set_option maxRecDepth 100000 in
theorem spec_l30List.body (n : Nat) (x : List Int × Int × Int) : bodyF spec_l30List.E spec_l30List.keep n Try.f98 spec_l30List.con x = spec_l30List.fn n x := by
  have h : bodyF spec_l30List.E spec_l30List.keep n Try.f98 spec_l30List.con x = spec_l30List.top (fun n4 s0 out3 => spec_l30List.LN3 n x n (spec_l30List.st3 n4 s0 out3)) x := by kernel_rfl
  rw [h]
  simp only [spec_l30List.lem3]
  rfl
set_option maxRecDepth 100000 in
theorem spec_l30List.good : Good Try.prog 98 spec_l30List.con :=
  good_of tabok (cs := spec_l30List.cs) ⟨spec_l01Next.good, spec_l30Draw.good, spec_l30Good.good, trivial⟩ 1 false (fn := Try.f98) Try.func98 rfl (by decide) (by simp [spec_l30List.con]) spec_l30List.keep NN (fun _ => rfl) (fun x => spec_l30List.body NN x)
end
end Go.Ev.Try

namespace Go.Ev.Try
open Go.Proofs Go.Pl
set_option linter.unusedVariables false
noncomputable section
def spec_DrawDaysCovered.con : Con := { ps := [(.val, (.sl 5 (.int .u8)))], rs := [(.own, (.sl 42 (.pair (.int .i64) (.pair (.int .i64) (.pair (.int .i64) (.pair (.int .i64) (.pair (.sl 2 (.int .i64)) (.int .i64)))))))), (.own, (.int .i64)), (.own, (.int .i64))], F := fun x => spec_DrawDaysCovered.f x }
def spec_DrawDaysCovered.cs : List (FuncId × Con) := [(64, spec_l01From.con), (66, spec_l01Next.con), (92, spec_l01Pick.con), (98, spec_l30List.con)]
def spec_DrawDaysCovered.E : Env := envOf tab spec_DrawDaysCovered.cs 0 false
def spec_DrawDaysCovered.keep (i : Nat) : List Nat := []
set_option maxRecDepth 100000 in
theorem spec_DrawDaysCovered.body (n : Nat) (x : List Int) : bodyF spec_DrawDaysCovered.E spec_DrawDaysCovered.keep n Try.f65 spec_DrawDaysCovered.con x = spec_DrawDaysCovered.fn n x := by
  have h : bodyF spec_DrawDaysCovered.E spec_DrawDaysCovered.keep n Try.f65 spec_DrawDaysCovered.con x = spec_DrawDaysCovered.top x := by kernel_rfl
  exact h
set_option maxRecDepth 100000 in
theorem spec_DrawDaysCovered.good : Good Try.prog 65 spec_DrawDaysCovered.con :=
  good_of tabok (cs := spec_DrawDaysCovered.cs) ⟨spec_l01From.good, spec_l01Next.good, spec_l01Pick.good, spec_l30List.good, trivial⟩ 0 false (fn := Try.f65) Try.func65 rfl (by decide) (by simp [spec_DrawDaysCovered.con]) spec_DrawDaysCovered.keep NN (fun _ => rfl) (fun x => spec_DrawDaysCovered.body NN x)
end
end Go.Ev.Try

namespace Go.Ev.Try
open Go.Proofs Go.Pl
set_option linter.unusedVariables false
noncomputable section
def spec_DrawFewestPermits.con : Con := { ps := [(.val, (.sl 5 (.int .u8)))], rs := [(.own, (.sl 42 (.pair (.int .i64) (.pair (.int .i64) (.pair (.int .i64) (.pair (.int .i64) (.pair (.sl 2 (.int .i64)) (.int .i64)))))))), (.own, (.int .i64)), (.own, (.int .i64))], F := fun x => spec_DrawFewestPermits.f x }
def spec_DrawFewestPermits.cs : List (FuncId × Con) := [(64, spec_l01From.con), (65, spec_DrawDaysCovered.con), (66, spec_l01Next.con)]
def spec_DrawFewestPermits.E : Env := envOf tab spec_DrawFewestPermits.cs 0 false
def spec_DrawFewestPermits.keep (i : Nat) : List Nat := []
set_option maxRecDepth 100000 in
theorem spec_DrawFewestPermits.body (n : Nat) (x : List Int) : bodyF spec_DrawFewestPermits.E spec_DrawFewestPermits.keep n Try.f17 spec_DrawFewestPermits.con x = spec_DrawFewestPermits.fn n x := by
  have h : bodyF spec_DrawFewestPermits.E spec_DrawFewestPermits.keep n Try.f17 spec_DrawFewestPermits.con x = spec_DrawFewestPermits.top x := by kernel_rfl
  exact h
set_option maxRecDepth 100000 in
theorem spec_DrawFewestPermits.good : Good Try.prog 17 spec_DrawFewestPermits.con :=
  good_of tabok (cs := spec_DrawFewestPermits.cs) ⟨spec_l01From.good, spec_DrawDaysCovered.good, spec_l01Next.good, trivial⟩ 0 false (fn := Try.f17) Try.func17 rfl (by decide) (by simp [spec_DrawFewestPermits.con]) spec_DrawFewestPermits.keep NN (fun _ => rfl) (fun x => spec_DrawFewestPermits.body NN x)
end
end Go.Ev.Try

namespace Go.Ev.Try
open Go.Proofs Go.Pl
set_option linter.unusedVariables false
noncomputable section
def impl_listsOf.st1000010 (n0 : Int) (more2 : Int) (i8 : Int) (rest10 : List Int) (v26 : Int) (v27 : Int) (out7 : List (List Int)) (v25 : List (List Int)) : St := ⟨[.dat (.int .i64) n0, .gone, .dat (.int .i64) more2, .gone, .gone, .gone, .gone, .ref 0, .dat (.int .i64) i8, .gone, .dat (.sl 2 (.int .i64)) rest10, .gone, .gone, .gone, .gone, .gone, .gone, .gone, .gone, .gone, .gone, .gone, .gone, .gone, .gone, .ref 1, .dat (.int .i64) v26, .dat (.int .i64) v27, .gone, .gone, .gone, .gone, .gone, .gone, .gone, .gone, .gone, .gone, .gone, .gone], [.row 34 (.sl 2 (.int .i64)) out7 none, .row 34 (.sl 2 (.int .i64)) v25 none]⟩
def impl_listsOf.st8 (n0 : Int) (more2 : Int) (i8 : Int) (v26 : Int) (v27 : Int) (out7 : List (List Int)) (v25 : List (List Int)) : St := ⟨[.dat (.int .i64) n0, .gone, .dat (.int .i64) more2, .gone, .gone, .gone, .gone, .ref 0, .dat (.int .i64) i8, .gone, .gone, .gone, .gone, .gone, .gone, .gone, .gone, .gone, .gone, .gone, .gone, .gone, .gone, .gone, .gone, .ref 1, .dat (.int .i64) v26, .dat (.int .i64) v27, .gone, .gone, .gone, .gone, .gone, .gone, .gone, .gone, .gone, .gone, .gone, .gone], [.row 34 (.sl 2 (.int .i64)) out7 none, .row 34 (.sl 2 (.int .i64)) v25 none]⟩
def impl_listsOf.st5 (n0 : Int) (more2 : Int) (i8 : Int) (out7 : List (List Int)) : St := ⟨[.dat (.int .i64) n0, .gone, .dat (.int .i64) more2, .gone, .gone, .gone, .gone, .ref 0, .dat (.int .i64) i8, .gone, .gone, .gone, .gone, .gone, .gone, .gone, .gone, .gone, .gone, .gone, .gone, .gone, .gone, .gone, .gone, .gone, .gone, .gone, .gone, .gone, .gone, .gone, .gone, .gone, .gone, .gone, .gone, .gone, .gone, .gone], [.row 34 (.sl 2 (.int .i64)) out7 none]⟩
def impl_listsOf.con (S : Int → Int → Int → Option (List (List Int))) : Con := { ps := [(.val, (.int .i64)), (.val, (.int .i64)), (.val, (.int .i64))], rs := [(.own, (.sl 34 (.sl 2 (.int .i64))))], F := fun x => S x.1 x.2.1 x.2.2 }
def impl_listsOf.cs (S : Int → Int → Int → Option (List (List Int))) : List (FuncId × Con) := [(67, (impl_listsOf.con S))]
def impl_listsOf.E (S : Int → Int → Int → Option (List (List Int))) : Env := envOf tab (impl_listsOf.cs S) 0 false
def impl_listsOf.keep (i : Nat) : List Nat := if i = 1000010 then [0, 2, 7, 8, 10, 25, 26, 27] else if i = 8 then [0, 2, 7, 8, 25, 26, 27] else if i = 5 then [0, 2, 7, 8] else []
def impl_listsOf.at1000010 (S : Int → Int → Int → Option (List (List Int))) (n : Nat) (x : Int × Int × Int) (M5 : St → Option ((List (List Int)))) (M8 : St → Option ((List (List Int)))) : Code × (Ex → St → Option ((List (List Int)))) := ctx (impl_listsOf.E S) impl_listsOf.keep n [.snd, .snd, .snd, .fst, .snd, .blk, .rd M5, .snd, .fst, .blk, .snd, .blk, .rd M8, .snd, .snd, .fst, .blk, .snd] (codeOf Try.f67) (kEnd (impl_listsOf.E S) Try.f67 (impl_listsOf.con S) x)
def impl_listsOf.LN1000010 (S : Int → Int → Int → Option (List (List Int))) (n : Nat) (x : Int × Int × Int) (M5 : St → Option ((List (List Int)))) (M8 : St → Option ((List (List Int)))) : Nat → St → Option ((List (List Int))) := cutN (exec (impl_listsOf.E S) impl_listsOf.keep n ((impl_listsOf.at1000010 S) n x M5 M8).1 ((impl_listsOf.at1000010 S) n x M5 M8).2)
def impl_listsOf.at8 (S : Int → Int → Int → Option (List (List Int))) (n : Nat) (x : Int × Int × Int) (M5 : St → Option ((List (List Int)))) : Code × (Ex → St → Option ((List (List Int)))) := ctx (impl_listsOf.E S) impl_listsOf.keep n [.snd, .snd, .snd, .fst, .snd, .blk, .rd M5, .snd, .fst, .blk, .snd, .blk] (codeOf Try.f67) (kEnd (impl_listsOf.E S) Try.f67 (impl_listsOf.con S) x)
def impl_listsOf.LN8 (S : Int → Int → Int → Option (List (List Int))) (n : Nat) (x : Int × Int × Int) (M5 : St → Option ((List (List Int)))) : Nat → St → Option ((List (List Int))) := loopN (exec (impl_listsOf.E S) impl_listsOf.keep n (bodyOf ((impl_listsOf.at8 S) n x M5).1)) (St.norm 0 (impl_listsOf.keep 8)) ((impl_listsOf.at8 S) n x M5).2
def impl_listsOf.at5 (S : Int → Int → Int → Option (List (List Int))) (n : Nat) (x : Int × Int × Int) : Code × (Ex → St → Option ((List (List Int)))) := ctx (impl_listsOf.E S) impl_listsOf.keep n [.snd, .snd, .snd, .fst, .snd, .blk] (codeOf Try.f67) (kEnd (impl_listsOf.E S) Try.f67 (impl_listsOf.con S) x)
def impl_listsOf.LN5 (S : Int → Int → Int → Option (List (List Int))) (n : Nat) (x : Int × Int × Int) : Nat → St → Option ((List (List Int))) := loopN (exec (impl_listsOf.E S) impl_listsOf.keep n (bodyOf ((impl_listsOf.at5 S) n x).1)) (St.norm 0 (impl_listsOf.keep 5)) ((impl_listsOf.at5 S) n x).2
set_option maxRecDepth 100000 in
theorem impl_listsOf.lem1000010 (S : Int → Int → Int → Option (List (List Int))) (n : Nat) (x : Int × Int × Int) (M5 : St → Option ((List (List Int)))) (M8 : St → Option ((List (List Int)))) : ∀ (k : Nat) (n0 : Int) (more2 : Int) (i8 : Int) (rest10 : List Int) (v26 : Int) (v27 : Int) (out7 : List (List Int)) (v25 : List (List Int)), (impl_listsOf.LN1000010 S) n x M5 M8 k (impl_listsOf.st1000010 n0 more2 i8 rest10 v26 v27 out7 v25) = (impl_listsOf.l1000010 S) n (fun n0 more2 i8 out7 => M5 (impl_listsOf.st5 n0 more2 i8 out7)) (fun n0 more2 i8 v26 v27 out7 v25 => M8 (impl_listsOf.st8 n0 more2 i8 v26 v27 out7 v25)) k n0 more2 i8 rest10 v26 v27 out7 v25 := by
  intro k
  induction k with
  | zero => intro n0 more2 i8 rest10 v26 v27 out7 v25; rfl
  | succ k ih =>
    intro n0 more2 i8 rest10 v26 v27 out7 v25
    have h : (impl_listsOf.LN1000010 S) n x M5 M8 (k + 1) (impl_listsOf.st1000010 n0 more2 i8 rest10 v26 v27 out7 v25) = (impl_listsOf.g1000010 S) (fun n0 more2 i8 out7 => M5 (impl_listsOf.st5 n0 more2 i8 out7)) (fun n0 more2 i8 v26 v27 out7 v25 => M8 (impl_listsOf.st8 n0 more2 i8 v26 v27 out7 v25)) (fun n0 more2 i8 rest10 v26 v27 out7 v25 => (impl_listsOf.LN1000010 S) n x M5 M8 k (impl_listsOf.st1000010 n0 more2 i8 rest10 v26 v27 out7 v25)) n0 more2 i8 rest10 v26 v27 out7 v25 := by kernel_rfl
    rw [h]
    simp only [ih]
    rfl
set_option maxRecDepth 100000 in
theorem impl_listsOf.lem8 (S : Int → Int → Int → Option (List (List Int))) (n : Nat) (x : Int × Int × Int) (M5 : St → Option ((List (List Int)))) : ∀ (k : Nat) (n0 : Int) (more2 : Int) (i8 : Int) (v26 : Int) (v27 : Int) (out7 : List (List Int)) (v25 : List (List Int)), (impl_listsOf.LN8 S) n x M5 k (impl_listsOf.st8 n0 more2 i8 v26 v27 out7 v25) = (impl_listsOf.l8 S) n (fun n0 more2 i8 out7 => M5 (impl_listsOf.st5 n0 more2 i8 out7)) k n0 more2 i8 v26 v27 out7 v25 := by
  intro k
  induction k with
  | zero => intro n0 more2 i8 v26 v27 out7 v25; rfl
  | succ k ih =>
    intro n0 more2 i8 v26 v27 out7 v25
    have h : (impl_listsOf.LN8 S) n x M5 (k + 1) (impl_listsOf.st8 n0 more2 i8 v26 v27 out7 v25) = (impl_listsOf.g8 S) (fun n0 more2 i8 rest10 v26 v27 out7 v25 => (impl_listsOf.LN1000010 S) n x M5 ((impl_listsOf.LN8 S) n x M5 k) n (impl_listsOf.st1000010 n0 more2 i8 rest10 v26 v27 out7 v25)) (fun n0 more2 i8 out7 => M5 (impl_listsOf.st5 n0 more2 i8 out7)) (fun n0 more2 i8 v26 v27 out7 v25 => (impl_listsOf.LN8 S) n x M5 k (impl_listsOf.st8 n0 more2 i8 v26 v27 out7 v25)) n0 more2 i8 v26 v27 out7 v25 := by kernel_rfl
    rw [h]
    simp only [ih, (impl_listsOf.lem1000010 S)]
    rfl
set_option maxRecDepth 100000 in
theorem impl_listsOf.lem5 (S : Int → Int → Int → Option (List (List Int))) (n : Nat) (x : Int × Int × Int) : ∀ (k : Nat) (n0 : Int) (more2 : Int) (i8 : Int) (out7 : List (List Int)), (impl_listsOf.LN5 S) n x k (impl_listsOf.st5 n0 more2 i8 out7) = (impl_listsOf.l5 S) n k n0 more2 i8 out7 := by
  intro k
  induction k with
  | zero => intro n0 more2 i8 out7; rfl
  | succ k ih =>
    intro n0 more2 i8 out7
    have h : (impl_listsOf.LN5 S) n x (k + 1) (impl_listsOf.st5 n0 more2 i8 out7) = (impl_listsOf.g5 S) (fun n0 more2 i8 v26 v27 out7 v25 => (impl_listsOf.LN8 S) n x ((impl_listsOf.LN5 S) n x k) n (impl_listsOf.st8 n0 more2 i8 v26 v27 out7 v25)) (fun n0 more2 i8 out7 => (impl_listsOf.LN5 S) n x k (impl_listsOf.st5 n0 more2 i8 out7)) n0 more2 i8 out7 := by kernel_rfl
    rw [h]
    simp only [ih, (impl_listsOf.lem8 S)]
    rfl
set_option maxRecDepth 100000 in
theorem impl_listsOf.body (S : Int → Int → Int → Option (List (List Int))) (n : Nat) (x : Int × Int × Int) : bodyF (impl_listsOf.E S) impl_listsOf.keep n Try.f67 (impl_listsOf.con S) x = (impl_listsOf.fn S) n x.1 x.2.1 x.2.2 := by
  have h : bodyF (impl_listsOf.E S) impl_listsOf.keep n Try.f67 (impl_listsOf.con S) x = (impl_listsOf.top S) (fun n0 more2 i8 out7 => (impl_listsOf.LN5 S) n x n (impl_listsOf.st5 n0 more2 i8 out7)) x.1 x.2.1 x.2.2 := by kernel_rfl
  rw [h]
  simp only [(impl_listsOf.lem5 S)]
  rfl
set_option maxRecDepth 100000 in
theorem impl_listsOf.goodk : ∀ k : Nat, Good Try.prog 67 (impl_listsOf.con (impl_listsOf.rc k)) := by
  intro k
  induction k with
  | zero => exact good_none (fn := Try.f67) Try.func67 rfl (by decide) (by simp [impl_listsOf.con]) (fun _ => rfl)
  | succ k ih => exact good_of tabok (cs := impl_listsOf.cs (impl_listsOf.rc k)) ⟨ih, trivial⟩ 0 false (fn := Try.f67) Try.func67 rfl (by decide) (by simp [impl_listsOf.con]) impl_listsOf.keep NN (fun _ => rfl) (fun x => impl_listsOf.body (impl_listsOf.rc k) NN x)
theorem impl_listsOf.good : Good Try.prog 67 (impl_listsOf.con (fun n0 from1 more2 => impl_listsOf.f n0 from1 more2)) := impl_listsOf.goodk NN
end
end Go.Ev.Try

namespace Go.Ev.Try
open Go.Proofs Go.Pl
set_option linter.unusedVariables false
noncomputable section
def impl_FewestPermits.st13 (permits0 : List (Int × Int × Int × Int × List Int × Int)) (from1 : Int) (to2 : Int) (more8 : Int) (list10 : List Int) (v31 : Int) (v32 : Int) (v36 : List Int) (v37 : Int) (v38 : Int) (chosen11 : List (Int × Int × Int × Int × List Int × Int)) (v30 : List (List Int)) : St := ⟨[.dat (.sl 42 (.pair (.int .i64) (.pair (.int .i64) (.pair (.int .i64) (.pair (.int .i64) (.pair (.sl 2 (.int .i64)) (.int .i64))))))) permits0, .dat (.int .i64) from1, .dat (.int .i64) to2, .gone, .gone, .gone, .gone, .gone, .dat (.int .i64) more8, .gone, .dat (.sl 2 (.int .i64)) list10, .ref 0, .gone, .gone, .gone, .gone, .gone, .gone, .gone, .gone, .gone, .gone, .gone, .gone, .gone, .gone, .gone, .gone, .gone, .gone, .ref 1, .dat (.int .i64) v31, .dat (.int .i64) v32, .gone, .gone, .gone, .dat (.sl 2 (.int .i64)) v36, .dat (.int .i64) v37, .dat (.int .i64) v38, .gone, .gone, .gone, .gone, .gone, .gone, .gone, .gone, .gone, .gone, .gone, .gone, .gone, .gone, .gone, .gone, .gone], [.row 42 (.pair (.int .i64) (.pair (.int .i64) (.pair (.int .i64) (.pair (.int .i64) (.pair (.sl 2 (.int .i64)) (.int .i64)))))) chosen11 none, .row 34 (.sl 2 (.int .i64)) v30 none]⟩
def impl_FewestPermits.st9 (permits0 : List (Int × Int × Int × Int × List Int × Int)) (from1 : Int) (to2 : Int) (more8 : Int) (v31 : Int) (v32 : Int) (v30 : List (List Int)) : St := ⟨[.dat (.sl 42 (.pair (.int .i64) (.pair (.int .i64) (.pair (.int .i64) (.pair (.int .i64) (.pair (.sl 2 (.int .i64)) (.int .i64))))))) permits0, .dat (.int .i64) from1, .dat (.int .i64) to2, .gone, .gone, .gone, .gone, .gone, .dat (.int .i64) more8, .gone, .gone, .gone, .gone, .gone, .gone, .gone, .gone, .gone, .gone, .gone, .gone, .gone, .gone, .gone, .gone, .gone, .gone, .gone, .gone, .gone, .ref 0, .dat (.int .i64) v31, .dat (.int .i64) v32, .gone, .gone, .gone, .gone, .gone, .gone, .gone, .gone, .gone, .gone, .gone, .gone, .gone, .gone, .gone, .gone, .gone, .gone, .gone, .gone, .gone, .gone, .gone], [.row 34 (.sl 2 (.int .i64)) v30 none]⟩
def impl_FewestPermits.st6 (permits0 : List (Int × Int × Int × Int × List Int × Int)) (from1 : Int) (to2 : Int) (more8 : Int) : St := ⟨[.dat (.sl 42 (.pair (.int .i64) (.pair (.int .i64) (.pair (.int .i64) (.pair (.int .i64) (.pair (.sl 2 (.int .i64)) (.int .i64))))))) permits0, .dat (.int .i64) from1, .dat (.int .i64) to2, .gone, .gone, .gone, .gone, .gone, .dat (.int .i64) more8, .gone, .gone, .gone, .gone, .gone, .gone, .gone, .gone, .gone, .gone, .gone, .gone, .gone, .gone, .gone, .gone, .gone, .gone, .gone, .gone, .gone, .gone, .gone, .gone, .gone, .gone, .gone, .gone, .gone, .gone, .gone, .gone, .gone, .gone, .gone, .gone, .gone, .gone, .gone, .gone, .gone, .gone, .gone, .gone, .gone, .gone, .gone], []⟩
def impl_FewestPermits.con : Con := { ps := [(.val, (.sl 42 (.pair (.int .i64) (.pair (.int .i64) (.pair (.int .i64) (.pair (.int .i64) (.pair (.sl 2 (.int .i64)) (.int .i64)))))))), (.val, (.int .i64)), (.val, (.int .i64))], rs := [(.val, (.sl 2 (.int .i64))), (.val, (.int .i64))], F := fun x => impl_FewestPermits.f x.1 x.2.1 x.2.2 }
def impl_FewestPermits.cs : List (FuncId × Con) := [(60, impl_arePermits.con), (61, impl_areDays.con), (62, impl_covers.con), (67, (impl_listsOf.con (fun a0 a1 a2 => impl_listsOf.f a0 a1 a2)))]
def impl_FewestPermits.E : Env := envOf tab impl_FewestPermits.cs 0 false
def impl_FewestPermits.keep (i : Nat) : List Nat := if i = 13 then [0, 1, 2, 8, 10, 11, 30, 31, 32, 36, 37, 38] else if i = 9 then [0, 1, 2, 8, 30, 31, 32] else if i = 6 then [0, 1, 2, 8] else []
def impl_FewestPermits.at13 (n : Nat) (x : (List (Int × Int × Int × Int × List Int × Int)) × Int × Int) (M6 : St → Option ((List Int × Int))) (M9 : St → Option ((List Int × Int))) : Code × (Ex → St → Option ((List Int × Int))) := ctx impl_FewestPermits.E impl_FewestPermits.keep n [.snd, .snd, .snd, .fst, .snd, .blk, .rd M6, .snd, .fst, .blk, .snd, .blk, .rd M9, .snd, .snd, .fst, .blk, .snd, .snd, .fst, .snd, .blk] (codeOf Try.f18) (kEnd impl_FewestPermits.E Try.f18 impl_FewestPermits.con x)
def impl_FewestPermits.LN13 (n : Nat) (x : (List (Int × Int × Int × Int × List Int × Int)) × Int × Int) (M6 : St → Option ((List Int × Int))) (M9 : St → Option ((List Int × Int))) : Nat → St → Option ((List Int × Int)) := loopN (exec impl_FewestPermits.E impl_FewestPermits.keep n (bodyOf (impl_FewestPermits.at13 n x M6 M9).1)) (St.norm 0 (impl_FewestPermits.keep 13)) (impl_FewestPermits.at13 n x M6 M9).2
def impl_FewestPermits.at9 (n : Nat) (x : (List (Int × Int × Int × Int × List Int × Int)) × Int × Int) (M6 : St → Option ((List Int × Int))) : Code × (Ex → St → Option ((List Int × Int))) := ctx impl_FewestPermits.E impl_FewestPermits.keep n [.snd, .snd, .snd, .fst, .snd, .blk, .rd M6, .snd, .fst, .blk, .snd, .blk] (codeOf Try.f18) (kEnd impl_FewestPermits.E Try.f18 impl_FewestPermits.con x)
def impl_FewestPermits.LN9 (n : Nat) (x : (List (Int × Int × Int × Int × List Int × Int)) × Int × Int) (M6 : St → Option ((List Int × Int))) : Nat → St → Option ((List Int × Int)) := loopN (exec impl_FewestPermits.E impl_FewestPermits.keep n (bodyOf (impl_FewestPermits.at9 n x M6).1)) (St.norm 0 (impl_FewestPermits.keep 9)) (impl_FewestPermits.at9 n x M6).2
def impl_FewestPermits.at6 (n : Nat) (x : (List (Int × Int × Int × Int × List Int × Int)) × Int × Int) : Code × (Ex → St → Option ((List Int × Int))) := ctx impl_FewestPermits.E impl_FewestPermits.keep n [.snd, .snd, .snd, .fst, .snd, .blk] (codeOf Try.f18) (kEnd impl_FewestPermits.E Try.f18 impl_FewestPermits.con x)
def impl_FewestPermits.LN6 (n : Nat) (x : (List (Int × Int × Int × Int × List Int × Int)) × Int × Int) : Nat → St → Option ((List Int × Int)) := loopN (exec impl_FewestPermits.E impl_FewestPermits.keep n (bodyOf (impl_FewestPermits.at6 n x).1)) (St.norm 0 (impl_FewestPermits.keep 6)) (impl_FewestPermits.at6 n x).2
set_option maxRecDepth 100000 in
theorem impl_FewestPermits.lem13 (n : Nat) (x : (List (Int × Int × Int × Int × List Int × Int)) × Int × Int) (M6 : St → Option ((List Int × Int))) (M9 : St → Option ((List Int × Int))) : ∀ (k : Nat) (permits0 : List (Int × Int × Int × Int × List Int × Int)) (from1 : Int) (to2 : Int) (more8 : Int) (list10 : List Int) (v31 : Int) (v32 : Int) (v36 : List Int) (v37 : Int) (v38 : Int) (chosen11 : List (Int × Int × Int × Int × List Int × Int)) (v30 : List (List Int)), impl_FewestPermits.LN13 n x M6 M9 k (impl_FewestPermits.st13 permits0 from1 to2 more8 list10 v31 v32 v36 v37 v38 chosen11 v30) = impl_FewestPermits.l13 n (fun permits0 from1 to2 more8 => M6 (impl_FewestPermits.st6 permits0 from1 to2 more8)) (fun permits0 from1 to2 more8 v31 v32 v30 => M9 (impl_FewestPermits.st9 permits0 from1 to2 more8 v31 v32 v30)) k permits0 from1 to2 more8 list10 v31 v32 v36 v37 v38 chosen11 v30 := by
  intro k
  induction k with
  | zero => intro permits0 from1 to2 more8 list10 v31 v32 v36 v37 v38 chosen11 v30; rfl
  | succ k ih =>
    intro permits0 from1 to2 more8 list10 v31 v32 v36 v37 v38 chosen11 v30
    have h : impl_FewestPermits.LN13 n x M6 M9 (k + 1) (impl_FewestPermits.st13 permits0 from1 to2 more8 list10 v31 v32 v36 v37 v38 chosen11 v30) = impl_FewestPermits.g13 (fun permits0 from1 to2 more8 => M6 (impl_FewestPermits.st6 permits0 from1 to2 more8)) (fun permits0 from1 to2 more8 v31 v32 v30 => M9 (impl_FewestPermits.st9 permits0 from1 to2 more8 v31 v32 v30)) (fun permits0 from1 to2 more8 list10 v31 v32 v36 v37 v38 chosen11 v30 => impl_FewestPermits.LN13 n x M6 M9 k (impl_FewestPermits.st13 permits0 from1 to2 more8 list10 v31 v32 v36 v37 v38 chosen11 v30)) permits0 from1 to2 more8 list10 v31 v32 v36 v37 v38 chosen11 v30 := by kernel_rfl
    rw [h]
    simp only [ih]
    rfl
set_option maxRecDepth 100000 in
theorem impl_FewestPermits.lem9 (n : Nat) (x : (List (Int × Int × Int × Int × List Int × Int)) × Int × Int) (M6 : St → Option ((List Int × Int))) : ∀ (k : Nat) (permits0 : List (Int × Int × Int × Int × List Int × Int)) (from1 : Int) (to2 : Int) (more8 : Int) (v31 : Int) (v32 : Int) (v30 : List (List Int)), impl_FewestPermits.LN9 n x M6 k (impl_FewestPermits.st9 permits0 from1 to2 more8 v31 v32 v30) = impl_FewestPermits.l9 n (fun permits0 from1 to2 more8 => M6 (impl_FewestPermits.st6 permits0 from1 to2 more8)) k permits0 from1 to2 more8 v31 v32 v30 := by
  intro k
  induction k with
  | zero => intro permits0 from1 to2 more8 v31 v32 v30; rfl
  | succ k ih =>
    intro permits0 from1 to2 more8 v31 v32 v30
    have h : impl_FewestPermits.LN9 n x M6 (k + 1) (impl_FewestPermits.st9 permits0 from1 to2 more8 v31 v32 v30) = impl_FewestPermits.g9 (fun permits0 from1 to2 more8 list10 v31 v32 v36 v37 v38 chosen11 v30 => impl_FewestPermits.LN13 n x M6 (impl_FewestPermits.LN9 n x M6 k) n (impl_FewestPermits.st13 permits0 from1 to2 more8 list10 v31 v32 v36 v37 v38 chosen11 v30)) (fun permits0 from1 to2 more8 => M6 (impl_FewestPermits.st6 permits0 from1 to2 more8)) (fun permits0 from1 to2 more8 v31 v32 v30 => impl_FewestPermits.LN9 n x M6 k (impl_FewestPermits.st9 permits0 from1 to2 more8 v31 v32 v30)) permits0 from1 to2 more8 v31 v32 v30 := by kernel_rfl
    rw [h]
    simp only [ih, impl_FewestPermits.lem13]
    rfl
set_option maxRecDepth 100000 in
theorem impl_FewestPermits.lem6 (n : Nat) (x : (List (Int × Int × Int × Int × List Int × Int)) × Int × Int) : ∀ (k : Nat) (permits0 : List (Int × Int × Int × Int × List Int × Int)) (from1 : Int) (to2 : Int) (more8 : Int), impl_FewestPermits.LN6 n x k (impl_FewestPermits.st6 permits0 from1 to2 more8) = impl_FewestPermits.l6 n k permits0 from1 to2 more8 := by
  intro k
  induction k with
  | zero => intro permits0 from1 to2 more8; rfl
  | succ k ih =>
    intro permits0 from1 to2 more8
    have h : impl_FewestPermits.LN6 n x (k + 1) (impl_FewestPermits.st6 permits0 from1 to2 more8) = impl_FewestPermits.g6 (fun permits0 from1 to2 more8 v31 v32 v30 => impl_FewestPermits.LN9 n x (impl_FewestPermits.LN6 n x k) n (impl_FewestPermits.st9 permits0 from1 to2 more8 v31 v32 v30)) (fun permits0 from1 to2 more8 => impl_FewestPermits.LN6 n x k (impl_FewestPermits.st6 permits0 from1 to2 more8)) permits0 from1 to2 more8 := by kernel_rfl
    rw [h]
    simp only [ih, impl_FewestPermits.lem9]
    rfl
set_option maxRecDepth 100000 in
theorem impl_FewestPermits.body (n : Nat) (x : (List (Int × Int × Int × Int × List Int × Int)) × Int × Int) : bodyF impl_FewestPermits.E impl_FewestPermits.keep n Try.f18 impl_FewestPermits.con x = impl_FewestPermits.fn n x.1 x.2.1 x.2.2 := by
  have h : bodyF impl_FewestPermits.E impl_FewestPermits.keep n Try.f18 impl_FewestPermits.con x = impl_FewestPermits.top (fun permits0 from1 to2 more8 => impl_FewestPermits.LN6 n x n (impl_FewestPermits.st6 permits0 from1 to2 more8)) x.1 x.2.1 x.2.2 := by kernel_rfl
  rw [h]
  simp only [impl_FewestPermits.lem6]
  rfl
set_option maxRecDepth 100000 in
theorem impl_FewestPermits.good : Good Try.prog 18 impl_FewestPermits.con :=
  good_of tabok (cs := impl_FewestPermits.cs) ⟨impl_arePermits.good, impl_areDays.good, impl_covers.good, impl_listsOf.good, trivial⟩ 0 false (fn := Try.f18) Try.func18 rfl (by decide) (by simp [impl_FewestPermits.con]) impl_FewestPermits.keep NN (fun _ => rfl) (fun x => impl_FewestPermits.body NN x)
end
end Go.Ev.Try

namespace Go.Ev.Try
open Go.Proofs Go.Pl
set_option linter.unusedVariables false
noncomputable section
def spec_l01Own.con : Con := { ps := [(.val, (.sl 2 (.int .i64)))], rs := [(.own, (.sl 2 (.int .i64)))], F := fun x => spec_l01Own.f x }
def spec_l01Own.cs : List (FuncId × Con) := []
def spec_l01Own.E : Env := envOf tab spec_l01Own.cs 0 false
def spec_l01Own.keep (i : Nat) : List Nat := []
set_option maxRecDepth 100000 in
theorem spec_l01Own.body (n : Nat) (x : List Int) : bodyF spec_l01Own.E spec_l01Own.keep n Try.f99 spec_l01Own.con x = spec_l01Own.fn n x := by
  have h : bodyF spec_l01Own.E spec_l01Own.keep n Try.f99 spec_l01Own.con x = spec_l01Own.top x := by kernel_rfl
  exact h
set_option maxRecDepth 100000 in
theorem spec_l01Own.good : Good Try.prog 99 spec_l01Own.con :=
  good_of tabok (cs := spec_l01Own.cs) trivial 0 false (fn := Try.f99) Try.func99 rfl (by decide) (by simp [spec_l01Own.con]) spec_l01Own.keep NN (fun _ => rfl) (fun x => spec_l01Own.body NN x)
end
end Go.Ev.Try

namespace Go.Ev.Try
open Go.Proofs Go.Pl
set_option linter.unusedVariables false
noncomputable section
def spec_l19Lists.st5 (n0 : Int) (more2 : Int) (begun3 : List Int) (i10 : Int) (out9 : List (List Int)) : St := ⟨[.dat (.int .i64) n0, .gone, .dat (.int .i64) more2, .dat (.sl 2 (.int .i64)) begun3, .gone, .gone, .gone, .gone, .gone, .ref 0, .dat (.int .i64) i10, .gone, .gone, .gone, .gone, .gone, .gone, .gone, .gone, .gone, .gone, .gone, .gone, .gone, .gone, .gone, .gone, .gone, .gone, .gone, .gone, .gone, .gone, .gone, .gone, .gone], [.row 34 (.sl 2 (.int .i64)) out9 none]⟩
def spec_l19Lists.con (S : Int → Int → Int → List Int → Option (List (List Int))) : Con := { ps := [(.val, (.int .i64)), (.val, (.int .i64)), (.val, (.int .i64)), (.val, (.sl 2 (.int .i64)))], rs := [(.own, (.sl 34 (.sl 2 (.int .i64))))], F := fun x => S x.1 x.2.1 x.2.2.1 x.2.2.2 }
def spec_l19Lists.cs (S : Int → Int → Int → List Int → Option (List (List Int))) : List (FuncId × Con) := [(68, (spec_l19Lists.con S)), (99, spec_l01Own.con)]
def spec_l19Lists.E (S : Int → Int → Int → List Int → Option (List (List Int))) : Env := envOf tab (spec_l19Lists.cs S) 0 false
def spec_l19Lists.keep (i : Nat) : List Nat := if i = 5 then [0, 2, 3, 9, 10] else []
def spec_l19Lists.at5 (S : Int → Int → Int → List Int → Option (List (List Int))) (n : Nat) (x : Int × Int × Int × List Int) : Code × (Ex → St → Option ((List (List Int)))) := ctx (spec_l19Lists.E S) spec_l19Lists.keep n [.snd, .snd, .snd, .fst, .snd, .blk] (codeOf Try.f68) (kEnd (spec_l19Lists.E S) Try.f68 (spec_l19Lists.con S) x)
def spec_l19Lists.LN5 (S : Int → Int → Int → List Int → Option (List (List Int))) (n : Nat) (x : Int × Int × Int × List Int) : Nat → St → Option ((List (List Int))) := loopN (exec (spec_l19Lists.E S) spec_l19Lists.keep n (bodyOf ((spec_l19Lists.at5 S) n x).1)) (St.norm 0 (spec_l19Lists.keep 5)) ((spec_l19Lists.at5 S) n x).2
set_option maxRecDepth 100000 in
theorem spec_l19Lists.lem5 (S : Int → Int → Int → List Int → Option (List (List Int))) (n : Nat) (x : Int × Int × Int × List Int) : ∀ (k : Nat) (n0 : Int) (more2 : Int) (begun3 : List Int) (i10 : Int) (out9 : List (List Int)), (spec_l19Lists.LN5 S) n x k (spec_l19Lists.st5 n0 more2 begun3 i10 out9) = (spec_l19Lists.l5 S) n k n0 more2 begun3 i10 out9 := by
  intro k
  induction k with
  | zero => intro n0 more2 begun3 i10 out9; rfl
  | succ k ih =>
    intro n0 more2 begun3 i10 out9
    have h : (spec_l19Lists.LN5 S) n x (k + 1) (spec_l19Lists.st5 n0 more2 begun3 i10 out9) = (spec_l19Lists.g5 S) (fun n0 more2 begun3 i10 out9 => (spec_l19Lists.LN5 S) n x k (spec_l19Lists.st5 n0 more2 begun3 i10 out9)) n0 more2 begun3 i10 out9 := by kernel_rfl
    rw [h]
    simp only [ih]
    rfl
set_option maxRecDepth 100000 in
theorem spec_l19Lists.body (S : Int → Int → Int → List Int → Option (List (List Int))) (n : Nat) (x : Int × Int × Int × List Int) : bodyF (spec_l19Lists.E S) spec_l19Lists.keep n Try.f68 (spec_l19Lists.con S) x = (spec_l19Lists.fn S) n x.1 x.2.1 x.2.2.1 x.2.2.2 := by
  have h : bodyF (spec_l19Lists.E S) spec_l19Lists.keep n Try.f68 (spec_l19Lists.con S) x = (spec_l19Lists.top S) (fun n0 more2 begun3 i10 out9 => (spec_l19Lists.LN5 S) n x n (spec_l19Lists.st5 n0 more2 begun3 i10 out9)) x.1 x.2.1 x.2.2.1 x.2.2.2 := by kernel_rfl
  rw [h]
  simp only [(spec_l19Lists.lem5 S)]
  rfl
set_option maxRecDepth 100000 in
theorem spec_l19Lists.goodk : ∀ k : Nat, Good Try.prog 68 (spec_l19Lists.con (spec_l19Lists.rc k)) := by
  intro k
  induction k with
  | zero => exact good_none (fn := Try.f68) Try.func68 rfl (by decide) (by simp [spec_l19Lists.con]) (fun _ => rfl)
  | succ k ih => exact good_of tabok (cs := spec_l19Lists.cs (spec_l19Lists.rc k)) ⟨ih, spec_l01Own.good, trivial⟩ 0 false (fn := Try.f68) Try.func68 rfl (by decide) (by simp [spec_l19Lists.con]) spec_l19Lists.keep NN (fun _ => rfl) (fun x => spec_l19Lists.body (spec_l19Lists.rc k) NN x)
theorem spec_l19Lists.good : Good Try.prog 68 (spec_l19Lists.con (fun n0 from1 more2 begun3 => spec_l19Lists.f n0 from1 more2 begun3)) := spec_l19Lists.goodk NN
end
end Go.Ev.Try

namespace Go.Ev.Try
open Go.Proofs Go.Pl
set_option linter.unusedVariables false
noncomputable section
def spec_l30Cover.st5 (permits0 : List (Int × Int × Int × Int × List Int × Int)) (some1 : List Int) (to3 : Int) (day9 : Int) (last10 : Int) (i11 : Int) : St := ⟨[.dat (.sl 42 (.pair (.int .i64) (.pair (.int .i64) (.pair (.int .i64) (.pair (.int .i64) (.pair (.sl 2 (.int .i64)) (.int .i64))))))) permits0, .dat (.sl 2 (.int .i64)) some1, .gone, .dat (.int .i64) to3, .gone, .gone, .gone, .gone, .gone, .dat (.int .i64) day9, .dat (.int .i64) last10, .dat (.int .i64) i11, .gone, .gone, .gone, .gone, .gone, .gone, .gone, .gone, .gone, .gone, .gone, .gone, .gone, .gone, .gone, .gone, .gone, .gone, .gone, .gone, .gone, .gone, .gone, .gone, .gone, .gone, .gone, .gone, .gone, .gone, .gone, .gone, .gone, .gone, .gone], []⟩
def spec_l30Cover.st2 (permits0 : List (Int × Int × Int × Int × List Int × Int)) (some1 : List Int) (to3 : Int) (day9 : Int) : St := ⟨[.dat (.sl 42 (.pair (.int .i64) (.pair (.int .i64) (.pair (.int .i64) (.pair (.int .i64) (.pair (.sl 2 (.int .i64)) (.int .i64))))))) permits0, .dat (.sl 2 (.int .i64)) some1, .gone, .dat (.int .i64) to3, .gone, .gone, .gone, .gone, .gone, .dat (.int .i64) day9, .gone, .gone, .gone, .gone, .gone, .gone, .gone, .gone, .gone, .gone, .gone, .gone, .gone, .gone, .gone, .gone, .gone, .gone, .gone, .gone, .gone, .gone, .gone, .gone, .gone, .gone, .gone, .gone, .gone, .gone, .gone, .gone, .gone, .gone, .gone, .gone, .gone], []⟩
def spec_l30Cover.con : Con := { ps := [(.val, (.sl 42 (.pair (.int .i64) (.pair (.int .i64) (.pair (.int .i64) (.pair (.int .i64) (.pair (.sl 2 (.int .i64)) (.int .i64)))))))), (.val, (.sl 2 (.int .i64))), (.val, (.int .i64)), (.val, (.int .i64))], rs := [(.val, .bool)], F := fun x => spec_l30Cover.f x.1 x.2.1 x.2.2.1 x.2.2.2 }
def spec_l30Cover.cs : List (FuncId × Con) := [(72, spec_l01In.con)]
def spec_l30Cover.E : Env := envOf tab spec_l30Cover.cs 0 false
def spec_l30Cover.keep (i : Nat) : List Nat := if i = 5 then [0, 1, 3, 9, 10, 11] else if i = 2 then [0, 1, 3, 9] else []
def spec_l30Cover.at5 (n : Nat) (x : (List (Int × Int × Int × Int × List Int × Int)) × List Int × Int × Int) (M2 : St → Option (Bool)) : Code × (Ex → St → Option (Bool)) := ctx spec_l30Cover.E spec_l30Cover.keep n [.snd, .fst, .snd, .blk, .rd M2, .snd, .blk, .snd, .fst, .snd, .blk] (codeOf Try.f69) (kEnd spec_l30Cover.E Try.f69 spec_l30Cover.con x)
def spec_l30Cover.LN5 (n : Nat) (x : (List (Int × Int × Int × Int × List Int × Int)) × List Int × Int × Int) (M2 : St → Option (Bool)) : Nat → St → Option (Bool) := loopN (exec spec_l30Cover.E spec_l30Cover.keep n (bodyOf (spec_l30Cover.at5 n x M2).1)) (St.norm 0 (spec_l30Cover.keep 5)) (spec_l30Cover.at5 n x M2).2
def spec_l30Cover.at2 (n : Nat) (x : (List (Int × Int × Int × Int × List Int × Int)) × List Int × Int × Int) : Code × (Ex → St → Option (Bool)) := ctx spec_l30Cover.E spec_l30Cover.keep n [.snd, .fst, .snd, .blk] (codeOf Try.f69) (kEnd spec_l30Cover.E Try.f69 spec_l30Cover.con x)
def spec_l30Cover.LN2 (n : Nat) (x : (List (Int × Int × Int × Int × List Int × Int)) × List Int × Int × Int) : Nat → St → Option (Bool) := loopN (exec spec_l30Cover.E spec_l30Cover.keep n (bodyOf (spec_l30Cover.at2 n x).1)) (St.norm 0 (spec_l30Cover.keep 2)) (spec_l30Cover.at2 n x).2
set_option maxRecDepth 100000 in
theorem spec_l30Cover.lem5 (n : Nat) (x : (List (Int × Int × Int × Int × List Int × Int)) × List Int × Int × Int) (M2 : St → Option (Bool)) : ∀ (k : Nat) (permits0 : List (Int × Int × Int × Int × List Int × Int)) (some1 : List Int) (to3 : Int) (day9 : Int) (last10 : Int) (i11 : Int), spec_l30Cover.LN5 n x M2 k (spec_l30Cover.st5 permits0 some1 to3 day9 last10 i11) = spec_l30Cover.l5 n (fun permits0 some1 to3 day9 => M2 (spec_l30Cover.st2 permits0 some1 to3 day9)) k permits0 some1 to3 day9 last10 i11 := by
  intro k
  induction k with
  | zero => intro permits0 some1 to3 day9 last10 i11; rfl
  | succ k ih =>
    intro permits0 some1 to3 day9 last10 i11
    have h : spec_l30Cover.LN5 n x M2 (k + 1) (spec_l30Cover.st5 permits0 some1 to3 day9 last10 i11) = spec_l30Cover.g5 (fun permits0 some1 to3 day9 => M2 (spec_l30Cover.st2 permits0 some1 to3 day9)) (fun permits0 some1 to3 day9 last10 i11 => spec_l30Cover.LN5 n x M2 k (spec_l30Cover.st5 permits0 some1 to3 day9 last10 i11)) permits0 some1 to3 day9 last10 i11 := by kernel_rfl
    rw [h]
    simp only [ih]
    rfl
set_option maxRecDepth 100000 in
theorem spec_l30Cover.lem2 (n : Nat) (x : (List (Int × Int × Int × Int × List Int × Int)) × List Int × Int × Int) : ∀ (k : Nat) (permits0 : List (Int × Int × Int × Int × List Int × Int)) (some1 : List Int) (to3 : Int) (day9 : Int), spec_l30Cover.LN2 n x k (spec_l30Cover.st2 permits0 some1 to3 day9) = spec_l30Cover.l2 n k permits0 some1 to3 day9 := by
  intro k
  induction k with
  | zero => intro permits0 some1 to3 day9; rfl
  | succ k ih =>
    intro permits0 some1 to3 day9
    have h : spec_l30Cover.LN2 n x (k + 1) (spec_l30Cover.st2 permits0 some1 to3 day9) = spec_l30Cover.g2 (fun permits0 some1 to3 day9 last10 i11 => spec_l30Cover.LN5 n x (spec_l30Cover.LN2 n x k) n (spec_l30Cover.st5 permits0 some1 to3 day9 last10 i11)) (fun permits0 some1 to3 day9 => spec_l30Cover.LN2 n x k (spec_l30Cover.st2 permits0 some1 to3 day9)) permits0 some1 to3 day9 := by kernel_rfl
    rw [h]
    simp only [ih, spec_l30Cover.lem5]
    rfl
set_option maxRecDepth 100000 in
theorem spec_l30Cover.body (n : Nat) (x : (List (Int × Int × Int × Int × List Int × Int)) × List Int × Int × Int) : bodyF spec_l30Cover.E spec_l30Cover.keep n Try.f69 spec_l30Cover.con x = spec_l30Cover.fn n x.1 x.2.1 x.2.2.1 x.2.2.2 := by
  have h : bodyF spec_l30Cover.E spec_l30Cover.keep n Try.f69 spec_l30Cover.con x = spec_l30Cover.top (fun permits0 some1 to3 day9 => spec_l30Cover.LN2 n x n (spec_l30Cover.st2 permits0 some1 to3 day9)) x.1 x.2.1 x.2.2.1 x.2.2.2 := by kernel_rfl
  rw [h]
  simp only [spec_l30Cover.lem2]
  rfl
set_option maxRecDepth 100000 in
theorem spec_l30Cover.good : Good Try.prog 69 spec_l30Cover.con :=
  good_of tabok (cs := spec_l30Cover.cs) ⟨spec_l01In.good, trivial⟩ 0 false (fn := Try.f69) Try.func69 rfl (by decide) (by simp [spec_l30Cover.con]) spec_l30Cover.keep NN (fun _ => rfl) (fun x => spec_l30Cover.body NN x)
end
end Go.Ev.Try

namespace Go.Ev.Try
open Go.Proofs Go.Pl
set_option linter.unusedVariables false
noncomputable section
def spec_FewestPermits.st10 (permits0 : List (Int × Int × Int × Int × List Int × Int)) (from1 : Int) (to2 : Int) (n9 : Int) (k10 : Int) (i12 : Int) (lists11 : List (List Int)) : St := ⟨[.dat (.sl 42 (.pair (.int .i64) (.pair (.int .i64) (.pair (.int .i64) (.pair (.int .i64) (.pair (.sl 2 (.int .i64)) (.int .i64))))))) permits0, .dat (.int .i64) from1, .dat (.int .i64) to2, .gone, .gone, .gone, .gone, .gone, .gone, .dat (.int .i64) n9, .dat (.int .i64) k10, .ref 0, .dat (.int .i64) i12, .gone, .gone, .gone, .gone, .gone, .gone, .gone, .gone, .gone, .gone, .gone, .gone, .gone, .gone, .gone, .gone, .gone, .gone, .gone, .gone, .gone, .gone, .gone, .gone, .gone, .gone, .gone, .gone, .gone, .gone, .gone, .gone, .gone, .gone, .gone, .gone], [.row 34 (.sl 2 (.int .i64)) lists11 none]⟩
def spec_FewestPermits.st6 (permits0 : List (Int × Int × Int × Int × List Int × Int)) (from1 : Int) (to2 : Int) (n9 : Int) (k10 : Int) : St := ⟨[.dat (.sl 42 (.pair (.int .i64) (.pair (.int .i64) (.pair (.int .i64) (.pair (.int .i64) (.pair (.sl 2 (.int .i64)) (.int .i64))))))) permits0, .dat (.int .i64) from1, .dat (.int .i64) to2, .gone, .gone, .gone, .gone, .gone, .gone, .dat (.int .i64) n9, .dat (.int .i64) k10, .gone, .gone, .gone, .gone, .gone, .gone, .gone, .gone, .gone, .gone, .gone, .gone, .gone, .gone, .gone, .gone, .gone, .gone, .gone, .gone, .gone, .gone, .gone, .gone, .gone, .gone, .gone, .gone, .gone, .gone, .gone, .gone, .gone, .gone, .gone, .gone, .gone, .gone], []⟩
def spec_FewestPermits.con : Con := { ps := [(.val, (.sl 42 (.pair (.int .i64) (.pair (.int .i64) (.pair (.int .i64) (.pair (.int .i64) (.pair (.sl 2 (.int .i64)) (.int .i64)))))))), (.val, (.int .i64)), (.val, (.int .i64))], rs := [(.val, (.sl 2 (.int .i64))), (.val, (.int .i64))], F := fun x => spec_FewestPermits.f x.1 x.2.1 x.2.2 }
def spec_FewestPermits.cs : List (FuncId × Con) := [(55, spec_l30Days.con), (68, (spec_l19Lists.con (fun a0 a1 a2 a3 => spec_l19Lists.f a0 a1 a2 a3))), (69, spec_l30Cover.con)]
def spec_FewestPermits.E : Env := envOf tab spec_FewestPermits.cs 0 false
def spec_FewestPermits.keep (i : Nat) : List Nat := if i = 10 then [0, 1, 2, 9, 10, 11, 12] else if i = 6 then [0, 1, 2, 9, 10] else []
def spec_FewestPermits.at10 (n : Nat) (x : (List (Int × Int × Int × Int × List Int × Int)) × Int × Int) (M6 : St → Option ((List Int × Int))) : Code × (Ex → St → Option ((List Int × Int))) := ctx spec_FewestPermits.E spec_FewestPermits.keep n [.snd, .snd, .snd, .snd, .fst, .snd, .blk, .rd M6, .snd, .fst, .blk, .snd, .snd, .blk] (codeOf Try.f19) (kEnd spec_FewestPermits.E Try.f19 spec_FewestPermits.con x)
def spec_FewestPermits.LN10 (n : Nat) (x : (List (Int × Int × Int × Int × List Int × Int)) × Int × Int) (M6 : St → Option ((List Int × Int))) : Nat → St → Option ((List Int × Int)) := loopN (exec spec_FewestPermits.E spec_FewestPermits.keep n (bodyOf (spec_FewestPermits.at10 n x M6).1)) (St.norm 0 (spec_FewestPermits.keep 10)) (spec_FewestPermits.at10 n x M6).2
def spec_FewestPermits.at6 (n : Nat) (x : (List (Int × Int × Int × Int × List Int × Int)) × Int × Int) : Code × (Ex → St → Option ((List Int × Int))) := ctx spec_FewestPermits.E spec_FewestPermits.keep n [.snd, .snd, .snd, .snd, .fst, .snd, .blk] (codeOf Try.f19) (kEnd spec_FewestPermits.E Try.f19 spec_FewestPermits.con x)
def spec_FewestPermits.LN6 (n : Nat) (x : (List (Int × Int × Int × Int × List Int × Int)) × Int × Int) : Nat → St → Option ((List Int × Int)) := loopN (exec spec_FewestPermits.E spec_FewestPermits.keep n (bodyOf (spec_FewestPermits.at6 n x).1)) (St.norm 0 (spec_FewestPermits.keep 6)) (spec_FewestPermits.at6 n x).2
set_option maxRecDepth 100000 in
theorem spec_FewestPermits.lem10 (n : Nat) (x : (List (Int × Int × Int × Int × List Int × Int)) × Int × Int) (M6 : St → Option ((List Int × Int))) : ∀ (k : Nat) (permits0 : List (Int × Int × Int × Int × List Int × Int)) (from1 : Int) (to2 : Int) (n9 : Int) (k10 : Int) (i12 : Int) (lists11 : List (List Int)), spec_FewestPermits.LN10 n x M6 k (spec_FewestPermits.st10 permits0 from1 to2 n9 k10 i12 lists11) = spec_FewestPermits.l10 n (fun permits0 from1 to2 n9 k10 => M6 (spec_FewestPermits.st6 permits0 from1 to2 n9 k10)) k permits0 from1 to2 n9 k10 i12 lists11 := by
  intro k
  induction k with
  | zero => intro permits0 from1 to2 n9 k10 i12 lists11; rfl
  | succ k ih =>
    intro permits0 from1 to2 n9 k10 i12 lists11
    have h : spec_FewestPermits.LN10 n x M6 (k + 1) (spec_FewestPermits.st10 permits0 from1 to2 n9 k10 i12 lists11) = spec_FewestPermits.g10 (fun permits0 from1 to2 n9 k10 => M6 (spec_FewestPermits.st6 permits0 from1 to2 n9 k10)) (fun permits0 from1 to2 n9 k10 i12 lists11 => spec_FewestPermits.LN10 n x M6 k (spec_FewestPermits.st10 permits0 from1 to2 n9 k10 i12 lists11)) permits0 from1 to2 n9 k10 i12 lists11 := by kernel_rfl
    rw [h]
    simp only [ih]
    rfl
set_option maxRecDepth 100000 in
theorem spec_FewestPermits.lem6 (n : Nat) (x : (List (Int × Int × Int × Int × List Int × Int)) × Int × Int) : ∀ (k : Nat) (permits0 : List (Int × Int × Int × Int × List Int × Int)) (from1 : Int) (to2 : Int) (n9 : Int) (k10 : Int), spec_FewestPermits.LN6 n x k (spec_FewestPermits.st6 permits0 from1 to2 n9 k10) = spec_FewestPermits.l6 n k permits0 from1 to2 n9 k10 := by
  intro k
  induction k with
  | zero => intro permits0 from1 to2 n9 k10; rfl
  | succ k ih =>
    intro permits0 from1 to2 n9 k10
    have h : spec_FewestPermits.LN6 n x (k + 1) (spec_FewestPermits.st6 permits0 from1 to2 n9 k10) = spec_FewestPermits.g6 (fun permits0 from1 to2 n9 k10 i12 lists11 => spec_FewestPermits.LN10 n x (spec_FewestPermits.LN6 n x k) n (spec_FewestPermits.st10 permits0 from1 to2 n9 k10 i12 lists11)) (fun permits0 from1 to2 n9 k10 => spec_FewestPermits.LN6 n x k (spec_FewestPermits.st6 permits0 from1 to2 n9 k10)) permits0 from1 to2 n9 k10 := by kernel_rfl
    rw [h]
    simp only [ih, spec_FewestPermits.lem10]
    rfl
set_option maxRecDepth 100000 in
theorem spec_FewestPermits.body (n : Nat) (x : (List (Int × Int × Int × Int × List Int × Int)) × Int × Int) : bodyF spec_FewestPermits.E spec_FewestPermits.keep n Try.f19 spec_FewestPermits.con x = spec_FewestPermits.fn n x.1 x.2.1 x.2.2 := by
  have h : bodyF spec_FewestPermits.E spec_FewestPermits.keep n Try.f19 spec_FewestPermits.con x = spec_FewestPermits.top (fun permits0 from1 to2 n9 k10 => spec_FewestPermits.LN6 n x n (spec_FewestPermits.st6 permits0 from1 to2 n9 k10)) x.1 x.2.1 x.2.2 := by kernel_rfl
  rw [h]
  simp only [spec_FewestPermits.lem6]
  rfl
set_option maxRecDepth 100000 in
theorem spec_FewestPermits.good : Good Try.prog 19 spec_FewestPermits.con :=
  good_of tabok (cs := spec_FewestPermits.cs) ⟨spec_l30Days.good, spec_l19Lists.good, spec_l30Cover.good, trivial⟩ 0 false (fn := Try.f19) Try.func19 rfl (by decide) (by simp [spec_FewestPermits.con]) spec_FewestPermits.keep NN (fun _ => rfl) (fun x => spec_FewestPermits.body NN x)
end
end Go.Ev.Try

namespace Go.Ev.Try
open Go.Proofs Go.Pl
set_option linter.unusedVariables false
noncomputable section
def spec_DrawRefusalsText.con : Con := { ps := [(.val, (.sl 5 (.int .u8)))], rs := [(.val, (.int .i64))], F := fun x => spec_DrawRefusalsText.f x }
def spec_DrawRefusalsText.cs : List (FuncId × Con) := [(64, spec_l01From.con), (66, spec_l01Next.con)]
def spec_DrawRefusalsText.E : Env := envOf tab spec_DrawRefusalsText.cs 0 false
def spec_DrawRefusalsText.keep (i : Nat) : List Nat := []
set_option maxRecDepth 100000 in
theorem spec_DrawRefusalsText.body (n : Nat) (x : List Int) : bodyF spec_DrawRefusalsText.E spec_DrawRefusalsText.keep n Try.f20 spec_DrawRefusalsText.con x = spec_DrawRefusalsText.fn n x := by
  have h : bodyF spec_DrawRefusalsText.E spec_DrawRefusalsText.keep n Try.f20 spec_DrawRefusalsText.con x = spec_DrawRefusalsText.top x := by kernel_rfl
  exact h
set_option maxRecDepth 100000 in
theorem spec_DrawRefusalsText.good : Good Try.prog 20 spec_DrawRefusalsText.con :=
  good_of tabok (cs := spec_DrawRefusalsText.cs) ⟨spec_l01From.good, spec_l01Next.good, trivial⟩ 0 false (fn := Try.f20) Try.func20 rfl (by decide) (by simp [spec_DrawRefusalsText.con]) spec_DrawRefusalsText.keep NN (fun _ => rfl) (fun x => spec_DrawRefusalsText.body NN x)
end
end Go.Ev.Try

namespace Go.Ev.Try
open Go.Proofs Go.Pl
set_option linter.unusedVariables false
noncomputable section
def impl_joinWith.st3 (between1 : ByteArray) (out5 : ByteArray) (v8 : List ByteArray) (v9 : Int) (v10 : Int) : St := ⟨[.gone, .dat .str between1, .gone, .gone, .gone, .dat .str out5, .gone, .gone, .dat (.sl 9 .str) v8, .dat (.int .i64) v9, .dat (.int .i64) v10, .gone, .gone, .gone, .gone, .gone, .gone, .gone, .gone, .gone, .gone, .gone, .gone, .gone, .gone], []⟩
def impl_joinWith.con : Con := { ps := [(.val, (.sl 9 .str)), (.val, .str)], rs := [(.val, .str)], F := fun x => impl_joinWith.f x.1 x.2 }
def impl_joinWith.cs : List (FuncId × Con) := []
def impl_joinWith.E : Env := envOf tab impl_joinWith.cs 0 false
def impl_joinWith.keep (i : Nat) : List Nat := if i = 3 then [1, 5, 8, 9, 10] else []
def impl_joinWith.at3 (n : Nat) (x : List ByteArray × ByteArray) : Code × (Ex → St → Option (ByteArray)) := ctx impl_joinWith.E impl_joinWith.keep n [.snd, .snd, .fst, .snd, .blk] (codeOf Try.f71) (kEnd impl_joinWith.E Try.f71 impl_joinWith.con x)
def impl_joinWith.LN3 (n : Nat) (x : List ByteArray × ByteArray) : Nat → St → Option (ByteArray) := loopN (exec impl_joinWith.E impl_joinWith.keep n (bodyOf (impl_joinWith.at3 n x).1)) (St.norm 0 (impl_joinWith.keep 3)) (impl_joinWith.at3 n x).2
set_option maxRecDepth 100000 in
theorem impl_joinWith.lem3 (n : Nat) (x : List ByteArray × ByteArray) : ∀ (k : Nat) (between1 : ByteArray) (out5 : ByteArray) (v8 : List ByteArray) (v9 : Int) (v10 : Int), impl_joinWith.LN3 n x k (impl_joinWith.st3 between1 out5 v8 v9 v10) = impl_joinWith.l3 n k between1 out5 v8 v9 v10 := by
  intro k
  induction k with
  | zero => intro between1 out5 v8 v9 v10; rfl
  | succ k ih =>
    intro between1 out5 v8 v9 v10
    have h : impl_joinWith.LN3 n x (k + 1) (impl_joinWith.st3 between1 out5 v8 v9 v10) = impl_joinWith.g3 (fun between1 out5 v8 v9 v10 => impl_joinWith.LN3 n x k (impl_joinWith.st3 between1 out5 v8 v9 v10)) between1 out5 v8 v9 v10 := by kernel_rfl
    rw [h]
    simp only [ih]
    rfl
set_option maxRecDepth 100000 in
theorem impl_joinWith.body (n : Nat) (x : List ByteArray × ByteArray) : bodyF impl_joinWith.E impl_joinWith.keep n Try.f71 impl_joinWith.con x = impl_joinWith.fn n x.1 x.2 := by
  have h : bodyF impl_joinWith.E impl_joinWith.keep n Try.f71 impl_joinWith.con x = impl_joinWith.top (fun between1 out5 v8 v9 v10 => impl_joinWith.LN3 n x n (impl_joinWith.st3 between1 out5 v8 v9 v10)) x.1 x.2 := by kernel_rfl
  rw [h]
  simp only [impl_joinWith.lem3]
  rfl
set_option maxRecDepth 100000 in
theorem impl_joinWith.good : Good Try.prog 71 impl_joinWith.con :=
  good_of tabok (cs := impl_joinWith.cs) trivial 0 false (fn := Try.f71) Try.func71 rfl (by decide) (by simp [impl_joinWith.con]) impl_joinWith.keep NN (fun _ => rfl) (fun x => impl_joinWith.body NN x)
end
end Go.Ev.Try

namespace Go.Ev.Try
open Go.Proofs Go.Pl
set_option linter.unusedVariables false
noncomputable section
def impl_RefusalsText.st5 (refusals0 : Int) (v11 : Int) (v12 : Int) (words4 : List ByteArray) (v10 : List ByteArray) : St := ⟨[.dat (.int .i64) refusals0, .gone, .gone, .gone, .ref 0, .gone, .gone, .gone, .gone, .gone, .ref 1, .dat (.int .i64) v11, .dat (.int .i64) v12, .gone, .gone, .gone, .gone, .gone, .gone, .gone, .gone, .gone, .gone, .gone, .gone, .gone, .gone, .gone, .gone, .gone, .gone, .gone], [.row 9 .str words4 none, .row 9 .str v10 none]⟩
def impl_RefusalsText.con : Con := { ps := [(.val, (.int .i64))], rs := [(.val, .str), (.val, (.int .i64))], F := fun x => impl_RefusalsText.f x }
def impl_RefusalsText.cs : List (FuncId × Con) := [(70, impl_within.con), (71, impl_joinWith.con)]
def impl_RefusalsText.E : Env := envOf tab impl_RefusalsText.cs 0 false
def impl_RefusalsText.keep (i : Nat) : List Nat := if i = 5 then [0, 4, 10, 11, 12] else []
def impl_RefusalsText.at5 (n : Nat) (x : Int) : Code × (Ex → St → Option ((ByteArray × Int))) := ctx impl_RefusalsText.E impl_RefusalsText.keep n [.snd, .snd, .snd, .fst, .snd, .blk] (codeOf Try.f21) (kEnd impl_RefusalsText.E Try.f21 impl_RefusalsText.con x)
def impl_RefusalsText.LN5 (n : Nat) (x : Int) : Nat → St → Option ((ByteArray × Int)) := loopN (exec impl_RefusalsText.E impl_RefusalsText.keep n (bodyOf (impl_RefusalsText.at5 n x).1)) (St.norm 0 (impl_RefusalsText.keep 5)) (impl_RefusalsText.at5 n x).2
set_option maxRecDepth 100000 in
theorem impl_RefusalsText.lem5 (n : Nat) (x : Int) : ∀ (k : Nat) (refusals0 : Int) (v11 : Int) (v12 : Int) (words4 : List ByteArray) (v10 : List ByteArray), impl_RefusalsText.LN5 n x k (impl_RefusalsText.st5 refusals0 v11 v12 words4 v10) = impl_RefusalsText.l5 n k refusals0 v11 v12 words4 v10 := by
  intro k
  induction k with
  | zero => intro refusals0 v11 v12 words4 v10; rfl
  | succ k ih =>
    intro refusals0 v11 v12 words4 v10
    have h : impl_RefusalsText.LN5 n x (k + 1) (impl_RefusalsText.st5 refusals0 v11 v12 words4 v10) = impl_RefusalsText.g5 (fun refusals0 v11 v12 words4 v10 => impl_RefusalsText.LN5 n x k (impl_RefusalsText.st5 refusals0 v11 v12 words4 v10)) refusals0 v11 v12 words4 v10 := by kernel_rfl
    rw [h]
    simp only [ih]
    rfl
set_option maxRecDepth 100000 in
theorem impl_RefusalsText.body (n : Nat) (x : Int) : bodyF impl_RefusalsText.E impl_RefusalsText.keep n Try.f21 impl_RefusalsText.con x = impl_RefusalsText.fn n x := by
  have h : bodyF impl_RefusalsText.E impl_RefusalsText.keep n Try.f21 impl_RefusalsText.con x = impl_RefusalsText.top (fun refusals0 v11 v12 words4 v10 => impl_RefusalsText.LN5 n x n (impl_RefusalsText.st5 refusals0 v11 v12 words4 v10)) x := by kernel_rfl
  rw [h]
  simp only [impl_RefusalsText.lem5]
  rfl
set_option maxRecDepth 100000 in
theorem impl_RefusalsText.good : Good Try.prog 21 impl_RefusalsText.con :=
  good_of tabok (cs := impl_RefusalsText.cs) ⟨impl_within.good, impl_joinWith.good, trivial⟩ 0 false (fn := Try.f21) Try.func21 rfl (by decide) (by simp [impl_RefusalsText.con]) impl_RefusalsText.keep NN (fun _ => rfl) (fun x => impl_RefusalsText.body NN x)
end
end Go.Ev.Try

namespace Go.Ev.Try
open Go.Proofs Go.Pl
set_option linter.unusedVariables false
noncomputable section
def spec_l01Words.st3 (words0 : List ByteArray) (by1 : ByteArray) (out5 : ByteArray) (i6 : Int) : St := ⟨[.dat (.sl 9 .str) words0, .dat .str by1, .gone, .gone, .gone, .dat .str out5, .dat (.int .i64) i6, .gone, .gone, .gone, .gone, .gone, .gone, .gone, .gone, .gone, .gone, .gone, .gone, .gone, .gone, .gone, .gone, .gone, .gone], []⟩
def spec_l01Words.con : Con := { ps := [(.val, (.sl 9 .str)), (.val, .str)], rs := [(.val, .str)], F := fun x => spec_l01Words.f x.1 x.2 }
def spec_l01Words.cs : List (FuncId × Con) := []
def spec_l01Words.E : Env := envOf tab spec_l01Words.cs 0 false
def spec_l01Words.keep (i : Nat) : List Nat := if i = 3 then [0, 1, 5, 6] else []
def spec_l01Words.at3 (n : Nat) (x : List ByteArray × ByteArray) : Code × (Ex → St → Option (ByteArray)) := ctx spec_l01Words.E spec_l01Words.keep n [.snd, .snd, .fst, .snd, .blk] (codeOf Try.f73) (kEnd spec_l01Words.E Try.f73 spec_l01Words.con x)
def spec_l01Words.LN3 (n : Nat) (x : List ByteArray × ByteArray) : Nat → St → Option (ByteArray) := loopN (exec spec_l01Words.E spec_l01Words.keep n (bodyOf (spec_l01Words.at3 n x).1)) (St.norm 0 (spec_l01Words.keep 3)) (spec_l01Words.at3 n x).2
set_option maxRecDepth 100000 in
theorem spec_l01Words.lem3 (n : Nat) (x : List ByteArray × ByteArray) : ∀ (k : Nat) (words0 : List ByteArray) (by1 : ByteArray) (out5 : ByteArray) (i6 : Int), spec_l01Words.LN3 n x k (spec_l01Words.st3 words0 by1 out5 i6) = spec_l01Words.l3 n k words0 by1 out5 i6 := by
  intro k
  induction k with
  | zero => intro words0 by1 out5 i6; rfl
  | succ k ih =>
    intro words0 by1 out5 i6
    have h : spec_l01Words.LN3 n x (k + 1) (spec_l01Words.st3 words0 by1 out5 i6) = spec_l01Words.g3 (fun words0 by1 out5 i6 => spec_l01Words.LN3 n x k (spec_l01Words.st3 words0 by1 out5 i6)) words0 by1 out5 i6 := by kernel_rfl
    rw [h]
    simp only [ih]
    rfl
set_option maxRecDepth 100000 in
theorem spec_l01Words.body (n : Nat) (x : List ByteArray × ByteArray) : bodyF spec_l01Words.E spec_l01Words.keep n Try.f73 spec_l01Words.con x = spec_l01Words.fn n x.1 x.2 := by
  have h : bodyF spec_l01Words.E spec_l01Words.keep n Try.f73 spec_l01Words.con x = spec_l01Words.top (fun words0 by1 out5 i6 => spec_l01Words.LN3 n x n (spec_l01Words.st3 words0 by1 out5 i6)) x.1 x.2 := by kernel_rfl
  rw [h]
  simp only [spec_l01Words.lem3]
  rfl
set_option maxRecDepth 100000 in
theorem spec_l01Words.good : Good Try.prog 73 spec_l01Words.con :=
  good_of tabok (cs := spec_l01Words.cs) trivial 0 false (fn := Try.f73) Try.func73 rfl (by decide) (by simp [spec_l01Words.con]) spec_l01Words.keep NN (fun _ => rfl) (fun x => spec_l01Words.body NN x)
end
end Go.Ev.Try

namespace Go.Ev.Try
open Go.Proofs Go.Pl
set_option linter.unusedVariables false
noncomputable section
def spec_RefusalsText.st6 (refusals0 : Int) (i6 : Int) (words4 : List ByteArray) (out5 : List ByteArray) : St := ⟨[.dat (.int .i64) refusals0, .gone, .gone, .gone, .ref 0, .ref 1, .dat (.int .i64) i6, .gone, .gone, .gone, .gone, .gone, .gone, .gone, .gone, .gone, .gone, .gone, .gone, .gone, .gone, .gone, .gone, .gone, .gone, .gone, .gone, .gone, .gone, .gone, .gone, .gone, .gone, .gone, .gone], [.row 9 .str words4 none, .row 9 .str out5 none]⟩
def spec_RefusalsText.con : Con := { ps := [(.val, (.int .i64))], rs := [(.val, .str), (.val, (.int .i64))], F := fun x => spec_RefusalsText.f x }
def spec_RefusalsText.cs : List (FuncId × Con) := [(72, spec_l01In.con), (73, spec_l01Words.con)]
def spec_RefusalsText.E : Env := envOf tab spec_RefusalsText.cs 0 false
def spec_RefusalsText.keep (i : Nat) : List Nat := if i = 6 then [0, 4, 5, 6] else []
def spec_RefusalsText.at6 (n : Nat) (x : Int) : Code × (Ex → St → Option ((ByteArray × Int))) := ctx spec_RefusalsText.E spec_RefusalsText.keep n [.snd, .snd, .snd, .snd, .fst, .snd, .blk] (codeOf Try.f22) (kEnd spec_RefusalsText.E Try.f22 spec_RefusalsText.con x)
def spec_RefusalsText.LN6 (n : Nat) (x : Int) : Nat → St → Option ((ByteArray × Int)) := loopN (exec spec_RefusalsText.E spec_RefusalsText.keep n (bodyOf (spec_RefusalsText.at6 n x).1)) (St.norm 0 (spec_RefusalsText.keep 6)) (spec_RefusalsText.at6 n x).2
set_option maxRecDepth 100000 in
theorem spec_RefusalsText.lem6 (n : Nat) (x : Int) : ∀ (k : Nat) (refusals0 : Int) (i6 : Int) (words4 : List ByteArray) (out5 : List ByteArray), spec_RefusalsText.LN6 n x k (spec_RefusalsText.st6 refusals0 i6 words4 out5) = spec_RefusalsText.l6 n k refusals0 i6 words4 out5 := by
  intro k
  induction k with
  | zero => intro refusals0 i6 words4 out5; rfl
  | succ k ih =>
    intro refusals0 i6 words4 out5
    have h : spec_RefusalsText.LN6 n x (k + 1) (spec_RefusalsText.st6 refusals0 i6 words4 out5) = spec_RefusalsText.g6 (fun refusals0 i6 words4 out5 => spec_RefusalsText.LN6 n x k (spec_RefusalsText.st6 refusals0 i6 words4 out5)) refusals0 i6 words4 out5 := by kernel_rfl
    rw [h]
    simp only [ih]
    rfl
set_option maxRecDepth 100000 in
theorem spec_RefusalsText.body (n : Nat) (x : Int) : bodyF spec_RefusalsText.E spec_RefusalsText.keep n Try.f22 spec_RefusalsText.con x = spec_RefusalsText.fn n x := by
  have h : bodyF spec_RefusalsText.E spec_RefusalsText.keep n Try.f22 spec_RefusalsText.con x = spec_RefusalsText.top (fun refusals0 i6 words4 out5 => spec_RefusalsText.LN6 n x n (spec_RefusalsText.st6 refusals0 i6 words4 out5)) x := by kernel_rfl
  rw [h]
  simp only [spec_RefusalsText.lem6]
  rfl
set_option maxRecDepth 100000 in
theorem spec_RefusalsText.good : Good Try.prog 22 spec_RefusalsText.con :=
  good_of tabok (cs := spec_RefusalsText.cs) ⟨spec_l01In.good, spec_l01Words.good, trivial⟩ 0 false (fn := Try.f22) Try.func22 rfl (by decide) (by simp [spec_RefusalsText.con]) spec_RefusalsText.keep NN (fun _ => rfl) (fun x => spec_RefusalsText.body NN x)
end
end Go.Ev.Try

namespace Go.Ev.Try
open Go.Proofs Go.Pl
set_option linter.unusedVariables false
noncomputable section
def laws_likeInts.st4 (a0 : List Int) (b1 : List Int) (i5 : Int) : St := ⟨[.dat (.sl 2 (.int .i64)) a0, .dat (.sl 2 (.int .i64)) b1, .gone, .gone, .gone, .dat (.int .i64) i5, .gone, .gone, .gone, .gone, .gone, .gone, .gone, .gone, .gone, .gone, .gone, .gone, .gone, .gone, .gone, .gone, .gone, .gone, .gone, .gone], []⟩
def laws_likeInts.con : Con := { ps := [(.val, (.sl 2 (.int .i64))), (.val, (.sl 2 (.int .i64)))], rs := [(.val, .bool)], F := fun x => laws_likeInts.f x.1 x.2 }
def laws_likeInts.cs : List (FuncId × Con) := []
def laws_likeInts.E : Env := envOf tab laws_likeInts.cs 0 false
def laws_likeInts.keep (i : Nat) : List Nat := if i = 4 then [0, 1, 5] else []
def laws_likeInts.at4 (n : Nat) (x : List Int × List Int) : Code × (Ex → St → Option (Bool)) := ctx laws_likeInts.E laws_likeInts.keep n [.snd, .snd, .fst, .snd, .blk] (codeOf Try.f23) (kEnd laws_likeInts.E Try.f23 laws_likeInts.con x)
def laws_likeInts.LN4 (n : Nat) (x : List Int × List Int) : Nat → St → Option (Bool) := loopN (exec laws_likeInts.E laws_likeInts.keep n (bodyOf (laws_likeInts.at4 n x).1)) (St.norm 0 (laws_likeInts.keep 4)) (laws_likeInts.at4 n x).2
set_option maxRecDepth 100000 in
theorem laws_likeInts.lem4 (n : Nat) (x : List Int × List Int) : ∀ (k : Nat) (a0 : List Int) (b1 : List Int) (i5 : Int), laws_likeInts.LN4 n x k (laws_likeInts.st4 a0 b1 i5) = laws_likeInts.l4 n k a0 b1 i5 := by
  intro k
  induction k with
  | zero => intro a0 b1 i5; rfl
  | succ k ih =>
    intro a0 b1 i5
    have h : laws_likeInts.LN4 n x (k + 1) (laws_likeInts.st4 a0 b1 i5) = laws_likeInts.g4 (fun a0 b1 i5 => laws_likeInts.LN4 n x k (laws_likeInts.st4 a0 b1 i5)) a0 b1 i5 := by kernel_rfl
    rw [h]
    simp only [ih]
    rfl
set_option maxRecDepth 100000 in
theorem laws_likeInts.body (n : Nat) (x : List Int × List Int) : bodyF laws_likeInts.E laws_likeInts.keep n Try.f23 laws_likeInts.con x = laws_likeInts.fn n x.1 x.2 := by
  have h : bodyF laws_likeInts.E laws_likeInts.keep n Try.f23 laws_likeInts.con x = laws_likeInts.top (fun a0 b1 i5 => laws_likeInts.LN4 n x n (laws_likeInts.st4 a0 b1 i5)) x.1 x.2 := by kernel_rfl
  rw [h]
  simp only [laws_likeInts.lem4]
  rfl
set_option maxRecDepth 100000 in
theorem laws_likeInts.good : Good Try.prog 23 laws_likeInts.con :=
  good_of tabok (cs := laws_likeInts.cs) trivial 0 false (fn := Try.f23) Try.func23 rfl (by decide) (by simp [laws_likeInts.con]) laws_likeInts.keep NN (fun _ => rfl) (fun x => laws_likeInts.body NN x)
end
end Go.Ev.Try
