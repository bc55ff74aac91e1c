/- Part 3 of what the law FnExactDeskAfter stands on: an evaluator of the model's code, proved sound; the functions as plain texts; their contracts. -/
import Derived.Test.YtijddinlmamclaaGreatEvExactDeskAfter2
namespace Go.Ev.Tryz
open Go.Proofs Go.Pl
set_option linter.unusedVariables false
noncomputable section
def QY.st2 (p : List YA) (q : ByteArray) (t2 : Int) (v9 : List YA) (v10 : Int) (v11 : Int) : St := ⟨[.dat (.sl 70 (.pair (.int .i64) (.pair .str (.int .i64)))) p, .dat .str q, .dat (.int .i64) t2, .gone, .gone, .gone, .gone, .gone, .gone, .dat (.sl 70 (.pair (.int .i64) (.pair .str (.int .i64)))) v9, .dat (.int .i64) v10, .dat (.int .i64) v11, .gone, .gone, .gone, .gone, .gone, .gone, .gone, .gone, .gone, .gone, .gone, .gone, .gone, .gone, .gone, .gone, .gone, .gone, .gone, .gone, .gone, .gone, .gone, .gone, .gone, .gone], []⟩
def QY.con : Con := { ps := [(.val, (.sl 70 (.pair (.int .i64) (.pair .str (.int .i64))))), (.val, .str), (.val, (.int .i64))], rs := [(.val, .bool)], F := fun x => QY.f x.1 x.2.1 x.2.2 }
def QY.cs : List (FuncId × Con) := [(87, QD.con)]
def QY.E : Env := envOf tab QY.cs 0 false
def QY.keep (i : Nat) : List Nat := if i = 2 then [0, 1, 2, 9, 10, 11] else []
def QY.at2 (n : Nat) (x : YD × ByteArray × Int) : Code × (Ex → St → Option (Bool)) := ctx QY.E QY.keep n [.snd, .fst, .snd, .blk] (codeOf Tryz.f131) (kEnd QY.E Tryz.f131 QY.con x)
def QY.LN2 (n : Nat) (x : YD × ByteArray × Int) : Nat → St → Option (Bool) := loopN (exec QY.E QY.keep n (bodyOf (QY.at2 n x).1)) (St.norm 0 (QY.keep 2)) (QY.at2 n x).2
set_option maxRecDepth 100000 in
theorem QY.lem2 (n : Nat) (x : YD × ByteArray × Int) : ∀ (k : Nat) (p : List YA) (q : ByteArray) (t2 : Int) (v9 : List YA) (v10 : Int) (v11 : Int), QY.LN2 n x k (QY.st2 p q t2 v9 v10 v11) = QY.l2 n k p q t2 v9 v10 v11 := by
 intro k
 induction k with
 | zero => intro p q t2 v9 v10 v11; rfl
 | succ k ih =>
  intro p q t2 v9 v10 v11
  have h : QY.LN2 n x (k + 1) (QY.st2 p q t2 v9 v10 v11) = QY.g2 (fun p q t2 v9 v10 v11 => QY.LN2 n x k (QY.st2 p q t2 v9 v10 v11)) p q t2 v9 v10 v11 := by kernel_rfl
  rw [h]
  simp only [ih]
  rfl
set_option maxRecDepth 100000 in
theorem QY.body (n : Nat) (x : YD × ByteArray × Int) : bodyF QY.E QY.keep n Tryz.f131 QY.con x = QY.fn n x.1 x.2.1 x.2.2 := by
 have h : bodyF QY.E QY.keep n Tryz.f131 QY.con x = QY.top (fun p q t2 v9 v10 v11 => QY.LN2 n x n (QY.st2 p q t2 v9 v10 v11)) x.1 x.2.1 x.2.2 := by kernel_rfl
 rw [h]
 simp only [QY.lem2]
 rfl
set_option maxRecDepth 100000 in
theorem QY.good : Good Tryz.prog 131 QY.con :=
 good_of tabok (cs := QY.cs) ⟨QD.good, trivial⟩ 0 false (fn := Tryz.f131) Tryz.func131 rfl (by decide) (by simp [QY.con]) QY.keep NN (fun _ => rfl) (fun x => QY.body NN x)
end
end Go.Ev.Tryz

namespace Go.Ev.Tryz
open Go.Proofs Go.Pl
set_option linter.unusedVariables false
noncomputable section
def QaS.con : Con := { ps := [(.val, (.sl 70 (.pair (.int .i64) (.pair .str (.int .i64))))), (.val, .str), (.val, (.int .i64))], rs := [(.val, .bool), (.val, (.int .i64))], F := fun x => QaS.f x.1 x.2.1 x.2.2 }
def QaS.cs : List (FuncId × Con) := [(130, QaG.con), (131, QY.con)]
def QaS.E : Env := envOf tab QaS.cs 0 false
def QaS.keep (i : Nat) : List Nat := []
set_option maxRecDepth 100000 in
theorem QaS.body (n : Nat) (x : YD × ByteArray × Int) : bodyF QaS.E QaS.keep n Tryz.f98 QaS.con x = QaS.fn n x.1 x.2.1 x.2.2 := by
 have h : bodyF QaS.E QaS.keep n Tryz.f98 QaS.con x = QaS.top x.1 x.2.1 x.2.2 := by kernel_rfl
 exact h
set_option maxRecDepth 100000 in
theorem QaS.good : Good Tryz.prog 98 QaS.con :=
 good_of tabok (cs := QaS.cs) ⟨QaG.good, QY.good, trivial⟩ 0 false (fn := Tryz.f98) Tryz.func98 rfl (by decide) (by simp [QaS.con]) QaS.keep NN (fun _ => rfl) (fun x => QaS.body NN x)
end
end Go.Ev.Tryz

namespace Go.Ev.Tryz
open Go.Proofs Go.Pl
set_option linter.unusedVariables false
noncomputable section
def Qz.st2 (p : ByteArray) (v7 : List ByteArray) (v8 : Int) (v9 : Int) : St := ⟨[.gone, .dat .str p, .gone, .gone, .gone, .gone, .gone, .dat (.sl 9 .str) v7, .dat (.int .i64) v8, .dat (.int .i64) v9, .gone, .gone, .gone, .gone, .gone, .gone, .gone, .gone, .gone], []⟩
def Qz.con : Con := { ps := [(.val, (.sl 9 .str)), (.val, .str)], rs := [(.val, (.int .i64))], F := fun x => Qz.f x.1 x.2 }
def Qz.cs : List (FuncId × Con) := []
def Qz.E : Env := envOf tab Qz.cs 0 false
def Qz.keep (i : Nat) : List Nat := if i = 2 then [1, 7, 8, 9] else []
def Qz.at2 (n : Nat) (x : List ByteArray × ByteArray) : Code × (Ex → St → Option (Int)) := ctx Qz.E Qz.keep n [.snd, .fst, .snd, .blk] (codeOf Tryz.f99) (kEnd Qz.E Tryz.f99 Qz.con x)
def Qz.LN2 (n : Nat) (x : List ByteArray × ByteArray) : Nat → St → Option (Int) := loopN (exec Qz.E Qz.keep n (bodyOf (Qz.at2 n x).1)) (St.norm 0 (Qz.keep 2)) (Qz.at2 n x).2
set_option maxRecDepth 100000 in
theorem Qz.lem2 (n : Nat) (x : List ByteArray × ByteArray) : ∀ (k : Nat) (p : ByteArray) (v7 : List ByteArray) (v8 : Int) (v9 : Int), Qz.LN2 n x k (Qz.st2 p v7 v8 v9) = Qz.l2 n k p v7 v8 v9 := by
 intro k
 induction k with
 | zero => intro p v7 v8 v9; rfl
 | succ k ih =>
  intro p v7 v8 v9
  have h : Qz.LN2 n x (k + 1) (Qz.st2 p v7 v8 v9) = Qz.g2 (fun p v7 v8 v9 => Qz.LN2 n x k (Qz.st2 p v7 v8 v9)) p v7 v8 v9 := by kernel_rfl
  rw [h]
  simp only [ih]
  rfl
set_option maxRecDepth 100000 in
theorem Qz.body (n : Nat) (x : List ByteArray × ByteArray) : bodyF Qz.E Qz.keep n Tryz.f99 Qz.con x = Qz.fn n x.1 x.2 := by
 have h : bodyF Qz.E Qz.keep n Tryz.f99 Qz.con x = Qz.top (fun p v7 v8 v9 => Qz.LN2 n x n (Qz.st2 p v7 v8 v9)) x.1 x.2 := by kernel_rfl
 rw [h]
 simp only [Qz.lem2]
 rfl
set_option maxRecDepth 100000 in
theorem Qz.good : Good Tryz.prog 99 Qz.con :=
 good_of tabok (cs := Qz.cs) trivial 0 false (fn := Tryz.f99) Tryz.func99 rfl (by decide) (by simp [Qz.con]) Qz.keep NN (fun _ => rfl) (fun x => Qz.body NN x)
end
end Go.Ev.Tryz

namespace Go.Ev.Tryz
open Go.Proofs Go.Pl
set_option linter.unusedVariables false
noncomputable section
def Qay.con : Con := { ps := [], rs := [(.own, (.sl 9 .str))], F := fun x => Qay.f  }
def Qay.cs : List (FuncId × Con) := []
def Qay.E : Env := envOf tab Qay.cs 0 false
def Qay.keep (i : Nat) : List Nat := []
set_option maxRecDepth 100000 in
theorem Qay.body (n : Nat) (x : Unit) : bodyF Qay.E Qay.keep n Tryz.f100 Qay.con x = Qay.fn n  := by
 have h : bodyF Qay.E Qay.keep n Tryz.f100 Qay.con x = Qay.top  := by kernel_rfl
 exact h
set_option maxRecDepth 100000 in
theorem Qay.good : Good Tryz.prog 100 Qay.con :=
 good_of tabok (cs := Qay.cs) trivial 0 false (fn := Tryz.f100) Tryz.func100 rfl (by decide) (by simp [Qay.con]) Qay.keep NN (fun _ => rfl) (fun x => Qay.body NN x)
end
end Go.Ev.Tryz

namespace Go.Ev.Tryz
open Go.Proofs Go.Pl
set_option linter.unusedVariables false
noncomputable section
def QaY.con : Con := { ps := [(.val, (.int .i64))], rs := [(.val, .bool)], F := fun x => QaY.f x }
def QaY.cs : List (FuncId × Con) := [(86, Qaf.con)]
def QaY.E : Env := envOf tab QaY.cs 0 false
def QaY.keep (i : Nat) : List Nat := []
set_option maxRecDepth 100000 in
theorem QaY.body (n : Nat) (x : Int) : bodyF QaY.E QaY.keep n Tryz.f88 QaY.con x = QaY.fn n x := by
 have h : bodyF QaY.E QaY.keep n Tryz.f88 QaY.con x = QaY.top x := by kernel_rfl
 exact h
set_option maxRecDepth 100000 in
theorem QaY.good : Good Tryz.prog 88 QaY.con :=
 good_of tabok (cs := QaY.cs) ⟨Qaf.good, trivial⟩ 0 false (fn := Tryz.f88) Tryz.func88 rfl (by decide) (by simp [QaY.con]) QaY.keep NN (fun _ => rfl) (fun x => QaY.body NN x)
end
end Go.Ev.Tryz

namespace Go.Ev.Tryz
open Go.Proofs Go.Pl
set_option linter.unusedVariables false
noncomputable section
def Qk.st4 (p : List YC) (v8 : List YC) (v9 : Int) (v10 : Int) : St := ⟨[.dat (.sl 72 (.pair (.int .i64) (.int .i64))) p, .gone, .gone, .gone, .gone, .gone, .gone, .gone, .dat (.sl 72 (.pair (.int .i64) (.int .i64))) v8, .dat (.int .i64) v9, .dat (.int .i64) v10, .gone, .gone, .gone, .gone, .gone, .gone, .gone, .gone, .gone, .gone, .gone, .gone, .gone, .gone, .gone, .gone, .gone, .gone, .gone, .gone, .gone, .gone, .gone, .gone, .gone, .gone, .gone, .gone, .gone, .gone, .gone, .gone, .gone, .gone, .gone], []⟩
def Qk.con : Con := { ps := [(.val, (.sl 72 (.pair (.int .i64) (.int .i64))))], rs := [(.val, .bool)], F := fun x => Qk.f x }
def Qk.cs : List (FuncId × Con) := [(86, Qaf.con), (88, QaY.con)]
def Qk.E : Env := envOf tab Qk.cs 0 false
def Qk.keep (i : Nat) : List Nat := if i = 4 then [0, 8, 9, 10] else []
def Qk.at4 (n : Nat) (x : List YC) : Code × (Ex → St → Option (Bool)) := ctx Qk.E Qk.keep n [.snd, .snd, .fst, .snd, .blk] (codeOf Tryz.f55) (kEnd Qk.E Tryz.f55 Qk.con x)
def Qk.LN4 (n : Nat) (x : List YC) : Nat → St → Option (Bool) := loopN (exec Qk.E Qk.keep n (bodyOf (Qk.at4 n x).1)) (St.norm 0 (Qk.keep 4)) (Qk.at4 n x).2
set_option maxRecDepth 100000 in
theorem Qk.lem4 (n : Nat) (x : List YC) : ∀ (k : Nat) (p : List YC) (v8 : List YC) (v9 : Int) (v10 : Int), Qk.LN4 n x k (Qk.st4 p v8 v9 v10) = Qk.l4 n k p v8 v9 v10 := by
 intro k
 induction k with
 | zero => intro p v8 v9 v10; rfl
 | succ k ih =>
  intro p v8 v9 v10
  have h : Qk.LN4 n x (k + 1) (Qk.st4 p v8 v9 v10) = Qk.g4 (fun p v8 v9 v10 => Qk.LN4 n x k (Qk.st4 p v8 v9 v10)) p v8 v9 v10 := by kernel_rfl
  rw [h]
  simp only [ih]
  rfl
set_option maxRecDepth 100000 in
theorem Qk.body (n : Nat) (x : List YC) : bodyF Qk.E Qk.keep n Tryz.f55 Qk.con x = Qk.fn n x := by
 have h : bodyF Qk.E Qk.keep n Tryz.f55 Qk.con x = Qk.top (fun p v8 v9 v10 => Qk.LN4 n x n (Qk.st4 p v8 v9 v10)) x := by kernel_rfl
 rw [h]
 simp only [Qk.lem4]
 rfl
set_option maxRecDepth 100000 in
theorem Qk.good : Good Tryz.prog 55 Qk.con :=
 good_of tabok (cs := Qk.cs) ⟨Qaf.good, QaY.good, trivial⟩ 0 false (fn := Tryz.f55) Tryz.func55 rfl (by decide) (by simp [Qk.con]) Qk.keep NN (fun _ => rfl) (fun x => Qk.body NN x)
end
end Go.Ev.Tryz

namespace Go.Ev.Tryz
open Go.Proofs Go.Pl
set_option linter.unusedVariables false
noncomputable section
def Qf.st7 (k7 : Int) (p : List YC) : St := ⟨[.gone, .gone, .gone, .gone, .gone, .gone, .ref 0, .dat (.int .i64) k7, .gone, .gone, .gone, .gone, .gone, .gone, .gone, .gone, .gone, .gone, .gone, .gone, .gone, .gone, .gone, .gone, .gone, .gone, .gone, .gone, .gone, .gone, .gone, .gone, .gone, .gone, .gone, .gone, .gone, .gone, .gone, .gone, .gone, .gone, .gone, .gone, .gone, .gone, .gone, .gone, .gone, .gone, .gone, .gone, .gone, .gone, .gone, .gone, .gone, .gone, .gone, .gone, .gone], [.row 72 (.pair (.int .i64) (.int .i64)) p none]⟩
def Qf.tr0 (L7 : YAI) (k7 : Int) (p : List YC) : Option YX :=
 if (0 : Int) ≤ (IntKind.i64.wrap (k7 - 1)) ∧ ((IntKind.i64.wrap (k7 - 1)) : Int) < p.length then
  if (0 : Int) ≤ k7 ∧ (k7 : Int) < (p.set ((IntKind.i64.wrap (k7 - 1)) : Int).toNat (p.getD (k7 : Int).toNat (0, 0))).length then
   L7 (IntKind.i64.wrap (k7 - 1)) ((p.set ((IntKind.i64.wrap (k7 - 1)) : Int).toNat (p.getD (k7 : Int).toNat (0, 0))).set (k7 : Int).toNat (p.getD ((IntKind.i64.wrap (k7 - 1)) : Int).toNat (0, 0)))
  else
   none
 else
  none
def Qf.g7raw (L7 : YAI) (k7 : Int) (p : List YC) : Option YX :=
 if (decide ((0 : Int) < k7)) = true then
  if (0 : Int) ≤ (IntKind.i64.wrap (k7 - 1)) ∧ ((IntKind.i64.wrap (k7 - 1)) : Int) < p.length then
   if (0 : Int) ≤ k7 ∧ (k7 : Int) < p.length then
    if (decide ((((p.getD (k7 : Int).toNat (0, 0)).1) : Int) < ((p.getD ((IntKind.i64.wrap (k7 - 1)) : Int).toNat (0, 0)).1))) = true then
     if (0 : Int) ≤ k7 ∧ (k7 : Int) < p.length then
      if (0 : Int) ≤ (IntKind.i64.wrap (k7 - 1)) ∧ ((IntKind.i64.wrap (k7 - 1)) : Int) < p.length then
       agree (
        Qf.tr0 L7 k7 p
       ) (
        Qf.tr0 L7 k7 p
       )
      else
       none
     else
      none
    else
     (Qk.f p).bind fun r2 =>
     if (!r2) = true then
      some ([], 5)
     else
      some (p, 0)
   else
    none
  else
   none
 else
  (Qk.f p).bind fun r3 =>
  if (!r3) = true then
   some ([], 5)
  else
   some (p, 0)
theorem Qf.g7raw_eq (L7 : YAI) (k7 : Int) (p : List YC) : Qf.g7raw L7 k7 p = Qf.g7 L7 k7 p := by
 unfold Qf.g7raw Qf.g7
 simp only [agree_self, Qf.tr0]
def Qf.tr1 (I7 : YAI) (q : List YC) (x1 : Int × Int) : Option YX :=
 if ([] : List YC).length + q.length < room 16 then
  if (([] : List YC) ++ q).length + ([x1]).length < room 16 then
   I7 (IntKind.i64.wrap ((((([] : List YC) ++ q) ++ ([x1])).length : Int) - 1)) ((([] : List YC) ++ q) ++ ([x1]))
  else
   none
 else
  none
def Qf.tr2 (I7 : YAI) (q : List YC) (x1 : Int × Int) : Option YX :=
 agree (
  Qf.tr1 I7 q x1
 ) (
  Qf.tr1 I7 q x1
 )
def Qf.topraw (I7 : YAI) (q : List YC) (x1 : Int × Int) : Option YX :=
 (Qk.f q).bind fun r1 =>
 if (!r1) = true then
  some ([], 1)
 else if (((q.length : Int) : Int) == 40) = true then
  some ([], 3)
 else
  agree (
   agree (
    Qf.tr1 I7 q x1
   ) (
    Qf.tr2 I7 q x1
   )
  ) (
   agree (
    Qf.tr2 I7 q x1
   ) (
    Qf.tr1 I7 q x1
   )
  )
theorem Qf.topraw_eq (I7 : YAI) (q : List YC) (x1 : Int × Int) : Qf.topraw I7 q x1 = Qf.top I7 q x1 := by
 unfold Qf.topraw Qf.top
 simp only [agree_self, Qf.tr1, Qf.tr2]
def Qf.con : Con := { ps := [(.val, (.sl 72 (.pair (.int .i64) (.int .i64)))), (.val, (.pair (.int .i64) (.int .i64)))], rs := [(.own, (.sl 72 (.pair (.int .i64) (.int .i64)))), (.own, (.int .i64))], F := fun x => Qf.f x.1 x.2 }
def Qf.cs : List (FuncId × Con) := [(55, Qk.con)]
def Qf.E : Env := envOf tab Qf.cs 0 false
def Qf.keep (i : Nat) : List Nat := if i = 7 then [6, 7] else []
def Qf.at7 (n : Nat) (x : YE × Int × Int) : Code × (Ex → St → Option (YX)) := ctx Qf.E Qf.keep n [.snd, .snd, .snd, .snd, .fst, .snd, .blk] (codeOf Tryz.f101) (kEnd Qf.E Tryz.f101 Qf.con x)
def Qf.LN7 (n : Nat) (x : YE × Int × Int) : Nat → St → Option (YX) := loopN (exec Qf.E Qf.keep n (bodyOf (Qf.at7 n x).1)) (St.norm 0 (Qf.keep 7)) (Qf.at7 n x).2
set_option maxRecDepth 100000 in
theorem Qf.lem7 (n : Nat) (x : YE × Int × Int) : ∀ (k : Nat) (k7 : Int) (p : List YC), Qf.LN7 n x k (Qf.st7 k7 p) = Qf.l7 n k k7 p := by
 intro k
 induction k with
 | zero => intro k7 p; rfl
 | succ k ih =>
  intro k7 p
  have h : Qf.LN7 n x (k + 1) (Qf.st7 k7 p) = Qf.g7raw (fun k7 p => Qf.LN7 n x k (Qf.st7 k7 p)) k7 p := by kernel_rfl
  rw [Qf.g7raw_eq] at h
  rw [h]
  simp only [ih]
  rfl
set_option maxRecDepth 100000 in
theorem Qf.body (n : Nat) (x : YE × Int × Int) : bodyF Qf.E Qf.keep n Tryz.f101 Qf.con x = Qf.fn n x.1 x.2 := by
 have h : bodyF Qf.E Qf.keep n Tryz.f101 Qf.con x = Qf.topraw (fun k7 p => Qf.LN7 n x n (Qf.st7 k7 p)) x.1 x.2 := by kernel_rfl
 rw [Qf.topraw_eq] at h
 rw [h]
 simp only [Qf.lem7]
 rfl
set_option maxRecDepth 100000 in
theorem Qf.good : Good Tryz.prog 101 Qf.con :=
 good_of tabok (cs := Qf.cs) ⟨Qk.good, trivial⟩ 0 false (fn := Tryz.f101) Tryz.func101 rfl (by decide) (by simp [Qf.con]) Qf.keep NN (fun _ => rfl) (fun x => Qf.body NN x)
end
end Go.Ev.Tryz

namespace Go.Ev.Tryz
open Go.Proofs Go.Pl
set_option linter.unusedVariables false
noncomputable section
def Qbd.con : Con := { ps := [(.val, (.pair .bool (.pair .bool (.pair .bool (.pair .bool (.pair .bool (.int .i64)))))))], rs := [(.val, (.pair .bool (.pair .bool (.pair .bool (.pair .bool (.pair .bool (.int .i64)))))))], F := fun x => Qbd.f x }
def Qbd.cs : List (FuncId × Con) := []
def Qbd.E : Env := envOf tab Qbd.cs 0 false
def Qbd.keep (i : Nat) : List Nat := []
set_option maxRecDepth 100000 in
theorem Qbd.body (n : Nat) (x : Bool × Bool × Bool × Bool × Bool × Int) : bodyF Qbd.E Qbd.keep n Tryz.f165 Qbd.con x = Qbd.fn n x := by
 have h : bodyF Qbd.E Qbd.keep n Tryz.f165 Qbd.con x = Qbd.top x := by kernel_rfl
 exact h
set_option maxRecDepth 100000 in
theorem Qbd.good : Good Tryz.prog 165 Qbd.con :=
 good_of tabok (cs := Qbd.cs) trivial 0 false (fn := Tryz.f165) Tryz.func165 rfl (by decide) (by simp [Qbd.con]) Qbd.keep NN (fun _ => rfl) (fun x => Qbd.body NN x)
end
end Go.Ev.Tryz

namespace Go.Ev.Tryz
open Go.Proofs Go.Pl
set_option linter.unusedVariables false
noncomputable section
def Qap.con : Con := { ps := [(.val, (.pair .bool (.pair .bool (.pair .bool (.pair .bool (.pair .bool (.int .i64))))))), (.val, (.int .i64))], rs := [(.val, (.pair .bool (.pair .bool (.pair .bool (.pair .bool (.pair .bool (.int .i64))))))), (.val, (.int .i64))], F := fun x => Qap.f x.1 x.2 }
def Qap.cs : List (FuncId × Con) := [(165, Qbd.con)]
def Qap.E : Env := envOf tab Qap.cs 0 false
def Qap.keep (i : Nat) : List Nat := []
set_option maxRecDepth 100000 in
theorem Qap.body (n : Nat) (x : YB × Int) : bodyF Qap.E Qap.keep n Tryz.f153 Qap.con x = Qap.fn n x.1 x.2 := by
 have h : bodyF Qap.E Qap.keep n Tryz.f153 Qap.con x = Qap.top x.1 x.2 := by kernel_rfl
 exact h
set_option maxRecDepth 100000 in
theorem Qap.good : Good Tryz.prog 153 Qap.con :=
 good_of tabok (cs := Qap.cs) ⟨Qbd.good, trivial⟩ 0 false (fn := Tryz.f153) Tryz.func153 rfl (by decide) (by simp [Qap.con]) Qap.keep NN (fun _ => rfl) (fun x => Qap.body NN x)
end
end Go.Ev.Tryz

namespace Go.Ev.Tryz
open Go.Proofs Go.Pl
set_option linter.unusedVariables false
noncomputable section
def Qa.st100000001 (w0a : Bool) (V : Bool) (K : Bool) (g : Bool) (v : Bool) (w : Int) (d0a : List YC) (o : Int) (m : Int) (j : Bool × Bool × Bool × Bool × Bool × Int) (w2' : List Int) : St := ⟨[.ptr 1 [], .gone, .gone, .gone, .gone, .gone, .gone, .gone, .gone, .gone, .gone, .gone, .gone, .gone, .gone, .gone, .gone, .gone, .gone, .gone, .gone, .gone, .gone, .gone, .gone, .gone, .gone, .gone, .gone, .gone, .gone, .gone, .gone, .gone, .gone, .gone, .gone, .gone, .gone, .gone, .gone, .gone, .gone, .gone, .gone, .gone, .gone, .gone, .gone, .gone, .gone, .gone, .gone, .gone, .gone, .gone, .gone, .gone, .gone, .gone, .gone, .gone, .gone, .gone, .gone, .gone, .gone, .gone, .gone, .gone, .gone, .gone, .gone, .gone, .gone, .gone, .gone], [.box 114 (.pair .bool (.pair .bool (.pair .bool (.pair .bool (.pair .bool (.int .i64)))))) (.pr (.dat .bool w0a) (.pr (.dat .bool V) (.pr (.dat .bool K) (.pr (.dat .bool g) (.pr (.dat .bool v) (.dat (.int .i64) w)))))), .box 137 (.pair (.sl 72 (.pair (.int .i64) (.int .i64))) (.pair (.int .i64) (.pair (.int .i64) (.pair (.pair .bool (.pair .bool (.pair .bool (.pair .bool (.pair .bool (.int .i64)))))) (.sl 2 (.int .i64)))))) (.pr (.dat (.sl 72 (.pair (.int .i64) (.int .i64))) d0a) (.pr (.dat (.int .i64) o) (.pr (.dat (.int .i64) m) (.pr (.dat (.pair .bool (.pair .bool (.pair .bool (.pair .bool (.pair .bool (.int .i64)))))) j) (.ref 2))))), .row 2 (.int .i64) w2' none]⟩
def Qa.tr0 (L100000001 : YL) (s : Int) (v4a : Bool) (a : Bool) (t : Bool) (r : Bool) (p : Bool) (q : Int) (d6a : List YC) (b : Int) (u : Int) (c : Bool × Bool × Bool × Bool × Bool × Int) (w2 : List Int) (w0a : Bool) (V : Bool) (K : Bool) (g : Bool) (v : Bool) (w : Int) (d0a : List YC) (o : Int) (m : Int) (j : Bool × Bool × Bool × Bool × Bool × Int) (w2' : List Int) : Option YJ :=
 if w2'.length + ([o]).length < room 8 then
  L100000001 s v4a a t r p q d6a b u c w2 w0a V K g v w d0a (IntKind.i64.wrap (o + 1)) m j (w2' ++ ([o]))
 else
  none
def Qa.tr1 (L100000001 : YL) (s : Int) (v4a : Bool) (a : Bool) (t : Bool) (r : Bool) (p : Bool) (q : Int) (d6a : List YC) (b : Int) (u : Int) (c : Bool × Bool × Bool × Bool × Bool × Int) (w2 : List Int) (w0a : Bool) (V : Bool) (K : Bool) (g : Bool) (v : Bool) (w : Int) (d0a : List YC) (o : Int) (m : Int) (j : Bool × Bool × Bool × Bool × Bool × Int) (w2' : List Int) : Option YJ :=
 (Qap.f j ((d0a.getD (o : Int).toNat (0, 0)).2)).bind fun r5 =>
 if ((r5.2 : Int) == 0) = true then
  L100000001 s v4a a t r p q d6a b u c w2 w0a V K g v w d0a (IntKind.i64.wrap (o + 1)) m r5.1 w2'
 else
  agree (
   Qa.tr0 L100000001 s v4a a t r p q d6a b u c w2 w0a V K g v w d0a o m j w2'
  ) (
   agree (
    Qa.tr0 L100000001 s v4a a t r p q d6a b u c w2 w0a V K g v w d0a o m j w2'
   ) (
    Qa.tr0 L100000001 s v4a a t r p q d6a b u c w2 w0a V K g v w d0a o m j w2'
   )
  )
def Qa.tr2 (L100000001 : YL) (s : Int) (v4a : Bool) (a : Bool) (t : Bool) (r : Bool) (p : Bool) (q : Int) (d6a : List YC) (b : Int) (u : Int) (c : Bool × Bool × Bool × Bool × Bool × Int) (w2 : List Int) (w0a : Bool) (V : Bool) (K : Bool) (g : Bool) (v : Bool) (w : Int) (d0a : List YC) (o : Int) (m : Int) (j : Bool × Bool × Bool × Bool × Bool × Int) (w2' : List Int) : Option YJ :=
 agree (
  Qa.tr1 L100000001 s v4a a t r p q d6a b u c w2 w0a V K g v w d0a o m j w2'
 ) (
  Qa.tr1 L100000001 s v4a a t r p q d6a b u c w2 w0a V K g v w d0a o m j w2'
 )
def Qa.tr3 (L100000001 : YL) (s : Int) (v4a : Bool) (a : Bool) (t : Bool) (r : Bool) (p : Bool) (q : Int) (d6a : List YC) (b : Int) (u : Int) (c : Bool × Bool × Bool × Bool × Bool × Int) (w2 : List Int) (w0a : Bool) (V : Bool) (K : Bool) (g : Bool) (v : Bool) (w : Int) (d0a : List YC) (o : Int) (m : Int) (j : Bool × Bool × Bool × Bool × Bool × Int) (w2' : List Int) : Option YJ :=
 agree (
  Qa.tr2 L100000001 s v4a a t r p q d6a b u c w2 w0a V K g v w d0a o m j w2'
 ) (
  Qa.tr1 L100000001 s v4a a t r p q d6a b u c w2 w0a V K g v w d0a o m j w2'
 )
def Qa.tr4 (L100000001 : YL) (s : Int) (v4a : Bool) (a : Bool) (t : Bool) (r : Bool) (p : Bool) (q : Int) (d6a : List YC) (b : Int) (u : Int) (c : Bool × Bool × Bool × Bool × Bool × Int) (w2 : List Int) (w0a : Bool) (V : Bool) (K : Bool) (g : Bool) (v : Bool) (w : Int) (d0a : List YC) (o : Int) (m : Int) (j : Bool × Bool × Bool × Bool × Bool × Int) (w2' : List Int) : Option YJ :=
 if (0 : Int) ≤ o ∧ (o : Int) < d0a.length then
  Qa.tr1 L100000001 s v4a a t r p q d6a b u c w2 w0a V K g v w d0a o m j w2'
 else
  none
def Qa.tr5 (L100000001 : YL) (s : Int) (v4a : Bool) (a : Bool) (t : Bool) (r : Bool) (p : Bool) (q : Int) (d6a : List YC) (b : Int) (u : Int) (c : Bool × Bool × Bool × Bool × Bool × Int) (w2 : List Int) (w0a : Bool) (V : Bool) (K : Bool) (g : Bool) (v : Bool) (w : Int) (d0a : List YC) (o : Int) (m : Int) (j : Bool × Bool × Bool × Bool × Bool × Int) (w2' : List Int) : Option YJ :=
 agree (
  if (0 : Int) ≤ o ∧ (o : Int) < d0a.length then
   Qa.tr3 L100000001 s v4a a t r p q d6a b u c w2 w0a V K g v w d0a o m j w2'
  else
   none
 ) (
  Qa.tr4 L100000001 s v4a a t r p q d6a b u c w2 w0a V K g v w d0a o m j w2'
 )
def Qa.tr6 (L100000001 : YL) (s : Int) (v4a : Bool) (a : Bool) (t : Bool) (r : Bool) (p : Bool) (q : Int) (d6a : List YC) (b : Int) (u : Int) (c : Bool × Bool × Bool × Bool × Bool × Int) (w2 : List Int) (w0a : Bool) (V : Bool) (K : Bool) (g : Bool) (v : Bool) (w : Int) (d0a : List YC) (o : Int) (m : Int) (j : Bool × Bool × Bool × Bool × Bool × Int) (w2' : List Int) : Option YJ :=
 agree (
  Qa.tr4 L100000001 s v4a a t r p q d6a b u c w2 w0a V K g v w d0a o m j w2'
 ) (
  Qa.tr4 L100000001 s v4a a t r p q d6a b u c w2 w0a V K g v w d0a o m j w2'
 )
def Qa.tr7 (L100000001 : YL) (s : Int) (v4a : Bool) (a : Bool) (t : Bool) (r : Bool) (p : Bool) (q : Int) (d6a : List YC) (b : Int) (u : Int) (c : Bool × Bool × Bool × Bool × Bool × Int) (w2 : List Int) (w0a : Bool) (V : Bool) (K : Bool) (g : Bool) (v : Bool) (w : Int) (d0a : List YC) (o : Int) (m : Int) (j : Bool × Bool × Bool × Bool × Bool × Int) (w2' : List Int) : Option YJ :=
 agree (
  Qa.tr4 L100000001 s v4a a t r p q d6a b u c w2 w0a V K g v w d0a o m j w2'
 ) (
  if (0 : Int) ≤ o ∧ (o : Int) < d0a.length then
   Qa.tr2 L100000001 s v4a a t r p q d6a b u c w2 w0a V K g v w d0a o m j w2'
  else
   none
 )
def Qa.tr8 (L100000001 : YL) (s : Int) (v4a : Bool) (a : Bool) (t : Bool) (r : Bool) (p : Bool) (q : Int) (d6a : List YC) (b : Int) (u : Int) (c : Bool × Bool × Bool × Bool × Bool × Int) (w2 : List Int) (w0a : Bool) (V : Bool) (K : Bool) (g : Bool) (v : Bool) (w : Int) (d0a : List YC) (o : Int) (m : Int) (j : Bool × Bool × Bool × Bool × Bool × Int) (w2' : List Int) : Option YJ :=
 agree (
  Qa.tr5 L100000001 s v4a a t r p q d6a b u c w2 w0a V K g v w d0a o m j w2'
 ) (
  agree (
   if (0 : Int) ≤ o ∧ (o : Int) < d0a.length then
    agree (
     Qa.tr3 L100000001 s v4a a t r p q d6a b u c w2 w0a V K g v w d0a o m j w2'
    ) (
     agree (
      Qa.tr3 L100000001 s v4a a t r p q d6a b u c w2 w0a V K g v w d0a o m j w2'
     ) (
      Qa.tr2 L100000001 s v4a a t r p q d6a b u c w2 w0a V K g v w d0a o m j w2'
     )
    )
   else
    none
  ) (
   Qa.tr7 L100000001 s v4a a t r p q d6a b u c w2 w0a V K g v w d0a o m j w2'
  )
 )
def Qa.g100000001raw (L7 : YM) (L100000001 : YL) (s : Int) (v4a : Bool) (a : Bool) (t : Bool) (r : Bool) (p : Bool) (q : Int) (d6a : List YC) (b : Int) (u : Int) (c : Bool × Bool × Bool × Bool × Bool × Int) (w2 : List Int) (w0a : Bool) (V : Bool) (K : Bool) (g : Bool) (v : Bool) (w : Int) (d0a : List YC) (o : Int) (m : Int) (j : Bool × Bool × Bool × Bool × Bool × Int) (w2' : List Int) : Option YJ :=
 if (decide ((o : Int) < (d0a.length : Int))) = true then
  if (0 : Int) ≤ o ∧ (o : Int) < d0a.length then
   if ((((d0a.getD (o : Int).toNat (0, 0)).1) : Int) == m) = true then
    agree (
     agree (
      Qa.tr5 L100000001 s v4a a t r p q d6a b u c w2 w0a V K g v w d0a o m j w2'
     ) (
      agree (
       Qa.tr5 L100000001 s v4a a t r p q d6a b u c w2 w0a V K g v w d0a o m j w2'
      ) (
       Qa.tr6 L100000001 s v4a a t r p q d6a b u c w2 w0a V K g v w d0a o m j w2'
      )
     )
    ) (
     agree (
      Qa.tr8 L100000001 s v4a a t r p q d6a b u c w2 w0a V K g v w d0a o m j w2'
     ) (
      agree (
       Qa.tr8 L100000001 s v4a a t r p q d6a b u c w2 w0a V K g v w d0a o m j w2'
      ) (
       agree (
        Qa.tr6 L100000001 s v4a a t r p q d6a b u c w2 w0a V K g v w d0a o m j w2'
       ) (
        agree (
         Qa.tr7 L100000001 s v4a a t r p q d6a b u c w2 w0a V K g v w d0a o m j w2'
        ) (
         Qa.tr7 L100000001 s v4a a t r p q d6a b u c w2 w0a V K g v w d0a o m j w2'
        )
       )
      )
     )
    )
   else
    L7 s w0a V K g v w d0a o m j w2'
  else
   none
 else
  L7 s w0a V K g v w d0a o m j w2'
theorem Qa.g100000001raw_eq (L7 : YM) (L100000001 : YL) (s : Int) (v4a : Bool) (a : Bool) (t : Bool) (r : Bool) (p : Bool) (q : Int) (d6a : List YC) (b : Int) (u : Int) (c : Bool × Bool × Bool × Bool × Bool × Int) (w2 : List Int) (w0a : Bool) (V : Bool) (K : Bool) (g : Bool) (v : Bool) (w : Int) (d0a : List YC) (o : Int) (m : Int) (j : Bool × Bool × Bool × Bool × Bool × Int) (w2' : List Int) : Qa.g100000001raw L7 L100000001 s v4a a t r p q d6a b u c w2 w0a V K g v w d0a o m j w2' = Qa.g100000001 L7 L100000001 s v4a a t r p q d6a b u c w2 w0a V K g v w d0a o m j w2' := by
 unfold Qa.g100000001raw Qa.g100000001
 simp only [agree_self, Qa.tr0, Qa.tr1, Qa.tr2, Qa.tr3, Qa.tr4, Qa.tr5, Qa.tr6, Qa.tr7, Qa.tr8]
def Qa.st1000009 (s : Int) (v4a : Bool) (a : Bool) (t : Bool) (r : Bool) (p : Bool) (q : Int) (d6a : List YC) (b : Int) (u : Int) (c : Bool × Bool × Bool × Bool × Bool × Int) (w2 : List Int) : St := ⟨[.gone, .dat (.int .i64) s, .gone, .gone, .ptr 0 [], .gone, .ptr 1 [], .gone, .gone, .gone, .gone, .gone, .gone, .gone, .gone, .gone, .gone, .gone, .gone, .gone, .gone, .gone, .gone, .gone, .gone, .gone, .gone, .gone, .gone, .gone, .gone, .gone, .gone, .gone], [.box 114 (.pair .bool (.pair .bool (.pair .bool (.pair .bool (.pair .bool (.int .i64)))))) (.pr (.dat .bool v4a) (.pr (.dat .bool a) (.pr (.dat .bool t) (.pr (.dat .bool r) (.pr (.dat .bool p) (.dat (.int .i64) q)))))), .box 137 (.pair (.sl 72 (.pair (.int .i64) (.int .i64))) (.pair (.int .i64) (.pair (.int .i64) (.pair (.pair .bool (.pair .bool (.pair .bool (.pair .bool (.pair .bool (.int .i64)))))) (.sl 2 (.int .i64)))))) (.pr (.dat (.sl 72 (.pair (.int .i64) (.int .i64))) d6a) (.pr (.dat (.int .i64) b) (.pr (.dat (.int .i64) u) (.pr (.dat (.pair .bool (.pair .bool (.pair .bool (.pair .bool (.pair .bool (.int .i64)))))) c) (.ref 2))))), .row 2 (.int .i64) w2 none]⟩
def Qa.st1000008 (s : Int) (v4a : Bool) (a : Bool) (t : Bool) (r : Bool) (p : Bool) (q : Int) (d6a : List YC) (b : Int) (u : Int) (c : Bool × Bool × Bool × Bool × Bool × Int) (w2 : List Int) : St := ⟨[.gone, .dat (.int .i64) s, .gone, .gone, .ptr 0 [], .gone, .ptr 1 [], .gone, .gone, .gone, .gone, .gone, .gone, .gone, .gone, .gone, .gone, .gone, .gone, .gone, .gone, .gone, .gone, .gone, .gone, .gone, .gone, .gone, .gone, .gone, .gone, .gone, .gone, .gone], [.box 114 (.pair .bool (.pair .bool (.pair .bool (.pair .bool (.pair .bool (.int .i64)))))) (.pr (.dat .bool v4a) (.pr (.dat .bool a) (.pr (.dat .bool t) (.pr (.dat .bool r) (.pr (.dat .bool p) (.dat (.int .i64) q)))))), .box 137 (.pair (.sl 72 (.pair (.int .i64) (.int .i64))) (.pair (.int .i64) (.pair (.int .i64) (.pair (.pair .bool (.pair .bool (.pair .bool (.pair .bool (.pair .bool (.int .i64)))))) (.sl 2 (.int .i64)))))) (.pr (.dat (.sl 72 (.pair (.int .i64) (.int .i64))) d6a) (.pr (.dat (.int .i64) b) (.pr (.dat (.int .i64) u) (.pr (.dat (.pair .bool (.pair .bool (.pair .bool (.pair .bool (.pair .bool (.int .i64)))))) c) (.ref 2))))), .row 2 (.int .i64) w2 none]⟩
def Qa.st7 (s : Int) (v4a : Bool) (a : Bool) (t : Bool) (r : Bool) (p : Bool) (q : Int) (d6a : List YC) (b : Int) (u : Int) (c : Bool × Bool × Bool × Bool × Bool × Int) (w2 : List Int) : St := ⟨[.gone, .dat (.int .i64) s, .gone, .gone, .ptr 0 [], .gone, .ptr 1 [], .gone, .gone, .gone, .gone, .gone, .gone, .gone, .gone, .gone, .gone, .gone, .gone, .gone, .gone, .gone, .gone, .gone, .gone, .gone, .gone, .gone, .gone, .gone, .gone, .gone, .gone, .gone], [.box 114 (.pair .bool (.pair .bool (.pair .bool (.pair .bool (.pair .bool (.int .i64)))))) (.pr (.dat .bool v4a) (.pr (.dat .bool a) (.pr (.dat .bool t) (.pr (.dat .bool r) (.pr (.dat .bool p) (.dat (.int .i64) q)))))), .box 137 (.pair (.sl 72 (.pair (.int .i64) (.int .i64))) (.pair (.int .i64) (.pair (.int .i64) (.pair (.pair .bool (.pair .bool (.pair .bool (.pair .bool (.pair .bool (.int .i64)))))) (.sl 2 (.int .i64)))))) (.pr (.dat (.sl 72 (.pair (.int .i64) (.int .i64))) d6a) (.pr (.dat (.int .i64) b) (.pr (.dat (.int .i64) u) (.pr (.dat (.pair .bool (.pair .bool (.pair .bool (.pair .bool (.pair .bool (.int .i64)))))) c) (.ref 2))))), .row 2 (.int .i64) w2 none]⟩
def Qa.st1000007 (s : Int) (v4a : Bool) (a : Bool) (t : Bool) (r : Bool) (p : Bool) (q : Int) (d6a : List YC) (b : Int) (u : Int) (c : Bool × Bool × Bool × Bool × Bool × Int) (w2 : List Int) : St := ⟨[.gone, .dat (.int .i64) s, .gone, .gone, .ptr 0 [], .gone, .ptr 1 [], .gone, .gone, .gone, .gone, .gone, .gone, .gone, .gone, .gone, .gone, .gone, .gone, .gone, .gone, .gone, .gone, .gone, .gone, .gone, .gone, .gone, .gone, .gone, .gone, .gone, .gone, .gone], [.box 114 (.pair .bool (.pair .bool (.pair .bool (.pair .bool (.pair .bool (.int .i64)))))) (.pr (.dat .bool v4a) (.pr (.dat .bool a) (.pr (.dat .bool t) (.pr (.dat .bool r) (.pr (.dat .bool p) (.dat (.int .i64) q)))))), .box 137 (.pair (.sl 72 (.pair (.int .i64) (.int .i64))) (.pair (.int .i64) (.pair (.int .i64) (.pair (.pair .bool (.pair .bool (.pair .bool (.pair .bool (.pair .bool (.int .i64)))))) (.sl 2 (.int .i64)))))) (.pr (.dat (.sl 72 (.pair (.int .i64) (.int .i64))) d6a) (.pr (.dat (.int .i64) b) (.pr (.dat (.int .i64) u) (.pr (.dat (.pair .bool (.pair .bool (.pair .bool (.pair .bool (.pair .bool (.int .i64)))))) c) (.ref 2))))), .row 2 (.int .i64) w2 none]⟩
def Qa.st70000001 (w0a : Bool) (V : Bool) (K : Bool) (g : Bool) (v : Bool) (w : Int) (d0a : List YC) (o : Int) (m : Int) (j : Bool × Bool × Bool × Bool × Bool × Int) (w2' : List Int) : St := ⟨[.ptr 1 [], .gone, .gone, .gone, .gone, .gone, .gone, .gone, .gone, .gone, .gone, .gone, .gone, .gone, .gone, .gone, .gone, .gone, .gone, .gone, .gone, .gone, .gone, .gone, .gone, .gone, .gone, .gone, .gone, .gone, .gone, .gone, .gone, .gone, .gone, .gone, .gone, .gone, .gone, .gone, .gone, .gone, .gone, .gone, .gone, .gone, .gone, .gone, .gone, .gone, .gone, .gone, .gone, .gone, .gone, .gone, .gone, .gone, .gone, .gone, .gone, .gone, .gone, .gone, .gone, .gone, .gone, .gone, .gone, .gone, .gone, .gone, .gone, .gone, .gone, .gone, .gone], [.box 114 (.pair .bool (.pair .bool (.pair .bool (.pair .bool (.pair .bool (.int .i64)))))) (.pr (.dat .bool w0a) (.pr (.dat .bool V) (.pr (.dat .bool K) (.pr (.dat .bool g) (.pr (.dat .bool v) (.dat (.int .i64) w)))))), .box 137 (.pair (.sl 72 (.pair (.int .i64) (.int .i64))) (.pair (.int .i64) (.pair (.int .i64) (.pair (.pair .bool (.pair .bool (.pair .bool (.pair .bool (.pair .bool (.int .i64)))))) (.sl 2 (.int .i64)))))) (.pr (.dat (.sl 72 (.pair (.int .i64) (.int .i64))) d0a) (.pr (.dat (.int .i64) o) (.pr (.dat (.int .i64) m) (.pr (.dat (.pair .bool (.pair .bool (.pair .bool (.pair .bool (.pair .bool (.int .i64)))))) j) (.ref 2))))), .row 2 (.int .i64) w2' none]⟩
def Qa.tr9 (L70000001 : YK) (s : Int) (v4a : Bool) (a : Bool) (t : Bool) (r : Bool) (p : Bool) (q : Int) (d6a : List YC) (b : Int) (u : Int) (R : Bool) (Q : Bool) (l : Bool) (d : Bool) (y : Bool) (z : Int) (w2 : List Int) (w0a : Bool) (V : Bool) (K : Bool) (g : Bool) (v : Bool) (w : Int) (d0a : List YC) (o : Int) (m : Int) (j : Bool × Bool × Bool × Bool × Bool × Int) (w2' : List Int) : Option YJ :=
 if w2'.length + ([o]).length < room 8 then
  L70000001 s v4a a t r p q d6a b u R Q l d y z w2 w0a V K g v w d0a (IntKind.i64.wrap (o + 1)) m j (w2' ++ ([o]))
 else
  none
def Qa.tr10 (L70000001 : YK) (s : Int) (v4a : Bool) (a : Bool) (t : Bool) (r : Bool) (p : Bool) (q : Int) (d6a : List YC) (b : Int) (u : Int) (R : Bool) (Q : Bool) (l : Bool) (d : Bool) (y : Bool) (z : Int) (w2 : List Int) (w0a : Bool) (V : Bool) (K : Bool) (g : Bool) (v : Bool) (w : Int) (d0a : List YC) (o : Int) (m : Int) (j : Bool × Bool × Bool × Bool × Bool × Int) (w2' : List Int) : Option YJ :=
 (Qap.f j ((d0a.getD (o : Int).toNat (0, 0)).2)).bind fun r3 =>
 if ((r3.2 : Int) == 0) = true then
  L70000001 s v4a a t r p q d6a b u R Q l d y z w2 w0a V K g v w d0a (IntKind.i64.wrap (o + 1)) m r3.1 w2'
 else
  agree (
   Qa.tr9 L70000001 s v4a a t r p q d6a b u R Q l d y z w2 w0a V K g v w d0a o m j w2'
  ) (
   agree (
    Qa.tr9 L70000001 s v4a a t r p q d6a b u R Q l d y z w2 w0a V K g v w d0a o m j w2'
   ) (
    Qa.tr9 L70000001 s v4a a t r p q d6a b u R Q l d y z w2 w0a V K g v w d0a o m j w2'
   )
  )
def Qa.tr11 (L70000001 : YK) (s : Int) (v4a : Bool) (a : Bool) (t : Bool) (r : Bool) (p : Bool) (q : Int) (d6a : List YC) (b : Int) (u : Int) (R : Bool) (Q : Bool) (l : Bool) (d : Bool) (y : Bool) (z : Int) (w2 : List Int) (w0a : Bool) (V : Bool) (K : Bool) (g : Bool) (v : Bool) (w : Int) (d0a : List YC) (o : Int) (m : Int) (j : Bool × Bool × Bool × Bool × Bool × Int) (w2' : List Int) : Option YJ :=
 agree (
  Qa.tr10 L70000001 s v4a a t r p q d6a b u R Q l d y z w2 w0a V K g v w d0a o m j w2'
 ) (
  Qa.tr10 L70000001 s v4a a t r p q d6a b u R Q l d y z w2 w0a V K g v w d0a o m j w2'
 )
def Qa.tr12 (L70000001 : YK) (s : Int) (v4a : Bool) (a : Bool) (t : Bool) (r : Bool) (p : Bool) (q : Int) (d6a : List YC) (b : Int) (u : Int) (R : Bool) (Q : Bool) (l : Bool) (d : Bool) (y : Bool) (z : Int) (w2 : List Int) (w0a : Bool) (V : Bool) (K : Bool) (g : Bool) (v : Bool) (w : Int) (d0a : List YC) (o : Int) (m : Int) (j : Bool × Bool × Bool × Bool × Bool × Int) (w2' : List Int) : Option YJ :=
 agree (
  Qa.tr11 L70000001 s v4a a t r p q d6a b u R Q l d y z w2 w0a V K g v w d0a o m j w2'
 ) (
  Qa.tr10 L70000001 s v4a a t r p q d6a b u R Q l d y z w2 w0a V K g v w d0a o m j w2'
 )
def Qa.tr13 (L70000001 : YK) (s : Int) (v4a : Bool) (a : Bool) (t : Bool) (r : Bool) (p : Bool) (q : Int) (d6a : List YC) (b : Int) (u : Int) (R : Bool) (Q : Bool) (l : Bool) (d : Bool) (y : Bool) (z : Int) (w2 : List Int) (w0a : Bool) (V : Bool) (K : Bool) (g : Bool) (v : Bool) (w : Int) (d0a : List YC) (o : Int) (m : Int) (j : Bool × Bool × Bool × Bool × Bool × Int) (w2' : List Int) : Option YJ :=
 if (0 : Int) ≤ o ∧ (o : Int) < d0a.length then
  Qa.tr10 L70000001 s v4a a t r p q d6a b u R Q l d y z w2 w0a V K g v w d0a o m j w2'
 else
  none
def Qa.tr14 (L70000001 : YK) (s : Int) (v4a : Bool) (a : Bool) (t : Bool) (r : Bool) (p : Bool) (q : Int) (d6a : List YC) (b : Int) (u : Int) (R : Bool) (Q : Bool) (l : Bool) (d : Bool) (y : Bool) (z : Int) (w2 : List Int) (w0a : Bool) (V : Bool) (K : Bool) (g : Bool) (v : Bool) (w : Int) (d0a : List YC) (o : Int) (m : Int) (j : Bool × Bool × Bool × Bool × Bool × Int) (w2' : List Int) : Option YJ :=
 agree (
  if (0 : Int) ≤ o ∧ (o : Int) < d0a.length then
   Qa.tr12 L70000001 s v4a a t r p q d6a b u R Q l d y z w2 w0a V K g v w d0a o m j w2'
  else
   none
 ) (
  Qa.tr13 L70000001 s v4a a t r p q d6a b u R Q l d y z w2 w0a V K g v w d0a o m j w2'
 )
def Qa.tr15 (L70000001 : YK) (s : Int) (v4a : Bool) (a : Bool) (t : Bool) (r : Bool) (p : Bool) (q : Int) (d6a : List YC) (b : Int) (u : Int) (R : Bool) (Q : Bool) (l : Bool) (d : Bool) (y : Bool) (z : Int) (w2 : List Int) (w0a : Bool) (V : Bool) (K : Bool) (g : Bool) (v : Bool) (w : Int) (d0a : List YC) (o : Int) (m : Int) (j : Bool × Bool × Bool × Bool × Bool × Int) (w2' : List Int) : Option YJ :=
 agree (
  Qa.tr13 L70000001 s v4a a t r p q d6a b u R Q l d y z w2 w0a V K g v w d0a o m j w2'
 ) (
  Qa.tr13 L70000001 s v4a a t r p q d6a b u R Q l d y z w2 w0a V K g v w d0a o m j w2'
 )
def Qa.tr16 (L70000001 : YK) (s : Int) (v4a : Bool) (a : Bool) (t : Bool) (r : Bool) (p : Bool) (q : Int) (d6a : List YC) (b : Int) (u : Int) (R : Bool) (Q : Bool) (l : Bool) (d : Bool) (y : Bool) (z : Int) (w2 : List Int) (w0a : Bool) (V : Bool) (K : Bool) (g : Bool) (v : Bool) (w : Int) (d0a : List YC) (o : Int) (m : Int) (j : Bool × Bool × Bool × Bool × Bool × Int) (w2' : List Int) : Option YJ :=
 agree (
  Qa.tr13 L70000001 s v4a a t r p q d6a b u R Q l d y z w2 w0a V K g v w d0a o m j w2'
 ) (
  if (0 : Int) ≤ o ∧ (o : Int) < d0a.length then
   Qa.tr11 L70000001 s v4a a t r p q d6a b u R Q l d y z w2 w0a V K g v w d0a o m j w2'
  else
   none
 )
def Qa.tr17 (L70000001 : YK) (s : Int) (v4a : Bool) (a : Bool) (t : Bool) (r : Bool) (p : Bool) (q : Int) (d6a : List YC) (b : Int) (u : Int) (R : Bool) (Q : Bool) (l : Bool) (d : Bool) (y : Bool) (z : Int) (w2 : List Int) (w0a : Bool) (V : Bool) (K : Bool) (g : Bool) (v : Bool) (w : Int) (d0a : List YC) (o : Int) (m : Int) (j : Bool × Bool × Bool × Bool × Bool × Int) (w2' : List Int) : Option YJ :=
 agree (
  Qa.tr14 L70000001 s v4a a t r p q d6a b u R Q l d y z w2 w0a V K g v w d0a o m j w2'
 ) (
  agree (
   if (0 : Int) ≤ o ∧ (o : Int) < d0a.length then
    agree (
     Qa.tr12 L70000001 s v4a a t r p q d6a b u R Q l d y z w2 w0a V K g v w d0a o m j w2'
    ) (
     agree (
      Qa.tr12 L70000001 s v4a a t r p q d6a b u R Q l d y z w2 w0a V K g v w d0a o m j w2'
     ) (
      Qa.tr11 L70000001 s v4a a t r p q d6a b u R Q l d y z w2 w0a V K g v w d0a o m j w2'
     )
    )
   else
    none
  ) (
   Qa.tr16 L70000001 s v4a a t r p q d6a b u R Q l d y z w2 w0a V K g v w d0a o m j w2'
  )
 )
def Qa.g70000001raw (I1000007 : YM) (L70000001 : YK) (s : Int) (v4a : Bool) (a : Bool) (t : Bool) (r : Bool) (p : Bool) (q : Int) (d6a : List YC) (b : Int) (u : Int) (R : Bool) (Q : Bool) (l : Bool) (d : Bool) (y : Bool) (z : Int) (w2 : List Int) (w0a : Bool) (V : Bool) (K : Bool) (g : Bool) (v : Bool) (w : Int) (d0a : List YC) (o : Int) (m : Int) (j : Bool × Bool × Bool × Bool × Bool × Int) (w2' : List Int) : Option YJ :=
 if (decide ((o : Int) < (d0a.length : Int))) = true then
  if (0 : Int) ≤ o ∧ (o : Int) < d0a.length then
   if ((((d0a.getD (o : Int).toNat (0, 0)).1) : Int) == m) = true then
    agree (
     agree (
      Qa.tr14 L70000001 s v4a a t r p q d6a b u R Q l d y z w2 w0a V K g v w d0a o m j w2'
     ) (
      agree (
       Qa.tr14 L70000001 s v4a a t r p q d6a b u R Q l d y z w2 w0a V K g v w d0a o m j w2'
      ) (
       Qa.tr15 L70000001 s v4a a t r p q d6a b u R Q l d y z w2 w0a V K g v w d0a o m j w2'
      )
     )
    ) (
     agree (
      Qa.tr17 L70000001 s v4a a t r p q d6a b u R Q l d y z w2 w0a V K g v w d0a o m j w2'
     ) (
      agree (
       Qa.tr17 L70000001 s v4a a t r p q d6a b u R Q l d y z w2 w0a V K g v w d0a o m j w2'
      ) (
       agree (
        Qa.tr15 L70000001 s v4a a t r p q d6a b u R Q l d y z w2 w0a V K g v w d0a o m j w2'
       ) (
        agree (
         Qa.tr16 L70000001 s v4a a t r p q d6a b u R Q l d y z w2 w0a V K g v w d0a o m j w2'
        ) (
         Qa.tr16 L70000001 s v4a a t r p q d6a b u R Q l d y z w2 w0a V K g v w d0a o m j w2'
        )
       )
      )
     )
    )
   else
    I1000007 s w0a V K g v w d0a o m j w2'
  else
   none
 else
  I1000007 s w0a V K g v w d0a o m j w2'
theorem Qa.g70000001raw_eq (I1000007 : YM) (L70000001 : YK) (s : Int) (v4a : Bool) (a : Bool) (t : Bool) (r : Bool) (p : Bool) (q : Int) (d6a : List YC) (b : Int) (u : Int) (R : Bool) (Q : Bool) (l : Bool) (d : Bool) (y : Bool) (z : Int) (w2 : List Int) (w0a : Bool) (V : Bool) (K : Bool) (g : Bool) (v : Bool) (w : Int) (d0a : List YC) (o : Int) (m : Int) (j : Bool × Bool × Bool × Bool × Bool × Int) (w2' : List Int) : Qa.g70000001raw I1000007 L70000001 s v4a a t r p q d6a b u R Q l d y z w2 w0a V K g v w d0a o m j w2' = Qa.g70000001 I1000007 L70000001 s v4a a t r p q d6a b u R Q l d y z w2 w0a V K g v w d0a o m j w2' := by
 unfold Qa.g70000001raw Qa.g70000001
 simp only [agree_self, Qa.tr9, Qa.tr10, Qa.tr11, Qa.tr12, Qa.tr13, Qa.tr14, Qa.tr15, Qa.tr16, Qa.tr17]
def Qa.st1000006 (s : Int) (v4a : Bool) (a : Bool) (t : Bool) (r : Bool) (p : Bool) (q : Int) (d6a : List YC) (b : Int) (u : Int) (R : Bool) (Q : Bool) (l : Bool) (d : Bool) (y : Bool) (z : Int) (w2 : List Int) : St := ⟨[.gone, .dat (.int .i64) s, .gone, .gone, .ptr 0 [], .gone, .ptr 1 [], .gone, .gone, .gone, .gone, .gone, .gone, .gone, .gone, .gone, .gone, .gone, .gone, .gone, .gone, .gone, .gone, .gone, .gone, .gone, .gone, .gone, .gone, .gone, .gone, .gone, .gone, .gone], [.box 114 (.pair .bool (.pair .bool (.pair .bool (.pair .bool (.pair .bool (.int .i64)))))) (.pr (.dat .bool v4a) (.pr (.dat .bool a) (.pr (.dat .bool t) (.pr (.dat .bool r) (.pr (.dat .bool p) (.dat (.int .i64) q)))))), .box 137 (.pair (.sl 72 (.pair (.int .i64) (.int .i64))) (.pair (.int .i64) (.pair (.int .i64) (.pair (.pair .bool (.pair .bool (.pair .bool (.pair .bool (.pair .bool (.int .i64)))))) (.sl 2 (.int .i64)))))) (.pr (.dat (.sl 72 (.pair (.int .i64) (.int .i64))) d6a) (.pr (.dat (.int .i64) b) (.pr (.dat (.int .i64) u) (.pr (.pr (.dat .bool R) (.pr (.dat .bool Q) (.pr (.dat .bool l) (.pr (.dat .bool d) (.pr (.dat .bool y) (.dat (.int .i64) z)))))) (.ref 2))))), .row 2 (.int .i64) w2 none]⟩
def Qa.con : Con := { ps := [(.val, (.sl 72 (.pair (.int .i64) (.int .i64)))), (.val, (.int .i64))], rs := [(.val, (.pair .bool (.pair .bool (.pair .bool (.pair .bool (.pair .bool (.int .i64))))))), (.val, (.int .i64))], F := fun x => Qa.f x.1 x.2 }
def Qa.cs : List (FuncId × Con) := [(55, Qk.con), (88, QaY.con), (153, Qap.con)]
def Qa.E : Env := envOf tab Qa.cs 0 false
def Qa.I (f : FuncId) : Option Func := if f = 132 then some Tryz.f132 else if f = 133 then some Tryz.f133 else none
theorem Qa.hI : ∀ f fn, Qa.I f = some fn → Tryz.prog.funcs[f]? = some fn ∧ fn.body.isSome = true ∧ fn.name ≠ "runtime.NumGoroutine" := by
  intro f fn h
  unfold Qa.I at h
  split at h
  · rename_i e; subst e; cases h; exact ⟨Tryz.func132, rfl, by decide⟩
  split at h
  · rename_i e; subst e; cases h; exact ⟨Tryz.func133, rfl, by decide⟩
  cases h
def Qa.keep (i : Nat) : List Nat := if i = 100000001 then [0] else if i = 1000009 then [1, 4, 6] else if i = 1000008 then [1, 4, 6] else if i = 7 then [1, 4, 6] else if i = 1000007 then [1, 4, 6] else if i = 70000001 then [0, 200000] else if i = 1000006 then [1, 4, 6] else []
def Qa.at100000001 (n : Nat) (x : YE × Int) (M7 : St → Option (YJ)) (s : Int) (v4a : Bool) (a : Bool) (t : Bool) (r : Bool) (p : Bool) (q : Int) (d6a : List YC) (b : Int) (u : Int) (c : Bool × Bool × Bool × Bool × Bool × Int) (w2 : List Int) : Code × (Ex → St → Option (YJ)) := ctx (envIn Qa.E 2) (keepIn Qa.keep 9) n [.blk] (codeOf Tryz.f132) (kIn ((ctxI Qa.E Qa.I Qa.keep n [.snd, .snd, .snd, .snd, .snd, .fst, .blk, .rd M7, .snd, .blk, .snd] (codeOf Tryz.f102) (kEnd Qa.E Tryz.f102 Qa.con x)).2 .normal) [.gone, .dat (.int .i64) s, .gone, .gone, .ptr 0 [], .gone, .ptr 1 [], .gone, .gone, .gone, .gone, .gone, .gone, .gone, .gone, .gone, .gone, .gone, .gone, .gone, .gone, .gone, .gone, .gone, .gone, .gone, .gone, .gone, .ptr 1 [], .gone, .gone, .gone, .gone, .gone] (some 29))
def Qa.LN100000001 (n : Nat) (x : YE × Int) (M7 : St → Option (YJ)) (s : Int) (v4a : Bool) (a : Bool) (t : Bool) (r : Bool) (p : Bool) (q : Int) (d6a : List YC) (b : Int) (u : Int) (c : Bool × Bool × Bool × Bool × Bool × Int) (w2 : List Int) : Nat → St → Option (YJ) := loopN (exec (envIn Qa.E 2) (keepIn Qa.keep 9) n (bodyOf (Qa.at100000001 n x M7 s v4a a t r p q d6a b u c w2).1)) (St.norm 2 (keepIn Qa.keep 9 1)) (Qa.at100000001 n x M7 s v4a a t r p q d6a b u c w2).2
def Qa.at1000009 (n : Nat) (x : YE × Int) (M7 : St → Option (YJ)) : Code × (Ex → St → Option (YJ)) := ctxI Qa.E Qa.I Qa.keep n [.snd, .snd, .snd, .snd, .snd, .fst, .blk, .rd M7, .snd, .blk, .snd] (codeOf Tryz.f102) (kEnd Qa.E Tryz.f102 Qa.con x)
def Qa.LN1000009 (n : Nat) (x : YE × Int) (M7 : St → Option (YJ)) : Nat → St → Option (YJ) := cutN (execI Qa.E Qa.I Qa.keep n (Qa.at1000009 n x M7).1 (Qa.at1000009 n x M7).2)
def Qa.at1000008 (n : Nat) (x : YE × Int) (M7 : St → Option (YJ)) : Code × (Ex → St → Option (YJ)) := ctxI Qa.E Qa.I Qa.keep n [.snd, .snd, .snd, .snd, .snd, .fst, .blk, .rd M7, .snd] (codeOf Tryz.f102) (kEnd Qa.E Tryz.f102 Qa.con x)
def Qa.LN1000008 (n : Nat) (x : YE × Int) (M7 : St → Option (YJ)) : Nat → St → Option (YJ) := cutN (execI Qa.E Qa.I Qa.keep n (Qa.at1000008 n x M7).1 (Qa.at1000008 n x M7).2)
def Qa.at7 (n : Nat) (x : YE × Int) : Code × (Ex → St → Option (YJ)) := ctxI Qa.E Qa.I Qa.keep n [.snd, .snd, .snd, .snd, .snd, .fst, .blk] (codeOf Tryz.f102) (kEnd Qa.E Tryz.f102 Qa.con x)
def Qa.LN7 (n : Nat) (x : YE × Int) : Nat → St → Option (YJ) := loopN (execI Qa.E Qa.I Qa.keep n (bodyOf (Qa.at7 n x).1)) (St.norm 0 (Qa.keep 7)) (Qa.at7 n x).2
def Qa.at1000007 (n : Nat) (x : YE × Int) : Code × (Ex → St → Option (YJ)) := ctxI Qa.E Qa.I Qa.keep n [.snd, .snd, .snd, .snd, .snd] (codeOf Tryz.f102) (kEnd Qa.E Tryz.f102 Qa.con x)
def Qa.LN1000007 (n : Nat) (x : YE × Int) : Nat → St → Option (YJ) := cutN (execI Qa.E Qa.I Qa.keep n (Qa.at1000007 n x).1 (Qa.at1000007 n x).2)
def Qa.at70000001 (n : Nat) (x : YE × Int) (s : Int) (v4a : Bool) (a : Bool) (t : Bool) (r : Bool) (p : Bool) (q : Int) (d6a : List YC) (b : Int) (u : Int) (R : Bool) (Q : Bool) (l : Bool) (d : Bool) (y : Bool) (z : Int) (w2 : List Int) : Code × (Ex → St → Option (YJ)) := ctx (envIn Qa.E 2) (keepIn Qa.keep 6) n [.blk] (codeOf Tryz.f132) (kIn ((ctxI Qa.E Qa.I Qa.keep n [.snd, .snd, .snd, .snd, .fst] (codeOf Tryz.f102) (kEnd Qa.E Tryz.f102 Qa.con x)).2 .normal) [.gone, .dat (.int .i64) s, .gone, .gone, .ptr 0 [], .gone, .ptr 1 [], .gone, .gone, .gone, .gone, .gone, .gone, .gone, .gone, .gone, .gone, .gone, .ptr 1 [], .gone, .gone, .gone, .gone, .gone, .gone, .gone, .gone, .gone, .gone, .gone, .gone, .gone, .gone, .gone] (some 19))
def Qa.LN70000001 (n : Nat) (x : YE × Int) (s : Int) (v4a : Bool) (a : Bool) (t : Bool) (r : Bool) (p : Bool) (q : Int) (d6a : List YC) (b : Int) (u : Int) (R : Bool) (Q : Bool) (l : Bool) (d : Bool) (y : Bool) (z : Int) (w2 : List Int) : Nat → St → Option (YJ) := loopN (exec (envIn Qa.E 2) (keepIn Qa.keep 6) n (bodyOf (Qa.at70000001 n x s v4a a t r p q d6a b u R Q l d y z w2).1)) (St.norm 2 (keepIn Qa.keep 6 1)) (Qa.at70000001 n x s v4a a t r p q d6a b u R Q l d y z w2).2
def Qa.at1000006 (n : Nat) (x : YE × Int) : Code × (Ex → St → Option (YJ)) := ctxI Qa.E Qa.I Qa.keep n [.snd, .snd, .snd, .snd] (codeOf Tryz.f102) (kEnd Qa.E Tryz.f102 Qa.con x)
def Qa.LN1000006 (n : Nat) (x : YE × Int) : Nat → St → Option (YJ) := cutN (execI Qa.E Qa.I Qa.keep n (Qa.at1000006 n x).1 (Qa.at1000006 n x).2)
set_option maxRecDepth 100000 in
theorem Qa.lem100000001 (n : Nat) (x : YE × Int) (M7 : St → Option (YJ)) : ∀ (k : Nat) (s : Int) (v4a : Bool) (a : Bool) (t : Bool) (r : Bool) (p : Bool) (q : Int) (d6a : List YC) (b : Int) (u : Int) (c : Bool × Bool × Bool × Bool × Bool × Int) (w2 : List Int) (w0a : Bool) (V : Bool) (K : Bool) (g : Bool) (v : Bool) (w : Int) (d0a : List YC) (o : Int) (m : Int) (j : Bool × Bool × Bool × Bool × Bool × Int) (w2' : List Int), Qa.LN100000001 n x M7 s v4a a t r p q d6a b u c w2 k (Qa.st100000001 w0a V K g v w d0a o m j w2') = Qa.l100000001 n (fun s v4a a t r p q d6a b u c w2 => M7 (Qa.st7 s v4a a t r p q d6a b u c w2)) k s v4a a t r p q d6a b u c w2 w0a V K g v w d0a o m j w2' := by
 intro k
 induction k with
 | zero => intro s v4a a t r p q d6a b u c w2 w0a V K g v w d0a o m j w2'; rfl
 | succ k ih =>
  intro s v4a a t r p q d6a b u c w2 w0a V K g v w d0a o m j w2'
  have h : Qa.LN100000001 n x M7 s v4a a t r p q d6a b u c w2 (k + 1) (Qa.st100000001 w0a V K g v w d0a o m j w2') = Qa.g100000001raw (fun s v4a a t r p q d6a b u c w2 => M7 (Qa.st7 s v4a a t r p q d6a b u c w2)) (fun s v4a a t r p q d6a b u c w2 w0a V K g v w d0a o m j w2' => Qa.LN100000001 n x M7 s v4a a t r p q d6a b u c w2 k (Qa.st100000001 w0a V K g v w d0a o m j w2')) s v4a a t r p q d6a b u c w2 w0a V K g v w d0a o m j w2' := by kernel_rfl
  rw [Qa.g100000001raw_eq] at h
  rw [h]
  simp only [ih]
  rfl
set_option maxRecDepth 100000 in
theorem Qa.lem1000009 (n : Nat) (x : YE × Int) (M7 : St → Option (YJ)) : ∀ (k : Nat) (s : Int) (v4a : Bool) (a : Bool) (t : Bool) (r : Bool) (p : Bool) (q : Int) (d6a : List YC) (b : Int) (u : Int) (c : Bool × Bool × Bool × Bool × Bool × Int) (w2 : List Int), Qa.LN1000009 n x M7 k (Qa.st1000009 s v4a a t r p q d6a b u c w2) = Qa.l1000009 n (fun s v4a a t r p q d6a b u c w2 => M7 (Qa.st7 s v4a a t r p q d6a b u c w2)) k s v4a a t r p q d6a b u c w2 := by
 intro k
 induction k with
 | zero => intro s v4a a t r p q d6a b u c w2; rfl
 | succ k ih =>
  intro s v4a a t r p q d6a b u c w2
  have h : Qa.LN1000009 n x M7 (k + 1) (Qa.st1000009 s v4a a t r p q d6a b u c w2) = Qa.g1000009 (fun s v4a a t r p q d6a b u c w2 w0a V K g v w d0a o m j w2' => Qa.LN100000001 n x M7 s v4a a t r p q d6a b u c w2 n (Qa.st100000001 w0a V K g v w d0a o m j w2')) (fun s v4a a t r p q d6a b u c w2 => M7 (Qa.st7 s v4a a t r p q d6a b u c w2)) (fun s v4a a t r p q d6a b u c w2 => Qa.LN1000009 n x M7 k (Qa.st1000009 s v4a a t r p q d6a b u c w2)) s v4a a t r p q d6a b u c w2 := by kernel_rfl
  rw [h]
  simp only [ih, Qa.lem100000001]
  rfl
set_option maxRecDepth 100000 in
theorem Qa.lem1000008 (n : Nat) (x : YE × Int) (M7 : St → Option (YJ)) : ∀ (k : Nat) (s : Int) (v4a : Bool) (a : Bool) (t : Bool) (r : Bool) (p : Bool) (q : Int) (d6a : List YC) (b : Int) (u : Int) (c : Bool × Bool × Bool × Bool × Bool × Int) (w2 : List Int), Qa.LN1000008 n x M7 k (Qa.st1000008 s v4a a t r p q d6a b u c w2) = Qa.l1000008 n (fun s v4a a t r p q d6a b u c w2 => M7 (Qa.st7 s v4a a t r p q d6a b u c w2)) k s v4a a t r p q d6a b u c w2 := by
 intro k
 induction k with
 | zero => intro s v4a a t r p q d6a b u c w2; rfl
 | succ k ih =>
  intro s v4a a t r p q d6a b u c w2
  have h : Qa.LN1000008 n x M7 (k + 1) (Qa.st1000008 s v4a a t r p q d6a b u c w2) = Qa.g1000008 (fun s v4a a t r p q d6a b u c w2 => Qa.LN1000009 n x M7 n (Qa.st1000009 s v4a a t r p q d6a b u c w2)) (fun s v4a a t r p q d6a b u c w2 => M7 (Qa.st7 s v4a a t r p q d6a b u c w2)) (fun s v4a a t r p q d6a b u c w2 => Qa.LN1000008 n x M7 k (Qa.st1000008 s v4a a t r p q d6a b u c w2)) s v4a a t r p q d6a b u c w2 := by kernel_rfl
  rw [h]
  simp only [ih, Qa.lem1000009]
  rfl
set_option maxRecDepth 100000 in
theorem Qa.lem7 (n : Nat) (x : YE × Int) : ∀ (k : Nat) (s : Int) (v4a : Bool) (a : Bool) (t : Bool) (r : Bool) (p : Bool) (q : Int) (d6a : List YC) (b : Int) (u : Int) (c : Bool × Bool × Bool × Bool × Bool × Int) (w2 : List Int), Qa.LN7 n x k (Qa.st7 s v4a a t r p q d6a b u c w2) = Qa.l7 n k s v4a a t r p q d6a b u c w2 := by
 intro k
 induction k with
 | zero => intro s v4a a t r p q d6a b u c w2; rfl
 | succ k ih =>
  intro s v4a a t r p q d6a b u c w2
  have h : Qa.LN7 n x (k + 1) (Qa.st7 s v4a a t r p q d6a b u c w2) = Qa.g7 (fun s v4a a t r p q d6a b u c w2 => Qa.LN1000008 n x (Qa.LN7 n x k) n (Qa.st1000008 s v4a a t r p q d6a b u c w2)) (fun s v4a a t r p q d6a b u c w2 => Qa.LN7 n x k (Qa.st7 s v4a a t r p q d6a b u c w2)) s v4a a t r p q d6a b u c w2 := by kernel_rfl
  rw [h]
  simp only [ih, Qa.lem1000008]
  rfl
set_option maxRecDepth 100000 in
theorem Qa.lem1000007 (n : Nat) (x : YE × Int) : ∀ (k : Nat) (s : Int) (v4a : Bool) (a : Bool) (t : Bool) (r : Bool) (p : Bool) (q : Int) (d6a : List YC) (b : Int) (u : Int) (c : Bool × Bool × Bool × Bool × Bool × Int) (w2 : List Int), Qa.LN1000007 n x k (Qa.st1000007 s v4a a t r p q d6a b u c w2) = Qa.l1000007 n k s v4a a t r p q d6a b u c w2 := by
 intro k
 induction k with
 | zero => intro s v4a a t r p q d6a b u c w2; rfl
 | succ k ih =>
  intro s v4a a t r p q d6a b u c w2
  have h : Qa.LN1000007 n x (k + 1) (Qa.st1000007 s v4a a t r p q d6a b u c w2) = Qa.g1000007 (fun s v4a a t r p q d6a b u c w2 => Qa.LN7 n x n (Qa.st7 s v4a a t r p q d6a b u c w2)) (fun s v4a a t r p q d6a b u c w2 => Qa.LN1000007 n x k (Qa.st1000007 s v4a a t r p q d6a b u c w2)) s v4a a t r p q d6a b u c w2 := by kernel_rfl
  rw [h]
  simp only [ih, Qa.lem7]
  rfl
set_option maxRecDepth 100000 in
theorem Qa.lem70000001 (n : Nat) (x : YE × Int) : ∀ (k : Nat) (s : Int) (v4a : Bool) (a : Bool) (t : Bool) (r : Bool) (p : Bool) (q : Int) (d6a : List YC) (b : Int) (u : Int) (R : Bool) (Q : Bool) (l : Bool) (d : Bool) (y : Bool) (z : Int) (w2 : List Int) (w0a : Bool) (V : Bool) (K : Bool) (g : Bool) (v : Bool) (w : Int) (d0a : List YC) (o : Int) (m : Int) (j : Bool × Bool × Bool × Bool × Bool × Int) (w2' : List Int), Qa.LN70000001 n x s v4a a t r p q d6a b u R Q l d y z w2 k (Qa.st70000001 w0a V K g v w d0a o m j w2') = Qa.l70000001 n k s v4a a t r p q d6a b u R Q l d y z w2 w0a V K g v w d0a o m j w2' := by
 intro k
 induction k with
 | zero => intro s v4a a t r p q d6a b u R Q l d y z w2 w0a V K g v w d0a o m j w2'; rfl
 | succ k ih =>
  intro s v4a a t r p q d6a b u R Q l d y z w2 w0a V K g v w d0a o m j w2'
  have h : Qa.LN70000001 n x s v4a a t r p q d6a b u R Q l d y z w2 (k + 1) (Qa.st70000001 w0a V K g v w d0a o m j w2') = Qa.g70000001raw (fun s v4a a t r p q d6a b u c w2 => Qa.LN1000007 n x n (Qa.st1000007 s v4a a t r p q d6a b u c w2)) (fun s v4a a t r p q d6a b u R Q l d y z w2 w0a V K g v w d0a o m j w2' => Qa.LN70000001 n x s v4a a t r p q d6a b u R Q l d y z w2 k (Qa.st70000001 w0a V K g v w d0a o m j w2')) s v4a a t r p q d6a b u R Q l d y z w2 w0a V K g v w d0a o m j w2' := by kernel_rfl
  rw [Qa.g70000001raw_eq] at h
  rw [h]
  simp only [ih, Qa.lem1000007]
  rfl
set_option maxRecDepth 100000 in
theorem Qa.lem1000006 (n : Nat) (x : YE × Int) : ∀ (k : Nat) (s : Int) (v4a : Bool) (a : Bool) (t : Bool) (r : Bool) (p : Bool) (q : Int) (d6a : List YC) (b : Int) (u : Int) (R : Bool) (Q : Bool) (l : Bool) (d : Bool) (y : Bool) (z : Int) (w2 : List Int), Qa.LN1000006 n x k (Qa.st1000006 s v4a a t r p q d6a b u R Q l d y z w2) = Qa.l1000006 n k s v4a a t r p q d6a b u R Q l d y z w2 := by
 intro k
 induction k with
 | zero => intro s v4a a t r p q d6a b u R Q l d y z w2; rfl
 | succ k ih =>
  intro s v4a a t r p q d6a b u R Q l d y z w2
  have h : Qa.LN1000006 n x (k + 1) (Qa.st1000006 s v4a a t r p q d6a b u R Q l d y z w2) = Qa.g1000006 (fun s v4a a t r p q d6a b u R Q l d y z w2 w0a V K g v w d0a o m j w2' => Qa.LN70000001 n x s v4a a t r p q d6a b u R Q l d y z w2 n (Qa.st70000001 w0a V K g v w d0a o m j w2')) (fun s v4a a t r p q d6a b u R Q l d y z w2 => Qa.LN1000006 n x k (Qa.st1000006 s v4a a t r p q d6a b u R Q l d y z w2)) s v4a a t r p q d6a b u R Q l d y z w2 := by kernel_rfl
  rw [h]
  simp only [ih, Qa.lem70000001]
  rfl
set_option maxRecDepth 100000 in
theorem Qa.body (n : Nat) (x : YE × Int) : bodyFI Qa.E Qa.I Qa.keep n Tryz.f102 Qa.con x = Qa.fn n x.1 x.2 := by
 have h : bodyFI Qa.E Qa.I Qa.keep n Tryz.f102 Qa.con x = Qa.top (fun s v4a a t r p q d6a b u R Q l d y z w2 => Qa.LN1000006 n x n (Qa.st1000006 s v4a a t r p q d6a b u R Q l d y z w2)) x.1 x.2 := by kernel_rfl
 rw [h]
 simp only [Qa.lem1000006]
 rfl
set_option maxRecDepth 100000 in
theorem Qa.good : Good Tryz.prog 102 Qa.con :=
 good_ofI tabok (cs := Qa.cs) ⟨Qk.good, QaY.good, Qap.good, trivial⟩ 0 false (fn := Tryz.f102) Tryz.func102 rfl (by decide) (by simp [Qa.con]) Qa.keep NN (fun _ => rfl) Qa.hI (fun x => Qa.body NN x)
end
end Go.Ev.Tryz

namespace Go.Ev.Tryz
open Go.Proofs Go.Pl
set_option linter.unusedVariables false
noncomputable section
def QaH.con : Con := { ps := [(.val, (.pair .bool (.pair .bool (.pair .bool (.pair .bool (.pair .bool (.int .i64)))))))], rs := [(.val, .str)], F := fun x => QaH.f x }
def QaH.cs : List (FuncId × Con) := []
def QaH.E : Env := envOf tab QaH.cs 0 false
def QaH.keep (i : Nat) : List Nat := []
set_option maxRecDepth 100000 in
theorem QaH.body (n : Nat) (x : Bool × Bool × Bool × Bool × Bool × Int) : bodyF QaH.E QaH.keep n Tryz.f103 QaH.con x = QaH.fn n x := by
 have h : bodyF QaH.E QaH.keep n Tryz.f103 QaH.con x = QaH.top x := by kernel_rfl
 exact h
set_option maxRecDepth 100000 in
theorem QaH.good : Good Tryz.prog 103 QaH.con :=
 good_of tabok (cs := QaH.cs) trivial 0 false (fn := Tryz.f103) Tryz.func103 rfl (by decide) (by simp [QaH.con]) QaH.keep NN (fun _ => rfl) (fun x => QaH.body NN x)
end
end Go.Ev.Tryz

namespace Go.Ev.Tryz
open Go.Proofs Go.Pl
set_option linter.unusedVariables false
noncomputable section
def Q4.st2 (q : ByteArray) (k5 : Int) (p : List ByteArray) : St := ⟨[.ref 0, .dat .str q, .gone, .gone, .gone, .dat (.int .i64) k5, .gone, .gone, .gone, .gone, .gone, .gone, .gone, .gone, .gone, .gone, .gone, .gone, .gone, .gone, .gone, .gone, .gone, .gone, .gone, .gone, .gone, .gone, .gone, .gone, .gone, .gone, .gone, .gone, .gone, .gone, .gone, .gone, .gone, .gone, .gone, .gone, .gone, .gone, .gone, .gone, .gone, .gone, .gone], [.row 9 .str p none]⟩
def Q4.con : Con := { ps := [(.own, (.sl 9 .str)), (.val, .str)], rs := [(.own, (.sl 9 .str))], gv := true, F := fun x => Q4.f x.1 x.2 }
def Q4.cs : List (FuncId × Con) := []
def Q4.E : Env := envOf tab Q4.cs 0 true
def Q4.keep (i : Nat) : List Nat := if i = 2 then [0, 1, 5] else []
def Q4.at2 (n : Nat) (x : List ByteArray × ByteArray) : Code × (Ex → St → Option (YQ)) := ctx Q4.E Q4.keep n [.snd, .snd, .fst, .blk] (codeOf Tryz.f104) (kEnd Q4.E Tryz.f104 Q4.con x)
def Q4.LN2 (n : Nat) (x : List ByteArray × ByteArray) : Nat → St → Option (YQ) := loopN (exec Q4.E Q4.keep n (bodyOf (Q4.at2 n x).1)) (St.norm 0 (Q4.keep 2)) (Q4.at2 n x).2
set_option maxRecDepth 100000 in
theorem Q4.lem2 (n : Nat) (x : List ByteArray × ByteArray) : ∀ (k : Nat) (q : ByteArray) (k5 : Int) (p : List ByteArray), Q4.LN2 n x k (Q4.st2 q k5 p) = Q4.l2 n k q k5 p := by
 intro k
 induction k with
 | zero => intro q k5 p; rfl
 | succ k ih =>
  intro q k5 p
  have h : Q4.LN2 n x (k + 1) (Q4.st2 q k5 p) = Q4.g2 (fun q k5 p => Q4.LN2 n x k (Q4.st2 q k5 p)) q k5 p := by kernel_rfl
  rw [h]
  simp only [ih]
  rfl
set_option maxRecDepth 100000 in
theorem Q4.body (n : Nat) (x : List ByteArray × ByteArray) : bodyF Q4.E Q4.keep n Tryz.f104 Q4.con x = Q4.fn n x.1 x.2 := by
 have h : bodyF Q4.E Q4.keep n Tryz.f104 Q4.con x = Q4.top (fun q k5 p => Q4.LN2 n x n (Q4.st2 q k5 p)) x.1 x.2 := by kernel_rfl
 rw [h]
 simp only [Q4.lem2]
 rfl
set_option maxRecDepth 100000 in
theorem Q4.good : Good Tryz.prog 104 Q4.con :=
 good_of tabok (cs := Q4.cs) trivial 0 true (fn := Tryz.f104) Tryz.func104 rfl (by decide) (by simp [Q4.con]) Q4.keep NN (fun _ => rfl) (fun x => Q4.body NN x)
end
end Go.Ev.Tryz

namespace Go.Ev.Tryz
open Go.Proofs Go.Pl
set_option linter.unusedVariables false
noncomputable section
def QI.st2 (q : Int) (p : Int) (v9 : List Int) (v10 : Int) (v11 : Int) : St := ⟨[.gone, .dat (.int .i64) q, .dat (.int .i64) p, .gone, .gone, .gone, .gone, .gone, .gone, .dat (.sl 2 (.int .i64)) v9, .dat (.int .i64) v10, .dat (.int .i64) v11, .gone, .gone, .gone, .gone, .gone, .gone, .gone, .gone, .gone], []⟩
def QI.con : Con := { ps := [(.val, (.sl 2 (.int .i64))), (.val, (.int .i64)), (.val, (.int .i64))], rs := [(.val, .bool)], F := fun x => QI.f x.1 x.2.1 x.2.2 }
def QI.cs : List (FuncId × Con) := [(86, Qaf.con)]
def QI.E : Env := envOf tab QI.cs 0 false
def QI.keep (i : Nat) : List Nat := if i = 2 then [1, 2, 9, 10, 11] else []
def QI.at2 (n : Nat) (x : List Int × Int × Int) : Code × (Ex → St → Option (Bool)) := ctx QI.E QI.keep n [.snd, .fst, .snd, .blk] (codeOf Tryz.f166) (kEnd QI.E Tryz.f166 QI.con x)
def QI.LN2 (n : Nat) (x : List Int × Int × Int) : Nat → St → Option (Bool) := loopN (exec QI.E QI.keep n (bodyOf (QI.at2 n x).1)) (St.norm 0 (QI.keep 2)) (QI.at2 n x).2
set_option maxRecDepth 100000 in
theorem QI.lem2 (n : Nat) (x : List Int × Int × Int) : ∀ (k : Nat) (q : Int) (p : Int) (v9 : List Int) (v10 : Int) (v11 : Int), QI.LN2 n x k (QI.st2 q p v9 v10 v11) = QI.l2 n k q p v9 v10 v11 := by
 intro k
 induction k with
 | zero => intro q p v9 v10 v11; rfl
 | succ k ih =>
  intro q p v9 v10 v11
  have h : QI.LN2 n x (k + 1) (QI.st2 q p v9 v10 v11) = QI.g2 (fun q p v9 v10 v11 => QI.LN2 n x k (QI.st2 q p v9 v10 v11)) q p v9 v10 v11 := by kernel_rfl
  rw [h]
  simp only [ih]
  rfl
set_option maxRecDepth 100000 in
theorem QI.body (n : Nat) (x : List Int × Int × Int) : bodyF QI.E QI.keep n Tryz.f166 QI.con x = QI.fn n x.1 x.2.1 x.2.2 := by
 have h : bodyF QI.E QI.keep n Tryz.f166 QI.con x = QI.top (fun q p v9 v10 v11 => QI.LN2 n x n (QI.st2 q p v9 v10 v11)) x.1 x.2.1 x.2.2 := by kernel_rfl
 rw [h]
 simp only [QI.lem2]
 rfl
set_option maxRecDepth 100000 in
theorem QI.good : Good Tryz.prog 166 QI.con :=
 good_of tabok (cs := QI.cs) ⟨Qaf.good, trivial⟩ 0 false (fn := Tryz.f166) Tryz.func166 rfl (by decide) (by simp [QI.con]) QI.keep NN (fun _ => rfl) (fun x => QI.body NN x)
end
end Go.Ev.Tryz

namespace Go.Ev.Tryz
open Go.Proofs Go.Pl
set_option linter.unusedVariables false
noncomputable section
def Qav.con : Con := { ps := [(.val, (.sl 2 (.int .i64)))], rs := [(.val, .bool)], F := fun x => Qav.f x }
def Qav.cs : List (FuncId × Con) := [(166, QI.con)]
def Qav.E : Env := envOf tab Qav.cs 0 false
def Qav.keep (i : Nat) : List Nat := []
set_option maxRecDepth 100000 in
theorem Qav.body (n : Nat) (x : List Int) : bodyF Qav.E Qav.keep n Tryz.f154 Qav.con x = Qav.fn n x := by
 have h : bodyF Qav.E Qav.keep n Tryz.f154 Qav.con x = Qav.top x := by kernel_rfl
 exact h
set_option maxRecDepth 100000 in
theorem Qav.good : Good Tryz.prog 154 Qav.con :=
 good_of tabok (cs := Qav.cs) ⟨QI.good, trivial⟩ 0 false (fn := Tryz.f154) Tryz.func154 rfl (by decide) (by simp [Qav.con]) Qav.keep NN (fun _ => rfl) (fun x => Qav.body NN x)
end
end Go.Ev.Tryz

namespace Go.Ev.Tryz
open Go.Proofs Go.Pl
set_option linter.unusedVariables false
noncomputable section
def QV.st4 (v8 : List ByteArray) (v9 : Int) (v10 : Int) : St := ⟨[.gone, .gone, .gone, .gone, .gone, .gone, .gone, .gone, .dat (.sl 9 .str) v8, .dat (.int .i64) v9, .dat (.int .i64) v10, .gone, .gone, .gone, .gone, .gone, .gone, .gone], []⟩
def QV.con : Con := { ps := [(.val, (.sl 9 .str))], rs := [(.val, .bool)], F := fun x => QV.f x }
def QV.cs : List (FuncId × Con) := [(85, QR.con)]
def QV.E : Env := envOf tab QV.cs 0 false
def QV.keep (i : Nat) : List Nat := if i = 4 then [8, 9, 10] else []
def QV.at4 (n : Nat) (x : List ByteArray) : Code × (Ex → St → Option (Bool)) := ctx QV.E QV.keep n [.snd, .snd, .fst, .snd, .blk] (codeOf Tryz.f155) (kEnd QV.E Tryz.f155 QV.con x)
def QV.LN4 (n : Nat) (x : List ByteArray) : Nat → St → Option (Bool) := loopN (exec QV.E QV.keep n (bodyOf (QV.at4 n x).1)) (St.norm 0 (QV.keep 4)) (QV.at4 n x).2
set_option maxRecDepth 100000 in
theorem QV.lem4 (n : Nat) (x : List ByteArray) : ∀ (k : Nat) (v8 : List ByteArray) (v9 : Int) (v10 : Int), QV.LN4 n x k (QV.st4 v8 v9 v10) = QV.l4 n k v8 v9 v10 := by
 intro k
 induction k with
 | zero => intro v8 v9 v10; rfl
 | succ k ih =>
  intro v8 v9 v10
  have h : QV.LN4 n x (k + 1) (QV.st4 v8 v9 v10) = QV.g4 (fun v8 v9 v10 => QV.LN4 n x k (QV.st4 v8 v9 v10)) v8 v9 v10 := by kernel_rfl
  rw [h]
  simp only [ih]
  rfl
set_option maxRecDepth 100000 in
theorem QV.body (n : Nat) (x : List ByteArray) : bodyF QV.E QV.keep n Tryz.f155 QV.con x = QV.fn n x := by
 have h : bodyF QV.E QV.keep n Tryz.f155 QV.con x = QV.top (fun v8 v9 v10 => QV.LN4 n x n (QV.st4 v8 v9 v10)) x := by kernel_rfl
 rw [h]
 simp only [QV.lem4]
 rfl
set_option maxRecDepth 100000 in
theorem QV.good : Good Tryz.prog 155 QV.con :=
 good_of tabok (cs := QV.cs) ⟨QR.good, trivial⟩ 0 false (fn := Tryz.f155) Tryz.func155 rfl (by decide) (by simp [QV.con]) QV.keep NN (fun _ => rfl) (fun x => QV.body NN x)
end
end Go.Ev.Tryz

namespace Go.Ev.Tryz
open Go.Proofs Go.Pl
set_option linter.unusedVariables false
noncomputable section
def QaO.con : Con := { ps := [(.val, (.sl 2 (.int .i64))), (.val, (.sl 72 (.pair (.int .i64) (.int .i64)))), (.val, (.sl 70 (.pair (.int .i64) (.pair .str (.int .i64))))), (.val, (.sl 9 .str))], rs := [(.val, .bool)], F := fun x => QaO.f x.1 x.2.1 x.2.2.1 x.2.2.2 }
def QaO.cs : List (FuncId × Con) := [(54, QA.con), (55, Qk.con), (154, Qav.con), (155, QV.con)]
def QaO.E : Env := envOf tab QaO.cs 0 false
def QaO.keep (i : Nat) : List Nat := []
set_option maxRecDepth 100000 in
theorem QaO.body (n : Nat) (x : List Int × YE × YD × List ByteArray) : bodyF QaO.E QaO.keep n Tryz.f134 QaO.con x = QaO.fn n x.1 x.2.1 x.2.2.1 x.2.2.2 := by
 have h : bodyF QaO.E QaO.keep n Tryz.f134 QaO.con x = QaO.top x.1 x.2.1 x.2.2.1 x.2.2.2 := by kernel_rfl
 exact h
set_option maxRecDepth 100000 in
theorem QaO.good : Good Tryz.prog 134 QaO.con :=
 good_of tabok (cs := QaO.cs) ⟨QA.good, Qk.good, Qav.good, QV.good, trivial⟩ 0 false (fn := Tryz.f134) Tryz.func134 rfl (by decide) (by simp [QaO.con]) QaO.keep NN (fun _ => rfl) (fun x => QaO.body NN x)
end
end Go.Ev.Tryz

namespace Go.Ev.Tryz
open Go.Proofs Go.Pl
set_option linter.unusedVariables false
noncomputable section
def Qbb.con : Con := { ps := [(.val, (.pair .bool (.pair .bool (.pair .bool (.pair .bool (.pair .bool (.int .i64)))))))], rs := [(.val, .bool)], F := fun x => Qbb.f x }
def Qbb.cs : List (FuncId × Con) := []
def Qbb.E : Env := envOf tab Qbb.cs 0 false
def Qbb.keep (i : Nat) : List Nat := []
set_option maxRecDepth 100000 in
theorem Qbb.body (n : Nat) (x : Bool × Bool × Bool × Bool × Bool × Int) : bodyF Qbb.E Qbb.keep n Tryz.f156 Qbb.con x = Qbb.fn n x := by
 have h : bodyF Qbb.E Qbb.keep n Tryz.f156 Qbb.con x = Qbb.top x := by kernel_rfl
 exact h
set_option maxRecDepth 100000 in
theorem Qbb.good : Good Tryz.prog 156 Qbb.con :=
 good_of tabok (cs := Qbb.cs) trivial 0 false (fn := Tryz.f156) Tryz.func156 rfl (by decide) (by simp [Qbb.con]) Qbb.keep NN (fun _ => rfl) (fun x => Qbb.body NN x)
end
end Go.Ev.Tryz

namespace Go.Ev.Tryz
open Go.Proofs Go.Pl
set_option linter.unusedVariables false
noncomputable section
def Qs.st2 (p : List YA) (t2 : Int) (v9 : List ByteArray) (v10 : Int) (v11 : Int) : St := ⟨[.dat (.sl 70 (.pair (.int .i64) (.pair .str (.int .i64)))) p, .gone, .dat (.int .i64) t2, .gone, .gone, .gone, .gone, .gone, .gone, .dat (.sl 9 .str) v9, .dat (.int .i64) v10, .dat (.int .i64) v11, .gone, .gone, .gone, .gone, .gone, .gone, .gone, .gone, .gone], []⟩
def Qs.con : Con := { ps := [(.val, (.sl 70 (.pair (.int .i64) (.pair .str (.int .i64))))), (.val, (.sl 9 .str)), (.val, (.int .i64))], rs := [(.val, .bool)], F := fun x => Qs.f x.1 x.2.1 x.2.2 }
def Qs.cs : List (FuncId × Con) := [(131, QY.con)]
def Qs.E : Env := envOf tab Qs.cs 0 false
def Qs.keep (i : Nat) : List Nat := if i = 2 then [0, 2, 9, 10, 11] else []
def Qs.at2 (n : Nat) (x : YD × List ByteArray × Int) : Code × (Ex → St → Option (Bool)) := ctx Qs.E Qs.keep n [.snd, .fst, .snd, .blk] (codeOf Tryz.f157) (kEnd Qs.E Tryz.f157 Qs.con x)
def Qs.LN2 (n : Nat) (x : YD × List ByteArray × Int) : Nat → St → Option (Bool) := loopN (exec Qs.E Qs.keep n (bodyOf (Qs.at2 n x).1)) (St.norm 0 (Qs.keep 2)) (Qs.at2 n x).2
set_option maxRecDepth 100000 in
theorem Qs.lem2 (n : Nat) (x : YD × List ByteArray × Int) : ∀ (k : Nat) (p : List YA) (t2 : Int) (v9 : List ByteArray) (v10 : Int) (v11 : Int), Qs.LN2 n x k (Qs.st2 p t2 v9 v10 v11) = Qs.l2 n k p t2 v9 v10 v11 := by
 intro k
 induction k with
 | zero => intro p t2 v9 v10 v11; rfl
 | succ k ih =>
  intro p t2 v9 v10 v11
  have h : Qs.LN2 n x (k + 1) (Qs.st2 p t2 v9 v10 v11) = Qs.g2 (fun p t2 v9 v10 v11 => Qs.LN2 n x k (Qs.st2 p t2 v9 v10 v11)) p t2 v9 v10 v11 := by kernel_rfl
  rw [h]
  simp only [ih]
  rfl
set_option maxRecDepth 100000 in
theorem Qs.body (n : Nat) (x : YD × List ByteArray × Int) : bodyF Qs.E Qs.keep n Tryz.f157 Qs.con x = Qs.fn n x.1 x.2.1 x.2.2 := by
 have h : bodyF Qs.E Qs.keep n Tryz.f157 Qs.con x = Qs.top (fun p t2 v9 v10 v11 => Qs.LN2 n x n (Qs.st2 p t2 v9 v10 v11)) x.1 x.2.1 x.2.2 := by kernel_rfl
 rw [h]
 simp only [Qs.lem2]
 rfl
set_option maxRecDepth 100000 in
theorem Qs.good : Good Tryz.prog 157 Qs.con :=
 good_of tabok (cs := Qs.cs) ⟨QY.good, trivial⟩ 0 false (fn := Tryz.f157) Tryz.func157 rfl (by decide) (by simp [Qs.con]) Qs.keep NN (fun _ => rfl) (fun x => Qs.body NN x)
end
end Go.Ev.Tryz

namespace Go.Ev.Tryz
open Go.Proofs Go.Pl
set_option linter.unusedVariables false
noncomputable section
def Qb.st1000019 (q : List Int) (r : List YA) (s : List ByteArray) (t : Int) (w : List Int) (y : List YC) (v : Int) (u : Int) (p : Bool × Bool × Bool × Bool × Bool × Int) (w2 : List Int) : St := ⟨[.dat (.sl 2 (.int .i64)) q, .gone, .dat (.sl 70 (.pair (.int .i64) (.pair .str (.int .i64)))) r, .dat (.sl 9 .str) s, .gone, .gone, .gone, .gone, .gone, .ref 0, .dat (.int .i64) t, .gone, .gone, .ptr 1 [], .gone, .gone, .gone, .gone, .gone, .gone, .gone, .gone, .gone, .gone, .gone, .gone, .gone, .gone, .gone, .gone, .gone, .gone, .gone, .gone, .gone, .gone, .gone, .gone, .gone, .gone, .gone, .gone, .gone, .gone, .gone, .gone, .gone, .gone, .gone, .gone, .gone, .gone, .gone, .gone, .gone, .gone, .gone, .gone, .gone, .gone, .gone, .gone, .gone, .gone, .gone, .gone, .gone, .gone, .gone, .gone, .gone, .gone, .gone, .gone, .gone, .gone, .gone, .gone, .gone, .gone, .gone, .gone, .gone, .gone, .gone], [.row 2 (.int .i64) w none, .box 137 (.pair (.sl 72 (.pair (.int .i64) (.int .i64))) (.pair (.int .i64) (.pair (.int .i64) (.pair (.pair .bool (.pair .bool (.pair .bool (.pair .bool (.pair .bool (.int .i64)))))) (.sl 2 (.int .i64)))))) (.pr (.dat (.sl 72 (.pair (.int .i64) (.int .i64))) y) (.pr (.dat (.int .i64) v) (.pr (.dat (.int .i64) u) (.pr (.dat (.pair .bool (.pair .bool (.pair .bool (.pair .bool (.pair .bool (.int .i64)))))) p) (.ref 2))))), .row 2 (.int .i64) w2 none]⟩
def Qb.st14 (q : List Int) (r : List YA) (s : List ByteArray) (t : Int) (v50 : List Int) (v51 : Int) (v52 : Int) (w : List Int) (y : List YC) (v : Int) (u : Int) (p : Bool × Bool × Bool × Bool × Bool × Int) (w2 : List Int) : St := ⟨[.dat (.sl 2 (.int .i64)) q, .gone, .dat (.sl 70 (.pair (.int .i64) (.pair .str (.int .i64)))) r, .dat (.sl 9 .str) s, .gone, .gone, .gone, .gone, .gone, .ref 0, .dat (.int .i64) t, .gone, .gone, .ptr 1 [], .gone, .gone, .gone, .gone, .gone, .gone, .gone, .gone, .gone, .gone, .gone, .gone, .gone, .gone, .gone, .gone, .gone, .gone, .gone, .gone, .gone, .gone, .gone, .gone, .gone, .gone, .gone, .gone, .gone, .gone, .gone, .gone, .gone, .gone, .gone, .gone, .dat (.sl 2 (.int .i64)) v50, .dat (.int .i64) v51, .dat (.int .i64) v52, .gone, .gone, .gone, .gone, .gone, .gone, .gone, .gone, .gone, .gone, .gone, .gone, .gone, .gone, .gone, .gone, .gone, .gone, .gone, .gone, .gone, .gone, .gone, .gone, .gone, .gone, .gone, .gone, .gone, .gone, .gone, .gone], [.row 2 (.int .i64) w none, .box 137 (.pair (.sl 72 (.pair (.int .i64) (.int .i64))) (.pair (.int .i64) (.pair (.int .i64) (.pair (.pair .bool (.pair .bool (.pair .bool (.pair .bool (.pair .bool (.int .i64)))))) (.sl 2 (.int .i64)))))) (.pr (.dat (.sl 72 (.pair (.int .i64) (.int .i64))) y) (.pr (.dat (.int .i64) v) (.pr (.dat (.int .i64) u) (.pr (.dat (.pair .bool (.pair .bool (.pair .bool (.pair .bool (.pair .bool (.int .i64)))))) p) (.ref 2))))), .row 2 (.int .i64) w2 none]⟩
def Qb.st1000012 (q : List Int) (r : List YA) (s : List ByteArray) (t : Int) (w : List Int) (y : List YC) (v : Int) (u : Int) (p : Bool × Bool × Bool × Bool × Bool × Int) (w2 : List Int) : St := ⟨[.dat (.sl 2 (.int .i64)) q, .gone, .dat (.sl 70 (.pair (.int .i64) (.pair .str (.int .i64)))) r, .dat (.sl 9 .str) s, .gone, .gone, .gone, .gone, .gone, .ref 0, .dat (.int .i64) t, .gone, .gone, .ptr 1 [], .gone, .gone, .gone, .gone, .gone, .gone, .gone, .gone, .gone, .gone, .gone, .gone, .gone, .gone, .gone, .gone, .gone, .gone, .gone, .gone, .gone, .gone, .gone, .gone, .gone, .gone, .gone, .gone, .gone, .gone, .gone, .gone, .gone, .gone, .gone, .gone, .gone, .gone, .gone, .gone, .gone, .gone, .gone, .gone, .gone, .gone, .gone, .gone, .gone, .gone, .gone, .gone, .gone, .gone, .gone, .gone, .gone, .gone, .gone, .gone, .gone, .gone, .gone, .gone, .gone, .gone, .gone, .gone, .gone, .gone, .gone], [.row 2 (.int .i64) w none, .box 137 (.pair (.sl 72 (.pair (.int .i64) (.int .i64))) (.pair (.int .i64) (.pair (.int .i64) (.pair (.pair .bool (.pair .bool (.pair .bool (.pair .bool (.pair .bool (.int .i64)))))) (.sl 2 (.int .i64)))))) (.pr (.dat (.sl 72 (.pair (.int .i64) (.int .i64))) y) (.pr (.dat (.int .i64) v) (.pr (.dat (.int .i64) u) (.pr (.dat (.pair .bool (.pair .bool (.pair .bool (.pair .bool (.pair .bool (.int .i64)))))) p) (.ref 2))))), .row 2 (.int .i64) w2 none]⟩
def Qb.st120000001 (w0 : List Int) (d0a : List YC) (b : Int) (a : Int) (z : Bool × Bool × Bool × Bool × Bool × Int) (w2' : List Int) : St := ⟨[.ptr 1 [], .gone, .gone, .gone, .gone, .gone, .gone, .gone, .gone, .gone, .gone, .gone, .gone, .gone, .gone, .gone, .gone, .gone, .gone, .gone, .gone, .gone, .gone, .gone, .gone, .gone, .gone, .gone, .gone, .gone, .gone, .gone, .gone, .gone, .gone, .gone, .gone, .gone, .gone, .gone, .gone, .gone, .gone, .gone, .gone, .gone, .gone, .gone, .gone, .gone, .gone, .gone, .gone, .gone, .gone, .gone, .gone, .gone, .gone, .gone, .gone, .gone, .gone, .gone, .gone, .gone, .gone, .gone, .gone, .gone, .gone, .gone, .gone, .gone, .gone, .gone, .gone], [.row 2 (.int .i64) w0 none, .box 137 (.pair (.sl 72 (.pair (.int .i64) (.int .i64))) (.pair (.int .i64) (.pair (.int .i64) (.pair (.pair .bool (.pair .bool (.pair .bool (.pair .bool (.pair .bool (.int .i64)))))) (.sl 2 (.int .i64)))))) (.pr (.dat (.sl 72 (.pair (.int .i64) (.int .i64))) d0a) (.pr (.dat (.int .i64) b) (.pr (.dat (.int .i64) a) (.pr (.dat (.pair .bool (.pair .bool (.pair .bool (.pair .bool (.pair .bool (.int .i64)))))) z) (.ref 2))))), .row 2 (.int .i64) w2' none]⟩
def Qb.tr0 (L120000001 : YP) (q : List Int) (r : List YA) (s : List ByteArray) (t : Int) (w : List Int) (y : List YC) (v : Int) (u : Int) (p : Bool × Bool × Bool × Bool × Bool × Int) (w2 : List Int) (w0 : List Int) (d0a : List YC) (b : Int) (a : Int) (z : Bool × Bool × Bool × Bool × Bool × Int) (w2' : List Int) : Option YN :=
 if w2'.length + ([b]).length < room 8 then
  L120000001 q r s t w y v u p w2 w0 d0a (IntKind.i64.wrap (b + 1)) a z (w2' ++ ([b]))
 else
  none
def Qb.tr1 (L120000001 : YP) (q : List Int) (r : List YA) (s : List ByteArray) (t : Int) (w : List Int) (y : List YC) (v : Int) (u : Int) (p : Bool × Bool × Bool × Bool × Bool × Int) (w2 : List Int) (w0 : List Int) (d0a : List YC) (b : Int) (a : Int) (z : Bool × Bool × Bool × Bool × Bool × Int) (w2' : List Int) : Option YN :=
 (Qap.f z ((d0a.getD (b : Int).toNat (0, 0)).2)).bind fun r1 =>
 if ((r1.2 : Int) == 0) = true then
  L120000001 q r s t w y v u p w2 w0 d0a (IntKind.i64.wrap (b + 1)) a r1.1 w2'
 else
  agree (
   Qb.tr0 L120000001 q r s t w y v u p w2 w0 d0a b a z w2'
  ) (
   agree (
    Qb.tr0 L120000001 q r s t w y v u p w2 w0 d0a b a z w2'
   ) (
    Qb.tr0 L120000001 q r s t w y v u p w2 w0 d0a b a z w2'
   )
  )
def Qb.tr2 (L120000001 : YP) (q : List Int) (r : List YA) (s : List ByteArray) (t : Int) (w : List Int) (y : List YC) (v : Int) (u : Int) (p : Bool × Bool × Bool × Bool × Bool × Int) (w2 : List Int) (w0 : List Int) (d0a : List YC) (b : Int) (a : Int) (z : Bool × Bool × Bool × Bool × Bool × Int) (w2' : List Int) : Option YN :=
 agree (
  Qb.tr1 L120000001 q r s t w y v u p w2 w0 d0a b a z w2'
 ) (
  Qb.tr1 L120000001 q r s t w y v u p w2 w0 d0a b a z w2'
 )
def Qb.tr3 (L120000001 : YP) (q : List Int) (r : List YA) (s : List ByteArray) (t : Int) (w : List Int) (y : List YC) (v : Int) (u : Int) (p : Bool × Bool × Bool × Bool × Bool × Int) (w2 : List Int) (w0 : List Int) (d0a : List YC) (b : Int) (a : Int) (z : Bool × Bool × Bool × Bool × Bool × Int) (w2' : List Int) : Option YN :=
 agree (
  Qb.tr2 L120000001 q r s t w y v u p w2 w0 d0a b a z w2'
 ) (
  Qb.tr1 L120000001 q r s t w y v u p w2 w0 d0a b a z w2'
 )
def Qb.tr4 (L120000001 : YP) (q : List Int) (r : List YA) (s : List ByteArray) (t : Int) (w : List Int) (y : List YC) (v : Int) (u : Int) (p : Bool × Bool × Bool × Bool × Bool × Int) (w2 : List Int) (w0 : List Int) (d0a : List YC) (b : Int) (a : Int) (z : Bool × Bool × Bool × Bool × Bool × Int) (w2' : List Int) : Option YN :=
 if (0 : Int) ≤ b ∧ (b : Int) < d0a.length then
  Qb.tr1 L120000001 q r s t w y v u p w2 w0 d0a b a z w2'
 else
  none
def Qb.tr5 (L120000001 : YP) (q : List Int) (r : List YA) (s : List ByteArray) (t : Int) (w : List Int) (y : List YC) (v : Int) (u : Int) (p : Bool × Bool × Bool × Bool × Bool × Int) (w2 : List Int) (w0 : List Int) (d0a : List YC) (b : Int) (a : Int) (z : Bool × Bool × Bool × Bool × Bool × Int) (w2' : List Int) : Option YN :=
 agree (
  if (0 : Int) ≤ b ∧ (b : Int) < d0a.length then
   Qb.tr3 L120000001 q r s t w y v u p w2 w0 d0a b a z w2'
  else
   none
 ) (
  Qb.tr4 L120000001 q r s t w y v u p w2 w0 d0a b a z w2'
 )
def Qb.tr6 (L120000001 : YP) (q : List Int) (r : List YA) (s : List ByteArray) (t : Int) (w : List Int) (y : List YC) (v : Int) (u : Int) (p : Bool × Bool × Bool × Bool × Bool × Int) (w2 : List Int) (w0 : List Int) (d0a : List YC) (b : Int) (a : Int) (z : Bool × Bool × Bool × Bool × Bool × Int) (w2' : List Int) : Option YN :=
 agree (
  Qb.tr4 L120000001 q r s t w y v u p w2 w0 d0a b a z w2'
 ) (
  Qb.tr4 L120000001 q r s t w y v u p w2 w0 d0a b a z w2'
 )
def Qb.tr7 (L120000001 : YP) (q : List Int) (r : List YA) (s : List ByteArray) (t : Int) (w : List Int) (y : List YC) (v : Int) (u : Int) (p : Bool × Bool × Bool × Bool × Bool × Int) (w2 : List Int) (w0 : List Int) (d0a : List YC) (b : Int) (a : Int) (z : Bool × Bool × Bool × Bool × Bool × Int) (w2' : List Int) : Option YN :=
 agree (
  Qb.tr4 L120000001 q r s t w y v u p w2 w0 d0a b a z w2'
 ) (
  if (0 : Int) ≤ b ∧ (b : Int) < d0a.length then
   Qb.tr2 L120000001 q r s t w y v u p w2 w0 d0a b a z w2'
  else
   none
 )
def Qb.tr8 (L120000001 : YP) (q : List Int) (r : List YA) (s : List ByteArray) (t : Int) (w : List Int) (y : List YC) (v : Int) (u : Int) (p : Bool × Bool × Bool × Bool × Bool × Int) (w2 : List Int) (w0 : List Int) (d0a : List YC) (b : Int) (a : Int) (z : Bool × Bool × Bool × Bool × Bool × Int) (w2' : List Int) : Option YN :=
 agree (
  Qb.tr5 L120000001 q r s t w y v u p w2 w0 d0a b a z w2'
 ) (
  agree (
   if (0 : Int) ≤ b ∧ (b : Int) < d0a.length then
    agree (
     Qb.tr3 L120000001 q r s t w y v u p w2 w0 d0a b a z w2'
    ) (
     agree (
      Qb.tr3 L120000001 q r s t w y v u p w2 w0 d0a b a z w2'
     ) (
      Qb.tr2 L120000001 q r s t w y v u p w2 w0 d0a b a z w2'
     )
    )
   else
    none
  ) (
   Qb.tr7 L120000001 q r s t w y v u p w2 w0 d0a b a z w2'
  )
 )
def Qb.g120000001raw (I1000012 : YO) (L10 : YO) (L120000001 : YP) (q : List Int) (r : List YA) (s : List ByteArray) (t : Int) (w : List Int) (y : List YC) (v : Int) (u : Int) (p : Bool × Bool × Bool × Bool × Bool × Int) (w2 : List Int) (w0 : List Int) (d0a : List YC) (b : Int) (a : Int) (z : Bool × Bool × Bool × Bool × Bool × Int) (w2' : List Int) : Option YN :=
 if (decide ((b : Int) < (d0a.length : Int))) = true then
  if (0 : Int) ≤ b ∧ (b : Int) < d0a.length then
   if ((((d0a.getD (b : Int).toNat (0, 0)).1) : Int) == a) = true then
    agree (
     agree (
      Qb.tr5 L120000001 q r s t w y v u p w2 w0 d0a b a z w2'
     ) (
      agree (
       Qb.tr5 L120000001 q r s t w y v u p w2 w0 d0a b a z w2'
      ) (
       Qb.tr6 L120000001 q r s t w y v u p w2 w0 d0a b a z w2'
      )
     )
    ) (
     agree (
      Qb.tr8 L120000001 q r s t w y v u p w2 w0 d0a b a z w2'
     ) (
      agree (
       Qb.tr8 L120000001 q r s t w y v u p w2 w0 d0a b a z w2'
      ) (
       agree (
        Qb.tr6 L120000001 q r s t w y v u p w2 w0 d0a b a z w2'
       ) (
        agree (
         Qb.tr7 L120000001 q r s t w y v u p w2 w0 d0a b a z w2'
        ) (
         Qb.tr7 L120000001 q r s t w y v u p w2 w0 d0a b a z w2'
        )
       )
      )
     )
    )
   else
    I1000012 q r s t w0 d0a b a z w2'
  else
   none
 else
  I1000012 q r s t w0 d0a b a z w2'
theorem Qb.g120000001raw_eq (I1000012 : YO) (L10 : YO) (L120000001 : YP) (q : List Int) (r : List YA) (s : List ByteArray) (t : Int) (w : List Int) (y : List YC) (v : Int) (u : Int) (p : Bool × Bool × Bool × Bool × Bool × Int) (w2 : List Int) (w0 : List Int) (d0a : List YC) (b : Int) (a : Int) (z : Bool × Bool × Bool × Bool × Bool × Int) (w2' : List Int) : Qb.g120000001raw I1000012 L10 L120000001 q r s t w y v u p w2 w0 d0a b a z w2' = Qb.g120000001 I1000012 L10 L120000001 q r s t w y v u p w2 w0 d0a b a z w2' := by
 unfold Qb.g120000001raw Qb.g120000001
 simp only [agree_self, Qb.tr0, Qb.tr1, Qb.tr2, Qb.tr3, Qb.tr4, Qb.tr5, Qb.tr6, Qb.tr7, Qb.tr8]
def Qb.st1000011 (q : List Int) (r : List YA) (s : List ByteArray) (t : Int) (w : List Int) (y : List YC) (v : Int) (u : Int) (p : Bool × Bool × Bool × Bool × Bool × Int) (w2 : List Int) : St := ⟨[.dat (.sl 2 (.int .i64)) q, .gone, .dat (.sl 70 (.pair (.int .i64) (.pair .str (.int .i64)))) r, .dat (.sl 9 .str) s, .gone, .gone, .gone, .gone, .gone, .ref 0, .dat (.int .i64) t, .gone, .gone, .ptr 1 [], .gone, .gone, .gone, .gone, .gone, .gone, .gone, .gone, .gone, .gone, .gone, .gone, .gone, .gone, .gone, .gone, .gone, .gone, .gone, .gone, .gone, .gone, .gone, .gone, .gone, .gone, .gone, .gone, .gone, .gone, .gone, .gone, .gone, .gone, .gone, .gone, .gone, .gone, .gone, .gone, .gone, .gone, .gone, .gone, .gone, .gone, .gone, .gone, .gone, .gone, .gone, .gone, .gone, .gone, .gone, .gone, .gone, .gone, .gone, .gone, .gone, .gone, .gone, .gone, .gone, .gone, .gone, .gone, .gone, .gone, .gone], [.row 2 (.int .i64) w none, .box 137 (.pair (.sl 72 (.pair (.int .i64) (.int .i64))) (.pair (.int .i64) (.pair (.int .i64) (.pair (.pair .bool (.pair .bool (.pair .bool (.pair .bool (.pair .bool (.int .i64)))))) (.sl 2 (.int .i64)))))) (.pr (.dat (.sl 72 (.pair (.int .i64) (.int .i64))) y) (.pr (.dat (.int .i64) v) (.pr (.dat (.int .i64) u) (.pr (.dat (.pair .bool (.pair .bool (.pair .bool (.pair .bool (.pair .bool (.int .i64)))))) p) (.ref 2))))), .row 2 (.int .i64) w2 none]⟩
def Qb.st10 (q : List Int) (r : List YA) (s : List ByteArray) (t : Int) (w : List Int) (y : List YC) (v : Int) (u : Int) (p : Bool × Bool × Bool × Bool × Bool × Int) (w2 : List Int) : St := ⟨[.dat (.sl 2 (.int .i64)) q, .gone, .dat (.sl 70 (.pair (.int .i64) (.pair .str (.int .i64)))) r, .dat (.sl 9 .str) s, .gone, .gone, .gone, .gone, .gone, .ref 0, .dat (.int .i64) t, .gone, .gone, .ptr 1 [], .gone, .gone, .gone, .gone, .gone, .gone, .gone, .gone, .gone, .gone, .gone, .gone, .gone, .gone, .gone, .gone, .gone, .gone, .gone, .gone, .gone, .gone, .gone, .gone, .gone, .gone, .gone, .gone, .gone, .gone, .gone, .gone, .gone, .gone, .gone, .gone, .gone, .gone, .gone, .gone, .gone, .gone, .gone, .gone, .gone, .gone, .gone, .gone, .gone, .gone, .gone, .gone, .gone, .gone, .gone, .gone, .gone, .gone, .gone, .gone, .gone, .gone, .gone, .gone, .gone, .gone, .gone, .gone, .gone, .gone, .gone], [.row 2 (.int .i64) w none, .box 137 (.pair (.sl 72 (.pair (.int .i64) (.int .i64))) (.pair (.int .i64) (.pair (.int .i64) (.pair (.pair .bool (.pair .bool (.pair .bool (.pair .bool (.pair .bool (.int .i64)))))) (.sl 2 (.int .i64)))))) (.pr (.dat (.sl 72 (.pair (.int .i64) (.int .i64))) y) (.pr (.dat (.int .i64) v) (.pr (.dat (.int .i64) u) (.pr (.dat (.pair .bool (.pair .bool (.pair .bool (.pair .bool (.pair .bool (.int .i64)))))) p) (.ref 2))))), .row 2 (.int .i64) w2 none]⟩
def Qb.st4 (q : List Int) (c : List YC) (r : List YA) (s : List ByteArray) (t : Int) (v19 : List Int) (v20 : Int) (v21 : Int) (w : List Int) : St := ⟨[.dat (.sl 2 (.int .i64)) q, .dat (.sl 72 (.pair (.int .i64) (.int .i64))) c, .dat (.sl 70 (.pair (.int .i64) (.pair .str (.int .i64)))) r, .dat (.sl 9 .str) s, .gone, .gone, .gone, .gone, .gone, .ref 0, .dat (.int .i64) t, .gone, .gone, .gone, .gone, .gone, .gone, .gone, .gone, .dat (.sl 2 (.int .i64)) v19, .dat (.int .i64) v20, .dat (.int .i64) v21, .gone, .gone, .gone, .gone, .gone, .gone, .gone, .gone, .gone, .gone, .gone, .gone, .gone, .gone, .gone, .gone, .gone, .gone, .gone, .gone, .gone, .gone, .gone, .gone, .gone, .gone, .gone, .gone, .gone, .gone, .gone, .gone, .gone, .gone, .gone, .gone, .gone, .gone, .gone, .gone, .gone, .gone, .gone, .gone, .gone, .gone, .gone, .gone, .gone, .gone, .gone, .gone, .gone, .gone, .gone, .gone, .gone, .gone, .gone, .gone, .gone, .gone, .gone], [.row 2 (.int .i64) w none]⟩
def Qb.con : Con := { ps := [(.val, (.sl 2 (.int .i64))), (.val, (.sl 72 (.pair (.int .i64) (.int .i64)))), (.val, (.sl 70 (.pair (.int .i64) (.pair .str (.int .i64))))), (.val, (.sl 9 .str))], rs := [(.own, (.sl 2 (.int .i64)))], F := fun x => Qb.f x.1 x.2.1 x.2.2.1 x.2.2.2 }
def Qb.cs : List (FuncId × Con) := [(153, Qap.con), (156, Qbb.con), (157, Qs.con)]
def Qb.E : Env := envOf tab Qb.cs 0 false
def Qb.I (f : FuncId) : Option Func := if f = 132 then some Tryz.f132 else if f = 133 then some Tryz.f133 else none
theorem Qb.hI : ∀ f fn, Qb.I f = some fn → Tryz.prog.funcs[f]? = some fn ∧ fn.body.isSome = true ∧ fn.name ≠ "runtime.NumGoroutine" := by
  intro f fn h
  unfold Qb.I at h
  split at h
  · rename_i e; subst e; cases h; exact ⟨Tryz.func132, rfl, by decide⟩
  split at h
  · rename_i e; subst e; cases h; exact ⟨Tryz.func133, rfl, by decide⟩
  cases h
def Qb.keep (i : Nat) : List Nat := if i = 1000019 then [0, 2, 3, 9, 10, 13] else if i = 14 then [0, 2, 3, 9, 10, 13, 50, 51, 52] else if i = 1000012 then [0, 2, 3, 9, 10, 13] else if i = 120000001 then [0, 200000] else if i = 1000011 then [0, 2, 3, 9, 10, 13] else if i = 10 then [0, 2, 3, 9, 10, 13, 200013] else if i = 4 then [0, 1, 2, 3, 9, 10, 19, 20, 21] else []
def Qb.at1000019 (n : Nat) (x : List Int × YE × YD × List ByteArray) (M10 : St → Option (YN)) : Code × (Ex → St → Option (YN)) := ctxI Qb.E Qb.I Qb.keep n [.snd, .snd, .snd, .snd, .snd, .fst, .blk, .rd M10, .snd, .blk, .snd, .snd] (codeOf Tryz.f135) (kEnd Qb.E Tryz.f135 Qb.con x)
def Qb.LN1000019 (n : Nat) (x : List Int × YE × YD × List ByteArray) (M10 : St → Option (YN)) : Nat → St → Option (YN) := cutN (execI Qb.E Qb.I Qb.keep n (Qb.at1000019 n x M10).1 (Qb.at1000019 n x M10).2)
def Qb.at14 (n : Nat) (x : List Int × YE × YD × List ByteArray) (M10 : St → Option (YN)) : Code × (Ex → St → Option (YN)) := ctxI Qb.E Qb.I Qb.keep n [.snd, .snd, .snd, .snd, .snd, .fst, .blk, .rd M10, .snd, .blk, .snd, .fst, .snd, .yes, .snd, .blk] (codeOf Tryz.f135) (kEnd Qb.E Tryz.f135 Qb.con x)
def Qb.LN14 (n : Nat) (x : List Int × YE × YD × List ByteArray) (M10 : St → Option (YN)) : Nat → St → Option (YN) := loopN (execI Qb.E Qb.I Qb.keep n (bodyOf (Qb.at14 n x M10).1)) (St.norm 0 (Qb.keep 14)) (Qb.at14 n x M10).2
def Qb.at1000012 (n : Nat) (x : List Int × YE × YD × List ByteArray) (M10 : St → Option (YN)) : Code × (Ex → St → Option (YN)) := ctxI Qb.E Qb.I Qb.keep n [.snd, .snd, .snd, .snd, .snd, .fst, .blk, .rd M10, .snd, .blk, .snd] (codeOf Tryz.f135) (kEnd Qb.E Tryz.f135 Qb.con x)
def Qb.LN1000012 (n : Nat) (x : List Int × YE × YD × List ByteArray) (M10 : St → Option (YN)) : Nat → St → Option (YN) := cutN (execI Qb.E Qb.I Qb.keep n (Qb.at1000012 n x M10).1 (Qb.at1000012 n x M10).2)
def Qb.at120000001 (n : Nat) (x : List Int × YE × YD × List ByteArray) (M10 : St → Option (YN)) (q : List Int) (r : List YA) (s : List ByteArray) (t : Int) (w : List Int) (y : List YC) (v : Int) (u : Int) (p : Bool × Bool × Bool × Bool × Bool × Int) (w2 : List Int) : Code × (Ex → St → Option (YN)) := ctx (envIn Qb.E 2) (keepIn Qb.keep 11) n [.blk] (codeOf Tryz.f132) (kIn ((ctxI Qb.E Qb.I Qb.keep n [.snd, .snd, .snd, .snd, .snd, .fst, .blk, .rd M10, .snd, .blk, .fst] (codeOf Tryz.f135) (kEnd Qb.E Tryz.f135 Qb.con x)).2 .normal) [.dat (.sl 2 (.int .i64)) q, .gone, .dat (.sl 70 (.pair (.int .i64) (.pair .str (.int .i64)))) r, .dat (.sl 9 .str) s, .gone, .gone, .gone, .gone, .gone, .ref 0, .dat (.int .i64) t, .gone, .gone, .ptr 1 [], .gone, .gone, .gone, .gone, .gone, .gone, .gone, .gone, .gone, .gone, .gone, .gone, .gone, .gone, .gone, .gone, .gone, .gone, .gone, .gone, .gone, .gone, .gone, .gone, .gone, .gone, .gone, .gone, .gone, .ptr 1 [], .gone, .gone, .gone, .gone, .gone, .gone, .gone, .gone, .gone, .gone, .gone, .gone, .gone, .gone, .gone, .gone, .gone, .gone, .gone, .gone, .gone, .gone, .gone, .gone, .gone, .gone, .gone, .gone, .gone, .gone, .gone, .gone, .gone, .gone, .gone, .gone, .gone, .gone, .gone, .gone, .gone] (some 44))
def Qb.LN120000001 (n : Nat) (x : List Int × YE × YD × List ByteArray) (M10 : St → Option (YN)) (q : List Int) (r : List YA) (s : List ByteArray) (t : Int) (w : List Int) (y : List YC) (v : Int) (u : Int) (p : Bool × Bool × Bool × Bool × Bool × Int) (w2 : List Int) : Nat → St → Option (YN) := loopN (exec (envIn Qb.E 2) (keepIn Qb.keep 11) n (bodyOf (Qb.at120000001 n x M10 q r s t w y v u p w2).1)) (St.norm 2 (keepIn Qb.keep 11 1)) (Qb.at120000001 n x M10 q r s t w y v u p w2).2
def Qb.at1000011 (n : Nat) (x : List Int × YE × YD × List ByteArray) (M10 : St → Option (YN)) : Code × (Ex → St → Option (YN)) := ctxI Qb.E Qb.I Qb.keep n [.snd, .snd, .snd, .snd, .snd, .fst, .blk, .rd M10, .snd] (codeOf Tryz.f135) (kEnd Qb.E Tryz.f135 Qb.con x)
def Qb.LN1000011 (n : Nat) (x : List Int × YE × YD × List ByteArray) (M10 : St → Option (YN)) : Nat → St → Option (YN) := cutN (execI Qb.E Qb.I Qb.keep n (Qb.at1000011 n x M10).1 (Qb.at1000011 n x M10).2)
def Qb.at10 (n : Nat) (x : List Int × YE × YD × List ByteArray) : Code × (Ex → St → Option (YN)) := ctxI Qb.E Qb.I Qb.keep n [.snd, .snd, .snd, .snd, .snd, .fst, .blk] (codeOf Tryz.f135) (kEnd Qb.E Tryz.f135 Qb.con x)
def Qb.LN10 (n : Nat) (x : List Int × YE × YD × List ByteArray) : Nat → St → Option (YN) := loopN (execI Qb.E Qb.I Qb.keep n (bodyOf (Qb.at10 n x).1)) (St.norm 0 (Qb.keep 10)) (Qb.at10 n x).2
def Qb.at4 (n : Nat) (x : List Int × YE × YD × List ByteArray) : Code × (Ex → St → Option (YN)) := ctxI Qb.E Qb.I Qb.keep n [.snd, .snd, .snd, .fst, .snd, .blk] (codeOf Tryz.f135) (kEnd Qb.E Tryz.f135 Qb.con x)
def Qb.LN4 (n : Nat) (x : List Int × YE × YD × List ByteArray) : Nat → St → Option (YN) := loopN (execI Qb.E Qb.I Qb.keep n (bodyOf (Qb.at4 n x).1)) (St.norm 0 (Qb.keep 4)) (Qb.at4 n x).2
set_option maxRecDepth 100000 in
theorem Qb.lem1000019 (n : Nat) (x : List Int × YE × YD × List ByteArray) (M10 : St → Option (YN)) : ∀ (k : Nat) (q : List Int) (r : List YA) (s : List ByteArray) (t : Int) (w : List Int) (y : List YC) (v : Int) (u : Int) (p : Bool × Bool × Bool × Bool × Bool × Int) (w2 : List Int), Qb.LN1000019 n x M10 k (Qb.st1000019 q r s t w y v u p w2) = Qb.l1000019 n (fun q r s t w y v u p w2 => M10 (Qb.st10 q r s t w y v u p w2)) k q r s t w y v u p w2 := by
 intro k
 induction k with
 | zero => intro q r s t w y v u p w2; rfl
 | succ k ih =>
  intro q r s t w y v u p w2
  have h : Qb.LN1000019 n x M10 (k + 1) (Qb.st1000019 q r s t w y v u p w2) = Qb.g1000019 (fun q r s t w y v u p w2 => M10 (Qb.st10 q r s t w y v u p w2)) (fun q r s t w y v u p w2 => Qb.LN1000019 n x M10 k (Qb.st1000019 q r s t w y v u p w2)) q r s t w y v u p w2 := by kernel_rfl
  rw [h]
  simp only [ih]
  rfl
set_option maxRecDepth 100000 in
theorem Qb.lem14 (n : Nat) (x : List Int × YE × YD × List ByteArray) (M10 : St → Option (YN)) : ∀ (k : Nat) (q : List Int) (r : List YA) (s : List ByteArray) (t : Int) (v50 : List Int) (v51 : Int) (v52 : Int) (w : List Int) (y : List YC) (v : Int) (u : Int) (p : Bool × Bool × Bool × Bool × Bool × Int) (w2 : List Int), Qb.LN14 n x M10 k (Qb.st14 q r s t v50 v51 v52 w y v u p w2) = Qb.l14 n (fun q r s t w y v u p w2 => M10 (Qb.st10 q r s t w y v u p w2)) k q r s t v50 v51 v52 w y v u p w2 := by
 intro k
 induction k with
 | zero => intro q r s t v50 v51 v52 w y v u p w2; rfl
 | succ k ih =>
  intro q r s t v50 v51 v52 w y v u p w2
  have h : Qb.LN14 n x M10 (k + 1) (Qb.st14 q r s t v50 v51 v52 w y v u p w2) = Qb.g14 (fun q r s t w y v u p w2 => Qb.LN1000019 n x M10 n (Qb.st1000019 q r s t w y v u p w2)) (fun q r s t w y v u p w2 => M10 (Qb.st10 q r s t w y v u p w2)) (fun q r s t v50 v51 v52 w y v u p w2 => Qb.LN14 n x M10 k (Qb.st14 q r s t v50 v51 v52 w y v u p w2)) q r s t v50 v51 v52 w y v u p w2 := by kernel_rfl
  rw [h]
  simp only [ih, Qb.lem1000019]
  rfl
set_option maxRecDepth 100000 in
theorem Qb.lem1000012 (n : Nat) (x : List Int × YE × YD × List ByteArray) (M10 : St → Option (YN)) : ∀ (k : Nat) (q : List Int) (r : List YA) (s : List ByteArray) (t : Int) (w : List Int) (y : List YC) (v : Int) (u : Int) (p : Bool × Bool × Bool × Bool × Bool × Int) (w2 : List Int), Qb.LN1000012 n x M10 k (Qb.st1000012 q r s t w y v u p w2) = Qb.l1000012 n (fun q r s t w y v u p w2 => M10 (Qb.st10 q r s t w y v u p w2)) k q r s t w y v u p w2 := by
 intro k
 induction k with
 | zero => intro q r s t w y v u p w2; rfl
 | succ k ih =>
  intro q r s t w y v u p w2
  have h : Qb.LN1000012 n x M10 (k + 1) (Qb.st1000012 q r s t w y v u p w2) = Qb.g1000012 (fun q r s t v50 v51 v52 w y v u p w2 => Qb.LN14 n x M10 n (Qb.st14 q r s t v50 v51 v52 w y v u p w2)) (fun q r s t w y v u p w2 => Qb.LN1000019 n x M10 n (Qb.st1000019 q r s t w y v u p w2)) (fun q r s t w y v u p w2 => M10 (Qb.st10 q r s t w y v u p w2)) (fun q r s t w y v u p w2 => Qb.LN1000012 n x M10 k (Qb.st1000012 q r s t w y v u p w2)) q r s t w y v u p w2 := by kernel_rfl
  rw [h]
  simp only [ih, Qb.lem14, Qb.lem1000019]
  rfl
set_option maxRecDepth 100000 in
theorem Qb.lem120000001 (n : Nat) (x : List Int × YE × YD × List ByteArray) (M10 : St → Option (YN)) : ∀ (k : Nat) (q : List Int) (r : List YA) (s : List ByteArray) (t : Int) (w : List Int) (y : List YC) (v : Int) (u : Int) (p : Bool × Bool × Bool × Bool × Bool × Int) (w2 : List Int) (w0 : List Int) (d0a : List YC) (b : Int) (a : Int) (z : Bool × Bool × Bool × Bool × Bool × Int) (w2' : List Int), Qb.LN120000001 n x M10 q r s t w y v u p w2 k (Qb.st120000001 w0 d0a b a z w2') = Qb.l120000001 n (fun q r s t w y v u p w2 => M10 (Qb.st10 q r s t w y v u p w2)) k q r s t w y v u p w2 w0 d0a b a z w2' := by
 intro k
 induction k with
 | zero => intro q r s t w y v u p w2 w0 d0a b a z w2'; rfl
 | succ k ih =>
  intro q r s t w y v u p w2 w0 d0a b a z w2'
  have h : Qb.LN120000001 n x M10 q r s t w y v u p w2 (k + 1) (Qb.st120000001 w0 d0a b a z w2') = Qb.g120000001raw (fun q r s t w y v u p w2 => Qb.LN1000012 n x M10 n (Qb.st1000012 q r s t w y v u p w2)) (fun q r s t w y v u p w2 => M10 (Qb.st10 q r s t w y v u p w2)) (fun q r s t w y v u p w2 w0 d0a b a z w2' => Qb.LN120000001 n x M10 q r s t w y v u p w2 k (Qb.st120000001 w0 d0a b a z w2')) q r s t w y v u p w2 w0 d0a b a z w2' := by kernel_rfl
  rw [Qb.g120000001raw_eq] at h
  rw [h]
  simp only [ih, Qb.lem1000012]
  rfl
set_option maxRecDepth 100000 in
theorem Qb.lem1000011 (n : Nat) (x : List Int × YE × YD × List ByteArray) (M10 : St → Option (YN)) : ∀ (k : Nat) (q : List Int) (r : List YA) (s : List ByteArray) (t : Int) (w : List Int) (y : List YC) (v : Int) (u : Int) (p : Bool × Bool × Bool × Bool × Bool × Int) (w2 : List Int), Qb.LN1000011 n x M10 k (Qb.st1000011 q r s t w y v u p w2) = Qb.l1000011 n (fun q r s t w y v u p w2 => M10 (Qb.st10 q r s t w y v u p w2)) k q r s t w y v u p w2 := by
 intro k
 induction k with
 | zero => intro q r s t w y v u p w2; rfl
 | succ k ih =>
  intro q r s t w y v u p w2
  have h : Qb.LN1000011 n x M10 (k + 1) (Qb.st1000011 q r s t w y v u p w2) = Qb.g1000011 (fun q r s t w y v u p w2 w0 d0a b a z w2' => Qb.LN120000001 n x M10 q r s t w y v u p w2 n (Qb.st120000001 w0 d0a b a z w2')) (fun q r s t w y v u p w2 => M10 (Qb.st10 q r s t w y v u p w2)) (fun q r s t w y v u p w2 => Qb.LN1000011 n x M10 k (Qb.st1000011 q r s t w y v u p w2)) q r s t w y v u p w2 := by kernel_rfl
  rw [h]
  simp only [ih, Qb.lem120000001]
  rfl
set_option maxRecDepth 100000 in
theorem Qb.lem10 (n : Nat) (x : List Int × YE × YD × List ByteArray) : ∀ (k : Nat) (q : List Int) (r : List YA) (s : List ByteArray) (t : Int) (w : List Int) (y : List YC) (v : Int) (u : Int) (p : Bool × Bool × Bool × Bool × Bool × Int) (w2 : List Int), Qb.LN10 n x k (Qb.st10 q r s t w y v u p w2) = Qb.l10 n k q r s t w y v u p w2 := by
 intro k
 induction k with
 | zero => intro q r s t w y v u p w2; rfl
 | succ k ih =>
  intro q r s t w y v u p w2
  have h : Qb.LN10 n x (k + 1) (Qb.st10 q r s t w y v u p w2) = Qb.g10 (fun q r s t w y v u p w2 => Qb.LN1000011 n x (Qb.LN10 n x k) n (Qb.st1000011 q r s t w y v u p w2)) (fun q r s t w y v u p w2 => Qb.LN10 n x k (Qb.st10 q r s t w y v u p w2)) q r s t w y v u p w2 := by kernel_rfl
  rw [h]
  simp only [ih, Qb.lem1000011]
  rfl
set_option maxRecDepth 100000 in
theorem Qb.lem4 (n : Nat) (x : List Int × YE × YD × List ByteArray) : ∀ (k : Nat) (q : List Int) (c : List YC) (r : List YA) (s : List ByteArray) (t : Int) (v19 : List Int) (v20 : Int) (v21 : Int) (w : List Int), Qb.LN4 n x k (Qb.st4 q c r s t v19 v20 v21 w) = Qb.l4 n k q c r s t v19 v20 v21 w := by
 intro k
 induction k with
 | zero => intro q c r s t v19 v20 v21 w; rfl
 | succ k ih =>
  intro q c r s t v19 v20 v21 w
  have h : Qb.LN4 n x (k + 1) (Qb.st4 q c r s t v19 v20 v21 w) = Qb.g4 (fun q r s t w y v u p w2 => Qb.LN10 n x n (Qb.st10 q r s t w y v u p w2)) (fun q c r s t v19 v20 v21 w => Qb.LN4 n x k (Qb.st4 q c r s t v19 v20 v21 w)) q c r s t v19 v20 v21 w := by kernel_rfl
  rw [h]
  simp only [ih, Qb.lem10]
  rfl
set_option maxRecDepth 100000 in
theorem Qb.body (n : Nat) (x : List Int × YE × YD × List ByteArray) : bodyFI Qb.E Qb.I Qb.keep n Tryz.f135 Qb.con x = Qb.fn n x.1 x.2.1 x.2.2.1 x.2.2.2 := by
 have h : bodyFI Qb.E Qb.I Qb.keep n Tryz.f135 Qb.con x = Qb.top (fun q c r s t v19 v20 v21 w => Qb.LN4 n x n (Qb.st4 q c r s t v19 v20 v21 w)) x.1 x.2.1 x.2.2.1 x.2.2.2 := by kernel_rfl
 rw [h]
 simp only [Qb.lem4]
 rfl
set_option maxRecDepth 100000 in
theorem Qb.good : Good Tryz.prog 135 Qb.con :=
 good_ofI tabok (cs := Qb.cs) ⟨Qap.good, Qbb.good, Qs.good, trivial⟩ 0 false (fn := Tryz.f135) Tryz.func135 rfl (by decide) (by simp [Qb.con]) Qb.keep NN (fun _ => rfl) Qb.hI (fun x => Qb.body NN x)
end
end Go.Ev.Tryz

namespace Go.Ev.Tryz
open Go.Proofs Go.Pl
set_option linter.unusedVariables false
noncomputable section
def Qar.con : Con := { ps := [(.val, (.sl 2 (.int .i64))), (.val, (.sl 72 (.pair (.int .i64) (.int .i64)))), (.val, (.sl 70 (.pair (.int .i64) (.pair .str (.int .i64))))), (.val, (.sl 9 .str))], rs := [(.own, (.sl 2 (.int .i64))), (.own, (.int .i64))], F := fun x => Qar.f x.1 x.2.1 x.2.2.1 x.2.2.2 }
def Qar.cs : List (FuncId × Con) := [(134, QaO.con), (135, Qb.con)]
def Qar.E : Env := envOf tab Qar.cs 0 false
def Qar.keep (i : Nat) : List Nat := []
set_option maxRecDepth 100000 in
theorem Qar.body (n : Nat) (x : List Int × YE × YD × List ByteArray) : bodyF Qar.E Qar.keep n Tryz.f105 Qar.con x = Qar.fn n x.1 x.2.1 x.2.2.1 x.2.2.2 := by
 have h : bodyF Qar.E Qar.keep n Tryz.f105 Qar.con x = Qar.top x.1 x.2.1 x.2.2.1 x.2.2.2 := by kernel_rfl
 exact h
set_option maxRecDepth 100000 in
theorem Qar.good : Good Tryz.prog 105 Qar.con :=
 good_of tabok (cs := Qar.cs) ⟨QaO.good, Qb.good, trivial⟩ 0 false (fn := Tryz.f105) Tryz.func105 rfl (by decide) (by simp [Qar.con]) Qar.keep NN (fun _ => rfl) (fun x => Qar.body NN x)
end
end Go.Ev.Tryz

namespace Go.Ev.Tryz
open Go.Proofs Go.Pl
set_option linter.unusedVariables false
noncomputable section
def QU.st3 (p : ByteArray) (v9 : List YA) (v10 : Int) (v11 : Int) (q : List Int) : St := ⟨[.gone, .dat .str p, .gone, .gone, .gone, .ref 0, .gone, .gone, .gone, .dat (.sl 74 (.pair (.int .i64) (.pair .str (.int .i64)))) v9, .dat (.int .i64) v10, .dat (.int .i64) v11, .gone, .gone, .gone, .gone, .gone, .gone, .gone, .gone, .gone, .gone, .gone, .gone, .gone, .gone, .gone, .gone, .gone, .gone], [.row 2 (.int .i64) q none]⟩
def QU.con : Con := { ps := [(.val, (.sl 74 (.pair (.int .i64) (.pair .str (.int .i64))))), (.val, .str)], rs := [(.own, (.sl 2 (.int .i64)))], F := fun x => QU.f x.1 x.2 }
def QU.cs : List (FuncId × Con) := []
def QU.E : Env := envOf tab QU.cs 0 false
def QU.keep (i : Nat) : List Nat := if i = 3 then [1, 5, 9, 10, 11] else []
def QU.at3 (n : Nat) (x : YD × ByteArray) : Code × (Ex → St → Option (YN)) := ctx QU.E QU.keep n [.snd, .snd, .fst, .snd, .blk] (codeOf Tryz.f117) (kEnd QU.E Tryz.f117 QU.con x)
def QU.LN3 (n : Nat) (x : YD × ByteArray) : Nat → St → Option (YN) := loopN (exec QU.E QU.keep n (bodyOf (QU.at3 n x).1)) (St.norm 0 (QU.keep 3)) (QU.at3 n x).2
set_option maxRecDepth 100000 in
theorem QU.lem3 (n : Nat) (x : YD × ByteArray) : ∀ (k : Nat) (p : ByteArray) (v9 : List YA) (v10 : Int) (v11 : Int) (q : List Int), QU.LN3 n x k (QU.st3 p v9 v10 v11 q) = QU.l3 n k p v9 v10 v11 q := by
 intro k
 induction k with
 | zero => intro p v9 v10 v11 q; rfl
 | succ k ih =>
  intro p v9 v10 v11 q
  have h : QU.LN3 n x (k + 1) (QU.st3 p v9 v10 v11 q) = QU.g3 (fun p v9 v10 v11 q => QU.LN3 n x k (QU.st3 p v9 v10 v11 q)) p v9 v10 v11 q := by kernel_rfl
  rw [h]
  simp only [ih]
  rfl
set_option maxRecDepth 100000 in
theorem QU.body (n : Nat) (x : YD × ByteArray) : bodyF QU.E QU.keep n Tryz.f117 QU.con x = QU.fn n x.1 x.2 := by
 have h : bodyF QU.E QU.keep n Tryz.f117 QU.con x = QU.top (fun p v9 v10 v11 q => QU.LN3 n x n (QU.st3 p v9 v10 v11 q)) x.1 x.2 := by kernel_rfl
 rw [h]
 simp only [QU.lem3]
 rfl
set_option maxRecDepth 100000 in
theorem QU.good : Good Tryz.prog 117 QU.con :=
 good_of tabok (cs := QU.cs) trivial 0 false (fn := Tryz.f117) Tryz.func117 rfl (by decide) (by simp [QU.con]) QU.keep NN (fun _ => rfl) (fun x => QU.body NN x)
end
end Go.Ev.Tryz

namespace Go.Ev.Tryz
open Go.Proofs Go.Pl
set_option linter.unusedVariables false
noncomputable section
def Qai.con : Con := { ps := [(.val, (.sl 74 (.pair (.int .i64) (.pair .str (.int .i64))))), (.val, .str)], rs := [(.val, (.int .i64))], F := fun x => Qai.f x.1 x.2 }
def Qai.cs : List (FuncId × Con) := [(117, QU.con)]
def Qai.E : Env := envOf tab Qai.cs 0 false
def Qai.keep (i : Nat) : List Nat := []
set_option maxRecDepth 100000 in
theorem Qai.body (n : Nat) (x : YD × ByteArray) : bodyF Qai.E Qai.keep n Tryz.f89 Qai.con x = Qai.fn n x.1 x.2 := by
 have h : bodyF Qai.E Qai.keep n Tryz.f89 Qai.con x = Qai.top x.1 x.2 := by kernel_rfl
 exact h
set_option maxRecDepth 100000 in
theorem Qai.good : Good Tryz.prog 89 Qai.con :=
 good_of tabok (cs := Qai.cs) ⟨QU.good, trivial⟩ 0 false (fn := Tryz.f89) Tryz.func89 rfl (by decide) (by simp [Qai.con]) Qai.keep NN (fun _ => rfl) (fun x => Qai.body NN x)
end
end Go.Ev.Tryz

namespace Go.Ev.Tryz
open Go.Proofs Go.Pl
set_option linter.unusedVariables false
noncomputable section
def Qj.st4 (p : List YA) (v8 : List YA) (v9 : Int) (v10 : Int) : St := ⟨[.dat (.sl 74 (.pair (.int .i64) (.pair .str (.int .i64)))) p, .gone, .gone, .gone, .gone, .gone, .gone, .gone, .dat (.sl 74 (.pair (.int .i64) (.pair .str (.int .i64)))) v8, .dat (.int .i64) v9, .dat (.int .i64) v10, .gone, .gone, .gone, .gone, .gone, .gone, .gone, .gone, .gone, .gone, .gone, .gone, .gone, .gone, .gone, .gone, .gone, .gone, .gone, .gone, .gone, .gone, .gone, .gone, .gone, .gone, .gone, .gone, .gone, .gone, .gone], []⟩
def Qj.con : Con := { ps := [(.val, (.sl 74 (.pair (.int .i64) (.pair .str (.int .i64)))))], rs := [(.val, .bool)], F := fun x => Qj.f x }
def Qj.cs : List (FuncId × Con) := [(85, QR.con), (86, Qaf.con), (89, Qai.con)]
def Qj.E : Env := envOf tab Qj.cs 0 false
def Qj.keep (i : Nat) : List Nat := if i = 4 then [0, 8, 9, 10] else []
def Qj.at4 (n : Nat) (x : List YA) : Code × (Ex → St → Option (Bool)) := ctx Qj.E Qj.keep n [.snd, .snd, .fst, .snd, .blk] (codeOf Tryz.f56) (kEnd Qj.E Tryz.f56 Qj.con x)
def Qj.LN4 (n : Nat) (x : List YA) : Nat → St → Option (Bool) := loopN (exec Qj.E Qj.keep n (bodyOf (Qj.at4 n x).1)) (St.norm 0 (Qj.keep 4)) (Qj.at4 n x).2
set_option maxRecDepth 100000 in
theorem Qj.lem4 (n : Nat) (x : List YA) : ∀ (k : Nat) (p : List YA) (v8 : List YA) (v9 : Int) (v10 : Int), Qj.LN4 n x k (Qj.st4 p v8 v9 v10) = Qj.l4 n k p v8 v9 v10 := by
 intro k
 induction k with
 | zero => intro p v8 v9 v10; rfl
 | succ k ih =>
  intro p v8 v9 v10
  have h : Qj.LN4 n x (k + 1) (Qj.st4 p v8 v9 v10) = Qj.g4 (fun p v8 v9 v10 => Qj.LN4 n x k (Qj.st4 p v8 v9 v10)) p v8 v9 v10 := by kernel_rfl
  rw [h]
  simp only [ih]
  rfl
set_option maxRecDepth 100000 in
theorem Qj.body (n : Nat) (x : List YA) : bodyF Qj.E Qj.keep n Tryz.f56 Qj.con x = Qj.fn n x := by
 have h : bodyF Qj.E Qj.keep n Tryz.f56 Qj.con x = Qj.top (fun p v8 v9 v10 => Qj.LN4 n x n (Qj.st4 p v8 v9 v10)) x := by kernel_rfl
 rw [h]
 simp only [Qj.lem4]
 rfl
set_option maxRecDepth 100000 in
theorem Qj.good : Good Tryz.prog 56 Qj.con :=
 good_of tabok (cs := Qj.cs) ⟨QR.good, Qaf.good, Qai.good, trivial⟩ 0 false (fn := Tryz.f56) Tryz.func56 rfl (by decide) (by simp [Qj.con]) Qj.keep NN (fun _ => rfl) (fun x => Qj.body NN x)
end
end Go.Ev.Tryz

namespace Go.Ev.Tryz
open Go.Proofs Go.Pl
set_option linter.unusedVariables false
noncomputable section
def Q9.tr0 (p : List YA) (b1 : Int × ByteArray × Int) : Option YU :=
 if ([] : List YA).length + p.length < room 32 then
  if (([] : List YA) ++ p).length + ([b1]).length < room 32 then
   (Qj.f ((([] : List YA) ++ p) ++ ([b1]))).bind fun r2 =>
   if (!r2) = true then
    some ([], 5)
   else
    some ((([] : List YA) ++ p) ++ ([b1]), 0)
  else
   none
 else
  none
def Q9.tr1 (p : List YA) (b1 : Int × ByteArray × Int) : Option YU :=
 agree (
  Q9.tr0 p b1
 ) (
  Q9.tr0 p b1
 )
def Q9.topraw (p : List YA) (b1 : Int × ByteArray × Int) : Option YU :=
 (Qj.f p).bind fun r1 =>
 if (!r1) = true then
  some ([], 1)
 else if (((p.length : Int) : Int) == 60) = true then
  some ([], 3)
 else
  agree (
   agree (
    Q9.tr0 p b1
   ) (
    Q9.tr1 p b1
   )
  ) (
   agree (
    Q9.tr1 p b1
   ) (
    Q9.tr0 p b1
   )
  )
theorem Q9.topraw_eq (p : List YA) (b1 : Int × ByteArray × Int) : Q9.topraw p b1 = Q9.top p b1 := by
 unfold Q9.topraw Q9.top
 simp only [agree_self, Q9.tr0, Q9.tr1]
def Q9.con : Con := { ps := [(.val, (.sl 74 (.pair (.int .i64) (.pair .str (.int .i64))))), (.val, (.pair (.int .i64) (.pair .str (.int .i64))))], rs := [(.own, (.sl 74 (.pair (.int .i64) (.pair .str (.int .i64))))), (.own, (.int .i64))], F := fun x => Q9.f x.1 x.2 }
def Q9.cs : List (FuncId × Con) := [(56, Qj.con)]
def Q9.E : Env := envOf tab Q9.cs 0 false
def Q9.keep (i : Nat) : List Nat := []
set_option maxRecDepth 100000 in
theorem Q9.body (n : Nat) (x : YD × Int × ByteArray × Int) : bodyF Q9.E Q9.keep n Tryz.f106 Q9.con x = Q9.fn n x.1 x.2 := by
 have h : bodyF Q9.E Q9.keep n Tryz.f106 Q9.con x = Q9.topraw x.1 x.2 := by kernel_rfl
 rw [Q9.topraw_eq] at h
 exact h
set_option maxRecDepth 100000 in
theorem Q9.good : Good Tryz.prog 106 Q9.con :=
 good_of tabok (cs := Q9.cs) ⟨Qj.good, trivial⟩ 0 false (fn := Tryz.f106) Tryz.func106 rfl (by decide) (by simp [Q9.con]) Q9.keep NN (fun _ => rfl) (fun x => Q9.body NN x)
end
end Go.Ev.Tryz

namespace Go.Ev.Tryz
open Go.Proofs Go.Pl
set_option linter.unusedVariables false
noncomputable section
def Qas.con : Con := { ps := [(.val, (.sl 74 (.pair (.int .i64) (.pair .str (.int .i64))))), (.val, .str)], rs := [(.val, (.int .i64)), (.val, (.int .i64))], F := fun x => Qas.f x.1 x.2 }
def Qas.cs : List (FuncId × Con) := [(56, Qj.con), (85, QR.con), (89, Qai.con)]
def Qas.E : Env := envOf tab Qas.cs 0 false
def Qas.keep (i : Nat) : List Nat := []
set_option maxRecDepth 100000 in
theorem Qas.body (n : Nat) (x : YD × ByteArray) : bodyF Qas.E Qas.keep n Tryz.f107 Qas.con x = Qas.fn n x.1 x.2 := by
 have h : bodyF Qas.E Qas.keep n Tryz.f107 Qas.con x = Qas.top x.1 x.2 := by kernel_rfl
 exact h
set_option maxRecDepth 100000 in
theorem Qas.good : Good Tryz.prog 107 Qas.con :=
 good_of tabok (cs := Qas.cs) ⟨Qj.good, QR.good, Qai.good, trivial⟩ 0 false (fn := Tryz.f107) Tryz.func107 rfl (by decide) (by simp [Qas.con]) Qas.keep NN (fun _ => rfl) (fun x => Qas.body NN x)
end
end Go.Ev.Tryz

namespace Go.Ev.Tryz
open Go.Proofs Go.Pl
set_option linter.unusedVariables false
noncomputable section
def Ql.st3 (p : List YA) (v6 : List YA) (v7 : Int) (v8 : Int) (q : List ByteArray) : St := ⟨[.dat (.sl 74 (.pair (.int .i64) (.pair .str (.int .i64)))) p, .gone, .gone, .ref 0, .gone, .gone, .dat (.sl 74 (.pair (.int .i64) (.pair .str (.int .i64)))) v6, .dat (.int .i64) v7, .dat (.int .i64) v8, .gone, .gone, .gone, .gone, .gone, .gone, .gone, .gone, .gone, .gone, .gone, .gone, .gone, .gone], [.row 9 .str q none]⟩
def Ql.con : Con := { ps := [(.val, (.sl 74 (.pair (.int .i64) (.pair .str (.int .i64)))))], rs := [(.own, (.sl 9 .str))], F := fun x => Ql.f x }
def Ql.cs : List (FuncId × Con) := [(89, Qai.con), (104, Q4.con)]
def Ql.E : Env := envOf tab Ql.cs 0 false
def Ql.keep (i : Nat) : List Nat := if i = 3 then [0, 3, 6, 7, 8] else []
def Ql.at3 (n : Nat) (x : List YA) : Code × (Ex → St → Option (YQ)) := ctx Ql.E Ql.keep n [.snd, .snd, .fst, .snd, .blk] (codeOf Tryz.f108) (kEnd Ql.E Tryz.f108 Ql.con x)
def Ql.LN3 (n : Nat) (x : List YA) : Nat → St → Option (YQ) := loopN (exec Ql.E Ql.keep n (bodyOf (Ql.at3 n x).1)) (St.norm 0 (Ql.keep 3)) (Ql.at3 n x).2
set_option maxRecDepth 100000 in
theorem Ql.lem3 (n : Nat) (x : List YA) : ∀ (k : Nat) (p : List YA) (v6 : List YA) (v7 : Int) (v8 : Int) (q : List ByteArray), Ql.LN3 n x k (Ql.st3 p v6 v7 v8 q) = Ql.l3 n k p v6 v7 v8 q := by
 intro k
 induction k with
 | zero => intro p v6 v7 v8 q; rfl
 | succ k ih =>
  intro p v6 v7 v8 q
  have h : Ql.LN3 n x (k + 1) (Ql.st3 p v6 v7 v8 q) = Ql.g3 (fun p v6 v7 v8 q => Ql.LN3 n x k (Ql.st3 p v6 v7 v8 q)) p v6 v7 v8 q := by kernel_rfl
  rw [h]
  simp only [ih]
  rfl
set_option maxRecDepth 100000 in
theorem Ql.body (n : Nat) (x : List YA) : bodyF Ql.E Ql.keep n Tryz.f108 Ql.con x = Ql.fn n x := by
 have h : bodyF Ql.E Ql.keep n Tryz.f108 Ql.con x = Ql.top (fun p v6 v7 v8 q => Ql.LN3 n x n (Ql.st3 p v6 v7 v8 q)) x := by kernel_rfl
 rw [h]
 simp only [Ql.lem3]
 rfl
set_option maxRecDepth 100000 in
theorem Ql.good : Good Tryz.prog 108 Ql.con :=
 good_of tabok (cs := Ql.cs) ⟨Qai.good, Q4.good, trivial⟩ 0 false (fn := Tryz.f108) Tryz.func108 rfl (by decide) (by simp [Ql.con]) Ql.keep NN (fun _ => rfl) (fun x => Ql.body NN x)
end
end Go.Ev.Tryz

namespace Go.Ev.Tryz
open Go.Proofs Go.Pl
set_option linter.unusedVariables false
noncomputable section
def QX.st3 (p : ByteArray) (q : ByteArray) (v8 : List ByteArray) (v9 : Int) (v10 : Int) : St := ⟨[.gone, .dat .str p, .gone, .gone, .gone, .dat .str q, .gone, .gone, .dat (.sl 9 .str) v8, .dat (.int .i64) v9, .dat (.int .i64) v10, .gone, .gone, .gone, .gone, .gone, .gone, .gone, .gone, .gone, .gone, .gone, .gone, .gone, .gone], []⟩
def QX.con : Con := { ps := [(.val, (.sl 9 .str)), (.val, .str)], rs := [(.val, .str)], F := fun x => QX.f x.1 x.2 }
def QX.cs : List (FuncId × Con) := []
def QX.E : Env := envOf tab QX.cs 0 false
def QX.keep (i : Nat) : List Nat := if i = 3 then [1, 5, 8, 9, 10] else []
def QX.at3 (n : Nat) (x : List ByteArray × ByteArray) : Code × (Ex → St → Option (ByteArray)) := ctx QX.E QX.keep n [.snd, .snd, .fst, .snd, .blk] (codeOf Tryz.f109) (kEnd QX.E Tryz.f109 QX.con x)
def QX.LN3 (n : Nat) (x : List ByteArray × ByteArray) : Nat → St → Option (ByteArray) := loopN (exec QX.E QX.keep n (bodyOf (QX.at3 n x).1)) (St.norm 0 (QX.keep 3)) (QX.at3 n x).2
set_option maxRecDepth 100000 in
theorem QX.lem3 (n : Nat) (x : List ByteArray × ByteArray) : ∀ (k : Nat) (p : ByteArray) (q : ByteArray) (v8 : List ByteArray) (v9 : Int) (v10 : Int), QX.LN3 n x k (QX.st3 p q v8 v9 v10) = QX.l3 n k p q v8 v9 v10 := by
 intro k
 induction k with
 | zero => intro p q v8 v9 v10; rfl
 | succ k ih =>
  intro p q v8 v9 v10
  have h : QX.LN3 n x (k + 1) (QX.st3 p q v8 v9 v10) = QX.g3 (fun p q v8 v9 v10 => QX.LN3 n x k (QX.st3 p q v8 v9 v10)) p q v8 v9 v10 := by kernel_rfl
  rw [h]
  simp only [ih]
  rfl
set_option maxRecDepth 100000 in
theorem QX.body (n : Nat) (x : List ByteArray × ByteArray) : bodyF QX.E QX.keep n Tryz.f109 QX.con x = QX.fn n x.1 x.2 := by
 have h : bodyF QX.E QX.keep n Tryz.f109 QX.con x = QX.top (fun p q v8 v9 v10 => QX.LN3 n x n (QX.st3 p q v8 v9 v10)) x.1 x.2 := by kernel_rfl
 rw [h]
 simp only [QX.lem3]
 rfl
set_option maxRecDepth 100000 in
theorem QX.good : Good Tryz.prog 109 QX.con :=
 good_of tabok (cs := QX.cs) trivial 0 false (fn := Tryz.f109) Tryz.func109 rfl (by decide) (by simp [QX.con]) QX.keep NN (fun _ => rfl) (fun x => QX.body NN x)
end
end Go.Ev.Tryz

namespace Go.Ev.Tryz
open Go.Proofs Go.Pl
set_option linter.unusedVariables false
noncomputable section
def QB.st7 (p : List YA) (q : Int) (v20 : Int) (v21 : Int) (r : List YA) (v19 : List ByteArray) : St := ⟨[.dat (.sl 74 (.pair (.int .i64) (.pair .str (.int .i64)))) p, .dat (.int .i64) q, .gone, .gone, .gone, .gone, .ref 0, .gone, .gone, .gone, .gone, .gone, .gone, .gone, .gone, .gone, .gone, .gone, .gone, .ref 1, .dat (.int .i64) v20, .dat (.int .i64) v21, .gone, .gone, .gone, .gone, .gone, .gone, .gone, .gone, .gone, .gone, .gone, .gone, .gone, .gone, .gone, .gone, .gone, .gone, .gone, .gone], [.row 74 (.pair (.int .i64) (.pair .str (.int .i64))) r none, .row 9 .str v19 none]⟩
def QB.con : Con := { ps := [(.val, (.sl 74 (.pair (.int .i64) (.pair .str (.int .i64))))), (.val, (.int .i64))], rs := [(.own, (.sl 74 (.pair (.int .i64) (.pair .str (.int .i64))))), (.own, (.int .i64))], F := fun x => QB.f x.1 x.2 }
def QB.cs : List (FuncId × Con) := [(56, Qj.con), (86, Qaf.con), (89, Qai.con), (108, Ql.con)]
def QB.E : Env := envOf tab QB.cs 0 false
def QB.keep (i : Nat) : List Nat := if i = 7 then [0, 1, 6, 19, 20, 21] else []
def QB.at7 (n : Nat) (x : YD × Int) : Code × (Ex → St → Option (YU)) := ctx QB.E QB.keep n [.snd, .snd, .snd, .snd, .fst, .snd, .blk] (codeOf Tryz.f110) (kEnd QB.E Tryz.f110 QB.con x)
def QB.LN7 (n : Nat) (x : YD × Int) : Nat → St → Option (YU) := loopN (exec QB.E QB.keep n (bodyOf (QB.at7 n x).1)) (St.norm 0 (QB.keep 7)) (QB.at7 n x).2
set_option maxRecDepth 100000 in
theorem QB.lem7 (n : Nat) (x : YD × Int) : ∀ (k : Nat) (p : List YA) (q : Int) (v20 : Int) (v21 : Int) (r : List YA) (v19 : List ByteArray), QB.LN7 n x k (QB.st7 p q v20 v21 r v19) = QB.l7 n k p q v20 v21 r v19 := by
 intro k
 induction k with
 | zero => intro p q v20 v21 r v19; rfl
 | succ k ih =>
  intro p q v20 v21 r v19
  have h : QB.LN7 n x (k + 1) (QB.st7 p q v20 v21 r v19) = QB.g7 (fun p q v20 v21 r v19 => QB.LN7 n x k (QB.st7 p q v20 v21 r v19)) p q v20 v21 r v19 := by kernel_rfl
  rw [h]
  simp only [ih]
  rfl
set_option maxRecDepth 100000 in
theorem QB.body (n : Nat) (x : YD × Int) : bodyF QB.E QB.keep n Tryz.f110 QB.con x = QB.fn n x.1 x.2 := by
 have h : bodyF QB.E QB.keep n Tryz.f110 QB.con x = QB.top (fun p q v20 v21 r v19 => QB.LN7 n x n (QB.st7 p q v20 v21 r v19)) x.1 x.2 := by kernel_rfl
 rw [h]
 simp only [QB.lem7]
 rfl
set_option maxRecDepth 100000 in
theorem QB.good : Good Tryz.prog 110 QB.con :=
 good_of tabok (cs := QB.cs) ⟨Qj.good, Qaf.good, Qai.good, Ql.good, trivial⟩ 0 false (fn := Tryz.f110) Tryz.func110 rfl (by decide) (by simp [QB.con]) QB.keep NN (fun _ => rfl) (fun x => QB.body NN x)
end
end Go.Ev.Tryz

namespace Go.Ev.Tryz
open Go.Proofs Go.Pl
set_option linter.unusedVariables false
noncomputable section
def Qbe.con : Con := { ps := [(.val, (.int .i64))], rs := [(.val, .bool)], F := fun x => Qbe.f x }
def Qbe.cs : List (FuncId × Con) := [(86, Qaf.con)]
def Qbe.E : Env := envOf tab Qbe.cs 0 false
def Qbe.keep (i : Nat) : List Nat := []
set_option maxRecDepth 100000 in
theorem Qbe.body (n : Nat) (x : Int) : bodyF Qbe.E Qbe.keep n Tryz.f136 Qbe.con x = Qbe.fn n x := by
 have h : bodyF Qbe.E Qbe.keep n Tryz.f136 Qbe.con x = Qbe.top x := by kernel_rfl
 exact h
set_option maxRecDepth 100000 in
theorem Qbe.good : Good Tryz.prog 136 Qbe.con :=
 good_of tabok (cs := Qbe.cs) ⟨Qaf.good, trivial⟩ 0 false (fn := Tryz.f136) Tryz.func136 rfl (by decide) (by simp [Qbe.con]) Qbe.keep NN (fun _ => rfl) (fun x => Qbe.body NN x)
end
end Go.Ev.Tryz

namespace Go.Ev.Tryz
open Go.Proofs Go.Pl
set_option linter.unusedVariables false
noncomputable section
def QaU.con : Con := { ps := [(.val, (.int .i64)), (.val, (.int .i64))], rs := [(.val, (.int .i64))], F := fun x => QaU.f x.1 x.2 }
def QaU.cs : List (FuncId × Con) := []
def QaU.E : Env := envOf tab QaU.cs 0 false
def QaU.keep (i : Nat) : List Nat := []
set_option maxRecDepth 100000 in
theorem QaU.body (n : Nat) (x : Int × Int) : bodyF QaU.E QaU.keep n Tryz.f167 QaU.con x = QaU.fn n x.1 x.2 := by
 have h : bodyF QaU.E QaU.keep n Tryz.f167 QaU.con x = QaU.top x.1 x.2 := by kernel_rfl
 exact h
set_option maxRecDepth 100000 in
theorem QaU.good : Good Tryz.prog 167 QaU.con :=
 good_of tabok (cs := QaU.cs) trivial 0 false (fn := Tryz.f167) Tryz.func167 rfl (by decide) (by simp [QaU.con]) QaU.keep NN (fun _ => rfl) (fun x => QaU.body NN x)
end
end Go.Ev.Tryz

namespace Go.Ev.Tryz
open Go.Proofs Go.Pl
set_option linter.unusedVariables false
noncomputable section
def QaF.con : Con := { ps := [(.val, (.int .i64)), (.val, (.int .i64))], rs := [(.val, (.int .i64))], F := fun x => QaF.f x.1 x.2 }
def QaF.cs : List (FuncId × Con) := [(167, QaU.con)]
def QaF.E : Env := envOf tab QaF.cs 0 false
def QaF.keep (i : Nat) : List Nat := []
set_option maxRecDepth 100000 in
theorem QaF.body (n : Nat) (x : Int × Int) : bodyF QaF.E QaF.keep n Tryz.f158 QaF.con x = QaF.fn n x.1 x.2 := by
 have h : bodyF QaF.E QaF.keep n Tryz.f158 QaF.con x = QaF.top x.1 x.2 := by kernel_rfl
 exact h
set_option maxRecDepth 100000 in
theorem QaF.good : Good Tryz.prog 158 QaF.con :=
 good_of tabok (cs := QaF.cs) ⟨QaU.good, trivial⟩ 0 false (fn := Tryz.f158) Tryz.func158 rfl (by decide) (by simp [QaF.con]) QaF.keep NN (fun _ => rfl) (fun x => QaF.body NN x)
end
end Go.Ev.Tryz

namespace Go.Ev.Tryz
open Go.Proofs Go.Pl
set_option linter.unusedVariables false
noncomputable section
def Qae.st7 (up0 : Int) (q : Int) (r : Int) (p : Int) : St := ⟨[.dat (.int .i64) up0, .gone, .gone, .gone, .gone, .dat (.int .i64) q, .gone, .dat (.int .i64) r, .dat (.int .i64) p, .gone, .gone, .gone, .gone, .gone, .gone, .gone, .gone, .gone, .gone, .gone, .gone, .gone, .gone, .gone, .gone, .gone, .gone, .gone, .gone, .gone, .gone, .gone, .gone, .gone, .gone, .gone, .gone, .gone, .gone, .gone, .gone, .gone, .gone, .gone], []⟩
def Qae.con : Con := { ps := [(.val, (.int .i64))], rs := [(.val, (.int .i64)), (.val, (.int .i64))], F := fun x => Qae.f x }
def Qae.cs : List (FuncId × Con) := [(158, QaF.con)]
def Qae.E : Env := envOf tab Qae.cs 0 false
def Qae.keep (i : Nat) : List Nat := if i = 7 then [0, 5, 7, 8] else []
def Qae.at7 (n : Nat) (x : Int) : Code × (Ex → St → Option (YC)) := ctx Qae.E Qae.keep n [.snd, .snd, .snd, .snd, .snd, .fst, .blk] (codeOf Tryz.f137) (kEnd Qae.E Tryz.f137 Qae.con x)
def Qae.LN7 (n : Nat) (x : Int) : Nat → St → Option (YC) := loopN (exec Qae.E Qae.keep n (bodyOf (Qae.at7 n x).1)) (St.norm 0 (Qae.keep 7)) (Qae.at7 n x).2
set_option maxRecDepth 100000 in
theorem Qae.lem7 (n : Nat) (x : Int) : ∀ (k : Nat) (up0 : Int) (q : Int) (r : Int) (p : Int), Qae.LN7 n x k (Qae.st7 up0 q r p) = Qae.l7 n k up0 q r p := by
 intro k
 induction k with
 | zero => intro up0 q r p; rfl
 | succ k ih =>
  intro up0 q r p
  have h : Qae.LN7 n x (k + 1) (Qae.st7 up0 q r p) = Qae.g7 (fun up0 q r p => Qae.LN7 n x k (Qae.st7 up0 q r p)) up0 q r p := by kernel_rfl
  rw [h]
  simp only [ih]
  rfl
set_option maxRecDepth 100000 in
theorem Qae.body (n : Nat) (x : Int) : bodyF Qae.E Qae.keep n Tryz.f137 Qae.con x = Qae.fn n x := by
 have h : bodyF Qae.E Qae.keep n Tryz.f137 Qae.con x = Qae.top (fun up0 q r p => Qae.LN7 n x n (Qae.st7 up0 q r p)) x := by kernel_rfl
 rw [h]
 simp only [Qae.lem7]
 rfl
set_option maxRecDepth 100000 in
theorem Qae.good : Good Tryz.prog 137 Qae.con :=
 good_of tabok (cs := Qae.cs) ⟨QaF.good, trivial⟩ 0 false (fn := Tryz.f137) Tryz.func137 rfl (by decide) (by simp [Qae.con]) Qae.keep NN (fun _ => rfl) (fun x => Qae.body NN x)
end
end Go.Ev.Tryz

namespace Go.Ev.Tryz
open Go.Proofs Go.Pl
set_option linter.unusedVariables false
noncomputable section
def QaX.con : Con := { ps := [(.val, (.int .i64))], rs := [(.val, (.int .i64)), (.val, (.int .i64)), (.val, (.int .i64))], F := fun x => QaX.f x }
def QaX.cs : List (FuncId × Con) := [(136, Qbe.con), (137, Qae.con)]
def QaX.E : Env := envOf tab QaX.cs 0 false
def QaX.keep (i : Nat) : List Nat := []
set_option maxRecDepth 100000 in
theorem QaX.body (n : Nat) (x : Int) : bodyF QaX.E QaX.keep n Tryz.f111 QaX.con x = QaX.fn n x := by
 have h : bodyF QaX.E QaX.keep n Tryz.f111 QaX.con x = QaX.top x := by kernel_rfl
 exact h
set_option maxRecDepth 100000 in
theorem QaX.good : Good Tryz.prog 111 QaX.con :=
 good_of tabok (cs := QaX.cs) ⟨Qbe.good, Qae.good, trivial⟩ 0 false (fn := Tryz.f111) Tryz.func111 rfl (by decide) (by simp [QaX.con]) QaX.keep NN (fun _ => rfl) (fun x => QaX.body NN x)
end
end Go.Ev.Tryz

namespace Go.Ev.Tryz
open Go.Proofs Go.Pl
set_option linter.unusedVariables false
noncomputable section
def QaE.con : Con := { ps := [(.val, (.int .i64))], rs := [(.val, .bool)], F := fun x => QaE.f x }
def QaE.cs : List (FuncId × Con) := [(86, Qaf.con)]
def QaE.E : Env := envOf tab QaE.cs 0 false
def QaE.keep (i : Nat) : List Nat := []
set_option maxRecDepth 100000 in
theorem QaE.body (n : Nat) (x : Int) : bodyF QaE.E QaE.keep n Tryz.f138 QaE.con x = QaE.fn n x := by
 have h : bodyF QaE.E QaE.keep n Tryz.f138 QaE.con x = QaE.top x := by kernel_rfl
 exact h
set_option maxRecDepth 100000 in
theorem QaE.good : Good Tryz.prog 138 QaE.con :=
 good_of tabok (cs := QaE.cs) ⟨Qaf.good, trivial⟩ 0 false (fn := Tryz.f138) Tryz.func138 rfl (by decide) (by simp [QaE.con]) QaE.keep NN (fun _ => rfl) (fun x => QaE.body NN x)
end
end Go.Ev.Tryz

namespace Go.Ev.Tryz
open Go.Proofs Go.Pl
set_option linter.unusedVariables false
noncomputable section
def QaD.con : Con := { ps := [(.val, (.int .i64))], rs := [(.val, .bool)], F := fun x => QaD.f x }
def QaD.cs : List (FuncId × Con) := [(86, Qaf.con)]
def QaD.E : Env := envOf tab QaD.cs 0 false
def QaD.keep (i : Nat) : List Nat := []
set_option maxRecDepth 100000 in
theorem QaD.body (n : Nat) (x : Int) : bodyF QaD.E QaD.keep n Tryz.f139 QaD.con x = QaD.fn n x := by
 have h : bodyF QaD.E QaD.keep n Tryz.f139 QaD.con x = QaD.top x := by kernel_rfl
 exact h
set_option maxRecDepth 100000 in
theorem QaD.good : Good Tryz.prog 139 QaD.con :=
 good_of tabok (cs := QaD.cs) ⟨Qaf.good, trivial⟩ 0 false (fn := Tryz.f139) Tryz.func139 rfl (by decide) (by simp [QaD.con]) QaD.keep NN (fun _ => rfl) (fun x => QaD.body NN x)
end
end Go.Ev.Tryz

namespace Go.Ev.Tryz
open Go.Proofs Go.Pl
set_option linter.unusedVariables false
noncomputable section
def Qv.st3 (p : Int) (r : Int) (q : Int) : St := ⟨[.gone, .gone, .gone, .gone, .gone, .dat (.int .i64) p, .dat (.int .i64) r, .dat (.int .i64) q, .gone, .gone, .gone, .gone, .gone, .gone, .gone, .gone, .gone, .gone, .gone, .gone, .gone, .gone, .gone, .gone, .gone, .gone, .gone, .gone, .gone, .gone, .gone, .gone, .gone, .gone], []⟩
def Qv.con : Con := { ps := [(.val, (.int .i64)), (.val, (.int .i64))], rs := [(.val, (.int .i64))], F := fun x => Qv.f x.1 x.2 }
def Qv.cs : List (FuncId × Con) := []
def Qv.E : Env := envOf tab Qv.cs 0 false
def Qv.keep (i : Nat) : List Nat := if i = 3 then [5, 6, 7] else []
def Qv.at3 (n : Nat) (x : Int × Int) : Code × (Ex → St → Option (Int)) := ctx Qv.E Qv.keep n [.snd, .snd, .snd, .fst, .blk] (codeOf Tryz.f140) (kEnd Qv.E Tryz.f140 Qv.con x)
def Qv.LN3 (n : Nat) (x : Int × Int) : Nat → St → Option (Int) := loopN (exec Qv.E Qv.keep n (bodyOf (Qv.at3 n x).1)) (St.norm 0 (Qv.keep 3)) (Qv.at3 n x).2
set_option maxRecDepth 100000 in
theorem Qv.lem3 (n : Nat) (x : Int × Int) : ∀ (k : Nat) (p : Int) (r : Int) (q : Int), Qv.LN3 n x k (Qv.st3 p r q) = Qv.l3 n k p r q := by
 intro k
 induction k with
 | zero => intro p r q; rfl
 | succ k ih =>
  intro p r q
  have h : Qv.LN3 n x (k + 1) (Qv.st3 p r q) = Qv.g3 (fun p r q => Qv.LN3 n x k (Qv.st3 p r q)) p r q := by kernel_rfl
  rw [h]
  simp only [ih]
  rfl
set_option maxRecDepth 100000 in
theorem Qv.body (n : Nat) (x : Int × Int) : bodyF Qv.E Qv.keep n Tryz.f140 Qv.con x = Qv.fn n x.1 x.2 := by
 have h : bodyF Qv.E Qv.keep n Tryz.f140 Qv.con x = Qv.top (fun p r q => Qv.LN3 n x n (Qv.st3 p r q)) x.1 x.2 := by kernel_rfl
 rw [h]
 simp only [Qv.lem3]
 rfl
set_option maxRecDepth 100000 in
theorem Qv.good : Good Tryz.prog 140 Qv.con :=
 good_of tabok (cs := Qv.cs) trivial 0 false (fn := Tryz.f140) Tryz.func140 rfl (by decide) (by simp [Qv.con]) Qv.keep NN (fun _ => rfl) (fun x => Qv.body NN x)
end
end Go.Ev.Tryz

namespace Go.Ev.Tryz
open Go.Proofs Go.Pl
set_option linter.unusedVariables false
noncomputable section
def Qac.con : Con := { ps := [(.val, (.int .i64)), (.val, (.int .i64))], rs := [(.val, (.int .i64)), (.val, (.int .i64))], F := fun x => Qac.f x.1 x.2 }
def Qac.cs : List (FuncId × Con) := [(138, QaE.con), (139, QaD.con), (140, Qv.con)]
def Qac.E : Env := envOf tab Qac.cs 0 false
def Qac.keep (i : Nat) : List Nat := []
set_option maxRecDepth 100000 in
theorem Qac.body (n : Nat) (x : Int × Int) : bodyF Qac.E Qac.keep n Tryz.f112 Qac.con x = Qac.fn n x.1 x.2 := by
 have h : bodyF Qac.E Qac.keep n Tryz.f112 Qac.con x = Qac.top x.1 x.2 := by kernel_rfl
 exact h
set_option maxRecDepth 100000 in
theorem Qac.good : Good Tryz.prog 112 Qac.con :=
 good_of tabok (cs := Qac.cs) ⟨QaE.good, QaD.good, Qv.good, trivial⟩ 0 false (fn := Tryz.f112) Tryz.func112 rfl (by decide) (by simp [Qac.con]) Qac.keep NN (fun _ => rfl) (fun x => Qac.body NN x)
end
end Go.Ev.Tryz

namespace Go.Ev.Tryz
open Go.Proofs Go.Pl
set_option linter.unusedVariables false
noncomputable section
def Q7.st2 (p : Int) (q : ByteArray) : St := ⟨[.gone, .dat (.int .i64) p, .gone, .gone, .gone, .dat .str q, .gone, .gone, .gone, .gone, .gone, .gone, .gone, .gone, .gone], []⟩
def Q7.con : Con := { ps := [(.val, (.int .i64)), (.val, (.int .i64))], rs := [(.val, .str)], F := fun x => Q7.f x.1 x.2 }
def Q7.cs : List (FuncId × Con) := [(64, (Qd.con (fun a0 => Qd.f a0)))]
def Q7.E : Env := envOf tab Q7.cs 0 false
def Q7.keep (i : Nat) : List Nat := if i = 2 then [1, 5] else []
def Q7.at2 (n : Nat) (x : Int × Int) : Code × (Ex → St → Option (ByteArray)) := ctx Q7.E Q7.keep n [.snd, .snd, .fst, .blk] (codeOf Tryz.f159) (kEnd Q7.E Tryz.f159 Q7.con x)
def Q7.LN2 (n : Nat) (x : Int × Int) : Nat → St → Option (ByteArray) := loopN (exec Q7.E Q7.keep n (bodyOf (Q7.at2 n x).1)) (St.norm 0 (Q7.keep 2)) (Q7.at2 n x).2
set_option maxRecDepth 100000 in
theorem Q7.lem2 (n : Nat) (x : Int × Int) : ∀ (k : Nat) (p : Int) (q : ByteArray), Q7.LN2 n x k (Q7.st2 p q) = Q7.l2 n k p q := by
 intro k
 induction k with
 | zero => intro p q; rfl
 | succ k ih =>
  intro p q
  have h : Q7.LN2 n x (k + 1) (Q7.st2 p q) = Q7.g2 (fun p q => Q7.LN2 n x k (Q7.st2 p q)) p q := by kernel_rfl
  rw [h]
  simp only [ih]
  rfl
set_option maxRecDepth 100000 in
theorem Q7.body (n : Nat) (x : Int × Int) : bodyF Q7.E Q7.keep n Tryz.f159 Q7.con x = Q7.fn n x.1 x.2 := by
 have h : bodyF Q7.E Q7.keep n Tryz.f159 Q7.con x = Q7.top (fun p q => Q7.LN2 n x n (Q7.st2 p q)) x.1 x.2 := by kernel_rfl
 rw [h]
 simp only [Q7.lem2]
 rfl
set_option maxRecDepth 100000 in
theorem Q7.good : Good Tryz.prog 159 Q7.con :=
 good_of tabok (cs := Q7.cs) ⟨Qd.good, trivial⟩ 0 false (fn := Tryz.f159) Tryz.func159 rfl (by decide) (by simp [Q7.con]) Q7.keep NN (fun _ => rfl) (fun x => Q7.body NN x)
end
end Go.Ev.Tryz

namespace Go.Ev.Tryz
open Go.Proofs Go.Pl
set_option linter.unusedVariables false
noncomputable section
def QaK.con : Con := { ps := [(.val, (.int .i64))], rs := [(.val, .str)], F := fun x => QaK.f x }
def QaK.cs : List (FuncId × Con) := [(64, (Qd.con (fun a0 => Qd.f a0))), (159, Q7.con)]
def QaK.E : Env := envOf tab QaK.cs 0 false
def QaK.keep (i : Nat) : List Nat := []
set_option maxRecDepth 100000 in
theorem QaK.body (n : Nat) (x : Int) : bodyF QaK.E QaK.keep n Tryz.f141 QaK.con x = QaK.fn n x := by
 have h : bodyF QaK.E QaK.keep n Tryz.f141 QaK.con x = QaK.top x := by kernel_rfl
 exact h
set_option maxRecDepth 100000 in
theorem QaK.good : Good Tryz.prog 141 QaK.con :=
 good_of tabok (cs := QaK.cs) ⟨Qd.good, Q7.good, trivial⟩ 0 false (fn := Tryz.f141) Tryz.func141 rfl (by decide) (by simp [QaK.con]) QaK.keep NN (fun _ => rfl) (fun x => QaK.body NN x)
end
end Go.Ev.Tryz

namespace Go.Ev.Tryz
open Go.Proofs Go.Pl
set_option linter.unusedVariables false
noncomputable section
def Qat.con : Con := { ps := [(.val, (.int .i64))], rs := [(.val, .str), (.val, (.int .i64))], F := fun x => Qat.f x }
def Qat.cs : List (FuncId × Con) := [(84, QaN.con), (141, QaK.con)]
def Qat.E : Env := envOf tab Qat.cs 0 false
def Qat.keep (i : Nat) : List Nat := []
set_option maxRecDepth 100000 in
theorem Qat.body (n : Nat) (x : Int) : bodyF Qat.E Qat.keep n Tryz.f113 Qat.con x = Qat.fn n x := by
 have h : bodyF Qat.E Qat.keep n Tryz.f113 Qat.con x = Qat.top x := by kernel_rfl
 exact h
set_option maxRecDepth 100000 in
theorem Qat.good : Good Tryz.prog 113 Qat.con :=
 good_of tabok (cs := Qat.cs) ⟨QaN.good, QaK.good, trivial⟩ 0 false (fn := Tryz.f113) Tryz.func113 rfl (by decide) (by simp [Qat.con]) Qat.keep NN (fun _ => rfl) (fun x => Qat.body NN x)
end
end Go.Ev.Tryz

namespace Go.Ev.Tryz
open Go.Proofs Go.Pl
set_option linter.unusedVariables false
noncomputable section
def Qc.st170000024 (s : Int) (t : Int) (w1 : List ByteArray) (w3a : ByteArray) (w4' : List YA) (w5' : List YC) (w6' : List YA) (u : List YA) (w8' : List YC) (w9' : List YA) (v : List ByteArray) (w : List Int) (c3a : ByteArray) (r : List ByteArray) (w16 : List YA) (w17 : List YC) (w18 : List YA) : St := ⟨[.gone, .gone, .ptr 12 [], .ptr 13 [], .ptr 14 [], .gone, .gone, .gone, .gone, .gone, .gone, .gone, .gone, .gone, .gone, .gone, .ref 15, .gone, .gone, .gone, .gone, .gone, .gone, .gone, .gone, .gone, .gone, .gone, .gone, .gone, .gone, .gone, .gone, .gone, .gone, .gone, .gone, .gone, .gone, .gone, .gone, .gone, .gone, .gone, .gone, .gone, .gone, .gone, .gone, .gone, .gone, .gone, .gone, .gone, .gone, .gone, .gone, .gone, .gone, .gone, .gone, .gone, .gone, .gone, .gone, .gone, .gone, .gone, .gone, .gone, .gone, .gone, .gone, .gone, .gone, .gone, .gone, .gone, .gone, .gone, .gone, .gone, .gone, .gone, .gone, .gone, .gone, .gone, .gone, .gone, .gone, .gone, .gone, .gone, .gone, .gone, .gone, .gone, .gone, .gone, .gone, .gone, .gone, .gone, .gone, .gone, .gone, .gone, .gone, .gone, .gone, .gone, .gone, .gone, .gone, .gone, .gone, .gone, .gone, .gone, .gone, .gone, .gone, .gone, .gone, .gone, .gone, .gone, .gone, .gone, .ref 7, .dat (.int .i64) s, .dat (.int .i64) t, .gone, .gone, .gone, .gone, .gone, .gone, .gone, .gone, .gone, .gone, .gone, .gone, .gone, .gone, .gone, .gone, .gone, .gone, .gone, .gone, .gone, .gone, .gone, .gone, .gone, .gone, .gone, .gone, .gone, .gone, .gone, .gone, .gone, .gone, .gone, .gone, .gone, .gone, .gone, .gone, .gone, .gone, .gone, .gone, .gone, .gone, .gone, .gone, .gone, .gone, .gone, .gone, .gone, .gone, .gone, .gone, .gone, .gone, .gone, .gone, .gone, .gone, .gone, .gone, .gone, .gone, .gone, .gone, .gone, .gone, .gone, .gone, .gone, .gone, .gone, .gone, .gone, .gone, .gone, .gone, .gone, .gone, .gone, .gone, .gone, .gone, .gone, .gone, .gone, .gone, .gone, .gone, .gone, .gone, .gone, .gone, .gone, .gone, .gone, .gone, .gone, .gone, .gone, .gone, .gone, .gone, .gone, .gone, .gone, .gone, .gone, .gone, .gone, .gone, .gone, .gone, .gone, .gone, .gone, .gone, .gone, .gone, .gone, .gone, .gone, .gone, .gone, .gone, .gone, .gone, .gone, .gone, .gone, .gone, .gone, .gone, .gone, .gone, .gone, .gone, .gone, .gone, .gone, .gone, .gone, .gone, .gone, .gone, .gone, .gone, .gone, .gone, .gone, .gone, .gone, .gone, .gone, .gone, .gone], [.box 35 (.pair (.sl 70 (.pair (.int .i64) (.pair .str (.int .i64)))) (.pair (.sl 72 (.pair (.int .i64) (.int .i64))) (.sl 74 (.pair (.int .i64) (.pair .str (.int .i64)))))) (.pr (.ref 4) (.pr (.ref 5) (.ref 6))), .row 9 .str w1 none, .box 35 (.pair (.sl 70 (.pair (.int .i64) (.pair .str (.int .i64)))) (.pair (.sl 72 (.pair (.int .i64) (.int .i64))) (.sl 74 (.pair (.int .i64) (.pair .str (.int .i64)))))) (.pr (.ref 7) (.pr (.ref 8) (.ref 9))), .box 58 (.pair .str (.pair (.sl 9 .str) (.sl 2 (.int .i64)))) (.pr (.dat .str w3a) (.pr (.ref 10) (.ref 11))), .row 70 (.pair (.int .i64) (.pair .str (.int .i64))) w4' none, .row 72 (.pair (.int .i64) (.int .i64)) w5' none, .row 74 (.pair (.int .i64) (.pair .str (.int .i64))) w6' none, .row 70 (.pair (.int .i64) (.pair .str (.int .i64))) u none, .row 72 (.pair (.int .i64) (.int .i64)) w8' none, .row 74 (.pair (.int .i64) (.pair .str (.int .i64))) w9' none, .row 9 .str v none, .row 2 (.int .i64) w none, .box 35 (.pair (.sl 70 (.pair (.int .i64) (.pair .str (.int .i64)))) (.pair (.sl 72 (.pair (.int .i64) (.int .i64))) (.sl 74 (.pair (.int .i64) (.pair .str (.int .i64)))))) (.pr (.ref 7) (.pr (.ref 8) (.ref 9))), .box 58 (.pair .str (.pair (.sl 9 .str) (.sl 2 (.int .i64)))) (.pr (.dat .str c3a) (.pr (.ref 10) (.ref 11))), .box 35 (.pair (.sl 70 (.pair (.int .i64) (.pair .str (.int .i64)))) (.pair (.sl 72 (.pair (.int .i64) (.int .i64))) (.sl 74 (.pair (.int .i64) (.pair .str (.int .i64)))))) (.pr (.ref 16) (.pr (.ref 17) (.ref 18))), .row 9 .str r none, .row 70 (.pair (.int .i64) (.pair .str (.int .i64))) w16 none, .row 72 (.pair (.int .i64) (.int .i64)) w17 none, .row 74 (.pair (.int .i64) (.pair .str (.int .i64))) w18 none]⟩
def Qc.st1000016 (v37 : List ByteArray) (v38 : Int) (v39 : Int) (p : List ByteArray) (q : ByteArray) (w4 : List YA) (w5 : List YC) (w6 : List YA) (w7 : List YA) (w8 : List YC) (w9 : List YA) (w10 : List ByteArray) (w11 : List Int) : St := ⟨[.gone, .gone, .gone, .ptr 0 [], .gone, .gone, .ref 1, .ptr 2 [], .gone, .gone, .ptr 3 [], .gone, .gone, .gone, .gone, .gone, .gone, .gone, .gone, .gone, .gone, .gone, .gone, .gone, .gone, .gone, .gone, .gone, .gone, .gone, .gone, .gone, .gone, .gone, .gone, .gone, .gone, .dat (.sl 9 .str) v37, .dat (.int .i64) v38, .dat (.int .i64) v39, .gone, .gone, .gone, .gone, .gone, .gone, .gone, .gone, .gone, .gone, .gone, .gone, .gone, .gone, .gone, .gone, .gone, .gone, .gone, .gone, .gone, .gone, .gone, .gone, .gone, .gone, .gone, .gone, .gone, .gone, .gone, .gone, .gone, .gone, .gone, .gone, .gone, .gone], [.box 35 (.pair (.sl 70 (.pair (.int .i64) (.pair .str (.int .i64)))) (.pair (.sl 72 (.pair (.int .i64) (.int .i64))) (.sl 74 (.pair (.int .i64) (.pair .str (.int .i64)))))) (.pr (.ref 4) (.pr (.ref 5) (.ref 6))), .row 9 .str p none, .box 35 (.pair (.sl 70 (.pair (.int .i64) (.pair .str (.int .i64)))) (.pair (.sl 72 (.pair (.int .i64) (.int .i64))) (.sl 74 (.pair (.int .i64) (.pair .str (.int .i64)))))) (.pr (.ref 7) (.pr (.ref 8) (.ref 9))), .box 58 (.pair .str (.pair (.sl 9 .str) (.sl 2 (.int .i64)))) (.pr (.dat .str q) (.pr (.ref 10) (.ref 11))), .row 70 (.pair (.int .i64) (.pair .str (.int .i64))) w4 none, .row 72 (.pair (.int .i64) (.int .i64)) w5 none, .row 74 (.pair (.int .i64) (.pair .str (.int .i64))) w6 none, .row 70 (.pair (.int .i64) (.pair .str (.int .i64))) w7 none, .row 72 (.pair (.int .i64) (.int .i64)) w8 none, .row 74 (.pair (.int .i64) (.pair .str (.int .i64))) w9 none, .row 9 .str w10 none, .row 2 (.int .i64) w11 none]⟩
def Qc.tr0 (L11 : YH) (v37 : List ByteArray) (v38 : Int) (v39 : Int) (p : List ByteArray) (w4 : List YA) (w5 : List YC) (w6 : List YA) (w7 : List YA) (w8 : List YC) (w9 : List YA) : Option YG :=
 if p.length + ([(⟨#[]⟩ : ByteArray)]).length < room 16 then
  L11 v37 v38 (IntKind.i64.wrap (v39 + 1)) (p ++ ([(⟨#[]⟩ : ByteArray)])) w4 w5 w6 w7 w8 w9
 else
  none
def Qc.tr1 (L11 : YH) (v37 : List ByteArray) (v38 : Int) (v39 : Int) (p : List ByteArray) (w4 : List YA) (w5 : List YC) (w6 : List YA) (w7 : List YA) (w8 : List YC) (w9 : List YA) (r14 : YJ) : Option YG :=
 (QaH.f r14.1).bind fun r15 =>
 if ((r14.2 : Int) != 0) = true then
  (Qd.f r14.2).bind fun r16 =>
  if (⟨#[101, 114, 114, 111, 114, 32]⟩ : ByteArray).size + r16.size ≤ 9223372036854775807 then
   if p.length + ([(⟨#[101, 114, 114, 111, 114, 32]⟩ : ByteArray) ++ r16]).length < room 16 then
    L11 v37 v38 (IntKind.i64.wrap (v39 + 1)) (p ++ ([(⟨#[101, 114, 114, 111, 114, 32]⟩ : ByteArray) ++ r16])) w4 w5 w6 w7 w8 w9
   else
    none
  else
   none
 else if p.length + ([r15]).length < room 16 then
  L11 v37 v38 (IntKind.i64.wrap (v39 + 1)) (p ++ ([r15])) w4 w5 w6 w7 w8 w9
 else
  none
def Qc.tr2 (L11 : YH) (v37 : List ByteArray) (v38 : Int) (v39 : Int) (p : List ByteArray) (w4 : List YA) (w5 : List YC) (w6 : List YA) (w7 : List YA) (w8 : List YC) (w9 : List YA) (w11 : List Int) : Option YG :=
 (Qa.f w8 (w11.getD (0 : Int).toNat 0)).bind fun r14 =>
 agree (
  Qc.tr1 L11 v37 v38 v39 p w4 w5 w6 w7 w8 w9 r14
 ) (
  agree (
   Qc.tr1 L11 v37 v38 v39 p w4 w5 w6 w7 w8 w9 r14
  ) (
   Qc.tr1 L11 v37 v38 v39 p w4 w5 w6 w7 w8 w9 r14
  )
 )
def Qc.tr3 (L11 : YH) (v37 : List ByteArray) (v38 : Int) (v39 : Int) (p : List ByteArray) (w4 : List YA) (w5 : List YC) (w6 : List YA) (w7 : List YA) (w8 : List YC) (w9 : List YA) (w11 : List Int) : Option YG :=
 agree (
  Qc.tr2 L11 v37 v38 v39 p w4 w5 w6 w7 w8 w9 w11
 ) (
  Qc.tr2 L11 v37 v38 v39 p w4 w5 w6 w7 w8 w9 w11
 )
def Qc.tr4 (L11 : YH) (v37 : List ByteArray) (v38 : Int) (v39 : Int) (p : List ByteArray) (w4 : List YA) (w5 : List YC) (w6 : List YA) (w7 : List YA) (w8 : List YC) (w9 : List YA) (w11 : List Int) : Option YG :=
 agree (
  Qc.tr3 L11 v37 v38 v39 p w4 w5 w6 w7 w8 w9 w11
 ) (
  Qc.tr2 L11 v37 v38 v39 p w4 w5 w6 w7 w8 w9 w11
 )
def Qc.tr5 (L11 : YH) (v37 : List ByteArray) (v38 : Int) (v39 : Int) (p : List ByteArray) (w4 : List YA) (w5 : List YC) (w6 : List YA) (w7 : List YA) (w8 : List YC) (w9 : List YA) (w11 : List Int) : Option YG :=
 if (0 : Int) ≤ 0 ∧ (0 : Int) < w11.length then
  Qc.tr2 L11 v37 v38 v39 p w4 w5 w6 w7 w8 w9 w11
 else
  none
def Qc.tr6 (L11 : YH) (v37 : List ByteArray) (v38 : Int) (v39 : Int) (p : List ByteArray) (w4 : List YA) (w5 : List YC) (w6 : List YA) (w7 : List YA) (w8 : List YC) (w9 : List YA) (r21 : YC) : Option YG :=
 (Qd.f r21.1).bind fun r22 =>
 if ((r21.2 : Int) != 0) = true then
  (Qd.f r21.2).bind fun r23 =>
  if (⟨#[101, 114, 114, 111, 114, 32]⟩ : ByteArray).size + r23.size ≤ 9223372036854775807 then
   if p.length + ([(⟨#[101, 114, 114, 111, 114, 32]⟩ : ByteArray) ++ r23]).length < room 16 then
    L11 v37 v38 (IntKind.i64.wrap (v39 + 1)) (p ++ ([(⟨#[101, 114, 114, 111, 114, 32]⟩ : ByteArray) ++ r23])) w4 w5 w6 w7 w8 w9
   else
    none
  else
   none
 else if p.length + ([r22]).length < room 16 then
  L11 v37 v38 (IntKind.i64.wrap (v39 + 1)) (p ++ ([r22])) w4 w5 w6 w7 w8 w9
 else
  none
def Qc.tr7 (L11 : YH) (v37 : List ByteArray) (v38 : Int) (v39 : Int) (p : List ByteArray) (w4 : List YA) (w5 : List YC) (w6 : List YA) (w7 : List YA) (w8 : List YC) (w9 : List YA) (r30 : (Int × Int × Int)) (r31 : ByteArray) : Option YG :=
 (Qd.f r30.2.1).bind fun r32 =>
 if (r31 ++ (⟨#[32]⟩ : ByteArray)).size + r32.size ≤ 9223372036854775807 then
  if ((r30.2.2 : Int) != 0) = true then
   (Qd.f r30.2.2).bind fun r33 =>
   if (⟨#[101, 114, 114, 111, 114, 32]⟩ : ByteArray).size + r33.size ≤ 9223372036854775807 then
    if p.length + ([(⟨#[101, 114, 114, 111, 114, 32]⟩ : ByteArray) ++ r33]).length < room 16 then
     L11 v37 v38 (IntKind.i64.wrap (v39 + 1)) (p ++ ([(⟨#[101, 114, 114, 111, 114, 32]⟩ : ByteArray) ++ r33])) w4 w5 w6 w7 w8 w9
    else
     none
   else
    none
  else if p.length + ([(r31 ++ (⟨#[32]⟩ : ByteArray)) ++ r32]).length < room 16 then
   L11 v37 v38 (IntKind.i64.wrap (v39 + 1)) (p ++ ([(r31 ++ (⟨#[32]⟩ : ByteArray)) ++ r32])) w4 w5 w6 w7 w8 w9
  else
   none
 else
  none
def Qc.tr8 (L11 : YH) (v37 : List ByteArray) (v38 : Int) (v39 : Int) (p : List ByteArray) (w4 : List YA) (w5 : List YC) (w6 : List YA) (w7 : List YA) (w8 : List YC) (w9 : List YA) (r34 : YC) : Option YG :=
 (Qd.f r34.1).bind fun r35 =>
 if ((r34.2 : Int) != 0) = true then
  (Qd.f r34.2).bind fun r36 =>
  if (⟨#[101, 114, 114, 111, 114, 32]⟩ : ByteArray).size + r36.size ≤ 9223372036854775807 then
   if p.length + ([(⟨#[101, 114, 114, 111, 114, 32]⟩ : ByteArray) ++ r36]).length < room 16 then
    L11 v37 v38 (IntKind.i64.wrap (v39 + 1)) (p ++ ([(⟨#[101, 114, 114, 111, 114, 32]⟩ : ByteArray) ++ r36])) w4 w5 w6 w7 w8 w9
   else
    none
  else
   none
 else if p.length + ([r35]).length < room 16 then
  L11 v37 v38 (IntKind.i64.wrap (v39 + 1)) (p ++ ([r35])) w4 w5 w6 w7 w8 w9
 else
  none
def Qc.g1000016raw (I170000024 : YI) (L11 : YH) (L1000016 : YR) (v37 : List ByteArray) (v38 : Int) (v39 : Int) (p : List ByteArray) (q : ByteArray) (w4 : List YA) (w5 : List YC) (w6 : List YA) (w7 : List YA) (w8 : List YC) (w9 : List YA) (w10 : List ByteArray) (w11 : List Int) : Option YG :=
 if (q.toList == (⟨#[112, 101, 111, 112, 108, 101]⟩ : ByteArray).toList) = true then
  if (0 : Int) ≤ 0 ∧ (0 : Int) < w11.length then
   if (0 : Int) ≤ 0 ∧ (0 : Int) < w10.length then
    if (0 : Int) ≤ 1 ∧ (1 : Int) < w11.length then
     (Qak.f w7 (w11.getD (0 : Int).toNat 0, (w10.getD (0 : Int).toNat ByteArray.empty, w11.getD (1 : Int).toNat 0))).bind fun r4 =>
     if ((r4.2 : Int) != 0) = true then
      (Qd.f r4.2).bind fun r5 =>
      if (⟨#[101, 114, 114, 111, 114, 32]⟩ : ByteArray).size + r5.size ≤ 9223372036854775807 then
       if p.length + ([(⟨#[101, 114, 114, 111, 114, 32]⟩ : ByteArray) ++ r5]).length < room 16 then
        L11 v37 v38 (IntKind.i64.wrap (v39 + 1)) (p ++ ([(⟨#[101, 114, 114, 111, 114, 32]⟩ : ByteArray) ++ r5])) w4 w5 w6 w7 w8 w9
       else
        none
      else
       none
     else if p.length + ([(⟨#[111, 107]⟩ : ByteArray)]).length < room 16 then
      L11 v37 v38 (IntKind.i64.wrap (v39 + 1)) (p ++ ([(⟨#[111, 107]⟩ : ByteArray)])) w4 w5 w6 r4.1 w8 w9
     else
      none
    else
     none
   else
    none
  else
   none
 else if (q.toList == (⟨#[99, 108, 101, 97, 114]⟩ : ByteArray).toList) = true then
  if (0 : Int) ≤ 0 ∧ (0 : Int) < w10.length then
   if (0 : Int) ≤ 0 ∧ (0 : Int) < w11.length then
    (QaS.f w7 (w10.getD (0 : Int).toNat ByteArray.empty) (w11.getD (0 : Int).toNat 0)).bind fun r6 =>
    if r6.1 = true then
     if ((r6.2 : Int) != 0) = true then
      (Qd.f r6.2).bind fun r7 =>
      if (⟨#[101, 114, 114, 111, 114, 32]⟩ : ByteArray).size + r7.size ≤ 9223372036854775807 then
       if p.length + ([(⟨#[101, 114, 114, 111, 114, 32]⟩ : ByteArray) ++ r7]).length < room 16 then
        L11 v37 v38 (IntKind.i64.wrap (v39 + 1)) (p ++ ([(⟨#[101, 114, 114, 111, 114, 32]⟩ : ByteArray) ++ r7])) w4 w5 w6 w7 w8 w9
       else
        none
      else
       none
     else if p.length + ([(⟨#[121, 101, 115]⟩ : ByteArray)]).length < room 16 then
      L11 v37 v38 (IntKind.i64.wrap (v39 + 1)) (p ++ ([(⟨#[121, 101, 115]⟩ : ByteArray)])) w4 w5 w6 w7 w8 w9
     else
      none
    else if ((r6.2 : Int) != 0) = true then
     (Qd.f r6.2).bind fun r8 =>
     if (⟨#[101, 114, 114, 111, 114, 32]⟩ : ByteArray).size + r8.size ≤ 9223372036854775807 then
      if p.length + ([(⟨#[101, 114, 114, 111, 114, 32]⟩ : ByteArray) ++ r8]).length < room 16 then
       L11 v37 v38 (IntKind.i64.wrap (v39 + 1)) (p ++ ([(⟨#[101, 114, 114, 111, 114, 32]⟩ : ByteArray) ++ r8])) w4 w5 w6 w7 w8 w9
      else
       none
     else
      none
    else if p.length + ([(⟨#[110, 111]⟩ : ByteArray)]).length < room 16 then
     L11 v37 v38 (IntKind.i64.wrap (v39 + 1)) (p ++ ([(⟨#[110, 111]⟩ : ByteArray)])) w4 w5 w6 w7 w8 w9
    else
     none
   else
    none
  else
   none
 else if (q.toList == (⟨#[115, 105, 103, 110, 97, 108]⟩ : ByteArray).toList) = true then
  if (0 : Int) ≤ 0 ∧ (0 : Int) < w10.length then
   (Qay.f).bind fun r9 =>
   (Qz.f r9 (w10.getD (0 : Int).toNat ByteArray.empty)).bind fun r10 =>
   if (decide ((r10 : Int) < 0)) = true then
    if ((6 : Int) != 0) = true then
     (Qd.f 6).bind fun r11 =>
     if (⟨#[101, 114, 114, 111, 114, 32]⟩ : ByteArray).size + r11.size ≤ 9223372036854775807 then
      if p.length + ([(⟨#[101, 114, 114, 111, 114, 32]⟩ : ByteArray) ++ r11]).length < room 16 then
       L11 v37 v38 (IntKind.i64.wrap (v39 + 1)) (p ++ ([(⟨#[101, 114, 114, 111, 114, 32]⟩ : ByteArray) ++ r11])) w4 w5 w6 w7 w8 w9
      else
       none
     else
      none
    else
     Qc.tr0 L11 v37 v38 v39 p w4 w5 w6 w7 w8 w9
   else if (0 : Int) ≤ 0 ∧ (0 : Int) < w11.length then
    (Qf.f w8 (w11.getD (0 : Int).toNat 0, r10)).bind fun r12 =>
    if ((r12.2 : Int) != 0) = true then
     (Qd.f r12.2).bind fun r13 =>
     if (⟨#[101, 114, 114, 111, 114, 32]⟩ : ByteArray).size + r13.size ≤ 9223372036854775807 then
      if p.length + ([(⟨#[101, 114, 114, 111, 114, 32]⟩ : ByteArray) ++ r13]).length < room 16 then
       L11 v37 v38 (IntKind.i64.wrap (v39 + 1)) (p ++ ([(⟨#[101, 114, 114, 111, 114, 32]⟩ : ByteArray) ++ r13])) w4 w5 w6 w7 w8 w9
      else
       none
     else
      none
    else if p.length + ([(⟨#[111, 107]⟩ : ByteArray)]).length < room 16 then
     L11 v37 v38 (IntKind.i64.wrap (v39 + 1)) (p ++ ([(⟨#[111, 107]⟩ : ByteArray)])) w4 w5 w6 w7 r12.1 w9
    else
     none
   else
    none
  else
   none
 else if (q.toList == (⟨#[115, 116, 97, 116, 101]⟩ : ByteArray).toList) = true then
  agree (
   agree (
    if (0 : Int) ≤ 0 ∧ (0 : Int) < w11.length then
     Qc.tr4 L11 v37 v38 v39 p w4 w5 w6 w7 w8 w9 w11
    else
     none
   ) (
    Qc.tr5 L11 v37 v38 v39 p w4 w5 w6 w7 w8 w9 w11
   )
  ) (
   agree (
    if (0 : Int) ≤ 0 ∧ (0 : Int) < w11.length then
     agree (
      Qc.tr4 L11 v37 v38 v39 p w4 w5 w6 w7 w8 w9 w11
     ) (
      agree (
       Qc.tr4 L11 v37 v38 v39 p w4 w5 w6 w7 w8 w9 w11
      ) (
       Qc.tr3 L11 v37 v38 v39 p w4 w5 w6 w7 w8 w9 w11
      )
     )
    else
     none
   ) (
    agree (
     Qc.tr5 L11 v37 v38 v39 p w4 w5 w6 w7 w8 w9 w11
    ) (
     if (0 : Int) ≤ 0 ∧ (0 : Int) < w11.length then
      Qc.tr3 L11 v37 v38 v39 p w4 w5 w6 w7 w8 w9 w11
     else
      none
    )
   )
  )
 else if (q.toList == (⟨#[102, 105, 114, 101]⟩ : ByteArray).toList) = true then
  I170000024 v37 v38 v39 p q w4 w5 w6 w7 w8 w9 w10 w11 (w7.length : Int) 0 p q w4 w5 w6 w7 w8 w9 w10 w11 q [] [] [] []
 else if (q.toList == (⟨#[98, 111, 111, 107]⟩ : ByteArray).toList) = true then
  if (0 : Int) ≤ 0 ∧ (0 : Int) < w10.length then
   (Qz.f ([(⟨#[105, 110]⟩ : ByteArray), (⟨#[102, 105, 114, 101, 100]⟩ : ByteArray), (⟨#[114, 101, 116, 117, 114, 110, 101, 100]⟩ : ByteArray), (⟨#[100, 101, 115, 116, 114, 111, 121, 101, 100]⟩ : ByteArray)]) (w10.getD (0 : Int).toNat ByteArray.empty)).bind fun r17 =>
   if (decide ((r17 : Int) < 0)) = true then
    if ((6 : Int) != 0) = true then
     (Qd.f 6).bind fun r18 =>
     if (⟨#[101, 114, 114, 111, 114, 32]⟩ : ByteArray).size + r18.size ≤ 9223372036854775807 then
      if p.length + ([(⟨#[101, 114, 114, 111, 114, 32]⟩ : ByteArray) ++ r18]).length < room 16 then
       L11 v37 v38 (IntKind.i64.wrap (v39 + 1)) (p ++ ([(⟨#[101, 114, 114, 111, 114, 32]⟩ : ByteArray) ++ r18])) w4 w5 w6 w7 w8 w9
      else
       none
     else
      none
    else
     Qc.tr0 L11 v37 v38 v39 p w4 w5 w6 w7 w8 w9
   else if (0 : Int) ≤ 1 ∧ (1 : Int) < w10.length then
    if (0 : Int) ≤ 0 ∧ (0 : Int) < w11.length then
     (Q9.f w9 (r17, (w10.getD (1 : Int).toNat ByteArray.empty, w11.getD (0 : Int).toNat 0))).bind fun r19 =>
     if ((r19.2 : Int) != 0) = true then
      (Qd.f r19.2).bind fun r20 =>
      if (⟨#[101, 114, 114, 111, 114, 32]⟩ : ByteArray).size + r20.size ≤ 9223372036854775807 then
       if p.length + ([(⟨#[101, 114, 114, 111, 114, 32]⟩ : ByteArray) ++ r20]).length < room 16 then
        L11 v37 v38 (IntKind.i64.wrap (v39 + 1)) (p ++ ([(⟨#[101, 114, 114, 111, 114, 32]⟩ : ByteArray) ++ r20])) w4 w5 w6 w7 w8 w9
       else
        none
      else
       none
     else if p.length + ([(⟨#[111, 107]⟩ : ByteArray)]).length < room 16 then
      L11 v37 v38 (IntKind.i64.wrap (v39 + 1)) (p ++ ([(⟨#[111, 107]⟩ : ByteArray)])) w4 w5 w6 w7 w8 r19.1
     else
      none
    else
     none
   else
    none
  else
   none
 else if (q.toList == (⟨#[108, 101, 102, 116]⟩ : ByteArray).toList) = true then
  if (0 : Int) ≤ 0 ∧ (0 : Int) < w10.length then
   (Qas.f w9 (w10.getD (0 : Int).toNat ByteArray.empty)).bind fun r21 =>
   agree (
    Qc.tr6 L11 v37 v38 v39 p w4 w5 w6 w7 w8 w9 r21
   ) (
    Qc.tr6 L11 v37 v38 v39 p w4 w5 w6 w7 w8 w9 r21
   )
  else
   none
 else if (q.toList == (⟨#[111, 112, 101, 110]⟩ : ByteArray).toList) = true then
  (Ql.f w9).bind fun r24 =>
  if (((r24.length : Int) : Int) == 0) = true then
   if ((0 : Int) != 0) = true then
    (Qd.f 0).bind fun r25 =>
    if (⟨#[101, 114, 114, 111, 114, 32]⟩ : ByteArray).size + r25.size ≤ 9223372036854775807 then
     if p.length + ([(⟨#[101, 114, 114, 111, 114, 32]⟩ : ByteArray) ++ r25]).length < room 16 then
      L11 v37 v38 (IntKind.i64.wrap (v39 + 1)) (p ++ ([(⟨#[101, 114, 114, 111, 114, 32]⟩ : ByteArray) ++ r25])) w4 w5 w6 w7 w8 w9
     else
      none
    else
     none
   else if p.length + ([(⟨#[45]⟩ : ByteArray)]).length < room 16 then
    L11 v37 v38 (IntKind.i64.wrap (v39 + 1)) (p ++ ([(⟨#[45]⟩ : ByteArray)])) w4 w5 w6 w7 w8 w9
   else
    none
  else
   (QX.f r24 (⟨#[44]⟩ : ByteArray)).bind fun r26 =>
   if ((0 : Int) != 0) = true then
    (Qd.f 0).bind fun r27 =>
    if (⟨#[101, 114, 114, 111, 114, 32]⟩ : ByteArray).size + r27.size ≤ 9223372036854775807 then
     if p.length + ([(⟨#[101, 114, 114, 111, 114, 32]⟩ : ByteArray) ++ r27]).length < room 16 then
      L11 v37 v38 (IntKind.i64.wrap (v39 + 1)) (p ++ ([(⟨#[101, 114, 114, 111, 114, 32]⟩ : ByteArray) ++ r27])) w4 w5 w6 w7 w8 w9
     else
      none
    else
     none
   else if p.length + ([r26]).length < room 16 then
    L11 v37 v38 (IntKind.i64.wrap (v39 + 1)) (p ++ ([r26])) w4 w5 w6 w7 w8 w9
   else
    none
 else if (q.toList == (⟨#[115, 101, 116, 116, 108, 101]⟩ : ByteArray).toList) = true then
  if (0 : Int) ≤ 0 ∧ (0 : Int) < w11.length then
   (QB.f w9 (w11.getD (0 : Int).toNat 0)).bind fun r28 =>
   if ((r28.2 : Int) != 0) = true then
    (Qd.f r28.2).bind fun r29 =>
    if (⟨#[101, 114, 114, 111, 114, 32]⟩ : ByteArray).size + r29.size ≤ 9223372036854775807 then
     if p.length + ([(⟨#[101, 114, 114, 111, 114, 32]⟩ : ByteArray) ++ r29]).length < room 16 then
      L11 v37 v38 (IntKind.i64.wrap (v39 + 1)) (p ++ ([(⟨#[101, 114, 114, 111, 114, 32]⟩ : ByteArray) ++ r29])) w4 w5 w6 w7 w8 w9
     else
      none
    else
     none
   else if p.length + ([(⟨#[111, 107]⟩ : ByteArray)]).length < room 16 then
    L11 v37 v38 (IntKind.i64.wrap (v39 + 1)) (p ++ ([(⟨#[111, 107]⟩ : ByteArray)])) w4 w5 w6 w7 w8 r28.1
   else
    none
  else
   none
 else if (q.toList == (⟨#[116, 111, 112]⟩ : ByteArray).toList) = true then
  if (0 : Int) ≤ 0 ∧ (0 : Int) < w11.length then
   (QaX.f (w11.getD (0 : Int).toNat 0)).bind fun r30 =>
   agree (
    (Qd.f r30.1).bind fun r31 =>
    if r31.size + (⟨#[32]⟩ : ByteArray).size ≤ 9223372036854775807 then
     Qc.tr7 L11 v37 v38 v39 p w4 w5 w6 w7 w8 w9 r30 r31
    else
     none
   ) (
    (Qd.f r30.1).bind fun r31 =>
    if r31.size + (⟨#[32]⟩ : ByteArray).size ≤ 9223372036854775807 then
     agree (
      Qc.tr7 L11 v37 v38 v39 p w4 w5 w6 w7 w8 w9 r30 r31
     ) (
      Qc.tr7 L11 v37 v38 v39 p w4 w5 w6 w7 w8 w9 r30 r31
     )
    else
     none
   )
  else
   none
 else if (q.toList == (⟨#[110, 101, 101, 100]⟩ : ByteArray).toList) = true then
  if (0 : Int) ≤ 0 ∧ (0 : Int) < w11.length then
   if (0 : Int) ≤ 1 ∧ (1 : Int) < w11.length then
    (Qac.f (w11.getD (0 : Int).toNat 0) (w11.getD (1 : Int).toNat 0)).bind fun r34 =>
    agree (
     Qc.tr8 L11 v37 v38 v39 p w4 w5 w6 w7 w8 w9 r34
    ) (
     Qc.tr8 L11 v37 v38 v39 p w4 w5 w6 w7 w8 w9 r34
    )
   else
    none
  else
   none
 else if (0 : Int) ≤ 0 ∧ (0 : Int) < w11.length then
  (Qat.f (w11.getD (0 : Int).toNat 0)).bind fun r37 =>
  if ((r37.2 : Int) != 0) = true then
   (Qd.f r37.2).bind fun r38 =>
   if (⟨#[101, 114, 114, 111, 114, 32]⟩ : ByteArray).size + r38.size ≤ 9223372036854775807 then
    if p.length + ([(⟨#[101, 114, 114, 111, 114, 32]⟩ : ByteArray) ++ r38]).length < room 16 then
     L11 v37 v38 (IntKind.i64.wrap (v39 + 1)) (p ++ ([(⟨#[101, 114, 114, 111, 114, 32]⟩ : ByteArray) ++ r38])) w4 w5 w6 w7 w8 w9
    else
     none
   else
    none
  else if p.length + ([r37.1]).length < room 16 then
   L11 v37 v38 (IntKind.i64.wrap (v39 + 1)) (p ++ ([r37.1])) w4 w5 w6 w7 w8 w9
  else
   none
 else
  none
theorem Qc.g1000016raw_eq (I170000024 : YI) (L11 : YH) (L1000016 : YR) (v37 : List ByteArray) (v38 : Int) (v39 : Int) (p : List ByteArray) (q : ByteArray) (w4 : List YA) (w5 : List YC) (w6 : List YA) (w7 : List YA) (w8 : List YC) (w9 : List YA) (w10 : List ByteArray) (w11 : List Int) : Qc.g1000016raw I170000024 L11 L1000016 v37 v38 v39 p q w4 w5 w6 w7 w8 w9 w10 w11 = Qc.g1000016 I170000024 L11 L1000016 v37 v38 v39 p q w4 w5 w6 w7 w8 w9 w10 w11 := by
 unfold Qc.g1000016raw Qc.g1000016
 simp only [agree_self, Qc.tr0, Qc.tr1, Qc.tr2, Qc.tr3, Qc.tr4, Qc.tr5, Qc.tr6, Qc.tr7, Qc.tr8]
def Qc.st11 (v37 : List ByteArray) (v38 : Int) (v39 : Int) (p : List ByteArray) (w3 : List YA) (w4 : List YC) (w5 : List YA) (w6 : List YA) (w7 : List YC) (w8 : List YA) : St := ⟨[.gone, .gone, .gone, .ptr 0 [], .gone, .gone, .ref 1, .ptr 2 [], .gone, .gone, .gone, .gone, .gone, .gone, .gone, .gone, .gone, .gone, .gone, .gone, .gone, .gone, .gone, .gone, .gone, .gone, .gone, .gone, .gone, .gone, .gone, .gone, .gone, .gone, .gone, .gone, .gone, .dat (.sl 9 .str) v37, .dat (.int .i64) v38, .dat (.int .i64) v39, .gone, .gone, .gone, .gone, .gone, .gone, .gone, .gone, .gone, .gone, .gone, .gone, .gone, .gone, .gone, .gone, .gone, .gone, .gone, .gone, .gone, .gone, .gone, .gone, .gone, .gone, .gone, .gone, .gone, .gone, .gone, .gone, .gone, .gone, .gone, .gone, .gone, .gone], [.box 35 (.pair (.sl 70 (.pair (.int .i64) (.pair .str (.int .i64)))) (.pair (.sl 72 (.pair (.int .i64) (.int .i64))) (.sl 74 (.pair (.int .i64) (.pair .str (.int .i64)))))) (.pr (.ref 3) (.pr (.ref 4) (.ref 5))), .row 9 .str p none, .box 35 (.pair (.sl 70 (.pair (.int .i64) (.pair .str (.int .i64)))) (.pair (.sl 72 (.pair (.int .i64) (.int .i64))) (.sl 74 (.pair (.int .i64) (.pair .str (.int .i64)))))) (.pr (.ref 6) (.pr (.ref 7) (.ref 8))), .row 70 (.pair (.int .i64) (.pair .str (.int .i64))) w3 none, .row 72 (.pair (.int .i64) (.int .i64)) w4 none, .row 74 (.pair (.int .i64) (.pair .str (.int .i64))) w5 none, .row 70 (.pair (.int .i64) (.pair .str (.int .i64))) w6 none, .row 72 (.pair (.int .i64) (.int .i64)) w7 none, .row 74 (.pair (.int .i64) (.pair .str (.int .i64))) w8 none]⟩
def Qc.con : Con := { ps := [(.val, .str)], rs := [(.own, (.sl 9 .str)), (.own, (.pair (.sl 70 (.pair (.int .i64) (.pair .str (.int .i64)))) (.pair (.sl 72 (.pair (.int .i64) (.int .i64))) (.sl 74 (.pair (.int .i64) (.pair .str (.int .i64))))))), (.val, (.int .i64))], F := fun x => Qc.f x }
def Qc.cs : List (FuncId × Con) := [(40, Qx.con), (63, QZ.con), (64, (Qd.con (fun a0 => Qd.f a0))), (97, Qak.con), (98, QaS.con), (99, Qz.con), (100, Qay.con), (101, Qf.con), (102, Qa.con), (103, QaH.con), (104, Q4.con), (105, Qar.con), (106, Q9.con), (107, Qas.con), (108, Ql.con), (109, QX.con), (110, QB.con), (111, QaX.con), (112, Qac.con), (113, Qat.con)]
def Qc.E : Env := envOf tab Qc.cs 0 false
def Qc.I (f : FuncId) : Option Func := if f = 65 then some Tryz.f65 else none
theorem Qc.hI : ∀ f fn, Qc.I f = some fn → Tryz.prog.funcs[f]? = some fn ∧ fn.body.isSome = true ∧ fn.name ≠ "runtime.NumGoroutine" := by
  intro f fn h
  unfold Qc.I at h
  split at h
  · rename_i e; subst e; cases h; exact ⟨Tryz.func65, rfl, by decide⟩
  cases h
def Qc.keep (i : Nat) : List Nat := if i = 170000024 then [2, 3, 4, 16, 130, 131, 132] else if i = 1000016 then [3, 6, 7, 10, 37, 38, 39] else if i = 11 then [3, 6, 7, 37, 38, 39, 100037] else []
def Qc.at170000024 (n : Nat) (x : ByteArray) (M11 : St → Option (YG)) (v37 : List ByteArray) (v38 : Int) (v39 : Int) (p : List ByteArray) (q : ByteArray) (w4 : List YA) (w5 : List YC) (w6 : List YA) (w7 : List YA) (w8 : List YC) (w9 : List YA) (w10 : List ByteArray) (w11 : List Int) : Code × (Ex → St → Option (YG)) := ctx (envIn Qc.E 12) (keepIn Qc.keep 16) n [.snd, .fst, .snd, .blk, .snd, .no, .snd, .no, .snd, .no, .snd, .no, .snd, .yes, .snd, .fst, .snd, .blk] (codeOf Tryz.f65) (kInR Qc.E 12 Tryz.f65.results.toList (postK Qc.E Qc.I (ctxR Qc.E Qc.I Qc.keep n [.snd, .snd, .snd, .snd, .snd, .snd, .snd, .fst, .snd, .blk, .rd M11, .snd, .snd, .fst, .blk, .snd, .snd, .snd, .fst] (codeOf Tryz.f33) (kEnd Qc.E Tryz.f33 Qc.con x))) [.gone, .gone, .gone, .ptr 0 [], .gone, .gone, .ref 1, .ptr 2 [], .gone, .gone, .ptr 3 [], .gone, .gone, .gone, .gone, .gone, .gone, .gone, .gone, .gone, .gone, .gone, .gone, .gone, .gone, .gone, .gone, .gone, .gone, .gone, .gone, .gone, .gone, .gone, .gone, .gone, .gone, .dat (.sl 9 .str) v37, .dat (.int .i64) v38, .dat (.int .i64) v39, .gone, .gone, .gone, .gone, .gone, .gone, .gone, .gone, .gone, .gone, .gone, .gone, .gone, .gone, .gone, .gone, .pr (.ref 7) (.pr (.ref 8) (.ref 9)), .pr (.dat .str q) (.pr (.ref 10) (.ref 11)), .gone, .gone, .gone, .gone, .gone, .gone, .gone, .gone, .gone, .gone, .gone, .gone, .gone, .gone, .gone, .gone, .gone, .gone, .gone, .gone] (some 58))
def Qc.LN170000024 (n : Nat) (x : ByteArray) (M11 : St → Option (YG)) (v37 : List ByteArray) (v38 : Int) (v39 : Int) (p : List ByteArray) (q : ByteArray) (w4 : List YA) (w5 : List YC) (w6 : List YA) (w7 : List YA) (w8 : List YC) (w9 : List YA) (w10 : List ByteArray) (w11 : List Int) : Nat → St → Option (YG) := loopN (exec (envIn Qc.E 12) (keepIn Qc.keep 16) n (bodyOf (Qc.at170000024 n x M11 v37 v38 v39 p q w4 w5 w6 w7 w8 w9 w10 w11).1)) (St.norm 12 (keepIn Qc.keep 16 24)) (Qc.at170000024 n x M11 v37 v38 v39 p q w4 w5 w6 w7 w8 w9 w10 w11).2
def Qc.at1000016 (n : Nat) (x : ByteArray) (M11 : St → Option (YG)) : Code × (Ex → St → Option (YG)) := ctxR Qc.E Qc.I Qc.keep n [.snd, .snd, .snd, .snd, .snd, .snd, .snd, .fst, .snd, .blk, .rd M11, .snd, .snd, .fst, .blk, .snd, .snd, .snd] (codeOf Tryz.f33) (kEnd Qc.E Tryz.f33 Qc.con x)
def Qc.LN1000016 (n : Nat) (x : ByteArray) (M11 : St → Option (YG)) : Nat → St → Option (YG) := cutN (execR Qc.E Qc.I Qc.keep n (Qc.at1000016 n x M11).1 (Qc.at1000016 n x M11).2)
def Qc.at11 (n : Nat) (x : ByteArray) : Code × (Ex → St → Option (YG)) := ctxR Qc.E Qc.I Qc.keep n [.snd, .snd, .snd, .snd, .snd, .snd, .snd, .fst, .snd, .blk] (codeOf Tryz.f33) (kEnd Qc.E Tryz.f33 Qc.con x)
def Qc.LN11 (n : Nat) (x : ByteArray) : Nat → St → Option (YG) := loopN (execR Qc.E Qc.I Qc.keep n (bodyOf (Qc.at11 n x).1)) (St.norm 0 (Qc.keep 11)) (Qc.at11 n x).2
set_option maxRecDepth 100000 in
theorem Qc.lem170000024 (n : Nat) (x : ByteArray) (M11 : St → Option (YG)) : ∀ (k : Nat) (v37 : List ByteArray) (v38 : Int) (v39 : Int) (p : List ByteArray) (q : ByteArray) (w4 : List YA) (w5 : List YC) (w6 : List YA) (w7 : List YA) (w8 : List YC) (w9 : List YA) (w10 : List ByteArray) (w11 : List Int) (s : Int) (t : Int) (w1 : List ByteArray) (w3a : ByteArray) (w4' : List YA) (w5' : List YC) (w6' : List YA) (u : List YA) (w8' : List YC) (w9' : List YA) (v : List ByteArray) (w : List Int) (c3a : ByteArray) (r : List ByteArray) (w16 : List YA) (w17 : List YC) (w18 : List YA), Qc.LN170000024 n x M11 v37 v38 v39 p q w4 w5 w6 w7 w8 w9 w10 w11 k (Qc.st170000024 s t w1 w3a w4' w5' w6' u w8' w9' v w c3a r w16 w17 w18) = Qc.l170000024 n (fun v37 v38 v39 p w3 w4 w5 w6 w7 w8 => M11 (Qc.st11 v37 v38 v39 p w3 w4 w5 w6 w7 w8)) k v37 v38 v39 p q w4 w5 w6 w7 w8 w9 w10 w11 s t w1 w3a w4' w5' w6' u w8' w9' v w c3a r w16 w17 w18 := by
 intro k
 induction k with
 | zero => intro v37 v38 v39 p q w4 w5 w6 w7 w8 w9 w10 w11 s t w1 w3a w4' w5' w6' u w8' w9' v w c3a r w16 w17 w18; rfl
 | succ k ih =>
  intro v37 v38 v39 p q w4 w5 w6 w7 w8 w9 w10 w11 s t w1 w3a w4' w5' w6' u w8' w9' v w c3a r w16 w17 w18
  have h : Qc.LN170000024 n x M11 v37 v38 v39 p q w4 w5 w6 w7 w8 w9 w10 w11 (k + 1) (Qc.st170000024 s t w1 w3a w4' w5' w6' u w8' w9' v w c3a r w16 w17 w18) = Qc.g170000024 (fun v37 v38 v39 p w3 w4 w5 w6 w7 w8 => M11 (Qc.st11 v37 v38 v39 p w3 w4 w5 w6 w7 w8)) (fun v37 v38 v39 p q w4 w5 w6 w7 w8 w9 w10 w11 s t w1 w3a w4' w5' w6' u w8' w9' v w c3a r w16 w17 w18 => Qc.LN170000024 n x M11 v37 v38 v39 p q w4 w5 w6 w7 w8 w9 w10 w11 k (Qc.st170000024 s t w1 w3a w4' w5' w6' u w8' w9' v w c3a r w16 w17 w18)) v37 v38 v39 p q w4 w5 w6 w7 w8 w9 w10 w11 s t w1 w3a w4' w5' w6' u w8' w9' v w c3a r w16 w17 w18 := by kernel_rfl
  rw [h]
  simp only [ih]
  rfl
set_option maxRecDepth 100000 in
theorem Qc.lem1000016 (n : Nat) (x : ByteArray) (M11 : St → Option (YG)) : ∀ (k : Nat) (v37 : List ByteArray) (v38 : Int) (v39 : Int) (p : List ByteArray) (q : ByteArray) (w4 : List YA) (w5 : List YC) (w6 : List YA) (w7 : List YA) (w8 : List YC) (w9 : List YA) (w10 : List ByteArray) (w11 : List Int), Qc.LN1000016 n x M11 k (Qc.st1000016 v37 v38 v39 p q w4 w5 w6 w7 w8 w9 w10 w11) = Qc.l1000016 n (fun v37 v38 v39 p w3 w4 w5 w6 w7 w8 => M11 (Qc.st11 v37 v38 v39 p w3 w4 w5 w6 w7 w8)) k v37 v38 v39 p q w4 w5 w6 w7 w8 w9 w10 w11 := by
 intro k
 induction k with
 | zero => intro v37 v38 v39 p q w4 w5 w6 w7 w8 w9 w10 w11; rfl
 | succ k ih =>
  intro v37 v38 v39 p q w4 w5 w6 w7 w8 w9 w10 w11
  have h : Qc.LN1000016 n x M11 (k + 1) (Qc.st1000016 v37 v38 v39 p q w4 w5 w6 w7 w8 w9 w10 w11) = Qc.g1000016raw (fun v37 v38 v39 p q w4 w5 w6 w7 w8 w9 w10 w11 s t w1 w3a w4' w5' w6' u w8' w9' v w c3a r w16 w17 w18 => Qc.LN170000024 n x M11 v37 v38 v39 p q w4 w5 w6 w7 w8 w9 w10 w11 n (Qc.st170000024 s t w1 w3a w4' w5' w6' u w8' w9' v w c3a r w16 w17 w18)) (fun v37 v38 v39 p w3 w4 w5 w6 w7 w8 => M11 (Qc.st11 v37 v38 v39 p w3 w4 w5 w6 w7 w8)) (fun v37 v38 v39 p q w4 w5 w6 w7 w8 w9 w10 w11 => Qc.LN1000016 n x M11 k (Qc.st1000016 v37 v38 v39 p q w4 w5 w6 w7 w8 w9 w10 w11)) v37 v38 v39 p q w4 w5 w6 w7 w8 w9 w10 w11 := by kernel_rfl
  rw [Qc.g1000016raw_eq] at h
  rw [h]
  simp only [ih, Qc.lem170000024]
  rfl
set_option maxRecDepth 100000 in
theorem Qc.lem11 (n : Nat) (x : ByteArray) : ∀ (k : Nat) (v37 : List ByteArray) (v38 : Int) (v39 : Int) (p : List ByteArray) (w3 : List YA) (w4 : List YC) (w5 : List YA) (w6 : List YA) (w7 : List YC) (w8 : List YA), Qc.LN11 n x k (Qc.st11 v37 v38 v39 p w3 w4 w5 w6 w7 w8) = Qc.l11 n k v37 v38 v39 p w3 w4 w5 w6 w7 w8 := by
 intro k
 induction k with
 | zero => intro v37 v38 v39 p w3 w4 w5 w6 w7 w8; rfl
 | succ k ih =>
  intro v37 v38 v39 p w3 w4 w5 w6 w7 w8
  have h : Qc.LN11 n x (k + 1) (Qc.st11 v37 v38 v39 p w3 w4 w5 w6 w7 w8) = Qc.g11 (fun v37 v38 v39 p q w4 w5 w6 w7 w8 w9 w10 w11 => Qc.LN1000016 n x (Qc.LN11 n x k) n (Qc.st1000016 v37 v38 v39 p q w4 w5 w6 w7 w8 w9 w10 w11)) (fun v37 v38 v39 p w3 w4 w5 w6 w7 w8 => Qc.LN11 n x k (Qc.st11 v37 v38 v39 p w3 w4 w5 w6 w7 w8)) v37 v38 v39 p w3 w4 w5 w6 w7 w8 := by kernel_rfl
  rw [h]
  simp only [ih, Qc.lem1000016]
  rfl
set_option maxRecDepth 100000 in
theorem Qc.body (n : Nat) (x : ByteArray) : bodyFR Qc.E Qc.I Qc.keep n Tryz.f33 Qc.con x = Qc.fn n x := by
 have h : bodyFR Qc.E Qc.I Qc.keep n Tryz.f33 Qc.con x = Qc.top (fun v37 v38 v39 p w3 w4 w5 w6 w7 w8 => Qc.LN11 n x n (Qc.st11 v37 v38 v39 p w3 w4 w5 w6 w7 w8)) x := by kernel_rfl
 rw [h]
 simp only [Qc.lem11]
 rfl
set_option maxRecDepth 100000 in
theorem Qc.good : Good Tryz.prog 33 Qc.con :=
 good_ofR tabok (cs := Qc.cs) ⟨Qx.good, QZ.good, Qd.good, Qak.good, QaS.good, Qz.good, Qay.good, Qf.good, Qa.good, QaH.good, Q4.good, Qar.good, Q9.good, Qas.good, Ql.good, QX.good, QB.good, QaX.good, Qac.good, Qat.good, trivial⟩ 0 false (fn := Tryz.f33) Tryz.func33 rfl (by decide) (by simp [Qc.con]) Qc.keep NN (fun _ => rfl) Qc.hI (fun x => Qc.body NN x)
end
end Go.Ev.Tryz

namespace Go.Ev.Tryz
open Go.Proofs Go.Pl
set_option linter.unusedVariables false
noncomputable section
def Qax.con : Con := { ps := [(.val, .str)], rs := [(.own, (.pair (.sl 70 (.pair (.int .i64) (.pair .str (.int .i64)))) (.pair (.sl 72 (.pair (.int .i64) (.int .i64))) (.sl 74 (.pair (.int .i64) (.pair .str (.int .i64))))))), (.own, (.int .i64))], F := fun x => Qax.f x }
def Qax.cs : List (FuncId × Con) := [(33, Qc.con)]
def Qax.E : Env := envOf tab Qax.cs 0 false
def Qax.keep (i : Nat) : List Nat := []
set_option maxRecDepth 100000 in
theorem Qax.body (n : Nat) (x : ByteArray) : bodyF Qax.E Qax.keep n Tryz.f19 Qax.con x = Qax.fn n x := by
 have h : bodyF Qax.E Qax.keep n Tryz.f19 Qax.con x = Qax.top x := by kernel_rfl
 exact h
set_option maxRecDepth 100000 in
theorem Qax.good : Good Tryz.prog 19 Qax.con :=
 good_of tabok (cs := Qax.cs) ⟨Qc.good, trivial⟩ 0 false (fn := Tryz.f19) Tryz.func19 rfl (by decide) (by simp [Qax.con]) Qax.keep NN (fun _ => rfl) (fun x => Qax.body NN x)
end
end Go.Ev.Tryz

namespace Go.Ev.Tryz
open Go.Proofs Go.Pl
set_option linter.unusedVariables false
noncomputable section
def Qba.con : Con := { ps := [(.val, (.pair (.int .i64) (.pair .str (.int .i64)))), (.val, (.pair (.int .i64) (.pair .str (.int .i64))))], rs := [(.val, .bool)], F := fun x => Qba.f x.1 x.2 }
def Qba.cs : List (FuncId × Con) := []
def Qba.E : Env := envOf tab Qba.cs 0 false
def Qba.keep (i : Nat) : List Nat := []
set_option maxRecDepth 100000 in
theorem Qba.body (n : Nat) (x : YA × Int × ByteArray × Int) : bodyF Qba.E Qba.keep n Tryz.f77 Qba.con x = Qba.fn n x.1 x.2 := by
 have h : bodyF Qba.E Qba.keep n Tryz.f77 Qba.con x = Qba.top x.1 x.2 := by kernel_rfl
 exact h
set_option maxRecDepth 100000 in
theorem Qba.good : Good Tryz.prog 77 Qba.con :=
 good_of tabok (cs := Qba.cs) trivial 0 false (fn := Tryz.f77) Tryz.func77 rfl (by decide) (by simp [Qba.con]) Qba.keep NN (fun _ => rfl) (fun x => Qba.body NN x)
end
end Go.Ev.Tryz

namespace Go.Ev.Tryz
open Go.Proofs Go.Pl
set_option linter.unusedVariables false
noncomputable section
def Q1.st4 (a0 : List YA) (b1 : List YA) (i5 : Int) : St := ⟨[.dat (.sl 70 (.pair (.int .i64) (.pair .str (.int .i64)))) a0, .dat (.sl 70 (.pair (.int .i64) (.pair .str (.int .i64)))) b1, .gone, .gone, .gone, .dat (.int .i64) i5, .gone, .gone, .gone, .gone, .gone, .gone, .gone, .gone, .gone, .gone, .gone, .gone, .gone, .gone, .gone, .gone, .gone, .gone, .gone, .gone, .gone], []⟩
def Q1.con : Con := { ps := [(.val, (.sl 70 (.pair (.int .i64) (.pair .str (.int .i64))))), (.val, (.sl 70 (.pair (.int .i64) (.pair .str (.int .i64)))))], rs := [(.val, .bool)], F := fun x => Q1.f x.1 x.2 }
def Q1.cs : List (FuncId × Con) := [(77, Qba.con)]
def Q1.E : Env := envOf tab Q1.cs 0 false
def Q1.keep (i : Nat) : List Nat := if i = 4 then [0, 1, 5] else []
def Q1.at4 (n : Nat) (x : YD × List YA) : Code × (Ex → St → Option (Bool)) := ctx Q1.E Q1.keep n [.snd, .snd, .fst, .snd, .blk] (codeOf Tryz.f42) (kEnd Q1.E Tryz.f42 Q1.con x)
def Q1.LN4 (n : Nat) (x : YD × List YA) : Nat → St → Option (Bool) := loopN (exec Q1.E Q1.keep n (bodyOf (Q1.at4 n x).1)) (St.norm 0 (Q1.keep 4)) (Q1.at4 n x).2
set_option maxRecDepth 100000 in
theorem Q1.lem4 (n : Nat) (x : YD × List YA) : ∀ (k : Nat) (a0 : List YA) (b1 : List YA) (i5 : Int), Q1.LN4 n x k (Q1.st4 a0 b1 i5) = Q1.l4 n k a0 b1 i5 := by
 intro k
 induction k with
 | zero => intro a0 b1 i5; rfl
 | succ k ih =>
  intro a0 b1 i5
  have h : Q1.LN4 n x (k + 1) (Q1.st4 a0 b1 i5) = Q1.g4 (fun a0 b1 i5 => Q1.LN4 n x k (Q1.st4 a0 b1 i5)) a0 b1 i5 := by kernel_rfl
  rw [h]
  simp only [ih]
  rfl
set_option maxRecDepth 100000 in
theorem Q1.body (n : Nat) (x : YD × List YA) : bodyF Q1.E Q1.keep n Tryz.f42 Q1.con x = Q1.fn n x.1 x.2 := by
 have h : bodyF Q1.E Q1.keep n Tryz.f42 Q1.con x = Q1.top (fun a0 b1 i5 => Q1.LN4 n x n (Q1.st4 a0 b1 i5)) x.1 x.2 := by kernel_rfl
 rw [h]
 simp only [Q1.lem4]
 rfl
set_option maxRecDepth 100000 in
theorem Q1.good : Good Tryz.prog 42 Q1.con :=
 good_of tabok (cs := Q1.cs) ⟨Qba.good, trivial⟩ 0 false (fn := Tryz.f42) Tryz.func42 rfl (by decide) (by simp [Q1.con]) Q1.keep NN (fun _ => rfl) (fun x => Q1.body NN x)
end
end Go.Ev.Tryz

namespace Go.Ev.Tryz
open Go.Proofs Go.Pl
set_option linter.unusedVariables false
noncomputable section
def QaP.con : Con := { ps := [(.val, (.pair (.int .i64) (.int .i64))), (.val, (.pair (.int .i64) (.int .i64)))], rs := [(.val, .bool)], F := fun x => QaP.f x.1 x.2 }
def QaP.cs : List (FuncId × Con) := []
def QaP.E : Env := envOf tab QaP.cs 0 false
def QaP.keep (i : Nat) : List Nat := []
set_option maxRecDepth 100000 in
theorem QaP.body (n : Nat) (x : YC × Int × Int) : bodyF QaP.E QaP.keep n Tryz.f78 QaP.con x = QaP.fn n x.1 x.2 := by
 have h : bodyF QaP.E QaP.keep n Tryz.f78 QaP.con x = QaP.top x.1 x.2 := by kernel_rfl
 exact h
set_option maxRecDepth 100000 in
theorem QaP.good : Good Tryz.prog 78 QaP.con :=
 good_of tabok (cs := QaP.cs) trivial 0 false (fn := Tryz.f78) Tryz.func78 rfl (by decide) (by simp [QaP.con]) QaP.keep NN (fun _ => rfl) (fun x => QaP.body NN x)
end
end Go.Ev.Tryz

namespace Go.Ev.Tryz
open Go.Proofs Go.Pl
set_option linter.unusedVariables false
noncomputable section
def QG.st4 (a0 : List YC) (b1 : List YC) (i5 : Int) : St := ⟨[.dat (.sl 72 (.pair (.int .i64) (.int .i64))) a0, .dat (.sl 72 (.pair (.int .i64) (.int .i64))) b1, .gone, .gone, .gone, .dat (.int .i64) i5, .gone, .gone, .gone, .gone, .gone, .gone, .gone, .gone, .gone, .gone, .gone, .gone, .gone, .gone, .gone, .gone, .gone, .gone, .gone, .gone, .gone], []⟩
def QG.con : Con := { ps := [(.val, (.sl 72 (.pair (.int .i64) (.int .i64)))), (.val, (.sl 72 (.pair (.int .i64) (.int .i64))))], rs := [(.val, .bool)], F := fun x => QG.f x.1 x.2 }
def QG.cs : List (FuncId × Con) := [(78, QaP.con)]
def QG.E : Env := envOf tab QG.cs 0 false
def QG.keep (i : Nat) : List Nat := if i = 4 then [0, 1, 5] else []
def QG.at4 (n : Nat) (x : YE × List YC) : Code × (Ex → St → Option (Bool)) := ctx QG.E QG.keep n [.snd, .snd, .fst, .snd, .blk] (codeOf Tryz.f43) (kEnd QG.E Tryz.f43 QG.con x)
def QG.LN4 (n : Nat) (x : YE × List YC) : Nat → St → Option (Bool) := loopN (exec QG.E QG.keep n (bodyOf (QG.at4 n x).1)) (St.norm 0 (QG.keep 4)) (QG.at4 n x).2
set_option maxRecDepth 100000 in
theorem QG.lem4 (n : Nat) (x : YE × List YC) : ∀ (k : Nat) (a0 : List YC) (b1 : List YC) (i5 : Int), QG.LN4 n x k (QG.st4 a0 b1 i5) = QG.l4 n k a0 b1 i5 := by
 intro k
 induction k with
 | zero => intro a0 b1 i5; rfl
 | succ k ih =>
  intro a0 b1 i5
  have h : QG.LN4 n x (k + 1) (QG.st4 a0 b1 i5) = QG.g4 (fun a0 b1 i5 => QG.LN4 n x k (QG.st4 a0 b1 i5)) a0 b1 i5 := by kernel_rfl
  rw [h]
  simp only [ih]
  rfl
set_option maxRecDepth 100000 in
theorem QG.body (n : Nat) (x : YE × List YC) : bodyF QG.E QG.keep n Tryz.f43 QG.con x = QG.fn n x.1 x.2 := by
 have h : bodyF QG.E QG.keep n Tryz.f43 QG.con x = QG.top (fun a0 b1 i5 => QG.LN4 n x n (QG.st4 a0 b1 i5)) x.1 x.2 := by kernel_rfl
 rw [h]
 simp only [QG.lem4]
 rfl
set_option maxRecDepth 100000 in
theorem QG.good : Good Tryz.prog 43 QG.con :=
 good_of tabok (cs := QG.cs) ⟨QaP.good, trivial⟩ 0 false (fn := Tryz.f43) Tryz.func43 rfl (by decide) (by simp [QG.con]) QG.keep NN (fun _ => rfl) (fun x => QG.body NN x)
end
end Go.Ev.Tryz

namespace Go.Ev.Tryz
open Go.Proofs Go.Pl
set_option linter.unusedVariables false
noncomputable section
def QaC.con : Con := { ps := [(.val, (.pair (.int .i64) (.pair .str (.int .i64)))), (.val, (.pair (.int .i64) (.pair .str (.int .i64))))], rs := [(.val, .bool)], F := fun x => QaC.f x.1 x.2 }
def QaC.cs : List (FuncId × Con) := []
def QaC.E : Env := envOf tab QaC.cs 0 false
def QaC.keep (i : Nat) : List Nat := []
set_option maxRecDepth 100000 in
theorem QaC.body (n : Nat) (x : YA × Int × ByteArray × Int) : bodyF QaC.E QaC.keep n Tryz.f79 QaC.con x = QaC.fn n x.1 x.2 := by
 have h : bodyF QaC.E QaC.keep n Tryz.f79 QaC.con x = QaC.top x.1 x.2 := by kernel_rfl
 exact h
set_option maxRecDepth 100000 in
theorem QaC.good : Good Tryz.prog 79 QaC.con :=
 good_of tabok (cs := QaC.cs) trivial 0 false (fn := Tryz.f79) Tryz.func79 rfl (by decide) (by simp [QaC.con]) QaC.keep NN (fun _ => rfl) (fun x => QaC.body NN x)
end
end Go.Ev.Tryz

namespace Go.Ev.Tryz
open Go.Proofs Go.Pl
set_option linter.unusedVariables false
noncomputable section
def Qw.st4 (a0 : List YA) (b1 : List YA) (i5 : Int) : St := ⟨[.dat (.sl 74 (.pair (.int .i64) (.pair .str (.int .i64)))) a0, .dat (.sl 74 (.pair (.int .i64) (.pair .str (.int .i64)))) b1, .gone, .gone, .gone, .dat (.int .i64) i5, .gone, .gone, .gone, .gone, .gone, .gone, .gone, .gone, .gone, .gone, .gone, .gone, .gone, .gone, .gone, .gone, .gone, .gone, .gone, .gone, .gone], []⟩
def Qw.con : Con := { ps := [(.val, (.sl 74 (.pair (.int .i64) (.pair .str (.int .i64))))), (.val, (.sl 74 (.pair (.int .i64) (.pair .str (.int .i64)))))], rs := [(.val, .bool)], F := fun x => Qw.f x.1 x.2 }
def Qw.cs : List (FuncId × Con) := [(79, QaC.con)]
def Qw.E : Env := envOf tab Qw.cs 0 false
def Qw.keep (i : Nat) : List Nat := if i = 4 then [0, 1, 5] else []
def Qw.at4 (n : Nat) (x : YD × List YA) : Code × (Ex → St → Option (Bool)) := ctx Qw.E Qw.keep n [.snd, .snd, .fst, .snd, .blk] (codeOf Tryz.f44) (kEnd Qw.E Tryz.f44 Qw.con x)
def Qw.LN4 (n : Nat) (x : YD × List YA) : Nat → St → Option (Bool) := loopN (exec Qw.E Qw.keep n (bodyOf (Qw.at4 n x).1)) (St.norm 0 (Qw.keep 4)) (Qw.at4 n x).2
set_option maxRecDepth 100000 in
theorem Qw.lem4 (n : Nat) (x : YD × List YA) : ∀ (k : Nat) (a0 : List YA) (b1 : List YA) (i5 : Int), Qw.LN4 n x k (Qw.st4 a0 b1 i5) = Qw.l4 n k a0 b1 i5 := by
 intro k
 induction k with
 | zero => intro a0 b1 i5; rfl
 | succ k ih =>
  intro a0 b1 i5
  have h : Qw.LN4 n x (k + 1) (Qw.st4 a0 b1 i5) = Qw.g4 (fun a0 b1 i5 => Qw.LN4 n x k (Qw.st4 a0 b1 i5)) a0 b1 i5 := by kernel_rfl
  rw [h]
  simp only [ih]
  rfl
set_option maxRecDepth 100000 in
theorem Qw.body (n : Nat) (x : YD × List YA) : bodyF Qw.E Qw.keep n Tryz.f44 Qw.con x = Qw.fn n x.1 x.2 := by
 have h : bodyF Qw.E Qw.keep n Tryz.f44 Qw.con x = Qw.top (fun a0 b1 i5 => Qw.LN4 n x n (Qw.st4 a0 b1 i5)) x.1 x.2 := by kernel_rfl
 rw [h]
 simp only [Qw.lem4]
 rfl
set_option maxRecDepth 100000 in
theorem Qw.good : Good Tryz.prog 44 Qw.con :=
 good_of tabok (cs := Qw.cs) ⟨QaC.good, trivial⟩ 0 false (fn := Tryz.f44) Tryz.func44 rfl (by decide) (by simp [Qw.con]) Qw.keep NN (fun _ => rfl) (fun x => Qw.body NN x)
end
end Go.Ev.Tryz

namespace Go.Ev.Tryz
open Go.Proofs Go.Pl
set_option linter.unusedVariables false
noncomputable section
def Qa9.con : Con := { ps := [(.val, (.pair (.sl 70 (.pair (.int .i64) (.pair .str (.int .i64)))) (.pair (.sl 72 (.pair (.int .i64) (.int .i64))) (.sl 74 (.pair (.int .i64) (.pair .str (.int .i64))))))), (.val, (.pair (.sl 70 (.pair (.int .i64) (.pair .str (.int .i64)))) (.pair (.sl 72 (.pair (.int .i64) (.int .i64))) (.sl 74 (.pair (.int .i64) (.pair .str (.int .i64)))))))], rs := [(.val, .bool)], F := fun x => Qa9.f x.1 x.2 }
def Qa9.cs : List (FuncId × Con) := [(42, Q1.con), (43, QG.con), (44, Qw.con)]
def Qa9.E : Env := envOf tab Qa9.cs 0 false
def Qa9.keep (i : Nat) : List Nat := []
set_option maxRecDepth 100000 in
theorem Qa9.body (n : Nat) (x : YF × YD × YE × List YA) : bodyF Qa9.E Qa9.keep n Tryz.f20 Qa9.con x = Qa9.fn n x.1 x.2 := by
 have h : bodyF Qa9.E Qa9.keep n Tryz.f20 Qa9.con x = Qa9.top x.1 x.2 := by kernel_rfl
 exact h
set_option maxRecDepth 100000 in
theorem Qa9.good : Good Tryz.prog 20 Qa9.con :=
 good_of tabok (cs := Qa9.cs) ⟨Q1.good, QG.good, Qw.good, trivial⟩ 0 false (fn := Tryz.f20) Tryz.func20 rfl (by decide) (by simp [Qa9.con]) Qa9.keep NN (fun _ => rfl) (fun x => Qa9.body NN x)
end
end Go.Ev.Tryz

namespace Go.Ev.Tryz
open Go.Proofs Go.Pl
set_option linter.unusedVariables false
noncomputable section
def Qy.st4 (k0 : Int) (p : ByteArray) : St := ⟨[.dat (.int .i64) k0, .gone, .gone, .dat .str p, .gone, .gone, .gone, .gone, .gone, .gone, .gone, .gone, .gone, .gone, .gone, .gone, .gone, .gone, .gone, .gone], []⟩
def Qy.con : Con := { ps := [(.val, (.int .i64))], rs := [(.val, .str)], F := fun x => Qy.f x }
def Qy.cs : List (FuncId × Con) := []
def Qy.E : Env := envOf tab Qy.cs 0 false
def Qy.keep (i : Nat) : List Nat := if i = 4 then [0, 3] else []
def Qy.at4 (n : Nat) (x : Int) : Code × (Ex → St → Option (ByteArray)) := ctx Qy.E Qy.keep n [.snd, .snd, .snd, .fst, .blk] (codeOf Tryz.f34) (kEnd Qy.E Tryz.f34 Qy.con x)
def Qy.LN4 (n : Nat) (x : Int) : Nat → St → Option (ByteArray) := loopN (exec Qy.E Qy.keep n (bodyOf (Qy.at4 n x).1)) (St.norm 0 (Qy.keep 4)) (Qy.at4 n x).2
set_option maxRecDepth 100000 in
theorem Qy.lem4 (n : Nat) (x : Int) : ∀ (k : Nat) (k0 : Int) (p : ByteArray), Qy.LN4 n x k (Qy.st4 k0 p) = Qy.l4 n k k0 p := by
 intro k
 induction k with
 | zero => intro k0 p; rfl
 | succ k ih =>
  intro k0 p
  have h : Qy.LN4 n x (k + 1) (Qy.st4 k0 p) = Qy.g4 (fun k0 p => Qy.LN4 n x k (Qy.st4 k0 p)) k0 p := by kernel_rfl
  rw [h]
  simp only [ih]
  rfl
set_option maxRecDepth 100000 in
theorem Qy.body (n : Nat) (x : Int) : bodyF Qy.E Qy.keep n Tryz.f34 Qy.con x = Qy.fn n x := by
 have h : bodyF Qy.E Qy.keep n Tryz.f34 Qy.con x = Qy.top (fun k0 p => Qy.LN4 n x n (Qy.st4 k0 p)) x := by kernel_rfl
 rw [h]
 simp only [Qy.lem4]
 rfl
set_option maxRecDepth 100000 in
theorem Qy.good : Good Tryz.prog 34 Qy.con :=
 good_of tabok (cs := Qy.cs) trivial 0 false (fn := Tryz.f34) Tryz.func34 rfl (by decide) (by simp [Qy.con]) Qy.keep NN (fun _ => rfl) (fun x => Qy.body NN x)
end
end Go.Ev.Tryz

namespace Go.Ev.Tryz
open Go.Proofs Go.Pl
set_option linter.unusedVariables false
noncomputable section
def QM.st2 (k1 : Int) (i5 : Int) (a0 : List YA) : St := ⟨[.ref 0, .dat (.int .i64) k1, .gone, .gone, .gone, .dat (.int .i64) i5, .gone, .gone, .gone, .gone, .gone, .gone, .gone, .gone, .gone, .gone, .gone, .gone, .gone, .gone, .gone, .gone, .gone, .gone, .gone, .gone, .gone, .gone, .gone, .gone, .gone, .gone, .gone, .gone, .gone], [.row 70 (.pair (.int .i64) (.pair .str (.int .i64))) a0 none]⟩
def QM.con : Con := { ps := [(.own, (.sl 70 (.pair (.int .i64) (.pair .str (.int .i64))))), (.val, (.int .i64))], rs := [(.val, (.int .i64))], F := fun x => QM.f x.1 x.2 }
def QM.cs : List (FuncId × Con) := [(34, Qy.con)]
def QM.E : Env := envOf tab QM.cs 1 false
def QM.keep (i : Nat) : List Nat := if i = 2 then [0, 1, 5] else []
def QM.at2 (n : Nat) (x : YD × Int) : Code × (Ex → St → Option (YAA)) := ctx QM.E QM.keep n [.snd, .fst, .snd, .blk] (codeOf Tryz.f45) (kEnd QM.E Tryz.f45 QM.con x)
def QM.LN2 (n : Nat) (x : YD × Int) : Nat → St → Option (YAA) := loopN (exec QM.E QM.keep n (bodyOf (QM.at2 n x).1)) (St.norm 1 (QM.keep 2)) (QM.at2 n x).2
set_option maxRecDepth 100000 in
theorem QM.lem2 (n : Nat) (x : YD × Int) : ∀ (k : Nat) (k1 : Int) (i5 : Int) (a0 : List YA), QM.LN2 n x k (QM.st2 k1 i5 a0) = QM.l2 n k k1 i5 a0 := by
 intro k
 induction k with
 | zero => intro k1 i5 a0; rfl
 | succ k ih =>
  intro k1 i5 a0
  have h : QM.LN2 n x (k + 1) (QM.st2 k1 i5 a0) = QM.g2 (fun k1 i5 a0 => QM.LN2 n x k (QM.st2 k1 i5 a0)) k1 i5 a0 := by kernel_rfl
  rw [h]
  simp only [ih]
  rfl
set_option maxRecDepth 100000 in
theorem QM.body (n : Nat) (x : YD × Int) : bodyF QM.E QM.keep n Tryz.f45 QM.con x = QM.fn n x.1 x.2 := by
 have h : bodyF QM.E QM.keep n Tryz.f45 QM.con x = QM.top (fun k1 i5 a0 => QM.LN2 n x n (QM.st2 k1 i5 a0)) x.1 x.2 := by kernel_rfl
 rw [h]
 simp only [QM.lem2]
 rfl
set_option maxRecDepth 100000 in
theorem QM.good : Good Tryz.prog 45 QM.con :=
 good_of tabok (cs := QM.cs) ⟨Qy.good, trivial⟩ 1 false (fn := Tryz.f45) Tryz.func45 rfl (by decide) (by simp [QM.con]) QM.keep NN (fun _ => rfl) (fun x => QM.body NN x)
end
end Go.Ev.Tryz

namespace Go.Ev.Tryz
open Go.Proofs Go.Pl
set_option linter.unusedVariables false
noncomputable section
def Qu.st2 (k1 : Int) (i5 : Int) (a0 : List YC) : St := ⟨[.ref 0, .dat (.int .i64) k1, .gone, .gone, .gone, .dat (.int .i64) i5, .gone, .gone, .gone, .gone, .gone, .gone, .gone, .gone, .gone, .gone, .gone, .gone, .gone, .gone, .gone, .gone, .gone, .gone, .gone, .gone, .gone], [.row 72 (.pair (.int .i64) (.int .i64)) a0 none]⟩
def Qu.con : Con := { ps := [(.own, (.sl 72 (.pair (.int .i64) (.int .i64)))), (.val, (.int .i64))], rs := [(.val, (.int .i64))], F := fun x => Qu.f x.1 x.2 }
def Qu.cs : List (FuncId × Con) := []
def Qu.E : Env := envOf tab Qu.cs 1 false
def Qu.keep (i : Nat) : List Nat := if i = 2 then [0, 1, 5] else []
def Qu.at2 (n : Nat) (x : YE × Int) : Code × (Ex → St → Option ((Int × List YC))) := ctx Qu.E Qu.keep n [.snd, .fst, .snd, .blk] (codeOf Tryz.f46) (kEnd Qu.E Tryz.f46 Qu.con x)
def Qu.LN2 (n : Nat) (x : YE × Int) : Nat → St → Option ((Int × List YC)) := loopN (exec Qu.E Qu.keep n (bodyOf (Qu.at2 n x).1)) (St.norm 1 (Qu.keep 2)) (Qu.at2 n x).2
set_option maxRecDepth 100000 in
theorem Qu.lem2 (n : Nat) (x : YE × Int) : ∀ (k : Nat) (k1 : Int) (i5 : Int) (a0 : List YC), Qu.LN2 n x k (Qu.st2 k1 i5 a0) = Qu.l2 n k k1 i5 a0 := by
 intro k
 induction k with
 | zero => intro k1 i5 a0; rfl
 | succ k ih =>
  intro k1 i5 a0
  have h : Qu.LN2 n x (k + 1) (Qu.st2 k1 i5 a0) = Qu.g2 (fun k1 i5 a0 => Qu.LN2 n x k (Qu.st2 k1 i5 a0)) k1 i5 a0 := by kernel_rfl
  rw [h]
  simp only [ih]
  rfl
set_option maxRecDepth 100000 in
theorem Qu.body (n : Nat) (x : YE × Int) : bodyF Qu.E Qu.keep n Tryz.f46 Qu.con x = Qu.fn n x.1 x.2 := by
 have h : bodyF Qu.E Qu.keep n Tryz.f46 Qu.con x = Qu.top (fun k1 i5 a0 => Qu.LN2 n x n (Qu.st2 k1 i5 a0)) x.1 x.2 := by kernel_rfl
 rw [h]
 simp only [Qu.lem2]
 rfl
set_option maxRecDepth 100000 in
theorem Qu.good : Good Tryz.prog 46 Qu.con :=
 good_of tabok (cs := Qu.cs) trivial 1 false (fn := Tryz.f46) Tryz.func46 rfl (by decide) (by simp [Qu.con]) Qu.keep NN (fun _ => rfl) (fun x => Qu.body NN x)
end
end Go.Ev.Tryz

namespace Go.Ev.Tryz
open Go.Proofs Go.Pl
set_option linter.unusedVariables false
noncomputable section
def Qp.st2 (k1 : Int) (i5 : Int) (a0 : List YA) : St := ⟨[.ref 0, .dat (.int .i64) k1, .gone, .gone, .gone, .dat (.int .i64) i5, .gone, .gone, .gone, .gone, .gone, .gone, .gone, .gone, .gone, .gone, .gone, .gone, .gone, .gone, .gone, .gone, .gone, .gone, .gone, .gone, .gone, .gone, .gone, .gone, .gone, .gone, .gone, .gone, .gone], [.row 74 (.pair (.int .i64) (.pair .str (.int .i64))) a0 none]⟩
def Qp.con : Con := { ps := [(.own, (.sl 74 (.pair (.int .i64) (.pair .str (.int .i64))))), (.val, (.int .i64))], rs := [(.val, (.int .i64))], F := fun x => Qp.f x.1 x.2 }
def Qp.cs : List (FuncId × Con) := [(34, Qy.con)]
def Qp.E : Env := envOf tab Qp.cs 1 false
def Qp.keep (i : Nat) : List Nat := if i = 2 then [0, 1, 5] else []
def Qp.at2 (n : Nat) (x : YD × Int) : Code × (Ex → St → Option (YAA)) := ctx Qp.E Qp.keep n [.snd, .fst, .snd, .blk] (codeOf Tryz.f47) (kEnd Qp.E Tryz.f47 Qp.con x)
def Qp.LN2 (n : Nat) (x : YD × Int) : Nat → St → Option (YAA) := loopN (exec Qp.E Qp.keep n (bodyOf (Qp.at2 n x).1)) (St.norm 1 (Qp.keep 2)) (Qp.at2 n x).2
set_option maxRecDepth 100000 in
theorem Qp.lem2 (n : Nat) (x : YD × Int) : ∀ (k : Nat) (k1 : Int) (i5 : Int) (a0 : List YA), Qp.LN2 n x k (Qp.st2 k1 i5 a0) = Qp.l2 n k k1 i5 a0 := by
 intro k
 induction k with
 | zero => intro k1 i5 a0; rfl
 | succ k ih =>
  intro k1 i5 a0
  have h : Qp.LN2 n x (k + 1) (Qp.st2 k1 i5 a0) = Qp.g2 (fun k1 i5 a0 => Qp.LN2 n x k (Qp.st2 k1 i5 a0)) k1 i5 a0 := by kernel_rfl
  rw [h]
  simp only [ih]
  rfl
set_option maxRecDepth 100000 in
theorem Qp.body (n : Nat) (x : YD × Int) : bodyF Qp.E Qp.keep n Tryz.f47 Qp.con x = Qp.fn n x.1 x.2 := by
 have h : bodyF Qp.E Qp.keep n Tryz.f47 Qp.con x = Qp.top (fun k1 i5 a0 => Qp.LN2 n x n (Qp.st2 k1 i5 a0)) x.1 x.2 := by kernel_rfl
 rw [h]
 simp only [Qp.lem2]
 rfl
set_option maxRecDepth 100000 in
theorem Qp.good : Good Tryz.prog 47 Qp.con :=
 good_of tabok (cs := Qp.cs) ⟨Qy.good, trivial⟩ 1 false (fn := Tryz.f47) Tryz.func47 rfl (by decide) (by simp [Qp.con]) Qp.keep NN (fun _ => rfl) (fun x => Qp.body NN x)
end
end Go.Ev.Tryz

namespace Go.Ev.Tryz
open Go.Proofs Go.Pl
set_option linter.unusedVariables false
noncomputable section
def QaQ.con : Con := { ps := [(.own, (.pair (.sl 70 (.pair (.int .i64) (.pair .str (.int .i64)))) (.pair (.sl 72 (.pair (.int .i64) (.int .i64))) (.sl 74 (.pair (.int .i64) (.pair .str (.int .i64))))))), (.val, (.int .i64))], rs := [(.val, (.int .i64))], F := fun x => QaQ.f x.1 x.2 }
def QaQ.cs : List (FuncId × Con) := [(45, QM.con), (46, Qu.con), (47, Qp.con)]
def QaQ.E : Env := envOf tab QaQ.cs 3 false
def QaQ.keep (i : Nat) : List Nat := []
set_option maxRecDepth 100000 in
theorem QaQ.body (n : Nat) (x : YF × Int) : bodyF QaQ.E QaQ.keep n Tryz.f21 QaQ.con x = QaQ.fn n x.1 x.2 := by
 have h : bodyF QaQ.E QaQ.keep n Tryz.f21 QaQ.con x = QaQ.top x.1 x.2 := by kernel_rfl
 exact h
set_option maxRecDepth 100000 in
theorem QaQ.good : Good Tryz.prog 21 QaQ.con :=
 good_of tabok (cs := QaQ.cs) ⟨QM.good, Qu.good, Qp.good, trivial⟩ 3 false (fn := Tryz.f21) Tryz.func21 rfl (by decide) (by simp [QaQ.con]) QaQ.keep NN (fun _ => rfl) (fun x => QaQ.body NN x)
end
end Go.Ev.Tryz

namespace Go.Ev.Tryz
open Go.Proofs Go.Pl
set_option linter.unusedVariables false
noncomputable section
def QL.st2 (a0 : List YA) (k1 : Int) (i5 : Int) : St := ⟨[.dat (.sl 70 (.pair (.int .i64) (.pair .str (.int .i64)))) a0, .dat (.int .i64) k1, .gone, .gone, .gone, .dat (.int .i64) i5, .gone, .gone, .gone, .gone, .gone, .gone, .gone, .gone, .gone, .gone, .gone, .gone, .gone, .gone, .gone, .gone, .gone, .gone, .gone, .gone, .gone, .gone, .gone, .gone, .gone, .gone, .gone, .gone, .gone, .gone, .gone, .gone, .gone, .gone, .gone], []⟩
def QL.con : Con := { ps := [(.val, (.sl 70 (.pair (.int .i64) (.pair .str (.int .i64))))), (.val, (.int .i64))], rs := [(.val, (.int .i64))], F := fun x => QL.f x.1 x.2 }
def QL.cs : List (FuncId × Con) := [(34, Qy.con)]
def QL.E : Env := envOf tab QL.cs 0 false
def QL.keep (i : Nat) : List Nat := if i = 2 then [0, 1, 5] else []
def QL.at2 (n : Nat) (x : YD × Int) : Code × (Ex → St → Option (Int)) := ctx QL.E QL.keep n [.snd, .fst, .snd, .blk] (codeOf Tryz.f48) (kEnd QL.E Tryz.f48 QL.con x)
def QL.LN2 (n : Nat) (x : YD × Int) : Nat → St → Option (Int) := loopN (exec QL.E QL.keep n (bodyOf (QL.at2 n x).1)) (St.norm 0 (QL.keep 2)) (QL.at2 n x).2
set_option maxRecDepth 100000 in
theorem QL.lem2 (n : Nat) (x : YD × Int) : ∀ (k : Nat) (a0 : List YA) (k1 : Int) (i5 : Int), QL.LN2 n x k (QL.st2 a0 k1 i5) = QL.l2 n k a0 k1 i5 := by
 intro k
 induction k with
 | zero => intro a0 k1 i5; rfl
 | succ k ih =>
  intro a0 k1 i5
  have h : QL.LN2 n x (k + 1) (QL.st2 a0 k1 i5) = QL.g2 (fun a0 k1 i5 => QL.LN2 n x k (QL.st2 a0 k1 i5)) a0 k1 i5 := by kernel_rfl
  rw [h]
  simp only [ih]
  rfl
set_option maxRecDepth 100000 in
theorem QL.body (n : Nat) (x : YD × Int) : bodyF QL.E QL.keep n Tryz.f48 QL.con x = QL.fn n x.1 x.2 := by
 have h : bodyF QL.E QL.keep n Tryz.f48 QL.con x = QL.top (fun a0 k1 i5 => QL.LN2 n x n (QL.st2 a0 k1 i5)) x.1 x.2 := by kernel_rfl
 rw [h]
 simp only [QL.lem2]
 rfl
set_option maxRecDepth 100000 in
theorem QL.good : Good Tryz.prog 48 QL.con :=
 good_of tabok (cs := QL.cs) ⟨Qy.good, trivial⟩ 0 false (fn := Tryz.f48) Tryz.func48 rfl (by decide) (by simp [QL.con]) QL.keep NN (fun _ => rfl) (fun x => QL.body NN x)
end
end Go.Ev.Tryz

namespace Go.Ev.Tryz
open Go.Proofs Go.Pl
set_option linter.unusedVariables false
noncomputable section
def Qt.st2 (a0 : List YC) (k1 : Int) (i5 : Int) : St := ⟨[.dat (.sl 72 (.pair (.int .i64) (.int .i64))) a0, .dat (.int .i64) k1, .gone, .gone, .gone, .dat (.int .i64) i5, .gone, .gone, .gone, .gone, .gone, .gone, .gone, .gone, .gone, .gone, .gone, .gone, .gone, .gone, .gone, .gone, .gone, .gone, .gone, .gone, .gone, .gone, .gone, .gone, .gone], []⟩
def Qt.con : Con := { ps := [(.val, (.sl 72 (.pair (.int .i64) (.int .i64)))), (.val, (.int .i64))], rs := [(.val, (.int .i64))], F := fun x => Qt.f x.1 x.2 }
def Qt.cs : List (FuncId × Con) := []
def Qt.E : Env := envOf tab Qt.cs 0 false
def Qt.keep (i : Nat) : List Nat := if i = 2 then [0, 1, 5] else []
def Qt.at2 (n : Nat) (x : YE × Int) : Code × (Ex → St → Option (Int)) := ctx Qt.E Qt.keep n [.snd, .fst, .snd, .blk] (codeOf Tryz.f49) (kEnd Qt.E Tryz.f49 Qt.con x)
def Qt.LN2 (n : Nat) (x : YE × Int) : Nat → St → Option (Int) := loopN (exec Qt.E Qt.keep n (bodyOf (Qt.at2 n x).1)) (St.norm 0 (Qt.keep 2)) (Qt.at2 n x).2
set_option maxRecDepth 100000 in
theorem Qt.lem2 (n : Nat) (x : YE × Int) : ∀ (k : Nat) (a0 : List YC) (k1 : Int) (i5 : Int), Qt.LN2 n x k (Qt.st2 a0 k1 i5) = Qt.l2 n k a0 k1 i5 := by
 intro k
 induction k with
 | zero => intro a0 k1 i5; rfl
 | succ k ih =>
  intro a0 k1 i5
  have h : Qt.LN2 n x (k + 1) (Qt.st2 a0 k1 i5) = Qt.g2 (fun a0 k1 i5 => Qt.LN2 n x k (Qt.st2 a0 k1 i5)) a0 k1 i5 := by kernel_rfl
  rw [h]
  simp only [ih]
  rfl
set_option maxRecDepth 100000 in
theorem Qt.body (n : Nat) (x : YE × Int) : bodyF Qt.E Qt.keep n Tryz.f49 Qt.con x = Qt.fn n x.1 x.2 := by
 have h : bodyF Qt.E Qt.keep n Tryz.f49 Qt.con x = Qt.top (fun a0 k1 i5 => Qt.LN2 n x n (Qt.st2 a0 k1 i5)) x.1 x.2 := by kernel_rfl
 rw [h]
 simp only [Qt.lem2]
 rfl
set_option maxRecDepth 100000 in
theorem Qt.good : Good Tryz.prog 49 Qt.con :=
 good_of tabok (cs := Qt.cs) trivial 0 false (fn := Tryz.f49) Tryz.func49 rfl (by decide) (by simp [Qt.con]) Qt.keep NN (fun _ => rfl) (fun x => Qt.body NN x)
end
end Go.Ev.Tryz

namespace Go.Ev.Tryz
open Go.Proofs Go.Pl
set_option linter.unusedVariables false
noncomputable section
def Qo.st2 (a0 : List YA) (k1 : Int) (i5 : Int) : St := ⟨[.dat (.sl 74 (.pair (.int .i64) (.pair .str (.int .i64)))) a0, .dat (.int .i64) k1, .gone, .gone, .gone, .dat (.int .i64) i5, .gone, .gone, .gone, .gone, .gone, .gone, .gone, .gone, .gone, .gone, .gone, .gone, .gone, .gone, .gone, .gone, .gone, .gone, .gone, .gone, .gone, .gone, .gone, .gone, .gone, .gone, .gone, .gone, .gone, .gone, .gone, .gone, .gone, .gone, .gone], []⟩
def Qo.con : Con := { ps := [(.val, (.sl 74 (.pair (.int .i64) (.pair .str (.int .i64))))), (.val, (.int .i64))], rs := [(.val, (.int .i64))], F := fun x => Qo.f x.1 x.2 }
def Qo.cs : List (FuncId × Con) := [(34, Qy.con)]
def Qo.E : Env := envOf tab Qo.cs 0 false
def Qo.keep (i : Nat) : List Nat := if i = 2 then [0, 1, 5] else []
def Qo.at2 (n : Nat) (x : YD × Int) : Code × (Ex → St → Option (Int)) := ctx Qo.E Qo.keep n [.snd, .fst, .snd, .blk] (codeOf Tryz.f50) (kEnd Qo.E Tryz.f50 Qo.con x)
def Qo.LN2 (n : Nat) (x : YD × Int) : Nat → St → Option (Int) := loopN (exec Qo.E Qo.keep n (bodyOf (Qo.at2 n x).1)) (St.norm 0 (Qo.keep 2)) (Qo.at2 n x).2
set_option maxRecDepth 100000 in
theorem Qo.lem2 (n : Nat) (x : YD × Int) : ∀ (k : Nat) (a0 : List YA) (k1 : Int) (i5 : Int), Qo.LN2 n x k (Qo.st2 a0 k1 i5) = Qo.l2 n k a0 k1 i5 := by
 intro k
 induction k with
 | zero => intro a0 k1 i5; rfl
 | succ k ih =>
  intro a0 k1 i5
  have h : Qo.LN2 n x (k + 1) (Qo.st2 a0 k1 i5) = Qo.g2 (fun a0 k1 i5 => Qo.LN2 n x k (Qo.st2 a0 k1 i5)) a0 k1 i5 := by kernel_rfl
  rw [h]
  simp only [ih]
  rfl
set_option maxRecDepth 100000 in
theorem Qo.body (n : Nat) (x : YD × Int) : bodyF Qo.E Qo.keep n Tryz.f50 Qo.con x = Qo.fn n x.1 x.2 := by
 have h : bodyF Qo.E Qo.keep n Tryz.f50 Qo.con x = Qo.top (fun a0 k1 i5 => Qo.LN2 n x n (Qo.st2 a0 k1 i5)) x.1 x.2 := by kernel_rfl
 rw [h]
 simp only [Qo.lem2]
 rfl
set_option maxRecDepth 100000 in
theorem Qo.good : Good Tryz.prog 50 Qo.con :=
 good_of tabok (cs := Qo.cs) ⟨Qy.good, trivial⟩ 0 false (fn := Tryz.f50) Tryz.func50 rfl (by decide) (by simp [Qo.con]) Qo.keep NN (fun _ => rfl) (fun x => Qo.body NN x)
end
end Go.Ev.Tryz

namespace Go.Ev.Tryz
open Go.Proofs Go.Pl
set_option linter.unusedVariables false
noncomputable section
def QaL.con : Con := { ps := [(.val, (.pair (.sl 70 (.pair (.int .i64) (.pair .str (.int .i64)))) (.pair (.sl 72 (.pair (.int .i64) (.int .i64))) (.sl 74 (.pair (.int .i64) (.pair .str (.int .i64))))))), (.val, (.int .i64))], rs := [(.val, (.int .i64))], F := fun x => QaL.f x.1 x.2 }
def QaL.cs : List (FuncId × Con) := [(48, QL.con), (49, Qt.con), (50, Qo.con)]
def QaL.E : Env := envOf tab QaL.cs 0 false
def QaL.keep (i : Nat) : List Nat := []
set_option maxRecDepth 100000 in
theorem QaL.body (n : Nat) (x : YF × Int) : bodyF QaL.E QaL.keep n Tryz.f22 QaL.con x = QaL.fn n x.1 x.2 := by
 have h : bodyF QaL.E QaL.keep n Tryz.f22 QaL.con x = QaL.top x.1 x.2 := by kernel_rfl
 exact h
set_option maxRecDepth 100000 in
theorem QaL.good : Good Tryz.prog 22 QaL.con :=
 good_of tabok (cs := QaL.cs) ⟨QL.good, Qt.good, Qo.good, trivial⟩ 0 false (fn := Tryz.f22) Tryz.func22 rfl (by decide) (by simp [QaL.con]) QaL.keep NN (fun _ => rfl) (fun x => QaL.body NN x)
end
end Go.Ev.Tryz

namespace Go.Ev.Tryz
open Go.Proofs Go.Pl
set_option linter.unusedVariables false
noncomputable section
def Qah.con : Con := { ps := [(.val, .str)], rs := [(.val, .bool)], F := fun x => Qah.f x }
def Qah.cs : List (FuncId × Con) := [(18, QaA.con), (19, Qax.con), (20, Qa9.con), (21, QaQ.con), (22, QaL.con)]
def Qah.E : Env := envOf tab Qah.cs 0 false
def Qah.keep (i : Nat) : List Nat := []
set_option maxRecDepth 100000 in
theorem Qah.body (n : Nat) (x : ByteArray) : bodyF Qah.E Qah.keep n Tryz.f5 Qah.con x = Qah.fn n x := by
 have h : bodyF Qah.E Qah.keep n Tryz.f5 Qah.con x = Qah.top x := by kernel_rfl
 exact h
set_option maxRecDepth 100000 in
theorem Qah.good : Good Tryz.prog 5 Qah.con :=
 good_of tabok (cs := Qah.cs) ⟨QaA.good, Qax.good, Qa9.good, QaQ.good, QaL.good, trivial⟩ 0 false (fn := Tryz.f5) Tryz.func5 rfl (by decide) (by simp [Qah.con]) Qah.keep NN (fun _ => rfl) (fun x => Qah.body NN x)
end
end Go.Ev.Tryz

namespace Go.Pl
open Go.Ev
set_option linter.unusedVariables false
set_option linter.unusedSimpArgs false
def OkMove (x : Int × ByteArray × Int) : Prop := Rg .i64 x.1 ∧ Sm x.2.1 ∧ Rg .i64 x.2.2
def OkSignal (x : Int × Int) : Prop := Rg .i64 x.1 ∧ Rg .i64 x.2
def OkBooking (x : Int × ByteArray × Int) : Prop := Rg .i64 x.1 ∧ Sm x.2.1 ∧ Rg .i64 x.2.2
def OkDesk (x : (List (Int × ByteArray × Int)) × (List (Int × Int)) × (List (Int × ByteArray × Int))) : Prop := Lm OkMove x.1 ∧ Lm OkSignal x.2.1 ∧ Lm OkBooking x.2.2
end Go.Pl

namespace Go.Pl
open Go.Ev
set_option linter.unusedVariables false
set_option linter.unusedSimpArgs false
theorem QbZ (a : Int × ByteArray × Int) : QaC.f a a = some true := by
 unfold QaC.f QaC.fn QaC.top
 simp []
end Go.Pl

namespace Go.Pl
open Go.Ev
set_option linter.unusedVariables false
set_option linter.unusedSimpArgs false
theorem QbW (a : List (Int × ByteArray × Int)) (hl : a.length ≤ 140737488355328) : Qw.f a a = some true := by
 unfold Qw.f Qw.fn Qw.top
 simp only [bne_self_eq_false, Bool.false_eq_true, if_false]
 refine eqS_loop (E := fun _ => True) (fun k a b i => Qw.l4 NN k a b i) a (fun _ _ => trivial) ?_ ?_ NN (NN_lt (by omega))
 ·intro k p x r hx ha
  subst ha
  show Qw.g4 (Qw.l4 NN k) (p ++ x :: r) (p ++ x :: r) p.length = _
  unfold Qw.g4
  have hm := mid_len p r x
  have c1 : (p.length : Int) < ((p ++ x :: r).length : Int) := by omega
  have c0 : (0 : Int) ≤ (p.length : Int) := by omega
  have cw := w64 (n := (p.length : Int) + 1) (by omega) (by omega)
  simp only [c0, c1, and_self, decide_true, if_true, mid_get, QbZ x, Option.bind_some, cw, Bool.not_true, Bool.false_eq_true, if_false]
 ·intro k
  show Qw.g4 (Qw.l4 NN k) a a a.length = _
  unfold Qw.g4
  simp
end Go.Pl

namespace Go.Pl
open Go.Ev
set_option linter.unusedVariables false
set_option linter.unusedSimpArgs false
theorem Qcc (a : Int × ByteArray × Int) : Qba.f a a = some true := by
 unfold Qba.f Qba.fn Qba.top
 simp []
end Go.Pl

namespace Go.Pl
open Go.Ev
set_option linter.unusedVariables false
set_option linter.unusedSimpArgs false
theorem Qb5 (a : List (Int × ByteArray × Int)) (hl : a.length ≤ 140737488355328) : Q1.f a a = some true := by
 unfold Q1.f Q1.fn Q1.top
 simp only [bne_self_eq_false, Bool.false_eq_true, if_false]
 refine eqS_loop (E := fun _ => True) (fun k a b i => Q1.l4 NN k a b i) a (fun _ _ => trivial) ?_ ?_ NN (NN_lt (by omega))
 ·intro k p x r hx ha
  subst ha
  show Q1.g4 (Q1.l4 NN k) (p ++ x :: r) (p ++ x :: r) p.length = _
  unfold Q1.g4
  have hm := mid_len p r x
  have c1 : (p.length : Int) < ((p ++ x :: r).length : Int) := by omega
  have c0 : (0 : Int) ≤ (p.length : Int) := by omega
  have cw := w64 (n := (p.length : Int) + 1) (by omega) (by omega)
  simp only [c0, c1, and_self, decide_true, if_true, mid_get, Qcc x, Option.bind_some, cw, Bool.not_true, Bool.false_eq_true, if_false]
 ·intro k
  show Q1.g4 (Q1.l4 NN k) a a a.length = _
  unfold Q1.g4
  simp
end Go.Pl

namespace Go.Pl
open Go.Ev
set_option linter.unusedVariables false
set_option linter.unusedSimpArgs false
theorem Qb2 (a : Int × Int) : QaP.f a a = some true := by
 unfold QaP.f QaP.fn QaP.top
 simp []
end Go.Pl

namespace Go.Pl
open Go.Ev
set_option linter.unusedVariables false
set_option linter.unusedSimpArgs false
theorem Qb0 (a : List (Int × Int)) (hl : a.length ≤ 140737488355328) : QG.f a a = some true := by
 unfold QG.f QG.fn QG.top
 simp only [bne_self_eq_false, Bool.false_eq_true, if_false]
 refine eqS_loop (E := fun _ => True) (fun k a b i => QG.l4 NN k a b i) a (fun _ _ => trivial) ?_ ?_ NN (NN_lt (by omega))
 ·intro k p x r hx ha
  subst ha
  show QG.g4 (QG.l4 NN k) (p ++ x :: r) (p ++ x :: r) p.length = _
  unfold QG.g4
  have hm := mid_len p r x
  have c1 : (p.length : Int) < ((p ++ x :: r).length : Int) := by omega
  have c0 : (0 : Int) ≤ (p.length : Int) := by omega
  have cw := w64 (n := (p.length : Int) + 1) (by omega) (by omega)
  simp only [c0, c1, and_self, decide_true, if_true, mid_get, Qb2 x, Option.bind_some, cw, Bool.not_true, Bool.false_eq_true, if_false]
 ·intro k
  show QG.g4 (QG.l4 NN k) a a a.length = _
  unfold QG.g4
  simp
end Go.Pl

namespace Go.Pl
open Go.Ev
set_option linter.unusedVariables false
set_option linter.unusedSimpArgs false
def EqDesk (x : (List (Int × ByteArray × Int)) × (List (Int × Int)) × (List (Int × ByteArray × Int))) : Prop := x.1.length ≤ 140737488355328 ∧ x.2.1.length ≤ 140737488355328 ∧ x.2.2.length ≤ 140737488355328
theorem Qcd (a : (List (Int × ByteArray × Int)) × (List (Int × Int)) × (List (Int × ByteArray × Int))) (h : EqDesk a) : Qa9.f a a = some true := by
 unfold Qa9.f Qa9.fn Qa9.top
 simp [Qb5 _ h.1, Qb0 _ h.2.1, QbW _ h.2.2]
end Go.Pl

namespace Go.Pl
open Go.Ev
set_option linter.unusedVariables false
set_option linter.unusedSimpArgs false
theorem markText_some (n : Int) (h0 : 0 ≤ n) (h1 : n ≤ 100000000000000) : ∃ t, Qy.f n = some t := by
 have key : ∀ (m : Nat) (n : Int) (out : ByteArray) (k : Nat), 0 ≤ n → n ≤ m → (out.size : Int) + n ≤ 1000000000000000 → m < k → ∃ t, Qy.l4 NN k n out = some t := by
  intro m
  induction m with
  | zero =>
   intro n out k h0 h1 h2 hk
   obtain ⟨k, rfl⟩ : ∃ j, k = j + 1 := ⟨k - 1, by omega⟩
   obtain rfl : n = 0 := by omega
   have z : (⟨#[109]⟩ : ByteArray).size = 1 := rfl
   exact ⟨_, by
    simp only [Qy.l4, Qy.g4]
    rw [if_neg (by simp), if_pos (by omega)]⟩
  | succ m ih =>
   intro n out k h0 h1 h2 hk
   obtain ⟨k, rfl⟩ : ∃ j, k = j + 1 := ⟨k - 1, by omega⟩
   by_cases hn : 0 < n
   ·have z : (bytesOf [IntKind.u8.wrap (IntKind.i64.wrap (48 + n.tmod 10))]).size = 1 := rfl
    have hd : n.tdiv 10 = n / 10 := Int.tdiv_eq_ediv_of_nonneg h0
    have hw := w64 (n := n.tdiv 10) (by omega) (by omega)
    obtain ⟨t, ht⟩ := ih (n.tdiv 10) (bytesOf [IntKind.u8.wrap (IntKind.i64.wrap (48 + n.tmod 10))] ++ out) k (by omega) (by omega) (by rw [ByteArray.size_append, z]; omega) (by omega)
    refine ⟨t, ?_⟩
    simp only [Qy.l4, Qy.g4]
    rw [if_pos (by simpa using hn), if_pos (by omega), hw]
    exact ht
   ·have z : (⟨#[109]⟩ : ByteArray).size = 1 := rfl
    exact ⟨_, by
     simp only [Qy.l4, Qy.g4]
     rw [if_neg (by simpa using hn), if_pos (by omega)]⟩
 unfold Qy.f Qy.fn Qy.top
 by_cases hn : n ≤ 0
 ·exact ⟨_, by rw [if_pos (by simpa using hn)]⟩
 ·rw [if_neg (by simpa using hn)]
  exact key n.toNat n ⟨#[]⟩ NN h0 (by omega) (by rw [show (⟨#[]⟩ : ByteArray).size = 0 from rfl]; omega) (NN_lt (by omega))
end Go.Pl

namespace Go.Pl
open Go.Ev
set_option linter.unusedVariables false
set_option linter.unusedSimpArgs false
theorem QbX (a : List (Int × ByteArray × Int)) (ha : Lm OkBooking a) (n : Int) (h0 : 0 ≤ n) (h1 : n ≤ 1000000000000) : ∃ n' a', Qp.f a n = some (n', a') ∧ Qo.f a' n = some n' ∧ n ≤ n' ∧ n' ≤ n + 3000000 := by
 have := mark_held (Q := OkBooking) (fun k a n i => Qp.l2 NN k n i a) (fun k a n i => Qo.l2 NN k a n i) 3 2000000000000 ?_ ?_ ?_ a ha n h0 (by omega) NN NN (NN_lt (by omega)) (NN_lt (by omega))
 ·obtain ⟨n1, a1, e1, e2, e3, e4⟩ := this
  exact ⟨n1, a1, e1, e2, e3, by omega⟩
 ·intro k p n
  show Qp.g2 (Qp.l2 NN k) n p.length p = _
  unfold Qp.g2
  simp
 ·intro k p n
  show Qo.g2 (Qo.l2 NN k) p n p.length = _
  unfold Qo.g2
  simp
 ·intro x hx n n0 n1
  obtain ⟨t1, ht1⟩ := markText_some (n + 1) (by omega) (by omega)
  have wk : ∀ i : Int, 0 ≤ i → i ≤ 3000000000000 → IntKind.i64.wrap i = i := fun i h h2 => w64 (by omega) (by omega)
  refine ⟨(n, t1, ((n + 1) + 1)), (((n + 1) + 1) + 1), by omega, by omega, fun k p r hb => ?_, fun k p r hb => ?_⟩
  ·show Qp.g2 (Qp.l2 NN k) n p.length (p ++ x :: r) = _
   unfold Qp.g2
   have c1 : ∀ y, (p.length : Int) < ((p ++ y :: r).length : Int) := fun y => by have := mid_len p r y; omega
   have c0 : (0 : Int) ≤ (p.length : Int) := by omega
   have cw := w64 (n := (p.length : Int) + 1) (by omega) (by omega)
   have q0 := wk (n + 1) (by omega) (by omega)
   have q1 := wk ((n + 1) + 1) (by omega) (by omega)
   have q2 := wk (((n + 1) + 1) + 1) (by omega) (by omega)
   have u0 := wk n (by omega) (by omega)
   have u1 := wk (n + 1) (by omega) (by omega)
   have u2 := wk ((n + 1) + 1) (by omega) (by omega)
   simp only [c0, c1, and_self, decide_true, if_true, mid_get, mid_set, cw, Option.bind_some, bne_self_eq_false, beq_self_eq_true, Bool.not_true, Bool.false_eq_true, if_false, ht1, q0, q1, q2, u0]
  ·show Qo.g2 (Qo.l2 NN k) (p ++ (n, t1, ((n + 1) + 1)) :: r) n p.length = _
   unfold Qo.g2
   have c1 : ∀ y, (p.length : Int) < ((p ++ y :: r).length : Int) := fun y => by have := mid_len p r y; omega
   have c0 : (0 : Int) ≤ (p.length : Int) := by omega
   have cw := w64 (n := (p.length : Int) + 1) (by omega) (by omega)
   have q0 := wk (n + 1) (by omega) (by omega)
   have q1 := wk ((n + 1) + 1) (by omega) (by omega)
   have q2 := wk (((n + 1) + 1) + 1) (by omega) (by omega)
   have u0 := wk n (by omega) (by omega)
   have u1 := wk (n + 1) (by omega) (by omega)
   have u2 := wk ((n + 1) + 1) (by omega) (by omega)
   simp only [c0, c1, and_self, decide_true, if_true, mid_get, mid_set, cw, Option.bind_some, bne_self_eq_false, beq_self_eq_true, Bool.not_true, Bool.false_eq_true, if_false, ht1, q0, q1, q2, u0]
end Go.Pl

namespace Go.Pl
open Go.Ev
set_option linter.unusedVariables false
set_option linter.unusedSimpArgs false
theorem Qb6 (a : List (Int × ByteArray × Int)) (ha : Lm OkMove a) (n : Int) (h0 : 0 ≤ n) (h1 : n ≤ 1000000000000) : ∃ n' a', QM.f a n = some (n', a') ∧ QL.f a' n = some n' ∧ n ≤ n' ∧ n' ≤ n + 3000000 := by
 have := mark_held (Q := OkMove) (fun k a n i => QM.l2 NN k n i a) (fun k a n i => QL.l2 NN k a n i) 3 2000000000000 ?_ ?_ ?_ a ha n h0 (by omega) NN NN (NN_lt (by omega)) (NN_lt (by omega))
 ·obtain ⟨n1, a1, e1, e2, e3, e4⟩ := this
  exact ⟨n1, a1, e1, e2, e3, by omega⟩
 ·intro k p n
  show QM.g2 (QM.l2 NN k) n p.length p = _
  unfold QM.g2
  simp
 ·intro k p n
  show QL.g2 (QL.l2 NN k) p n p.length = _
  unfold QL.g2
  simp
 ·intro x hx n n0 n1
  obtain ⟨t1, ht1⟩ := markText_some (n + 1) (by omega) (by omega)
  have wk : ∀ i : Int, 0 ≤ i → i ≤ 3000000000000 → IntKind.i64.wrap i = i := fun i h h2 => w64 (by omega) (by omega)
  refine ⟨(n, t1, ((n + 1) + 1)), (((n + 1) + 1) + 1), by omega, by omega, fun k p r hb => ?_, fun k p r hb => ?_⟩
  ·show QM.g2 (QM.l2 NN k) n p.length (p ++ x :: r) = _
   unfold QM.g2
   have c1 : ∀ y, (p.length : Int) < ((p ++ y :: r).length : Int) := fun y => by have := mid_len p r y; omega
   have c0 : (0 : Int) ≤ (p.length : Int) := by omega
   have cw := w64 (n := (p.length : Int) + 1) (by omega) (by omega)
   have q0 := wk (n + 1) (by omega) (by omega)
   have q1 := wk ((n + 1) + 1) (by omega) (by omega)
   have q2 := wk (((n + 1) + 1) + 1) (by omega) (by omega)
   have u0 := wk n (by omega) (by omega)
   have u1 := wk (n + 1) (by omega) (by omega)
   have u2 := wk ((n + 1) + 1) (by omega) (by omega)
   simp only [c0, c1, and_self, decide_true, if_true, mid_get, mid_set, cw, Option.bind_some, bne_self_eq_false, beq_self_eq_true, Bool.not_true, Bool.false_eq_true, if_false, ht1, q0, q1, q2, u0]
  ·show QL.g2 (QL.l2 NN k) (p ++ (n, t1, ((n + 1) + 1)) :: r) n p.length = _
   unfold QL.g2
   have c1 : ∀ y, (p.length : Int) < ((p ++ y :: r).length : Int) := fun y => by have := mid_len p r y; omega
   have c0 : (0 : Int) ≤ (p.length : Int) := by omega
   have cw := w64 (n := (p.length : Int) + 1) (by omega) (by omega)
   have q0 := wk (n + 1) (by omega) (by omega)
   have q1 := wk ((n + 1) + 1) (by omega) (by omega)
   have q2 := wk (((n + 1) + 1) + 1) (by omega) (by omega)
   have u0 := wk n (by omega) (by omega)
   have u1 := wk (n + 1) (by omega) (by omega)
   have u2 := wk ((n + 1) + 1) (by omega) (by omega)
   simp only [c0, c1, and_self, decide_true, if_true, mid_get, mid_set, cw, Option.bind_some, bne_self_eq_false, beq_self_eq_true, Bool.not_true, Bool.false_eq_true, if_false, ht1, q0, q1, q2, u0]
end Go.Pl

namespace Go.Pl
open Go.Ev
set_option linter.unusedVariables false
set_option linter.unusedSimpArgs false
theorem Qb1 (a : List (Int × Int)) (ha : Lm OkSignal a) (n : Int) (h0 : 0 ≤ n) (h1 : n ≤ 1000000000000) : ∃ n' a', Qu.f a n = some (n', a') ∧ Qt.f a' n = some n' ∧ n ≤ n' ∧ n' ≤ n + 2000000 := by
 have := mark_held (Q := OkSignal) (fun k a n i => Qu.l2 NN k n i a) (fun k a n i => Qt.l2 NN k a n i) 2 2000000000000 ?_ ?_ ?_ a ha n h0 (by omega) NN NN (NN_lt (by omega)) (NN_lt (by omega))
 ·obtain ⟨n1, a1, e1, e2, e3, e4⟩ := this
  exact ⟨n1, a1, e1, e2, e3, by omega⟩
 ·intro k p n
  show Qu.g2 (Qu.l2 NN k) n p.length p = _
  unfold Qu.g2
  simp
 ·intro k p n
  show Qt.g2 (Qt.l2 NN k) p n p.length = _
  unfold Qt.g2
  simp
 ·intro x hx n n0 n1
  have wk : ∀ i : Int, 0 ≤ i → i ≤ 3000000000000 → IntKind.i64.wrap i = i := fun i h h2 => w64 (by omega) (by omega)
  refine ⟨(n, (n + 1)), ((n + 1) + 1), by omega, by omega, fun k p r hb => ?_, fun k p r hb => ?_⟩
  ·show Qu.g2 (Qu.l2 NN k) n p.length (p ++ x :: r) = _
   unfold Qu.g2
   have c1 : ∀ y, (p.length : Int) < ((p ++ y :: r).length : Int) := fun y => by have := mid_len p r y; omega
   have c0 : (0 : Int) ≤ (p.length : Int) := by omega
   have cw := w64 (n := (p.length : Int) + 1) (by omega) (by omega)
   have q0 := wk (n + 1) (by omega) (by omega)
   have q1 := wk ((n + 1) + 1) (by omega) (by omega)
   have u0 := wk n (by omega) (by omega)
   have u1 := wk (n + 1) (by omega) (by omega)
   simp only [c0, c1, and_self, decide_true, if_true, mid_get, mid_set, cw, Option.bind_some, bne_self_eq_false, beq_self_eq_true, Bool.not_true, Bool.false_eq_true, if_false, q0, q1, u0]
  ·show Qt.g2 (Qt.l2 NN k) (p ++ (n, (n + 1)) :: r) n p.length = _
   unfold Qt.g2
   have c1 : ∀ y, (p.length : Int) < ((p ++ y :: r).length : Int) := fun y => by have := mid_len p r y; omega
   have c0 : (0 : Int) ≤ (p.length : Int) := by omega
   have cw := w64 (n := (p.length : Int) + 1) (by omega) (by omega)
   have q0 := wk (n + 1) (by omega) (by omega)
   have q1 := wk ((n + 1) + 1) (by omega) (by omega)
   have u0 := wk n (by omega) (by omega)
   have u1 := wk (n + 1) (by omega) (by omega)
   simp only [c0, c1, and_self, decide_true, if_true, mid_get, mid_set, cw, Option.bind_some, bne_self_eq_false, beq_self_eq_true, Bool.not_true, Bool.false_eq_true, if_false, q0, q1, u0]
end Go.Pl

namespace Go.Pl
open Go.Ev
set_option linter.unusedVariables false
set_option linter.unusedSimpArgs false
theorem Qce (a : (List (Int × ByteArray × Int)) × (List (Int × Int)) × (List (Int × ByteArray × Int))) (ha : OkDesk a) (n : Int) (h0 : 0 ≤ n) (h1 : n ≤ 900000000000) : ∃ (n' : Int) (a0 : List (Int × ByteArray × Int)) (a1 : List (Int × Int)) (a2 : List (Int × ByteArray × Int)), QaQ.f a n = some (n', (a0, a1, a2)) ∧ QaL.f (a0, a1, a2) n = some n' ∧ n ≤ n' ∧ n' ≤ n + 8000000 := by
 obtain ⟨n0, a0, x0, y0, z0, w0⟩ := Qb6 a.1 ha.1 n (by omega) (by omega)
 obtain ⟨n1, a1, x1, y1, z1, w1⟩ := Qb1 a.2.1 ha.2.1 n0 (by omega) (by omega)
 obtain ⟨n2, a2, x2, y2, z2, w2⟩ := QbX a.2.2 ha.2.2 n1 (by omega) (by omega)
 refine ⟨n2, a0, a1, a2, ?_, ?_, by omega, by omega⟩
 ·unfold QaQ.f QaQ.fn QaQ.top
  simp only [x0, x1, x2, Option.bind_some]
 ·unfold QaL.f QaL.fn QaL.top
  simp only [y0, y1, y2, Option.bind_some, decide_eq_true_eq]
  rw [if_neg (show ¬ n0 < 0 by omega)]
  rw [if_neg (show ¬ n1 < 0 by omega)]
  rw [if_neg (show ¬ n2 < 0 by omega)]
end Go.Pl

namespace Go.Pl
open Go.Ev
set_option linter.unusedVariables false
noncomputable section
end
end Go.Pl

namespace Go.Pl
open Go.Ev
set_option linter.unusedVariables false
set_option linter.unusedSimpArgs false
end Go.Pl

namespace Go.Pl
open Go.Ev
set_option linter.unusedVariables false
noncomputable section
end
end Go.Pl

namespace Go.Pl
open Go.Ev
set_option linter.unusedVariables false
set_option linter.unusedSimpArgs false
end Go.Pl

namespace Go.Pl
open Go.Ev
set_option linter.unusedVariables false
noncomputable section
end
end Go.Pl

namespace Go.Pl
open Go.Ev
set_option linter.unusedVariables false
noncomputable section
end
end Go.Pl

namespace Go.Pl
open Go.Ev
set_option linter.unusedVariables false
noncomputable section
end
end Go.Pl

namespace Go.Pl
open Go.Ev
set_option linter.unusedVariables false
set_option linter.unusedSimpArgs false
end Go.Pl

namespace Go.Pl
open Go.Ev
set_option linter.unusedVariables false
noncomputable section
end
end Go.Pl

namespace Go.Pl
open Go.Ev
set_option linter.unusedVariables false
set_option linter.unusedSimpArgs false
end Go.Pl

namespace Go.Pl
open Go.Ev
set_option linter.unusedVariables false
noncomputable section
end
end Go.Pl

namespace Go.Pl
open Go.Ev
set_option linter.unusedVariables false
noncomputable section
end
end Go.Pl

namespace Go.Pl
open Go.Ev
set_option linter.unusedVariables false
noncomputable section
end
end Go.Pl

namespace Go.Pl
open Go.Ev
set_option linter.unusedVariables false
set_option linter.unusedSimpArgs false
end Go.Pl

namespace Go.Pl
open Go.Ev
set_option linter.unusedVariables false
noncomputable section
end
end Go.Pl

namespace Go.Pl
open Go.Ev
set_option linter.unusedVariables false
set_option linter.unusedSimpArgs false
end Go.Pl

namespace Go.Pl
open Go.Ev
set_option linter.unusedVariables false
noncomputable section
end
end Go.Pl

namespace Go.Pl
open Go.Ev
set_option linter.unusedVariables false
noncomputable section
end
end Go.Pl

namespace Go.Pl
open Go.Ev
set_option linter.unusedVariables false
noncomputable section
end
end Go.Pl

namespace Go.Pl
open Go.Ev
set_option linter.unusedVariables false
set_option linter.unusedSimpArgs false
end Go.Pl

namespace Go.Pl
open Go.Ev
set_option linter.unusedVariables false
noncomputable section
end
end Go.Pl

namespace Go.Pl
open Go.Ev
set_option linter.unusedVariables false
noncomputable section
end
end Go.Pl

namespace Go.Pl
open Go.Ev
set_option linter.unusedVariables false
set_option linter.unusedSimpArgs false
end Go.Pl

namespace Go.Pl
open Go.Ev
set_option linter.unusedVariables false
set_option linter.unusedSimpArgs false
def digs (n : Nat) : List UInt8 := if h : n < 10 then [UInt8.ofNat (48 + n)] else digs (n / 10) ++ [UInt8.ofNat (48 + n % 10)]
 termination_by n
 decreasing_by omega
theorem digs_small {n : Nat} (h : n < 10) : digs n = [UInt8.ofNat (48 + n)] := by rw [digs, dif_pos h]
theorem digs_big {n : Nat} (h : ¬ n < 10) : digs n = digs (n / 10) ++ [UInt8.ofNat (48 + n % 10)] := by rw [digs, dif_neg h]
theorem digs_len : ∀ (d n : Nat), n < 10 ^ (d + 1) → (digs n).length ≤ d + 1 ∧ 1 ≤ (digs n).length := by
 intro d
 induction d with
 | zero => intro n hn; rw [digs_small (by simpa using hn)]; simp
 | succ d ih =>
  intro n hn
  by_cases h : n < 10
  ·rw [digs_small h]; simp
  ·rw [digs_big h]
   have := ih (n / 10) (by rw [Nat.pow_succ] at hn; omega)
   simp; omega
def decB (n : Int) : ByteArray := ob (if n < 0 then 45 :: digs (-n).toNat else digs n.toNat)
theorem decB_nat (n : Nat) : decB (n : Int) = ob (digs n) := by unfold decB; rw [if_neg (by omega), Int.toNat_natCast]
theorem bytesOf_dig {x : Nat} (h : x < 10) : bytesOf [IntKind.u8.wrap (IntKind.i64.wrap (48 + (x : Int)))] = ob [UInt8.ofNat (48 + x)] := by
 rw [w64 (n := 48 + (x : Int)) (by omega) (by omega), w8 (by omega) (by omega), bytesOf_ob]
 simp only [List.map_cons, List.map_nil]
 rfl
theorem tmod10 (x : Nat) : Int.tmod (x : Int) 10 = ((x % 10 : Nat) : Int) := (Int.ofNat_tmod x 10).symm
theorem tdiv10 (x : Nat) : Int.tdiv (x : Int) 10 = ((x / 10 : Nat) : Int) := (Int.ofNat_tdiv x 10).symm
theorem p19 : (10 : Nat) ^ (18 + 1) = 10000000000000000000 := by decide
theorem QcG (S : Int → Option ByteArray) : ∀ (d n : Nat), n < 10 ^ (d + 1) → n ≤ 1000000000000000000 → ∀ (acc : List UInt8) (k : Nat), acc.length + d ≤ 1000 → d < k → Qd.l4 S NN k (n : Int) (ob acc) = some (ob (digs n ++ acc)) := by
 intro d
 induction d with
 | zero =>
  intro n hn _ acc k ha hk
  obtain ⟨k, rfl⟩ : ∃ j, k = j + 1 := ⟨k - 1, by omega⟩
  have hn' : n < 10 := by simpa using hn
  have e0 : (ob [UInt8.ofNat (48 + n % 10)]).size + (ob acc).size ≤ 9223372036854775807 := by rw [ob_size, ob_size]; simp; omega
  have ew := w64 (n := ((n / 10 : Nat) : Int)) (by omega) (by omega)
  have ez : (((n / 10 : Nat) : Int) == 0) = true := by rw [beq_iff_eq]; omega
  simp only [Qd.l4, Qd.g4, tdiv10, tmod10, bytesOf_dig (show n % 10 < 10 by omega), e0, ew, ez, if_true, ob_append]
  rw [digs_small hn', Nat.mod_eq_of_lt hn']
 | succ d ih =>
  intro n hn hm acc k ha hk
  obtain ⟨k, rfl⟩ : ∃ j, k = j + 1 := ⟨k - 1, by omega⟩
  have e0 : (ob [UInt8.ofNat (48 + n % 10)]).size + (ob acc).size ≤ 9223372036854775807 := by rw [ob_size, ob_size]; simp; omega
  have ew := w64 (n := ((n / 10 : Nat) : Int)) (by omega) (by omega)
  simp only [Qd.l4, Qd.g4, tdiv10, tmod10, bytesOf_dig (show n % 10 < 10 by omega), e0, ew, if_true, ob_append]
  by_cases h : n < 10
  ·have ez : (((n / 10 : Nat) : Int) == 0) = true := by rw [beq_iff_eq]; omega
   rw [if_pos ez, digs_small h, Nat.mod_eq_of_lt h]
  ·have ez : ¬ (((n / 10 : Nat) : Int) == 0) = true := by rw [beq_iff_eq]; omega
   have hn' : n / 10 < 10 ^ (d + 1) := by rw [Nat.pow_succ] at hn; omega
   rw [if_neg ez, ih (n / 10) hn' (by omega) _ k (by simp; omega) (by omega), digs_big h, List.append_assoc]
theorem QbJ (S : Int → Option ByteArray) (m : Nat) (h : m ≤ 1000000000000000000) : Qd.fn S NN m = some (decB m) := by
 unfold Qd.fn Qd.top
 have hl := QcG S 18 m (by rw [p19]; omega) h [] NN (by simp) (NN_lt (by omega))
 rw [List.append_nil] at hl
 have hn : ¬ (m : Int) < 0 := by omega
 simp only [hn, decide_false, Bool.false_eq_true, if_false]
 rw [decB_nat]; exact hl
theorem NN_succ2 : ∃ j, NN = j + 1 + 1 := ⟨NN - 2, by have := NNb; omega⟩
theorem Qbt {n : Int} (h0 : -1000000000000000000 ≤ n) (h : n ≤ 1000000000000000000) : Qd.f n = some (decB n) := by
 unfold Qd.f
 obtain ⟨k, hk⟩ := NN_succ2
 rw [hk]
 show Qd.fn (Qd.rc (k + 1)) NN n = some (decB n)
 by_cases hn : 0 ≤ n
 ·obtain ⟨m, rfl⟩ : ∃ m : Nat, n = m := ⟨n.toNat, by omega⟩
  exact QbJ _ m (by omega)
 ·obtain ⟨m, hm⟩ : ∃ m : Nat, -n = m := ⟨(-n).toNat, by omega⟩
  have hl := digs_len 18 m (by rw [p19]; omega)
  have hw : IntKind.i64.wrap (0 - n) = (m : Int) := by rw [w64 (by omega) (by omega)]; omega
  have hf := QbJ (Qd.rc k) m (by omega)
  have hlt : n < 0 := by omega
  show Qd.top (Qd.rc (k + 1)) (Qd.l4 (Qd.rc (k + 1)) NN NN) n = some (decB n)
  unfold Qd.top
  simp only [hlt, decide_true, if_true, hw]
  rw [show Qd.rc (k + 1) (m : Int) = Qd.fn (Qd.rc k) NN (m : Int) from rfl, hf]
  simp only [Option.bind_some]
  rw [decB_nat, if_pos (by rw [ob_size, show (⟨#[45]⟩ : ByteArray).size = 1 from rfl]; omega), show (⟨#[45]⟩ : ByteArray) = ob [45] from rfl, ob_append]
  unfold decB; rw [if_pos hlt, hm]; rfl
theorem Qcn : ∀ (d n : Nat), d ≤ 20 → n < 10 ^ (d + 1) → n ≤ 1000000000000000000 → ∀ k, d < k → Qq.rc k (n : Int) = some (ob (digs n)) := by
 intro d
 induction d with
 | zero =>
  intro n _ hn _ k hk
  obtain ⟨k, rfl⟩ : ∃ j, k = j + 1 := ⟨k - 1, by omega⟩
  have hn' : n < 10 := by simpa using hn
  have h1 : (n : Int) < 10 := by omega
  simp only [Qq.rc, Qq.fn, Qq.top, h1, decide_true, if_true, bytesOf_dig hn', digs_small hn']
 | succ d ih =>
  intro n hd hn hm k hk
  obtain ⟨k, rfl⟩ : ∃ j, k = j + 1 := ⟨k - 1, by omega⟩
  by_cases h : n < 10
  ·have h1 : (n : Int) < 10 := by omega
   simp only [Qq.rc, Qq.fn, Qq.top, h1, decide_true, if_true, bytesOf_dig h, digs_small h]
  ·have hn' : n / 10 < 10 ^ (d + 1) := by rw [Nat.pow_succ] at hn; omega
   have hl := digs_len d (n / 10) hn'
   have h1 : ¬ (n : Int) < 10 := by omega
   have ew := w64 (n := ((n / 10 : Nat) : Int)) (by omega) (by omega)
   have e0 : (ob (digs (n / 10))).size + (ob [UInt8.ofNat (48 + n % 10)]).size ≤ 9223372036854775807 := by rw [ob_size, ob_size]; simp; omega
   simp only [Qq.rc, Qq.fn, Qq.top, h1, decide_false, Bool.false_eq_true, if_false, tdiv10, tmod10, ew, ih (n / 10) (by omega) hn' (by omega) k (by omega), Option.bind_some, bytesOf_dig (show n % 10 < 10 by omega), e0, if_true, ob_append, digs_big h]
theorem Qbk {n : Int} (h0 : 0 ≤ n) (h : n ≤ 1000000000000000000) : Qq.f n = some (decB n) := by
 obtain ⟨m, rfl⟩ : ∃ m : Nat, n = m := ⟨n.toNat, by omega⟩
 rw [decB_nat]
 exact Qcn 18 m (by omega) (by rw [p19]; omega) (by omega) NN (NN_lt (by omega))
theorem decB_size {n : Int} (h0 : -1000000000000000000 ≤ n) (h : n ≤ 1000000000000000000) : (decB n).size ≤ 20 := by
 have hl := digs_len 18 n.toNat (by rw [p19]; omega)
 have hl2 := digs_len 18 (-n).toNat (by rw [p19]; omega)
 unfold decB; rw [ob_size]; split
 ·rw [List.length_cons]; omega
 ·omega
end Go.Pl

namespace Go.Pl
open Go.Ev
set_option linter.unusedVariables false
set_option linter.unusedSimpArgs false
def isDig (c : UInt8) : Bool := decide (48 ≤ (c.toNat : Int) ∧ (c.toNat : Int) ≤ 57)
def valL : List UInt8 → Nat → Nat
 | [], a => a
 | c :: r, a => valL r (10 * a + (c.toNat - 48))
theorem head_app {α : Type} {p r : List α} (h : p ≠ []) : (p ++ r).head? = p.head? := by
 cases p with
 | nil => exact absurd rfl h
 | cons => rfl
theorem isDig_iff {c : UInt8} : isDig c = true ↔ 48 ≤ c.toNat ∧ c.toNat ≤ 57 := by unfold isDig; rw [decide_eq_true_eq]; omega
theorem valL_append (l r : List UInt8) (a : Nat) : valL (l ++ r) a = valL r (valL l a) := by
 induction l generalizing a with
 | nil => rfl
 | cons c l ih => simp only [List.cons_append, valL]; exact ih _
theorem valL_lt : ∀ (l : List UInt8) (a : Nat), (∀ c ∈ l, isDig c = true) → valL l a < (a + 1) * 10 ^ l.length := by
 intro l
 induction l with
 | nil => intro a _; simp [valL]
 | cons c r ih =>
  intro a h
  have hc := isDig_iff.1 (h c (by simp))
  have := ih (10 * a + (c.toNat - 48)) (fun x hx => h x (by simp [hx]))
  simp only [valL, List.length_cons]
  have h2 : (10 * a + (c.toNat - 48) + 1) * 10 ^ r.length ≤ ((a + 1) * 10) * 10 ^ r.length := Nat.mul_le_mul_right _ (by omega)
  have h3 : ((a + 1) * 10) * 10 ^ r.length = (a + 1) * 10 ^ (r.length + 1) := by rw [Nat.mul_assoc, ← Nat.pow_succ']
  omega
theorem digs_ne (n : Nat) : digs n ≠ [] := by
 by_cases h : n < 10
 ·rw [digs_small h]; simp
 ·rw [digs_big h]; simp
theorem digs_head {n : Nat} (h : n ≠ 0) : ∀ c, (digs n).head? = some c → c ≠ 48 := by
 induction n using Nat.strongRecOn with
 | _ n ih =>
  by_cases hn : n < 10
  ·rw [digs_small hn]
   intro c hc
   simp only [List.head?_cons, Option.some.injEq] at hc
   subst hc
   intro e
   have := congrArg UInt8.toNat e
   rw [UInt8.toNat_ofNat'] at this
   have e2 : (48 : UInt8).toNat = 48 := rfl
   omega
  ·rw [digs_big hn]
   intro c hc
   have h1 := digs_ne (n / 10)
   rw [head_app h1] at hc
   exact ih (n / 10) (by omega) (by omega) c hc
theorem digs_valL : ∀ (l : List UInt8), l ≠ [] → (∀ c ∈ l, isDig c = true) → (l.length = 1 ∨ l.head? ≠ some 48) → digs (valL l 0) = l := by
 have key : ∀ (k : Nat) (l : List UInt8), l.length = k → l ≠ [] → (∀ c ∈ l, isDig c = true) → (l.length = 1 ∨ l.head? ≠ some 48) → digs (valL l 0) = l := by
  intro k
  induction k with
  | zero => intro l hl hne; exact absurd (List.length_eq_zero_iff.1 hl) hne
  | succ k ih =>
   intro l hl hne hd hz
   obtain ⟨p, c, rfl⟩ : ∃ p c, l = p ++ [c] := ⟨l.dropLast, l.getLast hne, (List.dropLast_concat_getLast hne).symm⟩
   have hc := isDig_iff.1 (hd c (by simp))
   have ec : UInt8.ofNat (48 + (c.toNat - 48)) = c := by
    apply UInt8.toNat_inj.1; rw [UInt8.toNat_ofNat']; omega
   simp only [List.length_append, List.length_cons, List.length_nil] at hl
   rw [valL_append]
   simp only [valL]
   by_cases hp : p = []
   ·subst hp
    simp only [valL, List.nil_append]
    rw [Nat.mul_zero, Nat.zero_add, digs_small (by omega), ec]
   ·have hpl : p.length ≠ 0 := fun e => hp (List.length_eq_zero_iff.1 e)
    have hp0 : p.head? ≠ some 48 := by
     rcases hz with hz | hz
     ·rw [List.length_append, List.length_cons, List.length_nil] at hz; omega
     ·rw [head_app hp] at hz; exact hz
    have ihp := ih p (by omega) hp (fun x hx => hd x (by simp [hx])) (.inr hp0)
    have hv : valL p 0 ≠ 0 := by
     intro e
     rw [e] at ihp
     rw [digs_small (by omega)] at ihp
     rw [← ihp] at hp0
     exact hp0 rfl
    rw [digs_big (by omega), show (10 * valL p 0 + (c.toNat - 48)) / 10 = valL p 0 by omega, ihp, show (10 * valL p 0 + (c.toNat - 48)) % 10 = c.toNat - 48 by omega, ec]
 intro l
 exact key l.length l rfl
theorem u8_sub48 {c : UInt8} (h : isDig c = true) : IntKind.i64.wrap (IntKind.u8.wrap ((c.toNat : Int) - 48)) = ((c.toNat - 48 : Nat) : Int) := by
 have := isDig_iff.1 h
 rw [w8 (by omega) (by omega), w64 (by omega) (by omega)]; omega
theorem p18 : (10 : Nat) ^ 18 = 1000000000000000000 := by decide
theorem pow_le18 {a : Nat} (h : a ≤ 18) : (10 : Nat) ^ a ≤ 1000000000000000000 := by
 have := Nat.pow_le_pow_right (n := 10) (by omega) h
 rw [p18] at this; exact this
theorem QbF (s : ByteArray) : ∀ (r p : List UInt8) (a k : Nat), p.length + r.length ≤ 18 → r.length < k → a < 10 ^ p.length →
  Qr.l8 NN k s (ob (p ++ r)) (a : Int) (p.length : Int) = if r.all isDig = true then (if (((p ++ r).length : Nat) : Int) < (s.size : Int) then some (-((valL r a : Nat) : Int), true) else some (((valL r a : Nat) : Int), true)) else some (0, false) := by
 intro r
 induction r with
 | nil =>
  intro p a k hb hk ha
  obtain ⟨k, rfl⟩ : ∃ j, k = j + 1 := ⟨k - 1, by omega⟩
  have h18 := pow_le18 (a := p.length) (by simpa using hb)
  rw [List.append_nil]
  have c1 : ¬ (p.length : Int) < (p.length : Int) := by omega
  have cw := w64 (n := 0 - (a : Int)) (by omega) (by omega)
  simp only [Qr.l8, Qr.g8, ob_size, c1, cw, and_self, and_true, true_and, decide_true, decide_false, if_true, if_false, mid_get, mid_set, mid_getn, mid_setn, bt_mid, Option.bind_some, Bool.not_true, Bool.not_false, Bool.false_eq_true, Bool.true_eq_false, beq_self_eq_true, bne_self_eq_false, Int.toNat_natCast, decide_eq_true_eq, List.all_nil, valL]
  rw [show 0 - (a : Int) = -(a : Int) by omega]
 | cons c r ih =>
  intro p a k hb hk ha
  simp only [List.length_cons] at hb hk
  obtain ⟨k, rfl⟩ : ∃ j, k = j + 1 := ⟨k - 1, by omega⟩
  have h17 : (10 : Nat) ^ p.length ≤ 10 ^ 17 := Nat.pow_le_pow_right (by omega) (by omega)
  have e17 : (10 : Nat) ^ 17 = 100000000000000000 := by decide
  have c0 : (0 : Int) ≤ (p.length : Int) := by omega
  have hm := mid_len p r c
  have c1 : (p.length : Int) < ((ob (p ++ c :: r)).size : Int) := by rw [ob_size]; omega
  have cw := w64 (n := (p.length : Int) + 1) (by omega) (by omega)
  simp only [Qr.l8, Qr.g8, c0, c1, cw, and_self, and_true, true_and, decide_true, decide_false, if_true, if_false, mid_get, mid_set, mid_getn, mid_setn, bt_mid, Option.bind_some, Bool.not_true, Bool.not_false, Bool.false_eq_true, Bool.true_eq_false, beq_self_eq_true, bne_self_eq_false, Int.toNat_natCast, List.all_cons]
  by_cases hd : isDig c = true
  ·have h2 := isDig_iff.1 hd
   have n1 : ¬ (c.toNat : Int) < 48 := by omega
   have n2 : ¬ (57 : Int) < (c.toNat : Int) := by omega
   have e1 := w64 (n := 10 * (a : Int)) (by omega) (by omega)
   have e2 := w64 (n := 10 * (a : Int) + ((c.toNat - 48 : Nat) : Int)) (by omega) (by omega)
   have := ih (p ++ [c]) (10 * a + (c.toNat - 48)) k (by simp; omega) (by omega) (by rw [List.length_append, List.length_singleton, Nat.pow_succ]; omega)
   rw [mid_snoc, snoc_len, show ((10 * a + (c.toNat - 48) : Nat) : Int) = 10 * (a : Int) + ((c.toNat - 48 : Nat) : Int) by omega] at this
   simp only [n1, n2, and_self, and_true, true_and, decide_true, decide_false, if_true, if_false, mid_get, mid_set, mid_getn, mid_setn, bt_mid, Option.bind_some, Bool.not_true, Bool.not_false, Bool.false_eq_true, Bool.true_eq_false, beq_self_eq_true, bne_self_eq_false, Int.toNat_natCast, u8_sub48 hd, e1, e2, hd, this, valL]
   rfl
  ·have hd' : isDig c = false := by simpa using hd
   by_cases h1 : (c.toNat : Int) < 48
   ·simp [h1, hd']
   ·have h3 : (57 : Int) < (c.toNat : Int) := by
     have : ¬ (48 ≤ c.toNat ∧ c.toNat ≤ 57) := fun e => hd (isDig_iff.2 e)
     omega
    simp [h1, h3, hd']
def okDigs (l : List UInt8) (m : Nat) (neg : Bool) : Bool := decide (l ≠ [] ∧ l.length ≤ m ∧ (l.head? ≠ some 48 ∨ (l.length = 1 ∧ neg = false))) && l.all isDig
theorem okDigs_long {l : List UInt8} {m : Nat} {neg : Bool} (h : m < l.length) : okDigs l m neg = false := by
 unfold okDigs
 rw [decide_eq_false (fun h' => by have := h'.2.1; omega), Bool.false_and]
theorem okDigs_short {c : UInt8} {r : List UInt8} {m : Nat} {neg : Bool} (h : (c :: r).length ≤ m) : okDigs (c :: r) m neg = ((decide (c ≠ 48) || (decide (r = []) && !neg)) && (c :: r).all isDig) := by
 unfold okDigs
 congr 1
 rw [Bool.eq_iff_iff]
 simp only [decide_eq_true_eq, Bool.or_eq_true, Bool.and_eq_true, Bool.not_eq_true', List.head?_cons, ne_eq, Option.some.injEq, List.length_cons]
 constructor
 ·rintro ⟨_, _, h1 | ⟨h1, h2⟩⟩
  ·exact .inl h1
  ·exact .inr ⟨List.length_eq_zero_iff.1 (by omega), h2⟩
 ·rintro (h1 | ⟨h1, h2⟩)
  ·exact ⟨by simp, by simpa using h, .inl h1⟩
  ·exact ⟨by simp, by simpa using h, .inr ⟨by rw [h1]; rfl, h2⟩⟩
def rdD (s : ByteArray) : Int × Bool :=
 if (bl s).head? = some 45 then (if okDigs (bl s).tail 18 true then (-((valL (bl s).tail 0 : Nat) : Int), true) else (0, false))
 else (if okDigs (bl s) 18 false then (((valL (bl s) 0 : Nat) : Int), true) else (0, false))
theorem bt0_ob (c : UInt8) (r : List UInt8) : bt (ob (c :: r)) 0 = (c.toNat : Int) := rfl
theorem QbG (s : ByteArray) (hs : s.size ≤ 1000000) : Qr.f s = some (rdD s) := by
 revert hs
 refine ob_all (P := fun s => s.size ≤ 1000000 → Qr.f s = some (rdD s)) ?_ s
 intro l hs
 rw [ob_size] at hs
 unfold Qr.f Qr.fn Qr.top rdD
 rw [bl_ob, ob_size]
 cases l with
 | nil => simp [okDigs]
 | cons c r =>
  simp only [List.length_cons] at hs
  have c0 : (0 : Int) < ((c :: r).length : Int) := by simp only [List.length_cons]; omega
  have cz : (((c :: r).length : Int) == 0) = false := by rw [beq_eq_false_iff_ne]; omega
  simp only [c0, cz, bt0_ob, and_self, and_true, true_and, decide_true, decide_false, if_true, if_false, mid_get, mid_set, mid_getn, mid_setn, bt_mid, Option.bind_some, Bool.not_true, Bool.not_false, Bool.false_eq_true, Bool.true_eq_false, beq_self_eq_true, bne_self_eq_false, Int.toNat_natCast, Int.le_refl, List.head?_cons, Option.some.injEq, List.tail_cons]
  by_cases hc : c = 45
  ·subst hc
   have e45 : (((45 : UInt8).toNat : Int) == 45) = true := rfl
   have c1 : (1 : Int) ≤ ((45 :: r : List UInt8).length : Int) := by simp only [List.length_cons]; omega
   have ex : (ob (45 :: r)).extract (1 : Int).toNat (45 :: r : List UInt8).length = ob r := by
    rw [ob_extract, List.take_of_length_le (by omega)]; rfl
   simp only [e45, c1, ex, ob_size, and_self, and_true, true_and, decide_true, decide_false, if_true, if_false, mid_get, mid_set, mid_getn, mid_setn, bt_mid, Option.bind_some, Bool.not_true, Bool.not_false, Bool.false_eq_true, Bool.true_eq_false, beq_self_eq_true, bne_self_eq_false, Int.toNat_natCast, show (0 : Int) ≤ 1 from by omega]
   cases r with
   | nil => simp [okDigs]
   | cons d r =>
    have d0 : (0 : Int) < ((d :: r).length : Int) := by simp only [List.length_cons]; omega
    have dz : (((d :: r).length : Int) == 0) = false := by rw [beq_eq_false_iff_ne]; omega
    have d1 : (1 : Int) < ((45 :: d :: r : List UInt8).length : Int) := by simp only [List.length_cons]; omega
    simp only [d0, dz, d1, bt0_ob, and_self, and_true, true_and, decide_true, decide_false, if_true, if_false, mid_get, mid_set, mid_getn, mid_setn, bt_mid, Option.bind_some, Bool.not_true, Bool.not_false, Bool.false_eq_true, Bool.true_eq_false, beq_self_eq_true, bne_self_eq_false, Int.toNat_natCast]
    by_cases h18 : (18 : Int) < ((d :: r).length : Int)
    ·simp only [okDigs_long (show 18 < (d :: r).length by omega), h18, and_self, and_true, true_and, decide_true, decide_false, if_true, if_false, mid_get, mid_set, mid_getn, mid_setn, bt_mid, Option.bind_some, Bool.not_true, Bool.not_false, Bool.false_eq_true, Bool.true_eq_false, beq_self_eq_true, bne_self_eq_false, Int.toNat_natCast]
    ·have h18' : (d :: r).length ≤ 18 := by omega
     have hl := QbF (ob (45 :: d :: r)) (d :: r) [] 0 NN (by simpa using h18') (NN_lt (by omega)) (by simp)
     simp only [List.nil_append, List.length_nil, ob_size] at hl
     have d2 : ((d :: r).length : Int) < ((45 :: d :: r : List UInt8).length : Int) := by simp only [List.length_cons]; omega
     rw [show ((0 : Nat) : Int) = 0 from rfl] at hl
     simp only [d2, if_true] at hl
     simp only [okDigs_short h18', h18, hl, and_self, and_true, true_and, decide_true, decide_false, if_true, if_false, mid_get, mid_set, mid_getn, mid_setn, bt_mid, Option.bind_some, Bool.not_true, Bool.not_false, Bool.false_eq_true, Bool.true_eq_false, beq_self_eq_true, bne_self_eq_false, Int.toNat_natCast]
     by_cases hd : d = 48
     ·subst hd
      simp
     ·have : ((d.toNat : Int) == 48) = false := by rw [beq_eq_false_iff_ne]; intro e; exact hd ((u8_eq (n := 48) (by omega)).mp (by omega))
      simp only [this, and_self, and_true, true_and, decide_true, decide_false, if_true, if_false, mid_get, mid_set, mid_getn, mid_setn, bt_mid, Option.bind_some, Bool.not_true, Bool.not_false, Bool.false_eq_true, Bool.true_eq_false, beq_self_eq_true, bne_self_eq_false, Int.toNat_natCast]
      cases ha : (d :: r).all isDig <;> simp [hd]
  ·have e45 : ((c.toNat : Int) == 45) = false := by rw [beq_eq_false_iff_ne]; intro e; exact hc ((u8_eq (n := 45) (by omega)).mp (by omega))
   simp only [e45, hc, and_self, and_true, true_and, decide_true, decide_false, if_true, if_false, mid_get, mid_set, mid_getn, mid_setn, bt_mid, Option.bind_some, Bool.not_true, Bool.not_false, Bool.false_eq_true, Bool.true_eq_false, beq_self_eq_true, bne_self_eq_false, Int.toNat_natCast]
   by_cases h18 : (18 : Int) < ((c :: r).length : Int)
   ·simp only [okDigs_long (show 18 < (c :: r).length by omega), h18, and_self, and_true, true_and, decide_true, decide_false, if_true, if_false, mid_get, mid_set, mid_getn, mid_setn, bt_mid, Option.bind_some, Bool.not_true, Bool.not_false, Bool.false_eq_true, Bool.true_eq_false, beq_self_eq_true, bne_self_eq_false, Int.toNat_natCast]
   ·have h18' : (c :: r).length ≤ 18 := by omega
    have hl := QbF (ob (c :: r)) (c :: r) [] 0 NN (by simpa using h18') (NN_lt (by omega)) (by simp)
    simp only [List.nil_append, List.length_nil, ob_size, Int.lt_irrefl, if_false] at hl
    rw [show ((0 : Nat) : Int) = 0 from rfl] at hl
    simp only [okDigs_short h18', h18, hl, and_self, and_true, true_and, decide_true, decide_false, if_true, if_false, mid_get, mid_set, mid_getn, mid_setn, bt_mid, Option.bind_some, Bool.not_true, Bool.not_false, Bool.false_eq_true, Bool.true_eq_false, beq_self_eq_true, bne_self_eq_false, Int.toNat_natCast]
    by_cases hd : c = 48
    ·subst hd
     have e48 : (((48 : UInt8).toNat : Int) == 48) = true := rfl
     simp only [e48, and_self, and_true, true_and, decide_true, decide_false, if_true, if_false, mid_get, mid_set, mid_getn, mid_setn, bt_mid, Option.bind_some, Bool.not_true, Bool.not_false, Bool.false_eq_true, Bool.true_eq_false, beq_self_eq_true, bne_self_eq_false, Int.toNat_natCast]
     cases r with
     | nil =>
      simp only [List.length_cons, List.length_nil]
      cases ha : ([48] : List UInt8).all isDig <;> simp
     | cons d r =>
      have h1 : (1 : Int) < ((48 :: d :: r : List UInt8).length : Int) := by simp only [List.length_cons]; omega
      simp only [h1, and_self, and_true, true_and, decide_true, decide_false, if_true, if_false, mid_get, mid_set, mid_getn, mid_setn, bt_mid, Option.bind_some, Bool.not_true, Bool.not_false, Bool.false_eq_true, Bool.true_eq_false, beq_self_eq_true, bne_self_eq_false, Int.toNat_natCast]
      simp
    ·have : ((c.toNat : Int) == 48) = false := by rw [beq_eq_false_iff_ne]; intro e; exact hd ((u8_eq (n := 48) (by omega)).mp (by omega))
     simp only [this, and_self, and_true, true_and, decide_true, decide_false, if_true, if_false, mid_get, mid_set, mid_getn, mid_setn, bt_mid, Option.bind_some, Bool.not_true, Bool.not_false, Bool.false_eq_true, Bool.true_eq_false, beq_self_eq_true, bne_self_eq_false, Int.toNat_natCast]
     cases ha : (c :: r).all isDig <;> simp [hd]
theorem Qco : ∀ (r p : List UInt8) (a k : Nat), p.length + r.length ≤ 13 → r.length < k → a < 10 ^ p.length →
  QK.l5 NN k (ob (p ++ r)) (a : Int) (p.length : Int) = if r.all isDig = true then some (((valL r a : Nat) : Int), decide (ob (digs (valL r a)) = ob (p ++ r))) else some (0, false) := by
 intro r
 induction r with
 | nil =>
  intro p a k hb hk ha
  obtain ⟨k, rfl⟩ : ∃ j, k = j + 1 := ⟨k - 1, by omega⟩
  have h18 := pow_le18 (a := p.length) (by simp at hb; omega)
  rw [List.append_nil]
  have c1 : ¬ (p.length : Int) < (p.length : Int) := by omega
  simp only [QK.l5, QK.g5, ob_size, c1, and_self, and_true, true_and, decide_true, decide_false, if_true, if_false, mid_get, mid_set, mid_getn, mid_setn, bt_mid, Option.bind_some, Bool.not_true, Bool.not_false, Bool.false_eq_true, Bool.true_eq_false, beq_self_eq_true, bne_self_eq_false, Int.toNat_natCast, Qbk (show (0 : Int) ≤ (a : Int) by omega) (show (a : Int) ≤ 1000000000000000000 by omega), decB_nat, ba_beq, List.all_nil, valL]
  rfl
 | cons c r ih =>
  intro p a k hb hk ha
  simp only [List.length_cons] at hb hk
  obtain ⟨k, rfl⟩ : ∃ j, k = j + 1 := ⟨k - 1, by omega⟩
  have h17 : (10 : Nat) ^ p.length ≤ 10 ^ 17 := Nat.pow_le_pow_right (by omega) (by omega)
  have e17 : (10 : Nat) ^ 17 = 100000000000000000 := by decide
  have c0 : (0 : Int) ≤ (p.length : Int) := by omega
  have hm := mid_len p r c
  have c1 : (p.length : Int) < ((ob (p ++ c :: r)).size : Int) := by rw [ob_size]; omega
  have cw := w64 (n := (p.length : Int) + 1) (by omega) (by omega)
  simp only [QK.l5, QK.g5, c0, c1, cw, and_self, and_true, true_and, decide_true, decide_false, if_true, if_false, mid_get, mid_set, mid_getn, mid_setn, bt_mid, Option.bind_some, Bool.not_true, Bool.not_false, Bool.false_eq_true, Bool.true_eq_false, beq_self_eq_true, bne_self_eq_false, Int.toNat_natCast, List.all_cons]
  by_cases hd : isDig c = true
  ·have h2 := isDig_iff.1 hd
   have n1 : ¬ (c.toNat : Int) < 48 := by omega
   have n2 : ¬ (57 : Int) < (c.toNat : Int) := by omega
   have e1 := w64 (n := 10 * (a : Int)) (by omega) (by omega)
   have e2 := w64 (n := 10 * (a : Int) + ((c.toNat - 48 : Nat) : Int)) (by omega) (by omega)
   have := ih (p ++ [c]) (10 * a + (c.toNat - 48)) k (by simp; omega) (by omega) (by rw [List.length_append, List.length_singleton, Nat.pow_succ]; omega)
   rw [mid_snoc, snoc_len, show ((10 * a + (c.toNat - 48) : Nat) : Int) = 10 * (a : Int) + ((c.toNat - 48 : Nat) : Int) by omega] at this
   simp only [n1, n2, and_self, and_true, true_and, decide_true, decide_false, if_true, if_false, mid_get, mid_set, mid_getn, mid_setn, bt_mid, Option.bind_some, Bool.not_true, Bool.not_false, Bool.false_eq_true, Bool.true_eq_false, beq_self_eq_true, bne_self_eq_false, Int.toNat_natCast, u8_sub48 hd, e1, e2, hd, this, valL]
   rfl
  ·have hd' : isDig c = false := by simpa using hd
   by_cases h1 : (c.toNat : Int) < 48
   ·simp [h1, hd']
   ·have h3 : (57 : Int) < (c.toNat : Int) := by
     have : ¬ (48 ≤ c.toNat ∧ c.toNat ≤ 57) := fun e => hd (isDig_iff.2 e)
     omega
    simp [h1, h3, hd']
def rdV (s : ByteArray) : Int × Bool := if 1 ≤ s.size ∧ s.size ≤ 13 ∧ (bl s).all isDig = true then (((valL (bl s) 0 : Nat) : Int), decide (digs (valL (bl s) 0) = bl s)) else (0, false)
theorem Qbx (s : ByteArray) (hs : s.size ≤ 1000000) : QK.f s = some (rdV s) := by
 unfold QK.f QK.fn QK.top rdV
 by_cases h1 : (s.size : Int) < 1
 ·have : ¬ 1 ≤ s.size := by omega
  simp [h1, this]
 ·by_cases h13 : (13 : Int) < (s.size : Int)
  ·have : ¬ s.size ≤ 13 := by omega
   simp [h1, h13, this]
  ·have e1 : 1 ≤ s.size := by omega
   have e2 : s.size ≤ 13 := by omega
   have := Qco (bl s) [] 0 NN (by simpa [bl_length] using e2) (by rw [bl_length]; exact NN_lt (by omega)) (by simp)
   simp only [List.nil_append, ob_bl, List.length_nil] at this
   rw [show ((0 : Nat) : Int) = 0 from rfl] at this
   simp only [h1, h13, this, e1, e2, and_self, and_true, true_and, decide_true, decide_false, if_true, if_false, mid_get, mid_set, mid_getn, mid_setn, bt_mid, Option.bind_some, Bool.not_true, Bool.not_false, Bool.false_eq_true, Bool.true_eq_false, beq_self_eq_true, bne_self_eq_false, Int.toNat_natCast]
   have e3 : decide (ob (digs (valL (bl s) 0)) = s) = decide (digs (valL (bl s) 0) = bl s) := by
    congr 1
    exact propext ⟨fun h => by have := congrArg bl h; rwa [bl_ob] at this, fun h => by rw [h, ob_bl]⟩
   cases ha : (bl s).all isDig
   ·simp
   ·simp only [if_true]
    congr 2
theorem rdV_rdD {s : ByteArray} (h : (rdV s).2 = true) : rdD s = rdV s := by
 unfold rdV at h ⊢
 split at h
 ·rename_i hc
  rw [if_pos hc]
  obtain ⟨h1, h2, h3⟩ := hc
  simp only [decide_eq_true_eq] at h
  have hne : bl s ≠ [] := by intro e; have := bl_length s; rw [e] at this; simp at this; omega
  obtain ⟨c, r, e⟩ : ∃ c r, bl s = c :: r := by
   cases hb : bl s with
   | nil => exact absurd hb hne
   | cons c r => exact ⟨c, r, rfl⟩
  have hd : isDig c = true := by rw [e] at h3; simp at h3; exact h3.1
  have hdi := isDig_iff.1 hd
  have h45 : ¬ (bl s).head? = some 45 := by
   rw [e]; simp only [List.head?_cons, Option.some.injEq]
   intro hc; subst hc
   have : (45 : UInt8).toNat = 45 := rfl
   omega
  have hz : (bl s).head? ≠ some 48 ∨ ((bl s).length = 1 ∧ false = false) := by
   by_cases hv : valL (bl s) 0 = 0
   ·right
    rw [hv, digs_small (by omega)] at h
    rw [← h]; exact ⟨rfl, rfl⟩
   ·left
    intro hh
    rw [← h] at hh
    exact digs_head hv 48 hh rfl
  have hok : okDigs (bl s) 18 false = true := by
   unfold okDigs
   rw [h3, Bool.and_true]
   exact decide_eq_true ⟨hne, by rw [bl_length]; omega, hz⟩
  unfold rdD
  rw [if_neg h45, if_pos hok, decide_eq_true h]
 ·cases h
end Go.Pl

namespace Go.Pl
open Go.Ev
set_option linter.unusedVariables false
set_option linter.unusedSimpArgs false
noncomputable def numI (s : ByteArray) : Option Int := if (rdV s).2 = true then some (rdV s).1 else none
noncomputable def numJ (s : ByteArray) : Option Int := if (bl s).head? = some 45 then (match numI (ob (bl s).tail) with | some n => if 0 < n then some (-n) else none | none => none) else numI s
theorem rdV_ok {s : ByteArray} (h : (rdV s).2 = true) : 1 ≤ s.size ∧ s.size ≤ 13 ∧ (bl s).all isDig = true ∧ digs (valL (bl s) 0) = bl s ∧ (rdV s).1 = ((valL (bl s) 0 : Nat) : Int) := by
 unfold rdV at h ⊢
 split at h
 ·rename_i h1
  rw [if_pos h1]
  exact ⟨h1.1, h1.2.1, h1.2.2, by simpa using h, rfl⟩
 ·simp at h
theorem rdV_mk {s : ByteArray} (h1 : 1 ≤ s.size) (h2 : s.size ≤ 13) (h3 : (bl s).all isDig = true) (h4 : digs (valL (bl s) 0) = bl s) : rdV s = (((valL (bl s) 0 : Nat) : Int), true) := by
 unfold rdV
 rw [if_pos ⟨h1, h2, h3⟩, h4]; simp
theorem okDigs_iff {l : List UInt8} {m : Nat} {neg : Bool} : okDigs l m neg = true ↔ (l ≠ [] ∧ l.length ≤ m ∧ (l.head? ≠ some 48 ∨ (l.length = 1 ∧ neg = false))) ∧ l.all isDig = true := by
 unfold okDigs; simp only [Bool.and_eq_true, decide_eq_true_eq]
theorem rdD_pos {s : ByteArray} (h : (bl s).head? ≠ some 45) : rdD s = if okDigs (bl s) 18 false then (((valL (bl s) 0 : Nat) : Int), true) else (0, false) := by
 unfold rdD; rw [if_neg h]
theorem rdD_neg {s : ByteArray} (h : (bl s).head? = some 45) : rdD s = if okDigs (bl s).tail 18 true then (-((valL (bl s).tail 0 : Nat) : Int), true) else (0, false) := by
 unfold rdD; rw [if_pos h]
theorem okDigs_val {l : List UInt8} {m : Nat} {neg : Bool} (h : okDigs l m neg = true) : digs (valL l 0) = l := by
 obtain ⟨⟨h1, h2, h3⟩, h4⟩ := okDigs_iff.1 h
 refine digs_valL l h1 (fun c hc => List.all_eq_true.1 h4 c hc) ?_
 rcases h3 with h3 | h3
 ·exact .inr h3
 ·exact .inl h3.1
theorem okDigs_neg_pos {l : List UInt8} {m : Nat} (h : okDigs l m true = true) : 0 < valL l 0 := by
 have hv := okDigs_val h
 obtain ⟨⟨h1, h2, h3⟩, h4⟩ := okDigs_iff.1 h
 rcases Nat.eq_zero_or_pos (valL l 0) with h0 | h0
 ·rw [h0, digs_small (by omega)] at hv
  rcases h3 with h3 | h3
  ·exact absurd (by rw [← hv]; rfl) h3
  ·exact absurd h3.2 (by decide)
 ·exact h0
theorem size_bl (s : ByteArray) : s.size = (bl s).length := (bl_length s).symm
theorem numI_eq (s : ByteArray) : numI s = if (rdD s).2 = true ∧ 0 ≤ (rdD s).1 ∧ s.size ≤ 13 then some (rdD s).1 else none := by
 unfold numI
 by_cases h : (rdV s).2 = true
 ·obtain ⟨h1, h2, h3, h4, h5⟩ := rdV_ok h
  have e := rdV_rdD h
  rw [if_pos h, e, if_pos ⟨h, by rw [h5]; omega, h2⟩]
 ·rw [if_neg h]
  by_cases q : (rdD s).2 = true ∧ 0 ≤ (rdD s).1 ∧ s.size ≤ 13
  ·exfalso
   obtain ⟨q1, q2, q3⟩ := q
   by_cases hh : (bl s).head? = some 45
   ·have e := rdD_neg hh
    by_cases ho : okDigs (bl s).tail 18 true = true
    ·rw [if_pos ho] at e
     have := okDigs_neg_pos ho
     rw [e] at q2
     simp only at q2; omega
    ·rw [if_neg ho] at e
     rw [e] at q1; simp at q1
   ·have e := rdD_pos hh
    by_cases ho : okDigs (bl s) 18 false = true
    ·obtain ⟨⟨o1, o2, o3⟩, o4⟩ := okDigs_iff.1 ho
     have hl : 1 ≤ (bl s).length := List.length_pos_iff.2 o1
     have := rdV_mk (s := s) (by rw [size_bl]; exact hl) q3 o4 (okDigs_val ho)
     rw [this] at h; simp at h
    ·rw [if_neg ho] at e
     rw [e] at q1; simp at q1
  ·rw [if_neg q]
theorem numJ_eq (s : ByteArray) : numJ s = if (rdD s).2 = true ∧ ((rdD s).1 < 0 → s.size ≤ 14) ∧ (0 ≤ (rdD s).1 → s.size ≤ 13) then some (rdD s).1 else none := by
 unfold numJ
 by_cases hh : (bl s).head? = some 45
 ·rw [if_pos hh]
  have hs : s.size = (bl s).tail.length + 1 := by
   rw [size_bl]
   cases hb : bl s with
   | nil => rw [hb] at hh; simp at hh
   | cons a r => simp
  have e := rdD_neg hh
  by_cases ho : okDigs (bl s).tail 18 true = true
  ·have hp := okDigs_neg_pos ho
   have hv := okDigs_val ho
   obtain ⟨⟨o1, o2, o3⟩, o4⟩ := okDigs_iff.1 ho
   have hl : 1 ≤ (bl s).tail.length := List.length_pos_iff.2 o1
   rw [if_pos ho] at e
   rw [e]
   by_cases h13 : (bl s).tail.length ≤ 13
   ·have hm := rdV_mk (s := ob (bl s).tail) (by rw [ob_size]; exact hl) (by rw [ob_size]; exact h13) (by rw [bl_ob]; exact o4) (by rw [bl_ob]; exact hv)
    rw [bl_ob] at hm
    have hn : numI (ob (bl s).tail) = some ((valL (bl s).tail 0 : Nat) : Int) := by unfold numI; rw [hm]; rfl
    rw [hn, if_pos ⟨rfl, fun _ => by omega, fun h => by simp only at h; omega⟩]
    simp only
    rw [if_pos (by omega)]
   ·have hn : numI (ob (bl s).tail) = none := by
     unfold numI rdV
     rw [ob_size]
     have hq : ¬ (1 ≤ (bl s).tail.length ∧ (bl s).tail.length ≤ 13 ∧ (bl (ob (bl s).tail)).all isDig = true) := fun h => by omega
     rw [if_neg hq]; rfl
    rw [hn, if_neg]
    rintro ⟨_, h, _⟩
    have := h (show -((valL (bl s).tail 0 : Nat) : Int) < 0 by omega)
    omega
  ·rw [if_neg ho] at e
   rw [e, if_neg (by simp)]
   cases hn : numI (ob (bl s).tail) with
   | none => rfl
   | some n =>
    simp only
    by_cases h0 : 0 < n
    ·exfalso
     unfold numI at hn
     split at hn
     ·rename_i hr
      obtain ⟨r1, r2, r3, r4, r5⟩ := rdV_ok hr
      rw [ob_size] at r1 r2
      rw [bl_ob] at r3 r4 r5
      have hn' := Option.some.inj hn
      have hval : valL (bl s).tail 0 ≠ 0 := by
       intro h; rw [h] at r5; omega
      apply ho
      refine okDigs_iff.2 ⟨⟨List.length_pos_iff.1 r1, by omega, .inl ?_⟩, r3⟩
      intro hc
      have := digs_head hval 48 (by rw [r4]; exact hc)
      exact this rfl
     ·cases hn
    ·rw [if_neg h0]
 ·rw [if_neg hh, numI_eq]
  have hn0 : 0 ≤ (rdD s).1 := by
   rw [rdD_pos hh]
   split <;> simp only <;> omega
  by_cases q : (rdD s).2 = true ∧ 0 ≤ (rdD s).1 ∧ s.size ≤ 13
  ·rw [if_pos q, if_pos ⟨q.1, fun h => by omega, fun _ => q.2.2⟩]
  ·rw [if_neg q, if_neg]
   rintro ⟨a, b, c⟩
   exact q ⟨a, hn0, c hn0⟩
theorem numI_bd {s : ByteArray} {n : Int} (h : numI s = some n) : 0 ≤ n ∧ n ≤ 10000000000000 := by
 unfold numI at h
 split at h
 ·rename_i hr
  obtain ⟨r1, r2, r3, r4, r5⟩ := rdV_ok hr
  rw [← Option.some.inj h, r5]
  have hl := valL_lt (bl s) 0 (fun c hc => List.all_eq_true.1 r3 c hc)
  have hp : (10 : Nat) ^ (bl s).length ≤ 10 ^ 13 := Nat.pow_le_pow_right (by omega) (by rw [← size_bl]; exact r2)
  have e : (10 : Nat) ^ 13 = 10000000000000 := by decide
  omega
 ·cases h
theorem Qcf (s : ByteArray) (hs : s.size ≤ 1000000) : ∃ n b, Qaz.f s = some (n, b) ∧ numJ s = if b = true then some n else none := by
 revert hs
 refine ob_all (P := fun s => s.size ≤ 1000000 → ∃ n b, Qaz.f s = some (n, b) ∧ numJ s = if b = true then some n else none) ?_ s
 intro l hs
 unfold Qaz.f Qaz.fn Qaz.top numJ
 rw [bl_ob]
 cases l with
 | nil =>
  rw [if_neg (by simp [ob_size]), Qbx _ hs]
  exact ⟨(rdV (ob [])).1, (rdV (ob [])).2, rfl, by rw [if_neg (by simp)]; rfl⟩
 | cons a r =>
  rw [ob_size] at hs
  simp only [List.length_cons] at hs
  rw [if_pos (by simp [ob_size] <;> omega), if_pos ⟨by omega, by simp [ob_size] <;> omega⟩]
  have e0 : bt (ob (a :: r)) 0 = (a.toNat : Int) := rfl
  rw [e0]
  by_cases h : a = 45
  ·subst h
   have ex : (ob (45 :: r)).extract (1 : Int).toNat (ob (45 :: r)).size = ob r := by
    apply bl_inj
    rw [bl_ob, ob_size]
    simp [bl, ob]
   have e1 : ((((45 : UInt8).toNat : Int) == 45) = true) := by decide
   rw [if_pos e1, if_pos ⟨by omega, by simp [ob_size] <;> omega⟩, ex, Qbx _ (by rw [ob_size]; omega), Option.bind_some, if_pos (show ((45 : UInt8) :: r).head? = some 45 from rfl)]
   simp only [List.tail_cons]
   unfold numI
   by_cases hr : (rdV (ob r)).2 = true
   ·obtain ⟨r1, r2, r3, r4, r5⟩ := rdV_ok hr
    have hb := numI_bd (s := ob r) (n := (rdV (ob r)).1) (by unfold numI; rw [if_pos hr])
    have w := w64 (n := 0 - (rdV (ob r)).1) (by omega) (by omega)
    rw [if_pos hr, if_pos hr, w]
    refine ⟨_, _, rfl, ?_⟩
    simp only [decide_eq_true_eq]
    rw [show 0 - (rdV (ob r)).1 = -(rdV (ob r)).1 by omega]
   ·rw [if_neg hr, if_neg hr]
    exact ⟨_, _, rfl, by simp⟩
  ·have e1 : ¬ ((a.toNat : Int) == 45) = true := by
    intro q
    apply h
    have : (a.toNat : Int) = 45 := by simpa using q
    apply UInt8.toNat.inj
    show a.toNat = 45
    omega
   rw [if_neg e1, Qbx _ (by rw [ob_size]; simp; omega), if_neg (by simpa using h)]
   exact ⟨_, _, rfl, rfl⟩
end Go.Pl

namespace Go.Pl
open Go.Ev
set_option linter.unusedVariables false
set_option linter.unusedSimpArgs false
def joinF (sep : ByteArray) (i : Nat) (out s : ByteArray) : ByteArray := if 0 < i then (out ++ sep) ++ s else out ++ s
def joinB (sep : ByteArray) (xs : List ByteArray) : ByteArray := foldi (joinF sep) 0 ⟨#[]⟩ xs
theorem Qcp (xs : List ByteArray) (sep : ByteArray) (hx : ∀ s ∈ xs, s.size ≤ 1000000) (hl : xs.length ≤ 1000000) (hs : sep.size ≤ 1000000) : QX.f xs sep = some (joinB sep xs) ∧ (joinB sep xs).size ≤ 2000000 * xs.length := by
 have := fold_fix (E := fun s : ByteArray => s.size ≤ 1000000) (fun p st => st.size ≤ 2000000 * p.length) (joinF sep) some (fun k i st => QX.l3 NN k sep st xs xs.length i) xs ?_ ?_ (⟨#[]⟩ : ByteArray) hx (by simp; rfl) (by omega) NN (NN_lt (by omega))
 ·exact ⟨this.2, this.1⟩
 ·intro k st _
  simp [QX.l3, QX.g3]
 ·intro k p b r st hxs hb hI c0 c1 c2 cw g
  have z1 : (st ++ sep).size = st.size + sep.size := ByteArray.size_append
  have z2 : (st ++ sep ++ b).size = st.size + sep.size + b.size := by rw [ByteArray.size_append, z1]
  have z3 : (st ++ b).size = st.size + b.size := ByteArray.size_append
  have hp : p.length ≤ 1000000 := by omega
  refine ⟨?_, ?_⟩
  ·unfold joinF; rw [List.length_append, List.length_singleton]; split <;> omega
  ·have d1 : st.size + sep.size ≤ 9223372036854775807 := by omega
   have d2 : (st ++ sep).size + b.size ≤ 9223372036854775807 := by omega
   have d3 : st.size + b.size ≤ 9223372036854775807 := by omega
   simp only [QX.l3, QX.g3, c0, c1, cw, and_self, and_true, true_and, decide_true, decide_false, if_true, if_false, mid_get, mid_set, mid_getn, mid_setn, bt_mid, Option.bind_some, Bool.not_true, Bool.not_false, Bool.false_eq_true, Bool.true_eq_false, beq_self_eq_true, bne_self_eq_false, Int.toNat_natCast, g, d1, d2, d3, decide_eq_true_eq]
   unfold joinF
   by_cases h : 0 < p.length
   ·have : (0 : Int) < (p.length : Int) := by omega
    simp [h, this]
   ·have : ¬ (0 : Int) < (p.length : Int) := by omega
    simp [h, this]
theorem Qcq (xs : List ByteArray) (sep : ByteArray) (hx : ∀ s ∈ xs, s.size ≤ 1000000) (hl : xs.length ≤ 1000000) (hs : sep.size ≤ 1000000) : Q0.f xs sep = some (joinB sep xs) ∧ (joinB sep xs).size ≤ 2000000 * xs.length := by
 have := fold_fix (E := fun s : ByteArray => s.size ≤ 1000000) (fun p st => st.size ≤ 2000000 * p.length) (joinF sep) some (fun k i st => Q0.l3 NN k xs sep st i) xs ?_ ?_ (⟨#[]⟩ : ByteArray) hx (by simp; rfl) (by omega) NN (NN_lt (by omega))
 ·exact ⟨this.2, this.1⟩
 ·intro k st _
  simp [Q0.l3, Q0.g3]
 ·intro k p b r st hxs hb hI c0 c1 c2 cw g
  have z1 : (st ++ sep).size = st.size + sep.size := ByteArray.size_append
  have z2 : (st ++ sep ++ b).size = st.size + sep.size + b.size := by rw [ByteArray.size_append, z1]
  have z3 : (st ++ b).size = st.size + b.size := ByteArray.size_append
  have hp : p.length ≤ 1000000 := by omega
  refine ⟨?_, ?_⟩
  ·unfold joinF; rw [List.length_append, List.length_singleton]; split <;> omega
  ·have d1 : st.size + sep.size ≤ 9223372036854775807 := by omega
   have d2 : (st ++ sep).size + b.size ≤ 9223372036854775807 := by omega
   have d3 : st.size + b.size ≤ 9223372036854775807 := by omega
   simp only [Q0.l3, Q0.g3, c0, c1, cw, and_self, and_true, true_and, decide_true, decide_false, if_true, if_false, mid_get, mid_set, mid_getn, mid_setn, bt_mid, Option.bind_some, Bool.not_true, Bool.not_false, Bool.false_eq_true, Bool.true_eq_false, beq_self_eq_true, bne_self_eq_false, Int.toNat_natCast, g, d1, d2, d3, decide_eq_true_eq]
   unfold joinF
   by_cases h : 0 < p.length
   ·have : (0 : Int) < (p.length : Int) := by omega
    simp [h, this]
   ·have : ¬ (0 : Int) < (p.length : Int) := by omega
    simp [h, this]
end Go.Pl

namespace Go.Pl
open Go.Ev
set_option linter.unusedVariables false
set_option linter.unusedSimpArgs false
def glue (p : List UInt8) : List (List UInt8) → List (List UInt8)
 | [] => [p]
 | x :: xs => (p ++ x) :: xs
def splitL (b : UInt8) : List UInt8 → List (List UInt8)
 | [] => [[]]
 | c :: r => if c = b then [] :: splitL b r else glue [c] (splitL b r)
theorem splitL_ne (b : UInt8) (l : List UInt8) : splitL b l ≠ [] := by
  cases l with
  | nil => simp [splitL]
  | cons c r => simp only [splitL]; split
                · simp
                · cases splitL b r <;> simp [glue]
theorem glue_nil {x : List (List UInt8)} (h : x ≠ []) : glue [] x = x := by
 cases x with
 | nil => exact absurd rfl h
 | cons => rfl
theorem glue_glue (p q : List UInt8) (x : List (List UInt8)) : glue p (glue q x) = glue (p ++ q) x := by
 cases x <;> simp [glue]
theorem splitL_length (b : UInt8) (l : List UInt8) : (splitL b l).length ≤ l.length + 1 := by
 induction l with
 | nil => simp [splitL]
 | cons c r ih =>
  simp only [splitL]
  split
  ·simp; omega
  ·cases e : splitL b r with
   | nil => simp [glue]
   | cons y ys => rw [e] at ih; simp [glue] at ih ⊢; omega
theorem room_small {α : Type} (out : List α) (x : α) (h : out.length ≤ 2000000) : out.length + [x].length < room 16 := by rw [room16]; simp; omega
theorem ext_mid (q t r : List UInt8) : (ob (q ++ t ++ r)).extract q.length (q ++ t).length = ob t := by
 rw [ob_extract, List.take_left' rfl, List.drop_left' rfl]
theorem QcH (b : UInt8) : ∀ (r q t : List UInt8) (out : List ByteArray) (k : Nat), (q ++ t).length + r.length ≤ 1000000 → r.length < k → out.length ≤ (q ++ t).length →
  QZ.l4 NN k (ob (q ++ t ++ r)) (b.toNat : Int) (q.length : Int) ((q ++ t).length : Int) out = some (out ++ (glue t (splitL b r)).map ob) := by
 intro r
 induction r with
 | nil =>
  intro q t out k hb hk ho
  obtain ⟨k, rfl⟩ : ∃ j, k = j + 1 := ⟨k - 1, by omega⟩
  have hb' : q.length + t.length ≤ 1000000 := by simpa using hb
  rw [List.append_nil]
  have c1 : ¬ ((q ++ t).length : Int) < ((ob (q ++ t)).size : Int) := by rw [ob_size]; omega
  have c2 : (0 : Int) ≤ (q.length : Int) := by omega
  have c3 : (q.length : Int) ≤ ((ob (q ++ t)).size : Int) := by rw [ob_size, List.length_append]; omega
  have e : (ob (q ++ t)).extract q.length (ob (q ++ t)).size = ob t := by
   have := ext_mid q t []
   rw [List.append_nil] at this
   rw [ob_size]; exact this
  simp only [QZ.l4, QZ.g4, c1, c2, c3, and_self, and_true, true_and, decide_true, decide_false, if_true, if_false, mid_get, mid_set, mid_getn, mid_setn, bt_mid, Option.bind_some, Bool.not_true, Bool.not_false, Bool.false_eq_true, Bool.true_eq_false, beq_self_eq_true, bne_self_eq_false, Int.toNat_natCast, e]
  rw [if_pos (room_small _ _ (by simp at ho; omega))]
  simp [splitL, glue]
 | cons c r ih =>
  intro q t out k hb hk ho
  simp only [List.length_cons] at hb hk
  obtain ⟨k, rfl⟩ : ∃ j, k = j + 1 := ⟨k - 1, by omega⟩
  have hm := mid_len (q ++ t) r c
  have c0 : (0 : Int) ≤ ((q ++ t).length : Int) := by omega
  have c1 : ((q ++ t).length : Int) < ((ob (q ++ t ++ c :: r)).size : Int) := by rw [ob_size]; omega
  have c2 : (0 : Int) ≤ (q.length : Int) := by omega
  have c3 : (q.length : Int) ≤ ((q ++ t).length : Int) := by rw [List.length_append]; omega
  have c4 : ((q ++ t).length : Int) ≤ ((ob (q ++ t ++ c :: r)).size : Int) := by rw [ob_size]; omega
  have cw := w64 (n := ((q ++ t).length : Int) + 1) (by omega) (by omega)
  simp only [QZ.l4, QZ.g4, c0, c1, c2, c3, c4, cw, and_self, and_true, true_and, decide_true, decide_false, if_true, if_false, mid_get, mid_set, mid_getn, mid_setn, bt_mid, Option.bind_some, Bool.not_true, Bool.not_false, Bool.false_eq_true, Bool.true_eq_false, beq_self_eq_true, bne_self_eq_false, Int.toNat_natCast]
  by_cases hc : c = b
  ·subst hc
   simp only [and_self, and_true, true_and, decide_true, decide_false, if_true, if_false, mid_get, mid_set, mid_getn, mid_setn, bt_mid, Option.bind_some, Bool.not_true, Bool.not_false, Bool.false_eq_true, Bool.true_eq_false, beq_self_eq_true, bne_self_eq_false, Int.toNat_natCast]
   rw [if_pos (room_small _ _ (by rw [List.length_append] at ho hb; omega)), ext_mid]
   have := ih (q ++ t ++ [c]) [] (out ++ [ob t]) k (by simp at hb ⊢; omega) (by omega) (by simp at ho ⊢; omega)
   rw [List.append_nil, show (q ++ t ++ [c]) ++ r = q ++ t ++ c :: r by simp, snoc_len] at this
   rw [this, glue_nil (splitL_ne c r)]
   simp [splitL, glue]
  ·have hne : (((c.toNat : Int)) == (b.toNat : Int)) = false := by
    rw [beq_eq_false_iff_ne]; intro e; exact hc (UInt8.toNat_inj.mp (by omega))
   simp only [hne, and_self, and_true, true_and, decide_true, decide_false, if_true, if_false, mid_get, mid_set, mid_getn, mid_setn, bt_mid, Option.bind_some, Bool.not_true, Bool.not_false, Bool.false_eq_true, Bool.true_eq_false, beq_self_eq_true, bne_self_eq_false, Int.toNat_natCast]
   have := ih q (t ++ [c]) out k (by simp at hb ⊢; omega) (by omega) (by simp at ho ⊢; omega)
   rw [show q ++ (t ++ [c]) ++ r = q ++ t ++ c :: r by simp, show ((q ++ (t ++ [c])).length : Int) = ((q ++ t).length : Int) + 1 by simp; omega] at this
   rw [this]
   simp only [splitL, if_neg hc, glue_glue]
theorem QbO (s : ByteArray) (b : UInt8) (hs : s.size ≤ 1000000) : QZ.f s (b.toNat : Int) = some ((splitL b (bl s)).map ob) := by
 have := QcH b (bl s) [] [] [] NN (by simp [bl_length]; exact hs) (by rw [bl_length]; exact NN_lt (by omega)) (by simp)
 unfold QZ.f QZ.fn QZ.top
 simp only [List.nil_append, ob_bl, List.length_nil] at this
 rw [glue_nil (splitL_ne _ _)] at this
 exact this
theorem Qcr (b : UInt8) : ∀ (r q t : List UInt8) (out : List ByteArray) (k : Nat), (q ++ t).length + r.length ≤ 1000000 → r.length + 1 < k → out.length ≤ (q ++ t).length →
  QP.l4 NN k (ob (q ++ t ++ r)) (b.toNat : Int) (q.length : Int) ((q ++ t).length : Int) out = some (out ++ (glue t (splitL b r)).map ob) := by
 intro r
 induction r with
 | nil =>
  intro q t out k hb hk ho
  obtain ⟨k, rfl⟩ : ∃ j, k = j + 1 + 1 := ⟨k - 2, by simp at hk; omega⟩
  have hb' : q.length + t.length ≤ 1000000 := by simpa using hb
  have c1 : ((q ++ t).length : Int) ≤ ((ob (q ++ t ++ [])).size : Int) := by rw [ob_size, List.append_nil]; omega
  have c1e : (((q ++ t).length : Int) == ((ob (q ++ t ++ [])).size : Int)) = true := by rw [ob_size, List.append_nil]; simp
  have c2 : (0 : Int) ≤ (q.length : Int) := by omega
  have c3 : (q.length : Int) ≤ ((q ++ t).length : Int) := by rw [List.length_append]; omega
  have cw := w64 (n := ((q ++ t).length : Int) + 1) (by omega) (by omega)
  have c4 : ¬ ((q ++ t).length : Int) + 1 ≤ ((ob (q ++ t ++ [])).size : Int) := by rw [ob_size, List.append_nil]; omega
  simp only [QP.l4, QP.g4, c1, c1e, c2, c3, c4, cw, and_self, and_true, true_and, decide_true, decide_false, if_true, if_false, mid_get, mid_set, mid_getn, mid_setn, bt_mid, Option.bind_some, Bool.not_true, Bool.not_false, Bool.false_eq_true, Bool.true_eq_false, beq_self_eq_true, bne_self_eq_false, Int.toNat_natCast, ext_mid]
  rw [if_pos (room_small _ _ (by simp at ho; omega))]
  simp [splitL, glue]
 | cons c r ih =>
  intro q t out k hb hk ho
  simp only [List.length_cons] at hb hk
  obtain ⟨k, rfl⟩ : ∃ j, k = j + 1 := ⟨k - 1, by omega⟩
  have hm := mid_len (q ++ t) r c
  have c0 : (0 : Int) ≤ ((q ++ t).length : Int) := by omega
  have c1 : ((q ++ t).length : Int) < ((ob (q ++ t ++ c :: r)).size : Int) := by rw [ob_size]; omega
  have c2 : (0 : Int) ≤ (q.length : Int) := by omega
  have c3 : (q.length : Int) ≤ ((q ++ t).length : Int) := by rw [List.length_append]; omega
  have c4 : ((q ++ t).length : Int) ≤ ((ob (q ++ t ++ c :: r)).size : Int) := by rw [ob_size]; omega
  have c5 : (((q ++ t).length : Int) == ((ob (q ++ t ++ c :: r)).size : Int)) = false := by rw [beq_eq_false_iff_ne]; omega
  have cw := w64 (n := ((q ++ t).length : Int) + 1) (by omega) (by omega)
  simp only [QP.l4, QP.g4, c0, c1, c2, c3, c4, c5, cw, and_self, and_true, true_and, decide_true, decide_false, if_true, if_false, mid_get, mid_set, mid_getn, mid_setn, bt_mid, Option.bind_some, Bool.not_true, Bool.not_false, Bool.false_eq_true, Bool.true_eq_false, beq_self_eq_true, bne_self_eq_false, Int.toNat_natCast]
  by_cases hc : c = b
  ·subst hc
   simp only [and_self, and_true, true_and, decide_true, decide_false, if_true, if_false, mid_get, mid_set, mid_getn, mid_setn, bt_mid, Option.bind_some, Bool.not_true, Bool.not_false, Bool.false_eq_true, Bool.true_eq_false, beq_self_eq_true, bne_self_eq_false, Int.toNat_natCast]
   rw [if_pos (room_small _ _ (by rw [List.length_append] at ho hb; omega)), ext_mid]
   have := ih (q ++ t ++ [c]) [] (out ++ [ob t]) k (by simp at hb ⊢; omega) (by omega) (by simp at ho ⊢; omega)
   rw [List.append_nil, show (q ++ t ++ [c]) ++ r = q ++ t ++ c :: r by simp, snoc_len] at this
   rw [this, glue_nil (splitL_ne c r)]
   simp [splitL, glue]
  ·have hne : (((c.toNat : Int)) == (b.toNat : Int)) = false := by
    rw [beq_eq_false_iff_ne]; intro e; exact hc (UInt8.toNat_inj.mp (by omega))
   simp only [hne, and_self, and_true, true_and, decide_true, decide_false, if_true, if_false, mid_get, mid_set, mid_getn, mid_setn, bt_mid, Option.bind_some, Bool.not_true, Bool.not_false, Bool.false_eq_true, Bool.true_eq_false, beq_self_eq_true, bne_self_eq_false, Int.toNat_natCast]
   have := ih q (t ++ [c]) out k (by simp at hb ⊢; omega) (by omega) (by simp at ho ⊢; omega)
   rw [show q ++ (t ++ [c]) ++ r = q ++ t ++ c :: r by simp, show ((q ++ (t ++ [c])).length : Int) = ((q ++ t).length : Int) + 1 by simp; omega] at this
   rw [this]
   simp only [splitL, if_neg hc, glue_glue]
theorem QbK (s : ByteArray) (b : UInt8) (hs : s.size ≤ 1000000) : QP.f s (b.toNat : Int) = some ((splitL b (bl s)).map ob) := by
 have := Qcr b (bl s) [] [] [] NN (by simp [bl_length]; exact hs) (by rw [bl_length]; exact NN_lt (by omega)) (by simp)
 unfold QP.f QP.fn QP.top
 simp only [List.nil_append, ob_bl, List.length_nil] at this
 rw [glue_nil (splitL_ne _ _)] at this
 exact this
theorem splitL_size (b : UInt8) (l : List UInt8) : ∀ x ∈ splitL b l, x.length ≤ l.length := by
 induction l with
 | nil => simp [splitL]
 | cons c r ih =>
  simp only [splitL]
  split
  ·intro x hx
   rcases List.mem_cons.1 hx with rfl | hx
   ·simp
   ·have := ih x hx; simp; omega
  ·intro x hx
   cases e : splitL b r with
   | nil => exact absurd e (splitL_ne b r)
   | cons y ys =>
    rw [e] at hx ih
    rcases List.mem_cons.1 hx with rfl | hx
    ·have := ih y (by simp); simp; omega
    ·have := ih x (by simp [hx]); simp; omega
end Go.Pl

namespace Go.Pl
open Go.Ev
set_option linter.unusedVariables false
set_option linter.unusedSimpArgs false
def wPeople : ByteArray := ⟨#[112, 101, 111, 112, 108, 101]⟩
def wClear : ByteArray := ⟨#[99, 108, 101, 97, 114]⟩
def wSignal : ByteArray := ⟨#[115, 105, 103, 110, 97, 108]⟩
def wState : ByteArray := ⟨#[115, 116, 97, 116, 101]⟩
def wFire : ByteArray := ⟨#[102, 105, 114, 101]⟩
def wSettle : ByteArray := ⟨#[115, 101, 116, 116, 108, 101]⟩
def wTop : ByteArray := ⟨#[116, 111, 112]⟩
def wTime : ByteArray := ⟨#[116, 105, 109, 101]⟩
def wBook : ByteArray := ⟨#[98, 111, 111, 107]⟩
def wLeft : ByteArray := ⟨#[108, 101, 102, 116]⟩
def wOpen : ByteArray := ⟨#[111, 112, 101, 110]⟩
def wNeed : ByteArray := ⟨#[110, 101, 101, 100]⟩
def shpL (w : ByteArray) : Option (List UInt8) :=
 if w = wPeople then some [116, 105, 106]
 else if w = wClear then some [116, 105]
 else if w = wSignal then some [116, 105]
 else if w = wState then some [105]
 else if w = wFire then some [105]
 else if w = wSettle then some [105]
 else if w = wTop then some [105]
 else if w = wTime then some [105]
 else if w = wBook then some [116, 116, 105]
 else if w = wLeft then some [116]
 else if w = wOpen then some []
 else if w = wNeed then some [105, 105]
 else none
def upK (c : UInt8) : UInt8 := if c = 116 then 84 else if c = 105 then 73 else 74
theorem nbeq {a b : ByteArray} (h : ¬ a = b) : (a.toList == b.toList) = false := by rw [ba_beq]; simpa using h
theorem shape_cases (w : ByteArray) : (w = wPeople ∨ w = wClear ∨ w = wSignal ∨ w = wState ∨ w = wFire ∨ w = wSettle ∨ w = wTop ∨ w = wTime ∨ w = wBook ∨ w = wLeft ∨ w = wOpen ∨ w = wNeed) ∨ (shpL w = none ∧ Qao.f w = some (⟨#[]⟩, false) ∧ QaT.f w = some ⟨#[45]⟩) := by
 by_cases h1 : w = wPeople
 ·simp [h1]
 by_cases h2 : w = wClear
 ·simp [h2]
 by_cases h3 : w = wSignal
 ·simp [h3]
 by_cases h4 : w = wState
 ·simp [h4]
 by_cases h5 : w = wFire
 ·simp [h5]
 by_cases h6 : w = wSettle
 ·simp [h6]
 by_cases h7 : w = wTop
 ·simp [h7]
 by_cases h8 : w = wTime
 ·simp [h8]
 by_cases h9 : w = wBook
 ·simp [h9]
 by_cases h10 : w = wLeft
 ·simp [h10]
 by_cases h11 : w = wOpen
 ·simp [h11]
 by_cases h12 : w = wNeed
 ·simp [h12]
 right
 have b1 := nbeq h1
 have b2 := nbeq h2
 have b3 := nbeq h3
 have b4 := nbeq h4
 have b5 := nbeq h5
 have b6 := nbeq h6
 have b7 := nbeq h7
 have b8 := nbeq h8
 have b9 := nbeq h9
 have b10 := nbeq h10
 have b11 := nbeq h11
 have b12 := nbeq h12
 unfold wPeople at b1
 unfold wClear at b2
 unfold wSignal at b3
 unfold wState at b4
 unfold wFire at b5
 unfold wSettle at b6
 unfold wTop at b7
 unfold wTime at b8
 unfold wBook at b9
 unfold wLeft at b10
 unfold wOpen at b11
 unfold wNeed at b12
 refine ⟨?_, ?_, ?_⟩
 ·unfold shpL
  rw [if_neg h1, if_neg h2, if_neg h3, if_neg h4, if_neg h5, if_neg h6, if_neg h7, if_neg h8, if_neg h9, if_neg h10, if_neg h11, if_neg h12]
 ·unfold Qao.f Qao.fn Qao.top
  simp only [b1, b2, b3, b4, b5, b6, b7, b8, b9, b10, b11, b12, Bool.false_eq_true, if_false]
 ·unfold QaT.f QaT.fn QaT.top
  simp only [b1, b2, b3, b4, b5, b6, b7, b8, b9, b10, b11, b12, Bool.false_eq_true, if_false]
theorem shape_some {w : ByteArray} {l : List UInt8} (h : shpL w = some l) : Qao.f w = some (ob l, true) ∧ QaT.f w = some (ob (l.map upK)) ∧ (∀ c ∈ l, c = 116 ∨ c = 105 ∨ c = 106) ∧ l.length ≤ 3 := by
 rcases shape_cases w with (rfl | rfl | rfl | rfl | rfl | rfl | rfl | rfl | rfl | rfl | rfl | rfl) | ⟨h1, _⟩
 all_goals first
  | (rw [h1] at h; cases h)
  | (have hl := Option.some.inj h; subst hl; exact ⟨by decide +kernel, by decide +kernel, by decide, by decide⟩)
theorem shape_none {w : ByteArray} (h : shpL w = none) : Qao.f w = some (⟨#[]⟩, false) ∧ QaT.f w = some ⟨#[45]⟩ := by
 rcases shape_cases w with (rfl | rfl | rfl | rfl | rfl | rfl | rfl | rfl | rfl | rfl | rfl | rfl) | ⟨h1, h2⟩
 all_goals first
  | exact h2
  | (exfalso; revert h; decide +kernel)
end Go.Pl

namespace Go.Pl
open Go.Ev
set_option linter.unusedVariables false
set_option linter.unusedSimpArgs false
noncomputable def prs : List UInt8 → List ByteArray → Option (List ByteArray × List Int)
 | [], _ => some ([], [])
 | _ :: _, [] => none
 | c :: r, w :: ws => if c = 116 then (match prs r ws with | some y => some (w :: y.1, y.2) | none => none)
   else (match (if c = 105 then numI w else numJ w) with
    | some x => (match prs r ws with | some y => some (y.1, x :: y.2) | none => none)
    | none => none)
theorem room16w {n : Nat} (h : n ≤ 2000000) : n < room 16 := by rw [room16]; omega
theorem room8w {n : Nat} (h : n ≤ 2000000) : n < room 8 := by rw [room8]; omega
def cmdOut (a : ByteArray) (w5 : List ByteArray) (w6 : List Int) : Option (List ByteArray × List Int) → (ByteArray × List ByteArray × List Int) × Bool
 | some y => ((a, (w5 ++ y.1, w6 ++ y.2)), true)
 | none => ((ByteArray.empty, ([], [])), false)
theorem QcW (v2a c7a w0 : ByteArray) (w3 : List ByteArray) (w4 : List Int) : ∀ (r p : List UInt8) (wr wp : List ByteArray) (w5 : List ByteArray) (w6 : List Int) (k : Nat), wp.length = p.length → wr.length = r.length → p.length + r.length ≤ 1000 → w5.length ≤ p.length → w6.length ≤ p.length → (∀ c ∈ r, c = 116 ∨ c = 105 ∨ c = 106) → (∀ w ∈ wr, w.size ≤ 1000000) → r.length < k →
  Qx.l7 NN k (ob (p ++ r)) p.length v2a (w0 :: (wp ++ wr)) c7a w3 w4 w5 w6 = some (cmdOut c7a w5 w6 (prs r wr)) := by
 intro r
 induction r with
 | nil =>
  intro p wr wp w5 w6 k _ _ _ _ _ _ _ hk
  obtain ⟨k, rfl⟩ : ∃ j, k = j + 1 := ⟨k - 1, by omega⟩
  simp [Qx.l7, Qx.g7, prs, cmdOut, ob_size]
 | cons c r ih =>
  intro p wr wp w5 w6 k hwp hwr hl h5 h6 hc hz hk
  simp only [List.length_cons] at hl hk hwr
  obtain ⟨k, rfl⟩ : ∃ j, k = j + 1 := ⟨k - 1, by omega⟩
  cases wr with
  | nil => simp at hwr
  | cons w ws =>
   simp only [List.length_cons] at hwr
   have hln := mid_len p r c
   have c0 : (0 : Int) ≤ (p.length : Int) := by omega
   have c1 : (p.length : Int) < ((ob (p ++ c :: r)).size : Int) := by rw [ob_size]; omega
   have cw := w64 (n := (p.length : Int) + 1) (by omega) (by omega)
   have c2 : (0 : Int) ≤ (p.length : Int) + 1 := by omega
   have c3 : (p.length : Int) + 1 < ((w0 :: (wp ++ w :: ws)).length : Int) := by simp; omega
   have g : ∀ z, (w0 :: (wp ++ w :: ws)).getD ((p.length : Int) + 1).toNat z = w := fun z => by
    rw [show ((p.length : Int) + 1).toNat = p.length + 1 by omega, List.getD_cons_succ, ← hwp]
    exact mid_getn wp ws w z
   have hsz := hz w (by simp)
   have i := fun a b ha hb => ih (p ++ [c]) ws (wp ++ [w]) a b k (by simp; omega) (by omega) (by simp; omega) ha hb (fun x hx => hc x (by simp [hx])) (fun x hx => hz x (by simp [hx])) (by omega)
   simp only [mid_snoc, snoc_len] at i
   have e2 : (p ++ [c]).length = p.length + 1 := by simp
   rw [e2] at i
   have r16 : w5.length + [w].length < room 16 := room16w (by simp; omega)
   have r8 : ∀ x : Int, w6.length + [x].length < room 8 := fun x => room8w (by simp; omega)
   rcases hc c (by simp) with rfl | rfl | rfl
   ·have e : (((116 : UInt8).toNat : Int) == 116) = true := by decide
    simp only [Qx.l7, Qx.g7, c0, c1, cw, c2, c3, g, e, r16, and_self, and_true, true_and, decide_true, decide_false, if_true, if_false, mid_get, mid_set, mid_getn, mid_setn, bt_mid, Option.bind_some, Bool.not_true, Bool.not_false, Bool.false_eq_true, Bool.true_eq_false, beq_self_eq_true, bne_self_eq_false, Int.toNat_natCast, prs]
    rw [i (w5 ++ [w]) w6 (by simp; omega) (by omega)]
    cases prs r ws with
    | none => rfl
    | some y => simp [cmdOut]
   ·have e : (((105 : UInt8).toNat : Int) == 116) = false := by decide
    have e' : (((105 : UInt8).toNat : Int) == 105) = true := by decide
    have n1 : ¬ ((105 : UInt8) = 116) := by decide
    have ws1 := w64 (n := (w.size : Int) - 1) (by omega) (by omega)
    simp only [Qx.l7, Qx.g7, c0, c1, cw, c2, c3, g, e, e', r8, and_self, and_true, true_and, decide_true, decide_false, if_true, if_false, mid_get, mid_set, mid_getn, mid_setn, bt_mid, Option.bind_some, Bool.not_true, Bool.not_false, Bool.false_eq_true, Bool.true_eq_false, beq_self_eq_true, bne_self_eq_false, Int.toNat_natCast, prs, n1, QbG w hsz, ws1, numI_eq]
    generalize rdD w = d
    obtain ⟨n, b⟩ := d
    by_cases hn : n < 0
    ·have n0 : ¬ (0 : Int) ≤ n := by omega
     simp only [hn, n0, and_self, and_true, true_and, decide_true, decide_false, if_true, if_false, mid_get, mid_set, mid_getn, mid_setn, bt_mid, Option.bind_some, Bool.not_true, Bool.not_false, Bool.false_eq_true, Bool.true_eq_false, beq_self_eq_true, bne_self_eq_false, Int.toNat_natCast, and_false, false_and]
     cases b
     ·rfl
     ·by_cases hs : (13 : Int) < (w.size : Int) - 1 <;> simp only [hs, and_self, and_true, true_and, decide_true, decide_false, if_true, if_false, mid_get, mid_set, mid_getn, mid_setn, bt_mid, Option.bind_some, Bool.not_true, Bool.not_false, Bool.false_eq_true, Bool.true_eq_false, beq_self_eq_true, bne_self_eq_false, Int.toNat_natCast] <;> rfl
    ·have n0 : (0 : Int) ≤ n := by omega
     simp only [hn, n0, and_self, and_true, true_and, decide_true, decide_false, if_true, if_false, mid_get, mid_set, mid_getn, mid_setn, bt_mid, Option.bind_some, Bool.not_true, Bool.not_false, Bool.false_eq_true, Bool.true_eq_false, beq_self_eq_true, bne_self_eq_false, Int.toNat_natCast]
     cases b
     ·simp only [and_self, and_true, true_and, decide_true, decide_false, if_true, if_false, mid_get, mid_set, mid_getn, mid_setn, bt_mid, Option.bind_some, Bool.not_true, Bool.not_false, Bool.false_eq_true, Bool.true_eq_false, beq_self_eq_true, bne_self_eq_false, Int.toNat_natCast, false_and]; rfl
     ·by_cases hs : (13 : Int) < (w.size : Int)
      ·have hs' : ¬ w.size ≤ 13 := by omega
       simp only [hs, hs', and_self, and_true, true_and, decide_true, decide_false, if_true, if_false, mid_get, mid_set, mid_getn, mid_setn, bt_mid, Option.bind_some, Bool.not_true, Bool.not_false, Bool.false_eq_true, Bool.true_eq_false, beq_self_eq_true, bne_self_eq_false, Int.toNat_natCast, and_false]; rfl
      ·have hs' : w.size ≤ 13 := by omega
       simp only [hs, hs', and_self, and_true, true_and, decide_true, decide_false, if_true, if_false, mid_get, mid_set, mid_getn, mid_setn, bt_mid, Option.bind_some, Bool.not_true, Bool.not_false, Bool.false_eq_true, Bool.true_eq_false, beq_self_eq_true, bne_self_eq_false, Int.toNat_natCast]
       rw [i w5 (w6 ++ [n]) (by omega) (by simp; omega)]
       cases prs r ws with
       | none => rfl
       | some y => simp [cmdOut]
   ·have e : (((106 : UInt8).toNat : Int) == 116) = false := by decide
    have e' : (((106 : UInt8).toNat : Int) == 105) = false := by decide
    have n1 : ¬ ((106 : UInt8) = 116) := by decide
    have n2 : ¬ ((106 : UInt8) = 105) := by decide
    have ws1 := w64 (n := (w.size : Int) - 1) (by omega) (by omega)
    simp only [Qx.l7, Qx.g7, c0, c1, cw, c2, c3, g, e, e', r8, and_self, and_true, true_and, decide_true, decide_false, if_true, if_false, mid_get, mid_set, mid_getn, mid_setn, bt_mid, Option.bind_some, Bool.not_true, Bool.not_false, Bool.false_eq_true, Bool.true_eq_false, beq_self_eq_true, bne_self_eq_false, Int.toNat_natCast, prs, n1, n2, QbG w hsz, ws1, numJ_eq]
    generalize rdD w = d
    obtain ⟨n, b⟩ := d
    by_cases hn : n < 0
    ·have n0 : ¬ (0 : Int) ≤ n := by omega
     simp only [hn, n0, and_self, and_true, true_and, decide_true, decide_false, if_true, if_false, mid_get, mid_set, mid_getn, mid_setn, bt_mid, Option.bind_some, Bool.not_true, Bool.not_false, Bool.false_eq_true, Bool.true_eq_false, beq_self_eq_true, bne_self_eq_false, Int.toNat_natCast, false_implies, true_implies]
     cases b
     ·simp only [and_self, and_true, true_and, decide_true, decide_false, if_true, if_false, mid_get, mid_set, mid_getn, mid_setn, bt_mid, Option.bind_some, Bool.not_true, Bool.not_false, Bool.false_eq_true, Bool.true_eq_false, beq_self_eq_true, bne_self_eq_false, Int.toNat_natCast, false_and]; rfl
     ·by_cases hs : (13 : Int) < (w.size : Int) - 1
      ·have hs' : ¬ w.size ≤ 14 := by omega
       simp only [hs, hs', and_self, and_true, true_and, decide_true, decide_false, if_true, if_false, mid_get, mid_set, mid_getn, mid_setn, bt_mid, Option.bind_some, Bool.not_true, Bool.not_false, Bool.false_eq_true, Bool.true_eq_false, beq_self_eq_true, bne_self_eq_false, Int.toNat_natCast, and_false]; rfl
      ·have hs' : w.size ≤ 14 := by omega
       simp only [hs, hs', and_self, and_true, true_and, decide_true, decide_false, if_true, if_false, mid_get, mid_set, mid_getn, mid_setn, bt_mid, Option.bind_some, Bool.not_true, Bool.not_false, Bool.false_eq_true, Bool.true_eq_false, beq_self_eq_true, bne_self_eq_false, Int.toNat_natCast]
       rw [i w5 (w6 ++ [n]) (by omega) (by simp; omega)]
       cases prs r ws with
       | none => rfl
       | some y => simp [cmdOut]
    ·have n0 : (0 : Int) ≤ n := by omega
     simp only [hn, n0, and_self, and_true, true_and, decide_true, decide_false, if_true, if_false, mid_get, mid_set, mid_getn, mid_setn, bt_mid, Option.bind_some, Bool.not_true, Bool.not_false, Bool.false_eq_true, Bool.true_eq_false, beq_self_eq_true, bne_self_eq_false, Int.toNat_natCast, false_implies, true_implies]
     cases b
     ·simp only [and_self, and_true, true_and, decide_true, decide_false, if_true, if_false, mid_get, mid_set, mid_getn, mid_setn, bt_mid, Option.bind_some, Bool.not_true, Bool.not_false, Bool.false_eq_true, Bool.true_eq_false, beq_self_eq_true, bne_self_eq_false, Int.toNat_natCast, false_and]; rfl
     ·by_cases hs : (13 : Int) < (w.size : Int)
      ·have hs' : ¬ w.size ≤ 13 := by omega
       simp only [hs, hs', and_self, and_true, true_and, decide_true, decide_false, if_true, if_false, mid_get, mid_set, mid_getn, mid_setn, bt_mid, Option.bind_some, Bool.not_true, Bool.not_false, Bool.false_eq_true, Bool.true_eq_false, beq_self_eq_true, bne_self_eq_false, Int.toNat_natCast, and_false]; rfl
      ·have hs' : w.size ≤ 13 := by omega
       simp only [hs, hs', and_self, and_true, true_and, decide_true, decide_false, if_true, if_false, mid_get, mid_set, mid_getn, mid_setn, bt_mid, Option.bind_some, Bool.not_true, Bool.not_false, Bool.false_eq_true, Bool.true_eq_false, beq_self_eq_true, bne_self_eq_false, Int.toNat_natCast]
       rw [i w5 (w6 ++ [n]) (by omega) (by simp; omega)]
       cases prs r ws with
       | none => rfl
       | some y => simp [cmdOut]
def prsOut (words : List ByteArray) (n7 : List Int) : Option (List ByteArray × List Int) → List ByteArray × List Int × Bool
 | some y => (words, (n7 ++ y.2, true))
 | none => ([], ([], false))
theorem QcX (w0 : ByteArray) : ∀ (r : List UInt8) (p : List UInt8) (wr wp : List ByteArray) (n7 : List Int) (k : Nat), wp.length = p.length → wr.length = r.length → p.length + r.length ≤ 1000 → n7.length ≤ p.length → (∀ c ∈ r, c = 116 ∨ c = 105 ∨ c = 106) → (∀ w ∈ wr, w.size ≤ 1000000) → r.length < k →
  Qn.l7 NN k (ob (p ++ r.map upK)) p.length (w0 :: (wp ++ wr)) n7 = some (prsOut (w0 :: (wp ++ wr)) n7 (prs r wr)) := by
 intro r
 induction r with
 | nil =>
  intro p wr wp n7 k _ _ _ _ _ _ hk
  obtain ⟨k, rfl⟩ : ∃ j, k = j + 1 := ⟨k - 1, by omega⟩
  simp [Qn.l7, Qn.g7, prs, prsOut, ob_size]
 | cons c r ih =>
  intro p wr wp n7 k hwp hwr hl h7 hc hz hk
  simp only [List.length_cons] at hl hk hwr
  obtain ⟨k, rfl⟩ : ∃ j, k = j + 1 := ⟨k - 1, by omega⟩
  cases wr with
  | nil => simp at hwr
  | cons w ws =>
   simp only [List.length_cons] at hwr
   have hln := mid_len p (r.map upK) (upK c)
   have c0 : (0 : Int) ≤ (p.length : Int) := by omega
   have c1 : (p.length : Int) < ((ob (p ++ upK c :: r.map upK)).size : Int) := by rw [ob_size]; omega
   have cw := w64 (n := (p.length : Int) + 1) (by omega) (by omega)
   have c2 : (0 : Int) ≤ (p.length : Int) + 1 := by omega
   have c3 : (p.length : Int) + 1 < ((w0 :: (wp ++ w :: ws)).length : Int) := by simp; omega
   have g : ∀ z, (w0 :: (wp ++ w :: ws)).getD ((p.length : Int) + 1).toNat z = w := fun z => by
    rw [show ((p.length : Int) + 1).toNat = p.length + 1 by omega, List.getD_cons_succ, ← hwp]
    exact mid_getn wp ws w z
   have hsz := hz w (by simp)
   have i := fun a ha => ih (p ++ [upK c]) ws (wp ++ [w]) a k (by simp; omega) (by omega) (by simp; omega) ha (fun x hx => hc x (by simp [hx])) (fun x hx => hz x (by simp [hx])) (by omega)
   simp only [mid_snoc, snoc_len] at i
   have e2 : (p ++ [upK c]).length = p.length + 1 := by simp
   rw [e2] at i
   have r8 : ∀ x : Int, n7.length + [x].length < room 8 := fun x => room8w (by simp; omega)
   rw [List.map_cons]
   rcases hc c (by simp) with rfl | rfl | rfl
   ·have e : (((upK 116).toNat : Int) == 73) = false := by decide
    have e' : (((upK 116).toNat : Int) == 74) = false := by decide
    simp only [Qn.l7, Qn.g7, c0, c1, cw, e, e', and_self, and_true, true_and, decide_true, decide_false, if_true, if_false, mid_get, mid_set, mid_getn, mid_setn, bt_mid, Option.bind_some, Bool.not_true, Bool.not_false, Bool.false_eq_true, Bool.true_eq_false, beq_self_eq_true, bne_self_eq_false, Int.toNat_natCast, prs]
    rw [i n7 (by omega)]
    cases prs r ws <;> rfl
   ·have e : (((upK 105).toNat : Int) == 73) = true := by decide
    have n1 : ¬ ((105 : UInt8) = 116) := by decide
    simp only [Qn.l7, Qn.g7, c0, c1, cw, c2, c3, g, e, r8, and_self, and_true, true_and, decide_true, decide_false, if_true, if_false, mid_get, mid_set, mid_getn, mid_setn, bt_mid, Option.bind_some, Bool.not_true, Bool.not_false, Bool.false_eq_true, Bool.true_eq_false, beq_self_eq_true, bne_self_eq_false, Int.toNat_natCast, prs, n1, Qbx w hsz]
    unfold numI
    by_cases hv : (rdV w).2 = true
    ·rw [hv]
     simp only [and_self, and_true, true_and, decide_true, decide_false, if_true, if_false, mid_get, mid_set, mid_getn, mid_setn, bt_mid, Option.bind_some, Bool.not_true, Bool.not_false, Bool.false_eq_true, Bool.true_eq_false, beq_self_eq_true, bne_self_eq_false, Int.toNat_natCast]
     rw [i (n7 ++ [(rdV w).1]) (by simp; omega)]
     cases prs r ws with
     | none => rfl
     | some y => simp [prsOut]
    ·have hv' : (rdV w).2 = false := by simpa using hv
     rw [hv']
     rfl
   ·have e : (((upK 106).toNat : Int) == 73) = false := by decide
    have e' : (((upK 106).toNat : Int) == 74) = true := by decide
    have n1 : ¬ ((106 : UInt8) = 116) := by decide
    have n2 : ¬ ((106 : UInt8) = 105) := by decide
    obtain ⟨n, b, s1, s2⟩ := Qcf w hsz
    simp only [Qn.l7, Qn.g7, c0, c1, cw, c2, c3, g, e, e', r8, and_self, and_true, true_and, decide_true, decide_false, if_true, if_false, mid_get, mid_set, mid_getn, mid_setn, bt_mid, Option.bind_some, Bool.not_true, Bool.not_false, Bool.false_eq_true, Bool.true_eq_false, beq_self_eq_true, bne_self_eq_false, Int.toNat_natCast, prs, n1, n2, s1, s2]
    cases b
    ·rfl
    ·simp only [and_self, and_true, true_and, decide_true, decide_false, if_true, if_false, mid_get, mid_set, mid_getn, mid_setn, bt_mid, Option.bind_some, Bool.not_true, Bool.not_false, Bool.false_eq_true, Bool.true_eq_false, beq_self_eq_true, bne_self_eq_false, Int.toNat_natCast]
     rw [i (n7 ++ [n]) (by simp; omega)]
     cases prs r ws with
     | none => rfl
     | some y => simp [prsOut]
end Go.Pl
