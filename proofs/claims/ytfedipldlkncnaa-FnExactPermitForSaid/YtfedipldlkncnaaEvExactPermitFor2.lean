/- Part 2 of what the law FnExactPermitFor stands on: an evaluator of the model's code, proved sound; the functions as plain texts; their contracts. -/
import Derived.Test.YtfedipldlkncnaaChecked
import Derived.Test.YtfedipldlkncnaaProg
import Derived.Test.YtfedipldlkncnaaRows
import Derived.Below
import Derived.Calls
import Derived.Carry
import Derived.ChangeArms
import Derived.ChangeKeysEq
import Derived.ChangeOld
import Derived.Deep.Quiet
import Derived.KernelRfl
import Derived.Laws.Append
import Derived.Laws.BytesString
import Derived.Laws.MakeOwn
import Derived.Laws.Strings
import Derived.Laws.StructEq
import Derived.OpenShut
import Derived.OrdersHeld
import Derived.ProofKit
import Derived.ShutString
import Derived.SizedLaws
import Derived.Tactics
import Derived.WalkKit
import Derived.WideShapes
import Derived.Test.YtfedipldlkncnaaEvExactPermitFor1
namespace Go.Ev.Try
open Go.Proofs Go.Pl
set_option linter.unusedVariables false
noncomputable section
def laws_fillerArticle.con : Con := { ps := [], rs := [(.val, (.pair .str (.pair (.int .i64) (.pair (.int .i64) (.pair (.int .i64) (.pair (.int .i64) (.pair (.int .i64) (.pair (.int .i64) (.pair (.int .i64) (.int .i64))))))))))], F := fun x => laws_fillerArticle.f  }
def laws_fillerArticle.cs : List (FuncId × Con) := []
def laws_fillerArticle.E : Env := envOf tab laws_fillerArticle.cs 0 false
def laws_fillerArticle.keep (i : Nat) : List Nat := []
set_option maxRecDepth 100000 in
theorem laws_fillerArticle.body (n : Nat) (x : Unit) : bodyF laws_fillerArticle.E laws_fillerArticle.keep n Try.f79 laws_fillerArticle.con x = laws_fillerArticle.fn n  := by
  have h : bodyF laws_fillerArticle.E laws_fillerArticle.keep n Try.f79 laws_fillerArticle.con x = laws_fillerArticle.top  := by kernel_rfl
  exact h
set_option maxRecDepth 100000 in
theorem laws_fillerArticle.good : Good Try.prog 79 laws_fillerArticle.con :=
  good_of tabok (cs := laws_fillerArticle.cs) trivial 0 false (fn := Try.f79) Try.func79 rfl (by decide) (by simp [laws_fillerArticle.con]) laws_fillerArticle.keep NN (fun _ => rfl) (fun x => laws_fillerArticle.body NN x)
end
end Go.Ev.Try

namespace Go.Ev.Try
open Go.Proofs Go.Pl
set_option linter.unusedVariables false
noncomputable section
def laws_toArticleS.st9 (a0 : List (ByteArray × Int × Int × Int × Int × Int × Int × Int × Int)) (i7 : Int) (out5 : List (ByteArray × Int × Int × Int × Int × Int × Int × Int × Int)) : St := ⟨[.dat (.sl 92 (.pair .str (.pair (.int .i64) (.pair (.int .i64) (.pair (.int .i64) (.pair (.int .i64) (.pair (.int .i64) (.pair (.int .i64) (.pair (.int .i64) (.int .i64)))))))))) a0, .gone, .gone, .gone, .gone, .ref 0, .gone, .dat (.int .i64) i7, .gone, .gone, .gone, .gone, .gone, .gone, .gone, .gone, .gone, .gone, .gone, .gone, .gone, .gone, .gone, .gone, .gone, .gone, .gone, .gone, .gone, .gone, .gone, .gone, .gone, .gone, .gone, .gone, .gone, .gone, .gone, .gone, .gone, .gone, .gone, .gone, .gone, .gone, .gone, .gone, .gone, .gone, .gone], [.row 95 (.pair .str (.pair (.int .i64) (.pair (.int .i64) (.pair (.int .i64) (.pair (.int .i64) (.pair (.int .i64) (.pair (.int .i64) (.pair (.int .i64) (.int .i64))))))))) out5 none]⟩
def laws_toArticleS.st5 (a0 : List (ByteArray × Int × Int × Int × Int × Int × Int × Int × Int)) (i6 : Int) (out5 : List (ByteArray × Int × Int × Int × Int × Int × Int × Int × Int)) : St := ⟨[.dat (.sl 92 (.pair .str (.pair (.int .i64) (.pair (.int .i64) (.pair (.int .i64) (.pair (.int .i64) (.pair (.int .i64) (.pair (.int .i64) (.pair (.int .i64) (.int .i64)))))))))) a0, .gone, .gone, .gone, .gone, .ref 0, .dat (.int .i64) i6, .gone, .gone, .gone, .gone, .gone, .gone, .gone, .gone, .gone, .gone, .gone, .gone, .gone, .gone, .gone, .gone, .gone, .gone, .gone, .gone, .gone, .gone, .gone, .gone, .gone, .gone, .gone, .gone, .gone, .gone, .gone, .gone, .gone, .gone, .gone, .gone, .gone, .gone, .gone, .gone, .gone, .gone, .gone, .gone], [.row 95 (.pair .str (.pair (.int .i64) (.pair (.int .i64) (.pair (.int .i64) (.pair (.int .i64) (.pair (.int .i64) (.pair (.int .i64) (.pair (.int .i64) (.int .i64))))))))) out5 none]⟩
def laws_toArticleS.con : Con := { ps := [(.val, (.sl 92 (.pair .str (.pair (.int .i64) (.pair (.int .i64) (.pair (.int .i64) (.pair (.int .i64) (.pair (.int .i64) (.pair (.int .i64) (.pair (.int .i64) (.int .i64))))))))))), (.val, .bool)], rs := [(.own, (.slb 95 (.pair .str (.pair (.int .i64) (.pair (.int .i64) (.pair (.int .i64) (.pair (.int .i64) (.pair (.int .i64) (.pair (.int .i64) (.pair (.int .i64) (.int .i64)))))))))))], F := fun x => laws_toArticleS.f x.1 x.2 }
def laws_toArticleS.cs : List (FuncId × Con) := [(58, laws_roomBehind.con), (78, laws_toArticle.con), (79, laws_fillerArticle.con)]
def laws_toArticleS.E : Env := envOf tab laws_toArticleS.cs 0 true
def laws_toArticleS.keep (i : Nat) : List Nat := if i = 9 then [0, 5, 7] else if i = 5 then [0, 5, 6] else []
def laws_toArticleS.at9 (n : Nat) (x : (List (ByteArray × Int × Int × Int × Int × Int × Int × Int × Int)) × Bool) : Code × (Ex → St → Option ((List (ByteArray × Int × Int × Int × Int × Int × Int × Int × Int) × List (ByteArray × Int × Int × Int × Int × Int × Int × Int × Int)))) := ctx laws_toArticleS.E laws_toArticleS.keep n [.snd, .snd, .snd, .snd, .fst, .snd, .blk] (codeOf Try.f32) (kEnd laws_toArticleS.E Try.f32 laws_toArticleS.con x)
def laws_toArticleS.LN9 (n : Nat) (x : (List (ByteArray × Int × Int × Int × Int × Int × Int × Int × Int)) × Bool) : Nat → St → Option ((List (ByteArray × Int × Int × Int × Int × Int × Int × Int × Int) × List (ByteArray × Int × Int × Int × Int × Int × Int × Int × Int))) := loopN (exec laws_toArticleS.E laws_toArticleS.keep n (bodyOf (laws_toArticleS.at9 n x).1)) (St.norm 0 (laws_toArticleS.keep 9)) (laws_toArticleS.at9 n x).2
def laws_toArticleS.at5 (n : Nat) (x : (List (ByteArray × Int × Int × Int × Int × Int × Int × Int × Int)) × Bool) : Code × (Ex → St → Option ((List (ByteArray × Int × Int × Int × Int × Int × Int × Int × Int) × List (ByteArray × Int × Int × Int × Int × Int × Int × Int × Int)))) := ctx laws_toArticleS.E laws_toArticleS.keep n [.snd, .snd, .snd, .fst, .snd, .blk] (codeOf Try.f32) (kEnd laws_toArticleS.E Try.f32 laws_toArticleS.con x)
def laws_toArticleS.LN5 (n : Nat) (x : (List (ByteArray × Int × Int × Int × Int × Int × Int × Int × Int)) × Bool) : Nat → St → Option ((List (ByteArray × Int × Int × Int × Int × Int × Int × Int × Int) × List (ByteArray × Int × Int × Int × Int × Int × Int × Int × Int))) := loopN (exec laws_toArticleS.E laws_toArticleS.keep n (bodyOf (laws_toArticleS.at5 n x).1)) (St.norm 0 (laws_toArticleS.keep 5)) (laws_toArticleS.at5 n x).2
set_option maxRecDepth 100000 in
theorem laws_toArticleS.lem9 (n : Nat) (x : (List (ByteArray × Int × Int × Int × Int × Int × Int × Int × Int)) × Bool) : ∀ (k : Nat) (a0 : List (ByteArray × Int × Int × Int × Int × Int × Int × Int × Int)) (i7 : Int) (out5 : List (ByteArray × Int × Int × Int × Int × Int × Int × Int × Int)), laws_toArticleS.LN9 n x k (laws_toArticleS.st9 a0 i7 out5) = laws_toArticleS.l9 n k a0 i7 out5 := by
  intro k
  induction k with
  | zero => intro a0 i7 out5; rfl
  | succ k ih =>
    intro a0 i7 out5
    have h : laws_toArticleS.LN9 n x (k + 1) (laws_toArticleS.st9 a0 i7 out5) = laws_toArticleS.g9 (fun a0 i7 out5 => laws_toArticleS.LN9 n x k (laws_toArticleS.st9 a0 i7 out5)) a0 i7 out5 := by kernel_rfl
    rw [h]
    simp only [ih]
    rfl
set_option maxRecDepth 100000 in
theorem laws_toArticleS.lem5 (n : Nat) (x : (List (ByteArray × Int × Int × Int × Int × Int × Int × Int × Int)) × Bool) : ∀ (k : Nat) (a0 : List (ByteArray × Int × Int × Int × Int × Int × Int × Int × Int)) (i6 : Int) (out5 : List (ByteArray × Int × Int × Int × Int × Int × Int × Int × Int)), laws_toArticleS.LN5 n x k (laws_toArticleS.st5 a0 i6 out5) = laws_toArticleS.l5 n k a0 i6 out5 := by
  intro k
  induction k with
  | zero => intro a0 i6 out5; rfl
  | succ k ih =>
    intro a0 i6 out5
    have h : laws_toArticleS.LN5 n x (k + 1) (laws_toArticleS.st5 a0 i6 out5) = laws_toArticleS.g5 (fun a0 i7 out5 => laws_toArticleS.LN9 n x n (laws_toArticleS.st9 a0 i7 out5)) (fun a0 i6 out5 => laws_toArticleS.LN5 n x k (laws_toArticleS.st5 a0 i6 out5)) a0 i6 out5 := by kernel_rfl
    rw [h]
    simp only [ih, laws_toArticleS.lem9]
    rfl
set_option maxRecDepth 100000 in
theorem laws_toArticleS.body (n : Nat) (x : (List (ByteArray × Int × Int × Int × Int × Int × Int × Int × Int)) × Bool) : bodyF laws_toArticleS.E laws_toArticleS.keep n Try.f32 laws_toArticleS.con x = laws_toArticleS.fn n x.1 x.2 := by
  have h : bodyF laws_toArticleS.E laws_toArticleS.keep n Try.f32 laws_toArticleS.con x = laws_toArticleS.top (fun a0 i6 out5 => laws_toArticleS.LN5 n x n (laws_toArticleS.st5 a0 i6 out5)) x.1 x.2 := by kernel_rfl
  rw [h]
  simp only [laws_toArticleS.lem5]
  rfl
set_option maxRecDepth 100000 in
theorem laws_toArticleS.good : Good Try.prog 32 laws_toArticleS.con :=
  good_of tabok (cs := laws_toArticleS.cs) ⟨laws_roomBehind.good, laws_toArticle.good, laws_fillerArticle.good, trivial⟩ 0 true (fn := Try.f32) Try.func32 rfl (by decide) (by simp [laws_toArticleS.con]) laws_toArticleS.keep NN (fun _ => rfl) (fun x => laws_toArticleS.body NN x)
end
end Go.Ev.Try

namespace Go.Ev.Try
open Go.Proofs Go.Pl
set_option linter.unusedVariables false
noncomputable section
def laws_toInt64S.st9 (a0 : List Int) (i7 : Int) (out5 : List Int) : St := ⟨[.dat (.sl 2 (.int .i64)) a0, .gone, .gone, .gone, .gone, .ref 0, .gone, .dat (.int .i64) i7, .gone, .gone, .gone, .gone, .gone, .gone, .gone, .gone, .gone, .gone, .gone, .gone, .gone, .gone, .gone, .gone, .gone, .gone, .gone, .gone, .gone, .gone, .gone, .gone, .gone, .gone, .gone, .gone, .gone, .gone, .gone, .gone, .gone, .gone, .gone, .gone, .gone, .gone, .gone, .gone, .gone], [.row 2 (.int .i64) out5 none]⟩
def laws_toInt64S.st5 (a0 : List Int) (i6 : Int) (out5 : List Int) : St := ⟨[.dat (.sl 2 (.int .i64)) a0, .gone, .gone, .gone, .gone, .ref 0, .dat (.int .i64) i6, .gone, .gone, .gone, .gone, .gone, .gone, .gone, .gone, .gone, .gone, .gone, .gone, .gone, .gone, .gone, .gone, .gone, .gone, .gone, .gone, .gone, .gone, .gone, .gone, .gone, .gone, .gone, .gone, .gone, .gone, .gone, .gone, .gone, .gone, .gone, .gone, .gone, .gone, .gone, .gone, .gone, .gone], [.row 2 (.int .i64) out5 none]⟩
def laws_toInt64S.con : Con := { ps := [(.val, (.sl 2 (.int .i64))), (.val, .bool)], rs := [(.own, (.slb 2 (.int .i64)))], F := fun x => laws_toInt64S.f x.1 x.2 }
def laws_toInt64S.cs : List (FuncId × Con) := [(58, laws_roomBehind.con)]
def laws_toInt64S.E : Env := envOf tab laws_toInt64S.cs 0 true
def laws_toInt64S.keep (i : Nat) : List Nat := if i = 9 then [0, 5, 7] else if i = 5 then [0, 5, 6] else []
def laws_toInt64S.at9 (n : Nat) (x : List Int × Bool) : Code × (Ex → St → Option ((List Int × List Int))) := ctx laws_toInt64S.E laws_toInt64S.keep n [.snd, .snd, .snd, .snd, .fst, .snd, .blk] (codeOf Try.f33) (kEnd laws_toInt64S.E Try.f33 laws_toInt64S.con x)
def laws_toInt64S.LN9 (n : Nat) (x : List Int × Bool) : Nat → St → Option ((List Int × List Int)) := loopN (exec laws_toInt64S.E laws_toInt64S.keep n (bodyOf (laws_toInt64S.at9 n x).1)) (St.norm 0 (laws_toInt64S.keep 9)) (laws_toInt64S.at9 n x).2
def laws_toInt64S.at5 (n : Nat) (x : List Int × Bool) : Code × (Ex → St → Option ((List Int × List Int))) := ctx laws_toInt64S.E laws_toInt64S.keep n [.snd, .snd, .snd, .fst, .snd, .blk] (codeOf Try.f33) (kEnd laws_toInt64S.E Try.f33 laws_toInt64S.con x)
def laws_toInt64S.LN5 (n : Nat) (x : List Int × Bool) : Nat → St → Option ((List Int × List Int)) := loopN (exec laws_toInt64S.E laws_toInt64S.keep n (bodyOf (laws_toInt64S.at5 n x).1)) (St.norm 0 (laws_toInt64S.keep 5)) (laws_toInt64S.at5 n x).2
set_option maxRecDepth 100000 in
theorem laws_toInt64S.lem9 (n : Nat) (x : List Int × Bool) : ∀ (k : Nat) (a0 : List Int) (i7 : Int) (out5 : List Int), laws_toInt64S.LN9 n x k (laws_toInt64S.st9 a0 i7 out5) = laws_toInt64S.l9 n k a0 i7 out5 := by
  intro k
  induction k with
  | zero => intro a0 i7 out5; rfl
  | succ k ih =>
    intro a0 i7 out5
    have h : laws_toInt64S.LN9 n x (k + 1) (laws_toInt64S.st9 a0 i7 out5) = laws_toInt64S.g9 (fun a0 i7 out5 => laws_toInt64S.LN9 n x k (laws_toInt64S.st9 a0 i7 out5)) a0 i7 out5 := by kernel_rfl
    rw [h]
    simp only [ih]
    rfl
set_option maxRecDepth 100000 in
theorem laws_toInt64S.lem5 (n : Nat) (x : List Int × Bool) : ∀ (k : Nat) (a0 : List Int) (i6 : Int) (out5 : List Int), laws_toInt64S.LN5 n x k (laws_toInt64S.st5 a0 i6 out5) = laws_toInt64S.l5 n k a0 i6 out5 := by
  intro k
  induction k with
  | zero => intro a0 i6 out5; rfl
  | succ k ih =>
    intro a0 i6 out5
    have h : laws_toInt64S.LN5 n x (k + 1) (laws_toInt64S.st5 a0 i6 out5) = laws_toInt64S.g5 (fun a0 i7 out5 => laws_toInt64S.LN9 n x n (laws_toInt64S.st9 a0 i7 out5)) (fun a0 i6 out5 => laws_toInt64S.LN5 n x k (laws_toInt64S.st5 a0 i6 out5)) a0 i6 out5 := by kernel_rfl
    rw [h]
    simp only [ih, laws_toInt64S.lem9]
    rfl
set_option maxRecDepth 100000 in
theorem laws_toInt64S.body (n : Nat) (x : List Int × Bool) : bodyF laws_toInt64S.E laws_toInt64S.keep n Try.f33 laws_toInt64S.con x = laws_toInt64S.fn n x.1 x.2 := by
  have h : bodyF laws_toInt64S.E laws_toInt64S.keep n Try.f33 laws_toInt64S.con x = laws_toInt64S.top (fun a0 i6 out5 => laws_toInt64S.LN5 n x n (laws_toInt64S.st5 a0 i6 out5)) x.1 x.2 := by kernel_rfl
  rw [h]
  simp only [laws_toInt64S.lem5]
  rfl
set_option maxRecDepth 100000 in
theorem laws_toInt64S.good : Good Try.prog 33 laws_toInt64S.con :=
  good_of tabok (cs := laws_toInt64S.cs) ⟨laws_roomBehind.good, trivial⟩ 0 true (fn := Try.f33) Try.func33 rfl (by decide) (by simp [laws_toInt64S.con]) laws_toInt64S.keep NN (fun _ => rfl) (fun x => laws_toInt64S.body NN x)
end
end Go.Ev.Try

namespace Go.Ev.Try
open Go.Proofs Go.Pl
set_option linter.unusedVariables false
noncomputable section
def laws_eqArticle.con : Con := { ps := [(.val, (.pair .str (.pair (.int .i64) (.pair (.int .i64) (.pair (.int .i64) (.pair (.int .i64) (.pair (.int .i64) (.pair (.int .i64) (.pair (.int .i64) (.int .i64)))))))))), (.val, (.pair .str (.pair (.int .i64) (.pair (.int .i64) (.pair (.int .i64) (.pair (.int .i64) (.pair (.int .i64) (.pair (.int .i64) (.pair (.int .i64) (.int .i64))))))))))], rs := [(.val, .bool)], F := fun x => laws_eqArticle.f x.1 x.2 }
def laws_eqArticle.cs : List (FuncId × Con) := []
def laws_eqArticle.E : Env := envOf tab laws_eqArticle.cs 0 false
def laws_eqArticle.keep (i : Nat) : List Nat := []
set_option maxRecDepth 100000 in
theorem laws_eqArticle.body (n : Nat) (x : (ByteArray × Int × Int × Int × Int × Int × Int × Int × Int) × ByteArray × Int × Int × Int × Int × Int × Int × Int × Int) : bodyF laws_eqArticle.E laws_eqArticle.keep n Try.f104 laws_eqArticle.con x = laws_eqArticle.fn n x.1 x.2 := by
  have h : bodyF laws_eqArticle.E laws_eqArticle.keep n Try.f104 laws_eqArticle.con x = laws_eqArticle.top x.1 x.2 := by kernel_rfl
  exact h
set_option maxRecDepth 100000 in
theorem laws_eqArticle.good : Good Try.prog 104 laws_eqArticle.con :=
  good_of tabok (cs := laws_eqArticle.cs) trivial 0 false (fn := Try.f104) Try.func104 rfl (by decide) (by simp [laws_eqArticle.con]) laws_eqArticle.keep NN (fun _ => rfl) (fun x => laws_eqArticle.body NN x)
end
end Go.Ev.Try

namespace Go.Ev.Try
open Go.Proofs Go.Pl
set_option linter.unusedVariables false
noncomputable section
def laws_eqArticleS.st4 (a0 : List (ByteArray × Int × Int × Int × Int × Int × Int × Int × Int)) (b1 : List (ByteArray × Int × Int × Int × Int × Int × Int × Int × Int)) (i5 : Int) : St := ⟨[.dat (.sl 95 (.pair .str (.pair (.int .i64) (.pair (.int .i64) (.pair (.int .i64) (.pair (.int .i64) (.pair (.int .i64) (.pair (.int .i64) (.pair (.int .i64) (.int .i64)))))))))) a0, .dat (.sl 95 (.pair .str (.pair (.int .i64) (.pair (.int .i64) (.pair (.int .i64) (.pair (.int .i64) (.pair (.int .i64) (.pair (.int .i64) (.pair (.int .i64) (.int .i64)))))))))) b1, .gone, .gone, .gone, .dat (.int .i64) i5, .gone, .gone, .gone, .gone, .gone, .gone, .gone, .gone, .gone, .gone, .gone, .gone, .gone, .gone, .gone, .gone, .gone, .gone, .gone, .gone, .gone], []⟩
def laws_eqArticleS.con : Con := { ps := [(.val, (.sl 95 (.pair .str (.pair (.int .i64) (.pair (.int .i64) (.pair (.int .i64) (.pair (.int .i64) (.pair (.int .i64) (.pair (.int .i64) (.pair (.int .i64) (.int .i64))))))))))), (.val, (.sl 95 (.pair .str (.pair (.int .i64) (.pair (.int .i64) (.pair (.int .i64) (.pair (.int .i64) (.pair (.int .i64) (.pair (.int .i64) (.pair (.int .i64) (.int .i64)))))))))))], rs := [(.val, .bool)], F := fun x => laws_eqArticleS.f x.1 x.2 }
def laws_eqArticleS.cs : List (FuncId × Con) := [(104, laws_eqArticle.con)]
def laws_eqArticleS.E : Env := envOf tab laws_eqArticleS.cs 0 false
def laws_eqArticleS.keep (i : Nat) : List Nat := if i = 4 then [0, 1, 5] else []
def laws_eqArticleS.at4 (n : Nat) (x : (List (ByteArray × Int × Int × Int × Int × Int × Int × Int × Int)) × List (ByteArray × Int × Int × Int × Int × Int × Int × Int × Int)) : Code × (Ex → St → Option (Bool)) := ctx laws_eqArticleS.E laws_eqArticleS.keep n [.snd, .snd, .fst, .snd, .blk] (codeOf Try.f84) (kEnd laws_eqArticleS.E Try.f84 laws_eqArticleS.con x)
def laws_eqArticleS.LN4 (n : Nat) (x : (List (ByteArray × Int × Int × Int × Int × Int × Int × Int × Int)) × List (ByteArray × Int × Int × Int × Int × Int × Int × Int × Int)) : Nat → St → Option (Bool) := loopN (exec laws_eqArticleS.E laws_eqArticleS.keep n (bodyOf (laws_eqArticleS.at4 n x).1)) (St.norm 0 (laws_eqArticleS.keep 4)) (laws_eqArticleS.at4 n x).2
set_option maxRecDepth 100000 in
theorem laws_eqArticleS.lem4 (n : Nat) (x : (List (ByteArray × Int × Int × Int × Int × Int × Int × Int × Int)) × List (ByteArray × Int × Int × Int × Int × Int × Int × Int × Int)) : ∀ (k : Nat) (a0 : List (ByteArray × Int × Int × Int × Int × Int × Int × Int × Int)) (b1 : List (ByteArray × Int × Int × Int × Int × Int × Int × Int × Int)) (i5 : Int), laws_eqArticleS.LN4 n x k (laws_eqArticleS.st4 a0 b1 i5) = laws_eqArticleS.l4 n k a0 b1 i5 := by
  intro k
  induction k with
  | zero => intro a0 b1 i5; rfl
  | succ k ih =>
    intro a0 b1 i5
    have h : laws_eqArticleS.LN4 n x (k + 1) (laws_eqArticleS.st4 a0 b1 i5) = laws_eqArticleS.g4 (fun a0 b1 i5 => laws_eqArticleS.LN4 n x k (laws_eqArticleS.st4 a0 b1 i5)) a0 b1 i5 := by kernel_rfl
    rw [h]
    simp only [ih]
    rfl
set_option maxRecDepth 100000 in
theorem laws_eqArticleS.body (n : Nat) (x : (List (ByteArray × Int × Int × Int × Int × Int × Int × Int × Int)) × List (ByteArray × Int × Int × Int × Int × Int × Int × Int × Int)) : bodyF laws_eqArticleS.E laws_eqArticleS.keep n Try.f84 laws_eqArticleS.con x = laws_eqArticleS.fn n x.1 x.2 := by
  have h : bodyF laws_eqArticleS.E laws_eqArticleS.keep n Try.f84 laws_eqArticleS.con x = laws_eqArticleS.top (fun a0 b1 i5 => laws_eqArticleS.LN4 n x n (laws_eqArticleS.st4 a0 b1 i5)) x.1 x.2 := by kernel_rfl
  rw [h]
  simp only [laws_eqArticleS.lem4]
  rfl
set_option maxRecDepth 100000 in
theorem laws_eqArticleS.good : Good Try.prog 84 laws_eqArticleS.con :=
  good_of tabok (cs := laws_eqArticleS.cs) ⟨laws_eqArticle.good, trivial⟩ 0 false (fn := Try.f84) Try.func84 rfl (by decide) (by simp [laws_eqArticleS.con]) laws_eqArticleS.keep NN (fun _ => rfl) (fun x => laws_eqArticleS.body NN x)
end
end Go.Ev.Try

namespace Go.Ev.Try
open Go.Proofs Go.Pl
set_option linter.unusedVariables false
noncomputable section
def laws_intactArticleS.con : Con := { ps := [(.val, (.slb 95 (.pair .str (.pair (.int .i64) (.pair (.int .i64) (.pair (.int .i64) (.pair (.int .i64) (.pair (.int .i64) (.pair (.int .i64) (.pair (.int .i64) (.int .i64))))))))))), (.val, (.slb 95 (.pair .str (.pair (.int .i64) (.pair (.int .i64) (.pair (.int .i64) (.pair (.int .i64) (.pair (.int .i64) (.pair (.int .i64) (.pair (.int .i64) (.int .i64)))))))))))], rs := [(.val, .bool)], F := fun x => laws_intactArticleS.f x.1 x.2 }
def laws_intactArticleS.cs : List (FuncId × Con) := [(58, laws_roomBehind.con), (84, laws_eqArticleS.con)]
def laws_intactArticleS.E : Env := envOf tab laws_intactArticleS.cs 0 false
def laws_intactArticleS.keep (i : Nat) : List Nat := []
set_option maxRecDepth 100000 in
theorem laws_intactArticleS.body (n : Nat) (x : (List (ByteArray × Int × Int × Int × Int × Int × Int × Int × Int) × List (ByteArray × Int × Int × Int × Int × Int × Int × Int × Int)) × List (ByteArray × Int × Int × Int × Int × Int × Int × Int × Int) × List (ByteArray × Int × Int × Int × Int × Int × Int × Int × Int)) : bodyF laws_intactArticleS.E laws_intactArticleS.keep n Try.f36 laws_intactArticleS.con x = laws_intactArticleS.fn n x.1 x.2 := by
  have h : bodyF laws_intactArticleS.E laws_intactArticleS.keep n Try.f36 laws_intactArticleS.con x = laws_intactArticleS.top x.1 x.2 := by kernel_rfl
  exact h
set_option maxRecDepth 100000 in
theorem laws_intactArticleS.good : Good Try.prog 36 laws_intactArticleS.con :=
  good_of tabok (cs := laws_intactArticleS.cs) ⟨laws_roomBehind.good, laws_eqArticleS.good, trivial⟩ 0 false (fn := Try.f36) Try.func36 rfl (by decide) (by simp [laws_intactArticleS.con]) laws_intactArticleS.keep NN (fun _ => rfl) (fun x => laws_intactArticleS.body NN x)
end
end Go.Ev.Try

namespace Go.Ev.Try
open Go.Proofs Go.Pl
set_option linter.unusedVariables false
noncomputable section
def laws_eqInt64S.st4 (a0 : List Int) (b1 : List Int) (i5 : Int) : St := ⟨[.dat (.sl 2 (.int .i64)) a0, .dat (.sl 2 (.int .i64)) b1, .gone, .gone, .gone, .dat (.int .i64) i5, .gone, .gone, .gone, .gone, .gone, .gone, .gone, .gone, .gone, .gone, .gone, .gone, .gone, .gone, .gone, .gone, .gone, .gone, .gone, .gone], []⟩
def laws_eqInt64S.con : Con := { ps := [(.val, (.sl 2 (.int .i64))), (.val, (.sl 2 (.int .i64)))], rs := [(.val, .bool)], F := fun x => laws_eqInt64S.f x.1 x.2 }
def laws_eqInt64S.cs : List (FuncId × Con) := []
def laws_eqInt64S.E : Env := envOf tab laws_eqInt64S.cs 0 false
def laws_eqInt64S.keep (i : Nat) : List Nat := if i = 4 then [0, 1, 5] else []
def laws_eqInt64S.at4 (n : Nat) (x : List Int × List Int) : Code × (Ex → St → Option (Bool)) := ctx laws_eqInt64S.E laws_eqInt64S.keep n [.snd, .snd, .fst, .snd, .blk] (codeOf Try.f24) (kEnd laws_eqInt64S.E Try.f24 laws_eqInt64S.con x)
def laws_eqInt64S.LN4 (n : Nat) (x : List Int × List Int) : Nat → St → Option (Bool) := loopN (exec laws_eqInt64S.E laws_eqInt64S.keep n (bodyOf (laws_eqInt64S.at4 n x).1)) (St.norm 0 (laws_eqInt64S.keep 4)) (laws_eqInt64S.at4 n x).2
set_option maxRecDepth 100000 in
theorem laws_eqInt64S.lem4 (n : Nat) (x : List Int × List Int) : ∀ (k : Nat) (a0 : List Int) (b1 : List Int) (i5 : Int), laws_eqInt64S.LN4 n x k (laws_eqInt64S.st4 a0 b1 i5) = laws_eqInt64S.l4 n k a0 b1 i5 := by
  intro k
  induction k with
  | zero => intro a0 b1 i5; rfl
  | succ k ih =>
    intro a0 b1 i5
    have h : laws_eqInt64S.LN4 n x (k + 1) (laws_eqInt64S.st4 a0 b1 i5) = laws_eqInt64S.g4 (fun a0 b1 i5 => laws_eqInt64S.LN4 n x k (laws_eqInt64S.st4 a0 b1 i5)) a0 b1 i5 := by kernel_rfl
    rw [h]
    simp only [ih]
    rfl
set_option maxRecDepth 100000 in
theorem laws_eqInt64S.body (n : Nat) (x : List Int × List Int) : bodyF laws_eqInt64S.E laws_eqInt64S.keep n Try.f24 laws_eqInt64S.con x = laws_eqInt64S.fn n x.1 x.2 := by
  have h : bodyF laws_eqInt64S.E laws_eqInt64S.keep n Try.f24 laws_eqInt64S.con x = laws_eqInt64S.top (fun a0 b1 i5 => laws_eqInt64S.LN4 n x n (laws_eqInt64S.st4 a0 b1 i5)) x.1 x.2 := by kernel_rfl
  rw [h]
  simp only [laws_eqInt64S.lem4]
  rfl
set_option maxRecDepth 100000 in
theorem laws_eqInt64S.good : Good Try.prog 24 laws_eqInt64S.con :=
  good_of tabok (cs := laws_eqInt64S.cs) trivial 0 false (fn := Try.f24) Try.func24 rfl (by decide) (by simp [laws_eqInt64S.con]) laws_eqInt64S.keep NN (fun _ => rfl) (fun x => laws_eqInt64S.body NN x)
end
end Go.Ev.Try

namespace Go.Ev.Try
open Go.Proofs Go.Pl
set_option linter.unusedVariables false
noncomputable section
def laws_intactInt64S.con : Con := { ps := [(.val, (.slb 2 (.int .i64))), (.val, (.slb 2 (.int .i64)))], rs := [(.val, .bool)], F := fun x => laws_intactInt64S.f x.1 x.2 }
def laws_intactInt64S.cs : List (FuncId × Con) := [(24, laws_eqInt64S.con), (58, laws_roomBehind.con)]
def laws_intactInt64S.E : Env := envOf tab laws_intactInt64S.cs 0 false
def laws_intactInt64S.keep (i : Nat) : List Nat := []
set_option maxRecDepth 100000 in
theorem laws_intactInt64S.body (n : Nat) (x : (List Int × List Int) × List Int × List Int) : bodyF laws_intactInt64S.E laws_intactInt64S.keep n Try.f37 laws_intactInt64S.con x = laws_intactInt64S.fn n x.1 x.2 := by
  have h : bodyF laws_intactInt64S.E laws_intactInt64S.keep n Try.f37 laws_intactInt64S.con x = laws_intactInt64S.top x.1 x.2 := by kernel_rfl
  exact h
set_option maxRecDepth 100000 in
theorem laws_intactInt64S.good : Good Try.prog 37 laws_intactInt64S.con :=
  good_of tabok (cs := laws_intactInt64S.cs) ⟨laws_eqInt64S.good, laws_roomBehind.good, trivial⟩ 0 false (fn := Try.f37) Try.func37 rfl (by decide) (by simp [laws_intactInt64S.con]) laws_intactInt64S.keep NN (fun _ => rfl) (fun x => laws_intactInt64S.body NN x)
end
end Go.Ev.Try

namespace Go.Ev.Try
open Go.Proofs Go.Pl
set_option linter.unusedVariables false
noncomputable section
def spec_l01In.con : Con := { ps := [(.val, (.int .i64)), (.val, (.int .i64)), (.val, (.int .i64))], rs := [(.val, .bool)], F := fun x => spec_l01In.f x.1 x.2.1 x.2.2 }
def spec_l01In.cs : List (FuncId × Con) := []
def spec_l01In.E : Env := envOf tab spec_l01In.cs 0 false
def spec_l01In.keep (i : Nat) : List Nat := []
set_option maxRecDepth 100000 in
theorem spec_l01In.body (n : Nat) (x : Int × Int × Int) : bodyF spec_l01In.E spec_l01In.keep n Try.f72 spec_l01In.con x = spec_l01In.fn n x.1 x.2.1 x.2.2 := by
  have h : bodyF spec_l01In.E spec_l01In.keep n Try.f72 spec_l01In.con x = spec_l01In.top x.1 x.2.1 x.2.2 := by kernel_rfl
  exact h
set_option maxRecDepth 100000 in
theorem spec_l01In.good : Good Try.prog 72 spec_l01In.con :=
  good_of tabok (cs := spec_l01In.cs) trivial 0 false (fn := Try.f72) Try.func72 rfl (by decide) (by simp [spec_l01In.con]) spec_l01In.keep NN (fun _ => rfl) (fun x => spec_l01In.body NN x)
end
end Go.Ev.Try

namespace Go.Ev.Try
open Go.Proofs Go.Pl
set_option linter.unusedVariables false
noncomputable section
def spec_l01Rises.st2 (list0 : List Int) (n1 : Int) (i5 : Int) : St := ⟨[.dat (.sl 2 (.int .i64)) list0, .dat (.int .i64) n1, .gone, .gone, .gone, .dat (.int .i64) i5, .gone, .gone, .gone, .gone, .gone, .gone, .gone, .gone, .gone, .gone, .gone, .gone, .gone, .gone, .gone, .gone, .gone, .gone, .gone, .gone, .gone, .gone, .gone, .gone, .gone, .gone, .gone, .gone, .gone, .gone], []⟩
def spec_l01Rises.con : Con := { ps := [(.val, (.sl 2 (.int .i64))), (.val, (.int .i64))], rs := [(.val, .bool)], F := fun x => spec_l01Rises.f x.1 x.2 }
def spec_l01Rises.cs : List (FuncId × Con) := [(72, spec_l01In.con)]
def spec_l01Rises.E : Env := envOf tab spec_l01Rises.cs 0 false
def spec_l01Rises.keep (i : Nat) : List Nat := if i = 2 then [0, 1, 5] else []
def spec_l01Rises.at2 (n : Nat) (x : List Int × Int) : Code × (Ex → St → Option (Bool)) := ctx spec_l01Rises.E spec_l01Rises.keep n [.snd, .fst, .snd, .blk] (codeOf Try.f96) (kEnd spec_l01Rises.E Try.f96 spec_l01Rises.con x)
def spec_l01Rises.LN2 (n : Nat) (x : List Int × Int) : Nat → St → Option (Bool) := loopN (exec spec_l01Rises.E spec_l01Rises.keep n (bodyOf (spec_l01Rises.at2 n x).1)) (St.norm 0 (spec_l01Rises.keep 2)) (spec_l01Rises.at2 n x).2
set_option maxRecDepth 100000 in
theorem spec_l01Rises.lem2 (n : Nat) (x : List Int × Int) : ∀ (k : Nat) (list0 : List Int) (n1 : Int) (i5 : Int), spec_l01Rises.LN2 n x k (spec_l01Rises.st2 list0 n1 i5) = spec_l01Rises.l2 n k list0 n1 i5 := by
  intro k
  induction k with
  | zero => intro list0 n1 i5; rfl
  | succ k ih =>
    intro list0 n1 i5
    have h : spec_l01Rises.LN2 n x (k + 1) (spec_l01Rises.st2 list0 n1 i5) = spec_l01Rises.g2 (fun list0 n1 i5 => spec_l01Rises.LN2 n x k (spec_l01Rises.st2 list0 n1 i5)) list0 n1 i5 := by kernel_rfl
    rw [h]
    simp only [ih]
    rfl
set_option maxRecDepth 100000 in
theorem spec_l01Rises.body (n : Nat) (x : List Int × Int) : bodyF spec_l01Rises.E spec_l01Rises.keep n Try.f96 spec_l01Rises.con x = spec_l01Rises.fn n x.1 x.2 := by
  have h : bodyF spec_l01Rises.E spec_l01Rises.keep n Try.f96 spec_l01Rises.con x = spec_l01Rises.top (fun list0 n1 i5 => spec_l01Rises.LN2 n x n (spec_l01Rises.st2 list0 n1 i5)) x.1 x.2 := by kernel_rfl
  rw [h]
  simp only [spec_l01Rises.lem2]
  rfl
set_option maxRecDepth 100000 in
theorem spec_l01Rises.good : Good Try.prog 96 spec_l01Rises.con :=
  good_of tabok (cs := spec_l01Rises.cs) ⟨spec_l01In.good, trivial⟩ 0 false (fn := Try.f96) Try.func96 rfl (by decide) (by simp [spec_l01Rises.con]) spec_l01Rises.keep NN (fun _ => rfl) (fun x => spec_l01Rises.body NN x)
end
end Go.Ev.Try

namespace Go.Ev.Try
open Go.Proofs Go.Pl
set_option linter.unusedVariables false
noncomputable section
def spec_IsPermit.con : Con := { ps := [(.val, (.pair (.int .i64) (.pair (.int .i64) (.pair (.int .i64) (.pair (.int .i64) (.pair (.sl 2 (.int .i64)) (.int .i64)))))))], rs := [(.val, .bool)], F := fun x => spec_IsPermit.f x }
def spec_IsPermit.cs : List (FuncId × Con) := [(72, spec_l01In.con), (96, spec_l01Rises.con)]
def spec_IsPermit.E : Env := envOf tab spec_IsPermit.cs 0 false
def spec_IsPermit.keep (i : Nat) : List Nat := []
set_option maxRecDepth 100000 in
theorem spec_IsPermit.body (n : Nat) (x : Int × Int × Int × Int × List Int × Int) : bodyF spec_IsPermit.E spec_IsPermit.keep n Try.f53 spec_IsPermit.con x = spec_IsPermit.fn n x := by
  have h : bodyF spec_IsPermit.E spec_IsPermit.keep n Try.f53 spec_IsPermit.con x = spec_IsPermit.top x := by kernel_rfl
  exact h
set_option maxRecDepth 100000 in
theorem spec_IsPermit.good : Good Try.prog 53 spec_IsPermit.con :=
  good_of tabok (cs := spec_IsPermit.cs) ⟨spec_l01In.good, spec_l01Rises.good, trivial⟩ 0 false (fn := Try.f53) Try.func53 rfl (by decide) (by simp [spec_IsPermit.con]) spec_IsPermit.keep NN (fun _ => rfl) (fun x => spec_IsPermit.body NN x)
end
end Go.Ev.Try

namespace Go.Ev.Try
open Go.Proofs Go.Pl
set_option linter.unusedVariables false
noncomputable section
def spec_l30All.st2 (permits0 : List (Int × Int × Int × Int × List Int × Int)) (i3 : Int) : St := ⟨[.dat (.sl 42 (.pair (.int .i64) (.pair (.int .i64) (.pair (.int .i64) (.pair (.int .i64) (.pair (.sl 2 (.int .i64)) (.int .i64))))))) permits0, .gone, .gone, .dat (.int .i64) i3, .gone, .gone, .gone, .gone, .gone, .gone, .gone, .gone, .gone, .gone, .gone, .gone, .gone, .gone, .gone], []⟩
def spec_l30All.con : Con := { ps := [(.val, (.sl 42 (.pair (.int .i64) (.pair (.int .i64) (.pair (.int .i64) (.pair (.int .i64) (.pair (.sl 2 (.int .i64)) (.int .i64))))))))], rs := [(.val, .bool)], F := fun x => spec_l30All.f x }
def spec_l30All.cs : List (FuncId × Con) := [(53, spec_IsPermit.con)]
def spec_l30All.E : Env := envOf tab spec_l30All.cs 0 false
def spec_l30All.keep (i : Nat) : List Nat := if i = 2 then [0, 3] else []
def spec_l30All.at2 (n : Nat) (x : List (Int × Int × Int × Int × List Int × Int)) : Code × (Ex → St → Option (Bool)) := ctx spec_l30All.E spec_l30All.keep n [.snd, .fst, .snd, .blk] (codeOf Try.f97) (kEnd spec_l30All.E Try.f97 spec_l30All.con x)
def spec_l30All.LN2 (n : Nat) (x : List (Int × Int × Int × Int × List Int × Int)) : Nat → St → Option (Bool) := loopN (exec spec_l30All.E spec_l30All.keep n (bodyOf (spec_l30All.at2 n x).1)) (St.norm 0 (spec_l30All.keep 2)) (spec_l30All.at2 n x).2
set_option maxRecDepth 100000 in
theorem spec_l30All.lem2 (n : Nat) (x : List (Int × Int × Int × Int × List Int × Int)) : ∀ (k : Nat) (permits0 : List (Int × Int × Int × Int × List Int × Int)) (i3 : Int), spec_l30All.LN2 n x k (spec_l30All.st2 permits0 i3) = spec_l30All.l2 n k permits0 i3 := by
  intro k
  induction k with
  | zero => intro permits0 i3; rfl
  | succ k ih =>
    intro permits0 i3
    have h : spec_l30All.LN2 n x (k + 1) (spec_l30All.st2 permits0 i3) = spec_l30All.g2 (fun permits0 i3 => spec_l30All.LN2 n x k (spec_l30All.st2 permits0 i3)) permits0 i3 := by kernel_rfl
    rw [h]
    simp only [ih]
    rfl
set_option maxRecDepth 100000 in
theorem spec_l30All.body (n : Nat) (x : List (Int × Int × Int × Int × List Int × Int)) : bodyF spec_l30All.E spec_l30All.keep n Try.f97 spec_l30All.con x = spec_l30All.fn n x := by
  have h : bodyF spec_l30All.E spec_l30All.keep n Try.f97 spec_l30All.con x = spec_l30All.top (fun permits0 i3 => spec_l30All.LN2 n x n (spec_l30All.st2 permits0 i3)) x := by kernel_rfl
  rw [h]
  simp only [spec_l30All.lem2]
  rfl
set_option maxRecDepth 100000 in
theorem spec_l30All.good : Good Try.prog 97 spec_l30All.con :=
  good_of tabok (cs := spec_l30All.cs) ⟨spec_IsPermit.good, trivial⟩ 0 false (fn := Try.f97) Try.func97 rfl (by decide) (by simp [spec_l30All.con]) spec_l30All.keep NN (fun _ => rfl) (fun x => spec_l30All.body NN x)
end
end Go.Ev.Try

namespace Go.Ev.Try
open Go.Proofs Go.Pl
set_option linter.unusedVariables false
noncomputable section
def spec_IsWord.st2 (s0 : ByteArray) (i3 : Int) : St := ⟨[.dat .str s0, .gone, .gone, .dat (.int .i64) i3, .gone, .gone, .gone, .gone, .gone, .gone, .gone, .gone, .gone, .gone, .gone, .gone, .gone, .gone, .gone, .gone, .gone, .gone, .gone], []⟩
def spec_IsWord.con : Con := { ps := [(.val, .str)], rs := [(.val, .bool)], F := fun x => spec_IsWord.f x }
def spec_IsWord.cs : List (FuncId × Con) := [(72, spec_l01In.con)]
def spec_IsWord.E : Env := envOf tab spec_IsWord.cs 0 false
def spec_IsWord.keep (i : Nat) : List Nat := if i = 2 then [0, 3] else []
def spec_IsWord.at2 (n : Nat) (x : ByteArray) : Code × (Ex → St → Option (Bool)) := ctx spec_IsWord.E spec_IsWord.keep n [.snd, .fst, .snd, .blk] (codeOf Try.f114) (kEnd spec_IsWord.E Try.f114 spec_IsWord.con x)
def spec_IsWord.LN2 (n : Nat) (x : ByteArray) : Nat → St → Option (Bool) := loopN (exec spec_IsWord.E spec_IsWord.keep n (bodyOf (spec_IsWord.at2 n x).1)) (St.norm 0 (spec_IsWord.keep 2)) (spec_IsWord.at2 n x).2
set_option maxRecDepth 100000 in
theorem spec_IsWord.lem2 (n : Nat) (x : ByteArray) : ∀ (k : Nat) (s0 : ByteArray) (i3 : Int), spec_IsWord.LN2 n x k (spec_IsWord.st2 s0 i3) = spec_IsWord.l2 n k s0 i3 := by
  intro k
  induction k with
  | zero => intro s0 i3; rfl
  | succ k ih =>
    intro s0 i3
    have h : spec_IsWord.LN2 n x (k + 1) (spec_IsWord.st2 s0 i3) = spec_IsWord.g2 (fun s0 i3 => spec_IsWord.LN2 n x k (spec_IsWord.st2 s0 i3)) s0 i3 := by kernel_rfl
    rw [h]
    simp only [ih]
    rfl
set_option maxRecDepth 100000 in
theorem spec_IsWord.body (n : Nat) (x : ByteArray) : bodyF spec_IsWord.E spec_IsWord.keep n Try.f114 spec_IsWord.con x = spec_IsWord.fn n x := by
  have h : bodyF spec_IsWord.E spec_IsWord.keep n Try.f114 spec_IsWord.con x = spec_IsWord.top (fun s0 i3 => spec_IsWord.LN2 n x n (spec_IsWord.st2 s0 i3)) x := by kernel_rfl
  rw [h]
  simp only [spec_IsWord.lem2]
  rfl
set_option maxRecDepth 100000 in
theorem spec_IsWord.good : Good Try.prog 114 spec_IsWord.con :=
  good_of tabok (cs := spec_IsWord.cs) ⟨spec_l01In.good, trivial⟩ 0 false (fn := Try.f114) Try.func114 rfl (by decide) (by simp [spec_IsWord.con]) spec_IsWord.keep NN (fun _ => rfl) (fun x => spec_IsWord.body NN x)
end
end Go.Ev.Try

namespace Go.Ev.Try
open Go.Proofs Go.Pl
set_option linter.unusedVariables false
noncomputable section
def spec_IsArticle.con : Con := { ps := [(.val, (.pair .str (.pair (.int .i64) (.pair (.int .i64) (.pair (.int .i64) (.pair (.int .i64) (.pair (.int .i64) (.pair (.int .i64) (.pair (.int .i64) (.int .i64))))))))))], rs := [(.val, .bool)], F := fun x => spec_IsArticle.f x }
def spec_IsArticle.cs : List (FuncId × Con) := [(72, spec_l01In.con), (114, spec_IsWord.con)]
def spec_IsArticle.E : Env := envOf tab spec_IsArticle.cs 0 false
def spec_IsArticle.keep (i : Nat) : List Nat := []
set_option maxRecDepth 100000 in
theorem spec_IsArticle.body (n : Nat) (x : ByteArray × Int × Int × Int × Int × Int × Int × Int × Int) : bodyF spec_IsArticle.E spec_IsArticle.keep n Try.f112 spec_IsArticle.con x = spec_IsArticle.fn n x := by
  have h : bodyF spec_IsArticle.E spec_IsArticle.keep n Try.f112 spec_IsArticle.con x = spec_IsArticle.top x := by kernel_rfl
  exact h
set_option maxRecDepth 100000 in
theorem spec_IsArticle.good : Good Try.prog 112 spec_IsArticle.con :=
  good_of tabok (cs := spec_IsArticle.cs) ⟨spec_l01In.good, spec_IsWord.good, trivial⟩ 0 false (fn := Try.f112) Try.func112 rfl (by decide) (by simp [spec_IsArticle.con]) spec_IsArticle.keep NN (fun _ => rfl) (fun x => spec_IsArticle.body NN x)
end
end Go.Ev.Try

namespace Go.Ev.Try
open Go.Proofs Go.Pl
set_option linter.unusedVariables false
noncomputable section
def spec_AreArticles.st2 (list0 : List (ByteArray × Int × Int × Int × Int × Int × Int × Int × Int)) (i3 : Int) : St := ⟨[.dat (.sl 95 (.pair .str (.pair (.int .i64) (.pair (.int .i64) (.pair (.int .i64) (.pair (.int .i64) (.pair (.int .i64) (.pair (.int .i64) (.pair (.int .i64) (.int .i64)))))))))) list0, .gone, .gone, .dat (.int .i64) i3, .gone, .gone, .gone, .gone, .gone, .gone, .gone, .gone, .gone, .gone, .gone, .gone, .gone, .gone, .gone, .gone, .gone, .gone, .gone, .gone, .gone, .gone, .gone, .gone, .gone, .gone, .gone, .gone, .gone, .gone, .gone, .gone, .gone], []⟩
def spec_AreArticles.con : Con := { ps := [(.val, (.sl 95 (.pair .str (.pair (.int .i64) (.pair (.int .i64) (.pair (.int .i64) (.pair (.int .i64) (.pair (.int .i64) (.pair (.int .i64) (.pair (.int .i64) (.int .i64)))))))))))], rs := [(.val, .bool)], F := fun x => spec_AreArticles.f x }
def spec_AreArticles.cs : List (FuncId × Con) := [(112, spec_IsArticle.con)]
def spec_AreArticles.E : Env := envOf tab spec_AreArticles.cs 0 false
def spec_AreArticles.keep (i : Nat) : List Nat := if i = 2 then [0, 3] else []
def spec_AreArticles.at2 (n : Nat) (x : List (ByteArray × Int × Int × Int × Int × Int × Int × Int × Int)) : Code × (Ex → St → Option (Bool)) := ctx spec_AreArticles.E spec_AreArticles.keep n [.snd, .fst, .snd, .blk] (codeOf Try.f109) (kEnd spec_AreArticles.E Try.f109 spec_AreArticles.con x)
def spec_AreArticles.LN2 (n : Nat) (x : List (ByteArray × Int × Int × Int × Int × Int × Int × Int × Int)) : Nat → St → Option (Bool) := loopN (exec spec_AreArticles.E spec_AreArticles.keep n (bodyOf (spec_AreArticles.at2 n x).1)) (St.norm 0 (spec_AreArticles.keep 2)) (spec_AreArticles.at2 n x).2
set_option maxRecDepth 100000 in
theorem spec_AreArticles.lem2 (n : Nat) (x : List (ByteArray × Int × Int × Int × Int × Int × Int × Int × Int)) : ∀ (k : Nat) (list0 : List (ByteArray × Int × Int × Int × Int × Int × Int × Int × Int)) (i3 : Int), spec_AreArticles.LN2 n x k (spec_AreArticles.st2 list0 i3) = spec_AreArticles.l2 n k list0 i3 := by
  intro k
  induction k with
  | zero => intro list0 i3; rfl
  | succ k ih =>
    intro list0 i3
    have h : spec_AreArticles.LN2 n x (k + 1) (spec_AreArticles.st2 list0 i3) = spec_AreArticles.g2 (fun list0 i3 => spec_AreArticles.LN2 n x k (spec_AreArticles.st2 list0 i3)) list0 i3 := by kernel_rfl
    rw [h]
    simp only [ih]
    rfl
set_option maxRecDepth 100000 in
theorem spec_AreArticles.body (n : Nat) (x : List (ByteArray × Int × Int × Int × Int × Int × Int × Int × Int)) : bodyF spec_AreArticles.E spec_AreArticles.keep n Try.f109 spec_AreArticles.con x = spec_AreArticles.fn n x := by
  have h : bodyF spec_AreArticles.E spec_AreArticles.keep n Try.f109 spec_AreArticles.con x = spec_AreArticles.top (fun list0 i3 => spec_AreArticles.LN2 n x n (spec_AreArticles.st2 list0 i3)) x := by kernel_rfl
  rw [h]
  simp only [spec_AreArticles.lem2]
  rfl
set_option maxRecDepth 100000 in
theorem spec_AreArticles.good : Good Try.prog 109 spec_AreArticles.con :=
  good_of tabok (cs := spec_AreArticles.cs) ⟨spec_IsArticle.good, trivial⟩ 0 false (fn := Try.f109) Try.func109 rfl (by decide) (by simp [spec_AreArticles.con]) spec_AreArticles.keep NN (fun _ => rfl) (fun x => spec_AreArticles.body NN x)
end
end Go.Ev.Try

namespace Go.Ev.Try
open Go.Proofs Go.Pl
set_option linter.unusedVariables false
noncomputable section
def spec_l03Code.st4 (list0 : List (ByteArray × Int × Int × Int × Int × Int × Int × Int × Int)) (counts1 : List Int) (i5 : Int) : St := ⟨[.dat (.sl 95 (.pair .str (.pair (.int .i64) (.pair (.int .i64) (.pair (.int .i64) (.pair (.int .i64) (.pair (.int .i64) (.pair (.int .i64) (.pair (.int .i64) (.int .i64)))))))))) list0, .dat (.sl 2 (.int .i64)) counts1, .gone, .gone, .gone, .dat (.int .i64) i5, .gone, .gone, .gone, .gone, .gone, .gone, .gone, .gone, .gone, .gone, .gone, .gone, .gone, .gone, .gone, .gone, .gone, .gone, .gone, .gone], []⟩
def spec_l03Code.con : Con := { ps := [(.val, (.sl 95 (.pair .str (.pair (.int .i64) (.pair (.int .i64) (.pair (.int .i64) (.pair (.int .i64) (.pair (.int .i64) (.pair (.int .i64) (.pair (.int .i64) (.int .i64))))))))))), (.val, (.sl 2 (.int .i64)))], rs := [(.val, (.int .i64))], F := fun x => spec_l03Code.f x.1 x.2 }
def spec_l03Code.cs : List (FuncId × Con) := [(72, spec_l01In.con), (109, spec_AreArticles.con)]
def spec_l03Code.E : Env := envOf tab spec_l03Code.cs 0 false
def spec_l03Code.keep (i : Nat) : List Nat := if i = 4 then [0, 1, 5] else []
def spec_l03Code.at4 (n : Nat) (x : (List (ByteArray × Int × Int × Int × Int × Int × Int × Int × Int)) × List Int) : Code × (Ex → St → Option (Int)) := ctx spec_l03Code.E spec_l03Code.keep n [.snd, .snd, .fst, .snd, .blk] (codeOf Try.f100) (kEnd spec_l03Code.E Try.f100 spec_l03Code.con x)
def spec_l03Code.LN4 (n : Nat) (x : (List (ByteArray × Int × Int × Int × Int × Int × Int × Int × Int)) × List Int) : Nat → St → Option (Int) := loopN (exec spec_l03Code.E spec_l03Code.keep n (bodyOf (spec_l03Code.at4 n x).1)) (St.norm 0 (spec_l03Code.keep 4)) (spec_l03Code.at4 n x).2
set_option maxRecDepth 100000 in
theorem spec_l03Code.lem4 (n : Nat) (x : (List (ByteArray × Int × Int × Int × Int × Int × Int × Int × Int)) × List Int) : ∀ (k : Nat) (list0 : List (ByteArray × Int × Int × Int × Int × Int × Int × Int × Int)) (counts1 : List Int) (i5 : Int), spec_l03Code.LN4 n x k (spec_l03Code.st4 list0 counts1 i5) = spec_l03Code.l4 n k list0 counts1 i5 := by
  intro k
  induction k with
  | zero => intro list0 counts1 i5; rfl
  | succ k ih =>
    intro list0 counts1 i5
    have h : spec_l03Code.LN4 n x (k + 1) (spec_l03Code.st4 list0 counts1 i5) = spec_l03Code.g4 (fun list0 counts1 i5 => spec_l03Code.LN4 n x k (spec_l03Code.st4 list0 counts1 i5)) list0 counts1 i5 := by kernel_rfl
    rw [h]
    simp only [ih]
    rfl
set_option maxRecDepth 100000 in
theorem spec_l03Code.body (n : Nat) (x : (List (ByteArray × Int × Int × Int × Int × Int × Int × Int × Int)) × List Int) : bodyF spec_l03Code.E spec_l03Code.keep n Try.f100 spec_l03Code.con x = spec_l03Code.fn n x.1 x.2 := by
  have h : bodyF spec_l03Code.E spec_l03Code.keep n Try.f100 spec_l03Code.con x = spec_l03Code.top (fun list0 counts1 i5 => spec_l03Code.LN4 n x n (spec_l03Code.st4 list0 counts1 i5)) x.1 x.2 := by kernel_rfl
  rw [h]
  simp only [spec_l03Code.lem4]
  rfl
set_option maxRecDepth 100000 in
theorem spec_l03Code.good : Good Try.prog 100 spec_l03Code.con :=
  good_of tabok (cs := spec_l03Code.cs) ⟨spec_l01In.good, spec_AreArticles.good, trivial⟩ 0 false (fn := Try.f100) Try.func100 rfl (by decide) (by simp [spec_l03Code.con]) spec_l03Code.keep NN (fun _ => rfl) (fun x => spec_l03Code.body NN x)
end
end Go.Ev.Try

namespace Go.Ev.Try
open Go.Proofs Go.Pl
set_option linter.unusedVariables false
noncomputable section
def spec_l30Code.con : Con := { ps := [(.val, (.sl 42 (.pair (.int .i64) (.pair (.int .i64) (.pair (.int .i64) (.pair (.int .i64) (.pair (.sl 2 (.int .i64)) (.int .i64)))))))), (.val, (.sl 95 (.pair .str (.pair (.int .i64) (.pair (.int .i64) (.pair (.int .i64) (.pair (.int .i64) (.pair (.int .i64) (.pair (.int .i64) (.pair (.int .i64) (.int .i64))))))))))), (.val, (.sl 2 (.int .i64))), (.val, (.int .i64))], rs := [(.val, (.int .i64))], F := fun x => spec_l30Code.f x.1 x.2.1 x.2.2.1 x.2.2.2 }
def spec_l30Code.cs : List (FuncId × Con) := [(72, spec_l01In.con), (97, spec_l30All.con), (100, spec_l03Code.con)]
def spec_l30Code.E : Env := envOf tab spec_l30Code.cs 0 false
def spec_l30Code.keep (i : Nat) : List Nat := []
set_option maxRecDepth 100000 in
theorem spec_l30Code.body (n : Nat) (x : (List (Int × Int × Int × Int × List Int × Int)) × (List (ByteArray × Int × Int × Int × Int × Int × Int × Int × Int)) × List Int × Int) : bodyF spec_l30Code.E spec_l30Code.keep n Try.f76 spec_l30Code.con x = spec_l30Code.fn n x.1 x.2.1 x.2.2.1 x.2.2.2 := by
  have h : bodyF spec_l30Code.E spec_l30Code.keep n Try.f76 spec_l30Code.con x = spec_l30Code.top x.1 x.2.1 x.2.2.1 x.2.2.2 := by kernel_rfl
  exact h
set_option maxRecDepth 100000 in
theorem spec_l30Code.good : Good Try.prog 76 spec_l30Code.con :=
  good_of tabok (cs := spec_l30Code.cs) ⟨spec_l01In.good, spec_l30All.good, spec_l03Code.good, trivial⟩ 0 false (fn := Try.f76) Try.func76 rfl (by decide) (by simp [spec_l30Code.con]) spec_l30Code.keep NN (fun _ => rfl) (fun x => spec_l30Code.body NN x)
end
end Go.Ev.Try

namespace Go.Ev.Try
open Go.Proofs Go.Pl
set_option linter.unusedVariables false
noncomputable section
def spec_l03Insert.st2 (n1 : Int) (at5 : Int) (list0 : List Int) : St := ⟨[.ref 0, .dat (.int .i64) n1, .gone, .gone, .gone, .dat (.int .i64) at5, .gone, .gone, .gone, .gone, .gone, .gone, .gone, .gone, .gone, .gone, .gone, .gone, .gone, .gone, .gone, .gone, .gone, .gone, .gone, .gone, .gone, .gone, .gone, .gone, .gone, .gone, .gone, .gone, .gone, .gone, .gone, .gone, .gone, .gone, .gone, .gone, .gone, .gone, .gone], [.row 2 (.int .i64) list0 none]⟩
def spec_l03Insert.g2raw (L2 : Int → Int → List Int → Option (List Int)) (n1 : Int) (at5 : Int) (list0 : List Int) : Option (List Int) :=
  if (decide ((at5 : Int) < (list0.length : Int))) = true then
    if (0 : Int) ≤ at5 ∧ (at5 : Int) < list0.length then
      if (decide (((list0.getD (at5 : Int).toNat 0) : Int) < n1)) = true then
        L2 n1 (IntKind.i64.wrap (at5 + 1)) list0
      else if (decide ((at5 : Int) < (list0.length : Int))) = true then
        if (0 : Int) ≤ at5 ∧ (at5 : Int) < list0.length then
          if (((list0.getD (at5 : Int).toNat 0) : Int) == n1) = true then
            some list0
          else if (0 : Int) ≤ at5 ∧ (at5 : Int) ≤ list0.length then
            if (0 : Int) ≤ at5 ∧ (at5 : Int) ≤ list0.length then
              agree (
                agree (
                  if ([] : List Int).length + (list0.take (at5 : Int).toNat).length < room 8 then
                    if (([] : List Int) ++ (list0.take (at5 : Int).toNat)).length + ([n1]).length < room 8 then
                      if ((([] : List Int) ++ (list0.take (at5 : Int).toNat)) ++ ([n1])).length + (list0.drop (at5 : Int).toNat).length < room 8 then
                        some (((([] : List Int) ++ (list0.take (at5 : Int).toNat)) ++ ([n1])) ++ (list0.drop (at5 : Int).toNat))
                      else
                        none
                    else
                      none
                  else
                    none
                ) (
                  if ([] : List Int).length + (list0.take (at5 : Int).toNat).length < room 8 then
                    if (([] : List Int) ++ (list0.take (at5 : Int).toNat)).length + ([n1]).length < room 8 then
                      if ((([] : List Int) ++ (list0.take (at5 : Int).toNat)) ++ ([n1])).length + (list0.drop (at5 : Int).toNat).length < room 8 then
                        some (((([] : List Int) ++ (list0.take (at5 : Int).toNat)) ++ ([n1])) ++ (list0.drop (at5 : Int).toNat))
                      else
                        none
                    else
                      none
                  else
                    none
                )
              ) (
                if ([] : List Int).length + (list0.take (at5 : Int).toNat).length < room 8 then
                  if (([] : List Int) ++ (list0.take (at5 : Int).toNat)).length + ([n1]).length < room 8 then
                    if ((([] : List Int) ++ (list0.take (at5 : Int).toNat)) ++ ([n1])).length + (list0.drop (at5 : Int).toNat).length < room 8 then
                      some (((([] : List Int) ++ (list0.take (at5 : Int).toNat)) ++ ([n1])) ++ (list0.drop (at5 : Int).toNat))
                    else
                      none
                  else
                    none
                else
                  none
              )
            else
              none
          else
            none
        else
          none
      else if (0 : Int) ≤ at5 ∧ (at5 : Int) ≤ list0.length then
        if (0 : Int) ≤ at5 ∧ (at5 : Int) ≤ list0.length then
          agree (
            agree (
              if ([] : List Int).length + (list0.take (at5 : Int).toNat).length < room 8 then
                if (([] : List Int) ++ (list0.take (at5 : Int).toNat)).length + ([n1]).length < room 8 then
                  if ((([] : List Int) ++ (list0.take (at5 : Int).toNat)) ++ ([n1])).length + (list0.drop (at5 : Int).toNat).length < room 8 then
                    some (((([] : List Int) ++ (list0.take (at5 : Int).toNat)) ++ ([n1])) ++ (list0.drop (at5 : Int).toNat))
                  else
                    none
                else
                  none
              else
                none
            ) (
              if ([] : List Int).length + (list0.take (at5 : Int).toNat).length < room 8 then
                if (([] : List Int) ++ (list0.take (at5 : Int).toNat)).length + ([n1]).length < room 8 then
                  if ((([] : List Int) ++ (list0.take (at5 : Int).toNat)) ++ ([n1])).length + (list0.drop (at5 : Int).toNat).length < room 8 then
                    some (((([] : List Int) ++ (list0.take (at5 : Int).toNat)) ++ ([n1])) ++ (list0.drop (at5 : Int).toNat))
                  else
                    none
                else
                  none
              else
                none
            )
          ) (
            if ([] : List Int).length + (list0.take (at5 : Int).toNat).length < room 8 then
              if (([] : List Int) ++ (list0.take (at5 : Int).toNat)).length + ([n1]).length < room 8 then
                if ((([] : List Int) ++ (list0.take (at5 : Int).toNat)) ++ ([n1])).length + (list0.drop (at5 : Int).toNat).length < room 8 then
                  some (((([] : List Int) ++ (list0.take (at5 : Int).toNat)) ++ ([n1])) ++ (list0.drop (at5 : Int).toNat))
                else
                  none
              else
                none
            else
              none
          )
        else
          none
      else
        none
    else
      none
  else if (decide ((at5 : Int) < (list0.length : Int))) = true then
    if (0 : Int) ≤ at5 ∧ (at5 : Int) < list0.length then
      if (((list0.getD (at5 : Int).toNat 0) : Int) == n1) = true then
        some list0
      else if (0 : Int) ≤ at5 ∧ (at5 : Int) ≤ list0.length then
        if (0 : Int) ≤ at5 ∧ (at5 : Int) ≤ list0.length then
          agree (
            agree (
              if ([] : List Int).length + (list0.take (at5 : Int).toNat).length < room 8 then
                if (([] : List Int) ++ (list0.take (at5 : Int).toNat)).length + ([n1]).length < room 8 then
                  if ((([] : List Int) ++ (list0.take (at5 : Int).toNat)) ++ ([n1])).length + (list0.drop (at5 : Int).toNat).length < room 8 then
                    some (((([] : List Int) ++ (list0.take (at5 : Int).toNat)) ++ ([n1])) ++ (list0.drop (at5 : Int).toNat))
                  else
                    none
                else
                  none
              else
                none
            ) (
              if ([] : List Int).length + (list0.take (at5 : Int).toNat).length < room 8 then
                if (([] : List Int) ++ (list0.take (at5 : Int).toNat)).length + ([n1]).length < room 8 then
                  if ((([] : List Int) ++ (list0.take (at5 : Int).toNat)) ++ ([n1])).length + (list0.drop (at5 : Int).toNat).length < room 8 then
                    some (((([] : List Int) ++ (list0.take (at5 : Int).toNat)) ++ ([n1])) ++ (list0.drop (at5 : Int).toNat))
                  else
                    none
                else
                  none
              else
                none
            )
          ) (
            if ([] : List Int).length + (list0.take (at5 : Int).toNat).length < room 8 then
              if (([] : List Int) ++ (list0.take (at5 : Int).toNat)).length + ([n1]).length < room 8 then
                if ((([] : List Int) ++ (list0.take (at5 : Int).toNat)) ++ ([n1])).length + (list0.drop (at5 : Int).toNat).length < room 8 then
                  some (((([] : List Int) ++ (list0.take (at5 : Int).toNat)) ++ ([n1])) ++ (list0.drop (at5 : Int).toNat))
                else
                  none
              else
                none
            else
              none
          )
        else
          none
      else
        none
    else
      none
  else if (0 : Int) ≤ at5 ∧ (at5 : Int) ≤ list0.length then
    if (0 : Int) ≤ at5 ∧ (at5 : Int) ≤ list0.length then
      agree (
        agree (
          if ([] : List Int).length + (list0.take (at5 : Int).toNat).length < room 8 then
            if (([] : List Int) ++ (list0.take (at5 : Int).toNat)).length + ([n1]).length < room 8 then
              if ((([] : List Int) ++ (list0.take (at5 : Int).toNat)) ++ ([n1])).length + (list0.drop (at5 : Int).toNat).length < room 8 then
                some (((([] : List Int) ++ (list0.take (at5 : Int).toNat)) ++ ([n1])) ++ (list0.drop (at5 : Int).toNat))
              else
                none
            else
              none
          else
            none
        ) (
          if ([] : List Int).length + (list0.take (at5 : Int).toNat).length < room 8 then
            if (([] : List Int) ++ (list0.take (at5 : Int).toNat)).length + ([n1]).length < room 8 then
              if ((([] : List Int) ++ (list0.take (at5 : Int).toNat)) ++ ([n1])).length + (list0.drop (at5 : Int).toNat).length < room 8 then
                some (((([] : List Int) ++ (list0.take (at5 : Int).toNat)) ++ ([n1])) ++ (list0.drop (at5 : Int).toNat))
              else
                none
            else
              none
          else
            none
        )
      ) (
        if ([] : List Int).length + (list0.take (at5 : Int).toNat).length < room 8 then
          if (([] : List Int) ++ (list0.take (at5 : Int).toNat)).length + ([n1]).length < room 8 then
            if ((([] : List Int) ++ (list0.take (at5 : Int).toNat)) ++ ([n1])).length + (list0.drop (at5 : Int).toNat).length < room 8 then
              some (((([] : List Int) ++ (list0.take (at5 : Int).toNat)) ++ ([n1])) ++ (list0.drop (at5 : Int).toNat))
            else
              none
          else
            none
        else
          none
      )
    else
      none
  else
    none
theorem spec_l03Insert.g2raw_eq (L2 : Int → Int → List Int → Option (List Int)) (n1 : Int) (at5 : Int) (list0 : List Int) : spec_l03Insert.g2raw L2 n1 at5 list0 = spec_l03Insert.g2 L2 n1 at5 list0 := by
  unfold spec_l03Insert.g2raw spec_l03Insert.g2
  simp only [agree_self]
def spec_l03Insert.con : Con := { ps := [(.own, (.sl 2 (.int .i64))), (.val, (.int .i64))], rs := [(.own, (.sl 2 (.int .i64)))], gv := true, F := fun x => spec_l03Insert.f x.1 x.2 }
def spec_l03Insert.cs : List (FuncId × Con) := []
def spec_l03Insert.E : Env := envOf tab spec_l03Insert.cs 0 false
def spec_l03Insert.keep (i : Nat) : List Nat := if i = 2 then [0, 1, 5] else []
def spec_l03Insert.at2 (n : Nat) (x : List Int × Int) : Code × (Ex → St → Option ((List Int))) := ctx spec_l03Insert.E spec_l03Insert.keep n [.snd, .snd, .fst, .blk] (codeOf Try.f85) (kEnd spec_l03Insert.E Try.f85 spec_l03Insert.con x)
def spec_l03Insert.LN2 (n : Nat) (x : List Int × Int) : Nat → St → Option ((List Int)) := loopN (exec spec_l03Insert.E spec_l03Insert.keep n (bodyOf (spec_l03Insert.at2 n x).1)) (St.norm 0 (spec_l03Insert.keep 2)) (spec_l03Insert.at2 n x).2
set_option maxRecDepth 100000 in
theorem spec_l03Insert.lem2 (n : Nat) (x : List Int × Int) : ∀ (k : Nat) (n1 : Int) (at5 : Int) (list0 : List Int), spec_l03Insert.LN2 n x k (spec_l03Insert.st2 n1 at5 list0) = spec_l03Insert.l2 n k n1 at5 list0 := by
  intro k
  induction k with
  | zero => intro n1 at5 list0; rfl
  | succ k ih =>
    intro n1 at5 list0
    have h : spec_l03Insert.LN2 n x (k + 1) (spec_l03Insert.st2 n1 at5 list0) = spec_l03Insert.g2raw (fun n1 at5 list0 => spec_l03Insert.LN2 n x k (spec_l03Insert.st2 n1 at5 list0)) n1 at5 list0 := by kernel_rfl
    rw [spec_l03Insert.g2raw_eq] at h
    rw [h]
    simp only [ih]
    rfl
set_option maxRecDepth 100000 in
theorem spec_l03Insert.body (n : Nat) (x : List Int × Int) : bodyF spec_l03Insert.E spec_l03Insert.keep n Try.f85 spec_l03Insert.con x = spec_l03Insert.fn n x.1 x.2 := by
  have h : bodyF spec_l03Insert.E spec_l03Insert.keep n Try.f85 spec_l03Insert.con x = spec_l03Insert.top (fun n1 at5 list0 => spec_l03Insert.LN2 n x n (spec_l03Insert.st2 n1 at5 list0)) x.1 x.2 := by kernel_rfl
  rw [h]
  simp only [spec_l03Insert.lem2]
  rfl
set_option maxRecDepth 100000 in
theorem spec_l03Insert.good : Good Try.prog 85 spec_l03Insert.con :=
  good_of tabok (cs := spec_l03Insert.cs) trivial 0 false (fn := Try.f85) Try.func85 rfl (by decide) (by simp [spec_l03Insert.con]) spec_l03Insert.keep NN (fun _ => rfl) (fun x => spec_l03Insert.body NN x)
end
end Go.Ev.Try

namespace Go.Ev.Try
open Go.Proofs Go.Pl
set_option linter.unusedVariables false
noncomputable section
def spec_PermitFor.st6 (list0 : List (ByteArray × Int × Int × Int × Int × Int × Int × Int × Int)) (counts1 : List Int) (i10 : Int) (v6a : Int) (v6ba : Int) (v6bba : Int) (v6bbba : Int) (v6bbbbb : Int) (p9a : Int) (p9ba : Int) (p9bba : Int) (p9bbba : Int) (p9bbbbb : Int) (w2 : List Int) (w3 : List Int) : St := ⟨[.dat (.sl 95 (.pair .str (.pair (.int .i64) (.pair (.int .i64) (.pair (.int .i64) (.pair (.int .i64) (.pair (.int .i64) (.pair (.int .i64) (.pair (.int .i64) (.int .i64)))))))))) list0, .dat (.sl 2 (.int .i64)) counts1, .gone, .gone, .gone, .gone, .ptr 0 [], .gone, .gone, .ptr 1 [], .dat (.int .i64) i10, .gone, .gone, .gone, .gone, .gone, .gone, .gone, .gone, .gone, .gone, .gone, .gone, .gone, .gone, .gone, .gone, .gone, .gone, .gone, .gone, .gone, .gone, .gone, .gone, .gone, .gone, .gone, .gone, .gone, .gone, .gone, .gone, .gone, .gone, .gone, .gone, .gone, .gone, .gone, .gone, .gone, .gone, .gone, .gone, .gone, .gone, .gone, .gone, .gone, .gone, .gone, .gone, .gone, .gone, .gone, .gone, .gone, .gone, .gone, .gone, .gone, .gone, .gone, .gone, .gone, .gone, .gone, .gone, .gone], [.box 42 (.pair (.int .i64) (.pair (.int .i64) (.pair (.int .i64) (.pair (.int .i64) (.pair (.sl 2 (.int .i64)) (.int .i64)))))) (.pr (.dat (.int .i64) v6a) (.pr (.dat (.int .i64) v6ba) (.pr (.dat (.int .i64) v6bba) (.pr (.dat (.int .i64) v6bbba) (.pr (.ref 2) (.dat (.int .i64) v6bbbbb)))))), .box 42 (.pair (.int .i64) (.pair (.int .i64) (.pair (.int .i64) (.pair (.int .i64) (.pair (.sl 2 (.int .i64)) (.int .i64)))))) (.pr (.dat (.int .i64) p9a) (.pr (.dat (.int .i64) p9ba) (.pr (.dat (.int .i64) p9bba) (.pr (.dat (.int .i64) p9bbba) (.pr (.ref 3) (.dat (.int .i64) p9bbbbb)))))), .row 2 (.int .i64) w2 none, .row 2 (.int .i64) w3 none]⟩
def spec_PermitFor.con : Con := { ps := [(.val, (.sl 95 (.pair .str (.pair (.int .i64) (.pair (.int .i64) (.pair (.int .i64) (.pair (.int .i64) (.pair (.int .i64) (.pair (.int .i64) (.pair (.int .i64) (.int .i64))))))))))), (.val, (.sl 2 (.int .i64))), (.val, (.int .i64))], rs := [(.own, (.pair (.int .i64) (.pair (.int .i64) (.pair (.int .i64) (.pair (.int .i64) (.pair (.sl 2 (.int .i64)) (.int .i64))))))), (.own, (.int .i64))], F := fun x => spec_PermitFor.f x.1 x.2.1 x.2.2 }
def spec_PermitFor.cs : List (FuncId × Con) := [(76, spec_l30Code.con), (85, spec_l03Insert.con)]
def spec_PermitFor.E : Env := envOf tab spec_PermitFor.cs 0 false
def spec_PermitFor.keep (i : Nat) : List Nat := if i = 6 then [0, 1, 6, 9, 10] else []
def spec_PermitFor.at6 (n : Nat) (x : (List (ByteArray × Int × Int × Int × Int × Int × Int × Int × Int)) × List Int × Int) : Code × (Ex → St → Option (((Int × Int × Int × Int × List Int × Int) × Int))) := ctx spec_PermitFor.E spec_PermitFor.keep n [.snd, .snd, .snd, .snd, .fst, .snd, .blk] (codeOf Try.f38) (kEnd spec_PermitFor.E Try.f38 spec_PermitFor.con x)
def spec_PermitFor.LN6 (n : Nat) (x : (List (ByteArray × Int × Int × Int × Int × Int × Int × Int × Int)) × List Int × Int) : Nat → St → Option (((Int × Int × Int × Int × List Int × Int) × Int)) := loopN (exec spec_PermitFor.E spec_PermitFor.keep n (bodyOf (spec_PermitFor.at6 n x).1)) (St.norm 0 (spec_PermitFor.keep 6)) (spec_PermitFor.at6 n x).2
set_option maxRecDepth 100000 in
theorem spec_PermitFor.lem6 (n : Nat) (x : (List (ByteArray × Int × Int × Int × Int × Int × Int × Int × Int)) × List Int × Int) : ∀ (k : Nat) (list0 : List (ByteArray × Int × Int × Int × Int × Int × Int × Int × Int)) (counts1 : List Int) (i10 : Int) (v6a : Int) (v6ba : Int) (v6bba : Int) (v6bbba : Int) (v6bbbbb : Int) (p9a : Int) (p9ba : Int) (p9bba : Int) (p9bbba : Int) (p9bbbbb : Int) (w2 : List Int) (w3 : List Int), spec_PermitFor.LN6 n x k (spec_PermitFor.st6 list0 counts1 i10 v6a v6ba v6bba v6bbba v6bbbbb p9a p9ba p9bba p9bbba p9bbbbb w2 w3) = spec_PermitFor.l6 n k list0 counts1 i10 v6a v6ba v6bba v6bbba v6bbbbb p9a p9ba p9bba p9bbba p9bbbbb w2 w3 := by
  intro k
  induction k with
  | zero => intro list0 counts1 i10 v6a v6ba v6bba v6bbba v6bbbbb p9a p9ba p9bba p9bbba p9bbbbb w2 w3; rfl
  | succ k ih =>
    intro list0 counts1 i10 v6a v6ba v6bba v6bbba v6bbbbb p9a p9ba p9bba p9bbba p9bbbbb w2 w3
    have h : spec_PermitFor.LN6 n x (k + 1) (spec_PermitFor.st6 list0 counts1 i10 v6a v6ba v6bba v6bbba v6bbbbb p9a p9ba p9bba p9bbba p9bbbbb w2 w3) = spec_PermitFor.g6 (fun list0 counts1 i10 v6a v6ba v6bba v6bbba v6bbbbb p9a p9ba p9bba p9bbba p9bbbbb w2 w3 => spec_PermitFor.LN6 n x k (spec_PermitFor.st6 list0 counts1 i10 v6a v6ba v6bba v6bbba v6bbbbb p9a p9ba p9bba p9bbba p9bbbbb w2 w3)) list0 counts1 i10 v6a v6ba v6bba v6bbba v6bbbbb p9a p9ba p9bba p9bbba p9bbbbb w2 w3 := by kernel_rfl
    rw [h]
    simp only [ih]
    rfl
set_option maxRecDepth 100000 in
theorem spec_PermitFor.body (n : Nat) (x : (List (ByteArray × Int × Int × Int × Int × Int × Int × Int × Int)) × List Int × Int) : bodyF spec_PermitFor.E spec_PermitFor.keep n Try.f38 spec_PermitFor.con x = spec_PermitFor.fn n x.1 x.2.1 x.2.2 := by
  have h : bodyF spec_PermitFor.E spec_PermitFor.keep n Try.f38 spec_PermitFor.con x = spec_PermitFor.top (fun list0 counts1 i10 v6a v6ba v6bba v6bbba v6bbbbb p9a p9ba p9bba p9bbba p9bbbbb w2 w3 => spec_PermitFor.LN6 n x n (spec_PermitFor.st6 list0 counts1 i10 v6a v6ba v6bba v6bbba v6bbbbb p9a p9ba p9bba p9bbba p9bbbbb w2 w3)) x.1 x.2.1 x.2.2 := by kernel_rfl
  rw [h]
  simp only [spec_PermitFor.lem6]
  rfl
set_option maxRecDepth 100000 in
theorem spec_PermitFor.good : Good Try.prog 38 spec_PermitFor.con :=
  good_of tabok (cs := spec_PermitFor.cs) ⟨spec_l30Code.good, spec_l03Insert.good, trivial⟩ 0 false (fn := Try.f38) Try.func38 rfl (by decide) (by simp [spec_PermitFor.con]) spec_PermitFor.keep NN (fun _ => rfl) (fun x => spec_PermitFor.body NN x)
end
end Go.Ev.Try

namespace Go.Ev.Try
open Go.Proofs Go.Pl
set_option linter.unusedVariables false
noncomputable section
def impl_within.con : Con := { ps := [(.val, (.int .i64)), (.val, (.int .i64)), (.val, (.int .i64))], rs := [(.val, .bool)], F := fun x => impl_within.f x.1 x.2.1 x.2.2 }
def impl_within.cs : List (FuncId × Con) := []
def impl_within.E : Env := envOf tab impl_within.cs 0 false
def impl_within.keep (i : Nat) : List Nat := []
set_option maxRecDepth 100000 in
theorem impl_within.body (n : Nat) (x : Int × Int × Int) : bodyF impl_within.E impl_within.keep n Try.f70 impl_within.con x = impl_within.fn n x.1 x.2.1 x.2.2 := by
  have h : bodyF impl_within.E impl_within.keep n Try.f70 impl_within.con x = impl_within.top x.1 x.2.1 x.2.2 := by kernel_rfl
  exact h
set_option maxRecDepth 100000 in
theorem impl_within.good : Good Try.prog 70 impl_within.con :=
  good_of tabok (cs := impl_within.cs) trivial 0 false (fn := Try.f70) Try.func70 rfl (by decide) (by simp [impl_within.con]) impl_within.keep NN (fun _ => rfl) (fun x => impl_within.body NN x)
end
end Go.Ev.Try

namespace Go.Ev.Try
open Go.Proofs Go.Pl
set_option linter.unusedVariables false
noncomputable section
def impl_IsWord.st4 (s0 : ByteArray) (i3 : Int) : St := ⟨[.dat .str s0, .gone, .gone, .dat (.int .i64) i3, .gone, .gone, .gone, .gone, .gone, .gone, .gone, .gone, .gone, .gone, .gone, .gone, .gone, .gone, .gone, .gone, .gone, .gone, .gone, .gone, .gone, .gone, .gone, .gone], []⟩
def impl_IsWord.con : Con := { ps := [(.val, .str)], rs := [(.val, .bool)], F := fun x => impl_IsWord.f x }
def impl_IsWord.cs : List (FuncId × Con) := []
def impl_IsWord.E : Env := envOf tab impl_IsWord.cs 0 false
def impl_IsWord.keep (i : Nat) : List Nat := if i = 4 then [0, 3] else []
def impl_IsWord.at4 (n : Nat) (x : ByteArray) : Code × (Ex → St → Option (Bool)) := ctx impl_IsWord.E impl_IsWord.keep n [.snd, .snd, .fst, .snd, .blk] (codeOf Try.f110) (kEnd impl_IsWord.E Try.f110 impl_IsWord.con x)
def impl_IsWord.LN4 (n : Nat) (x : ByteArray) : Nat → St → Option (Bool) := loopN (exec impl_IsWord.E impl_IsWord.keep n (bodyOf (impl_IsWord.at4 n x).1)) (St.norm 0 (impl_IsWord.keep 4)) (impl_IsWord.at4 n x).2
set_option maxRecDepth 100000 in
theorem impl_IsWord.lem4 (n : Nat) (x : ByteArray) : ∀ (k : Nat) (s0 : ByteArray) (i3 : Int), impl_IsWord.LN4 n x k (impl_IsWord.st4 s0 i3) = impl_IsWord.l4 n k s0 i3 := by
  intro k
  induction k with
  | zero => intro s0 i3; rfl
  | succ k ih =>
    intro s0 i3
    have h : impl_IsWord.LN4 n x (k + 1) (impl_IsWord.st4 s0 i3) = impl_IsWord.g4 (fun s0 i3 => impl_IsWord.LN4 n x k (impl_IsWord.st4 s0 i3)) s0 i3 := by kernel_rfl
    rw [h]
    simp only [ih]
    rfl
set_option maxRecDepth 100000 in
theorem impl_IsWord.body (n : Nat) (x : ByteArray) : bodyF impl_IsWord.E impl_IsWord.keep n Try.f110 impl_IsWord.con x = impl_IsWord.fn n x := by
  have h : bodyF impl_IsWord.E impl_IsWord.keep n Try.f110 impl_IsWord.con x = impl_IsWord.top (fun s0 i3 => impl_IsWord.LN4 n x n (impl_IsWord.st4 s0 i3)) x := by kernel_rfl
  rw [h]
  simp only [impl_IsWord.lem4]
  rfl
set_option maxRecDepth 100000 in
theorem impl_IsWord.good : Good Try.prog 110 impl_IsWord.con :=
  good_of tabok (cs := impl_IsWord.cs) trivial 0 false (fn := Try.f110) Try.func110 rfl (by decide) (by simp [impl_IsWord.con]) impl_IsWord.keep NN (fun _ => rfl) (fun x => impl_IsWord.body NN x)
end
end Go.Ev.Try

namespace Go.Ev.Try
open Go.Proofs Go.Pl
set_option linter.unusedVariables false
noncomputable section
def impl_IsArticle.con : Con := { ps := [(.val, (.pair .str (.pair (.int .i64) (.pair (.int .i64) (.pair (.int .i64) (.pair (.int .i64) (.pair (.int .i64) (.pair (.int .i64) (.pair (.int .i64) (.int .i64))))))))))], rs := [(.val, .bool)], F := fun x => impl_IsArticle.f x }
def impl_IsArticle.cs : List (FuncId × Con) := [(70, impl_within.con), (110, impl_IsWord.con)]
def impl_IsArticle.E : Env := envOf tab impl_IsArticle.cs 0 false
def impl_IsArticle.keep (i : Nat) : List Nat := []
set_option maxRecDepth 100000 in
theorem impl_IsArticle.body (n : Nat) (x : ByteArray × Int × Int × Int × Int × Int × Int × Int × Int) : bodyF impl_IsArticle.E impl_IsArticle.keep n Try.f102 impl_IsArticle.con x = impl_IsArticle.fn n x := by
  have h : bodyF impl_IsArticle.E impl_IsArticle.keep n Try.f102 impl_IsArticle.con x = impl_IsArticle.top x := by kernel_rfl
  exact h
set_option maxRecDepth 100000 in
theorem impl_IsArticle.good : Good Try.prog 102 impl_IsArticle.con :=
  good_of tabok (cs := impl_IsArticle.cs) ⟨impl_within.good, impl_IsWord.good, trivial⟩ 0 false (fn := Try.f102) Try.func102 rfl (by decide) (by simp [impl_IsArticle.con]) impl_IsArticle.keep NN (fun _ => rfl) (fun x => impl_IsArticle.body NN x)
end
end Go.Ev.Try

namespace Go.Ev.Try
open Go.Proofs Go.Pl
set_option linter.unusedVariables false
noncomputable section
def impl_AreArticles.st4 (list0 : List (ByteArray × Int × Int × Int × Int × Int × Int × Int × Int)) (v8 : List (ByteArray × Int × Int × Int × Int × Int × Int × Int × Int)) (v9 : Int) (v10 : Int) : St := ⟨[.dat (.sl 95 (.pair .str (.pair (.int .i64) (.pair (.int .i64) (.pair (.int .i64) (.pair (.int .i64) (.pair (.int .i64) (.pair (.int .i64) (.pair (.int .i64) (.int .i64)))))))))) list0, .gone, .gone, .gone, .gone, .gone, .gone, .gone, .dat (.sl 95 (.pair .str (.pair (.int .i64) (.pair (.int .i64) (.pair (.int .i64) (.pair (.int .i64) (.pair (.int .i64) (.pair (.int .i64) (.pair (.int .i64) (.int .i64)))))))))) v8, .dat (.int .i64) v9, .dat (.int .i64) v10, .gone, .gone, .gone, .gone, .gone, .gone, .gone, .gone, .gone, .gone, .gone, .gone, .gone, .gone, .gone, .gone, .gone, .gone, .gone, .gone, .gone, .gone, .gone], []⟩
def impl_AreArticles.con : Con := { ps := [(.val, (.sl 95 (.pair .str (.pair (.int .i64) (.pair (.int .i64) (.pair (.int .i64) (.pair (.int .i64) (.pair (.int .i64) (.pair (.int .i64) (.pair (.int .i64) (.int .i64)))))))))))], rs := [(.val, .bool)], F := fun x => impl_AreArticles.f x }
def impl_AreArticles.cs : List (FuncId × Con) := [(102, impl_IsArticle.con)]
def impl_AreArticles.E : Env := envOf tab impl_AreArticles.cs 0 false
def impl_AreArticles.keep (i : Nat) : List Nat := if i = 4 then [0, 8, 9, 10] else []
def impl_AreArticles.at4 (n : Nat) (x : List (ByteArray × Int × Int × Int × Int × Int × Int × Int × Int)) : Code × (Ex → St → Option (Bool)) := ctx impl_AreArticles.E impl_AreArticles.keep n [.snd, .snd, .fst, .snd, .blk] (codeOf Try.f80) (kEnd impl_AreArticles.E Try.f80 impl_AreArticles.con x)
def impl_AreArticles.LN4 (n : Nat) (x : List (ByteArray × Int × Int × Int × Int × Int × Int × Int × Int)) : Nat → St → Option (Bool) := loopN (exec impl_AreArticles.E impl_AreArticles.keep n (bodyOf (impl_AreArticles.at4 n x).1)) (St.norm 0 (impl_AreArticles.keep 4)) (impl_AreArticles.at4 n x).2
set_option maxRecDepth 100000 in
theorem impl_AreArticles.lem4 (n : Nat) (x : List (ByteArray × Int × Int × Int × Int × Int × Int × Int × Int)) : ∀ (k : Nat) (list0 : List (ByteArray × Int × Int × Int × Int × Int × Int × Int × Int)) (v8 : List (ByteArray × Int × Int × Int × Int × Int × Int × Int × Int)) (v9 : Int) (v10 : Int), impl_AreArticles.LN4 n x k (impl_AreArticles.st4 list0 v8 v9 v10) = impl_AreArticles.l4 n k list0 v8 v9 v10 := by
  intro k
  induction k with
  | zero => intro list0 v8 v9 v10; rfl
  | succ k ih =>
    intro list0 v8 v9 v10
    have h : impl_AreArticles.LN4 n x (k + 1) (impl_AreArticles.st4 list0 v8 v9 v10) = impl_AreArticles.g4 (fun list0 v8 v9 v10 => impl_AreArticles.LN4 n x k (impl_AreArticles.st4 list0 v8 v9 v10)) list0 v8 v9 v10 := by kernel_rfl
    rw [h]
    simp only [ih]
    rfl
set_option maxRecDepth 100000 in
theorem impl_AreArticles.body (n : Nat) (x : List (ByteArray × Int × Int × Int × Int × Int × Int × Int × Int)) : bodyF impl_AreArticles.E impl_AreArticles.keep n Try.f80 impl_AreArticles.con x = impl_AreArticles.fn n x := by
  have h : bodyF impl_AreArticles.E impl_AreArticles.keep n Try.f80 impl_AreArticles.con x = impl_AreArticles.top (fun list0 v8 v9 v10 => impl_AreArticles.LN4 n x n (impl_AreArticles.st4 list0 v8 v9 v10)) x := by kernel_rfl
  rw [h]
  simp only [impl_AreArticles.lem4]
  rfl
set_option maxRecDepth 100000 in
theorem impl_AreArticles.good : Good Try.prog 80 impl_AreArticles.con :=
  good_of tabok (cs := impl_AreArticles.cs) ⟨impl_IsArticle.good, trivial⟩ 0 false (fn := Try.f80) Try.func80 rfl (by decide) (by simp [impl_AreArticles.con]) impl_AreArticles.keep NN (fun _ => rfl) (fun x => impl_AreArticles.body NN x)
end
end Go.Ev.Try

namespace Go.Ev.Try
open Go.Proofs Go.Pl
set_option linter.unusedVariables false
noncomputable section
def impl_allWithin.st2 (low1 : Int) (high2 : Int) (v9 : List Int) (v10 : Int) (v11 : Int) : St := ⟨[.gone, .dat (.int .i64) low1, .dat (.int .i64) high2, .gone, .gone, .gone, .gone, .gone, .gone, .dat (.sl 2 (.int .i64)) v9, .dat (.int .i64) v10, .dat (.int .i64) v11, .gone, .gone, .gone, .gone, .gone, .gone, .gone, .gone, .gone], []⟩
def impl_allWithin.con : Con := { ps := [(.val, (.sl 2 (.int .i64))), (.val, (.int .i64)), (.val, (.int .i64))], rs := [(.val, .bool)], F := fun x => impl_allWithin.f x.1 x.2.1 x.2.2 }
def impl_allWithin.cs : List (FuncId × Con) := [(70, impl_within.con)]
def impl_allWithin.E : Env := envOf tab impl_allWithin.cs 0 false
def impl_allWithin.keep (i : Nat) : List Nat := if i = 2 then [1, 2, 9, 10, 11] else []
def impl_allWithin.at2 (n : Nat) (x : List Int × Int × Int) : Code × (Ex → St → Option (Bool)) := ctx impl_allWithin.E impl_allWithin.keep n [.snd, .fst, .snd, .blk] (codeOf Try.f95) (kEnd impl_allWithin.E Try.f95 impl_allWithin.con x)
def impl_allWithin.LN2 (n : Nat) (x : List Int × Int × Int) : Nat → St → Option (Bool) := loopN (exec impl_allWithin.E impl_allWithin.keep n (bodyOf (impl_allWithin.at2 n x).1)) (St.norm 0 (impl_allWithin.keep 2)) (impl_allWithin.at2 n x).2
set_option maxRecDepth 100000 in
theorem impl_allWithin.lem2 (n : Nat) (x : List Int × Int × Int) : ∀ (k : Nat) (low1 : Int) (high2 : Int) (v9 : List Int) (v10 : Int) (v11 : Int), impl_allWithin.LN2 n x k (impl_allWithin.st2 low1 high2 v9 v10 v11) = impl_allWithin.l2 n k low1 high2 v9 v10 v11 := by
  intro k
  induction k with
  | zero => intro low1 high2 v9 v10 v11; rfl
  | succ k ih =>
    intro low1 high2 v9 v10 v11
    have h : impl_allWithin.LN2 n x (k + 1) (impl_allWithin.st2 low1 high2 v9 v10 v11) = impl_allWithin.g2 (fun low1 high2 v9 v10 v11 => impl_allWithin.LN2 n x k (impl_allWithin.st2 low1 high2 v9 v10 v11)) low1 high2 v9 v10 v11 := by kernel_rfl
    rw [h]
    simp only [ih]
    rfl
set_option maxRecDepth 100000 in
theorem impl_allWithin.body (n : Nat) (x : List Int × Int × Int) : bodyF impl_allWithin.E impl_allWithin.keep n Try.f95 impl_allWithin.con x = impl_allWithin.fn n x.1 x.2.1 x.2.2 := by
  have h : bodyF impl_allWithin.E impl_allWithin.keep n Try.f95 impl_allWithin.con x = impl_allWithin.top (fun low1 high2 v9 v10 v11 => impl_allWithin.LN2 n x n (impl_allWithin.st2 low1 high2 v9 v10 v11)) x.1 x.2.1 x.2.2 := by kernel_rfl
  rw [h]
  simp only [impl_allWithin.lem2]
  rfl
set_option maxRecDepth 100000 in
theorem impl_allWithin.good : Good Try.prog 95 impl_allWithin.con :=
  good_of tabok (cs := impl_allWithin.cs) ⟨impl_within.good, trivial⟩ 0 false (fn := Try.f95) Try.func95 rfl (by decide) (by simp [impl_allWithin.con]) impl_allWithin.keep NN (fun _ => rfl) (fun x => impl_allWithin.body NN x)
end
end Go.Ev.Try

namespace Go.Ev.Try
open Go.Proofs Go.Pl
set_option linter.unusedVariables false
noncomputable section
def impl_areCounts.con : Con := { ps := [(.val, (.sl 95 (.pair .str (.pair (.int .i64) (.pair (.int .i64) (.pair (.int .i64) (.pair (.int .i64) (.pair (.int .i64) (.pair (.int .i64) (.pair (.int .i64) (.int .i64))))))))))), (.val, (.sl 2 (.int .i64)))], rs := [(.val, .bool)], F := fun x => impl_areCounts.f x.1 x.2 }
def impl_areCounts.cs : List (FuncId × Con) := [(95, impl_allWithin.con)]
def impl_areCounts.E : Env := envOf tab impl_areCounts.cs 0 false
def impl_areCounts.keep (i : Nat) : List Nat := []
set_option maxRecDepth 100000 in
theorem impl_areCounts.body (n : Nat) (x : (List (ByteArray × Int × Int × Int × Int × Int × Int × Int × Int)) × List Int) : bodyF impl_areCounts.E impl_areCounts.keep n Try.f81 impl_areCounts.con x = impl_areCounts.fn n x.1 x.2 := by
  have h : bodyF impl_areCounts.E impl_areCounts.keep n Try.f81 impl_areCounts.con x = impl_areCounts.top x.1 x.2 := by kernel_rfl
  exact h
set_option maxRecDepth 100000 in
theorem impl_areCounts.good : Good Try.prog 81 impl_areCounts.con :=
  good_of tabok (cs := impl_areCounts.cs) ⟨impl_allWithin.good, trivial⟩ 0 false (fn := Try.f81) Try.func81 rfl (by decide) (by simp [impl_areCounts.con]) impl_areCounts.keep NN (fun _ => rfl) (fun x => impl_areCounts.body NN x)
end
end Go.Ev.Try

namespace Go.Ev.Try
open Go.Proofs Go.Pl
set_option linter.unusedVariables false
noncomputable section
def impl_isDay.con : Con := { ps := [(.val, (.int .i64))], rs := [(.val, .bool)], F := fun x => impl_isDay.f x }
def impl_isDay.cs : List (FuncId × Con) := [(70, impl_within.con)]
def impl_isDay.E : Env := envOf tab impl_isDay.cs 0 false
def impl_isDay.keep (i : Nat) : List Nat := []
set_option maxRecDepth 100000 in
theorem impl_isDay.body (n : Nat) (x : Int) : bodyF impl_isDay.E impl_isDay.keep n Try.f82 impl_isDay.con x = impl_isDay.fn n x := by
  have h : bodyF impl_isDay.E impl_isDay.keep n Try.f82 impl_isDay.con x = impl_isDay.top x := by kernel_rfl
  exact h
set_option maxRecDepth 100000 in
theorem impl_isDay.good : Good Try.prog 82 impl_isDay.con :=
  good_of tabok (cs := impl_isDay.cs) ⟨impl_within.good, trivial⟩ 0 false (fn := Try.f82) Try.func82 rfl (by decide) (by simp [impl_isDay.con]) impl_isDay.keep NN (fun _ => rfl) (fun x => impl_isDay.body NN x)
end
end Go.Ev.Try

namespace Go.Ev.Try
open Go.Proofs Go.Pl
set_option linter.unusedVariables false
noncomputable section
def impl_orderNet.st3 (counts1 : List Int) (sum5 : Int) (v8 : List (ByteArray × Int × Int × Int × Int × Int × Int × Int × Int)) (v9 : Int) (v10 : Int) : St := ⟨[.gone, .dat (.sl 2 (.int .i64)) counts1, .gone, .gone, .gone, .dat (.int .i64) sum5, .gone, .gone, .dat (.sl 95 (.pair .str (.pair (.int .i64) (.pair (.int .i64) (.pair (.int .i64) (.pair (.int .i64) (.pair (.int .i64) (.pair (.int .i64) (.pair (.int .i64) (.int .i64)))))))))) v8, .dat (.int .i64) v9, .dat (.int .i64) v10, .gone, .gone, .gone, .gone, .gone, .gone, .gone, .gone, .gone, .gone, .gone, .gone, .gone, .gone, .gone], []⟩
def impl_orderNet.con : Con := { ps := [(.val, (.sl 95 (.pair .str (.pair (.int .i64) (.pair (.int .i64) (.pair (.int .i64) (.pair (.int .i64) (.pair (.int .i64) (.pair (.int .i64) (.pair (.int .i64) (.int .i64))))))))))), (.val, (.sl 2 (.int .i64)))], rs := [(.val, (.int .i64))], F := fun x => impl_orderNet.f x.1 x.2 }
def impl_orderNet.cs : List (FuncId × Con) := []
def impl_orderNet.E : Env := envOf tab impl_orderNet.cs 0 false
def impl_orderNet.keep (i : Nat) : List Nat := if i = 3 then [1, 5, 8, 9, 10] else []
def impl_orderNet.at3 (n : Nat) (x : (List (ByteArray × Int × Int × Int × Int × Int × Int × Int × Int)) × List Int) : Code × (Ex → St → Option (Int)) := ctx impl_orderNet.E impl_orderNet.keep n [.snd, .snd, .fst, .snd, .blk] (codeOf Try.f86) (kEnd impl_orderNet.E Try.f86 impl_orderNet.con x)
def impl_orderNet.LN3 (n : Nat) (x : (List (ByteArray × Int × Int × Int × Int × Int × Int × Int × Int)) × List Int) : Nat → St → Option (Int) := loopN (exec impl_orderNet.E impl_orderNet.keep n (bodyOf (impl_orderNet.at3 n x).1)) (St.norm 0 (impl_orderNet.keep 3)) (impl_orderNet.at3 n x).2
set_option maxRecDepth 100000 in
theorem impl_orderNet.lem3 (n : Nat) (x : (List (ByteArray × Int × Int × Int × Int × Int × Int × Int × Int)) × List Int) : ∀ (k : Nat) (counts1 : List Int) (sum5 : Int) (v8 : List (ByteArray × Int × Int × Int × Int × Int × Int × Int × Int)) (v9 : Int) (v10 : Int), impl_orderNet.LN3 n x k (impl_orderNet.st3 counts1 sum5 v8 v9 v10) = impl_orderNet.l3 n k counts1 sum5 v8 v9 v10 := by
  intro k
  induction k with
  | zero => intro counts1 sum5 v8 v9 v10; rfl
  | succ k ih =>
    intro counts1 sum5 v8 v9 v10
    have h : impl_orderNet.LN3 n x (k + 1) (impl_orderNet.st3 counts1 sum5 v8 v9 v10) = impl_orderNet.g3 (fun counts1 sum5 v8 v9 v10 => impl_orderNet.LN3 n x k (impl_orderNet.st3 counts1 sum5 v8 v9 v10)) counts1 sum5 v8 v9 v10 := by kernel_rfl
    rw [h]
    simp only [ih]
    rfl
set_option maxRecDepth 100000 in
theorem impl_orderNet.body (n : Nat) (x : (List (ByteArray × Int × Int × Int × Int × Int × Int × Int × Int)) × List Int) : bodyF impl_orderNet.E impl_orderNet.keep n Try.f86 impl_orderNet.con x = impl_orderNet.fn n x.1 x.2 := by
  have h : bodyF impl_orderNet.E impl_orderNet.keep n Try.f86 impl_orderNet.con x = impl_orderNet.top (fun counts1 sum5 v8 v9 v10 => impl_orderNet.LN3 n x n (impl_orderNet.st3 counts1 sum5 v8 v9 v10)) x.1 x.2 := by kernel_rfl
  rw [h]
  simp only [impl_orderNet.lem3]
  rfl
set_option maxRecDepth 100000 in
theorem impl_orderNet.good : Good Try.prog 86 impl_orderNet.con :=
  good_of tabok (cs := impl_orderNet.cs) trivial 0 false (fn := Try.f86) Try.func86 rfl (by decide) (by simp [impl_orderNet.con]) impl_orderNet.keep NN (fun _ => rfl) (fun x => impl_orderNet.body NN x)
end
end Go.Ev.Try

namespace Go.Ev.Try
open Go.Proofs Go.Pl
set_option linter.unusedVariables false
noncomputable section
def impl_PermitFor.st18 (v66 : List Bool) (v67 : Int) (v6a : Int) (v6ba : Int) (v6bba : Int) (v6bbba : Int) (v6bbbbb : Int) (p8a : Int) (p8ba : Int) (p8bba : Int) (p8bbba : Int) (p8bbbbb : Int) (w2 : List Int) (w3 : List Int) : St := ⟨[.gone, .gone, .gone, .gone, .gone, .gone, .ptr 0 [], .gone, .ptr 1 [], .gone, .gone, .gone, .gone, .gone, .gone, .gone, .gone, .gone, .gone, .gone, .gone, .gone, .gone, .gone, .gone, .gone, .gone, .gone, .gone, .gone, .gone, .gone, .gone, .gone, .gone, .gone, .gone, .gone, .gone, .gone, .gone, .gone, .gone, .gone, .gone, .gone, .gone, .gone, .gone, .gone, .gone, .gone, .gone, .gone, .gone, .gone, .gone, .gone, .gone, .gone, .gone, .gone, .gone, .gone, .gone, .gone, .dat (.arr 4 .bool) v66, .dat (.int .i64) v67, .gone, .gone, .gone, .gone, .gone, .gone, .gone, .gone, .gone, .gone, .gone, .gone], [.box 42 (.pair (.int .i64) (.pair (.int .i64) (.pair (.int .i64) (.pair (.int .i64) (.pair (.sl 2 (.int .i64)) (.int .i64)))))) (.pr (.dat (.int .i64) v6a) (.pr (.dat (.int .i64) v6ba) (.pr (.dat (.int .i64) v6bba) (.pr (.dat (.int .i64) v6bbba) (.pr (.ref 2) (.dat (.int .i64) v6bbbbb)))))), .box 42 (.pair (.int .i64) (.pair (.int .i64) (.pair (.int .i64) (.pair (.int .i64) (.pair (.sl 2 (.int .i64)) (.int .i64)))))) (.pr (.dat (.int .i64) p8a) (.pr (.dat (.int .i64) p8ba) (.pr (.dat (.int .i64) p8bba) (.pr (.dat (.int .i64) p8bbba) (.pr (.ref 3) (.dat (.int .i64) p8bbbbb)))))), .row 2 (.int .i64) w2 none, .row 2 (.int .i64) w3 none]⟩
def impl_PermitFor.st10 (counts1 : List Int) (v38 : List (ByteArray × Int × Int × Int × Int × Int × Int × Int × Int)) (v39 : Int) (v40 : Int) (v6a : Int) (v6ba : Int) (v6bba : Int) (v6bbba : Int) (v6bbbbb : Int) (p8a : Int) (p8ba : Int) (p8bba : Int) (p8bbba : Int) (p8bbbbb : Int) (kinds9 : List Bool) (w3 : List Int) (w4 : List Int) : St := ⟨[.gone, .dat (.sl 2 (.int .i64)) counts1, .gone, .gone, .gone, .gone, .ptr 0 [], .gone, .ptr 1 [], .ptr 2 [], .gone, .gone, .gone, .gone, .gone, .gone, .gone, .gone, .gone, .gone, .gone, .gone, .gone, .gone, .gone, .gone, .gone, .gone, .gone, .gone, .gone, .gone, .gone, .gone, .gone, .gone, .gone, .gone, .dat (.sl 95 (.pair .str (.pair (.int .i64) (.pair (.int .i64) (.pair (.int .i64) (.pair (.int .i64) (.pair (.int .i64) (.pair (.int .i64) (.pair (.int .i64) (.int .i64)))))))))) v38, .dat (.int .i64) v39, .dat (.int .i64) v40, .gone, .gone, .gone, .gone, .gone, .gone, .gone, .gone, .gone, .gone, .gone, .gone, .gone, .gone, .gone, .gone, .gone, .gone, .gone, .gone, .gone, .gone, .gone, .gone, .gone, .gone, .gone, .gone, .gone, .gone, .gone, .gone, .gone, .gone, .gone, .gone, .gone, .gone, .gone], [.box 42 (.pair (.int .i64) (.pair (.int .i64) (.pair (.int .i64) (.pair (.int .i64) (.pair (.sl 2 (.int .i64)) (.int .i64)))))) (.pr (.dat (.int .i64) v6a) (.pr (.dat (.int .i64) v6ba) (.pr (.dat (.int .i64) v6bba) (.pr (.dat (.int .i64) v6bbba) (.pr (.ref 3) (.dat (.int .i64) v6bbbbb)))))), .box 42 (.pair (.int .i64) (.pair (.int .i64) (.pair (.int .i64) (.pair (.int .i64) (.pair (.sl 2 (.int .i64)) (.int .i64)))))) (.pr (.dat (.int .i64) p8a) (.pr (.dat (.int .i64) p8ba) (.pr (.dat (.int .i64) p8bba) (.pr (.dat (.int .i64) p8bbba) (.pr (.ref 4) (.dat (.int .i64) p8bbbbb)))))), .box 103 (.arr 4 .bool) (.dat (.arr 4 .bool) kinds9), .row 2 (.int .i64) w3 none, .row 2 (.int .i64) w4 none]⟩
def impl_PermitFor.con : Con := { ps := [(.val, (.sl 95 (.pair .str (.pair (.int .i64) (.pair (.int .i64) (.pair (.int .i64) (.pair (.int .i64) (.pair (.int .i64) (.pair (.int .i64) (.pair (.int .i64) (.int .i64))))))))))), (.val, (.sl 2 (.int .i64))), (.val, (.int .i64))], rs := [(.own, (.pair (.int .i64) (.pair (.int .i64) (.pair (.int .i64) (.pair (.int .i64) (.pair (.sl 2 (.int .i64)) (.int .i64))))))), (.own, (.int .i64))], F := fun x => impl_PermitFor.f x.1 x.2.1 x.2.2 }
def impl_PermitFor.cs : List (FuncId × Con) := [(80, impl_AreArticles.con), (81, impl_areCounts.con), (82, impl_isDay.con), (86, impl_orderNet.con)]
def impl_PermitFor.E : Env := envOf tab impl_PermitFor.cs 0 false
def impl_PermitFor.keep (i : Nat) : List Nat := if i = 18 then [6, 8, 66, 67] else if i = 10 then [1, 6, 8, 9, 38, 39, 40] else []
def impl_PermitFor.at18 (n : Nat) (x : (List (ByteArray × Int × Int × Int × Int × Int × Int × Int × Int)) × List Int × Int) : Code × (Ex → St → Option (((Int × Int × Int × Int × List Int × Int) × Int))) := ctx impl_PermitFor.E impl_PermitFor.keep n [.snd, .snd, .snd, .snd, .snd, .snd, .snd, .fst, .snd, .blk] (codeOf Try.f39) (kEnd impl_PermitFor.E Try.f39 impl_PermitFor.con x)
def impl_PermitFor.LN18 (n : Nat) (x : (List (ByteArray × Int × Int × Int × Int × Int × Int × Int × Int)) × List Int × Int) : Nat → St → Option (((Int × Int × Int × Int × List Int × Int) × Int)) := loopN (exec impl_PermitFor.E impl_PermitFor.keep n (bodyOf (impl_PermitFor.at18 n x).1)) (St.norm 0 (impl_PermitFor.keep 18)) (impl_PermitFor.at18 n x).2
def impl_PermitFor.at10 (n : Nat) (x : (List (ByteArray × Int × Int × Int × Int × Int × Int × Int × Int)) × List Int × Int) : Code × (Ex → St → Option (((Int × Int × Int × Int × List Int × Int) × Int))) := ctx impl_PermitFor.E impl_PermitFor.keep n [.snd, .snd, .snd, .snd, .snd, .snd, .fst, .snd, .blk] (codeOf Try.f39) (kEnd impl_PermitFor.E Try.f39 impl_PermitFor.con x)
def impl_PermitFor.LN10 (n : Nat) (x : (List (ByteArray × Int × Int × Int × Int × Int × Int × Int × Int)) × List Int × Int) : Nat → St → Option (((Int × Int × Int × Int × List Int × Int) × Int)) := loopN (exec impl_PermitFor.E impl_PermitFor.keep n (bodyOf (impl_PermitFor.at10 n x).1)) (St.norm 0 (impl_PermitFor.keep 10)) (impl_PermitFor.at10 n x).2
set_option maxRecDepth 100000 in
theorem impl_PermitFor.lem18 (n : Nat) (x : (List (ByteArray × Int × Int × Int × Int × Int × Int × Int × Int)) × List Int × Int) : ∀ (k : Nat) (v66 : List Bool) (v67 : Int) (v6a : Int) (v6ba : Int) (v6bba : Int) (v6bbba : Int) (v6bbbbb : Int) (p8a : Int) (p8ba : Int) (p8bba : Int) (p8bbba : Int) (p8bbbbb : Int) (w2 : List Int) (w3 : List Int), impl_PermitFor.LN18 n x k (impl_PermitFor.st18 v66 v67 v6a v6ba v6bba v6bbba v6bbbbb p8a p8ba p8bba p8bbba p8bbbbb w2 w3) = impl_PermitFor.l18 n k v66 v67 v6a v6ba v6bba v6bbba v6bbbbb p8a p8ba p8bba p8bbba p8bbbbb w2 w3 := by
  intro k
  induction k with
  | zero => intro v66 v67 v6a v6ba v6bba v6bbba v6bbbbb p8a p8ba p8bba p8bbba p8bbbbb w2 w3; rfl
  | succ k ih =>
    intro v66 v67 v6a v6ba v6bba v6bbba v6bbbbb p8a p8ba p8bba p8bbba p8bbbbb w2 w3
    have h : impl_PermitFor.LN18 n x (k + 1) (impl_PermitFor.st18 v66 v67 v6a v6ba v6bba v6bbba v6bbbbb p8a p8ba p8bba p8bbba p8bbbbb w2 w3) = impl_PermitFor.g18 (fun v66 v67 v6a v6ba v6bba v6bbba v6bbbbb p8a p8ba p8bba p8bbba p8bbbbb w2 w3 => impl_PermitFor.LN18 n x k (impl_PermitFor.st18 v66 v67 v6a v6ba v6bba v6bbba v6bbbbb p8a p8ba p8bba p8bbba p8bbbbb w2 w3)) v66 v67 v6a v6ba v6bba v6bbba v6bbbbb p8a p8ba p8bba p8bbba p8bbbbb w2 w3 := by kernel_rfl
    rw [h]
    simp only [ih]
    rfl
set_option maxRecDepth 100000 in
theorem impl_PermitFor.lem10 (n : Nat) (x : (List (ByteArray × Int × Int × Int × Int × Int × Int × Int × Int)) × List Int × Int) : ∀ (k : Nat) (counts1 : List Int) (v38 : List (ByteArray × Int × Int × Int × Int × Int × Int × Int × Int)) (v39 : Int) (v40 : Int) (v6a : Int) (v6ba : Int) (v6bba : Int) (v6bbba : Int) (v6bbbbb : Int) (p8a : Int) (p8ba : Int) (p8bba : Int) (p8bbba : Int) (p8bbbbb : Int) (kinds9 : List Bool) (w3 : List Int) (w4 : List Int), impl_PermitFor.LN10 n x k (impl_PermitFor.st10 counts1 v38 v39 v40 v6a v6ba v6bba v6bbba v6bbbbb p8a p8ba p8bba p8bbba p8bbbbb kinds9 w3 w4) = impl_PermitFor.l10 n k counts1 v38 v39 v40 v6a v6ba v6bba v6bbba v6bbbbb p8a p8ba p8bba p8bbba p8bbbbb kinds9 w3 w4 := by
  intro k
  induction k with
  | zero => intro counts1 v38 v39 v40 v6a v6ba v6bba v6bbba v6bbbbb p8a p8ba p8bba p8bbba p8bbbbb kinds9 w3 w4; rfl
  | succ k ih =>
    intro counts1 v38 v39 v40 v6a v6ba v6bba v6bbba v6bbbbb p8a p8ba p8bba p8bbba p8bbbbb kinds9 w3 w4
    have h : impl_PermitFor.LN10 n x (k + 1) (impl_PermitFor.st10 counts1 v38 v39 v40 v6a v6ba v6bba v6bbba v6bbbbb p8a p8ba p8bba p8bbba p8bbbbb kinds9 w3 w4) = impl_PermitFor.g10 (fun v66 v67 v6a v6ba v6bba v6bbba v6bbbbb p8a p8ba p8bba p8bbba p8bbbbb w2 w3 => impl_PermitFor.LN18 n x n (impl_PermitFor.st18 v66 v67 v6a v6ba v6bba v6bbba v6bbbbb p8a p8ba p8bba p8bbba p8bbbbb w2 w3)) (fun counts1 v38 v39 v40 v6a v6ba v6bba v6bbba v6bbbbb p8a p8ba p8bba p8bbba p8bbbbb kinds9 w3 w4 => impl_PermitFor.LN10 n x k (impl_PermitFor.st10 counts1 v38 v39 v40 v6a v6ba v6bba v6bbba v6bbbbb p8a p8ba p8bba p8bbba p8bbbbb kinds9 w3 w4)) counts1 v38 v39 v40 v6a v6ba v6bba v6bbba v6bbbbb p8a p8ba p8bba p8bbba p8bbbbb kinds9 w3 w4 := by kernel_rfl
    rw [h]
    simp only [ih, impl_PermitFor.lem18]
    rfl
set_option maxRecDepth 100000 in
theorem impl_PermitFor.body (n : Nat) (x : (List (ByteArray × Int × Int × Int × Int × Int × Int × Int × Int)) × List Int × Int) : bodyF impl_PermitFor.E impl_PermitFor.keep n Try.f39 impl_PermitFor.con x = impl_PermitFor.fn n x.1 x.2.1 x.2.2 := by
  have h : bodyF impl_PermitFor.E impl_PermitFor.keep n Try.f39 impl_PermitFor.con x = impl_PermitFor.top (fun counts1 v38 v39 v40 v6a v6ba v6bba v6bbba v6bbbbb p8a p8ba p8bba p8bbba p8bbbbb kinds9 w3 w4 => impl_PermitFor.LN10 n x n (impl_PermitFor.st10 counts1 v38 v39 v40 v6a v6ba v6bba v6bbba v6bbbbb p8a p8ba p8bba p8bbba p8bbbbb kinds9 w3 w4)) x.1 x.2.1 x.2.2 := by kernel_rfl
  rw [h]
  simp only [impl_PermitFor.lem10]
  rfl
set_option maxRecDepth 100000 in
theorem impl_PermitFor.good : Good Try.prog 39 impl_PermitFor.con :=
  good_of tabok (cs := impl_PermitFor.cs) ⟨impl_AreArticles.good, impl_areCounts.good, impl_isDay.good, impl_orderNet.good, trivial⟩ 0 false (fn := Try.f39) Try.func39 rfl (by decide) (by simp [impl_PermitFor.con]) impl_PermitFor.keep NN (fun _ => rfl) (fun x => impl_PermitFor.body NN x)
end
end Go.Ev.Try

namespace Go.Ev.Try
open Go.Proofs Go.Pl
set_option linter.unusedVariables false
noncomputable section
def laws_eqPermit.con : Con := { ps := [(.val, (.pair (.int .i64) (.pair (.int .i64) (.pair (.int .i64) (.pair (.int .i64) (.pair (.sl 2 (.int .i64)) (.int .i64))))))), (.val, (.pair (.int .i64) (.pair (.int .i64) (.pair (.int .i64) (.pair (.int .i64) (.pair (.sl 2 (.int .i64)) (.int .i64)))))))], rs := [(.val, .bool)], F := fun x => laws_eqPermit.f x.1 x.2 }
def laws_eqPermit.cs : List (FuncId × Con) := [(24, laws_eqInt64S.con)]
def laws_eqPermit.E : Env := envOf tab laws_eqPermit.cs 0 false
def laws_eqPermit.keep (i : Nat) : List Nat := []
set_option maxRecDepth 100000 in
theorem laws_eqPermit.body (n : Nat) (x : (Int × Int × Int × Int × List Int × Int) × Int × Int × Int × Int × List Int × Int) : bodyF laws_eqPermit.E laws_eqPermit.keep n Try.f40 laws_eqPermit.con x = laws_eqPermit.fn n x.1 x.2 := by
  have h : bodyF laws_eqPermit.E laws_eqPermit.keep n Try.f40 laws_eqPermit.con x = laws_eqPermit.top x.1 x.2 := by kernel_rfl
  exact h
set_option maxRecDepth 100000 in
theorem laws_eqPermit.good : Good Try.prog 40 laws_eqPermit.con :=
  good_of tabok (cs := laws_eqPermit.cs) ⟨laws_eqInt64S.good, trivial⟩ 0 false (fn := Try.f40) Try.func40 rfl (by decide) (by simp [laws_eqPermit.con]) laws_eqPermit.keep NN (fun _ => rfl) (fun x => laws_eqPermit.body NN x)
end
end Go.Ev.Try

namespace Go.Ev.Try
open Go.Proofs Go.Pl
set_option linter.unusedVariables false
noncomputable section
def laws_markText.st4 (k0 : Int) (out3 : ByteArray) : St := ⟨[.dat (.int .i64) k0, .gone, .gone, .dat .str out3, .gone, .gone, .gone, .gone, .gone, .gone, .gone, .gone, .gone, .gone, .gone, .gone, .gone, .gone, .gone, .gone], []⟩
def laws_markText.con : Con := { ps := [(.val, (.int .i64))], rs := [(.val, .str)], F := fun x => laws_markText.f x }
def laws_markText.cs : List (FuncId × Con) := []
def laws_markText.E : Env := envOf tab laws_markText.cs 0 false
def laws_markText.keep (i : Nat) : List Nat := if i = 4 then [0, 3] else []
def laws_markText.at4 (n : Nat) (x : Int) : Code × (Ex → St → Option (ByteArray)) := ctx laws_markText.E laws_markText.keep n [.snd, .snd, .snd, .fst, .blk] (codeOf Try.f87) (kEnd laws_markText.E Try.f87 laws_markText.con x)
def laws_markText.LN4 (n : Nat) (x : Int) : Nat → St → Option (ByteArray) := loopN (exec laws_markText.E laws_markText.keep n (bodyOf (laws_markText.at4 n x).1)) (St.norm 0 (laws_markText.keep 4)) (laws_markText.at4 n x).2
set_option maxRecDepth 100000 in
theorem laws_markText.lem4 (n : Nat) (x : Int) : ∀ (k : Nat) (k0 : Int) (out3 : ByteArray), laws_markText.LN4 n x k (laws_markText.st4 k0 out3) = laws_markText.l4 n k k0 out3 := by
  intro k
  induction k with
  | zero => intro k0 out3; rfl
  | succ k ih =>
    intro k0 out3
    have h : laws_markText.LN4 n x (k + 1) (laws_markText.st4 k0 out3) = laws_markText.g4 (fun k0 out3 => laws_markText.LN4 n x k (laws_markText.st4 k0 out3)) k0 out3 := by kernel_rfl
    rw [h]
    simp only [ih]
    rfl
set_option maxRecDepth 100000 in
theorem laws_markText.body (n : Nat) (x : Int) : bodyF laws_markText.E laws_markText.keep n Try.f87 laws_markText.con x = laws_markText.fn n x := by
  have h : bodyF laws_markText.E laws_markText.keep n Try.f87 laws_markText.con x = laws_markText.top (fun k0 out3 => laws_markText.LN4 n x n (laws_markText.st4 k0 out3)) x := by kernel_rfl
  rw [h]
  simp only [laws_markText.lem4]
  rfl
set_option maxRecDepth 100000 in
theorem laws_markText.good : Good Try.prog 87 laws_markText.con :=
  good_of tabok (cs := laws_markText.cs) trivial 0 false (fn := Try.f87) Try.func87 rfl (by decide) (by simp [laws_markText.con]) laws_markText.keep NN (fun _ => rfl) (fun x => laws_markText.body NN x)
end
end Go.Ev.Try

namespace Go.Ev.Try
open Go.Proofs Go.Pl
set_option linter.unusedVariables false
noncomputable section
def laws_markArticleS.st2 (k1 : Int) (i5 : Int) (a0 : List (ByteArray × Int × Int × Int × Int × Int × Int × Int × Int)) : St := ⟨[.ref 0, .dat (.int .i64) k1, .gone, .gone, .gone, .dat (.int .i64) i5, .gone, .gone, .gone, .gone, .gone, .gone, .gone, .gone, .gone, .gone, .gone, .gone, .gone, .gone, .gone, .gone, .gone, .gone, .gone, .gone, .gone, .gone, .gone, .gone, .gone, .gone, .gone, .gone, .gone, .gone, .gone, .gone, .gone, .gone, .gone, .gone, .gone, .gone, .gone, .gone, .gone, .gone, .gone, .gone, .gone, .gone, .gone, .gone, .gone, .gone, .gone, .gone, .gone, .gone, .gone, .gone, .gone, .gone, .gone, .gone, .gone, .gone, .gone, .gone, .gone, .gone, .gone, .gone, .gone, .gone, .gone], [.row 95 (.pair .str (.pair (.int .i64) (.pair (.int .i64) (.pair (.int .i64) (.pair (.int .i64) (.pair (.int .i64) (.pair (.int .i64) (.pair (.int .i64) (.int .i64))))))))) a0 none]⟩
def laws_markArticleS.con : Con := { ps := [(.own, (.sl 95 (.pair .str (.pair (.int .i64) (.pair (.int .i64) (.pair (.int .i64) (.pair (.int .i64) (.pair (.int .i64) (.pair (.int .i64) (.pair (.int .i64) (.int .i64))))))))))), (.val, (.int .i64))], rs := [(.val, (.int .i64))], F := fun x => laws_markArticleS.f x.1 x.2 }
def laws_markArticleS.cs : List (FuncId × Con) := [(87, laws_markText.con)]
def laws_markArticleS.E : Env := envOf tab laws_markArticleS.cs 1 false
def laws_markArticleS.keep (i : Nat) : List Nat := if i = 2 then [0, 1, 5] else []
def laws_markArticleS.at2 (n : Nat) (x : (List (ByteArray × Int × Int × Int × Int × Int × Int × Int × Int)) × Int) : Code × (Ex → St → Option ((Int × List (ByteArray × Int × Int × Int × Int × Int × Int × Int × Int)))) := ctx laws_markArticleS.E laws_markArticleS.keep n [.snd, .fst, .snd, .blk] (codeOf Try.f41) (kEnd laws_markArticleS.E Try.f41 laws_markArticleS.con x)
def laws_markArticleS.LN2 (n : Nat) (x : (List (ByteArray × Int × Int × Int × Int × Int × Int × Int × Int)) × Int) : Nat → St → Option ((Int × List (ByteArray × Int × Int × Int × Int × Int × Int × Int × Int))) := loopN (exec laws_markArticleS.E laws_markArticleS.keep n (bodyOf (laws_markArticleS.at2 n x).1)) (St.norm 1 (laws_markArticleS.keep 2)) (laws_markArticleS.at2 n x).2
set_option maxRecDepth 100000 in
theorem laws_markArticleS.lem2 (n : Nat) (x : (List (ByteArray × Int × Int × Int × Int × Int × Int × Int × Int)) × Int) : ∀ (k : Nat) (k1 : Int) (i5 : Int) (a0 : List (ByteArray × Int × Int × Int × Int × Int × Int × Int × Int)), laws_markArticleS.LN2 n x k (laws_markArticleS.st2 k1 i5 a0) = laws_markArticleS.l2 n k k1 i5 a0 := by
  intro k
  induction k with
  | zero => intro k1 i5 a0; rfl
  | succ k ih =>
    intro k1 i5 a0
    have h : laws_markArticleS.LN2 n x (k + 1) (laws_markArticleS.st2 k1 i5 a0) = laws_markArticleS.g2 (fun k1 i5 a0 => laws_markArticleS.LN2 n x k (laws_markArticleS.st2 k1 i5 a0)) k1 i5 a0 := by kernel_rfl
    rw [h]
    simp only [ih]
    rfl
set_option maxRecDepth 100000 in
theorem laws_markArticleS.body (n : Nat) (x : (List (ByteArray × Int × Int × Int × Int × Int × Int × Int × Int)) × Int) : bodyF laws_markArticleS.E laws_markArticleS.keep n Try.f41 laws_markArticleS.con x = laws_markArticleS.fn n x.1 x.2 := by
  have h : bodyF laws_markArticleS.E laws_markArticleS.keep n Try.f41 laws_markArticleS.con x = laws_markArticleS.top (fun k1 i5 a0 => laws_markArticleS.LN2 n x n (laws_markArticleS.st2 k1 i5 a0)) x.1 x.2 := by kernel_rfl
  rw [h]
  simp only [laws_markArticleS.lem2]
  rfl
set_option maxRecDepth 100000 in
theorem laws_markArticleS.good : Good Try.prog 41 laws_markArticleS.con :=
  good_of tabok (cs := laws_markArticleS.cs) ⟨laws_markText.good, trivial⟩ 1 false (fn := Try.f41) Try.func41 rfl (by decide) (by simp [laws_markArticleS.con]) laws_markArticleS.keep NN (fun _ => rfl) (fun x => laws_markArticleS.body NN x)
end
end Go.Ev.Try

namespace Go.Ev.Try
open Go.Proofs Go.Pl
set_option linter.unusedVariables false
noncomputable section
def laws_markPermit.con : Con := { ps := [(.own, (.pair (.int .i64) (.pair (.int .i64) (.pair (.int .i64) (.pair (.int .i64) (.pair (.sl 2 (.int .i64)) (.int .i64))))))), (.val, (.int .i64))], rs := [(.val, (.int .i64))], F := fun x => laws_markPermit.f x.1 x.2 }
def laws_markPermit.cs : List (FuncId × Con) := [(26, laws_markInt64S.con)]
def laws_markPermit.E : Env := envOf tab laws_markPermit.cs 1 false
def laws_markPermit.keep (i : Nat) : List Nat := []
set_option maxRecDepth 100000 in
theorem laws_markPermit.body (n : Nat) (x : (Int × Int × Int × Int × List Int × Int) × Int) : bodyF laws_markPermit.E laws_markPermit.keep n Try.f42 laws_markPermit.con x = laws_markPermit.fn n x.1 x.2 := by
  have h : bodyF laws_markPermit.E laws_markPermit.keep n Try.f42 laws_markPermit.con x = laws_markPermit.top x.1 x.2 := by kernel_rfl
  exact h
set_option maxRecDepth 100000 in
theorem laws_markPermit.good : Good Try.prog 42 laws_markPermit.con :=
  good_of tabok (cs := laws_markPermit.cs) ⟨laws_markInt64S.good, trivial⟩ 1 false (fn := Try.f42) Try.func42 rfl (by decide) (by simp [laws_markPermit.con]) laws_markPermit.keep NN (fun _ => rfl) (fun x => laws_markPermit.body NN x)
end
end Go.Ev.Try

namespace Go.Ev.Try
open Go.Proofs Go.Pl
set_option linter.unusedVariables false
noncomputable section
def laws_heldInt64S.st2 (a0 : List Int) (k1 : Int) (i5 : Int) : St := ⟨[.dat (.sl 2 (.int .i64)) a0, .dat (.int .i64) k1, .gone, .gone, .gone, .dat (.int .i64) i5, .gone, .gone, .gone, .gone, .gone, .gone, .gone, .gone, .gone, .gone, .gone, .gone, .gone, .gone, .gone], []⟩
def laws_heldInt64S.con : Con := { ps := [(.val, (.sl 2 (.int .i64))), (.val, (.int .i64))], rs := [(.val, (.int .i64))], F := fun x => laws_heldInt64S.f x.1 x.2 }
def laws_heldInt64S.cs : List (FuncId × Con) := []
def laws_heldInt64S.E : Env := envOf tab laws_heldInt64S.cs 0 false
def laws_heldInt64S.keep (i : Nat) : List Nat := if i = 2 then [0, 1, 5] else []
def laws_heldInt64S.at2 (n : Nat) (x : List Int × Int) : Code × (Ex → St → Option (Int)) := ctx laws_heldInt64S.E laws_heldInt64S.keep n [.snd, .fst, .snd, .blk] (codeOf Try.f27) (kEnd laws_heldInt64S.E Try.f27 laws_heldInt64S.con x)
def laws_heldInt64S.LN2 (n : Nat) (x : List Int × Int) : Nat → St → Option (Int) := loopN (exec laws_heldInt64S.E laws_heldInt64S.keep n (bodyOf (laws_heldInt64S.at2 n x).1)) (St.norm 0 (laws_heldInt64S.keep 2)) (laws_heldInt64S.at2 n x).2
set_option maxRecDepth 100000 in
theorem laws_heldInt64S.lem2 (n : Nat) (x : List Int × Int) : ∀ (k : Nat) (a0 : List Int) (k1 : Int) (i5 : Int), laws_heldInt64S.LN2 n x k (laws_heldInt64S.st2 a0 k1 i5) = laws_heldInt64S.l2 n k a0 k1 i5 := by
  intro k
  induction k with
  | zero => intro a0 k1 i5; rfl
  | succ k ih =>
    intro a0 k1 i5
    have h : laws_heldInt64S.LN2 n x (k + 1) (laws_heldInt64S.st2 a0 k1 i5) = laws_heldInt64S.g2 (fun a0 k1 i5 => laws_heldInt64S.LN2 n x k (laws_heldInt64S.st2 a0 k1 i5)) a0 k1 i5 := by kernel_rfl
    rw [h]
    simp only [ih]
    rfl
set_option maxRecDepth 100000 in
theorem laws_heldInt64S.body (n : Nat) (x : List Int × Int) : bodyF laws_heldInt64S.E laws_heldInt64S.keep n Try.f27 laws_heldInt64S.con x = laws_heldInt64S.fn n x.1 x.2 := by
  have h : bodyF laws_heldInt64S.E laws_heldInt64S.keep n Try.f27 laws_heldInt64S.con x = laws_heldInt64S.top (fun a0 k1 i5 => laws_heldInt64S.LN2 n x n (laws_heldInt64S.st2 a0 k1 i5)) x.1 x.2 := by kernel_rfl
  rw [h]
  simp only [laws_heldInt64S.lem2]
  rfl
set_option maxRecDepth 100000 in
theorem laws_heldInt64S.good : Good Try.prog 27 laws_heldInt64S.con :=
  good_of tabok (cs := laws_heldInt64S.cs) trivial 0 false (fn := Try.f27) Try.func27 rfl (by decide) (by simp [laws_heldInt64S.con]) laws_heldInt64S.keep NN (fun _ => rfl) (fun x => laws_heldInt64S.body NN x)
end
end Go.Ev.Try

namespace Go.Ev.Try
open Go.Proofs Go.Pl
set_option linter.unusedVariables false
noncomputable section
def laws_heldPermit.con : Con := { ps := [(.val, (.pair (.int .i64) (.pair (.int .i64) (.pair (.int .i64) (.pair (.int .i64) (.pair (.sl 2 (.int .i64)) (.int .i64))))))), (.val, (.int .i64))], rs := [(.val, (.int .i64))], F := fun x => laws_heldPermit.f x.1 x.2 }
def laws_heldPermit.cs : List (FuncId × Con) := [(27, laws_heldInt64S.con)]
def laws_heldPermit.E : Env := envOf tab laws_heldPermit.cs 0 false
def laws_heldPermit.keep (i : Nat) : List Nat := []
set_option maxRecDepth 100000 in
theorem laws_heldPermit.body (n : Nat) (x : (Int × Int × Int × Int × List Int × Int) × Int) : bodyF laws_heldPermit.E laws_heldPermit.keep n Try.f43 laws_heldPermit.con x = laws_heldPermit.fn n x.1 x.2 := by
  have h : bodyF laws_heldPermit.E laws_heldPermit.keep n Try.f43 laws_heldPermit.con x = laws_heldPermit.top x.1 x.2 := by kernel_rfl
  exact h
set_option maxRecDepth 100000 in
theorem laws_heldPermit.good : Good Try.prog 43 laws_heldPermit.con :=
  good_of tabok (cs := laws_heldPermit.cs) ⟨laws_heldInt64S.good, trivial⟩ 0 false (fn := Try.f43) Try.func43 rfl (by decide) (by simp [laws_heldPermit.con]) laws_heldPermit.keep NN (fun _ => rfl) (fun x => laws_heldPermit.body NN x)
end
end Go.Ev.Try

namespace Go.Ev.Try
open Go.Proofs Go.Pl
set_option linter.unusedVariables false
noncomputable section
def laws_FnExactPermitFor.con : Con := { ps := [(.val, (.sl 92 (.pair .str (.pair (.int .i64) (.pair (.int .i64) (.pair (.int .i64) (.pair (.int .i64) (.pair (.int .i64) (.pair (.int .i64) (.pair (.int .i64) (.int .i64))))))))))), (.val, (.sl 2 (.int .i64))), (.val, (.int .i64))], rs := [(.val, .bool)], F := fun x => laws_FnExactPermitFor.f x.1 x.2.1 x.2.2 }
def laws_FnExactPermitFor.cs : List (FuncId × Con) := [(26, laws_markInt64S.con), (29, laws_szArticleS.con), (32, laws_toArticleS.con), (33, laws_toInt64S.con), (36, laws_intactArticleS.con), (37, laws_intactInt64S.con), (38, spec_PermitFor.con), (39, impl_PermitFor.con), (40, laws_eqPermit.con), (41, laws_markArticleS.con), (42, laws_markPermit.con), (43, laws_heldPermit.con)]
def laws_FnExactPermitFor.E : Env := envOf tab laws_FnExactPermitFor.cs 0 false
def laws_FnExactPermitFor.keep (i : Nat) : List Nat := []
set_option maxRecDepth 100000 in
theorem laws_FnExactPermitFor.body (n : Nat) (x : (List (ByteArray × Int × Int × Int × Int × Int × Int × Int × Int)) × List Int × Int) : bodyF laws_FnExactPermitFor.E laws_FnExactPermitFor.keep n Try.f7 laws_FnExactPermitFor.con x = laws_FnExactPermitFor.fn n x.1 x.2.1 x.2.2 := by
  have h : bodyF laws_FnExactPermitFor.E laws_FnExactPermitFor.keep n Try.f7 laws_FnExactPermitFor.con x = laws_FnExactPermitFor.top x.1 x.2.1 x.2.2 := by kernel_rfl
  exact h
set_option maxRecDepth 100000 in
theorem laws_FnExactPermitFor.good : Good Try.prog 7 laws_FnExactPermitFor.con :=
  good_of tabok (cs := laws_FnExactPermitFor.cs) ⟨laws_markInt64S.good, laws_szArticleS.good, laws_toArticleS.good, laws_toInt64S.good, laws_intactArticleS.good, laws_intactInt64S.good, spec_PermitFor.good, impl_PermitFor.good, laws_eqPermit.good, laws_markArticleS.good, laws_markPermit.good, laws_heldPermit.good, trivial⟩ 0 false (fn := Try.f7) Try.func7 rfl (by decide) (by simp [laws_FnExactPermitFor.con]) laws_FnExactPermitFor.keep NN (fun _ => rfl) (fun x => laws_FnExactPermitFor.body NN x)
end
end Go.Ev.Try

/- Words for the plain laws. -/
namespace Go.Pl
open Go.Ev
set_option linter.unusedVariables false

theorem wf64 {n : Int} : (Lit.int .i64 n).wf = true ↔ (-9223372036854775808 ≤ n ∧ n ≤ 9223372036854775807) := by
  simp only [Lit.wf, Bool.and_eq_true, decide_eq_true_eq]
  have e1 : IntKind.i64.min = -9223372036854775808 := by decide
  have e2 : IntKind.i64.max = 9223372036854775807 := by decide
  omega
theorem wf8 {n : Int} : (Lit.int .u8 n).wf = true ↔ (0 ≤ n ∧ n ≤ 255) := by
  simp only [Lit.wf, Bool.and_eq_true, decide_eq_true_eq]
  have e1 : IntKind.u8.min = 0 := by decide
  have e2 : IntKind.u8.max = 255 := by decide
  omega
theorem w8 {n : Int} (h1 : 0 ≤ n) (h2 : n < 256) : IntKind.u8.wrap n = n := by
  simp only [IntKind.wrap, IntKind.bits, IntKind.signed]
  simp
  omega
theorem w8_range (n : Int) : 0 ≤ IntKind.u8.wrap n ∧ IntKind.u8.wrap n < 256 := by
  simp only [IntKind.wrap, IntKind.bits, IntKind.signed]
  simp
  omega

/-! Rows, taken apart where a loop stands. -/
theorem mid_get {α : Type} (p r : List α) (x z : α) : (p ++ x :: r).getD (p.length : Int).toNat z = x := by simp
theorem mid_set {α : Type} (p r : List α) (x y : α) : (p ++ x :: r).set (p.length : Int).toNat y = p ++ y :: r := by simp
theorem mid_getn {α : Type} (p r : List α) (x z : α) : (p ++ x :: r).getD p.length z = x := by simp
theorem mid_setn {α : Type} (p r : List α) (x y : α) : (p ++ x :: r).set p.length y = p ++ y :: r := by simp
theorem mid_len {α : Type} (p r : List α) (x : α) : ((p ++ x :: r).length : Int) = (p.length : Int) + r.length + 1 := by simp; omega
theorem mid_nil {α : Type} (p : List α) : p ++ [] = p := by simp
theorem mid_snoc {α : Type} (p r : List α) (x : α) : (p ++ [x]) ++ r = p ++ x :: r := by simp
theorem snoc_len {α : Type} (p : List α) (x : α) : ((p ++ [x]).length : Int) = (p.length : Int) + 1 := by simp
/-- A loop over a row: l stands for its rounds, f for what it comes to. -/
theorem loop_mid {α ρ σ : Type} {B : Nat} (l : Nat → List α → Int → σ → Option ρ) (f : List α → List α → σ → Option ρ)
    (hnil : ∀ k pre st, pre.length ≤ B → l (k + 1) pre (pre.length : Int) st = f pre [] st)
    (hcons : ∀ k pre a r st, pre.length + r.length + 1 ≤ B → (∀ st', l k (pre ++ a :: r) ((pre.length : Int) + 1) st' = f (pre ++ [a]) r st') → l (k + 1) (pre ++ a :: r) (pre.length : Int) st = f pre (a :: r) st) :
    ∀ r pre k st, pre.length + r.length ≤ B → r.length < k → l k (pre ++ r) (pre.length : Int) st = f pre r st := by
  intro r
  induction r with
  | nil =>
    intro pre k st h1 h2
    obtain ⟨k, rfl⟩ : ∃ j, k = j + 1 := ⟨k - 1, by omega⟩
    rw [List.append_nil]
    exact hnil k pre st (by simpa using h1)
  | cons a r ih =>
    intro pre k st h1 h2
    simp only [List.length_cons] at h1 h2
    obtain ⟨k, rfl⟩ : ∃ j, k = j + 1 := ⟨k - 1, by omega⟩
    refine hcons k pre a r st (by omega) fun st' => ?_
    have := ih (pre ++ [a]) k st' (by simp; omega) (by omega)
    rw [mid_snoc, snoc_len] at this
    exact this
/-- The same, where the row itself is written. -/
theorem loop_mid0 {α ρ σ : Type} {B : Nat} (l : Nat → List α → Int → σ → Option ρ) (f : List α → List α → σ → Option ρ)
    (hnil : ∀ k pre st, pre.length ≤ B → l (k + 1) pre (pre.length : Int) st = f pre [] st)
    (hcons : ∀ k pre a r st, pre.length + r.length + 1 ≤ B → (∀ st', l k (pre ++ a :: r) ((pre.length : Int) + 1) st' = f (pre ++ [a]) r st') → l (k + 1) (pre ++ a :: r) (pre.length : Int) st = f pre (a :: r) st)
    (xs : List α) (k : Nat) (st : σ) (h1 : xs.length ≤ B) (h2 : xs.length < k) : l k xs 0 st = f [] xs st := by
  have := loop_mid l f hnil hcons xs [] k st (by simpa using h1) h2
  simpa using this
/-- A loop by a measure. -/
theorem loop_by {ρ σ : Type} (l : Nat → σ → Option ρ) (μ : σ → Nat) (Q : σ → Option ρ → Prop)
    (h : ∀ k st, (∀ st', μ st' < μ st → Q st' (l k st')) → Q st (l (k + 1) st)) : ∀ k st, μ st < k → Q st (l k st) := by
  intro k
  induction k with
  | zero => intro st h; omega
  | succ k ih => intro st hk; exact h k st fun st' h' => ih st' (by omega)

/-! Bytes. -/
theorem ba_toList {a b : ByteArray} : a.toList = b.toList ↔ a = b := by
  rw [ByteArray.toList_eq, ByteArray.toList_eq]
  exact ⟨fun h => ByteArray.ext (Array.toList_inj.mp h), fun h => by rw [h]⟩
theorem ba_beq (a b : ByteArray) : (a.toList == b.toList) = decide (a = b) := by
  by_cases h : a = b
  · subst h; simp
  · rw [decide_eq_false h, beq_eq_false_iff_ne]; exact fun e => h (ba_toList.1 e)
def bl (s : ByteArray) : List UInt8 := s.data.toList
def ob (l : List UInt8) : ByteArray := ⟨l.toArray⟩
theorem bl_ob (l : List UInt8) : bl (ob l) = l := by simp [bl, ob]
theorem ob_bl (s : ByteArray) : ob (bl s) = s := by simp [bl, ob]
theorem bl_inj {a b : ByteArray} (h : bl a = bl b) : a = b := by rw [← ob_bl a, h, ob_bl]
theorem ob_inj {a b : List UInt8} (h : ob a = ob b) : a = b := by rw [← bl_ob a, h, bl_ob]
theorem bl_length (s : ByteArray) : (bl s).length = s.size := by simp only [bl, Array.length_toList]; rfl
theorem ob_size (l : List UInt8) : (ob l).size = l.length := by rw [← bl_length, bl_ob]
theorem bl_append (a b : ByteArray) : bl (a ++ b) = bl a ++ bl b := by simp [bl]
theorem ob_append (a b : List UInt8) : ob a ++ ob b = ob (a ++ b) := by apply bl_inj; rw [bl_append, bl_ob, bl_ob, bl_ob]
theorem bl_lit (a : Array UInt8) : bl (⟨a⟩ : ByteArray) = a.toList := rfl
theorem lit_ob (l : List UInt8) : (⟨l.toArray⟩ : ByteArray) = ob l := rfl
theorem bl_extract (s : ByteArray) (i j : Nat) : bl (s.extract i j) = ((bl s).take j).drop i := by
  simp only [bl, ByteArray.data_extract, Array.toList_extract, List.extract]
  rw [List.drop_take]
theorem ob_extract (l : List UInt8) (i j : Nat) : (ob l).extract i j = ob ((l.take j).drop i) := by apply bl_inj; rw [bl_extract, bl_ob, bl_ob]
theorem ob_toList (l : List UInt8) : (ob l).toList = l := by rw [ByteArray.toList_eq]; rfl
theorem ba_bl (s : ByteArray) : s.toList = bl s := by rw [ByteArray.toList_eq]; rfl
theorem bt_ob (l : List UInt8) (i : Int) : bt (ob l) i = ((l.getD i.toNat 0).toNat : Int) := rfl
theorem bt_mid (p r : List UInt8) (c : UInt8) : bt (ob (p ++ c :: r)) (p.length : Int) = (c.toNat : Int) := by rw [bt_ob, mid_get]
theorem bt_range (s : ByteArray) (i : Int) : 0 ≤ bt s i ∧ bt s i ≤ 255 := by
  unfold bt
  have := UInt8.toNat_lt ((s.data.toList.getD i.toNat 0))
  omega
theorem u8_lt (c : UInt8) : c.toNat < 256 := UInt8.toNat_lt c
theorem u8_eq {a : UInt8} {n : Nat} (h : n < 256) : ((a.toNat : Int) = (n : Int)) ↔ a = UInt8.ofNat n := by
  constructor
  · intro e
    apply UInt8.toNat_inj.mp
    rw [UInt8.toNat_ofNat']; omega
  · rintro rfl
    rw [UInt8.toNat_ofNat']; omega
theorem bytesOf_ob (l : List Int) : bytesOf l = ob (l.map fun n => UInt8.ofNat n.toNat) := rfl
/-- Every string is of bytes. -/
theorem ob_all {P : ByteArray → Prop} (h : ∀ l, P (ob l)) (s : ByteArray) : P s := by rw [← ob_bl s]; exact h _
/-- A loop over a string's bytes. -/
theorem loop_str0 {ρ σ : Type} {B : Nat} (l : Nat → ByteArray → Int → σ → Option ρ) (f : List UInt8 → List UInt8 → σ → Option ρ)
    (hnil : ∀ k pre st, pre.length ≤ B → l (k + 1) (ob pre) (pre.length : Int) st = f pre [] st)
    (hcons : ∀ k pre a r st, pre.length + r.length + 1 ≤ B → (∀ st', l k (ob (pre ++ a :: r)) ((pre.length : Int) + 1) st' = f (pre ++ [a]) r st') → l (k + 1) (ob (pre ++ a :: r)) (pre.length : Int) st = f pre (a :: r) st)
    (s : ByteArray) (k : Nat) (st : σ) (h1 : s.size ≤ B) (h2 : s.size < k) : l k s 0 st = f [] (bl s) st := by
  have := loop_mid0 (fun k xs i st => l k (ob xs) i st) f hnil hcons (bl s) k st (by rw [bl_length]; exact h1) (by rw [bl_length]; exact h2)
  rw [ob_bl] at this
  exact this
theorem room1 : room 1 = 140737488355328 := by decide
theorem room8 : room 8 = 17592186044416 := by decide
theorem room16 : room 16 = 8796093022208 := by decide
theorem room24 : room 24 = 5864062014805 := by decide
theorem room32 : room 32 = 4398046511104 := by decide
theorem room40 : room 40 = 3518437208883 := by decide
theorem NNb : (1000000000000 : Nat) < NN := by rw [NN_eq]; omega
theorem NN_lt {n : Nat} (h : n < 1152921504606846976) : n < NN := by rw [NN_eq]; omega
theorem some_iff {b c : Bool} (h : b = true ↔ c = true) : some b = some c := by
  congr 1; exact Bool.eq_iff_iff.mpr h
end Go.Pl

/- A law's row: what its arguments are, in plain words. -/
namespace Go.Ev
set_option linter.unusedVariables false
set_option linter.unusedSimpArgs false
open Go.RowKit Go.WideShapes Go.ChangeShapes Go.ChangeAt
variable {P : Program}

def Rg (k : IntKind) (n : Int) : Prop := (Lit.int k n).wf = true
def Sz (s : ByteArray) : Prop := s.size ≤ 140737488355328
def Ls {α : Type} (Q : α → Prop) (xs : List α) : Prop := xs.length ≤ 140737488355328 ∧ ∀ x ∈ xs, Q x
def Plain : (t : Ty) → t.I → Prop
  | .int k, n => Rg k n
  | .bool, _ => True
  | .str, s => Sz s
  | .sl _ t, xs => Ls (Plain t) xs
  | .slb _ _, _ => True
  | .pair a b, x => Plain a x.1 ∧ Plain b x.2
  | .arr n t, xs => xs.length = n ∧ ∀ x ∈ xs, Plain t x
def PlainAll : (ts : List Ty) → Tup ts → Prop
  | [], _ => True
  | [t], x => Plain t x
  | t :: u :: r, x => Plain t x.1 ∧ PlainAll (u :: r) x.2
def okE (B : TypeId → Nat) : Ty → Bool
  | .sl e t => decide (1 ≤ B e) && okE B t
  | .slb e t => decide (1 ≤ B e) && okE B t
  | .pair a b => okE B a && okE B b
  | .arr _ t => okE B t
  | _ => true
theorem reach_lt : reachBytes ≤ 140737488355328 := by decide
theorem fit_plain {B : TypeId → Nat} : ∀ (t : Ty) (x : t.I), okE B t = true → Fit B t x → Plain t x := by
  intro t
  induction t with
  | int k => intro x _ h; exact h
  | bool => intro x _ h; trivial
  | str => intro x _ h; exact Nat.le_trans h reach_lt
  | sl e t ih =>
    intro x ho h
    simp only [okE, Bool.and_eq_true, decide_eq_true_eq] at ho
    refine ⟨?_, fun y hy => ih y ho.2 (h.2 y hy)⟩
    have h1 : x.length * 1 ≤ x.length * B e := Nat.mul_le_mul_left _ ho.1
    have h2 := h.1
    have h3 := reach_lt
    omega
  | slb e t ih => intro x ho h; trivial
  | pair a b iha ihb =>
    intro x ho h
    simp only [okE, Bool.and_eq_true] at ho
    exact ⟨iha _ ho.1 h.1, ihb _ ho.2 h.2⟩
  | arr n t ih => intro x ho h; exact ⟨h.1, fun y hy => ih y ho (h.2 y hy)⟩
theorem fit_plainAll {B : TypeId → Nat} : ∀ (ts : List Ty) (x : Tup ts), ts.all (okE B) = true → FitAll B ts x → PlainAll ts x := by
  intro ts
  induction ts with
  | nil => intro x _ _; trivial
  | cons t r ih =>
    intro x ho h
    simp only [List.all_cons, Bool.and_eq_true] at ho
    cases r with
    | nil => exact fit_plain t x ho.1 h
    | cons u r => exact ⟨fit_plain t x.1 ho.1 h.1, ih x.2 ho.2 h.2⟩
theorem ok_all {tab : List TRow} (h : okB P tab = true) : tab.all (rowB P tab) = true := by
  unfold okB at h; simp only [Bool.and_eq_true] at h; exact h.2.2
theorem bytes_sound {tab : List TRow} (h : okB P tab = true) : ∀ t x, tabT tab t = some x → P.bytesOf t = tabB tab t := by
  intro t x ht
  have hs := tab_sound (ok_all h)
  obtain ⟨ty, n⟩ := x
  obtain ⟨i, h1, h2⟩ := (hs.1 t ty n ht).info
  unfold Program.bytesOf
  rw [h1]
  exact hs.2 t _ ht i h1
section
variable {H : Type} {enc : TypeId × Value → H} {w : World} {base : Nat} {spare : Nat → Bool} {held : Bool}
theorem law_row {tab : List TRow} (hok : okB P tab = true) (hpos : posB tab = true) {f : FuncId} {c : Con} (hg : Good P f c) (hps : (c.ps.map (·.2)).map ((Kn.val, ·)) = c.ps) (hE : (c.ps.map (·.2)).all (okE (tabB tab)) = true)
    (hlaw : ∀ x, PlainAll (c.ps.map (·.2)) x → ∃ r, c.F x = some r ∧ kds' c.rs (dats _ r) = [(.val, ⟨.bool, true⟩)])
    {r : Reach} {b0 : Nat} {ts : List TypeId} {args : Array Value} {ds : List (DataW H)} {p : List MemPlace} (hts : tysOf (tabT tab) ts = some (c.ps.map (·.2))) (h : DataW.TrodAll enc P w base spare held ts args.toList ds p)
    (hval : ∀ (j : Nat) t v, ts[j]? = some t → args[j]? = some v → Value.okWide P w r b0 t v) {vt : List TypeId} {gs : List (DataW H)} (hgs : vt = [] ∨ gs = []) (hw : (DataW.weightsEach P (ts ++ vt) (ds ++ gs)).all (· ≤ reachBytes) = true) (hl : ts.length = ds.length) :
    Calls P f args w fun e w' => e = .returned (.bool true) ∧ Below w.heap.size w w' := by
  refine law_calls (tab_sound (ok_all hok)).1 (bytes_sound hok) (posB_sound hpos) hg hps (fun x hx => hlaw x (fit_plainAll _ x hE hx)) hts h (fun j t v hj hv => hval j t v hj (by simpa using hv)) ?_
  have key : ∀ (ts : List TypeId) (ds : List (DataW H)), ts.length = ds.length → ∀ m ∈ DataW.weightsEach P ts ds, m ∈ DataW.weightsEach P (ts ++ vt) (ds ++ gs) := by
    intro ts
    induction ts with
    | nil => intro ds hl m hm; cases ds <;> simp [DataW.weightsEach] at hm
    | cons t ts ih =>
      intro ds hl m hm
      cases ds with
      | nil => simp [DataW.weightsEach] at hm
      | cons d ds =>
        simp only [List.cons_append, DataW.weightsEach, List.mem_append] at hm ⊢
        rcases hm with hm | hm
        · exact .inl hm
        · exact .inr (ih ds (by simpa using hl) m hm)
  intro m hm
  have := List.all_eq_true.1 hw m (key ts ds hl m hm)
  simpa using this
end
end Go.Ev

/- What the laws' own helpers do, loop by loop: sizes, copies, comparisons, marks. -/
namespace Go.Pl
open Go.Ev
set_option linter.unusedVariables false

def Sm (s : ByteArray) : Prop := s.size ≤ 1000000
def Lm {α : Type} (Q : α → Prop) (xs : List α) : Prop := xs.length ≤ 1000000 ∧ ∀ x ∈ xs, Q x

theorem eqS_loop {α : Type} {E : α → Prop} (l : Nat → List α → List α → Int → Option Bool) (a : List α) (hE : ∀ x ∈ a, E x)
    (hs : ∀ k p x r, E x → a = p ++ x :: r → l (k + 1) a a p.length = l k a a ((p.length : Int) + 1)) (he : ∀ k, l (k + 1) a a a.length = some true) :
    ∀ k, a.length < k → l k a a 0 = some true := by
  have key : ∀ (r p : List α) (k : Nat), a = p ++ r → r.length < k → l k a a p.length = some true := by
    intro r
    induction r with
    | nil =>
      intro p k h hk
      obtain ⟨k, rfl⟩ : ∃ j, k = j + 1 := ⟨k - 1, by omega⟩
      rw [List.append_nil] at h
      rw [← h]; exact he k
    | cons x r ih =>
      intro p k h hk
      simp only [List.length_cons] at hk
      obtain ⟨k, rfl⟩ : ∃ j, k = j + 1 := ⟨k - 1, by omega⟩
      rw [hs k p x r (hE x (by rw [h]; simp)) h]
      have := ih (p ++ [x]) k (by rw [h]; simp) (by omega)
      rw [snoc_len] at this
      exact this
  intro k hk
  have := key a [] k (by simp) hk
  simpa using this

theorem szS_loop {α : Type} {Q R : α → Prop} (l : Nat → List α → Int → Int → Option Int)
    (he : ∀ k p left, l (k + 1) p left p.length = some left)
    (hs : ∀ x, Q x → ∀ left, -1000000000000000 ≤ left → left ≤ 1000000 → ∃ s, s ≤ 1000000 ∧ (0 ≤ s → s ≤ left ∧ R x) ∧ ∀ k p r, p.length + r.length + 1 ≤ 140737488355328 → l (k + 1) (p ++ x :: r) left p.length = if s < 0 then some (-1) else l k (p ++ x :: r) s ((p.length : Int) + 1))
    (a : List α) (k : Nat) (left : Int) (h0 : -1000000000000000 ≤ left) (h1 : left ≤ 1000000) (ha : Ls Q a) (hk : a.length < k) : ∃ s, l k a left 0 = some s ∧ s ≤ 1000000 ∧ (0 ≤ s → s ≤ left ∧ ∀ x ∈ a, R x) := by
  have key : ∀ (r p : List α) (k : Nat) (left : Int), p.length + r.length ≤ 140737488355328 → (∀ x ∈ r, Q x) → -1000000000000000 ≤ left → left ≤ 1000000 → r.length < k → ∃ s, l k (p ++ r) left p.length = some s ∧ s ≤ 1000000 ∧ (0 ≤ s → s ≤ left ∧ ∀ x ∈ r, R x) := by
    intro r
    induction r with
    | nil =>
      intro p k left _ _ _ _ hk
      obtain ⟨k, rfl⟩ : ∃ j, k = j + 1 := ⟨k - 1, by omega⟩
      rw [List.append_nil]
      exact ⟨left, he k p left, by omega, fun _ => ⟨by omega, fun x hx => by cases hx⟩⟩
    | cons x r ih =>
      intro p k left hb hq h0 h1 hk
      simp only [List.length_cons] at hk hb
      obtain ⟨k, rfl⟩ : ∃ j, k = j + 1 := ⟨k - 1, by omega⟩
      obtain ⟨s, s1, s2, s3⟩ := hs x (hq x (by simp)) left h0 h1
      rw [s3 k p r (by omega)]
      by_cases hn : s < 0
      · rw [if_pos hn]; exact ⟨-1, rfl, by omega, by omega⟩
      · rw [if_neg hn]
        obtain ⟨u, u1, u2, u3⟩ := ih (p ++ [x]) k s (by simp; omega) (fun y hy => hq y (by simp [hy])) (by omega) (by omega) (by omega)
        rw [mid_snoc, snoc_len] at u1
        refine ⟨u, u1, by omega, fun h => ⟨by have := (u3 h).1; have := (s2 (by omega)).1; omega, fun y hy => ?_⟩⟩
        rcases List.mem_cons.1 hy with rfl | hy
        · exact (s2 (by omega)).2
        · exact (u3 h).2 y hy
  have := key a [] k left (by simpa using ha.1) ha.2 h0 h1 hk
  simpa using this

theorem toS_loop {α : Type} {Z R : α → Prop} (l5 l9 : Nat → List α → Int → List α → Option (List α × List α))
    (he9 : ∀ k a (out : List α), (a.length : Int) ≤ out.length → l9 (k + 1) a out.length out = some (out.take a.length, out.drop a.length))
    (hs9 : ∀ k a (i : Nat) (out : List α), i < out.length → out.length ≤ 140737488355328 → ∃ z, Z z ∧ l9 (k + 1) a i out = l9 k a ((i : Int) + 1) (out.set i z))
    (he5 : ∀ k a (out : List α), l5 (k + 1) a a.length out = l9 NN a a.length out)
    (hs5 : ∀ k (p r : List α) x (q s : List α) y, R x → p.length = q.length → p.length + r.length + 1 ≤ 140737488355328 → p.length + s.length + 1 ≤ 140737488355328 → l5 (k + 1) (p ++ x :: r) p.length (q ++ y :: s) = l5 k (p ++ x :: r) ((p.length : Int) + 1) (q ++ x :: s))
    (a : List α) (out : List α) (k : Nat) (ha : ∀ x ∈ a, R x) (h : a.length ≤ out.length) (hb : out.length ≤ 140737488355328) (hk : a.length < k) :
    ∃ fil, l5 k a 0 out = some (a, fil) ∧ fil.length = out.length - a.length ∧ ∀ x ∈ fil, Z x := by
  have hN : 140737488355328 < NN := NN_lt (by omega)
  have k9 : ∀ (d : Nat) (k : Nat) (i : Nat) (out : List α), out.length ≤ 140737488355328 → i + d = out.length → d < k → a.length ≤ i → out.take a.length = a → (∀ j x, a.length ≤ j → j < i → out[j]? = some x → Z x) →
      ∃ fil, l9 k a i out = some (a, fil) ∧ fil.length = out.length - a.length ∧ ∀ x ∈ fil, Z x := by
    intro d
    induction d with
    | zero =>
      intro k i out hb hi hk ha ht hz
      obtain ⟨k, rfl⟩ : ∃ j, k = j + 1 := ⟨k - 1, by omega⟩
      obtain rfl : i = out.length := by omega
      refine ⟨_, by rw [he9 k a out (by omega), ht], by simp, fun x hx => ?_⟩
      obtain ⟨m, hm⟩ := List.mem_iff_getElem?.1 hx
      rw [List.getElem?_drop] at hm
      exact hz _ x (by omega) (List.getElem?_eq_some_iff.1 hm).1 hm
    | succ d ih =>
      intro k i out hb hi hk ha ht hz
      obtain ⟨k, rfl⟩ : ∃ j, k = j + 1 := ⟨k - 1, by omega⟩
      obtain ⟨z, z1, z2⟩ := hs9 k a i out (by omega) hb
      rw [z2]
      obtain ⟨fil, f1, f2, f3⟩ := ih k (i + 1) (out.set i z) (by simpa using hb) (by simp; omega) (by omega) (by omega) (by rw [List.take_set_of_le ha]; exact ht) (fun j x h1 h2 h3 => by
        by_cases hj : i = j
        · subst hj
          rw [List.getElem?_set_self (by omega)] at h3
          cases h3; exact z1
        · rw [List.getElem?_set_ne hj] at h3
          exact hz j x h1 (by omega) h3)
      exact ⟨fil, f1, by simpa using f2, f3⟩
  have k5 : ∀ (r p : List α) (s : List α) (k : Nat), p ++ r = a → p.length + s.length ≤ 140737488355328 → r.length ≤ s.length → r.length < k → (∀ x ∈ r, R x) →
      ∃ fil, l5 k a p.length (p ++ s) = some (a, fil) ∧ fil.length = p.length + s.length - a.length ∧ ∀ x ∈ fil, Z x := by
    intro r
    induction r with
    | nil =>
      intro p s k h3 h4 h5 hk _
      obtain ⟨k, rfl⟩ : ∃ j, k = j + 1 := ⟨k - 1, by omega⟩
      rw [List.append_nil] at h3
      subst h3
      rw [he5]
      obtain ⟨fil, f1, f2, f3⟩ := k9 s.length NN p.length (p ++ s) (by simp; omega) (by simp) (by omega) (by omega) (by rw [List.take_left' rfl]) (fun j x h1 h2 => by omega)
      exact ⟨fil, f1, by rw [f2]; simp, f3⟩
    | cons x r ih =>
      intro p s k h3 h4 h5 hk hR
      simp only [List.length_cons] at h5 hk
      obtain ⟨k, rfl⟩ : ∃ j, k = j + 1 := ⟨k - 1, by omega⟩
      cases s with
      | nil => simp at h5
      | cons y s =>
        have hs := hs5 k p r x p s y (hR x (by simp)) rfl (by simp only [List.length_cons] at h4 h5; omega) (by simp only [List.length_cons] at h4; omega)
        rw [h3] at hs
        rw [hs]
        obtain ⟨fil, f1, f2, f3⟩ := ih (p ++ [x]) s k (by rw [← h3]; simp) (by simp only [List.length_append, List.length_cons, List.length_nil] at h4 ⊢; omega) (by simp only [List.length_cons] at h5; omega) (by omega) (fun z hz => hR z (by simp [hz]))
        rw [mid_snoc, snoc_len] at f1
        exact ⟨fil, f1, by rw [f2]; simp only [List.length_append, List.length_cons, List.length_nil]; omega, f3⟩
  obtain ⟨fil, f1, f2, f3⟩ := k5 a [] out k rfl (by simpa using hb) h hk ha
  exact ⟨fil, by simpa using f1, by simpa using f2, f3⟩

/-- Rows that are marked, and looked at afterwards. -/
theorem mark_held {α : Type} {Q : α → Prop} (l : Nat → List α → Int → Int → Option (Int × List α)) (lh : Nat → List α → Int → Int → Option Int) (C : Nat) (K : Int)
    (he : ∀ k p n, l (k + 1) p n p.length = some (n, p)) (heh : ∀ k p n, lh (k + 1) p n p.length = some n)
    (hs : ∀ x, Q x → ∀ n, 0 ≤ n → n ≤ K → ∃ x' n', n ≤ n' ∧ n' ≤ n + C ∧ (∀ k p r, p.length + r.length + 1 ≤ 1000000 → l (k + 1) (p ++ x :: r) n p.length = l k (p ++ x' :: r) n' ((p.length : Int) + 1))
      ∧ (∀ k p r, p.length + r.length + 1 ≤ 1000000 → lh (k + 1) (p ++ x' :: r) n p.length = lh k (p ++ x' :: r) n' ((p.length : Int) + 1)))
    (a : List α) (ha : Lm Q a) (n : Int) (h0 : 0 ≤ n) (h1 : n + (1000000 * C : Nat) ≤ K) (k kh : Nat) (hk : 1000000 < k) (hkh : 1000000 < kh) :
    ∃ n' a', l k a n 0 = some (n', a') ∧ lh kh a' n 0 = some n' ∧ n ≤ n' ∧ n' ≤ n + (1000000 * C : Nat) := by
  have key : ∀ (r p : List α) (k : Nat) (n : Int), p.length + r.length ≤ 1000000 → (∀ x ∈ r, Q x) → 0 ≤ n → n + ((r.length * C : Nat) : Int) ≤ K → r.length < k →
      ∃ n' r', l k (p ++ r) n p.length = some (n', p ++ r') ∧ r'.length = r.length ∧ n ≤ n' ∧ n' ≤ n + ((r.length * C : Nat) : Int) ∧ (∀ (q : List α) kh, q.length = p.length → r.length < kh → lh kh (q ++ r') n q.length = some n') := by
    intro r
    induction r with
    | nil =>
      intro p k n _ _ h0 _ hk
      obtain ⟨k, rfl⟩ : ∃ j, k = j + 1 := ⟨k - 1, by omega⟩
      refine ⟨n, [], by rw [List.append_nil]; exact he k p n, rfl, by omega, by simp, fun q kh _ hkh => ?_⟩
      obtain ⟨kh, rfl⟩ : ∃ j, kh = j + 1 := ⟨kh - 1, by simp at hkh; omega⟩
      rw [List.append_nil]; exact heh kh q n
    | cons x r ih =>
      intro p k n hb hq h0 hK hk
      simp only [List.length_cons] at hk hb hK
      obtain ⟨k, rfl⟩ : ∃ j, k = j + 1 := ⟨k - 1, by omega⟩
      have hm : (r.length + 1) * C = r.length * C + C := by rw [Nat.add_mul, Nat.one_mul]
      rw [hm] at hK
      obtain ⟨x', n1, a1, a2, a3, a4⟩ := hs x (hq x (by simp)) n h0 (by omega)
      rw [a3 k p r (by omega)]
      obtain ⟨n', r', b1, b2, b3, b4, b5⟩ := ih (p ++ [x']) k n1 (by simp; omega) (fun y hy => hq y (by simp [hy])) (by omega) (by omega) (by omega)
      rw [mid_snoc, snoc_len] at b1
      refine ⟨n', x' :: r', by rw [b1]; simp, by simp [b2], by omega, by simp only [List.length_cons]; rw [hm]; omega, fun q kh hq' hkh => ?_⟩
      simp only [List.length_cons] at hkh
      obtain ⟨kh, rfl⟩ : ∃ j, kh = j + 1 := ⟨kh - 1, by omega⟩
      rw [a4 kh q r' (by omega)]
      have := b5 (q ++ [x']) kh (by simp [hq']) (by omega)
      rw [mid_snoc, snoc_len] at this
      exact this
  have hle : ((a.length * C : Nat) : Int) ≤ ((1000000 * C : Nat) : Int) := Int.ofNat_le.2 (Nat.mul_le_mul_right _ ha.1)
  obtain ⟨n', r', b1, b2, b3, b4, b5⟩ := key a [] k n (by simpa using ha.1) ha.2 h0 (by omega) (by have := ha.1; omega)
  have := b5 [] kh rfl (by have := ha.1; omega)
  exact ⟨n', r', by simpa using b1, by simpa using this, b3, by omega⟩
theorem mem_mid {α : Type} {a p r : List α} {x : α} (h : a = p ++ x :: r) : x ∈ a := by rw [h]; simp
end Go.Pl

namespace Go.Pl
open Go.Ev
set_option linter.unusedVariables false
set_option linter.unusedSimpArgs false
def PlRatio (x : Int × Int) : Prop := Rg .i64 x.1 ∧ Rg .i64 x.2
def OkRatio (x : Int × Int) : Prop := Rg .i64 x.1 ∧ Rg .i64 x.2
def PlArticle (x : ByteArray × Int × Int × Int × Int × Int × Int × Int × Int) : Prop := Sz x.1 ∧ Rg .i64 x.2.1 ∧ Rg .i64 x.2.2.1 ∧ Rg .i64 x.2.2.2.1 ∧ Rg .i64 x.2.2.2.2.1 ∧ Rg .i64 x.2.2.2.2.2.1 ∧ Rg .i64 x.2.2.2.2.2.2.1 ∧ Rg .i64 x.2.2.2.2.2.2.2.1 ∧ Rg .i64 x.2.2.2.2.2.2.2.2
def OkArticle (x : ByteArray × Int × Int × Int × Int × Int × Int × Int × Int) : Prop := Sm x.1 ∧ Rg .i64 x.2.1 ∧ Rg .i64 x.2.2.1 ∧ Rg .i64 x.2.2.2.1 ∧ Rg .i64 x.2.2.2.2.1 ∧ Rg .i64 x.2.2.2.2.2.1 ∧ Rg .i64 x.2.2.2.2.2.2.1 ∧ Rg .i64 x.2.2.2.2.2.2.2.1 ∧ Rg .i64 x.2.2.2.2.2.2.2.2
def PlLayer (x : Int × Int × Int) : Prop := Rg .i64 x.1 ∧ Rg .i64 x.2.1 ∧ Rg .i64 x.2.2
def OkLayer (x : Int × Int × Int) : Prop := Rg .i64 x.1 ∧ Rg .i64 x.2.1 ∧ Rg .i64 x.2.2
def PlShot (x : Int × Int × Int × Int) : Prop := Rg .i64 x.1 ∧ Rg .i64 x.2.1 ∧ Rg .i64 x.2.2.1 ∧ Rg .i64 x.2.2.2
def OkShot (x : Int × Int × Int × Int) : Prop := Rg .i64 x.1 ∧ Rg .i64 x.2.1 ∧ Rg .i64 x.2.2.1 ∧ Rg .i64 x.2.2.2
def PlBar (x : Int × Int) : Prop := Rg .i64 x.1 ∧ Rg .i64 x.2
def OkBar (x : Int × Int) : Prop := Rg .i64 x.1 ∧ Rg .i64 x.2
def PlCue (x : Int × Int × ByteArray × Int) : Prop := Rg .i64 x.1 ∧ Rg .i64 x.2.1 ∧ Sz x.2.2.1 ∧ Rg .i64 x.2.2.2
def OkCue (x : Int × Int × ByteArray × Int) : Prop := Rg .i64 x.1 ∧ Rg .i64 x.2.1 ∧ Sm x.2.2.1 ∧ Rg .i64 x.2.2.2
def PlShow (x : (List (Int × Int)) × (List (ByteArray × Int × Int × Int × Int × Int × Int × Int × Int)) × (List (Int × Int × ByteArray × Int))) : Prop := Ls PlBar x.1 ∧ Ls PlArticle x.2.1 ∧ Ls PlCue x.2.2
def OkShow (x : (List (Int × Int)) × (List (ByteArray × Int × Int × Int × Int × Int × Int × Int × Int)) × (List (Int × Int × ByteArray × Int))) : Prop := Lm OkBar x.1 ∧ Lm OkArticle x.2.1 ∧ Lm OkCue x.2.2
def PlFuse (x : Int × Int × Int × Int) : Prop := Rg .i64 x.1 ∧ Rg .i64 x.2.1 ∧ Rg .i64 x.2.2.1 ∧ Rg .i64 x.2.2.2
def OkFuse (x : Int × Int × Int × Int) : Prop := Rg .i64 x.1 ∧ Rg .i64 x.2.1 ∧ Rg .i64 x.2.2.1 ∧ Rg .i64 x.2.2.2
def PlLink (x : Int × Int) : Prop := Rg .i64 x.1 ∧ Rg .i64 x.2
def OkLink (x : Int × Int) : Prop := Rg .i64 x.1 ∧ Rg .i64 x.2
def PlModule (x : Int × Int) : Prop := Rg .i64 x.1 ∧ Rg .i64 x.2
def OkModule (x : Int × Int) : Prop := Rg .i64 x.1 ∧ Rg .i64 x.2
def PlWire (x : Int × Int × Int) : Prop := Rg .i64 x.1 ∧ Rg .i64 x.2.1 ∧ Rg .i64 x.2.2
def OkWire (x : Int × Int × Int) : Prop := Rg .i64 x.1 ∧ Rg .i64 x.2.1 ∧ Rg .i64 x.2.2
def PlCircuit (x : Int × List Int) : Prop := Rg .i64 x.1 ∧ Ls (Rg .i64) x.2
def OkCircuit (x : Int × List Int) : Prop := Rg .i64 x.1 ∧ Lm (Rg .i64) x.2
def PlArea (x : Int × Int × Int × Int × Int) : Prop := Rg .i64 x.1 ∧ Rg .i64 x.2.1 ∧ Rg .i64 x.2.2.1 ∧ Rg .i64 x.2.2.2.1 ∧ Rg .i64 x.2.2.2.2
def OkArea (x : Int × Int × Int × Int × Int) : Prop := Rg .i64 x.1 ∧ Rg .i64 x.2.1 ∧ Rg .i64 x.2.2.1 ∧ Rg .i64 x.2.2.2.1 ∧ Rg .i64 x.2.2.2.2
def PlDemand (x : Int × Int × Int) : Prop := Rg .i64 x.1 ∧ Rg .i64 x.2.1 ∧ Rg .i64 x.2.2
def OkDemand (x : Int × Int × Int) : Prop := Rg .i64 x.1 ∧ Rg .i64 x.2.1 ∧ Rg .i64 x.2.2
def PlRack (x : Int × Int × List Int × List ByteArray) : Prop := Rg .i64 x.1 ∧ Rg .i64 x.2.1 ∧ Ls (Rg .i64) x.2.2.1 ∧ Ls Sz x.2.2.2
def OkRack (x : Int × Int × List Int × List ByteArray) : Prop := Rg .i64 x.1 ∧ Rg .i64 x.2.1 ∧ Lm (Rg .i64) x.2.2.1 ∧ Lm Sm x.2.2.2
def PlField (x : (List (Int × Int × Int)) × (List (Int × Int × Int × Int × Int)) × List Int × List Int × List Int × Int) : Prop := Ls PlDemand x.1 ∧ Ls PlArea x.2.1 ∧ Ls (Rg .i64) x.2.2.1 ∧ Ls (Rg .i64) x.2.2.2.1 ∧ Ls (Rg .i64) x.2.2.2.2.1 ∧ Rg .i64 x.2.2.2.2.2
def OkField (x : (List (Int × Int × Int)) × (List (Int × Int × Int × Int × Int)) × List Int × List Int × List Int × Int) : Prop := Lm OkDemand x.1 ∧ Lm OkArea x.2.1 ∧ Lm (Rg .i64) x.2.2.1 ∧ Lm (Rg .i64) x.2.2.2.1 ∧ Lm (Rg .i64) x.2.2.2.2.1 ∧ Rg .i64 x.2.2.2.2.2
def PlMove (x : Int × ByteArray × Int) : Prop := Rg .i64 x.1 ∧ Sz x.2.1 ∧ Rg .i64 x.2.2
def OkMove (x : Int × ByteArray × Int) : Prop := Rg .i64 x.1 ∧ Sm x.2.1 ∧ Rg .i64 x.2.2
def PlController (x : Bool × Bool × Bool × Bool × Bool × Int) : Prop := True ∧ True ∧ True ∧ True ∧ True ∧ Rg .i64 x.2.2.2.2.2
def OkController (x : Bool × Bool × Bool × Bool × Bool × Int) : Prop := True ∧ True ∧ True ∧ True ∧ True ∧ Rg .i64 x.2.2.2.2.2
def PlSignal (x : Int × Int) : Prop := Rg .i64 x.1 ∧ Rg .i64 x.2
def OkSignal (x : Int × Int) : Prop := Rg .i64 x.1 ∧ Rg .i64 x.2
def PlTry (x : Int × Int × Bool) : Prop := Rg .i64 x.1 ∧ Rg .i64 x.2.1 ∧ True
def OkTry (x : Int × Int × Bool) : Prop := Rg .i64 x.1 ∧ Rg .i64 x.2.1 ∧ True
def PlMagazine (x : Int × List Int) : Prop := Rg .i64 x.1 ∧ Ls (Rg .i64) x.2
def OkMagazine (x : Int × List Int) : Prop := Rg .i64 x.1 ∧ Lm (Rg .i64) x.2
def PlDepot (x : Int × Int × Int) : Prop := Rg .i64 x.1 ∧ Rg .i64 x.2.1 ∧ Rg .i64 x.2.2
def OkDepot (x : Int × Int × Int) : Prop := Rg .i64 x.1 ∧ Rg .i64 x.2.1 ∧ Rg .i64 x.2.2
def PlBox (x : Int × Int) : Prop := Rg .i64 x.1 ∧ Rg .i64 x.2
def OkBox (x : Int × Int) : Prop := Rg .i64 x.1 ∧ Rg .i64 x.2
def PlLine (x : ByteArray × Int) : Prop := Sz x.1 ∧ Rg .i64 x.2
def OkLine (x : ByteArray × Int) : Prop := Sm x.1 ∧ Rg .i64 x.2
def PlPaper (x : ByteArray × Int × (List (ByteArray × Int))) : Prop := Sz x.1 ∧ Rg .i64 x.2.1 ∧ Ls PlLine x.2.2
def OkPaper (x : ByteArray × Int × (List (ByteArray × Int))) : Prop := Sm x.1 ∧ Rg .i64 x.2.1 ∧ Lm OkLine x.2.2
def PlPermit (x : Int × Int × Int × Int × List Int × Int) : Prop := Rg .i64 x.1 ∧ Rg .i64 x.2.1 ∧ Rg .i64 x.2.2.1 ∧ Rg .i64 x.2.2.2.1 ∧ Ls (Rg .i64) x.2.2.2.2.1 ∧ Rg .i64 x.2.2.2.2.2
def OkPermit (x : Int × Int × Int × Int × List Int × Int) : Prop := Rg .i64 x.1 ∧ Rg .i64 x.2.1 ∧ Rg .i64 x.2.2.1 ∧ Rg .i64 x.2.2.2.1 ∧ Lm (Rg .i64) x.2.2.2.2.1 ∧ Rg .i64 x.2.2.2.2.2
def PlGrid (x : Int × Int × List Bool) : Prop := Rg .i64 x.1 ∧ Rg .i64 x.2.1 ∧ Ls (fun _ => True) x.2.2
def OkGrid (x : Int × Int × List Bool) : Prop := Rg .i64 x.1 ∧ Rg .i64 x.2.1 ∧ Lm (fun _ => True) x.2.2
def PlBooking (x : Int × ByteArray × Int) : Prop := Rg .i64 x.1 ∧ Sz x.2.1 ∧ Rg .i64 x.2.2
def OkBooking (x : Int × ByteArray × Int) : Prop := Rg .i64 x.1 ∧ Sm x.2.1 ∧ Rg .i64 x.2.2
def PlEntry (x : Int × ByteArray) : Prop := Rg .u8 x.1 ∧ Sz x.2
def OkEntry (x : Int × ByteArray) : Prop := Rg .u8 x.1 ∧ Sm x.2
def PlDesk (x : (List (Int × ByteArray × Int)) × (List (Int × Int)) × (List (Int × ByteArray × Int))) : Prop := Ls PlMove x.1 ∧ Ls PlSignal x.2.1 ∧ Ls PlBooking x.2.2
def OkDesk (x : (List (Int × ByteArray × Int)) × (List (Int × Int)) × (List (Int × ByteArray × Int))) : Prop := Lm OkMove x.1 ∧ Lm OkSignal x.2.1 ∧ Lm OkBooking x.2.2
end Go.Pl

namespace Go.Pl
open Go.Ev
set_option linter.unusedVariables false
set_option linter.unusedSimpArgs false
theorem laws_eqInt64S_self (a : List Int) (hl : a.length ≤ 140737488355328) : laws_eqInt64S.f a a = some true := by
  unfold laws_eqInt64S.f laws_eqInt64S.fn laws_eqInt64S.top
  simp only [bne_self_eq_false, Bool.false_eq_true, if_false]
  refine eqS_loop (E := fun _ => True) (fun k a b i => laws_eqInt64S.l4 NN k a b i) a (fun _ _ => trivial) ?_ ?_ NN (NN_lt (by omega))
  · intro k p x r hx ha
    subst ha
    show laws_eqInt64S.g4 (laws_eqInt64S.l4 NN k) (p ++ x :: r) (p ++ x :: r) p.length = _
    unfold laws_eqInt64S.g4
    have hm := mid_len p r x
    have c1 : (p.length : Int) < ((p ++ x :: r).length : Int) := by omega
    have c0 : (0 : Int) ≤ (p.length : Int) := by omega
    have cw := w64 (n := (p.length : Int) + 1) (by omega) (by omega)
    simp only [c0, c1, and_self, decide_true, if_true, mid_get, beq_self_eq_true, bne_self_eq_false, Option.bind_some, cw, Bool.not_true, Bool.false_eq_true, if_false]
  · intro k
    show laws_eqInt64S.g4 (laws_eqInt64S.l4 NN k) a a a.length = _
    unfold laws_eqInt64S.g4
    simp
end Go.Pl

namespace Go.Pl
open Go.Ev
set_option linter.unusedVariables false
set_option linter.unusedSimpArgs false
def EqPermit (x : Int × Int × Int × Int × List Int × Int) : Prop := x.2.2.2.2.1.length ≤ 140737488355328
theorem laws_eqPermit_self (a : Int × Int × Int × Int × List Int × Int) (h : EqPermit a) : laws_eqPermit.f a a = some true := by
  unfold laws_eqPermit.f laws_eqPermit.fn laws_eqPermit.top
  simp [laws_eqInt64S_self _ h]
end Go.Pl

namespace Go.Pl
open Go.Ev
set_option linter.unusedVariables false
set_option linter.unusedSimpArgs false
/-- Rows that are marked. -/
theorem mark_only {α : Type} {Q : α → Prop} (l : Nat → List α → Int → Int → Option (Int × List α)) (C : Nat) (K : Int)
    (he : ∀ k p n, l (k + 1) p n p.length = some (n, p))
    (hs : ∀ x, Q x → ∀ n, 0 ≤ n → n ≤ K → ∃ x' n', n ≤ n' ∧ n' ≤ n + C ∧ (∀ k p r, p.length + r.length + 1 ≤ 1000000 → l (k + 1) (p ++ x :: r) n p.length = l k (p ++ x' :: r) n' ((p.length : Int) + 1)))
    (a : List α) (ha : Lm Q a) (n : Int) (h0 : 0 ≤ n) (h1 : n + (1000000 * C : Nat) ≤ K) (k : Nat) (hk : 1000000 < k) :
    ∃ n' a', l k a n 0 = some (n', a') ∧ n ≤ n' ∧ n' ≤ n + (1000000 * C : Nat) := by
  have key : ∀ (r p : List α) (k : Nat) (n : Int), p.length + r.length ≤ 1000000 → (∀ x ∈ r, Q x) → 0 ≤ n → n + ((r.length * C : Nat) : Int) ≤ K → r.length < k →
      ∃ n' r', l k (p ++ r) n p.length = some (n', p ++ r') ∧ n ≤ n' ∧ n' ≤ n + ((r.length * C : Nat) : Int) := by
    intro r
    induction r with
    | nil =>
      intro p k n _ _ h0 _ hk
      obtain ⟨k, rfl⟩ : ∃ j, k = j + 1 := ⟨k - 1, by omega⟩
      exact ⟨n, [], by rw [List.append_nil]; exact he k p n, by omega, by simp⟩
    | cons x r ih =>
      intro p k n hb hq h0 hK hk
      simp only [List.length_cons] at hk hb hK
      obtain ⟨k, rfl⟩ : ∃ j, k = j + 1 := ⟨k - 1, by omega⟩
      have hm : (r.length + 1) * C = r.length * C + C := by rw [Nat.add_mul, Nat.one_mul]
      rw [hm] at hK
      obtain ⟨x', n1, a1, a2, a3⟩ := hs x (hq x (by simp)) n h0 (by omega)
      rw [a3 k p r (by omega)]
      obtain ⟨n', r', b1, b3, b4⟩ := ih (p ++ [x']) k n1 (by simp; omega) (fun y hy => hq y (by simp [hy])) (by omega) (by omega) (by omega)
      rw [mid_snoc, snoc_len] at b1
      exact ⟨n', x' :: r', by rw [b1]; simp, by omega, by simp only [List.length_cons]; rw [hm]; omega⟩
  have hle : ((a.length * C : Nat) : Int) ≤ ((1000000 * C : Nat) : Int) := Int.ofNat_le.2 (Nat.mul_le_mul_right _ ha.1)
  obtain ⟨n', r', b1, b3, b4⟩ := key a [] k n (by simpa using ha.1) ha.2 h0 (by omega) (by have := ha.1; omega)
  exact ⟨n', r', by simpa using b1, b3, by omega⟩
end Go.Pl

/- Loops of a few sorts, and what they come to. -/
namespace Go.Pl
open Go.Ev
set_option linter.unusedVariables false

/-- false at the first element that fails -/
theorem all_loop {α : Type} {E : α → Prop} (P : α → Bool) (fin : List α → Option Bool) (l : Nat → List α → Int → Option Bool)
    (hn : ∀ k p, l (k + 1) p p.length = fin p)
    (hc : ∀ k p a r, E a → (0 : Int) ≤ (p.length : Int) → (p.length : Int) < ((p ++ a :: r).length : Int) → IntKind.i64.wrap ((p.length : Int) + 1) = (p.length : Int) + 1 → l (k + 1) (p ++ a :: r) p.length = if P a = true then l k (p ++ a :: r) ((p.length : Int) + 1) else some false)
    (xs : List α) (hE : ∀ x ∈ xs, E x) (hB : xs.length ≤ 140737488355328) (k : Nat) (hk : xs.length < k) : l k xs 0 = if xs.all P = true then fin xs else some false := by
  have key : ∀ (r p : List α) (k : Nat), p.length + r.length ≤ 140737488355328 → (∀ x ∈ r, E x) → r.length < k → l k (p ++ r) p.length = if r.all P = true then fin (p ++ r) else some false := by
    intro r
    induction r with
    | nil =>
      intro p k _ _ hk
      obtain ⟨k, rfl⟩ : ∃ j, k = j + 1 := ⟨k - 1, by omega⟩
      rw [List.append_nil, hn]; simp
    | cons a r ih =>
      intro p k hb he hk
      simp only [List.length_cons] at hk hb
      obtain ⟨k, rfl⟩ : ∃ j, k = j + 1 := ⟨k - 1, by omega⟩
      have hm := mid_len p r a
      rw [hc k p a r (he a (by simp)) (by omega) (by omega) (w64 (by omega) (by omega))]
      have := ih (p ++ [a]) k (by simp; omega) (fun y hy => he y (by simp [hy])) (by omega)
      rw [mid_snoc, snoc_len] at this
      rw [this]
      cases h : P a <;> simp [h]
  have := key xs [] k (by simpa using hB) hE hk
  simpa using this
/-- the same over a string's bytes -/
theorem all_loop_str (P : UInt8 → Bool) (fin : ByteArray → Option Bool) (l : Nat → ByteArray → Int → Option Bool)
    (hn : ∀ k p, l (k + 1) (ob p) p.length = fin (ob p))
    (hc : ∀ k p a r, (0 : Int) ≤ (p.length : Int) → (p.length : Int) < ((ob (p ++ a :: r)).size : Int) → IntKind.i64.wrap ((p.length : Int) + 1) = (p.length : Int) + 1 → l (k + 1) (ob (p ++ a :: r)) p.length = if P a = true then l k (ob (p ++ a :: r)) ((p.length : Int) + 1) else some false)
    (s : ByteArray) (hB : s.size ≤ 140737488355328) (k : Nat) (hk : s.size < k) : l k s 0 = if (bl s).all P = true then fin s else some false := by
  have := all_loop (E := fun _ => True) P (fun x => fin (ob x)) (fun k x i => l k (ob x) i) hn (fun k p a r _ h1 h2 h3 => hc k p a r h1 (by rw [ob_size]; exact h2) h3) (bl s) (fun _ _ => trivial) (by rw [bl_length]; exact hB) k (by rw [bl_length]; exact hk)
  rw [ob_bl] at this
  exact this

def foldi {α σ : Type} (f : Nat → σ → α → σ) : Nat → σ → List α → σ
  | _, st, [] => st
  | i, st, a :: r => foldi f (i + 1) (f i st a) r
theorem foldi_foldl {α σ : Type} (f : σ → α → σ) : ∀ (xs : List α) (i : Nat) (st : σ), foldi (fun _ => f) i st xs = xs.foldl f st := by
  intro xs
  induction xs with
  | nil => intro i st; rfl
  | cons a r ih => intro i st; exact ih _ _
theorem foldi_append {α σ : Type} (f : Nat → σ → α → σ) : ∀ (xs ys : List α) (i : Nat) (st : σ), foldi f i st (xs ++ ys) = foldi f (i + xs.length) (foldi f i st xs) ys := by
  intro xs
  induction xs with
  | nil => intro ys i st; rfl
  | cons a r ih => intro ys i st; simp only [List.cons_append, foldi, List.length_cons]; rw [ih, show i + 1 + r.length = i + (r.length + 1) by omega]
/-- a state that goes from element to element; I: what holds of it behind a part of the row -/
theorem fold_loop {α σ ρ : Type} {E : α → Prop} (I : List α → σ → Prop) (f : Nat → σ → α → σ) (fin : List α → σ → Option ρ) (l : Nat → List α → Int → σ → Option ρ)
    (hn : ∀ k p st, I p st → l (k + 1) p p.length st = fin p st)
    (hc : ∀ k p a r st, E a → I p st → (0 : Int) ≤ (p.length : Int) → (p.length : Int) < ((p ++ a :: r).length : Int) → p.length < 140737488355328 → IntKind.i64.wrap ((p.length : Int) + 1) = (p.length : Int) + 1 →
      I (p ++ [a]) (f p.length st a) ∧ l (k + 1) (p ++ a :: r) p.length st = l k (p ++ a :: r) ((p.length : Int) + 1) (f p.length st a))
    (xs : List α) (st : σ) (hE : ∀ x ∈ xs, E x) (hI : I [] st) (hB : xs.length ≤ 140737488355328) (k : Nat) (hk : xs.length < k) :
    I xs (foldi f 0 st xs) ∧ l k xs 0 st = fin xs (foldi f 0 st xs) := by
  have key : ∀ (r p : List α) (k : Nat) (st : σ), p.length + r.length ≤ 140737488355328 → (∀ x ∈ r, E x) → I p st → r.length < k → I (p ++ r) (foldi f p.length st r) ∧ l k (p ++ r) p.length st = fin (p ++ r) (foldi f p.length st r) := by
    intro r
    induction r with
    | nil =>
      intro p k st _ _ hI hk
      obtain ⟨k, rfl⟩ : ∃ j, k = j + 1 := ⟨k - 1, by omega⟩
      rw [List.append_nil]; exact ⟨hI, hn k p st hI⟩
    | cons a r ih =>
      intro p k st hb he hI hk
      simp only [List.length_cons] at hk hb
      obtain ⟨k, rfl⟩ : ∃ j, k = j + 1 := ⟨k - 1, by omega⟩
      have hm := mid_len p r a
      obtain ⟨h1, h2⟩ := hc k p a r st (he a (by simp)) hI (by omega) (by omega) (by omega) (w64 (by omega) (by omega))
      have := ih (p ++ [a]) k (f p.length st a) (by simp; omega) (fun y hy => he y (by simp [hy])) h1 (by omega)
      rw [mid_snoc, snoc_len] at this
      rw [h2]
      simpa [foldi] using this
  have := key xs [] k st (by simpa using hB) hE hI hk
  simpa using this
/-- the same over a string's bytes -/
theorem fold_loop_str {σ ρ : Type} (I : List UInt8 → σ → Prop) (f : Nat → σ → UInt8 → σ) (fin : ByteArray → σ → Option ρ) (l : Nat → ByteArray → Int → σ → Option ρ)
    (hn : ∀ k p st, I p st → l (k + 1) (ob p) p.length st = fin (ob p) st)
    (hc : ∀ k p a r st, I p st → (0 : Int) ≤ (p.length : Int) → (p.length : Int) < ((ob (p ++ a :: r)).size : Int) → p.length < 140737488355328 → IntKind.i64.wrap ((p.length : Int) + 1) = (p.length : Int) + 1 →
      I (p ++ [a]) (f p.length st a) ∧ l (k + 1) (ob (p ++ a :: r)) p.length st = l k (ob (p ++ a :: r)) ((p.length : Int) + 1) (f p.length st a))
    (s : ByteArray) (st : σ) (hI : I [] st) (hB : s.size ≤ 140737488355328) (k : Nat) (hk : s.size < k) :
    I (bl s) (foldi f 0 st (bl s)) ∧ l k s 0 st = fin s (foldi f 0 st (bl s)) := by
  have := fold_loop (E := fun _ => True) I f (fun x => fin (ob x)) (fun k x i st => l k (ob x) i st) hn (fun k p a r st _ hI h1 h2 h3 h4 => hc k p a r st hI h1 (by rw [ob_size]; exact h2) h3 h4) (bl s) st (fun _ _ => trivial) hI (by rw [bl_length]; exact hB) k (by rw [bl_length]; exact hk)
  rw [ob_bl] at this
  exact this
/-- fold_loop, of one row: the rounds may look at it as a whole -/
theorem fold_fix {α σ ρ : Type} {E : α → Prop} (I : List α → σ → Prop) (f : Nat → σ → α → σ) (fin : σ → Option ρ) (l : Nat → Int → σ → Option ρ) (xs : List α)
    (hn : ∀ k st, I xs st → l (k + 1) xs.length st = fin st)
    (hc : ∀ k p a r st, xs = p ++ a :: r → E a → I p st → (0 : Int) ≤ (p.length : Int) → (p.length : Int) < (xs.length : Int) → p.length < 140737488355328 → IntKind.i64.wrap ((p.length : Int) + 1) = (p.length : Int) + 1 → (∀ z, xs.getD p.length z = a) →
      I (p ++ [a]) (f p.length st a) ∧ l (k + 1) p.length st = l k ((p.length : Int) + 1) (f p.length st a))
    (st : σ) (hE : ∀ x ∈ xs, E x) (hI : I [] st) (hB : xs.length ≤ 140737488355328) (k : Nat) (hk : xs.length < k) :
    I xs (foldi f 0 st xs) ∧ l k 0 st = fin (foldi f 0 st xs) := by
  have key : ∀ (r p : List α) (k : Nat) (st : σ), xs = p ++ r → (∀ x ∈ r, E x) → I p st → r.length < k → I xs (foldi f p.length st r) ∧ l k p.length st = fin (foldi f p.length st r) := by
    intro r
    induction r with
    | nil =>
      intro p k st hx _ hI hk
      obtain ⟨k, rfl⟩ : ∃ j, k = j + 1 := ⟨k - 1, by omega⟩
      rw [List.append_nil] at hx
      subst hx; exact ⟨hI, hn k st hI⟩
    | cons a r ih =>
      intro p k st hx he hI hk
      simp only [List.length_cons] at hk
      obtain ⟨k, rfl⟩ : ∃ j, k = j + 1 := ⟨k - 1, by omega⟩
      have hm := mid_len p r a
      have hxl : (xs.length : Int) = ((p ++ a :: r).length : Int) := by rw [hx]
      obtain ⟨h1, h2⟩ := hc k p a r st hx (he a (by simp)) hI (by omega) (by omega) (by omega) (w64 (by omega) (by omega)) (fun z => by rw [hx, mid_getn])
      have := ih (p ++ [a]) k (f p.length st a) (by rw [hx]; simp) (fun y hy => he y (by simp [hy])) h1 (by omega)
      rw [snoc_len] at this
      rw [h2]
      simpa [foldi] using this
  have := key xs [] k st (by simp) hE hI hk
  simpa using this
/-- the first element that is looked for, and its number -/
def firstOf {α : Type} (P : α → Bool) : Nat → List α → Option (Nat × α)
  | _, [] => none
  | i, a :: r => if P a = true then some (i, a) else firstOf P (i + 1) r
theorem find_loop {α ρ : Type} {E : α → Prop} (P : α → Bool) (hit : Nat → α → Option ρ) (fin : List α → Option ρ) (l : Nat → List α → Int → Option ρ)
    (hn : ∀ k p, l (k + 1) p p.length = fin p)
    (hc : ∀ k p a r, E a → (0 : Int) ≤ (p.length : Int) → (p.length : Int) < ((p ++ a :: r).length : Int) → p.length < 140737488355328 → IntKind.i64.wrap ((p.length : Int) + 1) = (p.length : Int) + 1 → l (k + 1) (p ++ a :: r) p.length = if P a = true then hit p.length a else l k (p ++ a :: r) ((p.length : Int) + 1))
    (xs : List α) (hE : ∀ x ∈ xs, E x) (hB : xs.length ≤ 140737488355328) (k : Nat) (hk : xs.length < k) : l k xs 0 = (firstOf P 0 xs).elim (fin xs) (fun x => hit x.1 x.2) := by
  have key : ∀ (r p : List α) (k : Nat), p.length + r.length ≤ 140737488355328 → (∀ x ∈ r, E x) → r.length < k → l k (p ++ r) p.length = (firstOf P p.length r).elim (fin (p ++ r)) (fun x => hit x.1 x.2) := by
    intro r
    induction r with
    | nil =>
      intro p k _ _ hk
      obtain ⟨k, rfl⟩ : ∃ j, k = j + 1 := ⟨k - 1, by omega⟩
      rw [List.append_nil, hn]; rfl
    | cons a r ih =>
      intro p k hb he hk
      simp only [List.length_cons] at hk hb
      obtain ⟨k, rfl⟩ : ∃ j, k = j + 1 := ⟨k - 1, by omega⟩
      have hm := mid_len p r a
      rw [hc k p a r (he a (by simp)) (by omega) (by omega) (by omega) (w64 (by omega) (by omega))]
      have := ih (p ++ [a]) k (by simp; omega) (fun y hy => he y (by simp [hy])) (by omega)
      rw [mid_snoc, snoc_len] at this
      rw [this]
      cases h : P a <;> simp [h, firstOf]
  have := key xs [] k (by simpa using hB) hE hk
  simpa using this
end Go.Pl

namespace Go.Pl
open Go.Ev
set_option linter.unusedVariables false
set_option linter.unusedSimpArgs false
theorem markText_some (n : Int) (h0 : 0 ≤ n) (h1 : n ≤ 100000000000000) : ∃ t, laws_markText.f n = some t := by
  have key : ∀ (m : Nat) (n : Int) (out : ByteArray) (k : Nat), 0 ≤ n → n ≤ m → (out.size : Int) + n ≤ 1000000000000000 → m < k → ∃ t, laws_markText.l4 NN k n out = some t := by
    intro m
    induction m with
    | zero =>
      intro n out k h0 h1 h2 hk
      obtain ⟨k, rfl⟩ : ∃ j, k = j + 1 := ⟨k - 1, by omega⟩
      obtain rfl : n = 0 := by omega
      have z : (⟨#[109]⟩ : ByteArray).size = 1 := rfl
      exact ⟨_, by
        simp only [laws_markText.l4, laws_markText.g4]
        rw [if_neg (by simp), if_pos (by omega)]⟩
    | succ m ih =>
      intro n out k h0 h1 h2 hk
      obtain ⟨k, rfl⟩ : ∃ j, k = j + 1 := ⟨k - 1, by omega⟩
      by_cases hn : 0 < n
      · have z : (bytesOf [IntKind.u8.wrap (IntKind.i64.wrap (48 + n.tmod 10))]).size = 1 := rfl
        have hd : n.tdiv 10 = n / 10 := Int.tdiv_eq_ediv_of_nonneg h0
        have hw := w64 (n := n.tdiv 10) (by omega) (by omega)
        obtain ⟨t, ht⟩ := ih (n.tdiv 10) (bytesOf [IntKind.u8.wrap (IntKind.i64.wrap (48 + n.tmod 10))] ++ out) k (by omega) (by omega) (by rw [ByteArray.size_append, z]; omega) (by omega)
        refine ⟨t, ?_⟩
        simp only [laws_markText.l4, laws_markText.g4]
        rw [if_pos (by simpa using hn), if_pos (by omega), hw]
        exact ht
      · have z : (⟨#[109]⟩ : ByteArray).size = 1 := rfl
        exact ⟨_, by
          simp only [laws_markText.l4, laws_markText.g4]
          rw [if_neg (by simpa using hn), if_pos (by omega)]⟩
  unfold laws_markText.f laws_markText.fn laws_markText.top
  by_cases hn : n ≤ 0
  · exact ⟨_, by rw [if_pos (by simpa using hn)]⟩
  · rw [if_neg (by simpa using hn)]
    exact key n.toNat n ⟨#[]⟩ NN h0 (by omega) (by rw [show (⟨#[]⟩ : ByteArray).size = 0 from rfl]; omega) (NN_lt (by omega))
end Go.Pl

namespace Go.Pl
open Go.Ev
set_option linter.unusedVariables false
set_option linter.unusedSimpArgs false
set_option maxHeartbeats 4000000 in
theorem laws_markArticleS_ok (a : List (ByteArray × Int × Int × Int × Int × Int × Int × Int × Int)) (ha : Lm OkArticle a) (n : Int) (h0 : 0 ≤ n) (h1 : n ≤ 1000000000000) : ∃ n' a', laws_markArticleS.f a n = some (n', a') ∧ True ∧ n ≤ n' ∧ n' ≤ n + 9000000 := by
  have := mark_only (Q := OkArticle) (fun k a n i => laws_markArticleS.l2 NN k n i a) 9 2000000000000 ?_ ?_ a ha n h0 (by omega) NN (NN_lt (by omega))
  · obtain ⟨n1, a1, e1, e3, e4⟩ := this
    exact ⟨n1, a1, e1, trivial, e3, by omega⟩
  · intro k p n
    show laws_markArticleS.g2 (laws_markArticleS.l2 NN k) n p.length p = _
    unfold laws_markArticleS.g2
    simp
  · intro x hx n n0 n1
    obtain ⟨t0, ht0⟩ := markText_some n (by omega) (by omega)
    have wk : ∀ i : Int, 0 ≤ i → i ≤ 3000000000000 → IntKind.i64.wrap i = i := fun i h h2 => w64 (by omega) (by omega)
    refine ⟨(t0, (n + 1), ((n + 1) + 1), (((n + 1) + 1) + 1), ((((n + 1) + 1) + 1) + 1), (((((n + 1) + 1) + 1) + 1) + 1), ((((((n + 1) + 1) + 1) + 1) + 1) + 1), (((((((n + 1) + 1) + 1) + 1) + 1) + 1) + 1), ((((((((n + 1) + 1) + 1) + 1) + 1) + 1) + 1) + 1)), (((((((((n + 1) + 1) + 1) + 1) + 1) + 1) + 1) + 1) + 1), by omega, by omega, fun k p r hb => ?_⟩
    · show laws_markArticleS.g2 (laws_markArticleS.l2 NN k) n p.length (p ++ x :: r) = _
      unfold laws_markArticleS.g2
      have c1 : ∀ y, (p.length : Int) < ((p ++ y :: r).length : Int) := fun y => by have := mid_len p r y; omega
      have c0 : (0 : Int) ≤ (p.length : Int) := by omega
      have cw := w64 (n := (p.length : Int) + 1) (by omega) (by omega)
      have q0 := wk (n + 1) (by omega) (by omega)
      have q1 := wk ((n + 1) + 1) (by omega) (by omega)
      have q2 := wk (((n + 1) + 1) + 1) (by omega) (by omega)
      have q3 := wk ((((n + 1) + 1) + 1) + 1) (by omega) (by omega)
      have q4 := wk (((((n + 1) + 1) + 1) + 1) + 1) (by omega) (by omega)
      have q5 := wk ((((((n + 1) + 1) + 1) + 1) + 1) + 1) (by omega) (by omega)
      have q6 := wk (((((((n + 1) + 1) + 1) + 1) + 1) + 1) + 1) (by omega) (by omega)
      have q7 := wk ((((((((n + 1) + 1) + 1) + 1) + 1) + 1) + 1) + 1) (by omega) (by omega)
      have q8 := wk (((((((((n + 1) + 1) + 1) + 1) + 1) + 1) + 1) + 1) + 1) (by omega) (by omega)
      have u0 := wk n (by omega) (by omega)
      have u1 := wk (n + 1) (by omega) (by omega)
      have u2 := wk ((n + 1) + 1) (by omega) (by omega)
      have u3 := wk (((n + 1) + 1) + 1) (by omega) (by omega)
      have u4 := wk ((((n + 1) + 1) + 1) + 1) (by omega) (by omega)
      have u5 := wk (((((n + 1) + 1) + 1) + 1) + 1) (by omega) (by omega)
      have u6 := wk ((((((n + 1) + 1) + 1) + 1) + 1) + 1) (by omega) (by omega)
      have u7 := wk (((((((n + 1) + 1) + 1) + 1) + 1) + 1) + 1) (by omega) (by omega)
      have u8 := wk ((((((((n + 1) + 1) + 1) + 1) + 1) + 1) + 1) + 1) (by omega) (by omega)
      simp only [c0, c1, and_self, decide_true, if_true, mid_get, mid_set, cw, Option.bind_some, bne_self_eq_false, beq_self_eq_true, Bool.not_true, Bool.false_eq_true, if_false, ht0, q0, q1, q2, q3, q4, q5, q6, q7, q8, u0]
end Go.Pl

namespace Go.Pl
open Go.Ev
set_option linter.unusedVariables false
set_option linter.unusedSimpArgs false
theorem laws_markInt64S_ok (a : List Int) (ha : Lm (Rg .i64) a) (n : Int) (h0 : 0 ≤ n) (h1 : n ≤ 1000000000000) : ∃ n' a', laws_markInt64S.f a n = some (n', a') ∧ laws_heldInt64S.f a' n = some n' ∧ n ≤ n' ∧ n' ≤ n + 1000000 := by
  have := mark_held (Q := Rg .i64) (fun k a n i => laws_markInt64S.l2 NN k n i a) (fun k a n i => laws_heldInt64S.l2 NN k a n i) 1 2000000000000 ?_ ?_ ?_ a ha n h0 (by omega) NN NN (NN_lt (by omega)) (NN_lt (by omega))
  · obtain ⟨n1, a1, e1, e2, e3, e4⟩ := this
    exact ⟨n1, a1, e1, e2, e3, by omega⟩
  · intro k p n
    show laws_markInt64S.g2 (laws_markInt64S.l2 NN k) n p.length p = _
    unfold laws_markInt64S.g2
    simp
  · intro k p n
    show laws_heldInt64S.g2 (laws_heldInt64S.l2 NN k) p n p.length = _
    unfold laws_heldInt64S.g2
    simp
  · intro x hx n n0 n1
    have wk : ∀ i : Int, 0 ≤ i → i ≤ 3000000000000 → IntKind.i64.wrap i = i := fun i h h2 => w64 (by omega) (by omega)
    refine ⟨n, (n + 1), by omega, by omega, fun k p r hb => ?_, fun k p r hb => ?_⟩
    · show laws_markInt64S.g2 (laws_markInt64S.l2 NN k) n p.length (p ++ x :: r) = _
      unfold laws_markInt64S.g2
      have c1 : ∀ y, (p.length : Int) < ((p ++ y :: r).length : Int) := fun y => by have := mid_len p r y; omega
      have c0 : (0 : Int) ≤ (p.length : Int) := by omega
      have cw := w64 (n := (p.length : Int) + 1) (by omega) (by omega)
      have q0 := wk (n + 1) (by omega) (by omega)
      have u0 := wk n (by omega) (by omega)
      simp only [c0, c1, and_self, decide_true, if_true, mid_get, mid_set, cw, Option.bind_some, bne_self_eq_false, beq_self_eq_true, Bool.not_true, Bool.false_eq_true, if_false, q0, u0]
    · show laws_heldInt64S.g2 (laws_heldInt64S.l2 NN k) (p ++ n :: r) n p.length = _
      unfold laws_heldInt64S.g2
      have c1 : ∀ y, (p.length : Int) < ((p ++ y :: r).length : Int) := fun y => by have := mid_len p r y; omega
      have c0 : (0 : Int) ≤ (p.length : Int) := by omega
      have cw := w64 (n := (p.length : Int) + 1) (by omega) (by omega)
      have q0 := wk (n + 1) (by omega) (by omega)
      have u0 := wk n (by omega) (by omega)
      simp only [c0, c1, and_self, decide_true, if_true, mid_get, mid_set, cw, Option.bind_some, bne_self_eq_false, beq_self_eq_true, Bool.not_true, Bool.false_eq_true, if_false, q0, u0]
end Go.Pl

namespace Go.Pl
open Go.Ev
set_option linter.unusedVariables false
set_option linter.unusedSimpArgs false
theorem laws_markPermit_ok (a : Int × Int × Int × Int × List Int × Int) (ha : OkPermit a) (n : Int) (h0 : 0 ≤ n) (h1 : n ≤ 900000000000) : ∃ (n' : Int) (a0 : List Int), laws_markPermit.f a n = some (n', (a.1, a.2.1, a.2.2.1, a.2.2.2.1, a0, a.2.2.2.2.2)) ∧ laws_heldPermit.f (a.1, a.2.1, a.2.2.1, a.2.2.2.1, a0, a.2.2.2.2.2) n = some n' ∧ n ≤ n' ∧ n' ≤ n + 1000000 := by
  obtain ⟨n0, a0, x0, y0, z0, w0⟩ := laws_markInt64S_ok a.2.2.2.2.1 ha.2.2.2.2.1 n (by omega) (by omega)
  refine ⟨n0, a0, ?_, ?_, by omega, by omega⟩
  · unfold laws_markPermit.f laws_markPermit.fn laws_markPermit.top
    simp only [x0, Option.bind_some]
  · unfold laws_heldPermit.f laws_heldPermit.fn laws_heldPermit.top
    simp only [y0, Option.bind_some, decide_eq_true_eq]
    rw [if_neg (show ¬ n0 < 0 by omega)]
end Go.Pl

namespace Go.Pl
open Go.Ev
set_option linter.unusedVariables false
set_option linter.unusedSimpArgs false
theorem laws_szArticle_ok (a : ByteArray × Int × Int × Int × Int × Int × Int × Int × Int) (left : Int) (h0 : -1000000000000000 ≤ left) (h1 : left ≤ 1000000) (ha : PlArticle a) : ∃ s, laws_szArticle.f a left = some s ∧ s ≤ 1000000 ∧ (0 ≤ s → s ≤ left ∧ OkArticle a) := by
  unfold laws_szArticle.f laws_szArticle.fn laws_szArticle.top
  have hz1 : a.1.size ≤ 140737488355328 := ha.1
  have hw1 := w64 (n := left - (a.1.size : Int)) (by omega) (by omega)
  simp only [hw1]
  by_cases hn1 : left - (a.1.size : Int) < 0
  · exact ⟨-1, by simp [hn1], by omega, by omega⟩
  simp only [hn1, decide_false, Bool.false_eq_true, if_false]
  exact ⟨_, rfl, by omega, fun h => ⟨by omega, (by unfold Sm; omega), ha.2.1, ha.2.2.1, ha.2.2.2.1, ha.2.2.2.2.1, ha.2.2.2.2.2.1, ha.2.2.2.2.2.2.1, ha.2.2.2.2.2.2.2.1, ha.2.2.2.2.2.2.2.2⟩⟩
end Go.Pl

namespace Go.Pl
open Go.Ev
set_option linter.unusedVariables false
set_option linter.unusedSimpArgs false
theorem laws_szArticleS_ok (a : List (ByteArray × Int × Int × Int × Int × Int × Int × Int × Int)) (left : Int) (h0 : -1000000000000000 ≤ left) (h1 : left ≤ 1000000) (ha : Ls PlArticle a) : ∃ s, laws_szArticleS.f a left = some s ∧ s ≤ 1000000 ∧ (0 ≤ s → s ≤ left ∧ Lm OkArticle a) := by
  unfold laws_szArticleS.f laws_szArticleS.fn laws_szArticleS.top
  have hl : a.length ≤ 140737488355328 := ha.1
  have hw := w64 (n := left - (a.length : Int)) (by omega) (by omega)
  simp only [hw]
  by_cases hn : left - (a.length : Int) < 0
  · exact ⟨-1, by simp [hn], by omega, by omega⟩
  · simp only [hn, decide_false, Bool.false_eq_true, if_false]
    have := szS_loop (Q := PlArticle) (R := OkArticle) (fun k a left i => laws_szArticleS.l5 NN k a left i) ?_ ?_ a NN (left - (a.length : Int)) (by omega) (by omega) ha (NN_lt (by omega))
    · obtain ⟨s, s1, s2, s3⟩ := this
      exact ⟨s, s1, by omega, fun h => ⟨by have := (s3 h).1; omega, by omega, (s3 h).2⟩⟩
    · intro k p left
      show laws_szArticleS.g5 (laws_szArticleS.l5 NN k) p left p.length = _
      unfold laws_szArticleS.g5
      simp
    · intro x hx left l0 l1
      obtain ⟨s, s1, s2, s3⟩ := laws_szArticle_ok x left l0 l1 hx
      refine ⟨s, s2, s3, fun k p r hb => ?_⟩
      show laws_szArticleS.g5 (laws_szArticleS.l5 NN k) (p ++ x :: r) left p.length = _
      unfold laws_szArticleS.g5
      have hl := mid_len p r x
      have c1 : (p.length : Int) < ((p ++ x :: r).length : Int) := by omega
      have c0 : (0 : Int) ≤ (p.length : Int) := by omega
      have cw := w64 (n := (p.length : Int) + 1) (by omega) (by omega)
      simp only [c0, c1, and_self, decide_true, if_true, mid_get, s1, Option.bind_some, cw, decide_eq_true_eq]
end Go.Pl

namespace Go.Pl
open Go.Ev
set_option linter.unusedVariables false
set_option linter.unusedSimpArgs false
theorem laws_eqArticle_self (a : ByteArray × Int × Int × Int × Int × Int × Int × Int × Int) : laws_eqArticle.f a a = some true := by
  unfold laws_eqArticle.f laws_eqArticle.fn laws_eqArticle.top
  simp []
end Go.Pl

namespace Go.Pl
open Go.Ev
set_option linter.unusedVariables false
set_option linter.unusedSimpArgs false
theorem laws_eqArticleS_self (a : List (ByteArray × Int × Int × Int × Int × Int × Int × Int × Int)) (hl : a.length ≤ 140737488355328) : laws_eqArticleS.f a a = some true := by
  unfold laws_eqArticleS.f laws_eqArticleS.fn laws_eqArticleS.top
  simp only [bne_self_eq_false, Bool.false_eq_true, if_false]
  refine eqS_loop (E := fun _ => True) (fun k a b i => laws_eqArticleS.l4 NN k a b i) a (fun _ _ => trivial) ?_ ?_ NN (NN_lt (by omega))
  · intro k p x r hx ha
    subst ha
    show laws_eqArticleS.g4 (laws_eqArticleS.l4 NN k) (p ++ x :: r) (p ++ x :: r) p.length = _
    unfold laws_eqArticleS.g4
    have hm := mid_len p r x
    have c1 : (p.length : Int) < ((p ++ x :: r).length : Int) := by omega
    have c0 : (0 : Int) ≤ (p.length : Int) := by omega
    have cw := w64 (n := (p.length : Int) + 1) (by omega) (by omega)
    simp only [c0, c1, and_self, decide_true, if_true, mid_get, laws_eqArticle_self x, Option.bind_some, cw, Bool.not_true, Bool.false_eq_true, if_false]
  · intro k
    show laws_eqArticleS.g4 (laws_eqArticleS.l4 NN k) a a a.length = _
    unfold laws_eqArticleS.g4
    simp
end Go.Pl

namespace Go.Pl
open Go.Ev
set_option linter.unusedVariables false
set_option linter.unusedSimpArgs false
theorem roomBehind_le (n : Int) (h0 : 0 ≤ n) : ∃ r, laws_roomBehind.f n = some r ∧ 0 ≤ r ∧ (r ≤ n ∨ r = 1) := by
  unfold laws_roomBehind.f laws_roomBehind.fn laws_roomBehind.top
  split
  · exact ⟨0, rfl, by omega, by omega⟩
  · split
    · exact ⟨1, rfl, by omega, .inr rfl⟩
    · exact ⟨n, rfl, h0, .inl (by omega)⟩
theorem roomv1 : room 1 = 140737488355328 := by decide
theorem roomv8 : room 8 = 17592186044416 := by decide
theorem roomv16 : room 16 = 8796093022208 := by decide
theorem roomv24 : room 24 = 5864062014805 := by decide
theorem roomv32 : room 32 = 4398046511104 := by decide
theorem roomv40 : room 40 = 3518437208883 := by decide
theorem roomv48 : room 48 = 2932031007402 := by decide
theorem roomv56 : room 56 = 2513169434916 := by decide
theorem roomv64 : room 64 = 2199023255552 := by decide
theorem roomv72 : room 72 = 1954687338268 := by decide
theorem roomv80 : room 80 = 1759218604441 := by decide
theorem roomv88 : room 88 = 1599289640401 := by decide
theorem roomv96 : room 96 = 1466015503701 := by decide
theorem roomv104 : room 104 = 1353245080339 := by decide
theorem roomv112 : room 112 = 1256584717458 := by decide
theorem roomv120 : room 120 = 1172812402961 := by decide
theorem roomv128 : room 128 = 1099511627776 := by decide
end Go.Pl

namespace Go.Pl
open Go.Ev
set_option linter.unusedVariables false
set_option linter.unusedSimpArgs false
theorem laws_toArticle_ok (a : ByteArray × Int × Int × Int × Int × Int × Int × Int × Int) : laws_toArticle.f a = some a := rfl
end Go.Pl

namespace Go.Pl
open Go.Ev
set_option linter.unusedVariables false
set_option linter.unusedSimpArgs false
theorem laws_toArticleS_ok (a : List (ByteArray × Int × Int × Int × Int × Int × Int × Int × Int)) (ha : Lm OkArticle a) (bare : Bool) : ∃ fil, laws_toArticleS.f a bare = some (a, fil) ∧ (bare = false → laws_roomBehind.f a.length = some (fil.length : Int)) ∧ fil.length ≤ 1000001 ∧ ∀ x ∈ fil, (fun _ => True) x := by
  have hl : a.length ≤ 1000000 := ha.1
  obtain ⟨r, h1, h2, h3⟩ := roomBehind_le a.length (by omega)
  have hw := w64 (n := (a.length : Int) + r) (by omega) (by omega)
  have c1 : (0 : Int) ≤ a.length + r ∧ (a.length : Int) + r < (room 80 : Nat) ∧ (a.length : Int) + r = a.length + r := by rw [roomv80]; omega
  have key : ∃ fil, laws_toArticleS.l5 NN NN a 0 (List.replicate ((a.length : Int) + r).toNat (ByteArray.empty, (0, (0, (0, (0, (0, (0, (0, 0))))))))) = some (a, fil) ∧ fil.length = ((a.length : Int) + r).toNat - a.length ∧ ∀ x ∈ fil, (fun _ => True) x := by
    have := toS_loop (Z := fun _ => True) (R := OkArticle) (fun k a i out => laws_toArticleS.l5 NN k a i out) (fun k a i out => laws_toArticleS.l9 NN k a i out) ?_ ?_ ?_ ?_ a (List.replicate ((a.length : Int) + r).toNat (ByteArray.empty, (0, (0, (0, (0, (0, (0, (0, 0))))))))) NN ha.2 (by rw [List.length_replicate]; omega) (by rw [List.length_replicate]; omega) (NN_lt (by omega))
    · simpa using this
    · intro k a out h
      show laws_toArticleS.g9 (laws_toArticleS.l9 NN k) a out.length out = _
      unfold laws_toArticleS.g9
      have c2 : (0 : Int) ≤ (a.length : Int) := by omega
      simp [h]
    · intro k a i out hi hb
      have d1 : (i : Int) < (out.length : Int) := by omega
      have d0 : (0 : Int) ≤ (i : Int) := by omega
      have dw := w64 (n := (i : Int) + 1) (by omega) (by omega)
      have e : laws_toArticleS.g9 (laws_toArticleS.l9 NN k) a i out = laws_toArticleS.l9 NN k a ((i : Int) + 1) (out.set i ((⟨#[126, 115, 112, 97, 114, 101, 126]⟩ : ByteArray), ((-7000000000000000101), ((-7000000000000000101), ((-7000000000000000101), ((-7000000000000000101), ((-7000000000000000101), ((-7000000000000000101), ((-7000000000000000101), (-7000000000000000101)))))))))) := by
        unfold laws_toArticleS.g9
        simp only [d0, d1, and_self, decide_true, if_true, dw, Int.toNat_natCast, laws_fillerArticle.f, laws_fillerArticle.fn, laws_fillerArticle.top, Option.bind_some]
      exact ⟨_, trivial, e⟩
    · intro k a out
      show laws_toArticleS.g5 (laws_toArticleS.l9 NN NN) (laws_toArticleS.l5 NN k) a a.length out = _
      unfold laws_toArticleS.g5
      simp
    · intro k p r x q s y hx hpq hb hb2
      have hm := mid_len p r x
      have hm2 := mid_len q s y
      have d1 : (p.length : Int) < ((p ++ x :: r).length : Int) := by omega
      have d2 : (q.length : Int) < ((q ++ y :: s).length : Int) := by omega
      have d0 : (0 : Int) ≤ (q.length : Int) := by omega
      have dw := w64 (n := (q.length : Int) + 1) (by omega) (by omega)
      have g := mid_get p r x (ByteArray.empty, (0, (0, (0, (0, (0, (0, (0, 0))))))))
      show laws_toArticleS.g5 (laws_toArticleS.l9 NN NN) (laws_toArticleS.l5 NN k) (p ++ x :: r) p.length (q ++ y :: s) = laws_toArticleS.l5 NN k (p ++ x :: r) ((p.length : Int) + 1) (q ++ x :: s)
      unfold laws_toArticleS.g5
      rw [hpq] at d1 g ⊢
      have e5 := hpq
      simp only [d0, d1, d2, and_self, decide_true, if_true, g, laws_toArticle_ok, Option.bind_some, dw, mid_set]
  obtain ⟨fil, k1, k2, k3⟩ := key
  have k4 : (fil.length : Int) = r := by omega
  unfold laws_toArticleS.f laws_toArticleS.fn laws_toArticleS.top
  simp only [h1, Option.bind_some, hw, c1, and_self, if_true]
  by_cases hb : bare = true
  · simp only [hb, if_true]
    by_cases he : a = []
    · subst he
      exact ⟨[], by simp, by simp, by simp, by simp⟩
    · have : ((a.length : Int) == 0) = false := by simpa using he
      simp only [this, Bool.false_eq_true, if_false]
      exact ⟨fil, by first | exact k1 | (rw [hb] at k1; exact k1), by simp, by omega, k3⟩
  · simp only [hb, Bool.false_eq_true, if_false]
    exact ⟨fil, by first | exact k1 | (rw [Bool.not_eq_true] at hb; rw [hb] at k1; exact k1), fun _ => by rw [k4], by omega, k3⟩
theorem laws_intactArticleS_self (a fil : List (ByteArray × Int × Int × Int × Int × Int × Int × Int × Int)) (ha : Lm OkArticle a) (h1 : laws_roomBehind.f a.length = some (fil.length : Int)) (h2 : fil.length ≤ 1000001) (h3 : ∀ x ∈ fil, (fun _ => True) x) : laws_intactArticleS.f (a, fil) (a, fil) = some true := by
  have hl : a.length ≤ 1000000 := ha.1
  unfold laws_intactArticleS.f laws_intactArticleS.fn laws_intactArticleS.top
  have hw := w64 (n := (a.length : Int) + (fil.length : Int)) (by omega) (by omega)
  have c1 : (0 : Int) ≤ a.length + fil.length ∧ (a.length : Int) + fil.length ≤ ((a ++ fil).length : Nat) := by rw [List.length_append]; omega
  simp only [h1, Option.bind_some, hw, beq_self_eq_true, if_true, c1, and_self]
  rw [laws_eqArticleS_self _ (by rw [List.length_take, List.length_append]; omega)]
  rfl
theorem laws_toArticleS_both (a : List (ByteArray × Int × Int × Int × Int × Int × Int × Int × Int)) (ha : Lm OkArticle a) : ∃ f : Bool → List (ByteArray × Int × Int × Int × Int × Int × Int × Int × Int), (∀ bare, laws_toArticleS.f a bare = some (a, f bare)) ∧ laws_intactArticleS.f (a, f false) (a, f false) = some true := by
  obtain ⟨f1, a1, a2, a3, a4⟩ := laws_toArticleS_ok a ha false
  obtain ⟨f2, b1, b2, b3, b4⟩ := laws_toArticleS_ok a ha true
  refine ⟨fun bare => if bare = true then f2 else f1, fun bare => ?_, ?_⟩
  · cases bare
    · simpa using a1
    · simpa using b1
  · simpa using laws_intactArticleS_self a f1 ha (a2 rfl) a3 a4
end Go.Pl

namespace Go.Pl
open Go.Ev
set_option linter.unusedVariables false
set_option linter.unusedSimpArgs false
theorem laws_toInt64S_ok (a : List Int) (ha : Lm (Rg .i64) a) (bare : Bool) : ∃ fil, laws_toInt64S.f a bare = some (a, fil) ∧ (bare = false → laws_roomBehind.f a.length = some (fil.length : Int)) ∧ fil.length ≤ 1000001 ∧ ∀ x ∈ fil, (fun _ => True) x := by
  have hl : a.length ≤ 1000000 := ha.1
  obtain ⟨r, h1, h2, h3⟩ := roomBehind_le a.length (by omega)
  have hw := w64 (n := (a.length : Int) + r) (by omega) (by omega)
  have c1 : (0 : Int) ≤ a.length + r ∧ (a.length : Int) + r < (room 8 : Nat) ∧ (a.length : Int) + r = a.length + r := by rw [roomv8]; omega
  have key : ∃ fil, laws_toInt64S.l5 NN NN a 0 (List.replicate ((a.length : Int) + r).toNat 0) = some (a, fil) ∧ fil.length = ((a.length : Int) + r).toNat - a.length ∧ ∀ x ∈ fil, (fun _ => True) x := by
    have := toS_loop (Z := fun _ => True) (R := Rg .i64) (fun k a i out => laws_toInt64S.l5 NN k a i out) (fun k a i out => laws_toInt64S.l9 NN k a i out) ?_ ?_ ?_ ?_ a (List.replicate ((a.length : Int) + r).toNat 0) NN ha.2 (by rw [List.length_replicate]; omega) (by rw [List.length_replicate]; omega) (NN_lt (by omega))
    · simpa using this
    · intro k a out h
      show laws_toInt64S.g9 (laws_toInt64S.l9 NN k) a out.length out = _
      unfold laws_toInt64S.g9
      have c2 : (0 : Int) ≤ (a.length : Int) := by omega
      simp [h]
    · intro k a i out hi hb
      have d1 : (i : Int) < (out.length : Int) := by omega
      have d0 : (0 : Int) ≤ (i : Int) := by omega
      have dw := w64 (n := (i : Int) + 1) (by omega) (by omega)
      have e : laws_toInt64S.g9 (laws_toInt64S.l9 NN k) a i out = laws_toInt64S.l9 NN k a ((i : Int) + 1) (out.set i (-7000000000000000101)) := by
        unfold laws_toInt64S.g9
        simp only [d0, d1, and_self, decide_true, if_true, dw, Int.toNat_natCast]
      exact ⟨_, trivial, e⟩
    · intro k a out
      show laws_toInt64S.g5 (laws_toInt64S.l9 NN NN) (laws_toInt64S.l5 NN k) a a.length out = _
      unfold laws_toInt64S.g5
      simp
    · intro k p r x q s y hx hpq hb hb2
      have hm := mid_len p r x
      have hm2 := mid_len q s y
      have d1 : (p.length : Int) < ((p ++ x :: r).length : Int) := by omega
      have d2 : (q.length : Int) < ((q ++ y :: s).length : Int) := by omega
      have d0 : (0 : Int) ≤ (q.length : Int) := by omega
      have dw := w64 (n := (q.length : Int) + 1) (by omega) (by omega)
      have g := mid_get p r x 0
      show laws_toInt64S.g5 (laws_toInt64S.l9 NN NN) (laws_toInt64S.l5 NN k) (p ++ x :: r) p.length (q ++ y :: s) = laws_toInt64S.l5 NN k (p ++ x :: r) ((p.length : Int) + 1) (q ++ x :: s)
      unfold laws_toInt64S.g5
      rw [hpq] at d1 g ⊢
      have e5 := hpq
      simp only [d0, d1, d2, and_self, decide_true, if_true, g, dw, mid_set]
  obtain ⟨fil, k1, k2, k3⟩ := key
  have k4 : (fil.length : Int) = r := by omega
  unfold laws_toInt64S.f laws_toInt64S.fn laws_toInt64S.top
  simp only [h1, Option.bind_some, hw, c1, and_self, if_true]
  by_cases hb : bare = true
  · simp only [hb, if_true]
    by_cases he : a = []
    · subst he
      exact ⟨[], by simp, by simp, by simp, by simp⟩
    · have : ((a.length : Int) == 0) = false := by simpa using he
      simp only [this, Bool.false_eq_true, if_false]
      exact ⟨fil, by first | exact k1 | (rw [hb] at k1; exact k1), by simp, by omega, k3⟩
  · simp only [hb, Bool.false_eq_true, if_false]
    exact ⟨fil, by first | exact k1 | (rw [Bool.not_eq_true] at hb; rw [hb] at k1; exact k1), fun _ => by rw [k4], by omega, k3⟩
theorem laws_intactInt64S_self (a fil : List Int) (ha : Lm (Rg .i64) a) (h1 : laws_roomBehind.f a.length = some (fil.length : Int)) (h2 : fil.length ≤ 1000001) (h3 : ∀ x ∈ fil, (fun _ => True) x) : laws_intactInt64S.f (a, fil) (a, fil) = some true := by
  have hl : a.length ≤ 1000000 := ha.1
  unfold laws_intactInt64S.f laws_intactInt64S.fn laws_intactInt64S.top
  have hw := w64 (n := (a.length : Int) + (fil.length : Int)) (by omega) (by omega)
  have c1 : (0 : Int) ≤ a.length + fil.length ∧ (a.length : Int) + fil.length ≤ ((a ++ fil).length : Nat) := by rw [List.length_append]; omega
  simp only [h1, Option.bind_some, hw, beq_self_eq_true, if_true, c1, and_self]
  rw [laws_eqInt64S_self _ (by rw [List.length_take, List.length_append]; omega)]
  rfl
theorem laws_toInt64S_both (a : List Int) (ha : Lm (Rg .i64) a) : ∃ f : Bool → List Int, (∀ bare, laws_toInt64S.f a bare = some (a, f bare)) ∧ laws_intactInt64S.f (a, f false) (a, f false) = some true := by
  obtain ⟨f1, a1, a2, a3, a4⟩ := laws_toInt64S_ok a ha false
  obtain ⟨f2, b1, b2, b3, b4⟩ := laws_toInt64S_ok a ha true
  refine ⟨fun bare => if bare = true then f2 else f1, fun bare => ?_, ?_⟩
  · cases bare
    · simpa using a1
    · simpa using b1
  · simpa using laws_intactInt64S_self a f1 ha (a2 rfl) a3 a4
end Go.Pl

namespace Go.Pl
open Go.Ev
set_option linter.unusedVariables false
noncomputable section
def laws_intactPermit.top (x0 : Int × Int × Int × Int × (List Int × List Int) × Int) (y1 : Int × Int × Int × Int × (List Int × List Int) × Int) : Option Bool :=
  if ((x0.1 : Int) != y1.1) = true then
    some false
  else if ((x0.2.1 : Int) != y1.2.1) = true then
    some false
  else if ((x0.2.2.1 : Int) != y1.2.2.1) = true then
    some false
  else if ((x0.2.2.2.1 : Int) != y1.2.2.2.1) = true then
    some false
  else
    (laws_intactInt64S.f x0.2.2.2.2.1 y1.2.2.2.2.1).bind fun r1 =>
    if (!r1) = true then
      some false
    else if ((x0.2.2.2.2.2 : Int) != y1.2.2.2.2.2) = true then
      some false
    else
      some true
def laws_intactPermit.fn (n : Nat) (x0 : Int × Int × Int × Int × (List Int × List Int) × Int) (y1 : Int × Int × Int × Int × (List Int × List Int) × Int) : Option Bool := laws_intactPermit.top x0 y1
def laws_intactPermit.f (x0 : Int × Int × Int × Int × (List Int × List Int) × Int) (y1 : Int × Int × Int × Int × (List Int × List Int) × Int) : Option Bool := laws_intactPermit.fn NN x0 y1
end
end Go.Pl

namespace Go.Pl
open Go.Ev
set_option linter.unusedVariables false
noncomputable section
def laws_toPermit.top (a0 : Int × Int × Int × Int × List Int × Int) (bare1 : Bool) : Option (Int × Int × Int × Int × (List Int × List Int) × Int) :=
  (laws_toInt64S.f a0.2.2.2.2.1 bare1).bind fun r1 =>
  some (a0.1, (a0.2.1, (a0.2.2.1, (a0.2.2.2.1, ((r1.1, r1.2), a0.2.2.2.2.2)))))
def laws_toPermit.fn (n : Nat) (a0 : Int × Int × Int × Int × List Int × Int) (bare1 : Bool) : Option (Int × Int × Int × Int × (List Int × List Int) × Int) := laws_toPermit.top a0 bare1
def laws_toPermit.f (a0 : Int × Int × Int × Int × List Int × Int) (bare1 : Bool) : Option (Int × Int × Int × Int × (List Int × List Int) × Int) := laws_toPermit.fn NN a0 bare1
end
end Go.Pl

namespace Go.Pl
open Go.Ev
set_option linter.unusedVariables false
set_option linter.unusedSimpArgs false
theorem laws_toPermit_both (a : Int × Int × Int × Int × List Int × Int) (ha : OkPermit a) : ∃ (f0 : Bool → List Int), (∀ bare, laws_toPermit.f a bare = some (a.1, a.2.1, a.2.2.1, a.2.2.2.1, (a.2.2.2.2.1, f0 bare), a.2.2.2.2.2)) ∧ laws_intactPermit.f (a.1, a.2.1, a.2.2.1, a.2.2.2.1, (a.2.2.2.2.1, f0 false), a.2.2.2.2.2) (a.1, a.2.1, a.2.2.1, a.2.2.2.1, (a.2.2.2.2.1, f0 false), a.2.2.2.2.2) = some true := by
  obtain ⟨f0, a0, i0⟩ := laws_toInt64S_both a.2.2.2.2.1 ha.2.2.2.2.1
  refine ⟨f0, fun bare => ?_, ?_⟩
  · unfold laws_toPermit.f laws_toPermit.fn laws_toPermit.top
    simp only [a0, Option.bind_some]
  · unfold laws_intactPermit.f laws_intactPermit.fn laws_intactPermit.top
    simp [i0]
theorem laws_toPermit_okx (a : Int × Int × Int × Int × List Int × Int) (ha : OkPermit a) (bare : Bool) : ∃ fl, laws_toPermit.f a bare = some (a.1, a.2.1, a.2.2.1, a.2.2.2.1, (a.2.2.2.2.1, fl), a.2.2.2.2.2) := by
  obtain ⟨fl, h, _⟩ := laws_toInt64S_ok a.2.2.2.2.1 ha.2.2.2.2.1 bare
  refine ⟨fl, ?_⟩
  unfold laws_toPermit.f laws_toPermit.fn laws_toPermit.top
  simp only [h, Option.bind_some]
theorem ok_eqPermit (a : Int × Int × Int × Int × List Int × Int) (ha : OkPermit a) : EqPermit a := Nat.le_trans ha.2.2.2.2.1.1 (by omega)
end Go.Pl

namespace Go.Pl
open Go.Ev
set_option linter.unusedVariables false
set_option linter.unusedSimpArgs false
def inB (n lo hi : Int) : Bool := decide (lo ≤ n) && decide (n ≤ hi)
theorem inB_iff {n lo hi : Int} : inB n lo hi = true ↔ lo ≤ n ∧ n ≤ hi := by unfold inB; simp
theorem impl_within_f (n lo hi : Int) : impl_within.f n lo hi = some (inB n lo hi) := by
  unfold impl_within.f impl_within.fn impl_within.top inB
  by_cases h : lo ≤ n <;> simp [h]
theorem spec_l01In_f (n lo hi : Int) : spec_l01In.f n lo hi = some (inB n lo hi) := by
  unfold spec_l01In.f spec_l01In.fn spec_l01In.top inB
  by_cases h : lo ≤ n <;> simp [h]
/-- a letter -/
def letB (c : UInt8) : Bool := !(decide ((c.toNat : Int) < 97)) && !(decide (122 < (c.toNat : Int)))
def wordB (s : ByteArray) : Bool := decide (1 ≤ s.size) && decide (s.size ≤ 16) && (bl s).all letB
theorem wordB_size {s : ByteArray} (h : wordB s = true) : 1 ≤ s.size ∧ s.size ≤ 16 := by
  unfold wordB at h; simp at h; exact h.1
theorem impl_IsWord_loop (s : ByteArray) (h : s.size ≤ 140737488355328) : impl_IsWord.l4 NN NN s 0 = if (bl s).all letB = true then some true else some false := by
  refine all_loop_str letB (fun s => some true) (fun k s i => impl_IsWord.l4 NN k s i) ?_ ?_ s h NN (NN_lt (by omega))
  · intro k p
    show impl_IsWord.g4 _ (ob p) p.length = _
    simp [impl_IsWord.g4, ob_size, spec_l01In_f]
  · intro k p a r c0 c1 cw
    show impl_IsWord.g4 (impl_IsWord.l4 NN k) (ob (p ++ a :: r)) p.length = _
    simp only [impl_IsWord.g4, c0, c1, cw, and_self, and_true, true_and, decide_true, decide_false, if_true, if_false, mid_get, mid_set, mid_getn, mid_setn, bt_mid, Option.bind_some, Bool.not_true, Bool.not_false, Bool.false_eq_true, Bool.true_eq_false, beq_self_eq_true, bne_self_eq_false, Int.toNat_natCast]
    unfold letB
    by_cases h1 : (a.toNat : Int) < 97 <;> by_cases h2 : (122 : Int) < (a.toNat : Int) <;> simp [h1, h2]
theorem spec_IsWord_loop (s : ByteArray) (h : s.size ≤ 140737488355328) : spec_IsWord.l2 NN NN s 0 = if (bl s).all letB = true then some (inB s.size 1 16) else some false := by
  refine all_loop_str letB (fun s => some (inB s.size 1 16)) (fun k s i => spec_IsWord.l2 NN k s i) ?_ ?_ s h NN (NN_lt (by omega))
  · intro k p
    show spec_IsWord.g2 _ (ob p) p.length = _
    simp [spec_IsWord.g2, ob_size, spec_l01In_f]
  · intro k p a r c0 c1 cw
    show spec_IsWord.g2 (spec_IsWord.l2 NN k) (ob (p ++ a :: r)) p.length = _
    simp only [spec_IsWord.g2, c0, c1, cw, and_self, and_true, true_and, decide_true, decide_false, if_true, if_false, mid_get, mid_set, mid_getn, mid_setn, bt_mid, Option.bind_some, Bool.not_true, Bool.not_false, Bool.false_eq_true, Bool.true_eq_false, beq_self_eq_true, bne_self_eq_false, Int.toNat_natCast]
    unfold letB
    by_cases h1 : (a.toNat : Int) < 97 <;> by_cases h2 : (122 : Int) < (a.toNat : Int) <;> simp [h1, h2]
theorem impl_IsWord_f (s : ByteArray) (h : s.size ≤ 140737488355328) : impl_IsWord.f s = some (wordB s) := by
  unfold impl_IsWord.f impl_IsWord.fn impl_IsWord.top
  rw [impl_IsWord_loop s h]
  unfold wordB
  by_cases h1 : (s.size : Int) < 1
  · have : ¬ 1 ≤ s.size := by omega
    simp [h1, this]
  · have e1 : 1 ≤ s.size := by omega
    by_cases h2 : (16 : Int) < s.size
    · have : ¬ s.size ≤ 16 := by omega
      simp [h1, h2, this]
    · have : s.size ≤ 16 := by omega
      cases h3 : (bl s).all letB <;> simp [h1, h2, this, h3, e1]
theorem spec_IsWord_f (s : ByteArray) (h : s.size ≤ 140737488355328) : spec_IsWord.f s = some (wordB s) := by
  unfold spec_IsWord.f spec_IsWord.fn spec_IsWord.top
  rw [spec_IsWord_loop s h]
  unfold wordB inB
  have e1 : decide ((1 : Int) ≤ s.size) = decide (1 ≤ s.size) := by congr 1; simp; omega
  have e2 : decide ((s.size : Int) ≤ 16) = decide (s.size ≤ 16) := by congr 1; simp; omega
  rw [e1, e2]
  cases h3 : (bl s).all letB <;> simp
end Go.Pl

namespace Go.Pl
open Go.Ev
set_option linter.unusedVariables false
noncomputable section
def impl_isCalibre.top (n0 : Int) : Option Bool :=
  (impl_within.f n0 20 300).bind fun r1 =>
  some r1
def impl_isCalibre.fn (n : Nat) (n0 : Int) : Option Bool := impl_isCalibre.top n0
def impl_isCalibre.f (n0 : Int) : Option Bool := impl_isCalibre.fn NN n0
end
end Go.Pl

namespace Go.Pl
open Go.Ev
set_option linter.unusedVariables false
noncomputable section
def impl_IsPermit.g4 (L4 : Int → (Int × Int × Int × Int × List Int × Int) → Option Bool) (i3 : Int) (p1 : Int × Int × Int × Int × List Int × Int) : Option Bool :=
  if (decide ((i3 : Int) < (p1.2.2.2.2.1.length : Int))) = true then
    if (0 : Int) ≤ (IntKind.i64.wrap (i3 - 1)) ∧ ((IntKind.i64.wrap (i3 - 1)) : Int) < p1.2.2.2.2.1.length then
      if (0 : Int) ≤ i3 ∧ (i3 : Int) < p1.2.2.2.2.1.length then
        if (decide (((p1.2.2.2.2.1.getD (i3 : Int).toNat 0) : Int) ≤ (p1.2.2.2.2.1.getD ((IntKind.i64.wrap (i3 - 1)) : Int).toNat 0))) = true then
          some false
        else
          L4 (IntKind.i64.wrap (i3 + 1)) p1
      else
        none
    else
      none
  else
    some true
def impl_IsPermit.l4 (n : Nat) : Nat → Int → (Int × Int × Int × Int × List Int × Int) → Option Bool
  | 0 => fun _ _ => none
  | k + 1 => impl_IsPermit.g4 (impl_IsPermit.l4 n k)
def impl_IsPermit.top (I4 : Int → (Int × Int × Int × Int × List Int × Int) → Option Bool) (p0 : Int × Int × Int × Int × List Int × Int) : Option Bool :=
  (impl_isDay.f p0.1).bind fun r1 =>
  if (!r1) = false then
    (impl_isDay.f p0.2.1).bind fun r2 =>
    if (!r2) = false then
      if (decide ((p0.2.1 : Int) < p0.1)) = false then
        (impl_within.f p0.2.2.1 0 1000000000).bind fun r3 =>
        if (!r3) = false then
          (impl_isCalibre.f p0.2.2.2.1).bind fun r4 =>
          if (!r4) = false then
            (impl_within.f p0.2.2.2.2.2 0 3).bind fun r5 =>
            if (!r5) = false then
              (impl_allWithin.f p0.2.2.2.2.1 0 3).bind fun r6 =>
              if (!r6) = true then
                some false
              else
                I4 1 p0
            else
              some false
          else
            some false
        else
          some false
      else
        some false
    else
      some false
  else
    some false
def impl_IsPermit.fn (n : Nat) (p0 : Int × Int × Int × Int × List Int × Int) : Option Bool := impl_IsPermit.top (impl_IsPermit.l4 n n) p0
def impl_IsPermit.f (p0 : Int × Int × Int × Int × List Int × Int) : Option Bool := impl_IsPermit.fn NN p0
end
end Go.Pl

namespace Go.Pl
open Go.Ev
set_option linter.unusedVariables false
set_option linter.unusedSimpArgs false
theorem impl_isDay_f (n : Int) : impl_isDay.f n = some (inB n 0 100000) := by
  unfold impl_isDay.f impl_isDay.fn impl_isDay.top
  rw [impl_within_f]; rfl
theorem impl_isCalibre_f (n : Int) : impl_isCalibre.f n = some (inB n 20 300) := by
  unfold impl_isCalibre.f impl_isCalibre.fn impl_isCalibre.top
  rw [impl_within_f]; rfl
theorem impl_allWithin_f (xs : List Int) (lo hi : Int) (h : xs.length ≤ 140737488355328) : impl_allWithin.f xs lo hi = some (xs.all (inB · lo hi)) := by
  have := all_loop (E := fun _ => True) (inB · lo hi) (fun _ => some true) (fun k xs i => impl_allWithin.l2 NN k lo hi xs xs.length i) ?_ ?_ xs (fun _ _ => trivial) h NN (NN_lt (by omega))
  · unfold impl_allWithin.f impl_allWithin.fn impl_allWithin.top
    refine this.trans ?_
    cases xs.all (inB · lo hi) <;> simp
  · intro k p
    simp [impl_allWithin.l2, impl_allWithin.g2]
  · intro k p a r _ c0 c1 cw
    simp only [impl_allWithin.l2, impl_allWithin.g2, c0, c1, cw, and_self, and_true, true_and, decide_true, decide_false, if_true, if_false, mid_get, mid_set, mid_getn, mid_setn, bt_mid, Option.bind_some, Bool.not_true, Bool.not_false, Bool.false_eq_true, Bool.true_eq_false, beq_self_eq_true, bne_self_eq_false, Int.toNat_natCast, impl_within_f]
    cases inB a lo hi <;> simp
/-- strictly rising -/
def risB : List Int → Bool
  | [] => true
  | [_] => true
  | a :: b :: r => decide (a < b) && risB (b :: r)
theorem risB_snoc : ∀ (p : List Int) (a b : Int), risB (p ++ [a, b]) = (risB (p ++ [a]) && decide (a < b)) := by
  intro p
  induction p with
  | nil => intro a b; simp [risB]
  | cons x p ih =>
    intro a b
    cases p with
    | nil => simp [risB]
    | cons y p =>
      have := ih a b
      simp only [List.cons_append] at this ⊢
      simp only [risB, this, Bool.and_assoc]
/-- rises, looked at from its second element on -/
def risF : Int → List Int → Bool
  | _, [] => true
  | a, b :: r => decide (a < b) && risF b r
theorem risB_cons (a : Int) (r : List Int) : risB (a :: r) = risF a r := by
  induction r generalizing a with
  | nil => rfl
  | cons b r ih => simp only [risB, risF, ih]
theorem snoc_getl (p r : List Int) (x a z : Int) : (p ++ [x] ++ a :: r).getD p.length z = x := by simp
theorem impl_IsPermit_loop (f t n c g : Int) : ∀ (r p : List Int) (x : Int) (k : Nat), p.length + r.length + 1 ≤ 140737488355328 → r.length < k →
    impl_IsPermit.l4 NN k ((p.length : Int) + 1) (f, t, n, c, p ++ [x] ++ r, g) = some (risF x r) := by
  intro r
  induction r with
  | nil =>
    intro p x k _ hk
    obtain ⟨k, rfl⟩ : ∃ j, k = j + 1 := ⟨k - 1, by omega⟩
    simp [impl_IsPermit.l4, impl_IsPermit.g4, risF]
  | cons a r ih =>
    intro p x k hb hk
    simp only [List.length_cons] at hb hk
    obtain ⟨k, rfl⟩ : ∃ j, k = j + 1 := ⟨k - 1, by omega⟩
    have hl : ((p ++ [x] ++ a :: r).length : Int) = p.length + r.length + 2 := by simp; omega
    have w1 := w64 (n := (p.length : Int) + 1 - 1) (by omega) (by omega)
    have w2 := w64 (n := (p.length : Int) + 1 + 1) (by omega) (by omega)
    have c1 : (p.length : Int) + 1 < ((p ++ [x] ++ a :: r).length : Int) := by omega
    have c2 : (0 : Int) ≤ (p.length : Int) + 1 - 1 := by omega
    have c3 : (p.length : Int) + 1 - 1 < ((p ++ [x] ++ a :: r).length : Int) := by omega
    have c4 : (0 : Int) ≤ (p.length : Int) + 1 := by omega
    have g1 : (p ++ [x] ++ a :: r).getD ((p.length : Int) + 1).toNat 0 = a := by
      rw [show ((p.length : Int) + 1).toNat = (p ++ [x]).length by simp, mid_getn]
    have g2 : (p ++ [x] ++ a :: r).getD ((p.length : Int) + 1 - 1).toNat 0 = x := by
      rw [show ((p.length : Int) + 1 - 1).toNat = p.length by omega, snoc_getl]
    simp only [impl_IsPermit.l4, impl_IsPermit.g4, w1, w2, c1, c2, c3, c4, g1, g2, and_self, decide_true, if_true, decide_eq_true_eq, risF]
    have := ih (p ++ [x]) a k (by simp; omega) (by omega)
    by_cases h : a ≤ x
    · have h' : ¬ x < a := by omega
      simp [h, h']
    · have h' : x < a := by omega
      simp only [h, h', if_false, decide_true, Bool.true_and]
      rw [← this]
      simp
theorem spec_l01Rises_loop (n : Int) (hn : Rg .i64 (n - 1)) : ∀ (r p : List Int) (x : Int) (k : Nat), p.length + r.length + 1 ≤ 140737488355328 → r.length < k →
    spec_l01Rises.l2 NN k (p ++ [x] ++ r) n ((p.length : Int) + 1) = some (r.all (inB · 0 (n - 1)) && risF x r) := by
  intro r
  induction r with
  | nil =>
    intro p x k _ hk
    obtain ⟨k, rfl⟩ : ∃ j, k = j + 1 := ⟨k - 1, by omega⟩
    simp [spec_l01Rises.l2, spec_l01Rises.g2, risF]
  | cons a r ih =>
    intro p x k hb hk
    simp only [List.length_cons] at hb hk
    obtain ⟨k, rfl⟩ : ∃ j, k = j + 1 := ⟨k - 1, by omega⟩
    have hl : ((p ++ [x] ++ a :: r).length : Int) = p.length + r.length + 2 := by simp; omega
    have w1 := w64 (n := (p.length : Int) + 1 - 1) (by omega) (by omega)
    have w2 := w64 (n := (p.length : Int) + 1 + 1) (by omega) (by omega)
    have hn' := wf64.1 hn
    have w3 := w64 (n := n - 1) (by omega) (by omega)
    have c1 : (p.length : Int) + 1 < ((p ++ [x] ++ a :: r).length : Int) := by omega
    have c2 : (0 : Int) ≤ (p.length : Int) + 1 - 1 := by omega
    have c3 : (p.length : Int) + 1 - 1 < ((p ++ [x] ++ a :: r).length : Int) := by omega
    have c4 : (0 : Int) ≤ (p.length : Int) + 1 := by omega
    have c5 : (0 : Int) < (p.length : Int) + 1 := by omega
    have g1 : (p ++ [x] ++ a :: r).getD ((p.length : Int) + 1).toNat 0 = a := by
      rw [show ((p.length : Int) + 1).toNat = (p ++ [x]).length by simp, mid_getn]
    have g2 : (p ++ [x] ++ a :: r).getD ((p.length : Int) + 1 - 1).toNat 0 = x := by
      rw [show ((p.length : Int) + 1 - 1).toNat = p.length by omega, snoc_getl]
    simp only [spec_l01Rises.l2, spec_l01Rises.g2, w1, w2, w3, c1, c2, c3, c4, c5, g1, g2, and_self, decide_true, if_true, decide_eq_true_eq, risF, spec_l01In_f, Option.bind_some, List.all_cons]
    have := ih (p ++ [x]) a k (by simp; omega) (by omega)
    cases h0 : inB a 0 (n - 1)
    · simp
    by_cases h : a ≤ x
    · have h' : ¬ x < a := by omega
      simp [h, h']
    · have h' : x < a := by omega
      simp only [h, h', if_false, decide_true, Bool.true_and, Bool.not_true, if_true]
      rw [← this]
      simp
theorem spec_l01Rises_f (xs : List Int) (n : Int) (hn : Rg .i64 (n - 1)) (h : xs.length ≤ 140737488355328) : spec_l01Rises.f xs n = some (xs.all (inB · 0 (n - 1)) && risB xs) := by
  unfold spec_l01Rises.f spec_l01Rises.fn spec_l01Rises.top
  obtain ⟨k, hk⟩ : ∃ j, NN = j + 1 := ⟨NN - 1, by have := NNb; omega⟩
  have hkb : 1000000000000000 < k := by rw [NN_eq] at hk; omega
  cases xs with
  | nil => rw [show spec_l01Rises.l2 NN NN = spec_l01Rises.l2 NN (k + 1) by rw [← hk]]; simp [spec_l01Rises.l2, spec_l01Rises.g2, risB]
  | cons a r =>
    simp only [List.length_cons] at h
    have hl := spec_l01Rises_loop n hn r [] a k (by simp; omega) (by omega)
    have hn' := wf64.1 hn
    have w3 := w64 (n := n - 1) (by omega) (by omega)
    have w1 := w64 (n := 0 + 1) (by omega) (by omega)
    have c1 : (0 : Int) < ((a :: r).length : Int) := by simp only [List.length_cons]; omega
    rw [show spec_l01Rises.l2 NN NN = spec_l01Rises.l2 NN (k + 1) by rw [← hk]]
    simp only [spec_l01Rises.l2, spec_l01Rises.g2, c1, w1, w3, spec_l01In_f]
    simp at hl
    simp [risB_cons, hl]
    cases inB a 0 (n - 1) <;> simp
def permB (p : Int × Int × Int × Int × List Int × Int) : Bool :=
  inB p.1 0 100000 && inB p.2.1 p.1 100000 && inB p.2.2.1 0 1000000000 && inB p.2.2.2.1 20 300 && (p.2.2.2.2.1.all (inB · 0 3) && risB p.2.2.2.2.1) && inB p.2.2.2.2.2 0 3
theorem spec_IsPermit_f (p : Int × Int × Int × Int × List Int × Int) (h : p.2.2.2.2.1.length ≤ 140737488355328) : spec_IsPermit.f p = some (permB p) := by
  unfold spec_IsPermit.f spec_IsPermit.fn spec_IsPermit.top permB
  simp only [spec_l01In_f, spec_l01Rises_f _ 4 (wf64.2 (by omega)) h, Option.bind_some, show (4 : Int) - 1 = 3 from rfl]
  cases inB p.1 0 100000 <;> cases inB p.2.1 p.1 100000 <;> cases inB p.2.2.1 0 1000000000 <;> cases inB p.2.2.2.1 20 300 <;> cases (p.2.2.2.2.1.all (inB · 0 3)) <;> cases risB p.2.2.2.2.1 <;> cases inB p.2.2.2.2.2 0 3 <;> rfl
theorem impl_IsPermit_f (p : Int × Int × Int × Int × List Int × Int) (h : p.2.2.2.2.1.length ≤ 140737488355328) : impl_IsPermit.f p = some (permB p) := by
  unfold impl_IsPermit.f impl_IsPermit.fn impl_IsPermit.top permB
  obtain ⟨f, t, n, c, ks, g⟩ := p
  simp only at h
  have hl : impl_IsPermit.l4 NN NN 1 (f, t, n, c, ks, g) = some (risB ks) := by
    cases ks with
    | nil =>
      obtain ⟨k, hk⟩ : ∃ j, NN = j + 1 := ⟨NN - 1, by have := NNb; omega⟩
      rw [show impl_IsPermit.l4 NN NN = impl_IsPermit.l4 NN (k + 1) by rw [← hk]]
      simp [impl_IsPermit.l4, impl_IsPermit.g4, risB]
    | cons a r =>
      simp only [List.length_cons] at h
      have := impl_IsPermit_loop f t n c g r [] a NN (by simp; omega) (NN_lt (by omega))
      simp at this
      rw [risB_cons, ← this]
  simp only [impl_isDay_f, impl_isCalibre_f, impl_within_f, impl_allWithin_f _ _ _ h, Option.bind_some, hl]
  have e : (inB f 0 100000 && inB t f 100000) = (inB f 0 100000 && inB t 0 100000 && !decide (t < f)) := by
    unfold inB
    by_cases h1 : 0 ≤ f <;> by_cases h2 : f ≤ 100000 <;> by_cases h3 : t ≤ 100000 <;> by_cases h4 : f ≤ t <;> by_cases h5 : 0 ≤ t <;> simp [h1, h2, h3, h4, h5] <;> omega
  rw [e]
  cases inB f 0 100000 <;> cases inB t 0 100000 <;> cases decide (t < f) <;> cases inB n 0 1000000000 <;> cases inB c 20 300 <;> cases (ks.all (inB · 0 3)) <;> cases inB g 0 3 <;> simp
theorem IsPermit_core (p : Int × Int × Int × Int × List Int × Int) (h : OkPermit p) : ∃ w, spec_IsPermit.f p = some w ∧ impl_IsPermit.f p = some w ∧ True :=
  have h1 : p.2.2.2.2.1.length ≤ 140737488355328 := Nat.le_trans h.2.2.2.2.1.1 (by omega)
  ⟨_, spec_IsPermit_f p h1, impl_IsPermit_f p h1, trivial⟩
end Go.Pl

namespace Go.Pl
open Go.Ev
set_option linter.unusedVariables false
noncomputable section
def impl_areLines.g4 (L4 : (List (ByteArray × Int)) → (List (ByteArray × Int)) → Int → Int → Option Bool) (lines0 : List (ByteArray × Int)) (v8 : List (ByteArray × Int)) (v9 : Int) (v10 : Int) : Option Bool :=
  if (decide ((v10 : Int) < v9)) = true then
    if (0 : Int) ≤ v10 ∧ (v10 : Int) < v8.length then
      (impl_IsWord.f ((v8.getD (v10 : Int).toNat (ByteArray.empty, 0)).1)).bind fun r1 =>
      if (!r1) = false then
        (impl_within.f ((v8.getD (v10 : Int).toNat (ByteArray.empty, 0)).2) 1 1000).bind fun r2 =>
        if (!r2) = false then
          if (decide ((0 : Int) < v10)) = true then
            if (0 : Int) ≤ (IntKind.i64.wrap (v10 - 1)) ∧ ((IntKind.i64.wrap (v10 - 1)) : Int) < lines0.length then
              if (!(Op.bytesLess ((lines0.getD ((IntKind.i64.wrap (v10 - 1)) : Int).toNat (ByteArray.empty, 0)).1).toList ((v8.getD (v10 : Int).toNat (ByteArray.empty, 0)).1).toList)) = true then
                some false
              else
                L4 lines0 v8 v9 (IntKind.i64.wrap (v10 + 1))
            else
              none
          else
            L4 lines0 v8 v9 (IntKind.i64.wrap (v10 + 1))
        else
          some false
      else
        some false
    else
      none
  else
    some true
def impl_areLines.l4 (n : Nat) : Nat → (List (ByteArray × Int)) → (List (ByteArray × Int)) → Int → Int → Option Bool
  | 0 => fun _ _ _ _ => none
  | k + 1 => impl_areLines.g4 (impl_areLines.l4 n k)
def impl_areLines.top (I4 : (List (ByteArray × Int)) → (List (ByteArray × Int)) → Int → Int → Option Bool) (lines0 : List (ByteArray × Int)) : Option Bool :=
  if (decide ((12 : Int) < (lines0.length : Int))) = true then
    some false
  else
    I4 lines0 lines0 (lines0.length : Int) 0
def impl_areLines.fn (n : Nat) (lines0 : List (ByteArray × Int)) : Option Bool := impl_areLines.top (impl_areLines.l4 n n) lines0
def impl_areLines.f (lines0 : List (ByteArray × Int)) : Option Bool := impl_areLines.fn NN lines0
end
end Go.Pl

namespace Go.Pl
open Go.Ev
set_option linter.unusedVariables false
noncomputable section
def impl_IsPaper.top (p0 : ByteArray × Int × List (ByteArray × Int)) : Option Bool :=
  (impl_IsWord.f p0.1).bind fun r1 =>
  if r1 = true then
    (impl_isDay.f p0.2.1).bind fun r2 =>
    if r2 = true then
      (impl_areLines.f p0.2.2).bind fun r3 =>
      some r3
    else
      some false
  else
    some false
def impl_IsPaper.fn (n : Nat) (p0 : ByteArray × Int × List (ByteArray × Int)) : Option Bool := impl_IsPaper.top p0
def impl_IsPaper.f (p0 : ByteArray × Int × List (ByteArray × Int)) : Option Bool := impl_IsPaper.fn NN p0
end
end Go.Pl

namespace Go.Pl
open Go.Ev
set_option linter.unusedVariables false
noncomputable section
def spec_IsPaper.g2 (L2 : Int → (ByteArray × Int × List (ByteArray × Int)) → Option Bool) (i3 : Int) (p1 : ByteArray × Int × List (ByteArray × Int)) : Option Bool :=
  if (decide ((i3 : Int) < (p1.2.2.length : Int))) = true then
    if (0 : Int) ≤ i3 ∧ (i3 : Int) < p1.2.2.length then
      (spec_IsWord.f ((p1.2.2.getD (i3 : Int).toNat (ByteArray.empty, 0)).1)).bind fun r1 =>
      if (!r1) = false then
        if (0 : Int) ≤ i3 ∧ (i3 : Int) < p1.2.2.length then
          (spec_l01In.f ((p1.2.2.getD (i3 : Int).toNat (ByteArray.empty, 0)).2) 1 1000).bind fun r2 =>
          if (!r2) = false then
            if (decide ((0 : Int) < i3)) = true then
              if (0 : Int) ≤ (IntKind.i64.wrap (i3 - 1)) ∧ ((IntKind.i64.wrap (i3 - 1)) : Int) < p1.2.2.length then
                if (0 : Int) ≤ i3 ∧ (i3 : Int) < p1.2.2.length then
                  if (!(Op.bytesLess ((p1.2.2.getD ((IntKind.i64.wrap (i3 - 1)) : Int).toNat (ByteArray.empty, 0)).1).toList ((p1.2.2.getD (i3 : Int).toNat (ByteArray.empty, 0)).1).toList)) = true then
                    some false
                  else
                    L2 (IntKind.i64.wrap (i3 + 1)) p1
                else
                  none
              else
                none
            else
              L2 (IntKind.i64.wrap (i3 + 1)) p1
          else
            some false
        else
          none
      else
        some false
    else
      none
  else
    (spec_IsWord.f p1.1).bind fun r3 =>
    if r3 = true then
      (spec_l01In.f p1.2.1 0 100000).bind fun r4 =>
      if r4 = true then
        some (decide (((p1.2.2.length : Int) : Int) ≤ 12))
      else
        some false
    else
      some false
def spec_IsPaper.l2 (n : Nat) : Nat → Int → (ByteArray × Int × List (ByteArray × Int)) → Option Bool
  | 0 => fun _ _ => none
  | k + 1 => spec_IsPaper.g2 (spec_IsPaper.l2 n k)
def spec_IsPaper.top (I2 : Int → (ByteArray × Int × List (ByteArray × Int)) → Option Bool) (p0 : ByteArray × Int × List (ByteArray × Int)) : Option Bool :=
  I2 0 p0
def spec_IsPaper.fn (n : Nat) (p0 : ByteArray × Int × List (ByteArray × Int)) : Option Bool := spec_IsPaper.top (spec_IsPaper.l2 n n) p0
def spec_IsPaper.f (p0 : ByteArray × Int × List (ByteArray × Int)) : Option Bool := spec_IsPaper.fn NN p0
end
end Go.Pl

namespace Go.Pl
open Go.Ev
set_option linter.unusedVariables false
noncomputable section
def impl_countIn.g2 (L2 : ByteArray → (List (ByteArray × Int)) → Int → Int → Option Int) (article1 : ByteArray) (v7 : List (ByteArray × Int)) (v8 : Int) (v9 : Int) : Option Int :=
  if (decide ((v9 : Int) < v8)) = true then
    if (0 : Int) ≤ v9 ∧ (v9 : Int) < v7.length then
      if (((v7.getD (v9 : Int).toNat (ByteArray.empty, 0)).1).toList == article1.toList) = true then
        some ((v7.getD (v9 : Int).toNat (ByteArray.empty, 0)).2)
      else
        L2 article1 v7 v8 (IntKind.i64.wrap (v9 + 1))
    else
      none
  else
    some 0
def impl_countIn.l2 (n : Nat) : Nat → ByteArray → (List (ByteArray × Int)) → Int → Int → Option Int
  | 0 => fun _ _ _ _ => none
  | k + 1 => impl_countIn.g2 (impl_countIn.l2 n k)
def impl_countIn.top (I2 : ByteArray → (List (ByteArray × Int)) → Int → Int → Option Int) (lines0 : List (ByteArray × Int)) (article1 : ByteArray) : Option Int :=
  I2 article1 lines0 (lines0.length : Int) 0
def impl_countIn.fn (n : Nat) (lines0 : List (ByteArray × Int)) (article1 : ByteArray) : Option Int := impl_countIn.top (impl_countIn.l2 n n) lines0 article1
def impl_countIn.f (lines0 : List (ByteArray × Int)) (article1 : ByteArray) : Option Int := impl_countIn.fn NN lines0 article1
end
end Go.Pl

namespace Go.Pl
open Go.Ev
set_option linter.unusedVariables false
noncomputable section
def spec_l29Find.g2 (L2 : ByteArray → Int → (ByteArray × Int × List (ByteArray × Int)) → Option Int) (article1 : ByteArray) (i5 : Int) (p2 : ByteArray × Int × List (ByteArray × Int)) : Option Int :=
  if (decide ((i5 : Int) < (p2.2.2.length : Int))) = true then
    if (0 : Int) ≤ i5 ∧ (i5 : Int) < p2.2.2.length then
      if (((p2.2.2.getD (i5 : Int).toNat (ByteArray.empty, 0)).1).toList == article1.toList) = true then
        some i5
      else
        L2 article1 (IntKind.i64.wrap (i5 + 1)) p2
    else
      none
  else
    some (-1)
def spec_l29Find.l2 (n : Nat) : Nat → ByteArray → Int → (ByteArray × Int × List (ByteArray × Int)) → Option Int
  | 0 => fun _ _ _ => none
  | k + 1 => spec_l29Find.g2 (spec_l29Find.l2 n k)
def spec_l29Find.top (I2 : ByteArray → Int → (ByteArray × Int × List (ByteArray × Int)) → Option Int) (p0 : ByteArray × Int × List (ByteArray × Int)) (article1 : ByteArray) : Option Int :=
  I2 article1 0 p0
def spec_l29Find.fn (n : Nat) (p0 : ByteArray × Int × List (ByteArray × Int)) (article1 : ByteArray) : Option Int := spec_l29Find.top (spec_l29Find.l2 n n) p0 article1
def spec_l29Find.f (p0 : ByteArray × Int × List (ByteArray × Int)) (article1 : ByteArray) : Option Int := spec_l29Find.fn NN p0 article1
end
end Go.Pl

namespace Go.Pl
open Go.Ev
set_option linter.unusedVariables false
set_option linter.unusedSimpArgs false
def ltS (a b : ByteArray) : Bool := Op.bytesLess a.toList b.toList
def lineOk (l : ByteArray × Int) : Bool := wordB l.1 && inB l.2 1 1000
/-- lines behind another one -/
def linesF : ByteArray × Int → List (ByteArray × Int) → Bool
  | _, [] => true
  | x, a :: r => lineOk a && ltS x.1 a.1 && linesF a r
def linesL : List (ByteArray × Int) → Bool
  | [] => true
  | a :: r => lineOk a && linesF a r
def linesB (l : List (ByteArray × Int)) : Bool := decide (l.length ≤ 12) && linesL l
def paperB (p : ByteArray × Int × List (ByteArray × Int)) : Bool := wordB p.1 && inB p.2.1 0 100000 && linesB p.2.2
theorem snoc_getl' {α : Type} (p r : List α) (x a z : α) : (p ++ [x] ++ a :: r).getD p.length z = x := by simp
theorem impl_areLines_l : ∀ (r p : List (ByteArray × Int)) (x : ByteArray × Int) (k : Nat), p.length + r.length + 1 ≤ 1000000 → r.length < k → (∀ l ∈ r, Sz l.1) →
    impl_areLines.l4 NN k (p ++ [x] ++ r) (p ++ [x] ++ r) (p ++ [x] ++ r).length ((p.length : Int) + 1) = some (linesF x r) := by
  intro r
  induction r with
  | nil =>
    intro p x k _ hk _
    obtain ⟨k, rfl⟩ : ∃ j, k = j + 1 := ⟨k - 1, by omega⟩
    simp [impl_areLines.l4, impl_areLines.g4, linesF]
  | cons a r ih =>
    intro p x k hb hk hs
    simp only [List.length_cons] at hb hk
    obtain ⟨k, rfl⟩ : ∃ j, k = j + 1 := ⟨k - 1, by omega⟩
    have hl : ((p ++ [x] ++ a :: r).length : Int) = p.length + r.length + 2 := by simp; omega
    have w1 := w64 (n := (p.length : Int) + 1 - 1) (by omega) (by omega)
    have w2 := w64 (n := (p.length : Int) + 1 + 1) (by omega) (by omega)
    have c1 : (p.length : Int) + 1 < ((p ++ [x] ++ a :: r).length : Int) := by omega
    have c2 : (0 : Int) ≤ (p.length : Int) + 1 - 1 := by omega
    have c3 : (p.length : Int) + 1 - 1 < ((p ++ [x] ++ a :: r).length : Int) := by omega
    have c4 : (0 : Int) ≤ (p.length : Int) + 1 := by omega
    have c5 : (0 : Int) < (p.length : Int) + 1 := by omega
    have g1 : ∀ z, (p ++ [x] ++ a :: r).getD ((p.length : Int) + 1).toNat z = a := fun z => by
      rw [show ((p.length : Int) + 1).toNat = (p ++ [x]).length by simp, mid_getn]
    have g2 : ∀ z, (p ++ [x] ++ a :: r).getD ((p.length : Int) + 1 - 1).toNat z = x := fun z => by
      rw [show ((p.length : Int) + 1 - 1).toNat = p.length by omega, snoc_getl']
    have := ih (p ++ [x]) a k (by simp; omega) (by omega) (fun l h => hs l (by simp [h]))
    simp only [impl_areLines.l4, impl_areLines.g4, w1, w2, c1, c2, c3, c4, c5, g1, g2, and_self, and_true, true_and, decide_true, decide_false, if_true, if_false, mid_get, mid_set, mid_getn, mid_setn, bt_mid, Option.bind_some, Bool.not_true, Bool.not_false, Bool.false_eq_true, Bool.true_eq_false, beq_self_eq_true, bne_self_eq_false, Int.toNat_natCast, impl_IsWord_f _ (hs a (by simp)), impl_within_f, linesF, lineOk]
    cases wordB a.1
    · simp
    cases inB a.2 1 1000
    · simp
    show (if (!ltS x.1 a.1) = true then _ else _) = _
    cases ltS x.1 a.1
    · simp
    · simp only [and_self, and_true, true_and, decide_true, decide_false, if_true, if_false, mid_get, mid_set, mid_getn, mid_setn, bt_mid, Option.bind_some, Bool.not_true, Bool.not_false, Bool.false_eq_true, Bool.true_eq_false, beq_self_eq_true, bne_self_eq_false, Int.toNat_natCast, Bool.true_and]
      rw [← this]
      simp
theorem impl_areLines_f (xs : List (ByteArray × Int)) (h : Lm OkLine xs) : impl_areLines.f xs = some (linesB xs) := by
  unfold impl_areLines.f impl_areLines.fn impl_areLines.top linesB
  have hl := h.1
  by_cases h12 : (12 : Int) < (xs.length : Int)
  · have : ¬ xs.length ≤ 12 := by omega
    simp [h12, this]
  have e12 : xs.length ≤ 12 := by omega
  simp only [h12, e12, and_self, and_true, true_and, decide_true, decide_false, if_true, if_false, mid_get, mid_set, mid_getn, mid_setn, bt_mid, Option.bind_some, Bool.not_true, Bool.not_false, Bool.false_eq_true, Bool.true_eq_false, beq_self_eq_true, bne_self_eq_false, Int.toNat_natCast]
  obtain ⟨k, hk⟩ : ∃ j, NN = j + 1 := ⟨NN - 1, by have := NNb; omega⟩
  have hkb : 1000000000000000 < k := by rw [NN_eq] at hk; omega
  rw [show impl_areLines.l4 NN NN = impl_areLines.l4 NN (k + 1) by rw [← hk]]
  cases xs with
  | nil => simp [impl_areLines.l4, impl_areLines.g4, linesL]
  | cons a r =>
    simp only [List.length_cons] at hl
    have := impl_areLines_l r [] a k (by simp; omega) (by omega) (fun l hl => Nat.le_trans (h.2 l (by simp [hl])).1 (by omega))
    have w2 := w64 (n := 0 + 1) (by omega) (by omega)
    have c1 : (0 : Int) < ((a :: r).length : Int) := by simp only [List.length_cons]; omega
    simp only [impl_areLines.l4, impl_areLines.g4, c1, w2, and_self, and_true, true_and, decide_true, decide_false, if_true, if_false, mid_get, mid_set, mid_getn, mid_setn, bt_mid, Option.bind_some, Bool.not_true, Bool.not_false, Bool.false_eq_true, Bool.true_eq_false, beq_self_eq_true, bne_self_eq_false, Int.toNat_natCast, Int.le_refl, impl_IsWord_f _ (Nat.le_trans (h.2 a (by simp)).1 (show 1000000 ≤ 140737488355328 by omega)), impl_within_f, linesL, lineOk, List.getD_cons_zero, Int.toNat_zero]
    simp at this
    cases wordB a.1
    · simp
    cases inB a.2 1 1000
    · simp
    simp [this]
theorem impl_IsPaper_f (p : ByteArray × Int × List (ByteArray × Int)) (h : OkPaper p) : impl_IsPaper.f p = some (paperB p) := by
  unfold impl_IsPaper.f impl_IsPaper.fn impl_IsPaper.top paperB
  rw [impl_IsWord_f _ (Nat.le_trans h.1 (by omega)), impl_isDay_f, impl_areLines_f _ h.2.2]
  cases wordB p.1 <;> cases inB p.2.1 0 100000 <;> rfl
theorem spec_IsPaper_l (v : ByteArray) (d : Int) (hv : Sz v) : ∀ (r p : List (ByteArray × Int)) (x : ByteArray × Int) (k : Nat), p.length + r.length + 1 ≤ 1000000 → r.length < k → (∀ l ∈ r, Sz l.1) →
    spec_IsPaper.l2 NN k ((p.length : Int) + 1) (v, d, p ++ [x] ++ r) = some (linesF x r && (wordB v && inB d 0 100000 && decide ((p ++ [x] ++ r).length ≤ 12))) := by
  intro r
  induction r with
  | nil =>
    intro p x k hb hk _
    obtain ⟨k, rfl⟩ : ∃ j, k = j + 1 := ⟨k - 1, by omega⟩
    have e : decide (((p ++ [x]).length : Int) ≤ 12) = decide ((p ++ [x]).length ≤ 12) := by congr 1; exact propext (by omega)
    have c1 : ¬ (p.length : Int) + 1 < ((p ++ [x]).length : Int) := by simp
    simp only [spec_IsPaper.l2, spec_IsPaper.g2, List.append_nil, c1, and_self, and_true, true_and, decide_true, decide_false, if_true, if_false, mid_get, mid_set, mid_getn, mid_setn, bt_mid, Option.bind_some, Bool.not_true, Bool.not_false, Bool.false_eq_true, Bool.true_eq_false, beq_self_eq_true, bne_self_eq_false, Int.toNat_natCast, spec_IsWord_f v hv, spec_l01In_f, linesF, e]
    cases wordB v <;> cases inB d 0 100000 <;> rfl
  | cons a r ih =>
    intro p x k hb hk hs
    simp only [List.length_cons] at hb hk
    obtain ⟨k, rfl⟩ : ∃ j, k = j + 1 := ⟨k - 1, by omega⟩
    have hl : ((p ++ [x] ++ a :: r).length : Int) = p.length + r.length + 2 := by simp; omega
    have w1 := w64 (n := (p.length : Int) + 1 - 1) (by omega) (by omega)
    have w2 := w64 (n := (p.length : Int) + 1 + 1) (by omega) (by omega)
    have c1 : (p.length : Int) + 1 < ((p ++ [x] ++ a :: r).length : Int) := by omega
    have c2 : (0 : Int) ≤ (p.length : Int) + 1 - 1 := by omega
    have c3 : (p.length : Int) + 1 - 1 < ((p ++ [x] ++ a :: r).length : Int) := by omega
    have c4 : (0 : Int) ≤ (p.length : Int) + 1 := by omega
    have c5 : (0 : Int) < (p.length : Int) + 1 := by omega
    have g1 : ∀ z, (p ++ [x] ++ a :: r).getD ((p.length : Int) + 1).toNat z = a := fun z => by
      rw [show ((p.length : Int) + 1).toNat = (p ++ [x]).length by simp, mid_getn]
    have g2 : ∀ z, (p ++ [x] ++ a :: r).getD ((p.length : Int) + 1 - 1).toNat z = x := fun z => by
      rw [show ((p.length : Int) + 1 - 1).toNat = p.length by omega, snoc_getl']
    have := ih (p ++ [x]) a k (by simp; omega) (by omega) (fun l h => hs l (by simp [h]))
    rw [show p ++ [x] ++ [a] ++ r = p ++ [x] ++ a :: r by simp, snoc_len] at this
    simp only [spec_IsPaper.l2, spec_IsPaper.g2, w1, w2, c1, c2, c3, c4, c5, g1, g2, and_self, and_true, true_and, decide_true, decide_false, if_true, if_false, mid_get, mid_set, mid_getn, mid_setn, bt_mid, Option.bind_some, Bool.not_true, Bool.not_false, Bool.false_eq_true, Bool.true_eq_false, beq_self_eq_true, bne_self_eq_false, Int.toNat_natCast, spec_IsWord_f _ (hs a (by simp)), spec_l01In_f, linesF, lineOk, this]
    cases wordB a.1
    · simp
    cases inB a.2 1 1000
    · simp
    show (if (!ltS x.1 a.1) = true then _ else _) = _
    cases ltS x.1 a.1
    · simp
    · simp
theorem spec_IsPaper_f (p : ByteArray × Int × List (ByteArray × Int)) (h : OkPaper p) : spec_IsPaper.f p = some (paperB p) := by
  obtain ⟨v, d, xs⟩ := p
  unfold spec_IsPaper.f spec_IsPaper.fn spec_IsPaper.top paperB linesB
  have hl : xs.length ≤ 1000000 := h.2.2.1
  have hv : Sz v := Nat.le_trans h.1 (by omega)
  obtain ⟨k, hk⟩ : ∃ j, NN = j + 1 := ⟨NN - 1, by have := NNb; omega⟩
  have hkb : 1000000000000000 < k := by rw [NN_eq] at hk; omega
  rw [show spec_IsPaper.l2 NN NN = spec_IsPaper.l2 NN (k + 1) by rw [← hk]]
  cases xs with
  | nil =>
    simp only [spec_IsPaper.l2, spec_IsPaper.g2, spec_IsWord_f v hv, spec_l01In_f, linesL, and_self, and_true, true_and, decide_true, decide_false, if_true, if_false, mid_get, mid_set, mid_getn, mid_setn, bt_mid, Option.bind_some, Bool.not_true, Bool.not_false, Bool.false_eq_true, Bool.true_eq_false, beq_self_eq_true, bne_self_eq_false, Int.toNat_natCast]
    cases wordB v <;> cases inB d 0 100000 <;> rfl
  | cons a r =>
    simp only [List.length_cons] at hl
    have hxs : Lm OkLine (a :: r) := h.2.2
    have := spec_IsPaper_l v d hv r [] a k (by simp; omega) (by omega) (fun l hl => Nat.le_trans (hxs.2 l (by simp [hl])).1 (by omega))
    have w2 := w64 (n := 0 + 1) (by omega) (by omega)
    have c1 : (0 : Int) < ((a :: r).length : Int) := by simp only [List.length_cons]; omega
    simp only [List.nil_append, List.length_nil, List.cons_append] at this
    rw [show (((0 : Nat) : Int) + 1) = 0 + 1 from rfl] at this
    simp only [spec_IsPaper.l2, spec_IsPaper.g2, c1, w2, and_self, and_true, true_and, decide_true, decide_false, if_true, if_false, mid_get, mid_set, mid_getn, mid_setn, bt_mid, Option.bind_some, Bool.not_true, Bool.not_false, Bool.false_eq_true, Bool.true_eq_false, beq_self_eq_true, bne_self_eq_false, Int.toNat_natCast, Int.le_refl, spec_IsWord_f _ (Nat.le_trans (hxs.2 a (by simp)).1 (show 1000000 ≤ 140737488355328 by omega)), spec_l01In_f, linesL, lineOk, List.getD_cons_zero, Int.toNat_zero]
    cases wordB a.1
    · simp
    cases inB a.2 1 1000
    · simp
    simp only [Int.lt_irrefl, decide_false, and_self, and_true, true_and, decide_true, decide_false, if_true, if_false, mid_get, mid_set, mid_getn, mid_setn, bt_mid, Option.bind_some, Bool.not_true, Bool.not_false, Bool.false_eq_true, Bool.true_eq_false, beq_self_eq_true, bne_self_eq_false, Int.toNat_natCast]
    rw [this]
    cases linesF a r <;> cases wordB v <;> cases inB d 0 100000 <;> simp
/-- how many of an article -/
def cntL (a : ByteArray) : List (ByteArray × Int) → Int
  | [] => 0
  | l :: r => if l.1 = a then l.2 else cntL a r
theorem impl_countIn_f (xs : List (ByteArray × Int)) (a : ByteArray) (h : xs.length ≤ 1000000) : impl_countIn.f xs a = some (cntL a xs) := by
  have := find_loop (E := fun _ => True) (fun l : ByteArray × Int => decide (l.1 = a)) (fun _ l => some l.2) (fun _ => some 0) (fun k xs i => impl_countIn.l2 NN k a xs xs.length i) ?_ ?_ xs (fun _ _ => trivial) (by omega) NN (NN_lt (by omega))
  · refine this.trans ?_
    have key : ∀ (xs : List (ByteArray × Int)) (i : Nat), (firstOf (fun l : ByteArray × Int => decide (l.1 = a)) i xs).elim (some 0) (fun x => some x.2.2) = some (cntL a xs) := by
      intro xs
      induction xs with
      | nil => intro i; rfl
      | cons l r ih =>
        intro i
        by_cases h : l.1 = a
        · simp [firstOf, cntL, h]
        · simp only [firstOf, cntL, h, decide_false, Bool.false_eq_true, if_false]
          exact ih _
    exact key xs 0
  · intro k p
    simp [impl_countIn.l2, impl_countIn.g2]
  · intro k p l r _ c0 c1 c2 cw
    simp only [impl_countIn.l2, impl_countIn.g2, c0, c1, cw, and_self, and_true, true_and, decide_true, decide_false, if_true, if_false, mid_get, mid_set, mid_getn, mid_setn, bt_mid, Option.bind_some, Bool.not_true, Bool.not_false, Bool.false_eq_true, Bool.true_eq_false, beq_self_eq_true, bne_self_eq_false, Int.toNat_natCast, ba_beq]
theorem spec_l29Find_f (p : ByteArray × Int × List (ByteArray × Int)) (a : ByteArray) (h : p.2.2.length ≤ 1000000) : spec_l29Find.f p a = some ((firstOf (fun l : ByteArray × Int => decide (l.1 = a)) 0 p.2.2).elim (-1) (fun x => (x.1 : Int))) := by
  obtain ⟨v, d, xs⟩ := p
  have h : xs.length ≤ 1000000 := h
  have := find_loop (E := fun _ => True) (fun l : ByteArray × Int => decide (l.1 = a)) (fun i _ => some (i : Int)) (fun _ => some (-1)) (fun k xs i => spec_l29Find.l2 NN k a i (v, d, xs)) ?_ ?_ xs (fun _ _ => trivial) (by omega) NN (NN_lt (by omega))
  · refine this.trans ?_
    cases firstOf (fun l : ByteArray × Int => decide (l.1 = a)) 0 xs <;> rfl
  · intro k p
    simp [spec_l29Find.l2, spec_l29Find.g2]
  · intro k p l r _ c0 c1 c2 cw
    simp only [spec_l29Find.l2, spec_l29Find.g2, c0, c1, cw, and_self, and_true, true_and, decide_true, decide_false, if_true, if_false, mid_get, mid_set, mid_getn, mid_setn, bt_mid, Option.bind_some, Bool.not_true, Bool.not_false, Bool.false_eq_true, Bool.true_eq_false, beq_self_eq_true, bne_self_eq_false, Int.toNat_natCast, ba_beq]
/-- what is found: its number and its line -/
theorem firstOf_spec {α : Type} (P : α → Bool) : ∀ (xs : List α) (i j : Nat) (x : α), firstOf P i xs = some (j, x) → i ≤ j ∧ j < i + xs.length ∧ xs[j - i]? = some x ∧ P x = true := by
  intro xs
  induction xs with
  | nil => intro i j x h; cases h
  | cons a r ih =>
    intro i j x h
    simp only [firstOf] at h
    split at h
    · rename_i hp
      cases h
      refine ⟨by omega, by simp, by simp, hp⟩
    · obtain ⟨h1, h2, h3, h4⟩ := ih _ _ _ h
      refine ⟨by omega, by simp; omega, ?_, h4⟩
      rw [show j - i = (j - (i + 1)) + 1 by omega, List.getElem?_cons_succ]; exact h3
theorem cntL_first (a : ByteArray) : ∀ (xs : List (ByteArray × Int)) (i : Nat), cntL a xs = (firstOf (fun l : ByteArray × Int => decide (l.1 = a)) i xs).elim 0 (fun x => x.2.2) := by
  intro xs
  induction xs with
  | nil => intro i; rfl
  | cons l r ih =>
    intro i
    by_cases h : l.1 = a
    · simp [firstOf, cntL, h]
    · simp only [firstOf, cntL, h, decide_false, Bool.false_eq_true, if_false]
      exact ih _
theorem linesF_ok : ∀ (r : List (ByteArray × Int)) (x : ByteArray × Int), linesF x r = true → ∀ l ∈ r, lineOk l = true := by
  intro r
  induction r with
  | nil => intro x _ l hl; cases hl
  | cons a r ih =>
    intro x h l hl
    simp only [linesF, Bool.and_eq_true] at h
    rcases List.mem_cons.1 hl with rfl | hl
    · exact h.1.1
    · exact ih a h.2 l hl
theorem linesB_ok {xs : List (ByteArray × Int)} (h : linesB xs = true) : xs.length ≤ 12 ∧ ∀ l ∈ xs, lineOk l = true := by
  unfold linesB at h
  simp only [Bool.and_eq_true, decide_eq_true_eq] at h
  refine ⟨h.1, ?_⟩
  cases xs with
  | nil => intro l hl; cases hl
  | cons a r =>
    have h2 := h.2
    simp only [linesL, Bool.and_eq_true] at h2
    intro l hl
    rcases List.mem_cons.1 hl with rfl | hl
    · exact h2.1
    · exact linesF_ok r a h2.2 l hl
theorem lineOk_iff {l : ByteArray × Int} : lineOk l = true ↔ wordB l.1 = true ∧ 1 ≤ l.2 ∧ l.2 ≤ 1000 := by
  unfold lineOk; rw [Bool.and_eq_true, inB_iff]
theorem cntL_bd (a : ByteArray) : ∀ (xs : List (ByteArray × Int)), (∀ l ∈ xs, lineOk l = true) → 0 ≤ cntL a xs ∧ cntL a xs ≤ 1000 := by
  intro xs
  induction xs with
  | nil => intro _; simp [cntL]
  | cons l r ih =>
    intro h
    have h1 := lineOk_iff.1 (h l (by simp))
    have h2 := ih fun x hx => h x (by simp [hx])
    simp only [cntL]
    split <;> omega
end Go.Pl

namespace Go.Pl
open Go.Ev
set_option linter.unusedVariables false
noncomputable section
def impl_MissingLines.g5 (L5 : (List (ByteArray × Int)) → Int → Int → (ByteArray × Int × List (ByteArray × Int)) → (List (ByteArray × Int)) → Option ((List (ByteArray × Int)) × Int)) (v19 : List (ByteArray × Int)) (v20 : Int) (v21 : Int) (b3 : ByteArray × Int × List (ByteArray × Int)) (out6 : List (ByteArray × Int)) : Option ((List (ByteArray × Int)) × Int) :=
  if (decide ((v21 : Int) < v20)) = true then
    if (0 : Int) ≤ v21 ∧ (v21 : Int) < v19.length then
      (impl_countIn.f b3.2.2 ((v19.getD (v21 : Int).toNat (ByteArray.empty, 0)).1)).bind fun r3 =>
      if (decide ((0 : Int) < (IntKind.i64.wrap (((v19.getD (v21 : Int).toNat (ByteArray.empty, 0)).2) - r3)))) = true then
        if out6.length + ([((v19.getD (v21 : Int).toNat (ByteArray.empty, 0)).1, IntKind.i64.wrap (((v19.getD (v21 : Int).toNat (ByteArray.empty, 0)).2) - r3))]).length < room 24 then
          L5 v19 v20 (IntKind.i64.wrap (v21 + 1)) b3 (out6 ++ ([((v19.getD (v21 : Int).toNat (ByteArray.empty, 0)).1, IntKind.i64.wrap (((v19.getD (v21 : Int).toNat (ByteArray.empty, 0)).2) - r3))]))
        else
          none
      else
        L5 v19 v20 (IntKind.i64.wrap (v21 + 1)) b3 out6
    else
      none
  else
    some (out6, 0)
def impl_MissingLines.l5 (n : Nat) : Nat → (List (ByteArray × Int)) → Int → Int → (ByteArray × Int × List (ByteArray × Int)) → (List (ByteArray × Int)) → Option ((List (ByteArray × Int)) × Int)
  | 0 => fun _ _ _ _ _ => none
  | k + 1 => impl_MissingLines.g5 (impl_MissingLines.l5 n k)
def impl_MissingLines.top (I5 : (List (ByteArray × Int)) → Int → Int → (ByteArray × Int × List (ByteArray × Int)) → (List (ByteArray × Int)) → Option ((List (ByteArray × Int)) × Int)) (a0 : ByteArray × Int × List (ByteArray × Int)) (b1 : ByteArray × Int × List (ByteArray × Int)) : Option ((List (ByteArray × Int)) × Int) :=
  (impl_IsPaper.f a0).bind fun r1 =>
  if (!r1) = false then
    (impl_IsPaper.f b1).bind fun r2 =>
    if (!r2) = true then
      some ([], 1)
    else
      I5 a0.2.2 (a0.2.2.length : Int) 0 b1 []
  else
    some ([], 1)
def impl_MissingLines.fn (n : Nat) (a0 : ByteArray × Int × List (ByteArray × Int)) (b1 : ByteArray × Int × List (ByteArray × Int)) : Option ((List (ByteArray × Int)) × Int) := impl_MissingLines.top (impl_MissingLines.l5 n n) a0 b1
def impl_MissingLines.f (a0 : ByteArray × Int × List (ByteArray × Int)) (b1 : ByteArray × Int × List (ByteArray × Int)) : Option ((List (ByteArray × Int)) × Int) := impl_MissingLines.fn NN a0 b1
end
end Go.Pl

namespace Go.Pl
open Go.Ev
set_option linter.unusedVariables false
noncomputable section
def spec_MissingLines.g5 (L5 : Int → (ByteArray × Int × List (ByteArray × Int)) → (ByteArray × Int × List (ByteArray × Int)) → (List (ByteArray × Int)) → Option ((List (ByteArray × Int)) × Int)) (i7 : Int) (a2 : ByteArray × Int × List (ByteArray × Int)) (b3 : ByteArray × Int × List (ByteArray × Int)) (out6 : List (ByteArray × Int)) : Option ((List (ByteArray × Int)) × Int) :=
  if (decide ((i7 : Int) < (a2.2.2.length : Int))) = true then
    if (0 : Int) ≤ i7 ∧ (i7 : Int) < a2.2.2.length then
      if (0 : Int) ≤ i7 ∧ (i7 : Int) < a2.2.2.length then
        (spec_l29Find.f b3 ((a2.2.2.getD (i7 : Int).toNat (ByteArray.empty, 0)).1)).bind fun r3 =>
        if (decide ((0 : Int) ≤ r3)) = true then
          if (0 : Int) ≤ r3 ∧ (r3 : Int) < b3.2.2.length then
            if (decide ((0 : Int) < (IntKind.i64.wrap (((a2.2.2.getD (i7 : Int).toNat (ByteArray.empty, 0)).2) - ((b3.2.2.getD (r3 : Int).toNat (ByteArray.empty, 0)).2))))) = true then
              if (0 : Int) ≤ i7 ∧ (i7 : Int) < a2.2.2.length then
                if out6.length + ([((a2.2.2.getD (i7 : Int).toNat (ByteArray.empty, 0)).1, IntKind.i64.wrap (((a2.2.2.getD (i7 : Int).toNat (ByteArray.empty, 0)).2) - ((b3.2.2.getD (r3 : Int).toNat (ByteArray.empty, 0)).2)))]).length < room 24 then
                  L5 (IntKind.i64.wrap (i7 + 1)) a2 b3 (out6 ++ ([((a2.2.2.getD (i7 : Int).toNat (ByteArray.empty, 0)).1, IntKind.i64.wrap (((a2.2.2.getD (i7 : Int).toNat (ByteArray.empty, 0)).2) - ((b3.2.2.getD (r3 : Int).toNat (ByteArray.empty, 0)).2)))]))
                else
                  none
              else
                none
            else
              L5 (IntKind.i64.wrap (i7 + 1)) a2 b3 out6
          else
            none
        else if (decide ((0 : Int) < ((a2.2.2.getD (i7 : Int).toNat (ByteArray.empty, 0)).2))) = true then
          if (0 : Int) ≤ i7 ∧ (i7 : Int) < a2.2.2.length then
            if out6.length + ([((a2.2.2.getD (i7 : Int).toNat (ByteArray.empty, 0)).1, (a2.2.2.getD (i7 : Int).toNat (ByteArray.empty, 0)).2)]).length < room 24 then
              L5 (IntKind.i64.wrap (i7 + 1)) a2 b3 (out6 ++ ([((a2.2.2.getD (i7 : Int).toNat (ByteArray.empty, 0)).1, (a2.2.2.getD (i7 : Int).toNat (ByteArray.empty, 0)).2)]))
            else
              none
          else
            none
        else
          L5 (IntKind.i64.wrap (i7 + 1)) a2 b3 out6
      else
        none
    else
      none
  else
    some (out6, 0)
def spec_MissingLines.l5 (n : Nat) : Nat → Int → (ByteArray × Int × List (ByteArray × Int)) → (ByteArray × Int × List (ByteArray × Int)) → (List (ByteArray × Int)) → Option ((List (ByteArray × Int)) × Int)
  | 0 => fun _ _ _ _ => none
  | k + 1 => spec_MissingLines.g5 (spec_MissingLines.l5 n k)
def spec_MissingLines.top (I5 : Int → (ByteArray × Int × List (ByteArray × Int)) → (ByteArray × Int × List (ByteArray × Int)) → (List (ByteArray × Int)) → Option ((List (ByteArray × Int)) × Int)) (a0 : ByteArray × Int × List (ByteArray × Int)) (b1 : ByteArray × Int × List (ByteArray × Int)) : Option ((List (ByteArray × Int)) × Int) :=
  (spec_IsPaper.f a0).bind fun r1 =>
  if (!r1) = false then
    (spec_IsPaper.f b1).bind fun r2 =>
    if (!r2) = true then
      some ([], 1)
    else
      I5 0 a0 b1 []
  else
    some ([], 1)
def spec_MissingLines.fn (n : Nat) (a0 : ByteArray × Int × List (ByteArray × Int)) (b1 : ByteArray × Int × List (ByteArray × Int)) : Option ((List (ByteArray × Int)) × Int) := spec_MissingLines.top (spec_MissingLines.l5 n n) a0 b1
def spec_MissingLines.f (a0 : ByteArray × Int × List (ByteArray × Int)) (b1 : ByteArray × Int × List (ByteArray × Int)) : Option ((List (ByteArray × Int)) × Int) := spec_MissingLines.fn NN a0 b1
end
end Go.Pl

namespace Go.Pl
open Go.Ev
set_option linter.unusedVariables false
set_option linter.unusedSimpArgs false
def missF (bs : List (ByteArray × Int)) (out : List (ByteArray × Int)) (l : ByteArray × Int) : List (ByteArray × Int) := if 0 < l.2 - cntL l.1 bs then out ++ [(l.1, l.2 - cntL l.1 bs)] else out
def missL (ax bs : List (ByteArray × Int)) : List (ByteArray × Int) := ax.foldl (missF bs) []
theorem missF_ok (bs : List (ByteArray × Int)) (hb : ∀ l ∈ bs, lineOk l = true) (out : List (ByteArray × Int)) (l : ByteArray × Int) (hl : lineOk l = true) (n : Nat) (h : out.length ≤ n ∧ ∀ x ∈ out, lineOk x = true) : (missF bs out l).length ≤ n + 1 ∧ ∀ x ∈ missF bs out l, lineOk x = true := by
  have h1 := lineOk_iff.1 hl
  have h2 := cntL_bd l.1 bs hb
  unfold missF
  split
  · refine ⟨by simp; omega, fun x hx => ?_⟩
    rcases List.mem_append.1 hx with h3 | h3
    · exact h.2 x h3
    · rw [List.mem_singleton.1 h3]; exact lineOk_iff.2 ⟨h1.1, by simp only; omega, by simp only; omega⟩
  · exact ⟨by omega, h.2⟩
theorem room24' {α : Type} (out : List α) (x : α) (h : out.length ≤ 2000000) : out.length + [x].length < room 24 := by rw [room24]; simp; omega
theorem impl_Missing_l (v : ByteArray) (d : Int) (ax bs : List (ByteArray × Int)) (ha : ∀ l ∈ ax, lineOk l = true) (hb : ∀ l ∈ bs, lineOk l = true) (hla : ax.length ≤ 12) (hlb : bs.length ≤ 12) :
    ((missL ax bs).length ≤ ax.length ∧ ∀ x ∈ missL ax bs, lineOk x = true) ∧ impl_MissingLines.l5 NN NN ax ax.length 0 (v, d, bs) [] = some (missL ax bs, 0) := by
  have := fold_fix (E := fun l => lineOk l = true) (fun p st => st.length ≤ p.length ∧ ∀ x ∈ st, lineOk x = true) (fun _ => missF bs) (fun st => some (st, (0 : Int))) (fun k i st => impl_MissingLines.l5 NN k ax ax.length i (v, d, bs) st) ax ?_ ?_ [] ha ⟨by simp, by simp⟩ (by omega) NN (NN_lt (by omega))
  · rw [foldi_foldl] at this
    exact this
  · intro k st _
    simp [impl_MissingLines.l5, impl_MissingLines.g5]
  · intro k p l r st hx hl hI c0 c1 c2 cw g
    have h1 := lineOk_iff.1 hl
    have h2 := cntL_bd l.1 bs hb
    have e1 := w64 (n := l.2 - cntL l.1 bs) (by omega) (by omega)
    refine ⟨by rw [List.length_append, List.length_singleton]; exact missF_ok bs hb st l hl p.length hI, ?_⟩
    simp only [impl_MissingLines.l5, impl_MissingLines.g5, c0, c1, cw, and_self, and_true, true_and, decide_true, decide_false, if_true, if_false, mid_get, mid_set, mid_getn, mid_setn, bt_mid, Option.bind_some, Bool.not_true, Bool.not_false, Bool.false_eq_true, Bool.true_eq_false, beq_self_eq_true, bne_self_eq_false, Int.toNat_natCast, g, impl_countIn_f bs l.1 (by omega), e1, decide_eq_true_eq]
    unfold missF
    rw [if_pos (room24' st _ (by omega))]
    split <;> rfl
theorem spec_Missing_l (v w : ByteArray) (d e : Int) (ax bs : List (ByteArray × Int)) (ha : ∀ l ∈ ax, lineOk l = true) (hb : ∀ l ∈ bs, lineOk l = true) (hla : ax.length ≤ 12) (hlb : bs.length ≤ 12) :
    spec_MissingLines.l5 NN NN 0 (w, e, ax) (v, d, bs) [] = some (missL ax bs, 0) := by
  have := (fold_fix (E := fun l => lineOk l = true) (fun p st => st.length ≤ p.length ∧ ∀ x ∈ st, lineOk x = true) (fun _ => missF bs) (fun st => some (st, (0 : Int))) (fun k i st => spec_MissingLines.l5 NN k i (w, e, ax) (v, d, bs) st) ax ?_ ?_ [] ha ⟨by simp, by simp⟩ (by omega) NN (NN_lt (by omega))).2
  · rw [foldi_foldl] at this
    exact this
  · intro k st _
    simp [spec_MissingLines.l5, spec_MissingLines.g5]
  · intro k p l r st hx hl hI c0 c1 c2 cw g
    have h1 := lineOk_iff.1 hl
    have h2 := cntL_bd l.1 bs hb
    have e1 := w64 (n := l.2 - cntL l.1 bs) (by omega) (by omega)
    refine ⟨by rw [List.length_append, List.length_singleton]; exact missF_ok bs hb st l hl p.length hI, ?_⟩
    simp only [spec_MissingLines.l5, spec_MissingLines.g5, c0, c1, cw, and_self, and_true, true_and, decide_true, decide_false, if_true, if_false, mid_get, mid_set, mid_getn, mid_setn, bt_mid, Option.bind_some, Bool.not_true, Bool.not_false, Bool.false_eq_true, Bool.true_eq_false, beq_self_eq_true, bne_self_eq_false, Int.toNat_natCast, g]
    rw [spec_l29Find_f _ _ (by simp only; omega)]
    simp only [Option.bind_some]
    unfold missF
    have hc := cntL_first l.1 bs 0
    cases hf : firstOf (fun x : ByteArray × Int => decide (x.1 = l.1)) 0 bs with
    | none =>
      rw [hf] at hc
      simp only [Option.elim] at hc
      rw [hc]
      simp only [Option.elim, hf]
      have n1 : ¬ (0 : Int) ≤ -1 := by omega
      simp only [n1, and_self, and_true, true_and, decide_true, decide_false, if_true, if_false, mid_get, mid_set, mid_getn, mid_setn, bt_mid, Option.bind_some, Bool.not_true, Bool.not_false, Bool.false_eq_true, Bool.true_eq_false, beq_self_eq_true, bne_self_eq_false, Int.toNat_natCast, Int.sub_zero]
      rw [if_pos (room24' st _ (by omega))]
      simp only [decide_eq_true_eq]
      split <;> rfl
    | some x =>
      obtain ⟨j, y⟩ := x
      obtain ⟨f1, f2, f3, f4⟩ := firstOf_spec _ _ _ _ _ hf
      rw [hf] at hc
      simp only [Option.elim] at hc
      simp only [Option.elim, hf]
      have n1 : (0 : Int) ≤ (j : Int) := by omega
      have n2 : (j : Int) < (bs.length : Int) := by omega
      have g2 : ∀ z, bs.getD j z = y := fun z => by
        rw [List.getD_eq_getElem?_getD, show j = j - 0 by omega, f3]; rfl
      rw [hc] at e1 ⊢
      simp only [n1, n2, and_self, and_true, true_and, decide_true, decide_false, if_true, if_false, mid_get, mid_set, mid_getn, mid_setn, bt_mid, Option.bind_some, Bool.not_true, Bool.not_false, Bool.false_eq_true, Bool.true_eq_false, beq_self_eq_true, bne_self_eq_false, Int.toNat_natCast, g2, e1]
      rw [if_pos (room24' st _ (by omega))]
      simp only [decide_eq_true_eq]
      split <;> rfl
theorem paperB_iff {p : ByteArray × Int × List (ByteArray × Int)} (h : paperB p = true) : wordB p.1 = true ∧ (0 ≤ p.2.1 ∧ p.2.1 ≤ 100000) ∧ linesB p.2.2 = true := by
  unfold paperB at h
  simp only [Bool.and_eq_true, inB_iff] at h
  exact ⟨h.1.1, h.1.2, h.2⟩
theorem lines_ok {xs : List (ByteArray × Int)} (h1 : xs.length ≤ 1000000) (h2 : ∀ l ∈ xs, lineOk l = true) : Lm OkLine xs := ⟨h1, fun l hl => by
  have h3 := lineOk_iff.1 (h2 l hl)
  have := wordB_size h3.1
  exact ⟨by unfold Sm; omega, wf64.2 (by omega)⟩⟩
theorem MissingLines_core (a b : ByteArray × Int × List (ByteArray × Int)) (ha : OkPaper a) (hb : OkPaper b) : ∃ w, spec_MissingLines.f a b = some w ∧ impl_MissingLines.f a b = some w ∧ Lm OkLine w.1 := by
  unfold spec_MissingLines.f spec_MissingLines.fn spec_MissingLines.top impl_MissingLines.f impl_MissingLines.fn impl_MissingLines.top
  rw [spec_IsPaper_f a ha, spec_IsPaper_f b hb, impl_IsPaper_f a ha, impl_IsPaper_f b hb]
  cases h1 : paperB a
  · exact ⟨([], 1), rfl, rfl, by simp, by simp⟩
  cases h2 : paperB b
  · exact ⟨([], 1), rfl, rfl, by simp, by simp⟩
  have p1 := linesB_ok (paperB_iff h1).2.2
  have p2 := linesB_ok (paperB_iff h2).2.2
  obtain ⟨w, e, ax⟩ := a
  obtain ⟨v, d, bs⟩ := b
  have q1 := impl_Missing_l v d ax bs p1.2 p2.2 p1.1 p2.1
  have q2 := spec_Missing_l v w d e ax bs p1.2 p2.2 p1.1 p2.1
  have p11 : ax.length ≤ 12 := p1.1
  exact ⟨(missL ax bs, 0), q2, q1.2, lines_ok (by simp only; omega) q1.1.2⟩
end Go.Pl

namespace Go.Pl
open Go.Ev
set_option linter.unusedVariables false
noncomputable section
def impl_articleOf.g2 (L2 : ByteArray → (List (ByteArray × Int × Int × Int × Int × Int × Int × Int × Int)) → Int → Int → Option Int) (code1 : ByteArray) (v7 : List (ByteArray × Int × Int × Int × Int × Int × Int × Int × Int)) (v8 : Int) (v9 : Int) : Option Int :=
  if (decide ((v9 : Int) < v8)) = true then
    if (0 : Int) ≤ v9 ∧ (v9 : Int) < v7.length then
      if (((v7.getD (v9 : Int).toNat (ByteArray.empty, (0, (0, (0, (0, (0, (0, (0, 0))))))))).1).toList == code1.toList) = true then
        some v9
      else
        L2 code1 v7 v8 (IntKind.i64.wrap (v9 + 1))
    else
      none
  else
    some (-1)
def impl_articleOf.l2 (n : Nat) : Nat → ByteArray → (List (ByteArray × Int × Int × Int × Int × Int × Int × Int × Int)) → Int → Int → Option Int
  | 0 => fun _ _ _ _ => none
  | k + 1 => impl_articleOf.g2 (impl_articleOf.l2 n k)
def impl_articleOf.top (I2 : ByteArray → (List (ByteArray × Int × Int × Int × Int × Int × Int × Int × Int)) → Int → Int → Option Int) (list0 : List (ByteArray × Int × Int × Int × Int × Int × Int × Int × Int)) (code1 : ByteArray) : Option Int :=
  I2 code1 list0 (list0.length : Int) 0
def impl_articleOf.fn (n : Nat) (list0 : List (ByteArray × Int × Int × Int × Int × Int × Int × Int × Int)) (code1 : ByteArray) : Option Int := impl_articleOf.top (impl_articleOf.l2 n n) list0 code1
def impl_articleOf.f (list0 : List (ByteArray × Int × Int × Int × Int × Int × Int × Int × Int)) (code1 : ByteArray) : Option Int := impl_articleOf.fn NN list0 code1
end
end Go.Pl

namespace Go.Pl
open Go.Ev
set_option linter.unusedVariables false
noncomputable section
def spec_l03Find.g2 (L2 : (List (ByteArray × Int × Int × Int × Int × Int × Int × Int × Int)) → ByteArray → Int → Option Int) (list0 : List (ByteArray × Int × Int × Int × Int × Int × Int × Int × Int)) (code1 : ByteArray) (i5 : Int) : Option Int :=
  if (decide ((i5 : Int) < (list0.length : Int))) = true then
    if (0 : Int) ≤ i5 ∧ (i5 : Int) < list0.length then
      if (((list0.getD (i5 : Int).toNat (ByteArray.empty, (0, (0, (0, (0, (0, (0, (0, 0))))))))).1).toList == code1.toList) = true then
        some i5
      else
        L2 list0 code1 (IntKind.i64.wrap (i5 + 1))
    else
      none
  else
    some (-1)
def spec_l03Find.l2 (n : Nat) : Nat → (List (ByteArray × Int × Int × Int × Int × Int × Int × Int × Int)) → ByteArray → Int → Option Int
  | 0 => fun _ _ _ => none
  | k + 1 => spec_l03Find.g2 (spec_l03Find.l2 n k)
def spec_l03Find.top (I2 : (List (ByteArray × Int × Int × Int × Int × Int × Int × Int × Int)) → ByteArray → Int → Option Int) (list0 : List (ByteArray × Int × Int × Int × Int × Int × Int × Int × Int)) (code1 : ByteArray) : Option Int :=
  I2 list0 code1 0
def spec_l03Find.fn (n : Nat) (list0 : List (ByteArray × Int × Int × Int × Int × Int × Int × Int × Int)) (code1 : ByteArray) : Option Int := spec_l03Find.top (spec_l03Find.l2 n n) list0 code1
def spec_l03Find.f (list0 : List (ByteArray × Int × Int × Int × Int × Int × Int × Int × Int)) (code1 : ByteArray) : Option Int := spec_l03Find.fn NN list0 code1
end
end Go.Pl

namespace Go.Pl
open Go.Ev
set_option linter.unusedVariables false
set_option linter.unusedSimpArgs false
abbrev Art : Type := ByteArray × Int × Int × Int × Int × Int × Int × Int × Int
def artB (a : Art) : Bool := wordB a.1 && inB a.2.1 0 3 && inB a.2.2.1 20 300 && inB a.2.2.2.1 0 10000 && inB a.2.2.2.2.1 0 a.2.2.2.1 && inB a.2.2.2.2.2.1 1 50 && inB a.2.2.2.2.2.2.1 0 10000 && inB a.2.2.2.2.2.2.2.1 1 100000 && inB a.2.2.2.2.2.2.2.2 0 3
theorem impl_IsArticle_f (a : Art) (h : Sz a.1) : impl_IsArticle.f a = some (artB a) := by
  unfold impl_IsArticle.f impl_IsArticle.fn impl_IsArticle.top artB
  simp only [impl_IsWord_f _ h, impl_within_f, Option.bind_some]
  cases wordB a.1
  · rfl
  cases inB a.2.1 0 3
  · rfl
  cases inB a.2.2.1 20 300
  · rfl
  cases inB a.2.2.2.1 0 10000
  · rfl
  cases inB a.2.2.2.2.1 0 a.2.2.2.1
  · rfl
  cases inB a.2.2.2.2.2.1 1 50
  · rfl
  cases inB a.2.2.2.2.2.2.1 0 10000
  · rfl
  cases inB a.2.2.2.2.2.2.2.1 1 100000
  · rfl
  · rfl
theorem spec_IsArticle_f (a : Art) (h : Sz a.1) : spec_IsArticle.f a = some (artB a) := by
  unfold spec_IsArticle.f spec_IsArticle.fn spec_IsArticle.top artB
  simp only [spec_IsWord_f _ h, spec_l01In_f, Option.bind_some]
  cases wordB a.1
  · rfl
  cases inB a.2.1 0 3
  · rfl
  cases inB a.2.2.1 20 300
  · rfl
  cases inB a.2.2.2.1 0 10000
  · rfl
  cases inB a.2.2.2.2.1 0 a.2.2.2.1
  · rfl
  cases inB a.2.2.2.2.2.1 1 50
  · rfl
  cases inB a.2.2.2.2.2.2.1 0 10000
  · rfl
  cases inB a.2.2.2.2.2.2.2.1 1 100000
  · rfl
  · rfl
/-- articles, looked at from the second on -/
def artsF : Art → List Art → Bool
  | _, [] => true
  | x, a :: r => artB a && ltS x.1 a.1 && artsF a r
def artsL : List Art → Bool
  | [] => true
  | a :: r => artB a && artsF a r
def artsB (xs : List Art) : Bool := decide (xs.length ≤ 12) && artsL xs
noncomputable def impl_arts_call (k : Nat) (xs : List Art) (i : Int) := impl_AreArticles.l4 NN k xs xs xs.length i
noncomputable def spec_arts_call (k : Nat) (xs : List Art) (i : Int) := spec_AreArticles.l2 NN k xs i
theorem impl_arts_loop : ∀ (r p : List Art) (x : Art) (k : Nat), p.length + r.length + 1 ≤ 140737488355328 → r.length < k → (∀ a ∈ r, Sz a.1) →
    impl_arts_call k (p ++ [x] ++ r) ((p.length : Int) + 1) = if artsF x r = true then some ((fun _ => true) (p ++ [x] ++ r)) else some false := by
  intro r
  induction r with
  | nil =>
    intro p x k _ hk _
    obtain ⟨k, rfl⟩ : ∃ j, k = j + 1 := ⟨k - 1, by omega⟩
    have n1 : ¬ (p.length : Int) + 1 < ((p ++ [x] ++ []).length : Int) := by simp
    simp only [impl_arts_call, impl_AreArticles.l4, impl_AreArticles.g4, n1, decide_false, Bool.false_eq_true, if_false, artsF, if_true]
  | cons a r ih =>
    intro p x k hb hk hz
    simp only [List.length_cons] at hb hk
    obtain ⟨k, rfl⟩ : ∃ j, k = j + 1 := ⟨k - 1, by omega⟩
    have hl : ((p ++ [x] ++ a :: r).length : Int) = p.length + r.length + 2 := by simp; omega
    have w1 := w64 (n := (p.length : Int) + 1 - 1) (by omega) (by omega)
    have w2 := w64 (n := (p.length : Int) + 1 + 1) (by omega) (by omega)
    have c1 : (p.length : Int) + 1 < ((p ++ [x] ++ a :: r).length : Int) := by omega
    have c2 : (0 : Int) ≤ (p.length : Int) + 1 - 1 := by omega
    have c3 : (p.length : Int) + 1 - 1 < ((p ++ [x] ++ a :: r).length : Int) := by omega
    have c4 : (0 : Int) ≤ (p.length : Int) + 1 := by omega
    have c5 : (0 : Int) < (p.length : Int) + 1 := by omega
    have g1 : ∀ z, (p ++ [x] ++ a :: r).getD ((p.length : Int) + 1).toNat z = a := fun z => by
      rw [show ((p.length : Int) + 1).toNat = (p ++ [x]).length by simp, mid_getn]
    have g2 : ∀ z, (p ++ [x] ++ a :: r).getD ((p.length : Int) + 1 - 1).toNat z = x := fun z => by
      rw [show ((p.length : Int) + 1 - 1).toNat = p.length by omega, snoc_getl']
    have i1 := ih (p ++ [x]) a k (by simp; omega) (by omega) (fun b hb => hz b (by simp [hb]))
    have e1 : (((p ++ [x]).length : Nat) : Int) + 1 = (p.length : Int) + 1 + 1 := by simp
    have e2 : p ++ [x] ++ [a] ++ r = p ++ [x] ++ a :: r := by simp
    rw [e1, e2] at i1
    simp only [impl_arts_call] at i1
    simp only [impl_arts_call, impl_AreArticles.l4, impl_AreArticles.g4, w1, w2, c1, c2, c3, c4, c5, g1, g2, and_self, decide_true, if_true, Option.bind_some, impl_IsArticle_f a (hz a (by simp)), artsF]
    rcases Bool.eq_false_or_eq_true (artB a) with h1 | h1
    · rcases Bool.eq_false_or_eq_true (ltS x.1 a.1) with h2 | h2
      · have h2' : Op.bytesLess x.1.toList a.1.toList = true := h2
        simp only [h1, h2, h2', Bool.not_true, Bool.false_eq_true, if_false, if_true, Bool.true_and, Bool.and_true]
        exact i1
      · have h2' : Op.bytesLess x.1.toList a.1.toList = false := h2
        simp [h1, h2, h2']
    · simp [h1]
theorem impl_arts_all (xs : List Art) (hb : xs.length ≤ 140737488355328) (hz : ∀ a ∈ xs, Sz a.1) : impl_arts_call NN xs 0 = if artsL xs = true then some ((fun _ => true) xs) else some false := by
  obtain ⟨k, hk⟩ : ∃ j, NN = j + 1 := ⟨NN - 1, by have := NNb; omega⟩
  have hkb : 1000000000000000 < k := by rw [NN_eq] at hk; omega
  unfold impl_arts_call
  rw [show impl_AreArticles.l4 NN NN = impl_AreArticles.l4 NN (k + 1) by rw [← hk]]
  cases xs with
  | nil =>
    have n1 : ¬ (0 : Int) < (([] : List Art).length : Int) := by simp
    simp only [impl_AreArticles.l4, impl_AreArticles.g4, n1, decide_false, Bool.false_eq_true, if_false, artsL, if_true]
  | cons a r =>
    simp only [List.length_cons] at hb
    have i1 := impl_arts_loop r [] a k (by simp; omega) (by omega) (fun b hb => hz b (by simp [hb]))
    simp only [impl_arts_call, List.nil_append, List.length_nil] at i1
    have n1 : (0 : Int) < ((a :: r).length : Int) := by simp only [List.length_cons]; omega
    have w2 := w64 (n := (0 : Int) + 1) (by omega) (by omega)
    have g1 : ∀ z, (a :: r).getD (0 : Int).toNat z = a := fun z => rfl
    simp only [impl_AreArticles.l4, impl_AreArticles.g4, n1, w2, g1, Int.le_refl, Int.lt_irrefl, and_self, decide_true, decide_false, if_true, Option.bind_some, impl_IsArticle_f a (hz a (by simp)), artsL]
    rcases Bool.eq_false_or_eq_true (artB a) with h1 | h1
    · simp only [h1, Bool.not_true, Bool.false_eq_true, if_false, if_true, Bool.true_and]
      exact i1
    · simp [h1]
theorem spec_arts_loop : ∀ (r p : List Art) (x : Art) (k : Nat), p.length + r.length + 1 ≤ 140737488355328 → r.length < k → (∀ a ∈ r, Sz a.1) →
    spec_arts_call k (p ++ [x] ++ r) ((p.length : Int) + 1) = if artsF x r = true then some ((fun xs : List Art => decide (((xs.length : Int) : Int) ≤ 12)) (p ++ [x] ++ r)) else some false := by
  intro r
  induction r with
  | nil =>
    intro p x k _ hk _
    obtain ⟨k, rfl⟩ : ∃ j, k = j + 1 := ⟨k - 1, by omega⟩
    have n1 : ¬ (p.length : Int) + 1 < ((p ++ [x] ++ []).length : Int) := by simp
    simp only [spec_arts_call, spec_AreArticles.l2, spec_AreArticles.g2, n1, decide_false, Bool.false_eq_true, if_false, artsF, if_true]
  | cons a r ih =>
    intro p x k hb hk hz
    simp only [List.length_cons] at hb hk
    obtain ⟨k, rfl⟩ : ∃ j, k = j + 1 := ⟨k - 1, by omega⟩
    have hl : ((p ++ [x] ++ a :: r).length : Int) = p.length + r.length + 2 := by simp; omega
    have w1 := w64 (n := (p.length : Int) + 1 - 1) (by omega) (by omega)
    have w2 := w64 (n := (p.length : Int) + 1 + 1) (by omega) (by omega)
    have c1 : (p.length : Int) + 1 < ((p ++ [x] ++ a :: r).length : Int) := by omega
    have c2 : (0 : Int) ≤ (p.length : Int) + 1 - 1 := by omega
    have c3 : (p.length : Int) + 1 - 1 < ((p ++ [x] ++ a :: r).length : Int) := by omega
    have c4 : (0 : Int) ≤ (p.length : Int) + 1 := by omega
    have c5 : (0 : Int) < (p.length : Int) + 1 := by omega
    have g1 : ∀ z, (p ++ [x] ++ a :: r).getD ((p.length : Int) + 1).toNat z = a := fun z => by
      rw [show ((p.length : Int) + 1).toNat = (p ++ [x]).length by simp, mid_getn]
    have g2 : ∀ z, (p ++ [x] ++ a :: r).getD ((p.length : Int) + 1 - 1).toNat z = x := fun z => by
      rw [show ((p.length : Int) + 1 - 1).toNat = p.length by omega, snoc_getl']
    have i1 := ih (p ++ [x]) a k (by simp; omega) (by omega) (fun b hb => hz b (by simp [hb]))
    have e1 : (((p ++ [x]).length : Nat) : Int) + 1 = (p.length : Int) + 1 + 1 := by simp
    have e2 : p ++ [x] ++ [a] ++ r = p ++ [x] ++ a :: r := by simp
    rw [e1, e2] at i1
    simp only [spec_arts_call] at i1
    simp only [spec_arts_call, spec_AreArticles.l2, spec_AreArticles.g2, w1, w2, c1, c2, c3, c4, c5, g1, g2, and_self, decide_true, if_true, Option.bind_some, spec_IsArticle_f a (hz a (by simp)), artsF]
    rcases Bool.eq_false_or_eq_true (artB a) with h1 | h1
    · rcases Bool.eq_false_or_eq_true (ltS x.1 a.1) with h2 | h2
      · have h2' : Op.bytesLess x.1.toList a.1.toList = true := h2
        simp only [h1, h2, h2', Bool.not_true, Bool.false_eq_true, if_false, if_true, Bool.true_and, Bool.and_true]
        exact i1
      · have h2' : Op.bytesLess x.1.toList a.1.toList = false := h2
        simp [h1, h2, h2']
    · simp [h1]
theorem spec_arts_all (xs : List Art) (hb : xs.length ≤ 140737488355328) (hz : ∀ a ∈ xs, Sz a.1) : spec_arts_call NN xs 0 = if artsL xs = true then some ((fun xs : List Art => decide (((xs.length : Int) : Int) ≤ 12)) xs) else some false := by
  obtain ⟨k, hk⟩ : ∃ j, NN = j + 1 := ⟨NN - 1, by have := NNb; omega⟩
  have hkb : 1000000000000000 < k := by rw [NN_eq] at hk; omega
  unfold spec_arts_call
  rw [show spec_AreArticles.l2 NN NN = spec_AreArticles.l2 NN (k + 1) by rw [← hk]]
  cases xs with
  | nil =>
    have n1 : ¬ (0 : Int) < (([] : List Art).length : Int) := by simp
    simp only [spec_AreArticles.l2, spec_AreArticles.g2, n1, decide_false, Bool.false_eq_true, if_false, artsL, if_true]
  | cons a r =>
    simp only [List.length_cons] at hb
    have i1 := spec_arts_loop r [] a k (by simp; omega) (by omega) (fun b hb => hz b (by simp [hb]))
    simp only [spec_arts_call, List.nil_append, List.length_nil] at i1
    have n1 : (0 : Int) < ((a :: r).length : Int) := by simp only [List.length_cons]; omega
    have w2 := w64 (n := (0 : Int) + 1) (by omega) (by omega)
    have g1 : ∀ z, (a :: r).getD (0 : Int).toNat z = a := fun z => rfl
    simp only [spec_AreArticles.l2, spec_AreArticles.g2, n1, w2, g1, Int.le_refl, Int.lt_irrefl, and_self, decide_true, decide_false, if_true, Option.bind_some, spec_IsArticle_f a (hz a (by simp)), artsL]
    rcases Bool.eq_false_or_eq_true (artB a) with h1 | h1
    · simp only [h1, Bool.not_true, Bool.false_eq_true, if_false, if_true, Bool.true_and]
      exact i1
    · simp [h1]
theorem impl_AreArticles_f (xs : List Art) (hb : xs.length ≤ 140737488355328) (hz : ∀ a ∈ xs, Sz a.1) : impl_AreArticles.f xs = some (artsB xs) := by
  unfold impl_AreArticles.f impl_AreArticles.fn impl_AreArticles.top artsB
  have := impl_arts_all xs hb hz
  unfold impl_arts_call at this
  by_cases h : (12 : Int) < (xs.length : Int)
  · have h2 : ¬ xs.length ≤ 12 := by omega
    simp only [h, h2, decide_true, decide_false, if_true, Bool.false_and]
  · have h2 : xs.length ≤ 12 := by omega
    simp only [h, h2, decide_true, decide_false, Bool.false_eq_true, if_false, Bool.true_and]
    rw [this]
    cases artsL xs <;> rfl
theorem spec_AreArticles_f (xs : List Art) (hb : xs.length ≤ 140737488355328) (hz : ∀ a ∈ xs, Sz a.1) : spec_AreArticles.f xs = some (artsB xs) := by
  unfold spec_AreArticles.f spec_AreArticles.fn spec_AreArticles.top artsB
  have := spec_arts_all xs hb hz
  unfold spec_arts_call at this
  rw [this]
  have e : decide (((xs.length : Int) : Int) ≤ 12) = decide (xs.length ≤ 12) := by
    by_cases h : xs.length ≤ 12
    · have : (xs.length : Int) ≤ 12 := by omega
      simp [h, this]
    · have : ¬ (xs.length : Int) ≤ 12 := by omega
      simp [h, this]
  simp only [e]
  cases artsL xs <;> simp
theorem artsF_ok : ∀ (r : List Art) (x : Art), artsF x r = true → ∀ a ∈ r, artB a = true := by
  intro r
  induction r with
  | nil => intro x _ a ha; cases ha
  | cons b r ih =>
    intro x h a ha
    simp only [artsF, Bool.and_eq_true] at h
    rcases List.mem_cons.1 ha with rfl | ha
    · exact h.1.1
    · exact ih b h.2 a ha
theorem artsB_ok {xs : List Art} (h : artsB xs = true) : xs.length ≤ 12 ∧ ∀ a ∈ xs, artB a = true := by
  unfold artsB at h
  simp only [Bool.and_eq_true, decide_eq_true_eq] at h
  refine ⟨h.1, ?_⟩
  cases xs with
  | nil => intro a ha; cases ha
  | cons b r =>
    intro a ha
    have h2 := h.2
    simp only [artsL, Bool.and_eq_true] at h2
    rcases List.mem_cons.1 ha with rfl | ha
    · exact h2.1
    · exact artsF_ok r b h2.2 a ha
theorem artB_iff {a : Art} (h : artB a = true) : wordB a.1 = true ∧ (0 ≤ a.2.1 ∧ a.2.1 ≤ 3) ∧ (20 ≤ a.2.2.1 ∧ a.2.2.1 ≤ 300) ∧ (1 ≤ a.2.2.2.2.2.2.2.1 ∧ a.2.2.2.2.2.2.2.1 ≤ 100000) ∧ (0 ≤ a.2.2.2.2.2.2.2.2 ∧ a.2.2.2.2.2.2.2.2 ≤ 3) := by
  unfold artB at h
  simp only [Bool.and_eq_true, inB_iff] at h
  exact ⟨h.1.1.1.1.1.1.1.1, h.1.1.1.1.1.1.1.2, h.1.1.1.1.1.1.2, h.1.2, h.2⟩
/-- the number of an article, or -1 -/
def artI (xs : List Art) (c : ByteArray) : Int := (firstOf (fun l : Art => decide (l.1 = c)) 0 xs).elim (-1) (fun x => (x.1 : Int))
theorem impl_articleOf_f (xs : List Art) (c : ByteArray) (h : xs.length ≤ 140737488355328) : impl_articleOf.f xs c = some (artI xs c) := by
  have := find_loop (E := fun _ => True) (fun l : Art => decide (l.1 = c)) (fun i _ => some (i : Int)) (fun _ => some (-1)) (fun k xs i => impl_articleOf.l2 NN k c xs xs.length i) ?_ ?_ xs (fun _ _ => trivial) (by omega) NN (NN_lt (by omega))
  · refine this.trans ?_
    unfold artI
    cases firstOf (fun l : Art => decide (l.1 = c)) 0 xs <;> rfl
  · intro k p
    simp [impl_articleOf.l2, impl_articleOf.g2]
  · intro k p l r _ c0 c1 c2 cw
    simp only [impl_articleOf.l2, impl_articleOf.g2, c0, c1, cw, and_self, and_true, true_and, decide_true, decide_false, if_true, if_false, mid_get, mid_set, mid_getn, mid_setn, bt_mid, Option.bind_some, Bool.not_true, Bool.not_false, Bool.false_eq_true, Bool.true_eq_false, beq_self_eq_true, bne_self_eq_false, Int.toNat_natCast, ba_beq]
theorem spec_l03Find_f (xs : List Art) (c : ByteArray) (h : xs.length ≤ 140737488355328) : spec_l03Find.f xs c = some (artI xs c) := by
  have := find_loop (E := fun _ => True) (fun l : Art => decide (l.1 = c)) (fun i _ => some (i : Int)) (fun _ => some (-1)) (fun k xs i => spec_l03Find.l2 NN k xs c i) ?_ ?_ xs (fun _ _ => trivial) (by omega) NN (NN_lt (by omega))
  · refine this.trans ?_
    unfold artI
    cases firstOf (fun l : Art => decide (l.1 = c)) 0 xs <;> rfl
  · intro k p
    simp [spec_l03Find.l2, spec_l03Find.g2]
  · intro k p l r _ c0 c1 c2 cw
    simp only [spec_l03Find.l2, spec_l03Find.g2, c0, c1, cw, and_self, and_true, true_and, decide_true, decide_false, if_true, if_false, mid_get, mid_set, mid_getn, mid_setn, bt_mid, Option.bind_some, Bool.not_true, Bool.not_false, Bool.false_eq_true, Bool.true_eq_false, beq_self_eq_true, bne_self_eq_false, Int.toNat_natCast, ba_beq]
theorem artI_bd (xs : List Art) (c : ByteArray) : artI xs c < (xs.length : Int) := by
  unfold artI
  cases h : firstOf (fun l : Art => decide (l.1 = c)) 0 xs with
  | none => simp only [Option.elim_none]; omega
  | some x =>
    have := firstOf_spec _ xs 0 x.1 x.2 h
    simp only [Option.elim_some]; omega
theorem firstOf_none {α : Type} (P : α → Bool) : ∀ (xs : List α) (i : Nat), firstOf P i xs = none → ∀ x ∈ xs, P x = false := by
  intro xs
  induction xs with
  | nil => intro i _ x hx; cases hx
  | cons a r ih =>
    intro i h x hx
    simp only [firstOf] at h
    split at h
    · cases h
    · rename_i hp
      rcases List.mem_cons.1 hx with rfl | hx
      · simpa using hp
      · exact ih _ h x hx
end Go.Pl

namespace Go.Pl
open Go.Ev
set_option linter.unusedVariables false
noncomputable section
def impl_bit.top (is0 : Bool) (n1 : Int) : Option Int :=
  if is0 = true then
    some n1
  else
    some 0
def impl_bit.fn (n : Nat) (is0 : Bool) (n1 : Int) : Option Int := impl_bit.top is0 n1
def impl_bit.f (is0 : Bool) (n1 : Int) : Option Int := impl_bit.fn NN is0 n1
end
end Go.Pl

namespace Go.Pl
open Go.Ev
set_option linter.unusedVariables false
noncomputable section
def impl_refusalsOf.g10 (L5 : List Int → (List (ByteArray × Int × Int × Int × Int × Int × Int × Int × Int)) → Int → Int → (Int × Int × Int × Int × List Int × Int) → List Bool → Option Int) (L10 : List Int → Bool → (List (ByteArray × Int × Int × Int × Int × Int × Int × Int × Int)) → Int → Int → List Int → Int → Int → (Int × Int × Int × Int × List Int × Int) → List Bool → (ByteArray × Int × Int × Int × Int × Int × Int × Int × Int) → Option Int) (counts2 : List Int) (kind12 : Bool) (v30 : List (ByteArray × Int × Int × Int × Int × Int × Int × Int × Int)) (v31 : Int) (v32 : Int) (v43 : List Int) (v44 : Int) (v45 : Int) (p4 : Int × Int × Int × Int × List Int × Int) (has9 : List Bool) (a11 : ByteArray × Int × Int × Int × Int × Int × Int × Int × Int) : Option Int :=
  if (decide ((v45 : Int) < v44)) = true then
    if (0 : Int) ≤ v45 ∧ (v45 : Int) < v43.length then
      if kind12 = false then
        L10 counts2 (((v43.getD (v45 : Int).toNat 0) : Int) == a11.2.1) v30 v31 v32 v43 v44 (IntKind.i64.wrap (v45 + 1)) p4 has9 a11
      else
        L10 counts2 true v30 v31 v32 v43 v44 (IntKind.i64.wrap (v45 + 1)) p4 has9 a11
    else
      none
  else if (0 : Int) ≤ 2 ∧ (2 : Int) < 5 then
    if (has9.getD (2 : Int).toNat false) = false then
      if (0 : Int) ≤ 2 ∧ (2 : Int) < 5 then
        if (0 : Int) ≤ 3 ∧ (3 : Int) < 5 then
          if ((has9.set (2 : Int).toNat (decide ((p4.2.2.2.1 : Int) < a11.2.2.1))).getD (3 : Int).toNat false) = false then
            if (0 : Int) ≤ 3 ∧ (3 : Int) < 5 then
              if (0 : Int) ≤ 4 ∧ (4 : Int) < 5 then
                if (((has9.set (2 : Int).toNat (decide ((p4.2.2.2.1 : Int) < a11.2.2.1))).set (3 : Int).toNat (!kind12)).getD (4 : Int).toNat false) = false then
                  if (0 : Int) ≤ 4 ∧ (4 : Int) < 5 then
                    L5 counts2 v30 v31 (IntKind.i64.wrap (v32 + 1)) p4 (((has9.set (2 : Int).toNat (decide ((p4.2.2.2.1 : Int) < a11.2.2.1))).set (3 : Int).toNat (!kind12)).set (4 : Int).toNat (decide ((p4.2.2.2.2.2 : Int) < a11.2.2.2.2.2.2.2.2)))
                  else
                    none
                else if (0 : Int) ≤ 4 ∧ (4 : Int) < 5 then
                  L5 counts2 v30 v31 (IntKind.i64.wrap (v32 + 1)) p4 (((has9.set (2 : Int).toNat (decide ((p4.2.2.2.1 : Int) < a11.2.2.1))).set (3 : Int).toNat (!kind12)).set (4 : Int).toNat true)
                else
                  none
              else
                none
            else
              none
          else if (0 : Int) ≤ 3 ∧ (3 : Int) < 5 then
            if (0 : Int) ≤ 4 ∧ (4 : Int) < 5 then
              if (((has9.set (2 : Int).toNat (decide ((p4.2.2.2.1 : Int) < a11.2.2.1))).set (3 : Int).toNat true).getD (4 : Int).toNat false) = false then
                if (0 : Int) ≤ 4 ∧ (4 : Int) < 5 then
                  L5 counts2 v30 v31 (IntKind.i64.wrap (v32 + 1)) p4 (((has9.set (2 : Int).toNat (decide ((p4.2.2.2.1 : Int) < a11.2.2.1))).set (3 : Int).toNat true).set (4 : Int).toNat (decide ((p4.2.2.2.2.2 : Int) < a11.2.2.2.2.2.2.2.2)))
                else
                  none
              else if (0 : Int) ≤ 4 ∧ (4 : Int) < 5 then
                L5 counts2 v30 v31 (IntKind.i64.wrap (v32 + 1)) p4 (((has9.set (2 : Int).toNat (decide ((p4.2.2.2.1 : Int) < a11.2.2.1))).set (3 : Int).toNat true).set (4 : Int).toNat true)
              else
                none
            else
              none
          else
            none
        else
          none
      else
        none
    else if (0 : Int) ≤ 2 ∧ (2 : Int) < 5 then
      if (0 : Int) ≤ 3 ∧ (3 : Int) < 5 then
        if ((has9.set (2 : Int).toNat true).getD (3 : Int).toNat false) = false then
          if (0 : Int) ≤ 3 ∧ (3 : Int) < 5 then
            if (0 : Int) ≤ 4 ∧ (4 : Int) < 5 then
              if (((has9.set (2 : Int).toNat true).set (3 : Int).toNat (!kind12)).getD (4 : Int).toNat false) = false then
                if (0 : Int) ≤ 4 ∧ (4 : Int) < 5 then
                  L5 counts2 v30 v31 (IntKind.i64.wrap (v32 + 1)) p4 (((has9.set (2 : Int).toNat true).set (3 : Int).toNat (!kind12)).set (4 : Int).toNat (decide ((p4.2.2.2.2.2 : Int) < a11.2.2.2.2.2.2.2.2)))
                else
                  none
              else if (0 : Int) ≤ 4 ∧ (4 : Int) < 5 then
                L5 counts2 v30 v31 (IntKind.i64.wrap (v32 + 1)) p4 (((has9.set (2 : Int).toNat true).set (3 : Int).toNat (!kind12)).set (4 : Int).toNat true)
              else
                none
            else
              none
          else
            none
        else if (0 : Int) ≤ 3 ∧ (3 : Int) < 5 then
          if (0 : Int) ≤ 4 ∧ (4 : Int) < 5 then
            if (((has9.set (2 : Int).toNat true).set (3 : Int).toNat true).getD (4 : Int).toNat false) = false then
              if (0 : Int) ≤ 4 ∧ (4 : Int) < 5 then
                L5 counts2 v30 v31 (IntKind.i64.wrap (v32 + 1)) p4 (((has9.set (2 : Int).toNat true).set (3 : Int).toNat true).set (4 : Int).toNat (decide ((p4.2.2.2.2.2 : Int) < a11.2.2.2.2.2.2.2.2)))
              else
                none
            else if (0 : Int) ≤ 4 ∧ (4 : Int) < 5 then
              L5 counts2 v30 v31 (IntKind.i64.wrap (v32 + 1)) p4 (((has9.set (2 : Int).toNat true).set (3 : Int).toNat true).set (4 : Int).toNat true)
            else
              none
          else
            none
        else
          none
      else
        none
    else
      none
  else
    none
def impl_refusalsOf.l10 (n : Nat) (L5 : List Int → (List (ByteArray × Int × Int × Int × Int × Int × Int × Int × Int)) → Int → Int → (Int × Int × Int × Int × List Int × Int) → List Bool → Option Int) : Nat → List Int → Bool → (List (ByteArray × Int × Int × Int × Int × Int × Int × Int × Int)) → Int → Int → List Int → Int → Int → (Int × Int × Int × Int × List Int × Int) → List Bool → (ByteArray × Int × Int × Int × Int × Int × Int × Int × Int) → Option Int
  | 0 => fun _ _ _ _ _ _ _ _ _ _ _ => none
  | k + 1 => impl_refusalsOf.g10 L5 (impl_refusalsOf.l10 n L5 k)
def impl_refusalsOf.g5 (I10 : List Int → Bool → (List (ByteArray × Int × Int × Int × Int × Int × Int × Int × Int)) → Int → Int → List Int → Int → Int → (Int × Int × Int × Int × List Int × Int) → List Bool → (ByteArray × Int × Int × Int × Int × Int × Int × Int × Int) → Option Int) (L5 : List Int → (List (ByteArray × Int × Int × Int × Int × Int × Int × Int × Int)) → Int → Int → (Int × Int × Int × Int × List Int × Int) → List Bool → Option Int) (counts2 : List Int) (v30 : List (ByteArray × Int × Int × Int × Int × Int × Int × Int × Int)) (v31 : Int) (v32 : Int) (p4 : Int × Int × Int × Int × List Int × Int) (has9 : List Bool) : Option Int :=
  if (decide ((v32 : Int) < v31)) = true then
    if (0 : Int) ≤ v32 ∧ (v32 : Int) < v30.length then
      if (0 : Int) ≤ v32 ∧ (v32 : Int) < counts2.length then
        if (((counts2.getD (v32 : Int).toNat 0) : Int) == 0) = true then
          L5 counts2 v30 v31 (IntKind.i64.wrap (v32 + 1)) p4 has9
        else
          I10 counts2 false v30 v31 v32 p4.2.2.2.2.1 (p4.2.2.2.2.1.length : Int) 0 p4 has9 (v30.getD (v32 : Int).toNat (ByteArray.empty, (0, (0, (0, (0, (0, (0, (0, 0)))))))))
      else
        none
    else
      none
  else if (0 : Int) ≤ 0 ∧ (0 : Int) < 5 then
    if (0 : Int) ≤ 1 ∧ (1 : Int) < 5 then
      if (0 : Int) ≤ 2 ∧ (2 : Int) < 5 then
        if (0 : Int) ≤ 3 ∧ (3 : Int) < 5 then
          if (0 : Int) ≤ 4 ∧ (4 : Int) < 5 then
            (impl_bit.f (has9.getD (0 : Int).toNat false) 1).bind fun r3 =>
            (impl_bit.f (has9.getD (1 : Int).toNat false) 2).bind fun r4 =>
            (impl_bit.f (has9.getD (2 : Int).toNat false) 4).bind fun r5 =>
            (impl_bit.f (has9.getD (3 : Int).toNat false) 8).bind fun r6 =>
            (impl_bit.f (has9.getD (4 : Int).toNat false) 16).bind fun r7 =>
            some (IntKind.i64.wrap ((IntKind.i64.wrap ((IntKind.i64.wrap ((IntKind.i64.wrap (r3 + r4)) + r5)) + r6)) + r7))
          else
            none
        else
          none
      else
        none
    else
      none
  else
    none
def impl_refusalsOf.l5 (n : Nat) : Nat → List Int → (List (ByteArray × Int × Int × Int × Int × Int × Int × Int × Int)) → Int → Int → (Int × Int × Int × Int × List Int × Int) → List Bool → Option Int
  | 0 => fun _ _ _ _ _ _ => none
  | k + 1 => impl_refusalsOf.g5 (impl_refusalsOf.l10 n (impl_refusalsOf.l5 n k) n) (impl_refusalsOf.l5 n k)
def impl_refusalsOf.top (I5 : List Int → (List (ByteArray × Int × Int × Int × Int × Int × Int × Int × Int)) → Int → Int → (Int × Int × Int × Int × List Int × Int) → List Bool → Option Int) (p0 : Int × Int × Int × Int × List Int × Int) (list1 : List (ByteArray × Int × Int × Int × Int × Int × Int × Int × Int)) (counts2 : List Int) (day3 : Int) : Option Int :=
  (impl_within.f day3 p0.1 p0.2.1).bind fun r1 =>
  if (0 : Int) ≤ 0 ∧ (0 : Int) < 5 then
    (impl_orderNet.f list1 counts2).bind fun r2 =>
    if (0 : Int) ≤ 1 ∧ (1 : Int) < 5 then
      I5 counts2 list1 (list1.length : Int) 0 p0 (((List.replicate 5 false).set (0 : Int).toNat (!r1)).set (1 : Int).toNat (decide ((p0.2.2.1 : Int) < r2)))
    else
      none
  else
    none
def impl_refusalsOf.fn (n : Nat) (p0 : Int × Int × Int × Int × List Int × Int) (list1 : List (ByteArray × Int × Int × Int × Int × Int × Int × Int × Int)) (counts2 : List Int) (day3 : Int) : Option Int := impl_refusalsOf.top (impl_refusalsOf.l5 n n) p0 list1 counts2 day3
def impl_refusalsOf.f (p0 : Int × Int × Int × Int × List Int × Int) (list1 : List (ByteArray × Int × Int × Int × Int × Int × Int × Int × Int)) (counts2 : List Int) (day3 : Int) : Option Int := impl_refusalsOf.fn NN p0 list1 counts2 day3
end
end Go.Pl

namespace Go.Pl
open Go.Ev
set_option linter.unusedVariables false
noncomputable section
def impl_RefusalsOf.top (p0 : Int × Int × Int × Int × List Int × Int) (list1 : List (ByteArray × Int × Int × Int × Int × Int × Int × Int × Int)) (counts2 : List Int) (day3 : Int) : Option (Int × Int) :=
  (impl_IsPermit.f p0).bind fun r1 =>
  if (!r1) = false then
    (impl_AreArticles.f list1).bind fun r2 =>
    if (!r2) = true then
      some (0, 1)
    else
      (impl_areCounts.f list1 counts2).bind fun r3 =>
      if (!r3) = false then
        (impl_isDay.f day3).bind fun r4 =>
        if (!r4) = true then
          some (0, 2)
        else
          (impl_refusalsOf.f p0 list1 counts2 day3).bind fun r5 =>
          some (r5, 0)
      else
        some (0, 2)
  else
    some (0, 1)
def impl_RefusalsOf.fn (n : Nat) (p0 : Int × Int × Int × Int × List Int × Int) (list1 : List (ByteArray × Int × Int × Int × Int × Int × Int × Int × Int)) (counts2 : List Int) (day3 : Int) : Option (Int × Int) := impl_RefusalsOf.top p0 list1 counts2 day3
def impl_RefusalsOf.f (p0 : Int × Int × Int × Int × List Int × Int) (list1 : List (ByteArray × Int × Int × Int × Int × Int × Int × Int × Int)) (counts2 : List Int) (day3 : Int) : Option (Int × Int) := impl_RefusalsOf.fn NN p0 list1 counts2 day3
end
end Go.Pl

namespace Go.Pl
open Go.Ev
set_option linter.unusedVariables false
noncomputable section
def spec_l01Has.g2 (L2 : List Int → Int → Int → Option Bool) (list0 : List Int) (x1 : Int) (i5 : Int) : Option Bool :=
  if (decide ((i5 : Int) < (list0.length : Int))) = true then
    if (0 : Int) ≤ i5 ∧ (i5 : Int) < list0.length then
      if (((list0.getD (i5 : Int).toNat 0) : Int) == x1) = true then
        some true
      else
        L2 list0 x1 (IntKind.i64.wrap (i5 + 1))
    else
      none
  else
    some false
def spec_l01Has.l2 (n : Nat) : Nat → List Int → Int → Int → Option Bool
  | 0 => fun _ _ _ => none
  | k + 1 => spec_l01Has.g2 (spec_l01Has.l2 n k)
def spec_l01Has.top (I2 : List Int → Int → Int → Option Bool) (list0 : List Int) (x1 : Int) : Option Bool :=
  I2 list0 x1 0
def spec_l01Has.fn (n : Nat) (list0 : List Int) (x1 : Int) : Option Bool := spec_l01Has.top (spec_l01Has.l2 n n) list0 x1
def spec_l01Has.f (list0 : List Int) (x1 : Int) : Option Bool := spec_l01Has.fn NN list0 x1
end
end Go.Pl

namespace Go.Pl
open Go.Ev
set_option linter.unusedVariables false
noncomputable section
def spec_l30Refusals.g14 (L14 : Int → Int → Int → List Bool → Option Int) (n15 : Int) (weight16 : Int) (i17 : Int) (truths14 : List Bool) : Option Int :=
  if (decide ((i17 : Int) < (truths14.length : Int))) = true then
    if (0 : Int) ≤ i17 ∧ (i17 : Int) < truths14.length then
      if (truths14.getD (i17 : Int).toNat false) = true then
        L14 (IntKind.i64.wrap (n15 + weight16)) (IntKind.i64.wrap (2 * weight16)) (IntKind.i64.wrap (i17 + 1)) truths14
      else
        L14 n15 (IntKind.i64.wrap (2 * weight16)) (IntKind.i64.wrap (i17 + 1)) truths14
    else
      none
  else
    some n15
def spec_l30Refusals.l14 (n : Nat) : Nat → Int → Int → Int → List Bool → Option Int
  | 0 => fun _ _ _ _ => none
  | k + 1 => spec_l30Refusals.g14 (spec_l30Refusals.l14 n k)
def spec_l30Refusals.g4 (I14 : Int → Int → Int → List Bool → Option Int) (L4 : (List (ByteArray × Int × Int × Int × Int × Int × Int × Int × Int)) → List Int → Int → Int → Bool → Bool → Bool → Int → (Int × Int × Int × Int × List Int × Int) → Option Int) (list1 : List (ByteArray × Int × Int × Int × Int × Int × Int × Int × Int)) (counts2 : List Int) (day3 : Int) (net9 : Int) (calibre10 : Bool) (kind11 : Bool) (group12 : Bool) (i13 : Int) (p4 : Int × Int × Int × Int × List Int × Int) : Option Int :=
  if (decide ((i13 : Int) < (list1.length : Int))) = true then
    if (0 : Int) ≤ i13 ∧ (i13 : Int) < counts2.length then
      if (((counts2.getD (i13 : Int).toNat 0) : Int) == 0) = true then
        L4 list1 counts2 day3 net9 calibre10 kind11 group12 (IntKind.i64.wrap (i13 + 1)) p4
      else if (0 : Int) ≤ i13 ∧ (i13 : Int) < list1.length then
        if (0 : Int) ≤ i13 ∧ (i13 : Int) < counts2.length then
          if calibre10 = false then
            if (0 : Int) ≤ i13 ∧ (i13 : Int) < list1.length then
              if kind11 = false then
                if (0 : Int) ≤ i13 ∧ (i13 : Int) < list1.length then
                  (spec_l01Has.f p4.2.2.2.2.1 (((list1.getD (i13 : Int).toNat (ByteArray.empty, (0, (0, (0, (0, (0, (0, (0, 0))))))))).2).1)).bind fun r1 =>
                  if group12 = false then
                    if (0 : Int) ≤ i13 ∧ (i13 : Int) < list1.length then
                      L4 list1 counts2 day3 (IntKind.i64.wrap (net9 + (IntKind.i64.wrap ((((((((((list1.getD (i13 : Int).toNat (ByteArray.empty, (0, (0, (0, (0, (0, (0, (0, 0))))))))).2).2).2).2).2).2).2).1) * (counts2.getD (i13 : Int).toNat 0))))) (decide ((p4.2.2.2.1 : Int) < ((((list1.getD (i13 : Int).toNat (ByteArray.empty, (0, (0, (0, (0, (0, (0, (0, 0))))))))).2).2).1))) (!r1) (decide ((p4.2.2.2.2.2 : Int) < (((((((((list1.getD (i13 : Int).toNat (ByteArray.empty, (0, (0, (0, (0, (0, (0, (0, 0))))))))).2).2).2).2).2).2).2).2))) (IntKind.i64.wrap (i13 + 1)) p4
                    else
                      none
                  else
                    L4 list1 counts2 day3 (IntKind.i64.wrap (net9 + (IntKind.i64.wrap ((((((((((list1.getD (i13 : Int).toNat (ByteArray.empty, (0, (0, (0, (0, (0, (0, (0, 0))))))))).2).2).2).2).2).2).2).1) * (counts2.getD (i13 : Int).toNat 0))))) (decide ((p4.2.2.2.1 : Int) < ((((list1.getD (i13 : Int).toNat (ByteArray.empty, (0, (0, (0, (0, (0, (0, (0, 0))))))))).2).2).1))) (!r1) true (IntKind.i64.wrap (i13 + 1)) p4
                else
                  none
              else if group12 = false then
                if (0 : Int) ≤ i13 ∧ (i13 : Int) < list1.length then
                  L4 list1 counts2 day3 (IntKind.i64.wrap (net9 + (IntKind.i64.wrap ((((((((((list1.getD (i13 : Int).toNat (ByteArray.empty, (0, (0, (0, (0, (0, (0, (0, 0))))))))).2).2).2).2).2).2).2).1) * (counts2.getD (i13 : Int).toNat 0))))) (decide ((p4.2.2.2.1 : Int) < ((((list1.getD (i13 : Int).toNat (ByteArray.empty, (0, (0, (0, (0, (0, (0, (0, 0))))))))).2).2).1))) true (decide ((p4.2.2.2.2.2 : Int) < (((((((((list1.getD (i13 : Int).toNat (ByteArray.empty, (0, (0, (0, (0, (0, (0, (0, 0))))))))).2).2).2).2).2).2).2).2))) (IntKind.i64.wrap (i13 + 1)) p4
                else
                  none
              else
                L4 list1 counts2 day3 (IntKind.i64.wrap (net9 + (IntKind.i64.wrap ((((((((((list1.getD (i13 : Int).toNat (ByteArray.empty, (0, (0, (0, (0, (0, (0, (0, 0))))))))).2).2).2).2).2).2).2).1) * (counts2.getD (i13 : Int).toNat 0))))) (decide ((p4.2.2.2.1 : Int) < ((((list1.getD (i13 : Int).toNat (ByteArray.empty, (0, (0, (0, (0, (0, (0, (0, 0))))))))).2).2).1))) true true (IntKind.i64.wrap (i13 + 1)) p4
            else
              none
          else if kind11 = false then
            if (0 : Int) ≤ i13 ∧ (i13 : Int) < list1.length then
              (spec_l01Has.f p4.2.2.2.2.1 (((list1.getD (i13 : Int).toNat (ByteArray.empty, (0, (0, (0, (0, (0, (0, (0, 0))))))))).2).1)).bind fun r2 =>
              if group12 = false then
                if (0 : Int) ≤ i13 ∧ (i13 : Int) < list1.length then
                  L4 list1 counts2 day3 (IntKind.i64.wrap (net9 + (IntKind.i64.wrap ((((((((((list1.getD (i13 : Int).toNat (ByteArray.empty, (0, (0, (0, (0, (0, (0, (0, 0))))))))).2).2).2).2).2).2).2).1) * (counts2.getD (i13 : Int).toNat 0))))) true (!r2) (decide ((p4.2.2.2.2.2 : Int) < (((((((((list1.getD (i13 : Int).toNat (ByteArray.empty, (0, (0, (0, (0, (0, (0, (0, 0))))))))).2).2).2).2).2).2).2).2))) (IntKind.i64.wrap (i13 + 1)) p4
                else
                  none
              else
                L4 list1 counts2 day3 (IntKind.i64.wrap (net9 + (IntKind.i64.wrap ((((((((((list1.getD (i13 : Int).toNat (ByteArray.empty, (0, (0, (0, (0, (0, (0, (0, 0))))))))).2).2).2).2).2).2).2).1) * (counts2.getD (i13 : Int).toNat 0))))) true (!r2) true (IntKind.i64.wrap (i13 + 1)) p4
            else
              none
          else if group12 = false then
            if (0 : Int) ≤ i13 ∧ (i13 : Int) < list1.length then
              L4 list1 counts2 day3 (IntKind.i64.wrap (net9 + (IntKind.i64.wrap ((((((((((list1.getD (i13 : Int).toNat (ByteArray.empty, (0, (0, (0, (0, (0, (0, (0, 0))))))))).2).2).2).2).2).2).2).1) * (counts2.getD (i13 : Int).toNat 0))))) true true (decide ((p4.2.2.2.2.2 : Int) < (((((((((list1.getD (i13 : Int).toNat (ByteArray.empty, (0, (0, (0, (0, (0, (0, (0, 0))))))))).2).2).2).2).2).2).2).2))) (IntKind.i64.wrap (i13 + 1)) p4
            else
              none
          else
            L4 list1 counts2 day3 (IntKind.i64.wrap (net9 + (IntKind.i64.wrap ((((((((((list1.getD (i13 : Int).toNat (ByteArray.empty, (0, (0, (0, (0, (0, (0, (0, 0))))))))).2).2).2).2).2).2).2).1) * (counts2.getD (i13 : Int).toNat 0))))) true true true (IntKind.i64.wrap (i13 + 1)) p4
        else
          none
      else
        none
    else
      none
  else
    (spec_l01In.f day3 p4.1 p4.2.1).bind fun r3 =>
    I14 0 1 0 ([!r3, decide ((p4.2.2.1 : Int) < net9), calibre10, kind11, group12])
def spec_l30Refusals.l4 (n : Nat) : Nat → (List (ByteArray × Int × Int × Int × Int × Int × Int × Int × Int)) → List Int → Int → Int → Bool → Bool → Bool → Int → (Int × Int × Int × Int × List Int × Int) → Option Int
  | 0 => fun _ _ _ _ _ _ _ _ _ => none
  | k + 1 => spec_l30Refusals.g4 (spec_l30Refusals.l14 n n) (spec_l30Refusals.l4 n k)
def spec_l30Refusals.top (I4 : (List (ByteArray × Int × Int × Int × Int × Int × Int × Int × Int)) → List Int → Int → Int → Bool → Bool → Bool → Int → (Int × Int × Int × Int × List Int × Int) → Option Int) (p0 : Int × Int × Int × Int × List Int × Int) (list1 : List (ByteArray × Int × Int × Int × Int × Int × Int × Int × Int)) (counts2 : List Int) (day3 : Int) : Option Int :=
  I4 list1 counts2 day3 0 false false false 0 p0
def spec_l30Refusals.fn (n : Nat) (p0 : Int × Int × Int × Int × List Int × Int) (list1 : List (ByteArray × Int × Int × Int × Int × Int × Int × Int × Int)) (counts2 : List Int) (day3 : Int) : Option Int := spec_l30Refusals.top (spec_l30Refusals.l4 n n) p0 list1 counts2 day3
def spec_l30Refusals.f (p0 : Int × Int × Int × Int × List Int × Int) (list1 : List (ByteArray × Int × Int × Int × Int × Int × Int × Int × Int)) (counts2 : List Int) (day3 : Int) : Option Int := spec_l30Refusals.fn NN p0 list1 counts2 day3
end
end Go.Pl

namespace Go.Pl
open Go.Ev
set_option linter.unusedVariables false
noncomputable section
def spec_RefusalsOf.top (p0 : Int × Int × Int × Int × List Int × Int) (list1 : List (ByteArray × Int × Int × Int × Int × Int × Int × Int × Int)) (counts2 : List Int) (day3 : Int) : Option (Int × Int) :=
  (spec_l30Code.f ([p0]) list1 counts2 day3).bind fun r1 =>
  if ((r1 : Int) != 0) = true then
    some (0, r1)
  else
    (spec_l30Refusals.f p0 list1 counts2 day3).bind fun r2 =>
    some (r2, 0)
def spec_RefusalsOf.fn (n : Nat) (p0 : Int × Int × Int × Int × List Int × Int) (list1 : List (ByteArray × Int × Int × Int × Int × Int × Int × Int × Int)) (counts2 : List Int) (day3 : Int) : Option (Int × Int) := spec_RefusalsOf.top p0 list1 counts2 day3
def spec_RefusalsOf.f (p0 : Int × Int × Int × Int × List Int × Int) (list1 : List (ByteArray × Int × Int × Int × Int × Int × Int × Int × Int)) (counts2 : List Int) (day3 : Int) : Option (Int × Int) := spec_RefusalsOf.fn NN p0 list1 counts2 day3
end
end Go.Pl
