/- Part 2 of what the law FnBookedOnce stands on: an evaluator of the model's code, proved sound; the functions as plain texts; their contracts. -/
import Derived.Test.YtgddpcjbjkbpcaaChecked
import Derived.Test.YtgddpcjbjkbpcaaProg
import Derived.Test.YtgddpcjbjkbpcaaRows
import Derived.Below
import Derived.Calls
import Derived.Carry
import Derived.ChangeArms
import Derived.ChangeKeysEq
import Derived.ChangeOld
import Derived.Deep.Quiet
import Derived.KernelRfl
import Derived.Laws.Append
import Derived.Laws.BytesString
import Derived.Laws.MakeOwn
import Derived.Laws.Strings
import Derived.Laws.StructEq
import Derived.OpenShut
import Derived.OrdersHeld
import Derived.ProofKit
import Derived.ShutString
import Derived.SizedLaws
import Derived.Tactics
import Derived.WalkKit
import Derived.WideShapes
import Derived.Test.YtgddpcjbjkbpcaaEvBookedOnce1
namespace Go.Ev.Try
open Go.Proofs Go.Pl
set_option linter.unusedVariables false
noncomputable section
def impl_beatTime.st3 (list0 : List (Int × Int)) (bar1 : Int) (beat2 : Int) (t7 : Int) (v12 : List (Int × Int)) (v13 : Int) (v14 : Int) : St := ⟨[.dat (.sl 177 (.pair (.int .i64) (.int .i64))) list0, .dat (.int .i64) bar1, .dat (.int .i64) beat2, .gone, .gone, .gone, .gone, .dat (.int .i64) t7, .gone, .gone, .gone, .gone, .dat (.sl 177 (.pair (.int .i64) (.int .i64))) v12, .dat (.int .i64) v13, .dat (.int .i64) v14, .gone, .gone, .gone, .gone, .gone, .gone, .gone, .gone, .gone, .gone, .gone, .gone, .gone, .gone, .gone, .gone, .gone, .gone, .gone, .gone, .gone, .gone, .gone], []⟩
def impl_beatTime.con : Con := { ps := [(.val, (.sl 177 (.pair (.int .i64) (.int .i64)))), (.val, (.int .i64)), (.val, (.int .i64))], rs := [(.val, (.int .i64))], F := fun x => impl_beatTime.f x.1 x.2.1 x.2.2 }
def impl_beatTime.cs : List (FuncId × Con) := []
def impl_beatTime.E : Env := envOf tab impl_beatTime.cs 0 false
def impl_beatTime.keep (i : Nat) : List Nat := if i = 3 then [0, 1, 2, 7, 12, 13, 14] else []
def impl_beatTime.at3 (n : Nat) (x : (List (Int × Int)) × Int × Int) : Code × (Ex → St → Option (Int)) := ctx impl_beatTime.E impl_beatTime.keep n [.snd, .snd, .fst, .snd, .blk] (codeOf Try.f166) (kEnd impl_beatTime.E Try.f166 impl_beatTime.con x)
def impl_beatTime.LN3 (n : Nat) (x : (List (Int × Int)) × Int × Int) : Nat → St → Option (Int) := loopN (exec impl_beatTime.E impl_beatTime.keep n (bodyOf (impl_beatTime.at3 n x).1)) (St.norm 0 (impl_beatTime.keep 3)) (impl_beatTime.at3 n x).2
set_option maxRecDepth 100000 in
theorem impl_beatTime.lem3 (n : Nat) (x : (List (Int × Int)) × Int × Int) : ∀ (k : Nat) (list0 : List (Int × Int)) (bar1 : Int) (beat2 : Int) (t7 : Int) (v12 : List (Int × Int)) (v13 : Int) (v14 : Int), impl_beatTime.LN3 n x k (impl_beatTime.st3 list0 bar1 beat2 t7 v12 v13 v14) = impl_beatTime.l3 n k list0 bar1 beat2 t7 v12 v13 v14 := by
  intro k
  induction k with
  | zero => intro list0 bar1 beat2 t7 v12 v13 v14; rfl
  | succ k ih =>
    intro list0 bar1 beat2 t7 v12 v13 v14
    have h : impl_beatTime.LN3 n x (k + 1) (impl_beatTime.st3 list0 bar1 beat2 t7 v12 v13 v14) = impl_beatTime.g3 (fun list0 bar1 beat2 t7 v12 v13 v14 => impl_beatTime.LN3 n x k (impl_beatTime.st3 list0 bar1 beat2 t7 v12 v13 v14)) list0 bar1 beat2 t7 v12 v13 v14 := by kernel_rfl
    rw [h]
    simp only [ih]
    rfl
set_option maxRecDepth 100000 in
theorem impl_beatTime.body (n : Nat) (x : (List (Int × Int)) × Int × Int) : bodyF impl_beatTime.E impl_beatTime.keep n Try.f166 impl_beatTime.con x = impl_beatTime.fn n x.1 x.2.1 x.2.2 := by
  have h : bodyF impl_beatTime.E impl_beatTime.keep n Try.f166 impl_beatTime.con x = impl_beatTime.top (fun list0 bar1 beat2 t7 v12 v13 v14 => impl_beatTime.LN3 n x n (impl_beatTime.st3 list0 bar1 beat2 t7 v12 v13 v14)) x.1 x.2.1 x.2.2 := by kernel_rfl
  rw [h]
  simp only [impl_beatTime.lem3]
  rfl
set_option maxRecDepth 100000 in
theorem impl_beatTime.good : Good Try.prog 166 impl_beatTime.con :=
  good_of tabok (cs := impl_beatTime.cs) trivial 0 false (fn := Try.f166) Try.func166 rfl (by decide) (by simp [impl_beatTime.con]) impl_beatTime.keep NN (fun _ => rfl) (fun x => impl_beatTime.body NN x)
end
end Go.Ev.Try

namespace Go.Ev.Try
open Go.Proofs Go.Pl
set_option linter.unusedVariables false
noncomputable section
def impl_firedAt.con : Con := { ps := [(.val, (.pair (.sl 177 (.pair (.int .i64) (.int .i64))) (.pair (.sl 142 (.pair .str (.pair (.int .i64) (.pair (.int .i64) (.pair (.int .i64) (.pair (.int .i64) (.pair (.int .i64) (.pair (.int .i64) (.pair (.int .i64) (.int .i64)))))))))) (.sl 147 (.pair (.int .i64) (.pair (.int .i64) (.pair .str (.int .i64)))))))), (.val, (.pair (.int .i64) (.pair (.int .i64) (.pair .str (.int .i64)))))], rs := [(.val, (.int .i64))], F := fun x => impl_firedAt.f x.1 x.2 }
def impl_firedAt.cs : List (FuncId × Con) := [(116, impl_articleOf.con), (165, impl_isBeat.con), (166, impl_beatTime.con)]
def impl_firedAt.E : Env := envOf tab impl_firedAt.cs 0 false
def impl_firedAt.keep (i : Nat) : List Nat := []
set_option maxRecDepth 100000 in
theorem impl_firedAt.body (n : Nat) (x : ((List (Int × Int)) × (List (ByteArray × Int × Int × Int × Int × Int × Int × Int × Int)) × List (Int × Int × ByteArray × Int)) × Int × Int × ByteArray × Int) : bodyF impl_firedAt.E impl_firedAt.keep n Try.f149 impl_firedAt.con x = impl_firedAt.fn n x.1 x.2 := by
  have h : bodyF impl_firedAt.E impl_firedAt.keep n Try.f149 impl_firedAt.con x = impl_firedAt.top x.1 x.2 := by kernel_rfl
  exact h
set_option maxRecDepth 100000 in
theorem impl_firedAt.good : Good Try.prog 149 impl_firedAt.con :=
  good_of tabok (cs := impl_firedAt.cs) ⟨impl_articleOf.good, impl_isBeat.good, impl_beatTime.good, trivial⟩ 0 false (fn := Try.f149) Try.func149 rfl (by decide) (by simp [impl_firedAt.con]) impl_firedAt.keep NN (fun _ => rfl) (fun x => impl_firedAt.body NN x)
end
end Go.Ev.Try

namespace Go.Ev.Try
open Go.Proofs Go.Pl
set_option linter.unusedVariables false
noncomputable section
def impl_IsShow.st4 (v22 : List (Int × Int × ByteArray × Int)) (v23 : Int) (v24 : Int) (x1 : (List (Int × Int)) × (List (ByteArray × Int × Int × Int × Int × Int × Int × Int × Int)) × List (Int × Int × ByteArray × Int)) : St := ⟨[.gone, .ptr 0 [], .gone, .gone, .gone, .gone, .gone, .gone, .gone, .gone, .gone, .gone, .gone, .gone, .gone, .gone, .gone, .gone, .gone, .gone, .gone, .gone, .dat (.sl 147 (.pair (.int .i64) (.pair (.int .i64) (.pair .str (.int .i64))))) v22, .dat (.int .i64) v23, .dat (.int .i64) v24, .gone, .gone, .gone, .gone, .gone, .gone, .gone, .gone, .gone, .gone, .gone, .gone, .gone, .gone], [.box 86 (.pair (.sl 177 (.pair (.int .i64) (.int .i64))) (.pair (.sl 142 (.pair .str (.pair (.int .i64) (.pair (.int .i64) (.pair (.int .i64) (.pair (.int .i64) (.pair (.int .i64) (.pair (.int .i64) (.pair (.int .i64) (.int .i64)))))))))) (.sl 147 (.pair (.int .i64) (.pair (.int .i64) (.pair .str (.int .i64))))))) (.dat (.pair (.sl 177 (.pair (.int .i64) (.int .i64))) (.pair (.sl 142 (.pair .str (.pair (.int .i64) (.pair (.int .i64) (.pair (.int .i64) (.pair (.int .i64) (.pair (.int .i64) (.pair (.int .i64) (.pair (.int .i64) (.int .i64)))))))))) (.sl 147 (.pair (.int .i64) (.pair (.int .i64) (.pair .str (.int .i64))))))) x1)]⟩
def impl_IsShow.con : Con := { ps := [(.val, (.pair (.sl 177 (.pair (.int .i64) (.int .i64))) (.pair (.sl 142 (.pair .str (.pair (.int .i64) (.pair (.int .i64) (.pair (.int .i64) (.pair (.int .i64) (.pair (.int .i64) (.pair (.int .i64) (.pair (.int .i64) (.int .i64)))))))))) (.sl 147 (.pair (.int .i64) (.pair (.int .i64) (.pair .str (.int .i64))))))))], rs := [(.val, .bool)], F := fun x => impl_IsShow.f x }
def impl_IsShow.cs : List (FuncId × Con) := [(90, impl_within.con), (146, impl_AreArticles.con), (148, impl_IsScore.con), (149, impl_firedAt.con)]
def impl_IsShow.E : Env := envOf tab impl_IsShow.cs 0 false
def impl_IsShow.keep (i : Nat) : List Nat := if i = 4 then [1, 22, 23, 24] else []
def impl_IsShow.at4 (n : Nat) (x : (List (Int × Int)) × (List (ByteArray × Int × Int × Int × Int × Int × Int × Int × Int)) × List (Int × Int × ByteArray × Int)) : Code × (Ex → St → Option (Bool)) := ctx impl_IsShow.E impl_IsShow.keep n [.snd, .snd, .fst, .snd, .blk] (codeOf Try.f120) (kEnd impl_IsShow.E Try.f120 impl_IsShow.con x)
def impl_IsShow.LN4 (n : Nat) (x : (List (Int × Int)) × (List (ByteArray × Int × Int × Int × Int × Int × Int × Int × Int)) × List (Int × Int × ByteArray × Int)) : Nat → St → Option (Bool) := loopN (exec impl_IsShow.E impl_IsShow.keep n (bodyOf (impl_IsShow.at4 n x).1)) (St.norm 0 (impl_IsShow.keep 4)) (impl_IsShow.at4 n x).2
set_option maxRecDepth 100000 in
theorem impl_IsShow.lem4 (n : Nat) (x : (List (Int × Int)) × (List (ByteArray × Int × Int × Int × Int × Int × Int × Int × Int)) × List (Int × Int × ByteArray × Int)) : ∀ (k : Nat) (v22 : List (Int × Int × ByteArray × Int)) (v23 : Int) (v24 : Int) (x1 : (List (Int × Int)) × (List (ByteArray × Int × Int × Int × Int × Int × Int × Int × Int)) × List (Int × Int × ByteArray × Int)), impl_IsShow.LN4 n x k (impl_IsShow.st4 v22 v23 v24 x1) = impl_IsShow.l4 n k v22 v23 v24 x1 := by
  intro k
  induction k with
  | zero => intro v22 v23 v24 x1; rfl
  | succ k ih =>
    intro v22 v23 v24 x1
    have h : impl_IsShow.LN4 n x (k + 1) (impl_IsShow.st4 v22 v23 v24 x1) = impl_IsShow.g4 (fun v22 v23 v24 x1 => impl_IsShow.LN4 n x k (impl_IsShow.st4 v22 v23 v24 x1)) v22 v23 v24 x1 := by kernel_rfl
    rw [h]
    simp only [ih]
    rfl
set_option maxRecDepth 100000 in
theorem impl_IsShow.body (n : Nat) (x : (List (Int × Int)) × (List (ByteArray × Int × Int × Int × Int × Int × Int × Int × Int)) × List (Int × Int × ByteArray × Int)) : bodyF impl_IsShow.E impl_IsShow.keep n Try.f120 impl_IsShow.con x = impl_IsShow.fn n x := by
  have h : bodyF impl_IsShow.E impl_IsShow.keep n Try.f120 impl_IsShow.con x = impl_IsShow.top (fun v22 v23 v24 x1 => impl_IsShow.LN4 n x n (impl_IsShow.st4 v22 v23 v24 x1)) x := by kernel_rfl
  rw [h]
  simp only [impl_IsShow.lem4]
  rfl
set_option maxRecDepth 100000 in
theorem impl_IsShow.good : Good Try.prog 120 impl_IsShow.con :=
  good_of tabok (cs := impl_IsShow.cs) ⟨impl_within.good, impl_AreArticles.good, impl_IsScore.good, impl_firedAt.good, trivial⟩ 0 false (fn := Try.f120) Try.func120 rfl (by decide) (by simp [impl_IsShow.con]) impl_IsShow.keep NN (fun _ => rfl) (fun x => impl_IsShow.body NN x)
end
end Go.Ev.Try

namespace Go.Ev.Try
open Go.Proofs Go.Pl
set_option linter.unusedVariables false
noncomputable section
def impl_BookShow.st13 (v71 : Int) (v72 : Int) (x4 : (List (Int × Int)) × (List (ByteArray × Int × Int × Int × Int × Int × Int × Int × Int)) × List (Int × Int × ByteArray × Int)) (out11 : List (Int × ByteArray × Int)) (v70 : List Int) : St := ⟨[.gone, .gone, .gone, .gone, .ptr 0 [], .gone, .gone, .gone, .gone, .gone, .gone, .ref 1, .gone, .gone, .gone, .gone, .gone, .gone, .gone, .gone, .gone, .gone, .gone, .gone, .gone, .gone, .gone, .gone, .gone, .gone, .gone, .gone, .gone, .gone, .gone, .gone, .gone, .gone, .gone, .gone, .gone, .gone, .gone, .gone, .gone, .gone, .gone, .gone, .gone, .gone, .gone, .gone, .gone, .gone, .gone, .gone, .gone, .gone, .gone, .gone, .gone, .gone, .gone, .gone, .gone, .gone, .gone, .gone, .gone, .gone, .ref 2, .dat (.int .i64) v71, .dat (.int .i64) v72, .gone, .gone, .gone, .gone, .gone, .gone, .gone, .gone, .gone, .gone, .gone, .gone, .gone, .gone, .gone, .gone, .gone, .gone, .gone, .gone, .gone, .gone, .gone, .gone, .gone], [.box 86 (.pair (.sl 177 (.pair (.int .i64) (.int .i64))) (.pair (.sl 142 (.pair .str (.pair (.int .i64) (.pair (.int .i64) (.pair (.int .i64) (.pair (.int .i64) (.pair (.int .i64) (.pair (.int .i64) (.pair (.int .i64) (.int .i64)))))))))) (.sl 147 (.pair (.int .i64) (.pair (.int .i64) (.pair .str (.int .i64))))))) (.dat (.pair (.sl 177 (.pair (.int .i64) (.int .i64))) (.pair (.sl 142 (.pair .str (.pair (.int .i64) (.pair (.int .i64) (.pair (.int .i64) (.pair (.int .i64) (.pair (.int .i64) (.pair (.int .i64) (.pair (.int .i64) (.int .i64)))))))))) (.sl 147 (.pair (.int .i64) (.pair (.int .i64) (.pair .str (.int .i64))))))) x4), .row 90 (.pair (.int .i64) (.pair .str (.int .i64))) out11 none, .row 2 (.int .i64) v70 none]⟩
def impl_BookShow.st5 (list0 : List (Int × ByteArray × Int)) (fired2 : List Int) (v26 : List Int) (v27 : Int) (v28 : Int) (x4 : (List (Int × Int)) × (List (ByteArray × Int × Int × Int × Int × Int × Int × Int × Int)) × List (Int × Int × ByteArray × Int)) (counts8 : List Int) : St := ⟨[.dat (.sl 90 (.pair (.int .i64) (.pair .str (.int .i64)))) list0, .gone, .dat (.sl 2 (.int .i64)) fired2, .gone, .ptr 0 [], .gone, .gone, .gone, .ref 1, .gone, .gone, .gone, .gone, .gone, .gone, .gone, .gone, .gone, .gone, .gone, .gone, .gone, .gone, .gone, .gone, .gone, .dat (.sl 2 (.int .i64)) v26, .dat (.int .i64) v27, .dat (.int .i64) v28, .gone, .gone, .gone, .gone, .gone, .gone, .gone, .gone, .gone, .gone, .gone, .gone, .gone, .gone, .gone, .gone, .gone, .gone, .gone, .gone, .gone, .gone, .gone, .gone, .gone, .gone, .gone, .gone, .gone, .gone, .gone, .gone, .gone, .gone, .gone, .gone, .gone, .gone, .gone, .gone, .gone, .gone, .gone, .gone, .gone, .gone, .gone, .gone, .gone, .gone, .gone, .gone, .gone, .gone, .gone, .gone, .gone, .gone, .gone, .gone, .gone, .gone, .gone, .gone, .gone, .gone, .gone, .gone, .gone], [.box 86 (.pair (.sl 177 (.pair (.int .i64) (.int .i64))) (.pair (.sl 142 (.pair .str (.pair (.int .i64) (.pair (.int .i64) (.pair (.int .i64) (.pair (.int .i64) (.pair (.int .i64) (.pair (.int .i64) (.pair (.int .i64) (.int .i64)))))))))) (.sl 147 (.pair (.int .i64) (.pair (.int .i64) (.pair .str (.int .i64))))))) (.dat (.pair (.sl 177 (.pair (.int .i64) (.int .i64))) (.pair (.sl 142 (.pair .str (.pair (.int .i64) (.pair (.int .i64) (.pair (.int .i64) (.pair (.int .i64) (.pair (.int .i64) (.pair (.int .i64) (.pair (.int .i64) (.int .i64)))))))))) (.sl 147 (.pair (.int .i64) (.pair (.int .i64) (.pair .str (.int .i64))))))) x4), .row 2 (.int .i64) counts8 none]⟩
def impl_BookShow.con : Con := { ps := [(.val, (.sl 90 (.pair (.int .i64) (.pair .str (.int .i64))))), (.val, (.pair (.sl 177 (.pair (.int .i64) (.int .i64))) (.pair (.sl 142 (.pair .str (.pair (.int .i64) (.pair (.int .i64) (.pair (.int .i64) (.pair (.int .i64) (.pair (.int .i64) (.pair (.int .i64) (.pair (.int .i64) (.int .i64)))))))))) (.sl 147 (.pair (.int .i64) (.pair (.int .i64) (.pair .str (.int .i64)))))))), (.val, (.sl 2 (.int .i64)))], rs := [(.own, (.sl 90 (.pair (.int .i64) (.pair .str (.int .i64))))), (.own, (.int .i64))], F := fun x => impl_BookShow.f x.1 x.2.1 x.2.2 }
def impl_BookShow.cs : List (FuncId × Con) := [(84, impl_AreBookings.con), (116, impl_articleOf.con), (120, impl_IsShow.con), (121, impl_isIndex.con)]
def impl_BookShow.E : Env := envOf tab impl_BookShow.cs 0 false
def impl_BookShow.keep (i : Nat) : List Nat := if i = 13 then [4, 11, 70, 71, 72] else if i = 5 then [0, 2, 4, 8, 26, 27, 28] else []
def impl_BookShow.at13 (n : Nat) (x : (List (Int × ByteArray × Int)) × ((List (Int × Int)) × (List (ByteArray × Int × Int × Int × Int × Int × Int × Int × Int)) × List (Int × Int × ByteArray × Int)) × List Int) : Code × (Ex → St → Option (((List (Int × ByteArray × Int)) × Int))) := ctx impl_BookShow.E impl_BookShow.keep n [.snd, .snd, .snd, .snd, .snd, .fst, .snd, .blk] (codeOf Try.f61) (kEnd impl_BookShow.E Try.f61 impl_BookShow.con x)
def impl_BookShow.LN13 (n : Nat) (x : (List (Int × ByteArray × Int)) × ((List (Int × Int)) × (List (ByteArray × Int × Int × Int × Int × Int × Int × Int × Int)) × List (Int × Int × ByteArray × Int)) × List Int) : Nat → St → Option (((List (Int × ByteArray × Int)) × Int)) := loopN (exec impl_BookShow.E impl_BookShow.keep n (bodyOf (impl_BookShow.at13 n x).1)) (St.norm 0 (impl_BookShow.keep 13)) (impl_BookShow.at13 n x).2
def impl_BookShow.at5 (n : Nat) (x : (List (Int × ByteArray × Int)) × ((List (Int × Int)) × (List (ByteArray × Int × Int × Int × Int × Int × Int × Int × Int)) × List (Int × Int × ByteArray × Int)) × List Int) : Code × (Ex → St → Option (((List (Int × ByteArray × Int)) × Int))) := ctx impl_BookShow.E impl_BookShow.keep n [.snd, .snd, .snd, .fst, .snd, .blk] (codeOf Try.f61) (kEnd impl_BookShow.E Try.f61 impl_BookShow.con x)
def impl_BookShow.LN5 (n : Nat) (x : (List (Int × ByteArray × Int)) × ((List (Int × Int)) × (List (ByteArray × Int × Int × Int × Int × Int × Int × Int × Int)) × List (Int × Int × ByteArray × Int)) × List Int) : Nat → St → Option (((List (Int × ByteArray × Int)) × Int)) := loopN (exec impl_BookShow.E impl_BookShow.keep n (bodyOf (impl_BookShow.at5 n x).1)) (St.norm 0 (impl_BookShow.keep 5)) (impl_BookShow.at5 n x).2
set_option maxRecDepth 100000 in
theorem impl_BookShow.lem13 (n : Nat) (x : (List (Int × ByteArray × Int)) × ((List (Int × Int)) × (List (ByteArray × Int × Int × Int × Int × Int × Int × Int × Int)) × List (Int × Int × ByteArray × Int)) × List Int) : ∀ (k : Nat) (v71 : Int) (v72 : Int) (x4 : (List (Int × Int)) × (List (ByteArray × Int × Int × Int × Int × Int × Int × Int × Int)) × List (Int × Int × ByteArray × Int)) (out11 : List (Int × ByteArray × Int)) (v70 : List Int), impl_BookShow.LN13 n x k (impl_BookShow.st13 v71 v72 x4 out11 v70) = impl_BookShow.l13 n k v71 v72 x4 out11 v70 := by
  intro k
  induction k with
  | zero => intro v71 v72 x4 out11 v70; rfl
  | succ k ih =>
    intro v71 v72 x4 out11 v70
    have h : impl_BookShow.LN13 n x (k + 1) (impl_BookShow.st13 v71 v72 x4 out11 v70) = impl_BookShow.g13 (fun v71 v72 x4 out11 v70 => impl_BookShow.LN13 n x k (impl_BookShow.st13 v71 v72 x4 out11 v70)) v71 v72 x4 out11 v70 := by kernel_rfl
    rw [h]
    simp only [ih]
    rfl
set_option maxRecDepth 100000 in
theorem impl_BookShow.lem5 (n : Nat) (x : (List (Int × ByteArray × Int)) × ((List (Int × Int)) × (List (ByteArray × Int × Int × Int × Int × Int × Int × Int × Int)) × List (Int × Int × ByteArray × Int)) × List Int) : ∀ (k : Nat) (list0 : List (Int × ByteArray × Int)) (fired2 : List Int) (v26 : List Int) (v27 : Int) (v28 : Int) (x4 : (List (Int × Int)) × (List (ByteArray × Int × Int × Int × Int × Int × Int × Int × Int)) × List (Int × Int × ByteArray × Int)) (counts8 : List Int), impl_BookShow.LN5 n x k (impl_BookShow.st5 list0 fired2 v26 v27 v28 x4 counts8) = impl_BookShow.l5 n k list0 fired2 v26 v27 v28 x4 counts8 := by
  intro k
  induction k with
  | zero => intro list0 fired2 v26 v27 v28 x4 counts8; rfl
  | succ k ih =>
    intro list0 fired2 v26 v27 v28 x4 counts8
    have h : impl_BookShow.LN5 n x (k + 1) (impl_BookShow.st5 list0 fired2 v26 v27 v28 x4 counts8) = impl_BookShow.g5 (fun v71 v72 x4 out11 v70 => impl_BookShow.LN13 n x n (impl_BookShow.st13 v71 v72 x4 out11 v70)) (fun list0 fired2 v26 v27 v28 x4 counts8 => impl_BookShow.LN5 n x k (impl_BookShow.st5 list0 fired2 v26 v27 v28 x4 counts8)) list0 fired2 v26 v27 v28 x4 counts8 := by kernel_rfl
    rw [h]
    simp only [ih, impl_BookShow.lem13]
    rfl
set_option maxRecDepth 100000 in
theorem impl_BookShow.body (n : Nat) (x : (List (Int × ByteArray × Int)) × ((List (Int × Int)) × (List (ByteArray × Int × Int × Int × Int × Int × Int × Int × Int)) × List (Int × Int × ByteArray × Int)) × List Int) : bodyF impl_BookShow.E impl_BookShow.keep n Try.f61 impl_BookShow.con x = impl_BookShow.fn n x.1 x.2.1 x.2.2 := by
  have h : bodyF impl_BookShow.E impl_BookShow.keep n Try.f61 impl_BookShow.con x = impl_BookShow.top (fun list0 fired2 v26 v27 v28 x4 counts8 => impl_BookShow.LN5 n x n (impl_BookShow.st5 list0 fired2 v26 v27 v28 x4 counts8)) x.1 x.2.1 x.2.2 := by kernel_rfl
  rw [h]
  simp only [impl_BookShow.lem5]
  rfl
set_option maxRecDepth 100000 in
theorem impl_BookShow.good : Good Try.prog 61 impl_BookShow.con :=
  good_of tabok (cs := impl_BookShow.cs) ⟨impl_AreBookings.good, impl_articleOf.good, impl_IsShow.good, impl_isIndex.good, trivial⟩ 0 false (fn := Try.f61) Try.func61 rfl (by decide) (by simp [impl_BookShow.con]) impl_BookShow.keep NN (fun _ => rfl) (fun x => impl_BookShow.body NN x)
end
end Go.Ev.Try

namespace Go.Ev.Try
open Go.Proofs Go.Pl
set_option linter.unusedVariables false
noncomputable section
def spec_l01In.con : Con := { ps := [(.val, (.int .i64)), (.val, (.int .i64)), (.val, (.int .i64))], rs := [(.val, .bool)], F := fun x => spec_l01In.f x.1 x.2.1 x.2.2 }
def spec_l01In.cs : List (FuncId × Con) := []
def spec_l01In.E : Env := envOf tab spec_l01In.cs 0 false
def spec_l01In.keep (i : Nat) : List Nat := []
set_option maxRecDepth 100000 in
theorem spec_l01In.body (n : Nat) (x : Int × Int × Int) : bodyF spec_l01In.E spec_l01In.keep n Try.f87 spec_l01In.con x = spec_l01In.fn n x.1 x.2.1 x.2.2 := by
  have h : bodyF spec_l01In.E spec_l01In.keep n Try.f87 spec_l01In.con x = spec_l01In.top x.1 x.2.1 x.2.2 := by kernel_rfl
  exact h
set_option maxRecDepth 100000 in
theorem spec_l01In.good : Good Try.prog 87 spec_l01In.con :=
  good_of tabok (cs := spec_l01In.cs) trivial 0 false (fn := Try.f87) Try.func87 rfl (by decide) (by simp [spec_l01In.con]) spec_l01In.keep NN (fun _ => rfl) (fun x => spec_l01In.body NN x)
end
end Go.Ev.Try

namespace Go.Ev.Try
open Go.Proofs Go.Pl
set_option linter.unusedVariables false
noncomputable section
def spec_l32Left.st3 (list0 : List (Int × ByteArray × Int)) (article1 : ByteArray) (n2 : Int) (left7 : Int) (i8 : Int) : St := ⟨[.dat (.sl 90 (.pair (.int .i64) (.pair .str (.int .i64)))) list0, .dat .str article1, .dat (.int .i64) n2, .gone, .gone, .gone, .gone, .dat (.int .i64) left7, .dat (.int .i64) i8, .gone, .gone, .gone, .gone, .gone, .gone, .gone, .gone, .gone, .gone, .gone, .gone, .gone, .gone, .gone, .gone, .gone, .gone, .gone, .gone, .gone, .gone, .gone, .gone, .gone, .gone, .gone, .gone, .gone, .gone, .gone, .gone, .gone, .gone, .gone], []⟩
def spec_l32Left.con : Con := { ps := [(.val, (.sl 90 (.pair (.int .i64) (.pair .str (.int .i64))))), (.val, .str), (.val, (.int .i64))], rs := [(.val, (.int .i64))], F := fun x => spec_l32Left.f x.1 x.2.1 x.2.2 }
def spec_l32Left.cs : List (FuncId × Con) := []
def spec_l32Left.E : Env := envOf tab spec_l32Left.cs 0 false
def spec_l32Left.keep (i : Nat) : List Nat := if i = 3 then [0, 1, 2, 7, 8] else []
def spec_l32Left.at3 (n : Nat) (x : (List (Int × ByteArray × Int)) × ByteArray × Int) : Code × (Ex → St → Option (Int)) := ctx spec_l32Left.E spec_l32Left.keep n [.snd, .snd, .fst, .snd, .blk] (codeOf Try.f88) (kEnd spec_l32Left.E Try.f88 spec_l32Left.con x)
def spec_l32Left.LN3 (n : Nat) (x : (List (Int × ByteArray × Int)) × ByteArray × Int) : Nat → St → Option (Int) := loopN (exec spec_l32Left.E spec_l32Left.keep n (bodyOf (spec_l32Left.at3 n x).1)) (St.norm 0 (spec_l32Left.keep 3)) (spec_l32Left.at3 n x).2
set_option maxRecDepth 100000 in
theorem spec_l32Left.lem3 (n : Nat) (x : (List (Int × ByteArray × Int)) × ByteArray × Int) : ∀ (k : Nat) (list0 : List (Int × ByteArray × Int)) (article1 : ByteArray) (n2 : Int) (left7 : Int) (i8 : Int), spec_l32Left.LN3 n x k (spec_l32Left.st3 list0 article1 n2 left7 i8) = spec_l32Left.l3 n k list0 article1 n2 left7 i8 := by
  intro k
  induction k with
  | zero => intro list0 article1 n2 left7 i8; rfl
  | succ k ih =>
    intro list0 article1 n2 left7 i8
    have h : spec_l32Left.LN3 n x (k + 1) (spec_l32Left.st3 list0 article1 n2 left7 i8) = spec_l32Left.g3 (fun list0 article1 n2 left7 i8 => spec_l32Left.LN3 n x k (spec_l32Left.st3 list0 article1 n2 left7 i8)) list0 article1 n2 left7 i8 := by kernel_rfl
    rw [h]
    simp only [ih]
    rfl
set_option maxRecDepth 100000 in
theorem spec_l32Left.body (n : Nat) (x : (List (Int × ByteArray × Int)) × ByteArray × Int) : bodyF spec_l32Left.E spec_l32Left.keep n Try.f88 spec_l32Left.con x = spec_l32Left.fn n x.1 x.2.1 x.2.2 := by
  have h : bodyF spec_l32Left.E spec_l32Left.keep n Try.f88 spec_l32Left.con x = spec_l32Left.top (fun list0 article1 n2 left7 i8 => spec_l32Left.LN3 n x n (spec_l32Left.st3 list0 article1 n2 left7 i8)) x.1 x.2.1 x.2.2 := by kernel_rfl
  rw [h]
  simp only [spec_l32Left.lem3]
  rfl
set_option maxRecDepth 100000 in
theorem spec_l32Left.good : Good Try.prog 88 spec_l32Left.con :=
  good_of tabok (cs := spec_l32Left.cs) trivial 0 false (fn := Try.f88) Try.func88 rfl (by decide) (by simp [spec_l32Left.con]) spec_l32Left.keep NN (fun _ => rfl) (fun x => spec_l32Left.body NN x)
end
end Go.Ev.Try

namespace Go.Ev.Try
open Go.Proofs Go.Pl
set_option linter.unusedVariables false
noncomputable section
def spec_IsWord.st2 (s0 : ByteArray) (i3 : Int) : St := ⟨[.dat .str s0, .gone, .gone, .dat (.int .i64) i3, .gone, .gone, .gone, .gone, .gone, .gone, .gone, .gone, .gone, .gone, .gone, .gone, .gone, .gone, .gone, .gone, .gone, .gone, .gone], []⟩
def spec_IsWord.con : Con := { ps := [(.val, .str)], rs := [(.val, .bool)], F := fun x => spec_IsWord.f x }
def spec_IsWord.cs : List (FuncId × Con) := [(87, spec_l01In.con)]
def spec_IsWord.E : Env := envOf tab spec_IsWord.cs 0 false
def spec_IsWord.keep (i : Nat) : List Nat := if i = 2 then [0, 3] else []
def spec_IsWord.at2 (n : Nat) (x : ByteArray) : Code × (Ex → St → Option (Bool)) := ctx spec_IsWord.E spec_IsWord.keep n [.snd, .fst, .snd, .blk] (codeOf Try.f108) (kEnd spec_IsWord.E Try.f108 spec_IsWord.con x)
def spec_IsWord.LN2 (n : Nat) (x : ByteArray) : Nat → St → Option (Bool) := loopN (exec spec_IsWord.E spec_IsWord.keep n (bodyOf (spec_IsWord.at2 n x).1)) (St.norm 0 (spec_IsWord.keep 2)) (spec_IsWord.at2 n x).2
set_option maxRecDepth 100000 in
theorem spec_IsWord.lem2 (n : Nat) (x : ByteArray) : ∀ (k : Nat) (s0 : ByteArray) (i3 : Int), spec_IsWord.LN2 n x k (spec_IsWord.st2 s0 i3) = spec_IsWord.l2 n k s0 i3 := by
  intro k
  induction k with
  | zero => intro s0 i3; rfl
  | succ k ih =>
    intro s0 i3
    have h : spec_IsWord.LN2 n x (k + 1) (spec_IsWord.st2 s0 i3) = spec_IsWord.g2 (fun s0 i3 => spec_IsWord.LN2 n x k (spec_IsWord.st2 s0 i3)) s0 i3 := by kernel_rfl
    rw [h]
    simp only [ih]
    rfl
set_option maxRecDepth 100000 in
theorem spec_IsWord.body (n : Nat) (x : ByteArray) : bodyF spec_IsWord.E spec_IsWord.keep n Try.f108 spec_IsWord.con x = spec_IsWord.fn n x := by
  have h : bodyF spec_IsWord.E spec_IsWord.keep n Try.f108 spec_IsWord.con x = spec_IsWord.top (fun s0 i3 => spec_IsWord.LN2 n x n (spec_IsWord.st2 s0 i3)) x := by kernel_rfl
  rw [h]
  simp only [spec_IsWord.lem2]
  rfl
set_option maxRecDepth 100000 in
theorem spec_IsWord.good : Good Try.prog 108 spec_IsWord.con :=
  good_of tabok (cs := spec_IsWord.cs) ⟨spec_l01In.good, trivial⟩ 0 false (fn := Try.f108) Try.func108 rfl (by decide) (by simp [spec_IsWord.con]) spec_IsWord.keep NN (fun _ => rfl) (fun x => spec_IsWord.body NN x)
end
end Go.Ev.Try

namespace Go.Ev.Try
open Go.Proofs Go.Pl
set_option linter.unusedVariables false
noncomputable section
def spec_AreBookings.st2 (list0 : List (Int × ByteArray × Int)) (i3 : Int) : St := ⟨[.dat (.sl 90 (.pair (.int .i64) (.pair .str (.int .i64)))) list0, .gone, .gone, .dat (.int .i64) i3, .gone, .gone, .gone, .gone, .gone, .gone, .gone, .gone, .gone, .gone, .gone, .gone, .gone, .gone, .gone, .gone, .gone, .gone, .gone, .gone, .gone, .gone, .gone, .gone, .gone, .gone, .gone, .gone, .gone, .gone, .gone, .gone, .gone, .gone, .gone, .gone, .gone, .gone, .gone], []⟩
def spec_AreBookings.con : Con := { ps := [(.val, (.sl 90 (.pair (.int .i64) (.pair .str (.int .i64)))))], rs := [(.val, .bool)], F := fun x => spec_AreBookings.f x }
def spec_AreBookings.cs : List (FuncId × Con) := [(87, spec_l01In.con), (88, spec_l32Left.con), (108, spec_IsWord.con)]
def spec_AreBookings.E : Env := envOf tab spec_AreBookings.cs 0 false
def spec_AreBookings.keep (i : Nat) : List Nat := if i = 2 then [0, 3] else []
def spec_AreBookings.at2 (n : Nat) (x : List (Int × ByteArray × Int)) : Code × (Ex → St → Option (Bool)) := ctx spec_AreBookings.E spec_AreBookings.keep n [.snd, .fst, .snd, .blk] (codeOf Try.f79) (kEnd spec_AreBookings.E Try.f79 spec_AreBookings.con x)
def spec_AreBookings.LN2 (n : Nat) (x : List (Int × ByteArray × Int)) : Nat → St → Option (Bool) := loopN (exec spec_AreBookings.E spec_AreBookings.keep n (bodyOf (spec_AreBookings.at2 n x).1)) (St.norm 0 (spec_AreBookings.keep 2)) (spec_AreBookings.at2 n x).2
set_option maxRecDepth 100000 in
theorem spec_AreBookings.lem2 (n : Nat) (x : List (Int × ByteArray × Int)) : ∀ (k : Nat) (list0 : List (Int × ByteArray × Int)) (i3 : Int), spec_AreBookings.LN2 n x k (spec_AreBookings.st2 list0 i3) = spec_AreBookings.l2 n k list0 i3 := by
  intro k
  induction k with
  | zero => intro list0 i3; rfl
  | succ k ih =>
    intro list0 i3
    have h : spec_AreBookings.LN2 n x (k + 1) (spec_AreBookings.st2 list0 i3) = spec_AreBookings.g2 (fun list0 i3 => spec_AreBookings.LN2 n x k (spec_AreBookings.st2 list0 i3)) list0 i3 := by kernel_rfl
    rw [h]
    simp only [ih]
    rfl
set_option maxRecDepth 100000 in
theorem spec_AreBookings.body (n : Nat) (x : List (Int × ByteArray × Int)) : bodyF spec_AreBookings.E spec_AreBookings.keep n Try.f79 spec_AreBookings.con x = spec_AreBookings.fn n x := by
  have h : bodyF spec_AreBookings.E spec_AreBookings.keep n Try.f79 spec_AreBookings.con x = spec_AreBookings.top (fun list0 i3 => spec_AreBookings.LN2 n x n (spec_AreBookings.st2 list0 i3)) x := by kernel_rfl
  rw [h]
  simp only [spec_AreBookings.lem2]
  rfl
set_option maxRecDepth 100000 in
theorem spec_AreBookings.good : Good Try.prog 79 spec_AreBookings.con :=
  good_of tabok (cs := spec_AreBookings.cs) ⟨spec_l01In.good, spec_l32Left.good, spec_IsWord.good, trivial⟩ 0 false (fn := Try.f79) Try.func79 rfl (by decide) (by simp [spec_AreBookings.con]) spec_AreBookings.keep NN (fun _ => rfl) (fun x => spec_AreBookings.body NN x)
end
end Go.Ev.Try

namespace Go.Ev.Try
open Go.Proofs Go.Pl
set_option linter.unusedVariables false
noncomputable section
def spec_l32Limits.con : Con := { ps := [(.val, (.sl 90 (.pair (.int .i64) (.pair .str (.int .i64)))))], rs := [(.val, (.int .i64))], F := fun x => spec_l32Limits.f x }
def spec_l32Limits.cs : List (FuncId × Con) := [(79, spec_AreBookings.con)]
def spec_l32Limits.E : Env := envOf tab spec_l32Limits.cs 0 false
def spec_l32Limits.keep (i : Nat) : List Nat := []
set_option maxRecDepth 100000 in
theorem spec_l32Limits.body (n : Nat) (x : List (Int × ByteArray × Int)) : bodyF spec_l32Limits.E spec_l32Limits.keep n Try.f89 spec_l32Limits.con x = spec_l32Limits.fn n x := by
  have h : bodyF spec_l32Limits.E spec_l32Limits.keep n Try.f89 spec_l32Limits.con x = spec_l32Limits.top x := by kernel_rfl
  exact h
set_option maxRecDepth 100000 in
theorem spec_l32Limits.good : Good Try.prog 89 spec_l32Limits.con :=
  good_of tabok (cs := spec_l32Limits.cs) ⟨spec_AreBookings.good, trivial⟩ 0 false (fn := Try.f89) Try.func89 rfl (by decide) (by simp [spec_l32Limits.con]) spec_l32Limits.keep NN (fun _ => rfl) (fun x => spec_l32Limits.body NN x)
end
end Go.Ev.Try

namespace Go.Ev.Try
open Go.Proofs Go.Pl
set_option linter.unusedVariables false
noncomputable section
def spec_l03Find.st2 (list0 : List (ByteArray × Int × Int × Int × Int × Int × Int × Int × Int)) (code1 : ByteArray) (i5 : Int) : St := ⟨[.dat (.sl 142 (.pair .str (.pair (.int .i64) (.pair (.int .i64) (.pair (.int .i64) (.pair (.int .i64) (.pair (.int .i64) (.pair (.int .i64) (.pair (.int .i64) (.int .i64)))))))))) list0, .dat .str code1, .gone, .gone, .gone, .dat (.int .i64) i5, .gone, .gone, .gone, .gone, .gone, .gone, .gone, .gone, .gone, .gone, .gone, .gone, .gone, .gone], []⟩
def spec_l03Find.con : Con := { ps := [(.val, (.sl 142 (.pair .str (.pair (.int .i64) (.pair (.int .i64) (.pair (.int .i64) (.pair (.int .i64) (.pair (.int .i64) (.pair (.int .i64) (.pair (.int .i64) (.int .i64))))))))))), (.val, .str)], rs := [(.val, (.int .i64))], F := fun x => spec_l03Find.f x.1 x.2 }
def spec_l03Find.cs : List (FuncId × Con) := []
def spec_l03Find.E : Env := envOf tab spec_l03Find.cs 0 false
def spec_l03Find.keep (i : Nat) : List Nat := if i = 2 then [0, 1, 5] else []
def spec_l03Find.at2 (n : Nat) (x : (List (ByteArray × Int × Int × Int × Int × Int × Int × Int × Int)) × ByteArray) : Code × (Ex → St → Option (Int)) := ctx spec_l03Find.E spec_l03Find.keep n [.snd, .fst, .snd, .blk] (codeOf Try.f118) (kEnd spec_l03Find.E Try.f118 spec_l03Find.con x)
def spec_l03Find.LN2 (n : Nat) (x : (List (ByteArray × Int × Int × Int × Int × Int × Int × Int × Int)) × ByteArray) : Nat → St → Option (Int) := loopN (exec spec_l03Find.E spec_l03Find.keep n (bodyOf (spec_l03Find.at2 n x).1)) (St.norm 0 (spec_l03Find.keep 2)) (spec_l03Find.at2 n x).2
set_option maxRecDepth 100000 in
theorem spec_l03Find.lem2 (n : Nat) (x : (List (ByteArray × Int × Int × Int × Int × Int × Int × Int × Int)) × ByteArray) : ∀ (k : Nat) (list0 : List (ByteArray × Int × Int × Int × Int × Int × Int × Int × Int)) (code1 : ByteArray) (i5 : Int), spec_l03Find.LN2 n x k (spec_l03Find.st2 list0 code1 i5) = spec_l03Find.l2 n k list0 code1 i5 := by
  intro k
  induction k with
  | zero => intro list0 code1 i5; rfl
  | succ k ih =>
    intro list0 code1 i5
    have h : spec_l03Find.LN2 n x (k + 1) (spec_l03Find.st2 list0 code1 i5) = spec_l03Find.g2 (fun list0 code1 i5 => spec_l03Find.LN2 n x k (spec_l03Find.st2 list0 code1 i5)) list0 code1 i5 := by kernel_rfl
    rw [h]
    simp only [ih]
    rfl
set_option maxRecDepth 100000 in
theorem spec_l03Find.body (n : Nat) (x : (List (ByteArray × Int × Int × Int × Int × Int × Int × Int × Int)) × ByteArray) : bodyF spec_l03Find.E spec_l03Find.keep n Try.f118 spec_l03Find.con x = spec_l03Find.fn n x.1 x.2 := by
  have h : bodyF spec_l03Find.E spec_l03Find.keep n Try.f118 spec_l03Find.con x = spec_l03Find.top (fun list0 code1 i5 => spec_l03Find.LN2 n x n (spec_l03Find.st2 list0 code1 i5)) x.1 x.2 := by kernel_rfl
  rw [h]
  simp only [spec_l03Find.lem2]
  rfl
set_option maxRecDepth 100000 in
theorem spec_l03Find.good : Good Try.prog 118 spec_l03Find.con :=
  good_of tabok (cs := spec_l03Find.cs) trivial 0 false (fn := Try.f118) Try.func118 rfl (by decide) (by simp [spec_l03Find.con]) spec_l03Find.keep NN (fun _ => rfl) (fun x => spec_l03Find.body NN x)
end
end Go.Ev.Try

namespace Go.Ev.Try
open Go.Proofs Go.Pl
set_option linter.unusedVariables false
noncomputable section
def spec_IsArticle.con : Con := { ps := [(.val, (.pair .str (.pair (.int .i64) (.pair (.int .i64) (.pair (.int .i64) (.pair (.int .i64) (.pair (.int .i64) (.pair (.int .i64) (.pair (.int .i64) (.int .i64))))))))))], rs := [(.val, .bool)], F := fun x => spec_IsArticle.f x }
def spec_IsArticle.cs : List (FuncId × Con) := [(87, spec_l01In.con), (108, spec_IsWord.con)]
def spec_IsArticle.E : Env := envOf tab spec_IsArticle.cs 0 false
def spec_IsArticle.keep (i : Nat) : List Nat := []
set_option maxRecDepth 100000 in
theorem spec_IsArticle.body (n : Nat) (x : ByteArray × Int × Int × Int × Int × Int × Int × Int × Int) : bodyF spec_IsArticle.E spec_IsArticle.keep n Try.f164 spec_IsArticle.con x = spec_IsArticle.fn n x := by
  have h : bodyF spec_IsArticle.E spec_IsArticle.keep n Try.f164 spec_IsArticle.con x = spec_IsArticle.top x := by kernel_rfl
  exact h
set_option maxRecDepth 100000 in
theorem spec_IsArticle.good : Good Try.prog 164 spec_IsArticle.con :=
  good_of tabok (cs := spec_IsArticle.cs) ⟨spec_l01In.good, spec_IsWord.good, trivial⟩ 0 false (fn := Try.f164) Try.func164 rfl (by decide) (by simp [spec_IsArticle.con]) spec_IsArticle.keep NN (fun _ => rfl) (fun x => spec_IsArticle.body NN x)
end
end Go.Ev.Try

namespace Go.Ev.Try
open Go.Proofs Go.Pl
set_option linter.unusedVariables false
noncomputable section
def spec_AreArticles.st2 (list0 : List (ByteArray × Int × Int × Int × Int × Int × Int × Int × Int)) (i3 : Int) : St := ⟨[.dat (.sl 142 (.pair .str (.pair (.int .i64) (.pair (.int .i64) (.pair (.int .i64) (.pair (.int .i64) (.pair (.int .i64) (.pair (.int .i64) (.pair (.int .i64) (.int .i64)))))))))) list0, .gone, .gone, .dat (.int .i64) i3, .gone, .gone, .gone, .gone, .gone, .gone, .gone, .gone, .gone, .gone, .gone, .gone, .gone, .gone, .gone, .gone, .gone, .gone, .gone, .gone, .gone, .gone, .gone, .gone, .gone, .gone, .gone, .gone, .gone, .gone, .gone, .gone, .gone], []⟩
def spec_AreArticles.con : Con := { ps := [(.val, (.sl 142 (.pair .str (.pair (.int .i64) (.pair (.int .i64) (.pair (.int .i64) (.pair (.int .i64) (.pair (.int .i64) (.pair (.int .i64) (.pair (.int .i64) (.int .i64)))))))))))], rs := [(.val, .bool)], F := fun x => spec_AreArticles.f x }
def spec_AreArticles.cs : List (FuncId × Con) := [(164, spec_IsArticle.con)]
def spec_AreArticles.E : Env := envOf tab spec_AreArticles.cs 0 false
def spec_AreArticles.keep (i : Nat) : List Nat := if i = 2 then [0, 3] else []
def spec_AreArticles.at2 (n : Nat) (x : List (ByteArray × Int × Int × Int × Int × Int × Int × Int × Int)) : Code × (Ex → St → Option (Bool)) := ctx spec_AreArticles.E spec_AreArticles.keep n [.snd, .fst, .snd, .blk] (codeOf Try.f147) (kEnd spec_AreArticles.E Try.f147 spec_AreArticles.con x)
def spec_AreArticles.LN2 (n : Nat) (x : List (ByteArray × Int × Int × Int × Int × Int × Int × Int × Int)) : Nat → St → Option (Bool) := loopN (exec spec_AreArticles.E spec_AreArticles.keep n (bodyOf (spec_AreArticles.at2 n x).1)) (St.norm 0 (spec_AreArticles.keep 2)) (spec_AreArticles.at2 n x).2
set_option maxRecDepth 100000 in
theorem spec_AreArticles.lem2 (n : Nat) (x : List (ByteArray × Int × Int × Int × Int × Int × Int × Int × Int)) : ∀ (k : Nat) (list0 : List (ByteArray × Int × Int × Int × Int × Int × Int × Int × Int)) (i3 : Int), spec_AreArticles.LN2 n x k (spec_AreArticles.st2 list0 i3) = spec_AreArticles.l2 n k list0 i3 := by
  intro k
  induction k with
  | zero => intro list0 i3; rfl
  | succ k ih =>
    intro list0 i3
    have h : spec_AreArticles.LN2 n x (k + 1) (spec_AreArticles.st2 list0 i3) = spec_AreArticles.g2 (fun list0 i3 => spec_AreArticles.LN2 n x k (spec_AreArticles.st2 list0 i3)) list0 i3 := by kernel_rfl
    rw [h]
    simp only [ih]
    rfl
set_option maxRecDepth 100000 in
theorem spec_AreArticles.body (n : Nat) (x : List (ByteArray × Int × Int × Int × Int × Int × Int × Int × Int)) : bodyF spec_AreArticles.E spec_AreArticles.keep n Try.f147 spec_AreArticles.con x = spec_AreArticles.fn n x := by
  have h : bodyF spec_AreArticles.E spec_AreArticles.keep n Try.f147 spec_AreArticles.con x = spec_AreArticles.top (fun list0 i3 => spec_AreArticles.LN2 n x n (spec_AreArticles.st2 list0 i3)) x := by kernel_rfl
  rw [h]
  simp only [spec_AreArticles.lem2]
  rfl
set_option maxRecDepth 100000 in
theorem spec_AreArticles.good : Good Try.prog 147 spec_AreArticles.con :=
  good_of tabok (cs := spec_AreArticles.cs) ⟨spec_IsArticle.good, trivial⟩ 0 false (fn := Try.f147) Try.func147 rfl (by decide) (by simp [spec_AreArticles.con]) spec_AreArticles.keep NN (fun _ => rfl) (fun x => spec_AreArticles.body NN x)
end
end Go.Ev.Try

namespace Go.Ev.Try
open Go.Proofs Go.Pl
set_option linter.unusedVariables false
noncomputable section
def spec_IsScore.st2 (list0 : List (Int × Int)) (i3 : Int) : St := ⟨[.dat (.sl 177 (.pair (.int .i64) (.int .i64))) list0, .gone, .gone, .dat (.int .i64) i3, .gone, .gone, .gone, .gone, .gone, .gone, .gone, .gone, .gone, .gone, .gone, .gone, .gone, .gone, .gone, .gone, .gone, .gone, .gone, .gone, .gone, .gone, .gone, .gone, .gone], []⟩
def spec_IsScore.con : Con := { ps := [(.val, (.sl 177 (.pair (.int .i64) (.int .i64))))], rs := [(.val, .bool)], F := fun x => spec_IsScore.f x }
def spec_IsScore.cs : List (FuncId × Con) := [(87, spec_l01In.con)]
def spec_IsScore.E : Env := envOf tab spec_IsScore.cs 0 false
def spec_IsScore.keep (i : Nat) : List Nat := if i = 2 then [0, 3] else []
def spec_IsScore.at2 (n : Nat) (x : List (Int × Int)) : Code × (Ex → St → Option (Bool)) := ctx spec_IsScore.E spec_IsScore.keep n [.snd, .fst, .snd, .blk] (codeOf Try.f150) (kEnd spec_IsScore.E Try.f150 spec_IsScore.con x)
def spec_IsScore.LN2 (n : Nat) (x : List (Int × Int)) : Nat → St → Option (Bool) := loopN (exec spec_IsScore.E spec_IsScore.keep n (bodyOf (spec_IsScore.at2 n x).1)) (St.norm 0 (spec_IsScore.keep 2)) (spec_IsScore.at2 n x).2
set_option maxRecDepth 100000 in
theorem spec_IsScore.lem2 (n : Nat) (x : List (Int × Int)) : ∀ (k : Nat) (list0 : List (Int × Int)) (i3 : Int), spec_IsScore.LN2 n x k (spec_IsScore.st2 list0 i3) = spec_IsScore.l2 n k list0 i3 := by
  intro k
  induction k with
  | zero => intro list0 i3; rfl
  | succ k ih =>
    intro list0 i3
    have h : spec_IsScore.LN2 n x (k + 1) (spec_IsScore.st2 list0 i3) = spec_IsScore.g2 (fun list0 i3 => spec_IsScore.LN2 n x k (spec_IsScore.st2 list0 i3)) list0 i3 := by kernel_rfl
    rw [h]
    simp only [ih]
    rfl
set_option maxRecDepth 100000 in
theorem spec_IsScore.body (n : Nat) (x : List (Int × Int)) : bodyF spec_IsScore.E spec_IsScore.keep n Try.f150 spec_IsScore.con x = spec_IsScore.fn n x := by
  have h : bodyF spec_IsScore.E spec_IsScore.keep n Try.f150 spec_IsScore.con x = spec_IsScore.top (fun list0 i3 => spec_IsScore.LN2 n x n (spec_IsScore.st2 list0 i3)) x := by kernel_rfl
  rw [h]
  simp only [spec_IsScore.lem2]
  rfl
set_option maxRecDepth 100000 in
theorem spec_IsScore.good : Good Try.prog 150 spec_IsScore.con :=
  good_of tabok (cs := spec_IsScore.cs) ⟨spec_l01In.good, trivial⟩ 0 false (fn := Try.f150) Try.func150 rfl (by decide) (by simp [spec_IsScore.con]) spec_IsScore.keep NN (fun _ => rfl) (fun x => spec_IsScore.body NN x)
end
end Go.Ev.Try

namespace Go.Ev.Try
open Go.Proofs Go.Pl
set_option linter.unusedVariables false
noncomputable section
def spec_l07Has.con : Con := { ps := [(.val, (.sl 177 (.pair (.int .i64) (.int .i64)))), (.val, (.int .i64)), (.val, (.int .i64))], rs := [(.val, .bool)], F := fun x => spec_l07Has.f x.1 x.2.1 x.2.2 }
def spec_l07Has.cs : List (FuncId × Con) := [(87, spec_l01In.con)]
def spec_l07Has.E : Env := envOf tab spec_l07Has.cs 0 false
def spec_l07Has.keep (i : Nat) : List Nat := []
set_option maxRecDepth 100000 in
theorem spec_l07Has.body (n : Nat) (x : (List (Int × Int)) × Int × Int) : bodyF spec_l07Has.E spec_l07Has.keep n Try.f151 spec_l07Has.con x = spec_l07Has.fn n x.1 x.2.1 x.2.2 := by
  have h : bodyF spec_l07Has.E spec_l07Has.keep n Try.f151 spec_l07Has.con x = spec_l07Has.top x.1 x.2.1 x.2.2 := by kernel_rfl
  exact h
set_option maxRecDepth 100000 in
theorem spec_l07Has.good : Good Try.prog 151 spec_l07Has.con :=
  good_of tabok (cs := spec_l07Has.cs) ⟨spec_l01In.good, trivial⟩ 0 false (fn := Try.f151) Try.func151 rfl (by decide) (by simp [spec_l07Has.con]) spec_l07Has.keep NN (fun _ => rfl) (fun x => spec_l07Has.body NN x)
end
end Go.Ev.Try

namespace Go.Ev.Try
open Go.Proofs Go.Pl
set_option linter.unusedVariables false
noncomputable section
def spec_l07Time.st3 (list0 : List (Int × Int)) (bar1 : Int) (beat2 : Int) (t7 : Int) (i8 : Int) : St := ⟨[.dat (.sl 177 (.pair (.int .i64) (.int .i64))) list0, .dat (.int .i64) bar1, .dat (.int .i64) beat2, .gone, .gone, .gone, .gone, .dat (.int .i64) t7, .dat (.int .i64) i8, .gone, .gone, .gone, .gone, .gone, .gone, .gone, .gone, .gone, .gone, .gone, .gone, .gone, .gone, .gone, .gone, .gone, .gone, .gone, .gone, .gone, .gone, .gone, .gone, .gone, .gone, .gone], []⟩
def spec_l07Time.con : Con := { ps := [(.val, (.sl 177 (.pair (.int .i64) (.int .i64)))), (.val, (.int .i64)), (.val, (.int .i64))], rs := [(.val, (.int .i64))], F := fun x => spec_l07Time.f x.1 x.2.1 x.2.2 }
def spec_l07Time.cs : List (FuncId × Con) := []
def spec_l07Time.E : Env := envOf tab spec_l07Time.cs 0 false
def spec_l07Time.keep (i : Nat) : List Nat := if i = 3 then [0, 1, 2, 7, 8] else []
def spec_l07Time.at3 (n : Nat) (x : (List (Int × Int)) × Int × Int) : Code × (Ex → St → Option (Int)) := ctx spec_l07Time.E spec_l07Time.keep n [.snd, .snd, .fst, .snd, .blk] (codeOf Try.f167) (kEnd spec_l07Time.E Try.f167 spec_l07Time.con x)
def spec_l07Time.LN3 (n : Nat) (x : (List (Int × Int)) × Int × Int) : Nat → St → Option (Int) := loopN (exec spec_l07Time.E spec_l07Time.keep n (bodyOf (spec_l07Time.at3 n x).1)) (St.norm 0 (spec_l07Time.keep 3)) (spec_l07Time.at3 n x).2
set_option maxRecDepth 100000 in
theorem spec_l07Time.lem3 (n : Nat) (x : (List (Int × Int)) × Int × Int) : ∀ (k : Nat) (list0 : List (Int × Int)) (bar1 : Int) (beat2 : Int) (t7 : Int) (i8 : Int), spec_l07Time.LN3 n x k (spec_l07Time.st3 list0 bar1 beat2 t7 i8) = spec_l07Time.l3 n k list0 bar1 beat2 t7 i8 := by
  intro k
  induction k with
  | zero => intro list0 bar1 beat2 t7 i8; rfl
  | succ k ih =>
    intro list0 bar1 beat2 t7 i8
    have h : spec_l07Time.LN3 n x (k + 1) (spec_l07Time.st3 list0 bar1 beat2 t7 i8) = spec_l07Time.g3 (fun list0 bar1 beat2 t7 i8 => spec_l07Time.LN3 n x k (spec_l07Time.st3 list0 bar1 beat2 t7 i8)) list0 bar1 beat2 t7 i8 := by kernel_rfl
    rw [h]
    simp only [ih]
    rfl
set_option maxRecDepth 100000 in
theorem spec_l07Time.body (n : Nat) (x : (List (Int × Int)) × Int × Int) : bodyF spec_l07Time.E spec_l07Time.keep n Try.f167 spec_l07Time.con x = spec_l07Time.fn n x.1 x.2.1 x.2.2 := by
  have h : bodyF spec_l07Time.E spec_l07Time.keep n Try.f167 spec_l07Time.con x = spec_l07Time.top (fun list0 bar1 beat2 t7 i8 => spec_l07Time.LN3 n x n (spec_l07Time.st3 list0 bar1 beat2 t7 i8)) x.1 x.2.1 x.2.2 := by kernel_rfl
  rw [h]
  simp only [spec_l07Time.lem3]
  rfl
set_option maxRecDepth 100000 in
theorem spec_l07Time.good : Good Try.prog 167 spec_l07Time.con :=
  good_of tabok (cs := spec_l07Time.cs) trivial 0 false (fn := Try.f167) Try.func167 rfl (by decide) (by simp [spec_l07Time.con]) spec_l07Time.keep NN (fun _ => rfl) (fun x => spec_l07Time.body NN x)
end
end Go.Ev.Try

namespace Go.Ev.Try
open Go.Proofs Go.Pl
set_option linter.unusedVariables false
noncomputable section
def spec_l08Time.con : Con := { ps := [(.val, (.pair (.sl 177 (.pair (.int .i64) (.int .i64))) (.pair (.sl 142 (.pair .str (.pair (.int .i64) (.pair (.int .i64) (.pair (.int .i64) (.pair (.int .i64) (.pair (.int .i64) (.pair (.int .i64) (.pair (.int .i64) (.int .i64)))))))))) (.sl 147 (.pair (.int .i64) (.pair (.int .i64) (.pair .str (.int .i64)))))))), (.val, (.pair (.int .i64) (.pair (.int .i64) (.pair .str (.int .i64)))))], rs := [(.val, (.int .i64))], F := fun x => spec_l08Time.f x.1 x.2 }
def spec_l08Time.cs : List (FuncId × Con) := [(118, spec_l03Find.con), (167, spec_l07Time.con)]
def spec_l08Time.E : Env := envOf tab spec_l08Time.cs 0 false
def spec_l08Time.keep (i : Nat) : List Nat := []
set_option maxRecDepth 100000 in
theorem spec_l08Time.body (n : Nat) (x : ((List (Int × Int)) × (List (ByteArray × Int × Int × Int × Int × Int × Int × Int × Int)) × List (Int × Int × ByteArray × Int)) × Int × Int × ByteArray × Int) : bodyF spec_l08Time.E spec_l08Time.keep n Try.f152 spec_l08Time.con x = spec_l08Time.fn n x.1 x.2 := by
  have h : bodyF spec_l08Time.E spec_l08Time.keep n Try.f152 spec_l08Time.con x = spec_l08Time.top x.1 x.2 := by kernel_rfl
  exact h
set_option maxRecDepth 100000 in
theorem spec_l08Time.good : Good Try.prog 152 spec_l08Time.con :=
  good_of tabok (cs := spec_l08Time.cs) ⟨spec_l03Find.good, spec_l07Time.good, trivial⟩ 0 false (fn := Try.f152) Try.func152 rfl (by decide) (by simp [spec_l08Time.con]) spec_l08Time.keep NN (fun _ => rfl) (fun x => spec_l08Time.body NN x)
end
end Go.Ev.Try

namespace Go.Ev.Try
open Go.Proofs Go.Pl
set_option linter.unusedVariables false
noncomputable section
def spec_IsShow.st4 (i3 : Int) (x1 : (List (Int × Int)) × (List (ByteArray × Int × Int × Int × Int × Int × Int × Int × Int)) × List (Int × Int × ByteArray × Int)) : St := ⟨[.gone, .ptr 0 [], .gone, .dat (.int .i64) i3, .gone, .gone, .gone, .gone, .gone, .gone, .gone, .gone, .gone, .gone, .gone, .gone, .gone, .gone, .gone, .gone, .gone, .gone, .gone, .gone, .gone, .gone, .gone, .gone, .gone, .gone, .gone, .gone, .gone, .gone, .gone, .gone, .gone, .gone, .gone, .gone, .gone, .gone, .gone, .gone, .gone, .gone, .gone, .gone, .gone, .gone, .gone, .gone, .gone, .gone, .gone, .gone, .gone, .gone, .gone, .gone, .gone], [.box 86 (.pair (.sl 177 (.pair (.int .i64) (.int .i64))) (.pair (.sl 142 (.pair .str (.pair (.int .i64) (.pair (.int .i64) (.pair (.int .i64) (.pair (.int .i64) (.pair (.int .i64) (.pair (.int .i64) (.pair (.int .i64) (.int .i64)))))))))) (.sl 147 (.pair (.int .i64) (.pair (.int .i64) (.pair .str (.int .i64))))))) (.dat (.pair (.sl 177 (.pair (.int .i64) (.int .i64))) (.pair (.sl 142 (.pair .str (.pair (.int .i64) (.pair (.int .i64) (.pair (.int .i64) (.pair (.int .i64) (.pair (.int .i64) (.pair (.int .i64) (.pair (.int .i64) (.int .i64)))))))))) (.sl 147 (.pair (.int .i64) (.pair (.int .i64) (.pair .str (.int .i64))))))) x1)]⟩
def spec_IsShow.con : Con := { ps := [(.val, (.pair (.sl 177 (.pair (.int .i64) (.int .i64))) (.pair (.sl 142 (.pair .str (.pair (.int .i64) (.pair (.int .i64) (.pair (.int .i64) (.pair (.int .i64) (.pair (.int .i64) (.pair (.int .i64) (.pair (.int .i64) (.int .i64)))))))))) (.sl 147 (.pair (.int .i64) (.pair (.int .i64) (.pair .str (.int .i64))))))))], rs := [(.val, .bool)], F := fun x => spec_IsShow.f x }
def spec_IsShow.cs : List (FuncId × Con) := [(87, spec_l01In.con), (118, spec_l03Find.con), (147, spec_AreArticles.con), (150, spec_IsScore.con), (151, spec_l07Has.con), (152, spec_l08Time.con)]
def spec_IsShow.E : Env := envOf tab spec_IsShow.cs 0 false
def spec_IsShow.keep (i : Nat) : List Nat := if i = 4 then [1, 3] else []
def spec_IsShow.at4 (n : Nat) (x : (List (Int × Int)) × (List (ByteArray × Int × Int × Int × Int × Int × Int × Int × Int)) × List (Int × Int × ByteArray × Int)) : Code × (Ex → St → Option (Bool)) := ctx spec_IsShow.E spec_IsShow.keep n [.snd, .snd, .fst, .snd, .blk] (codeOf Try.f122) (kEnd spec_IsShow.E Try.f122 spec_IsShow.con x)
def spec_IsShow.LN4 (n : Nat) (x : (List (Int × Int)) × (List (ByteArray × Int × Int × Int × Int × Int × Int × Int × Int)) × List (Int × Int × ByteArray × Int)) : Nat → St → Option (Bool) := loopN (exec spec_IsShow.E spec_IsShow.keep n (bodyOf (spec_IsShow.at4 n x).1)) (St.norm 0 (spec_IsShow.keep 4)) (spec_IsShow.at4 n x).2
set_option maxRecDepth 100000 in
theorem spec_IsShow.lem4 (n : Nat) (x : (List (Int × Int)) × (List (ByteArray × Int × Int × Int × Int × Int × Int × Int × Int)) × List (Int × Int × ByteArray × Int)) : ∀ (k : Nat) (i3 : Int) (x1 : (List (Int × Int)) × (List (ByteArray × Int × Int × Int × Int × Int × Int × Int × Int)) × List (Int × Int × ByteArray × Int)), spec_IsShow.LN4 n x k (spec_IsShow.st4 i3 x1) = spec_IsShow.l4 n k i3 x1 := by
  intro k
  induction k with
  | zero => intro i3 x1; rfl
  | succ k ih =>
    intro i3 x1
    have h : spec_IsShow.LN4 n x (k + 1) (spec_IsShow.st4 i3 x1) = spec_IsShow.g4 (fun i3 x1 => spec_IsShow.LN4 n x k (spec_IsShow.st4 i3 x1)) i3 x1 := by kernel_rfl
    rw [h]
    simp only [ih]
    rfl
set_option maxRecDepth 100000 in
theorem spec_IsShow.body (n : Nat) (x : (List (Int × Int)) × (List (ByteArray × Int × Int × Int × Int × Int × Int × Int × Int)) × List (Int × Int × ByteArray × Int)) : bodyF spec_IsShow.E spec_IsShow.keep n Try.f122 spec_IsShow.con x = spec_IsShow.fn n x := by
  have h : bodyF spec_IsShow.E spec_IsShow.keep n Try.f122 spec_IsShow.con x = spec_IsShow.top (fun i3 x1 => spec_IsShow.LN4 n x n (spec_IsShow.st4 i3 x1)) x := by kernel_rfl
  rw [h]
  simp only [spec_IsShow.lem4]
  rfl
set_option maxRecDepth 100000 in
theorem spec_IsShow.good : Good Try.prog 122 spec_IsShow.con :=
  good_of tabok (cs := spec_IsShow.cs) ⟨spec_l01In.good, spec_l03Find.good, spec_AreArticles.good, spec_IsScore.good, spec_l07Has.good, spec_l08Time.good, trivial⟩ 0 false (fn := Try.f122) Try.func122 rfl (by decide) (by simp [spec_IsShow.con]) spec_IsShow.keep NN (fun _ => rfl) (fun x => spec_IsShow.body NN x)
end
end Go.Ev.Try

namespace Go.Ev.Try
open Go.Proofs Go.Pl
set_option linter.unusedVariables false
noncomputable section
def spec_l01Rises.st2 (list0 : List Int) (n1 : Int) (i5 : Int) : St := ⟨[.dat (.sl 2 (.int .i64)) list0, .dat (.int .i64) n1, .gone, .gone, .gone, .dat (.int .i64) i5, .gone, .gone, .gone, .gone, .gone, .gone, .gone, .gone, .gone, .gone, .gone, .gone, .gone, .gone, .gone, .gone, .gone, .gone, .gone, .gone, .gone, .gone, .gone, .gone, .gone, .gone, .gone, .gone, .gone, .gone], []⟩
def spec_l01Rises.con : Con := { ps := [(.val, (.sl 2 (.int .i64))), (.val, (.int .i64))], rs := [(.val, .bool)], F := fun x => spec_l01Rises.f x.1 x.2 }
def spec_l01Rises.cs : List (FuncId × Con) := [(87, spec_l01In.con)]
def spec_l01Rises.E : Env := envOf tab spec_l01Rises.cs 0 false
def spec_l01Rises.keep (i : Nat) : List Nat := if i = 2 then [0, 1, 5] else []
def spec_l01Rises.at2 (n : Nat) (x : List Int × Int) : Code × (Ex → St → Option (Bool)) := ctx spec_l01Rises.E spec_l01Rises.keep n [.snd, .fst, .snd, .blk] (codeOf Try.f123) (kEnd spec_l01Rises.E Try.f123 spec_l01Rises.con x)
def spec_l01Rises.LN2 (n : Nat) (x : List Int × Int) : Nat → St → Option (Bool) := loopN (exec spec_l01Rises.E spec_l01Rises.keep n (bodyOf (spec_l01Rises.at2 n x).1)) (St.norm 0 (spec_l01Rises.keep 2)) (spec_l01Rises.at2 n x).2
set_option maxRecDepth 100000 in
theorem spec_l01Rises.lem2 (n : Nat) (x : List Int × Int) : ∀ (k : Nat) (list0 : List Int) (n1 : Int) (i5 : Int), spec_l01Rises.LN2 n x k (spec_l01Rises.st2 list0 n1 i5) = spec_l01Rises.l2 n k list0 n1 i5 := by
  intro k
  induction k with
  | zero => intro list0 n1 i5; rfl
  | succ k ih =>
    intro list0 n1 i5
    have h : spec_l01Rises.LN2 n x (k + 1) (spec_l01Rises.st2 list0 n1 i5) = spec_l01Rises.g2 (fun list0 n1 i5 => spec_l01Rises.LN2 n x k (spec_l01Rises.st2 list0 n1 i5)) list0 n1 i5 := by kernel_rfl
    rw [h]
    simp only [ih]
    rfl
set_option maxRecDepth 100000 in
theorem spec_l01Rises.body (n : Nat) (x : List Int × Int) : bodyF spec_l01Rises.E spec_l01Rises.keep n Try.f123 spec_l01Rises.con x = spec_l01Rises.fn n x.1 x.2 := by
  have h : bodyF spec_l01Rises.E spec_l01Rises.keep n Try.f123 spec_l01Rises.con x = spec_l01Rises.top (fun list0 n1 i5 => spec_l01Rises.LN2 n x n (spec_l01Rises.st2 list0 n1 i5)) x.1 x.2 := by kernel_rfl
  rw [h]
  simp only [spec_l01Rises.lem2]
  rfl
set_option maxRecDepth 100000 in
theorem spec_l01Rises.good : Good Try.prog 123 spec_l01Rises.con :=
  good_of tabok (cs := spec_l01Rises.cs) ⟨spec_l01In.good, trivial⟩ 0 false (fn := Try.f123) Try.func123 rfl (by decide) (by simp [spec_l01Rises.con]) spec_l01Rises.keep NN (fun _ => rfl) (fun x => spec_l01Rises.body NN x)
end
end Go.Ev.Try

namespace Go.Ev.Try
open Go.Proofs Go.Pl
set_option linter.unusedVariables false
noncomputable section
def spec_BookShow.st11 (fired2 : List Int) (k9 : Int) (n10 : Int) (i11 : Int) (x4 : (List (Int × Int)) × (List (ByteArray × Int × Int × Int × Int × Int × Int × Int × Int)) × List (Int × Int × ByteArray × Int)) (out8 : List (Int × ByteArray × Int)) : St := ⟨[.gone, .gone, .dat (.sl 2 (.int .i64)) fired2, .gone, .ptr 0 [], .gone, .gone, .gone, .ref 1, .dat (.int .i64) k9, .dat (.int .i64) n10, .dat (.int .i64) i11, .gone, .gone, .gone, .gone, .gone, .gone, .gone, .gone, .gone, .gone, .gone, .gone, .gone, .gone, .gone, .gone, .gone, .gone, .gone, .gone, .gone, .gone, .gone, .gone, .gone, .gone, .gone, .gone, .gone, .gone, .gone, .gone, .gone, .gone, .gone, .gone, .gone, .gone, .gone, .gone, .gone, .gone, .gone, .gone, .gone, .gone, .gone, .gone, .gone, .gone, .gone, .gone, .gone, .gone, .gone, .gone, .gone, .gone, .gone, .gone, .gone, .gone, .gone, .gone, .gone, .gone, .gone, .gone], [.box 86 (.pair (.sl 177 (.pair (.int .i64) (.int .i64))) (.pair (.sl 142 (.pair .str (.pair (.int .i64) (.pair (.int .i64) (.pair (.int .i64) (.pair (.int .i64) (.pair (.int .i64) (.pair (.int .i64) (.pair (.int .i64) (.int .i64)))))))))) (.sl 147 (.pair (.int .i64) (.pair (.int .i64) (.pair .str (.int .i64))))))) (.dat (.pair (.sl 177 (.pair (.int .i64) (.int .i64))) (.pair (.sl 142 (.pair .str (.pair (.int .i64) (.pair (.int .i64) (.pair (.int .i64) (.pair (.int .i64) (.pair (.int .i64) (.pair (.int .i64) (.pair (.int .i64) (.int .i64)))))))))) (.sl 147 (.pair (.int .i64) (.pair (.int .i64) (.pair .str (.int .i64))))))) x4), .row 90 (.pair (.int .i64) (.pair .str (.int .i64))) out8 none]⟩
def spec_BookShow.st7 (fired2 : List Int) (k9 : Int) (x4 : (List (Int × Int)) × (List (ByteArray × Int × Int × Int × Int × Int × Int × Int × Int)) × List (Int × Int × ByteArray × Int)) (out8 : List (Int × ByteArray × Int)) : St := ⟨[.gone, .gone, .dat (.sl 2 (.int .i64)) fired2, .gone, .ptr 0 [], .gone, .gone, .gone, .ref 1, .dat (.int .i64) k9, .gone, .gone, .gone, .gone, .gone, .gone, .gone, .gone, .gone, .gone, .gone, .gone, .gone, .gone, .gone, .gone, .gone, .gone, .gone, .gone, .gone, .gone, .gone, .gone, .gone, .gone, .gone, .gone, .gone, .gone, .gone, .gone, .gone, .gone, .gone, .gone, .gone, .gone, .gone, .gone, .gone, .gone, .gone, .gone, .gone, .gone, .gone, .gone, .gone, .gone, .gone, .gone, .gone, .gone, .gone, .gone, .gone, .gone, .gone, .gone, .gone, .gone, .gone, .gone, .gone, .gone, .gone, .gone, .gone, .gone], [.box 86 (.pair (.sl 177 (.pair (.int .i64) (.int .i64))) (.pair (.sl 142 (.pair .str (.pair (.int .i64) (.pair (.int .i64) (.pair (.int .i64) (.pair (.int .i64) (.pair (.int .i64) (.pair (.int .i64) (.pair (.int .i64) (.int .i64)))))))))) (.sl 147 (.pair (.int .i64) (.pair (.int .i64) (.pair .str (.int .i64))))))) (.dat (.pair (.sl 177 (.pair (.int .i64) (.int .i64))) (.pair (.sl 142 (.pair .str (.pair (.int .i64) (.pair (.int .i64) (.pair (.int .i64) (.pair (.int .i64) (.pair (.int .i64) (.pair (.int .i64) (.pair (.int .i64) (.int .i64)))))))))) (.sl 147 (.pair (.int .i64) (.pair (.int .i64) (.pair .str (.int .i64))))))) x4), .row 90 (.pair (.int .i64) (.pair .str (.int .i64))) out8 none]⟩
def spec_BookShow.con : Con := { ps := [(.val, (.sl 90 (.pair (.int .i64) (.pair .str (.int .i64))))), (.val, (.pair (.sl 177 (.pair (.int .i64) (.int .i64))) (.pair (.sl 142 (.pair .str (.pair (.int .i64) (.pair (.int .i64) (.pair (.int .i64) (.pair (.int .i64) (.pair (.int .i64) (.pair (.int .i64) (.pair (.int .i64) (.int .i64)))))))))) (.sl 147 (.pair (.int .i64) (.pair (.int .i64) (.pair .str (.int .i64)))))))), (.val, (.sl 2 (.int .i64)))], rs := [(.own, (.sl 90 (.pair (.int .i64) (.pair .str (.int .i64))))), (.own, (.int .i64))], F := fun x => spec_BookShow.f x.1 x.2.1 x.2.2 }
def spec_BookShow.cs : List (FuncId × Con) := [(79, spec_AreBookings.con), (89, spec_l32Limits.con), (122, spec_IsShow.con), (123, spec_l01Rises.con)]
def spec_BookShow.E : Env := envOf tab spec_BookShow.cs 0 false
def spec_BookShow.keep (i : Nat) : List Nat := if i = 11 then [2, 4, 8, 9, 10, 11] else if i = 7 then [2, 4, 8, 9] else []
def spec_BookShow.at11 (n : Nat) (x : (List (Int × ByteArray × Int)) × ((List (Int × Int)) × (List (ByteArray × Int × Int × Int × Int × Int × Int × Int × Int)) × List (Int × Int × ByteArray × Int)) × List Int) (M7 : St → Option (((List (Int × ByteArray × Int)) × Int))) : Code × (Ex → St → Option (((List (Int × ByteArray × Int)) × Int))) := ctx spec_BookShow.E spec_BookShow.keep n [.snd, .snd, .snd, .snd, .fst, .snd, .blk, .rd M7, .snd, .fst, .blk, .snd, .fst, .snd, .blk] (codeOf Try.f62) (kEnd spec_BookShow.E Try.f62 spec_BookShow.con x)
def spec_BookShow.LN11 (n : Nat) (x : (List (Int × ByteArray × Int)) × ((List (Int × Int)) × (List (ByteArray × Int × Int × Int × Int × Int × Int × Int × Int)) × List (Int × Int × ByteArray × Int)) × List Int) (M7 : St → Option (((List (Int × ByteArray × Int)) × Int))) : Nat → St → Option (((List (Int × ByteArray × Int)) × Int)) := loopN (exec spec_BookShow.E spec_BookShow.keep n (bodyOf (spec_BookShow.at11 n x M7).1)) (St.norm 0 (spec_BookShow.keep 11)) (spec_BookShow.at11 n x M7).2
def spec_BookShow.at7 (n : Nat) (x : (List (Int × ByteArray × Int)) × ((List (Int × Int)) × (List (ByteArray × Int × Int × Int × Int × Int × Int × Int × Int)) × List (Int × Int × ByteArray × Int)) × List Int) : Code × (Ex → St → Option (((List (Int × ByteArray × Int)) × Int))) := ctx spec_BookShow.E spec_BookShow.keep n [.snd, .snd, .snd, .snd, .fst, .snd, .blk] (codeOf Try.f62) (kEnd spec_BookShow.E Try.f62 spec_BookShow.con x)
def spec_BookShow.LN7 (n : Nat) (x : (List (Int × ByteArray × Int)) × ((List (Int × Int)) × (List (ByteArray × Int × Int × Int × Int × Int × Int × Int × Int)) × List (Int × Int × ByteArray × Int)) × List Int) : Nat → St → Option (((List (Int × ByteArray × Int)) × Int)) := loopN (exec spec_BookShow.E spec_BookShow.keep n (bodyOf (spec_BookShow.at7 n x).1)) (St.norm 0 (spec_BookShow.keep 7)) (spec_BookShow.at7 n x).2
set_option maxRecDepth 100000 in
theorem spec_BookShow.lem11 (n : Nat) (x : (List (Int × ByteArray × Int)) × ((List (Int × Int)) × (List (ByteArray × Int × Int × Int × Int × Int × Int × Int × Int)) × List (Int × Int × ByteArray × Int)) × List Int) (M7 : St → Option (((List (Int × ByteArray × Int)) × Int))) : ∀ (k : Nat) (fired2 : List Int) (k9 : Int) (n10 : Int) (i11 : Int) (x4 : (List (Int × Int)) × (List (ByteArray × Int × Int × Int × Int × Int × Int × Int × Int)) × List (Int × Int × ByteArray × Int)) (out8 : List (Int × ByteArray × Int)), spec_BookShow.LN11 n x M7 k (spec_BookShow.st11 fired2 k9 n10 i11 x4 out8) = spec_BookShow.l11 n (fun fired2 k9 x4 out8 => M7 (spec_BookShow.st7 fired2 k9 x4 out8)) k fired2 k9 n10 i11 x4 out8 := by
  intro k
  induction k with
  | zero => intro fired2 k9 n10 i11 x4 out8; rfl
  | succ k ih =>
    intro fired2 k9 n10 i11 x4 out8
    have h : spec_BookShow.LN11 n x M7 (k + 1) (spec_BookShow.st11 fired2 k9 n10 i11 x4 out8) = spec_BookShow.g11 (fun fired2 k9 x4 out8 => M7 (spec_BookShow.st7 fired2 k9 x4 out8)) (fun fired2 k9 n10 i11 x4 out8 => spec_BookShow.LN11 n x M7 k (spec_BookShow.st11 fired2 k9 n10 i11 x4 out8)) fired2 k9 n10 i11 x4 out8 := by kernel_rfl
    rw [h]
    simp only [ih]
    rfl
set_option maxRecDepth 100000 in
theorem spec_BookShow.lem7 (n : Nat) (x : (List (Int × ByteArray × Int)) × ((List (Int × Int)) × (List (ByteArray × Int × Int × Int × Int × Int × Int × Int × Int)) × List (Int × Int × ByteArray × Int)) × List Int) : ∀ (k : Nat) (fired2 : List Int) (k9 : Int) (x4 : (List (Int × Int)) × (List (ByteArray × Int × Int × Int × Int × Int × Int × Int × Int)) × List (Int × Int × ByteArray × Int)) (out8 : List (Int × ByteArray × Int)), spec_BookShow.LN7 n x k (spec_BookShow.st7 fired2 k9 x4 out8) = spec_BookShow.l7 n k fired2 k9 x4 out8 := by
  intro k
  induction k with
  | zero => intro fired2 k9 x4 out8; rfl
  | succ k ih =>
    intro fired2 k9 x4 out8
    have h : spec_BookShow.LN7 n x (k + 1) (spec_BookShow.st7 fired2 k9 x4 out8) = spec_BookShow.g7 (fun fired2 k9 n10 i11 x4 out8 => spec_BookShow.LN11 n x (spec_BookShow.LN7 n x k) n (spec_BookShow.st11 fired2 k9 n10 i11 x4 out8)) (fun fired2 k9 x4 out8 => spec_BookShow.LN7 n x k (spec_BookShow.st7 fired2 k9 x4 out8)) fired2 k9 x4 out8 := by kernel_rfl
    rw [h]
    simp only [ih, spec_BookShow.lem11]
    rfl
set_option maxRecDepth 100000 in
theorem spec_BookShow.body (n : Nat) (x : (List (Int × ByteArray × Int)) × ((List (Int × Int)) × (List (ByteArray × Int × Int × Int × Int × Int × Int × Int × Int)) × List (Int × Int × ByteArray × Int)) × List Int) : bodyF spec_BookShow.E spec_BookShow.keep n Try.f62 spec_BookShow.con x = spec_BookShow.fn n x.1 x.2.1 x.2.2 := by
  have h : bodyF spec_BookShow.E spec_BookShow.keep n Try.f62 spec_BookShow.con x = spec_BookShow.top (fun fired2 k9 x4 out8 => spec_BookShow.LN7 n x n (spec_BookShow.st7 fired2 k9 x4 out8)) x.1 x.2.1 x.2.2 := by kernel_rfl
  rw [h]
  simp only [spec_BookShow.lem7]
  rfl
set_option maxRecDepth 100000 in
theorem spec_BookShow.good : Good Try.prog 62 spec_BookShow.con :=
  good_of tabok (cs := spec_BookShow.cs) ⟨spec_AreBookings.good, spec_l32Limits.good, spec_IsShow.good, spec_l01Rises.good, trivial⟩ 0 false (fn := Try.f62) Try.func62 rfl (by decide) (by simp [spec_BookShow.con]) spec_BookShow.keep NN (fun _ => rfl) (fun x => spec_BookShow.body NN x)
end
end Go.Ev.Try
