/- Part 2 of what the law FnSettled stands on: an evaluator of the model's code, proved sound; the functions as plain texts; their contracts. -/
import Derived.Test.YtgddpcjbjkbpcaaChecked
import Derived.Test.YtgddpcjbjkbpcaaProg
import Derived.Test.YtgddpcjbjkbpcaaRows
import Derived.Below
import Derived.Calls
import Derived.Carry
import Derived.ChangeArms
import Derived.ChangeKeysEq
import Derived.ChangeOld
import Derived.Deep.Quiet
import Derived.KernelRfl
import Derived.Laws.Append
import Derived.Laws.BytesString
import Derived.Laws.MakeOwn
import Derived.Laws.Strings
import Derived.Laws.StructEq
import Derived.OpenShut
import Derived.OrdersHeld
import Derived.ProofKit
import Derived.ShutString
import Derived.SizedLaws
import Derived.Tactics
import Derived.WalkKit
import Derived.WideShapes
import Derived.Test.YtgddpcjbjkbpcaaEvSettled1
namespace Go.Ev.Try
open Go.Proofs Go.Pl
set_option linter.unusedVariables false
noncomputable section
def spec_IsSettled.con : Con := { ps := [(.val, (.sl 90 (.pair (.int .i64) (.pair .str (.int .i64)))))], rs := [(.val, .bool), (.val, (.int .i64))], F := fun x => spec_IsSettled.f x }
def spec_IsSettled.cs : List (FuncId × Con) := [(79, spec_AreBookings.con), (80, spec_l32Open.con)]
def spec_IsSettled.E : Env := envOf tab spec_IsSettled.cs 0 false
def spec_IsSettled.keep (i : Nat) : List Nat := []
set_option maxRecDepth 100000 in
theorem spec_IsSettled.body (n : Nat) (x : List (Int × ByteArray × Int)) : bodyF spec_IsSettled.E spec_IsSettled.keep n Try.f15 spec_IsSettled.con x = spec_IsSettled.fn n x := by
  have h : bodyF spec_IsSettled.E spec_IsSettled.keep n Try.f15 spec_IsSettled.con x = spec_IsSettled.top x := by kernel_rfl
  exact h
set_option maxRecDepth 100000 in
theorem spec_IsSettled.good : Good Try.prog 15 spec_IsSettled.con :=
  good_of tabok (cs := spec_IsSettled.cs) ⟨spec_AreBookings.good, spec_l32Open.good, trivial⟩ 0 false (fn := Try.f15) Try.func15 rfl (by decide) (by simp [spec_IsSettled.con]) spec_IsSettled.keep NN (fun _ => rfl) (fun x => spec_IsSettled.body NN x)
end
end Go.Ev.Try

namespace Go.Ev.Try
open Go.Proofs Go.Pl
set_option linter.unusedVariables false
noncomputable section
def impl_within.con : Con := { ps := [(.val, (.int .i64)), (.val, (.int .i64)), (.val, (.int .i64))], rs := [(.val, .bool)], F := fun x => impl_within.f x.1 x.2.1 x.2.2 }
def impl_within.cs : List (FuncId × Con) := []
def impl_within.E : Env := envOf tab impl_within.cs 0 false
def impl_within.keep (i : Nat) : List Nat := []
set_option maxRecDepth 100000 in
theorem impl_within.body (n : Nat) (x : Int × Int × Int) : bodyF impl_within.E impl_within.keep n Try.f90 impl_within.con x = impl_within.fn n x.1 x.2.1 x.2.2 := by
  have h : bodyF impl_within.E impl_within.keep n Try.f90 impl_within.con x = impl_within.top x.1 x.2.1 x.2.2 := by kernel_rfl
  exact h
set_option maxRecDepth 100000 in
theorem impl_within.good : Good Try.prog 90 impl_within.con :=
  good_of tabok (cs := impl_within.cs) trivial 0 false (fn := Try.f90) Try.func90 rfl (by decide) (by simp [impl_within.con]) impl_within.keep NN (fun _ => rfl) (fun x => impl_within.body NN x)
end
end Go.Ev.Try

namespace Go.Ev.Try
open Go.Proofs Go.Pl
set_option linter.unusedVariables false
noncomputable section
def impl_totalsOf.st3 (article1 : ByteArray) (v9 : List (Int × ByteArray × Int)) (v10 : Int) (v11 : Int) (out5 : List Int) : St := ⟨[.gone, .dat .str article1, .gone, .gone, .gone, .ref 0, .gone, .gone, .gone, .dat (.sl 90 (.pair (.int .i64) (.pair .str (.int .i64)))) v9, .dat (.int .i64) v10, .dat (.int .i64) v11, .gone, .gone, .gone, .gone, .gone, .gone, .gone, .gone, .gone, .gone, .gone, .gone, .gone, .gone, .gone, .gone, .gone, .gone], [.row 2 (.int .i64) out5 none]⟩
def impl_totalsOf.con : Con := { ps := [(.val, (.sl 90 (.pair (.int .i64) (.pair .str (.int .i64))))), (.val, .str)], rs := [(.own, (.sl 2 (.int .i64)))], F := fun x => impl_totalsOf.f x.1 x.2 }
def impl_totalsOf.cs : List (FuncId × Con) := []
def impl_totalsOf.E : Env := envOf tab impl_totalsOf.cs 0 false
def impl_totalsOf.keep (i : Nat) : List Nat := if i = 3 then [1, 5, 9, 10, 11] else []
def impl_totalsOf.at3 (n : Nat) (x : (List (Int × ByteArray × Int)) × ByteArray) : Code × (Ex → St → Option ((List Int))) := ctx impl_totalsOf.E impl_totalsOf.keep n [.snd, .snd, .fst, .snd, .blk] (codeOf Try.f137) (kEnd impl_totalsOf.E Try.f137 impl_totalsOf.con x)
def impl_totalsOf.LN3 (n : Nat) (x : (List (Int × ByteArray × Int)) × ByteArray) : Nat → St → Option ((List Int)) := loopN (exec impl_totalsOf.E impl_totalsOf.keep n (bodyOf (impl_totalsOf.at3 n x).1)) (St.norm 0 (impl_totalsOf.keep 3)) (impl_totalsOf.at3 n x).2
set_option maxRecDepth 100000 in
theorem impl_totalsOf.lem3 (n : Nat) (x : (List (Int × ByteArray × Int)) × ByteArray) : ∀ (k : Nat) (article1 : ByteArray) (v9 : List (Int × ByteArray × Int)) (v10 : Int) (v11 : Int) (out5 : List Int), impl_totalsOf.LN3 n x k (impl_totalsOf.st3 article1 v9 v10 v11 out5) = impl_totalsOf.l3 n k article1 v9 v10 v11 out5 := by
  intro k
  induction k with
  | zero => intro article1 v9 v10 v11 out5; rfl
  | succ k ih =>
    intro article1 v9 v10 v11 out5
    have h : impl_totalsOf.LN3 n x (k + 1) (impl_totalsOf.st3 article1 v9 v10 v11 out5) = impl_totalsOf.g3 (fun article1 v9 v10 v11 out5 => impl_totalsOf.LN3 n x k (impl_totalsOf.st3 article1 v9 v10 v11 out5)) article1 v9 v10 v11 out5 := by kernel_rfl
    rw [h]
    simp only [ih]
    rfl
set_option maxRecDepth 100000 in
theorem impl_totalsOf.body (n : Nat) (x : (List (Int × ByteArray × Int)) × ByteArray) : bodyF impl_totalsOf.E impl_totalsOf.keep n Try.f137 impl_totalsOf.con x = impl_totalsOf.fn n x.1 x.2 := by
  have h : bodyF impl_totalsOf.E impl_totalsOf.keep n Try.f137 impl_totalsOf.con x = impl_totalsOf.top (fun article1 v9 v10 v11 out5 => impl_totalsOf.LN3 n x n (impl_totalsOf.st3 article1 v9 v10 v11 out5)) x.1 x.2 := by kernel_rfl
  rw [h]
  simp only [impl_totalsOf.lem3]
  rfl
set_option maxRecDepth 100000 in
theorem impl_totalsOf.good : Good Try.prog 137 impl_totalsOf.con :=
  good_of tabok (cs := impl_totalsOf.cs) trivial 0 false (fn := Try.f137) Try.func137 rfl (by decide) (by simp [impl_totalsOf.con]) impl_totalsOf.keep NN (fun _ => rfl) (fun x => impl_totalsOf.body NN x)
end
end Go.Ev.Try

namespace Go.Ev.Try
open Go.Proofs Go.Pl
set_option linter.unusedVariables false
noncomputable section
def impl_piecesLeft.con : Con := { ps := [(.val, (.sl 90 (.pair (.int .i64) (.pair .str (.int .i64))))), (.val, .str)], rs := [(.val, (.int .i64))], F := fun x => impl_piecesLeft.f x.1 x.2 }
def impl_piecesLeft.cs : List (FuncId × Con) := [(137, impl_totalsOf.con)]
def impl_piecesLeft.E : Env := envOf tab impl_piecesLeft.cs 0 false
def impl_piecesLeft.keep (i : Nat) : List Nat := []
set_option maxRecDepth 100000 in
theorem impl_piecesLeft.body (n : Nat) (x : (List (Int × ByteArray × Int)) × ByteArray) : bodyF impl_piecesLeft.E impl_piecesLeft.keep n Try.f91 impl_piecesLeft.con x = impl_piecesLeft.fn n x.1 x.2 := by
  have h : bodyF impl_piecesLeft.E impl_piecesLeft.keep n Try.f91 impl_piecesLeft.con x = impl_piecesLeft.top x.1 x.2 := by kernel_rfl
  exact h
set_option maxRecDepth 100000 in
theorem impl_piecesLeft.good : Good Try.prog 91 impl_piecesLeft.con :=
  good_of tabok (cs := impl_piecesLeft.cs) ⟨impl_totalsOf.good, trivial⟩ 0 false (fn := Try.f91) Try.func91 rfl (by decide) (by simp [impl_piecesLeft.con]) impl_piecesLeft.keep NN (fun _ => rfl) (fun x => impl_piecesLeft.body NN x)
end
end Go.Ev.Try

namespace Go.Ev.Try
open Go.Proofs Go.Pl
set_option linter.unusedVariables false
noncomputable section
def impl_IsWord.st4 (s0 : ByteArray) (i3 : Int) : St := ⟨[.dat .str s0, .gone, .gone, .dat (.int .i64) i3, .gone, .gone, .gone, .gone, .gone, .gone, .gone, .gone, .gone, .gone, .gone, .gone, .gone, .gone, .gone, .gone, .gone, .gone, .gone, .gone, .gone, .gone, .gone, .gone], []⟩
def impl_IsWord.con : Con := { ps := [(.val, .str)], rs := [(.val, .bool)], F := fun x => impl_IsWord.f x }
def impl_IsWord.cs : List (FuncId × Con) := []
def impl_IsWord.E : Env := envOf tab impl_IsWord.cs 0 false
def impl_IsWord.keep (i : Nat) : List Nat := if i = 4 then [0, 3] else []
def impl_IsWord.at4 (n : Nat) (x : ByteArray) : Code × (Ex → St → Option (Bool)) := ctx impl_IsWord.E impl_IsWord.keep n [.snd, .snd, .fst, .snd, .blk] (codeOf Try.f97) (kEnd impl_IsWord.E Try.f97 impl_IsWord.con x)
def impl_IsWord.LN4 (n : Nat) (x : ByteArray) : Nat → St → Option (Bool) := loopN (exec impl_IsWord.E impl_IsWord.keep n (bodyOf (impl_IsWord.at4 n x).1)) (St.norm 0 (impl_IsWord.keep 4)) (impl_IsWord.at4 n x).2
set_option maxRecDepth 100000 in
theorem impl_IsWord.lem4 (n : Nat) (x : ByteArray) : ∀ (k : Nat) (s0 : ByteArray) (i3 : Int), impl_IsWord.LN4 n x k (impl_IsWord.st4 s0 i3) = impl_IsWord.l4 n k s0 i3 := by
  intro k
  induction k with
  | zero => intro s0 i3; rfl
  | succ k ih =>
    intro s0 i3
    have h : impl_IsWord.LN4 n x (k + 1) (impl_IsWord.st4 s0 i3) = impl_IsWord.g4 (fun s0 i3 => impl_IsWord.LN4 n x k (impl_IsWord.st4 s0 i3)) s0 i3 := by kernel_rfl
    rw [h]
    simp only [ih]
    rfl
set_option maxRecDepth 100000 in
theorem impl_IsWord.body (n : Nat) (x : ByteArray) : bodyF impl_IsWord.E impl_IsWord.keep n Try.f97 impl_IsWord.con x = impl_IsWord.fn n x := by
  have h : bodyF impl_IsWord.E impl_IsWord.keep n Try.f97 impl_IsWord.con x = impl_IsWord.top (fun s0 i3 => impl_IsWord.LN4 n x n (impl_IsWord.st4 s0 i3)) x := by kernel_rfl
  rw [h]
  simp only [impl_IsWord.lem4]
  rfl
set_option maxRecDepth 100000 in
theorem impl_IsWord.good : Good Try.prog 97 impl_IsWord.con :=
  good_of tabok (cs := impl_IsWord.cs) trivial 0 false (fn := Try.f97) Try.func97 rfl (by decide) (by simp [impl_IsWord.con]) impl_IsWord.keep NN (fun _ => rfl) (fun x => impl_IsWord.body NN x)
end
end Go.Ev.Try

namespace Go.Ev.Try
open Go.Proofs Go.Pl
set_option linter.unusedVariables false
noncomputable section
def impl_AreBookings.st4 (list0 : List (Int × ByteArray × Int)) (v8 : List (Int × ByteArray × Int)) (v9 : Int) (v10 : Int) : St := ⟨[.dat (.sl 90 (.pair (.int .i64) (.pair .str (.int .i64)))) list0, .gone, .gone, .gone, .gone, .gone, .gone, .gone, .dat (.sl 90 (.pair (.int .i64) (.pair .str (.int .i64)))) v8, .dat (.int .i64) v9, .dat (.int .i64) v10, .gone, .gone, .gone, .gone, .gone, .gone, .gone, .gone, .gone, .gone, .gone, .gone, .gone, .gone, .gone, .gone, .gone, .gone, .gone, .gone, .gone, .gone, .gone, .gone, .gone, .gone, .gone, .gone, .gone, .gone, .gone], []⟩
def impl_AreBookings.con : Con := { ps := [(.val, (.sl 90 (.pair (.int .i64) (.pair .str (.int .i64)))))], rs := [(.val, .bool)], F := fun x => impl_AreBookings.f x }
def impl_AreBookings.cs : List (FuncId × Con) := [(90, impl_within.con), (91, impl_piecesLeft.con), (97, impl_IsWord.con)]
def impl_AreBookings.E : Env := envOf tab impl_AreBookings.cs 0 false
def impl_AreBookings.keep (i : Nat) : List Nat := if i = 4 then [0, 8, 9, 10] else []
def impl_AreBookings.at4 (n : Nat) (x : List (Int × ByteArray × Int)) : Code × (Ex → St → Option (Bool)) := ctx impl_AreBookings.E impl_AreBookings.keep n [.snd, .snd, .fst, .snd, .blk] (codeOf Try.f84) (kEnd impl_AreBookings.E Try.f84 impl_AreBookings.con x)
def impl_AreBookings.LN4 (n : Nat) (x : List (Int × ByteArray × Int)) : Nat → St → Option (Bool) := loopN (exec impl_AreBookings.E impl_AreBookings.keep n (bodyOf (impl_AreBookings.at4 n x).1)) (St.norm 0 (impl_AreBookings.keep 4)) (impl_AreBookings.at4 n x).2
set_option maxRecDepth 100000 in
theorem impl_AreBookings.lem4 (n : Nat) (x : List (Int × ByteArray × Int)) : ∀ (k : Nat) (list0 : List (Int × ByteArray × Int)) (v8 : List (Int × ByteArray × Int)) (v9 : Int) (v10 : Int), impl_AreBookings.LN4 n x k (impl_AreBookings.st4 list0 v8 v9 v10) = impl_AreBookings.l4 n k list0 v8 v9 v10 := by
  intro k
  induction k with
  | zero => intro list0 v8 v9 v10; rfl
  | succ k ih =>
    intro list0 v8 v9 v10
    have h : impl_AreBookings.LN4 n x (k + 1) (impl_AreBookings.st4 list0 v8 v9 v10) = impl_AreBookings.g4 (fun list0 v8 v9 v10 => impl_AreBookings.LN4 n x k (impl_AreBookings.st4 list0 v8 v9 v10)) list0 v8 v9 v10 := by kernel_rfl
    rw [h]
    simp only [ih]
    rfl
set_option maxRecDepth 100000 in
theorem impl_AreBookings.body (n : Nat) (x : List (Int × ByteArray × Int)) : bodyF impl_AreBookings.E impl_AreBookings.keep n Try.f84 impl_AreBookings.con x = impl_AreBookings.fn n x := by
  have h : bodyF impl_AreBookings.E impl_AreBookings.keep n Try.f84 impl_AreBookings.con x = impl_AreBookings.top (fun list0 v8 v9 v10 => impl_AreBookings.LN4 n x n (impl_AreBookings.st4 list0 v8 v9 v10)) x := by kernel_rfl
  rw [h]
  simp only [impl_AreBookings.lem4]
  rfl
set_option maxRecDepth 100000 in
theorem impl_AreBookings.good : Good Try.prog 84 impl_AreBookings.con :=
  good_of tabok (cs := impl_AreBookings.cs) ⟨impl_within.good, impl_piecesLeft.good, impl_IsWord.good, trivial⟩ 0 false (fn := Try.f84) Try.func84 rfl (by decide) (by simp [impl_AreBookings.con]) impl_AreBookings.keep NN (fun _ => rfl) (fun x => impl_AreBookings.body NN x)
end
end Go.Ev.Try

namespace Go.Ev.Try
open Go.Proofs Go.Pl
set_option linter.unusedVariables false
noncomputable section
def impl_putWord.st2 (word1 : ByteArray) (k5 : Int) (words0 : List ByteArray) : St := ⟨[.ref 0, .dat .str word1, .gone, .gone, .gone, .dat (.int .i64) k5, .gone, .gone, .gone, .gone, .gone, .gone, .gone, .gone, .gone, .gone, .gone, .gone, .gone, .gone, .gone, .gone, .gone, .gone, .gone, .gone, .gone, .gone, .gone, .gone, .gone, .gone, .gone, .gone, .gone, .gone, .gone, .gone, .gone, .gone, .gone, .gone, .gone, .gone, .gone, .gone, .gone, .gone, .gone], [.row 9 .str words0 none]⟩
def impl_putWord.con : Con := { ps := [(.own, (.sl 9 .str)), (.val, .str)], rs := [(.own, (.sl 9 .str))], gv := true, F := fun x => impl_putWord.f x.1 x.2 }
def impl_putWord.cs : List (FuncId × Con) := []
def impl_putWord.E : Env := envOf tab impl_putWord.cs 0 true
def impl_putWord.keep (i : Nat) : List Nat := if i = 2 then [0, 1, 5] else []
def impl_putWord.at2 (n : Nat) (x : List ByteArray × ByteArray) : Code × (Ex → St → Option ((List ByteArray))) := ctx impl_putWord.E impl_putWord.keep n [.snd, .snd, .fst, .blk] (codeOf Try.f136) (kEnd impl_putWord.E Try.f136 impl_putWord.con x)
def impl_putWord.LN2 (n : Nat) (x : List ByteArray × ByteArray) : Nat → St → Option ((List ByteArray)) := loopN (exec impl_putWord.E impl_putWord.keep n (bodyOf (impl_putWord.at2 n x).1)) (St.norm 0 (impl_putWord.keep 2)) (impl_putWord.at2 n x).2
set_option maxRecDepth 100000 in
theorem impl_putWord.lem2 (n : Nat) (x : List ByteArray × ByteArray) : ∀ (k : Nat) (word1 : ByteArray) (k5 : Int) (words0 : List ByteArray), impl_putWord.LN2 n x k (impl_putWord.st2 word1 k5 words0) = impl_putWord.l2 n k word1 k5 words0 := by
  intro k
  induction k with
  | zero => intro word1 k5 words0; rfl
  | succ k ih =>
    intro word1 k5 words0
    have h : impl_putWord.LN2 n x (k + 1) (impl_putWord.st2 word1 k5 words0) = impl_putWord.g2 (fun word1 k5 words0 => impl_putWord.LN2 n x k (impl_putWord.st2 word1 k5 words0)) word1 k5 words0 := by kernel_rfl
    rw [h]
    simp only [ih]
    rfl
set_option maxRecDepth 100000 in
theorem impl_putWord.body (n : Nat) (x : List ByteArray × ByteArray) : bodyF impl_putWord.E impl_putWord.keep n Try.f136 impl_putWord.con x = impl_putWord.fn n x.1 x.2 := by
  have h : bodyF impl_putWord.E impl_putWord.keep n Try.f136 impl_putWord.con x = impl_putWord.top (fun word1 k5 words0 => impl_putWord.LN2 n x n (impl_putWord.st2 word1 k5 words0)) x.1 x.2 := by kernel_rfl
  rw [h]
  simp only [impl_putWord.lem2]
  rfl
set_option maxRecDepth 100000 in
theorem impl_putWord.good : Good Try.prog 136 impl_putWord.con :=
  good_of tabok (cs := impl_putWord.cs) trivial 0 true (fn := Try.f136) Try.func136 rfl (by decide) (by simp [impl_putWord.con]) impl_putWord.keep NN (fun _ => rfl) (fun x => impl_putWord.body NN x)
end
end Go.Ev.Try

namespace Go.Ev.Try
open Go.Proofs Go.Pl
set_option linter.unusedVariables false
noncomputable section
def impl_openArticles.st3 (list0 : List (Int × ByteArray × Int)) (v6 : List (Int × ByteArray × Int)) (v7 : Int) (v8 : Int) (out3 : List ByteArray) : St := ⟨[.dat (.sl 90 (.pair (.int .i64) (.pair .str (.int .i64)))) list0, .gone, .gone, .ref 0, .gone, .gone, .dat (.sl 90 (.pair (.int .i64) (.pair .str (.int .i64)))) v6, .dat (.int .i64) v7, .dat (.int .i64) v8, .gone, .gone, .gone, .gone, .gone, .gone, .gone, .gone, .gone, .gone, .gone, .gone, .gone, .gone], [.row 9 .str out3 none]⟩
def impl_openArticles.con : Con := { ps := [(.val, (.sl 90 (.pair (.int .i64) (.pair .str (.int .i64)))))], rs := [(.own, (.sl 9 .str))], F := fun x => impl_openArticles.f x }
def impl_openArticles.cs : List (FuncId × Con) := [(91, impl_piecesLeft.con), (136, impl_putWord.con)]
def impl_openArticles.E : Env := envOf tab impl_openArticles.cs 0 false
def impl_openArticles.keep (i : Nat) : List Nat := if i = 3 then [0, 3, 6, 7, 8] else []
def impl_openArticles.at3 (n : Nat) (x : List (Int × ByteArray × Int)) : Code × (Ex → St → Option ((List ByteArray))) := ctx impl_openArticles.E impl_openArticles.keep n [.snd, .snd, .fst, .snd, .blk] (codeOf Try.f85) (kEnd impl_openArticles.E Try.f85 impl_openArticles.con x)
def impl_openArticles.LN3 (n : Nat) (x : List (Int × ByteArray × Int)) : Nat → St → Option ((List ByteArray)) := loopN (exec impl_openArticles.E impl_openArticles.keep n (bodyOf (impl_openArticles.at3 n x).1)) (St.norm 0 (impl_openArticles.keep 3)) (impl_openArticles.at3 n x).2
set_option maxRecDepth 100000 in
theorem impl_openArticles.lem3 (n : Nat) (x : List (Int × ByteArray × Int)) : ∀ (k : Nat) (list0 : List (Int × ByteArray × Int)) (v6 : List (Int × ByteArray × Int)) (v7 : Int) (v8 : Int) (out3 : List ByteArray), impl_openArticles.LN3 n x k (impl_openArticles.st3 list0 v6 v7 v8 out3) = impl_openArticles.l3 n k list0 v6 v7 v8 out3 := by
  intro k
  induction k with
  | zero => intro list0 v6 v7 v8 out3; rfl
  | succ k ih =>
    intro list0 v6 v7 v8 out3
    have h : impl_openArticles.LN3 n x (k + 1) (impl_openArticles.st3 list0 v6 v7 v8 out3) = impl_openArticles.g3 (fun list0 v6 v7 v8 out3 => impl_openArticles.LN3 n x k (impl_openArticles.st3 list0 v6 v7 v8 out3)) list0 v6 v7 v8 out3 := by kernel_rfl
    rw [h]
    simp only [ih]
    rfl
set_option maxRecDepth 100000 in
theorem impl_openArticles.body (n : Nat) (x : List (Int × ByteArray × Int)) : bodyF impl_openArticles.E impl_openArticles.keep n Try.f85 impl_openArticles.con x = impl_openArticles.fn n x := by
  have h : bodyF impl_openArticles.E impl_openArticles.keep n Try.f85 impl_openArticles.con x = impl_openArticles.top (fun list0 v6 v7 v8 out3 => impl_openArticles.LN3 n x n (impl_openArticles.st3 list0 v6 v7 v8 out3)) x := by kernel_rfl
  rw [h]
  simp only [impl_openArticles.lem3]
  rfl
set_option maxRecDepth 100000 in
theorem impl_openArticles.good : Good Try.prog 85 impl_openArticles.con :=
  good_of tabok (cs := impl_openArticles.cs) ⟨impl_piecesLeft.good, impl_putWord.good, trivial⟩ 0 false (fn := Try.f85) Try.func85 rfl (by decide) (by simp [impl_openArticles.con]) impl_openArticles.keep NN (fun _ => rfl) (fun x => impl_openArticles.body NN x)
end
end Go.Ev.Try

namespace Go.Ev.Try
open Go.Proofs Go.Pl
set_option linter.unusedVariables false
noncomputable section
def impl_IsSettled.con : Con := { ps := [(.val, (.sl 90 (.pair (.int .i64) (.pair .str (.int .i64)))))], rs := [(.val, .bool), (.val, (.int .i64))], F := fun x => impl_IsSettled.f x }
def impl_IsSettled.cs : List (FuncId × Con) := [(84, impl_AreBookings.con), (85, impl_openArticles.con)]
def impl_IsSettled.E : Env := envOf tab impl_IsSettled.cs 0 false
def impl_IsSettled.keep (i : Nat) : List Nat := []
set_option maxRecDepth 100000 in
theorem impl_IsSettled.body (n : Nat) (x : List (Int × ByteArray × Int)) : bodyF impl_IsSettled.E impl_IsSettled.keep n Try.f17 impl_IsSettled.con x = impl_IsSettled.fn n x := by
  have h : bodyF impl_IsSettled.E impl_IsSettled.keep n Try.f17 impl_IsSettled.con x = impl_IsSettled.top x := by kernel_rfl
  exact h
set_option maxRecDepth 100000 in
theorem impl_IsSettled.good : Good Try.prog 17 impl_IsSettled.con :=
  good_of tabok (cs := impl_IsSettled.cs) ⟨impl_AreBookings.good, impl_openArticles.good, trivial⟩ 0 false (fn := Try.f17) Try.func17 rfl (by decide) (by simp [impl_IsSettled.con]) impl_IsSettled.keep NN (fun _ => rfl) (fun x => impl_IsSettled.body NN x)
end
end Go.Ev.Try

namespace Go.Ev.Try
open Go.Proofs Go.Pl
set_option linter.unusedVariables false
noncomputable section
def spec_OpenArticles.con : Con := { ps := [(.val, (.sl 90 (.pair (.int .i64) (.pair .str (.int .i64)))))], rs := [(.own, (.sl 9 .str)), (.own, (.int .i64))], F := fun x => spec_OpenArticles.f x }
def spec_OpenArticles.cs : List (FuncId × Con) := [(79, spec_AreBookings.con), (80, spec_l32Open.con)]
def spec_OpenArticles.E : Env := envOf tab spec_OpenArticles.cs 0 false
def spec_OpenArticles.keep (i : Nat) : List Nat := []
set_option maxRecDepth 100000 in
theorem spec_OpenArticles.body (n : Nat) (x : List (Int × ByteArray × Int)) : bodyF spec_OpenArticles.E spec_OpenArticles.keep n Try.f19 spec_OpenArticles.con x = spec_OpenArticles.fn n x := by
  have h : bodyF spec_OpenArticles.E spec_OpenArticles.keep n Try.f19 spec_OpenArticles.con x = spec_OpenArticles.top x := by kernel_rfl
  exact h
set_option maxRecDepth 100000 in
theorem spec_OpenArticles.good : Good Try.prog 19 spec_OpenArticles.con :=
  good_of tabok (cs := spec_OpenArticles.cs) ⟨spec_AreBookings.good, spec_l32Open.good, trivial⟩ 0 false (fn := Try.f19) Try.func19 rfl (by decide) (by simp [spec_OpenArticles.con]) spec_OpenArticles.keep NN (fun _ => rfl) (fun x => spec_OpenArticles.body NN x)
end
end Go.Ev.Try

namespace Go.Ev.Try
open Go.Proofs Go.Pl
set_option linter.unusedVariables false
noncomputable section
def impl_OpenArticles.con : Con := { ps := [(.val, (.sl 90 (.pair (.int .i64) (.pair .str (.int .i64)))))], rs := [(.own, (.sl 9 .str)), (.own, (.int .i64))], F := fun x => impl_OpenArticles.f x }
def impl_OpenArticles.cs : List (FuncId × Con) := [(84, impl_AreBookings.con), (85, impl_openArticles.con)]
def impl_OpenArticles.E : Env := envOf tab impl_OpenArticles.cs 0 false
def impl_OpenArticles.keep (i : Nat) : List Nat := []
set_option maxRecDepth 100000 in
theorem impl_OpenArticles.body (n : Nat) (x : List (Int × ByteArray × Int)) : bodyF impl_OpenArticles.E impl_OpenArticles.keep n Try.f20 impl_OpenArticles.con x = impl_OpenArticles.fn n x := by
  have h : bodyF impl_OpenArticles.E impl_OpenArticles.keep n Try.f20 impl_OpenArticles.con x = impl_OpenArticles.top x := by kernel_rfl
  exact h
set_option maxRecDepth 100000 in
theorem impl_OpenArticles.good : Good Try.prog 20 impl_OpenArticles.con :=
  good_of tabok (cs := impl_OpenArticles.cs) ⟨impl_AreBookings.good, impl_openArticles.good, trivial⟩ 0 false (fn := Try.f20) Try.func20 rfl (by decide) (by simp [impl_OpenArticles.con]) impl_OpenArticles.keep NN (fun _ => rfl) (fun x => impl_OpenArticles.body NN x)
end
end Go.Ev.Try

namespace Go.Ev.Try
open Go.Proofs Go.Pl
set_option linter.unusedVariables false
noncomputable section
def spec_l32Limits.con : Con := { ps := [(.val, (.sl 90 (.pair (.int .i64) (.pair .str (.int .i64)))))], rs := [(.val, (.int .i64))], F := fun x => spec_l32Limits.f x }
def spec_l32Limits.cs : List (FuncId × Con) := [(79, spec_AreBookings.con)]
def spec_l32Limits.E : Env := envOf tab spec_l32Limits.cs 0 false
def spec_l32Limits.keep (i : Nat) : List Nat := []
set_option maxRecDepth 100000 in
theorem spec_l32Limits.body (n : Nat) (x : List (Int × ByteArray × Int)) : bodyF spec_l32Limits.E spec_l32Limits.keep n Try.f89 spec_l32Limits.con x = spec_l32Limits.fn n x := by
  have h : bodyF spec_l32Limits.E spec_l32Limits.keep n Try.f89 spec_l32Limits.con x = spec_l32Limits.top x := by kernel_rfl
  exact h
set_option maxRecDepth 100000 in
theorem spec_l32Limits.good : Good Try.prog 89 spec_l32Limits.con :=
  good_of tabok (cs := spec_l32Limits.cs) ⟨spec_AreBookings.good, trivial⟩ 0 false (fn := Try.f89) Try.func89 rfl (by decide) (by simp [spec_l32Limits.con]) spec_l32Limits.keep NN (fun _ => rfl) (fun x => spec_l32Limits.body NN x)
end
end Go.Ev.Try

namespace Go.Ev.Try
open Go.Proofs Go.Pl
set_option linter.unusedVariables false
noncomputable section
def spec_SettleAll.st8 (list0 : List (Int × ByteArray × Int)) (kind1 : Int) (i8 : Int) (out6 : List (Int × ByteArray × Int)) (open7 : List ByteArray) : St := ⟨[.dat (.sl 90 (.pair (.int .i64) (.pair .str (.int .i64)))) list0, .dat (.int .i64) kind1, .gone, .gone, .gone, .gone, .ref 0, .ref 1, .dat (.int .i64) i8, .gone, .gone, .gone, .gone, .gone, .gone, .gone, .gone, .gone, .gone, .gone, .gone, .gone, .gone, .gone, .gone, .gone, .gone, .gone, .gone, .gone, .gone, .gone, .gone, .gone, .gone, .gone, .gone, .gone, .gone, .gone, .gone, .gone, .gone, .gone, .gone, .gone, .gone, .gone, .gone, .gone], [.row 90 (.pair (.int .i64) (.pair .str (.int .i64))) out6 none, .row 9 .str open7 none]⟩
def spec_SettleAll.con : Con := { ps := [(.val, (.sl 90 (.pair (.int .i64) (.pair .str (.int .i64))))), (.val, (.int .i64))], rs := [(.own, (.sl 90 (.pair (.int .i64) (.pair .str (.int .i64))))), (.own, (.int .i64))], F := fun x => spec_SettleAll.f x.1 x.2 }
def spec_SettleAll.cs : List (FuncId × Con) := [(79, spec_AreBookings.con), (80, spec_l32Open.con), (87, spec_l01In.con), (88, spec_l32Left.con), (89, spec_l32Limits.con)]
def spec_SettleAll.E : Env := envOf tab spec_SettleAll.cs 0 false
def spec_SettleAll.keep (i : Nat) : List Nat := if i = 8 then [0, 1, 6, 7, 8] else []
def spec_SettleAll.at8 (n : Nat) (x : (List (Int × ByteArray × Int)) × Int) : Code × (Ex → St → Option (((List (Int × ByteArray × Int)) × Int))) := ctx spec_SettleAll.E spec_SettleAll.keep n [.snd, .snd, .snd, .snd, .snd, .fst, .snd, .blk] (codeOf Try.f25) (kEnd spec_SettleAll.E Try.f25 spec_SettleAll.con x)
def spec_SettleAll.LN8 (n : Nat) (x : (List (Int × ByteArray × Int)) × Int) : Nat → St → Option (((List (Int × ByteArray × Int)) × Int)) := loopN (exec spec_SettleAll.E spec_SettleAll.keep n (bodyOf (spec_SettleAll.at8 n x).1)) (St.norm 0 (spec_SettleAll.keep 8)) (spec_SettleAll.at8 n x).2
set_option maxRecDepth 100000 in
theorem spec_SettleAll.lem8 (n : Nat) (x : (List (Int × ByteArray × Int)) × Int) : ∀ (k : Nat) (list0 : List (Int × ByteArray × Int)) (kind1 : Int) (i8 : Int) (out6 : List (Int × ByteArray × Int)) (open7 : List ByteArray), spec_SettleAll.LN8 n x k (spec_SettleAll.st8 list0 kind1 i8 out6 open7) = spec_SettleAll.l8 n k list0 kind1 i8 out6 open7 := by
  intro k
  induction k with
  | zero => intro list0 kind1 i8 out6 open7; rfl
  | succ k ih =>
    intro list0 kind1 i8 out6 open7
    have h : spec_SettleAll.LN8 n x (k + 1) (spec_SettleAll.st8 list0 kind1 i8 out6 open7) = spec_SettleAll.g8 (fun list0 kind1 i8 out6 open7 => spec_SettleAll.LN8 n x k (spec_SettleAll.st8 list0 kind1 i8 out6 open7)) list0 kind1 i8 out6 open7 := by kernel_rfl
    rw [h]
    simp only [ih]
    rfl
set_option maxRecDepth 100000 in
theorem spec_SettleAll.body (n : Nat) (x : (List (Int × ByteArray × Int)) × Int) : bodyF spec_SettleAll.E spec_SettleAll.keep n Try.f25 spec_SettleAll.con x = spec_SettleAll.fn n x.1 x.2 := by
  have h : bodyF spec_SettleAll.E spec_SettleAll.keep n Try.f25 spec_SettleAll.con x = spec_SettleAll.top (fun list0 kind1 i8 out6 open7 => spec_SettleAll.LN8 n x n (spec_SettleAll.st8 list0 kind1 i8 out6 open7)) x.1 x.2 := by kernel_rfl
  rw [h]
  simp only [spec_SettleAll.lem8]
  rfl
set_option maxRecDepth 100000 in
theorem spec_SettleAll.good : Good Try.prog 25 spec_SettleAll.con :=
  good_of tabok (cs := spec_SettleAll.cs) ⟨spec_AreBookings.good, spec_l32Open.good, spec_l01In.good, spec_l32Left.good, spec_l32Limits.good, trivial⟩ 0 false (fn := Try.f25) Try.func25 rfl (by decide) (by simp [spec_SettleAll.con]) spec_SettleAll.keep NN (fun _ => rfl) (fun x => spec_SettleAll.body NN x)
end
end Go.Ev.Try

namespace Go.Ev.Try
open Go.Proofs Go.Pl
set_option linter.unusedVariables false
noncomputable section
def impl_SettleAll.st7 (list0 : List (Int × ByteArray × Int)) (kind1 : Int) (v20 : Int) (v21 : Int) (out6 : List (Int × ByteArray × Int)) (v19 : List ByteArray) : St := ⟨[.dat (.sl 90 (.pair (.int .i64) (.pair .str (.int .i64)))) list0, .dat (.int .i64) kind1, .gone, .gone, .gone, .gone, .ref 0, .gone, .gone, .gone, .gone, .gone, .gone, .gone, .gone, .gone, .gone, .gone, .gone, .ref 1, .dat (.int .i64) v20, .dat (.int .i64) v21, .gone, .gone, .gone, .gone, .gone, .gone, .gone, .gone, .gone, .gone, .gone, .gone, .gone, .gone, .gone, .gone, .gone, .gone, .gone, .gone], [.row 90 (.pair (.int .i64) (.pair .str (.int .i64))) out6 none, .row 9 .str v19 none]⟩
def impl_SettleAll.con : Con := { ps := [(.val, (.sl 90 (.pair (.int .i64) (.pair .str (.int .i64))))), (.val, (.int .i64))], rs := [(.own, (.sl 90 (.pair (.int .i64) (.pair .str (.int .i64))))), (.own, (.int .i64))], F := fun x => impl_SettleAll.f x.1 x.2 }
def impl_SettleAll.cs : List (FuncId × Con) := [(84, impl_AreBookings.con), (85, impl_openArticles.con), (90, impl_within.con), (91, impl_piecesLeft.con)]
def impl_SettleAll.E : Env := envOf tab impl_SettleAll.cs 0 false
def impl_SettleAll.keep (i : Nat) : List Nat := if i = 7 then [0, 1, 6, 19, 20, 21] else []
def impl_SettleAll.at7 (n : Nat) (x : (List (Int × ByteArray × Int)) × Int) : Code × (Ex → St → Option (((List (Int × ByteArray × Int)) × Int))) := ctx impl_SettleAll.E impl_SettleAll.keep n [.snd, .snd, .snd, .snd, .fst, .snd, .blk] (codeOf Try.f26) (kEnd impl_SettleAll.E Try.f26 impl_SettleAll.con x)
def impl_SettleAll.LN7 (n : Nat) (x : (List (Int × ByteArray × Int)) × Int) : Nat → St → Option (((List (Int × ByteArray × Int)) × Int)) := loopN (exec impl_SettleAll.E impl_SettleAll.keep n (bodyOf (impl_SettleAll.at7 n x).1)) (St.norm 0 (impl_SettleAll.keep 7)) (impl_SettleAll.at7 n x).2
set_option maxRecDepth 100000 in
theorem impl_SettleAll.lem7 (n : Nat) (x : (List (Int × ByteArray × Int)) × Int) : ∀ (k : Nat) (list0 : List (Int × ByteArray × Int)) (kind1 : Int) (v20 : Int) (v21 : Int) (out6 : List (Int × ByteArray × Int)) (v19 : List ByteArray), impl_SettleAll.LN7 n x k (impl_SettleAll.st7 list0 kind1 v20 v21 out6 v19) = impl_SettleAll.l7 n k list0 kind1 v20 v21 out6 v19 := by
  intro k
  induction k with
  | zero => intro list0 kind1 v20 v21 out6 v19; rfl
  | succ k ih =>
    intro list0 kind1 v20 v21 out6 v19
    have h : impl_SettleAll.LN7 n x (k + 1) (impl_SettleAll.st7 list0 kind1 v20 v21 out6 v19) = impl_SettleAll.g7 (fun list0 kind1 v20 v21 out6 v19 => impl_SettleAll.LN7 n x k (impl_SettleAll.st7 list0 kind1 v20 v21 out6 v19)) list0 kind1 v20 v21 out6 v19 := by kernel_rfl
    rw [h]
    simp only [ih]
    rfl
set_option maxRecDepth 100000 in
theorem impl_SettleAll.body (n : Nat) (x : (List (Int × ByteArray × Int)) × Int) : bodyF impl_SettleAll.E impl_SettleAll.keep n Try.f26 impl_SettleAll.con x = impl_SettleAll.fn n x.1 x.2 := by
  have h : bodyF impl_SettleAll.E impl_SettleAll.keep n Try.f26 impl_SettleAll.con x = impl_SettleAll.top (fun list0 kind1 v20 v21 out6 v19 => impl_SettleAll.LN7 n x n (impl_SettleAll.st7 list0 kind1 v20 v21 out6 v19)) x.1 x.2 := by kernel_rfl
  rw [h]
  simp only [impl_SettleAll.lem7]
  rfl
set_option maxRecDepth 100000 in
theorem impl_SettleAll.good : Good Try.prog 26 impl_SettleAll.con :=
  good_of tabok (cs := impl_SettleAll.cs) ⟨impl_AreBookings.good, impl_openArticles.good, impl_within.good, impl_piecesLeft.good, trivial⟩ 0 false (fn := Try.f26) Try.func26 rfl (by decide) (by simp [impl_SettleAll.con]) impl_SettleAll.keep NN (fun _ => rfl) (fun x => impl_SettleAll.body NN x)
end
end Go.Ev.Try

namespace Go.Ev.Try
open Go.Proofs Go.Pl
set_option linter.unusedVariables false
noncomputable section
def laws_big.con : Con := { ps := [(.val, (.sl 5 (.int .u8)))], rs := [(.val, .bool)], F := fun x => laws_big.f x }
def laws_big.cs : List (FuncId × Con) := []
def laws_big.E : Env := envOf tab laws_big.cs 0 false
def laws_big.keep (i : Nat) : List Nat := []
set_option maxRecDepth 100000 in
theorem laws_big.body (n : Nat) (x : List Int) : bodyF laws_big.E laws_big.keep n Try.f29 laws_big.con x = laws_big.fn n x := by
  have h : bodyF laws_big.E laws_big.keep n Try.f29 laws_big.con x = laws_big.top x := by kernel_rfl
  exact h
set_option maxRecDepth 100000 in
theorem laws_big.good : Good Try.prog 29 laws_big.con :=
  good_of tabok (cs := laws_big.cs) trivial 0 false (fn := Try.f29) Try.func29 rfl (by decide) (by simp [laws_big.con]) laws_big.keep NN (fun _ => rfl) (fun x => laws_big.body NN x)
end
end Go.Ev.Try

namespace Go.Ev.Try
open Go.Proofs Go.Pl
set_option linter.unusedVariables false
noncomputable section
def spec_l01From.st3 (code0 : List Int) (i4 : Int) (s3a : List Int) (s3ba : Int) (s3bb : Int) : St := ⟨[.dat (.sl 5 (.int .u8)) code0, .gone, .gone, .ptr 0 [], .dat (.int .i64) i4, .gone, .gone, .gone, .gone, .gone, .gone, .gone, .gone, .gone, .gone, .gone, .gone, .gone, .gone, .gone, .gone, .gone, .gone, .gone, .gone, .gone, .gone, .gone, .gone, .gone, .gone, .gone, .gone, .gone], [.box 158 (.pair (.sl 5 (.int .u8)) (.pair (.int .i64) (.int .i64))) (.pr (.dat (.sl 5 (.int .u8)) s3a) (.pr (.dat (.int .i64) s3ba) (.dat (.int .i64) s3bb)))]⟩
def spec_l01From.con : Con := { ps := [(.val, (.sl 5 (.int .u8)))], rs := [(.bx 158, (.pair (.sl 5 (.int .u8)) (.pair (.int .i64) (.int .i64))))], F := fun x => spec_l01From.f x }
def spec_l01From.cs : List (FuncId × Con) := []
def spec_l01From.E : Env := envOf tab spec_l01From.cs 0 false
def spec_l01From.keep (i : Nat) : List Nat := if i = 3 then [0, 3, 4] else []
def spec_l01From.at3 (n : Nat) (x : List Int) : Code × (Ex → St → Option ((List Int × Int × Int))) := ctx spec_l01From.E spec_l01From.keep n [.snd, .snd, .fst, .snd, .blk] (codeOf Try.f93) (kEnd spec_l01From.E Try.f93 spec_l01From.con x)
def spec_l01From.LN3 (n : Nat) (x : List Int) : Nat → St → Option ((List Int × Int × Int)) := loopN (exec spec_l01From.E spec_l01From.keep n (bodyOf (spec_l01From.at3 n x).1)) (St.norm 0 (spec_l01From.keep 3)) (spec_l01From.at3 n x).2
set_option maxRecDepth 100000 in
theorem spec_l01From.lem3 (n : Nat) (x : List Int) : ∀ (k : Nat) (code0 : List Int) (i4 : Int) (s3a : List Int) (s3ba : Int) (s3bb : Int), spec_l01From.LN3 n x k (spec_l01From.st3 code0 i4 s3a s3ba s3bb) = spec_l01From.l3 n k code0 i4 s3a s3ba s3bb := by
  intro k
  induction k with
  | zero => intro code0 i4 s3a s3ba s3bb; rfl
  | succ k ih =>
    intro code0 i4 s3a s3ba s3bb
    have h : spec_l01From.LN3 n x (k + 1) (spec_l01From.st3 code0 i4 s3a s3ba s3bb) = spec_l01From.g3 (fun code0 i4 s3a s3ba s3bb => spec_l01From.LN3 n x k (spec_l01From.st3 code0 i4 s3a s3ba s3bb)) code0 i4 s3a s3ba s3bb := by kernel_rfl
    rw [h]
    simp only [ih]
    rfl
set_option maxRecDepth 100000 in
theorem spec_l01From.body (n : Nat) (x : List Int) : bodyF spec_l01From.E spec_l01From.keep n Try.f93 spec_l01From.con x = spec_l01From.fn n x := by
  have h : bodyF spec_l01From.E spec_l01From.keep n Try.f93 spec_l01From.con x = spec_l01From.top (fun code0 i4 s3a s3ba s3bb => spec_l01From.LN3 n x n (spec_l01From.st3 code0 i4 s3a s3ba s3bb)) x := by kernel_rfl
  rw [h]
  simp only [spec_l01From.lem3]
  rfl
set_option maxRecDepth 100000 in
theorem spec_l01From.good : Good Try.prog 93 spec_l01From.con :=
  good_of tabok (cs := spec_l01From.cs) trivial 0 false (fn := Try.f93) Try.func93 rfl (by decide) (by simp [spec_l01From.con]) spec_l01From.keep NN (fun _ => rfl) (fun x => spec_l01From.body NN x)
end
end Go.Ev.Try

namespace Go.Ev.Try
open Go.Proofs Go.Pl
set_option linter.unusedVariables false
noncomputable section
def spec_l01Next.con : Con := { ps := [(.bx 158, (.pair (.sl 5 (.int .u8)) (.pair (.int .i64) (.int .i64)))), (.val, (.int .i64))], rs := [(.val, (.int .i64))], F := fun x => spec_l01Next.f x.1 x.2 }
def spec_l01Next.cs : List (FuncId × Con) := []
def spec_l01Next.E : Env := envOf tab spec_l01Next.cs 1 false
def spec_l01Next.keep (i : Nat) : List Nat := []
set_option maxRecDepth 100000 in
theorem spec_l01Next.body (n : Nat) (x : (List Int × Int × Int) × Int) : bodyF spec_l01Next.E spec_l01Next.keep n Try.f96 spec_l01Next.con x = spec_l01Next.fn n x.1 x.2 := by
  have h : bodyF spec_l01Next.E spec_l01Next.keep n Try.f96 spec_l01Next.con x = spec_l01Next.top x.1 x.2 := by kernel_rfl
  exact h
set_option maxRecDepth 100000 in
theorem spec_l01Next.good : Good Try.prog 96 spec_l01Next.con :=
  good_of tabok (cs := spec_l01Next.cs) trivial 1 false (fn := Try.f96) Try.func96 rfl (by decide) (by simp [spec_l01Next.con]) spec_l01Next.keep NN (fun _ => rfl) (fun x => spec_l01Next.body NN x)
end
end Go.Ev.Try

namespace Go.Ev.Try
open Go.Proofs Go.Pl
set_option linter.unusedVariables false
noncomputable section
def spec_l01Pick.con : Con := { ps := [(.bx 158, (.pair (.sl 5 (.int .u8)) (.pair (.int .i64) (.int .i64)))), (.val, (.sl 2 (.int .i64)))], rs := [(.val, (.int .i64))], F := fun x => spec_l01Pick.f x.1 x.2 }
def spec_l01Pick.cs : List (FuncId × Con) := [(96, spec_l01Next.con)]
def spec_l01Pick.E : Env := envOf tab spec_l01Pick.cs 1 false
def spec_l01Pick.keep (i : Nat) : List Nat := []
set_option maxRecDepth 100000 in
theorem spec_l01Pick.body (n : Nat) (x : (List Int × Int × Int) × List Int) : bodyF spec_l01Pick.E spec_l01Pick.keep n Try.f95 spec_l01Pick.con x = spec_l01Pick.fn n x.1 x.2 := by
  have h : bodyF spec_l01Pick.E spec_l01Pick.keep n Try.f95 spec_l01Pick.con x = spec_l01Pick.top x.1 x.2 := by kernel_rfl
  exact h
set_option maxRecDepth 100000 in
theorem spec_l01Pick.good : Good Try.prog 95 spec_l01Pick.con :=
  good_of tabok (cs := spec_l01Pick.cs) ⟨spec_l01Next.good, trivial⟩ 1 false (fn := Try.f95) Try.func95 rfl (by decide) (by simp [spec_l01Pick.con]) spec_l01Pick.keep NN (fun _ => rfl) (fun x => spec_l01Pick.body NN x)
end
end Go.Ev.Try

namespace Go.Ev.Try
open Go.Proofs Go.Pl
set_option linter.unusedVariables false
noncomputable section
def spec_l03Names.con : Con := { ps := [], rs := [(.own, (.sl 9 .str))], F := fun x => spec_l03Names.f  }
def spec_l03Names.cs : List (FuncId × Con) := []
def spec_l03Names.E : Env := envOf tab spec_l03Names.cs 0 false
def spec_l03Names.keep (i : Nat) : List Nat := []
set_option maxRecDepth 100000 in
theorem spec_l03Names.body (n : Nat) (x : Unit) : bodyF spec_l03Names.E spec_l03Names.keep n Try.f158 spec_l03Names.con x = spec_l03Names.fn n  := by
  have h : bodyF spec_l03Names.E spec_l03Names.keep n Try.f158 spec_l03Names.con x = spec_l03Names.top  := by kernel_rfl
  exact h
set_option maxRecDepth 100000 in
theorem spec_l03Names.good : Good Try.prog 158 spec_l03Names.con :=
  good_of tabok (cs := spec_l03Names.cs) trivial 0 false (fn := Try.f158) Try.func158 rfl (by decide) (by simp [spec_l03Names.con]) spec_l03Names.keep NN (fun _ => rfl) (fun x => spec_l03Names.body NN x)
end
end Go.Ev.Try

namespace Go.Ev.Try
open Go.Proofs Go.Pl
set_option linter.unusedVariables false
noncomputable section
def spec_BookPieces.topraw (list0 : List (Int × ByteArray × Int)) (b1 : Int × ByteArray × Int) : Option ((List (Int × ByteArray × Int)) × Int) :=
  (spec_AreBookings.f list0).bind fun r1 =>
  if (!r1) = true then
    some ([], 1)
  else if (((list0.length : Int) : Int) == 60) = true then
    some ([], 3)
  else
    agree (
      agree (
        if ([] : List (Int × ByteArray × Int)).length + list0.length < room 32 then
          if (([] : List (Int × ByteArray × Int)) ++ list0).length + ([b1]).length < room 32 then
            (spec_AreBookings.f ((([] : List (Int × ByteArray × Int)) ++ list0) ++ ([b1]))).bind fun r2 =>
            if (!r2) = true then
              some ([], 5)
            else
              some ((([] : List (Int × ByteArray × Int)) ++ list0) ++ ([b1]), 0)
          else
            none
        else
          none
      ) (
        agree (
          if ([] : List (Int × ByteArray × Int)).length + list0.length < room 32 then
            if (([] : List (Int × ByteArray × Int)) ++ list0).length + ([b1]).length < room 32 then
              (spec_AreBookings.f ((([] : List (Int × ByteArray × Int)) ++ list0) ++ ([b1]))).bind fun r2 =>
              if (!r2) = true then
                some ([], 5)
              else
                some ((([] : List (Int × ByteArray × Int)) ++ list0) ++ ([b1]), 0)
            else
              none
          else
            none
        ) (
          if ([] : List (Int × ByteArray × Int)).length + list0.length < room 32 then
            if (([] : List (Int × ByteArray × Int)) ++ list0).length + ([b1]).length < room 32 then
              (spec_AreBookings.f ((([] : List (Int × ByteArray × Int)) ++ list0) ++ ([b1]))).bind fun r2 =>
              if (!r2) = true then
                some ([], 5)
              else
                some ((([] : List (Int × ByteArray × Int)) ++ list0) ++ ([b1]), 0)
            else
              none
          else
            none
        )
      )
    ) (
      agree (
        agree (
          if ([] : List (Int × ByteArray × Int)).length + list0.length < room 32 then
            if (([] : List (Int × ByteArray × Int)) ++ list0).length + ([b1]).length < room 32 then
              (spec_AreBookings.f ((([] : List (Int × ByteArray × Int)) ++ list0) ++ ([b1]))).bind fun r2 =>
              if (!r2) = true then
                some ([], 5)
              else
                some ((([] : List (Int × ByteArray × Int)) ++ list0) ++ ([b1]), 0)
            else
              none
          else
            none
        ) (
          if ([] : List (Int × ByteArray × Int)).length + list0.length < room 32 then
            if (([] : List (Int × ByteArray × Int)) ++ list0).length + ([b1]).length < room 32 then
              (spec_AreBookings.f ((([] : List (Int × ByteArray × Int)) ++ list0) ++ ([b1]))).bind fun r2 =>
              if (!r2) = true then
                some ([], 5)
              else
                some ((([] : List (Int × ByteArray × Int)) ++ list0) ++ ([b1]), 0)
            else
              none
          else
            none
        )
      ) (
        if ([] : List (Int × ByteArray × Int)).length + list0.length < room 32 then
          if (([] : List (Int × ByteArray × Int)) ++ list0).length + ([b1]).length < room 32 then
            (spec_AreBookings.f ((([] : List (Int × ByteArray × Int)) ++ list0) ++ ([b1]))).bind fun r2 =>
            if (!r2) = true then
              some ([], 5)
            else
              some ((([] : List (Int × ByteArray × Int)) ++ list0) ++ ([b1]), 0)
          else
            none
        else
          none
      )
    )
theorem spec_BookPieces.topraw_eq (list0 : List (Int × ByteArray × Int)) (b1 : Int × ByteArray × Int) : spec_BookPieces.topraw list0 b1 = spec_BookPieces.top list0 b1 := by
  unfold spec_BookPieces.topraw spec_BookPieces.top
  simp only [agree_self]
def spec_BookPieces.con : Con := { ps := [(.val, (.sl 90 (.pair (.int .i64) (.pair .str (.int .i64))))), (.val, (.pair (.int .i64) (.pair .str (.int .i64))))], rs := [(.own, (.sl 90 (.pair (.int .i64) (.pair .str (.int .i64))))), (.own, (.int .i64))], F := fun x => spec_BookPieces.f x.1 x.2 }
def spec_BookPieces.cs : List (FuncId × Con) := [(79, spec_AreBookings.con)]
def spec_BookPieces.E : Env := envOf tab spec_BookPieces.cs 0 false
def spec_BookPieces.keep (i : Nat) : List Nat := []
set_option maxRecDepth 100000 in
theorem spec_BookPieces.body (n : Nat) (x : (List (Int × ByteArray × Int)) × Int × ByteArray × Int) : bodyF spec_BookPieces.E spec_BookPieces.keep n Try.f159 spec_BookPieces.con x = spec_BookPieces.fn n x.1 x.2 := by
  have h : bodyF spec_BookPieces.E spec_BookPieces.keep n Try.f159 spec_BookPieces.con x = spec_BookPieces.topraw x.1 x.2 := by kernel_rfl
  rw [spec_BookPieces.topraw_eq] at h
  exact h
set_option maxRecDepth 100000 in
theorem spec_BookPieces.good : Good Try.prog 159 spec_BookPieces.con :=
  good_of tabok (cs := spec_BookPieces.cs) ⟨spec_AreBookings.good, trivial⟩ 0 false (fn := Try.f159) Try.func159 rfl (by decide) (by simp [spec_BookPieces.con]) spec_BookPieces.keep NN (fun _ => rfl) (fun x => spec_BookPieces.body NN x)
end
end Go.Ev.Try

namespace Go.Ev.Try
open Go.Proofs Go.Pl
set_option linter.unusedVariables false
noncomputable section
def spec_l32Good.st4 (n5 : Int) (s0 : List Int × Int × Int) (out3 : List (Int × ByteArray × Int)) (names4 : List ByteArray) : St := ⟨[.ptr 0 [], .gone, .gone, .ref 1, .ref 2, .dat (.int .i64) n5, .gone, .gone, .gone, .gone, .gone, .gone, .gone, .gone, .gone, .gone, .gone, .gone, .gone, .gone, .gone, .gone, .gone, .gone, .gone, .gone, .gone, .gone, .gone, .gone, .gone, .gone, .gone, .gone, .gone, .gone, .gone, .gone, .gone, .gone, .gone, .gone, .gone, .gone, .gone, .gone, .gone, .gone, .gone, .gone, .gone, .gone, .gone, .gone, .gone, .gone, .gone, .gone, .gone, .gone, .gone, .gone, .gone], [.box 158 (.pair (.sl 5 (.int .u8)) (.pair (.int .i64) (.int .i64))) (.dat (.pair (.sl 5 (.int .u8)) (.pair (.int .i64) (.int .i64))) s0), .row 90 (.pair (.int .i64) (.pair .str (.int .i64))) out3 none, .row 9 .str names4 none]⟩
def spec_l32Good.g4raw (L4 : Int → (List Int × Int × Int) → (List (Int × ByteArray × Int)) → List ByteArray → Option ((List (Int × ByteArray × Int)) × List Int × Int × Int)) (n5 : Int) (s0 : List Int × Int × Int) (out3 : List (Int × ByteArray × Int)) (names4 : List ByteArray) : Option ((List (Int × ByteArray × Int)) × List Int × Int × Int) :=
  if (decide ((0 : Int) < n5)) = true then
    agree (
      (spec_l01Next.f s0 4).bind fun r3 =>
      agree (
        (spec_l01Next.f r3.2 4).bind fun r4 =>
        if (0 : Int) ≤ r4.1 ∧ (r4.1 : Int) < names4.length then
          agree (
            agree (
              (spec_l01Next.f r4.2 12).bind fun r5 =>
              (spec_l32Left.f out3 (names4.getD (r4.1 : Int).toNat ByteArray.empty) (out3.length : Int)).bind fun r6 =>
              if (decide ((0 : Int) < r3.1)) = true then
                if (decide ((0 : Int) < r6)) = true then
                  (spec_l01Next.f r5.2 2).bind fun r7 =>
                  if ((r7.1 : Int) == 0) = true then
                    if ((r6 : Int) == 0) = true then
                      (spec_BookPieces.f out3 (0, (names4.getD (r4.1 : Int).toNat ByteArray.empty, (if r6 < 1000 then r6 else 1000)))).bind fun r8 =>
                      if ((r8.2 : Int) == 0) = true then
                        L4 (IntKind.i64.wrap (n5 - 1)) r7.2 r8.1 names4
                      else
                        L4 (IntKind.i64.wrap (n5 - 1)) r7.2 out3 names4
                    else
                      (spec_BookPieces.f out3 (r3.1, (names4.getD (r4.1 : Int).toNat ByteArray.empty, (if r6 < 1000 then r6 else 1000)))).bind fun r9 =>
                      if ((r9.2 : Int) == 0) = true then
                        L4 (IntKind.i64.wrap (n5 - 1)) r7.2 r9.1 names4
                      else
                        L4 (IntKind.i64.wrap (n5 - 1)) r7.2 out3 names4
                  else if ((r6 : Int) == 0) = true then
                    (spec_BookPieces.f out3 (0, (names4.getD (r4.1 : Int).toNat ByteArray.empty, IntKind.i64.wrap (1 + r5.1)))).bind fun r10 =>
                    if ((r10.2 : Int) == 0) = true then
                      L4 (IntKind.i64.wrap (n5 - 1)) r7.2 r10.1 names4
                    else
                      L4 (IntKind.i64.wrap (n5 - 1)) r7.2 out3 names4
                  else
                    (spec_BookPieces.f out3 (r3.1, (names4.getD (r4.1 : Int).toNat ByteArray.empty, IntKind.i64.wrap (1 + r5.1)))).bind fun r11 =>
                    if ((r11.2 : Int) == 0) = true then
                      L4 (IntKind.i64.wrap (n5 - 1)) r7.2 r11.1 names4
                    else
                      L4 (IntKind.i64.wrap (n5 - 1)) r7.2 out3 names4
                else if ((r6 : Int) == 0) = true then
                  (spec_BookPieces.f out3 (0, (names4.getD (r4.1 : Int).toNat ByteArray.empty, IntKind.i64.wrap (1 + r5.1)))).bind fun r12 =>
                  if ((r12.2 : Int) == 0) = true then
                    L4 (IntKind.i64.wrap (n5 - 1)) r5.2 r12.1 names4
                  else
                    L4 (IntKind.i64.wrap (n5 - 1)) r5.2 out3 names4
                else
                  (spec_BookPieces.f out3 (r3.1, (names4.getD (r4.1 : Int).toNat ByteArray.empty, IntKind.i64.wrap (1 + r5.1)))).bind fun r13 =>
                  if ((r13.2 : Int) == 0) = true then
                    L4 (IntKind.i64.wrap (n5 - 1)) r5.2 r13.1 names4
                  else
                    L4 (IntKind.i64.wrap (n5 - 1)) r5.2 out3 names4
              else if ((r6 : Int) == 0) = true then
                (spec_BookPieces.f out3 (0, (names4.getD (r4.1 : Int).toNat ByteArray.empty, IntKind.i64.wrap (1 + r5.1)))).bind fun r14 =>
                if ((r14.2 : Int) == 0) = true then
                  L4 (IntKind.i64.wrap (n5 - 1)) r5.2 r14.1 names4
                else
                  L4 (IntKind.i64.wrap (n5 - 1)) r5.2 out3 names4
              else
                (spec_BookPieces.f out3 (r3.1, (names4.getD (r4.1 : Int).toNat ByteArray.empty, IntKind.i64.wrap (1 + r5.1)))).bind fun r15 =>
                if ((r15.2 : Int) == 0) = true then
                  L4 (IntKind.i64.wrap (n5 - 1)) r5.2 r15.1 names4
                else
                  L4 (IntKind.i64.wrap (n5 - 1)) r5.2 out3 names4
            ) (
              (spec_l01Next.f r4.2 12).bind fun r5 =>
              (spec_l32Left.f out3 (names4.getD (r4.1 : Int).toNat ByteArray.empty) (out3.length : Int)).bind fun r6 =>
              if (decide ((0 : Int) < r3.1)) = true then
                if (decide ((0 : Int) < r6)) = true then
                  (spec_l01Next.f r5.2 2).bind fun r7 =>
                  if ((r7.1 : Int) == 0) = true then
                    if ((r6 : Int) == 0) = true then
                      (spec_BookPieces.f out3 (0, (names4.getD (r4.1 : Int).toNat ByteArray.empty, (if r6 < 1000 then r6 else 1000)))).bind fun r8 =>
                      if ((r8.2 : Int) == 0) = true then
                        L4 (IntKind.i64.wrap (n5 - 1)) r7.2 r8.1 names4
                      else
                        L4 (IntKind.i64.wrap (n5 - 1)) r7.2 out3 names4
                    else
                      (spec_BookPieces.f out3 (r3.1, (names4.getD (r4.1 : Int).toNat ByteArray.empty, (if r6 < 1000 then r6 else 1000)))).bind fun r9 =>
                      if ((r9.2 : Int) == 0) = true then
                        L4 (IntKind.i64.wrap (n5 - 1)) r7.2 r9.1 names4
                      else
                        L4 (IntKind.i64.wrap (n5 - 1)) r7.2 out3 names4
                  else if ((r6 : Int) == 0) = true then
                    (spec_BookPieces.f out3 (0, (names4.getD (r4.1 : Int).toNat ByteArray.empty, IntKind.i64.wrap (1 + r5.1)))).bind fun r10 =>
                    if ((r10.2 : Int) == 0) = true then
                      L4 (IntKind.i64.wrap (n5 - 1)) r7.2 r10.1 names4
                    else
                      L4 (IntKind.i64.wrap (n5 - 1)) r7.2 out3 names4
                  else
                    (spec_BookPieces.f out3 (r3.1, (names4.getD (r4.1 : Int).toNat ByteArray.empty, IntKind.i64.wrap (1 + r5.1)))).bind fun r11 =>
                    if ((r11.2 : Int) == 0) = true then
                      L4 (IntKind.i64.wrap (n5 - 1)) r7.2 r11.1 names4
                    else
                      L4 (IntKind.i64.wrap (n5 - 1)) r7.2 out3 names4
                else if ((r6 : Int) == 0) = true then
                  (spec_BookPieces.f out3 (0, (names4.getD (r4.1 : Int).toNat ByteArray.empty, IntKind.i64.wrap (1 + r5.1)))).bind fun r12 =>
                  if ((r12.2 : Int) == 0) = true then
                    L4 (IntKind.i64.wrap (n5 - 1)) r5.2 r12.1 names4
                  else
                    L4 (IntKind.i64.wrap (n5 - 1)) r5.2 out3 names4
                else
                  (spec_BookPieces.f out3 (r3.1, (names4.getD (r4.1 : Int).toNat ByteArray.empty, IntKind.i64.wrap (1 + r5.1)))).bind fun r13 =>
                  if ((r13.2 : Int) == 0) = true then
                    L4 (IntKind.i64.wrap (n5 - 1)) r5.2 r13.1 names4
                  else
                    L4 (IntKind.i64.wrap (n5 - 1)) r5.2 out3 names4
              else if ((r6 : Int) == 0) = true then
                (spec_BookPieces.f out3 (0, (names4.getD (r4.1 : Int).toNat ByteArray.empty, IntKind.i64.wrap (1 + r5.1)))).bind fun r14 =>
                if ((r14.2 : Int) == 0) = true then
                  L4 (IntKind.i64.wrap (n5 - 1)) r5.2 r14.1 names4
                else
                  L4 (IntKind.i64.wrap (n5 - 1)) r5.2 out3 names4
              else
                (spec_BookPieces.f out3 (r3.1, (names4.getD (r4.1 : Int).toNat ByteArray.empty, IntKind.i64.wrap (1 + r5.1)))).bind fun r15 =>
                if ((r15.2 : Int) == 0) = true then
                  L4 (IntKind.i64.wrap (n5 - 1)) r5.2 r15.1 names4
                else
                  L4 (IntKind.i64.wrap (n5 - 1)) r5.2 out3 names4
            )
          ) (
            agree (
              (spec_l01Next.f r4.2 12).bind fun r5 =>
              (spec_l32Left.f out3 (names4.getD (r4.1 : Int).toNat ByteArray.empty) (out3.length : Int)).bind fun r6 =>
              if (decide ((0 : Int) < r3.1)) = true then
                if (decide ((0 : Int) < r6)) = true then
                  (spec_l01Next.f r5.2 2).bind fun r7 =>
                  if ((r7.1 : Int) == 0) = true then
                    if ((r6 : Int) == 0) = true then
                      (spec_BookPieces.f out3 (0, (names4.getD (r4.1 : Int).toNat ByteArray.empty, (if r6 < 1000 then r6 else 1000)))).bind fun r8 =>
                      if ((r8.2 : Int) == 0) = true then
                        L4 (IntKind.i64.wrap (n5 - 1)) r7.2 r8.1 names4
                      else
                        L4 (IntKind.i64.wrap (n5 - 1)) r7.2 out3 names4
                    else
                      (spec_BookPieces.f out3 (r3.1, (names4.getD (r4.1 : Int).toNat ByteArray.empty, (if r6 < 1000 then r6 else 1000)))).bind fun r9 =>
                      if ((r9.2 : Int) == 0) = true then
                        L4 (IntKind.i64.wrap (n5 - 1)) r7.2 r9.1 names4
                      else
                        L4 (IntKind.i64.wrap (n5 - 1)) r7.2 out3 names4
                  else if ((r6 : Int) == 0) = true then
                    (spec_BookPieces.f out3 (0, (names4.getD (r4.1 : Int).toNat ByteArray.empty, IntKind.i64.wrap (1 + r5.1)))).bind fun r10 =>
                    if ((r10.2 : Int) == 0) = true then
                      L4 (IntKind.i64.wrap (n5 - 1)) r7.2 r10.1 names4
                    else
                      L4 (IntKind.i64.wrap (n5 - 1)) r7.2 out3 names4
                  else
                    (spec_BookPieces.f out3 (r3.1, (names4.getD (r4.1 : Int).toNat ByteArray.empty, IntKind.i64.wrap (1 + r5.1)))).bind fun r11 =>
                    if ((r11.2 : Int) == 0) = true then
                      L4 (IntKind.i64.wrap (n5 - 1)) r7.2 r11.1 names4
                    else
                      L4 (IntKind.i64.wrap (n5 - 1)) r7.2 out3 names4
                else if ((r6 : Int) == 0) = true then
                  (spec_BookPieces.f out3 (0, (names4.getD (r4.1 : Int).toNat ByteArray.empty, IntKind.i64.wrap (1 + r5.1)))).bind fun r12 =>
                  if ((r12.2 : Int) == 0) = true then
                    L4 (IntKind.i64.wrap (n5 - 1)) r5.2 r12.1 names4
                  else
                    L4 (IntKind.i64.wrap (n5 - 1)) r5.2 out3 names4
                else
                  (spec_BookPieces.f out3 (r3.1, (names4.getD (r4.1 : Int).toNat ByteArray.empty, IntKind.i64.wrap (1 + r5.1)))).bind fun r13 =>
                  if ((r13.2 : Int) == 0) = true then
                    L4 (IntKind.i64.wrap (n5 - 1)) r5.2 r13.1 names4
                  else
                    L4 (IntKind.i64.wrap (n5 - 1)) r5.2 out3 names4
              else if ((r6 : Int) == 0) = true then
                (spec_BookPieces.f out3 (0, (names4.getD (r4.1 : Int).toNat ByteArray.empty, IntKind.i64.wrap (1 + r5.1)))).bind fun r14 =>
                if ((r14.2 : Int) == 0) = true then
                  L4 (IntKind.i64.wrap (n5 - 1)) r5.2 r14.1 names4
                else
                  L4 (IntKind.i64.wrap (n5 - 1)) r5.2 out3 names4
              else
                (spec_BookPieces.f out3 (r3.1, (names4.getD (r4.1 : Int).toNat ByteArray.empty, IntKind.i64.wrap (1 + r5.1)))).bind fun r15 =>
                if ((r15.2 : Int) == 0) = true then
                  L4 (IntKind.i64.wrap (n5 - 1)) r5.2 r15.1 names4
                else
                  L4 (IntKind.i64.wrap (n5 - 1)) r5.2 out3 names4
            ) (
              agree (
                (spec_l01Next.f r4.2 12).bind fun r5 =>
                (spec_l32Left.f out3 (names4.getD (r4.1 : Int).toNat ByteArray.empty) (out3.length : Int)).bind fun r6 =>
                if (decide ((0 : Int) < r3.1)) = true then
                  if (decide ((0 : Int) < r6)) = true then
                    (spec_l01Next.f r5.2 2).bind fun r7 =>
                    if ((r7.1 : Int) == 0) = true then
                      if ((r6 : Int) == 0) = true then
                        (spec_BookPieces.f out3 (0, (names4.getD (r4.1 : Int).toNat ByteArray.empty, (if r6 < 1000 then r6 else 1000)))).bind fun r8 =>
                        if ((r8.2 : Int) == 0) = true then
                          L4 (IntKind.i64.wrap (n5 - 1)) r7.2 r8.1 names4
                        else
                          L4 (IntKind.i64.wrap (n5 - 1)) r7.2 out3 names4
                      else
                        (spec_BookPieces.f out3 (r3.1, (names4.getD (r4.1 : Int).toNat ByteArray.empty, (if r6 < 1000 then r6 else 1000)))).bind fun r9 =>
                        if ((r9.2 : Int) == 0) = true then
                          L4 (IntKind.i64.wrap (n5 - 1)) r7.2 r9.1 names4
                        else
                          L4 (IntKind.i64.wrap (n5 - 1)) r7.2 out3 names4
                    else if ((r6 : Int) == 0) = true then
                      (spec_BookPieces.f out3 (0, (names4.getD (r4.1 : Int).toNat ByteArray.empty, IntKind.i64.wrap (1 + r5.1)))).bind fun r10 =>
                      if ((r10.2 : Int) == 0) = true then
                        L4 (IntKind.i64.wrap (n5 - 1)) r7.2 r10.1 names4
                      else
                        L4 (IntKind.i64.wrap (n5 - 1)) r7.2 out3 names4
                    else
                      (spec_BookPieces.f out3 (r3.1, (names4.getD (r4.1 : Int).toNat ByteArray.empty, IntKind.i64.wrap (1 + r5.1)))).bind fun r11 =>
                      if ((r11.2 : Int) == 0) = true then
                        L4 (IntKind.i64.wrap (n5 - 1)) r7.2 r11.1 names4
                      else
                        L4 (IntKind.i64.wrap (n5 - 1)) r7.2 out3 names4
                  else if ((r6 : Int) == 0) = true then
                    (spec_BookPieces.f out3 (0, (names4.getD (r4.1 : Int).toNat ByteArray.empty, IntKind.i64.wrap (1 + r5.1)))).bind fun r12 =>
                    if ((r12.2 : Int) == 0) = true then
                      L4 (IntKind.i64.wrap (n5 - 1)) r5.2 r12.1 names4
                    else
                      L4 (IntKind.i64.wrap (n5 - 1)) r5.2 out3 names4
                  else
                    (spec_BookPieces.f out3 (r3.1, (names4.getD (r4.1 : Int).toNat ByteArray.empty, IntKind.i64.wrap (1 + r5.1)))).bind fun r13 =>
                    if ((r13.2 : Int) == 0) = true then
                      L4 (IntKind.i64.wrap (n5 - 1)) r5.2 r13.1 names4
                    else
                      L4 (IntKind.i64.wrap (n5 - 1)) r5.2 out3 names4
                else if ((r6 : Int) == 0) = true then
                  (spec_BookPieces.f out3 (0, (names4.getD (r4.1 : Int).toNat ByteArray.empty, IntKind.i64.wrap (1 + r5.1)))).bind fun r14 =>
                  if ((r14.2 : Int) == 0) = true then
                    L4 (IntKind.i64.wrap (n5 - 1)) r5.2 r14.1 names4
                  else
                    L4 (IntKind.i64.wrap (n5 - 1)) r5.2 out3 names4
                else
                  (spec_BookPieces.f out3 (r3.1, (names4.getD (r4.1 : Int).toNat ByteArray.empty, IntKind.i64.wrap (1 + r5.1)))).bind fun r15 =>
                  if ((r15.2 : Int) == 0) = true then
                    L4 (IntKind.i64.wrap (n5 - 1)) r5.2 r15.1 names4
                  else
                    L4 (IntKind.i64.wrap (n5 - 1)) r5.2 out3 names4
              ) (
                (spec_l01Next.f r4.2 12).bind fun r5 =>
                (spec_l32Left.f out3 (names4.getD (r4.1 : Int).toNat ByteArray.empty) (out3.length : Int)).bind fun r6 =>
                if (decide ((0 : Int) < r3.1)) = true then
                  if (decide ((0 : Int) < r6)) = true then
                    (spec_l01Next.f r5.2 2).bind fun r7 =>
                    if ((r7.1 : Int) == 0) = true then
                      if ((r6 : Int) == 0) = true then
                        (spec_BookPieces.f out3 (0, (names4.getD (r4.1 : Int).toNat ByteArray.empty, (if r6 < 1000 then r6 else 1000)))).bind fun r8 =>
                        if ((r8.2 : Int) == 0) = true then
                          L4 (IntKind.i64.wrap (n5 - 1)) r7.2 r8.1 names4
                        else
                          L4 (IntKind.i64.wrap (n5 - 1)) r7.2 out3 names4
                      else
                        (spec_BookPieces.f out3 (r3.1, (names4.getD (r4.1 : Int).toNat ByteArray.empty, (if r6 < 1000 then r6 else 1000)))).bind fun r9 =>
                        if ((r9.2 : Int) == 0) = true then
                          L4 (IntKind.i64.wrap (n5 - 1)) r7.2 r9.1 names4
                        else
                          L4 (IntKind.i64.wrap (n5 - 1)) r7.2 out3 names4
                    else if ((r6 : Int) == 0) = true then
                      (spec_BookPieces.f out3 (0, (names4.getD (r4.1 : Int).toNat ByteArray.empty, IntKind.i64.wrap (1 + r5.1)))).bind fun r10 =>
                      if ((r10.2 : Int) == 0) = true then
                        L4 (IntKind.i64.wrap (n5 - 1)) r7.2 r10.1 names4
                      else
                        L4 (IntKind.i64.wrap (n5 - 1)) r7.2 out3 names4
                    else
                      (spec_BookPieces.f out3 (r3.1, (names4.getD (r4.1 : Int).toNat ByteArray.empty, IntKind.i64.wrap (1 + r5.1)))).bind fun r11 =>
                      if ((r11.2 : Int) == 0) = true then
                        L4 (IntKind.i64.wrap (n5 - 1)) r7.2 r11.1 names4
                      else
                        L4 (IntKind.i64.wrap (n5 - 1)) r7.2 out3 names4
                  else if ((r6 : Int) == 0) = true then
                    (spec_BookPieces.f out3 (0, (names4.getD (r4.1 : Int).toNat ByteArray.empty, IntKind.i64.wrap (1 + r5.1)))).bind fun r12 =>
                    if ((r12.2 : Int) == 0) = true then
                      L4 (IntKind.i64.wrap (n5 - 1)) r5.2 r12.1 names4
                    else
                      L4 (IntKind.i64.wrap (n5 - 1)) r5.2 out3 names4
                  else
                    (spec_BookPieces.f out3 (r3.1, (names4.getD (r4.1 : Int).toNat ByteArray.empty, IntKind.i64.wrap (1 + r5.1)))).bind fun r13 =>
                    if ((r13.2 : Int) == 0) = true then
                      L4 (IntKind.i64.wrap (n5 - 1)) r5.2 r13.1 names4
                    else
                      L4 (IntKind.i64.wrap (n5 - 1)) r5.2 out3 names4
                else if ((r6 : Int) == 0) = true then
                  (spec_BookPieces.f out3 (0, (names4.getD (r4.1 : Int).toNat ByteArray.empty, IntKind.i64.wrap (1 + r5.1)))).bind fun r14 =>
                  if ((r14.2 : Int) == 0) = true then
                    L4 (IntKind.i64.wrap (n5 - 1)) r5.2 r14.1 names4
                  else
                    L4 (IntKind.i64.wrap (n5 - 1)) r5.2 out3 names4
                else
                  (spec_BookPieces.f out3 (r3.1, (names4.getD (r4.1 : Int).toNat ByteArray.empty, IntKind.i64.wrap (1 + r5.1)))).bind fun r15 =>
                  if ((r15.2 : Int) == 0) = true then
                    L4 (IntKind.i64.wrap (n5 - 1)) r5.2 r15.1 names4
                  else
                    L4 (IntKind.i64.wrap (n5 - 1)) r5.2 out3 names4
              )
            )
          )
        else
          none
      ) (
        (spec_l01Next.f r3.2 4).bind fun r4 =>
        if (0 : Int) ≤ r4.1 ∧ (r4.1 : Int) < names4.length then
          agree (
            (spec_l01Next.f r4.2 12).bind fun r5 =>
            (spec_l32Left.f out3 (names4.getD (r4.1 : Int).toNat ByteArray.empty) (out3.length : Int)).bind fun r6 =>
            if (decide ((0 : Int) < r3.1)) = true then
              if (decide ((0 : Int) < r6)) = true then
                (spec_l01Next.f r5.2 2).bind fun r7 =>
                if ((r7.1 : Int) == 0) = true then
                  if ((r6 : Int) == 0) = true then
                    (spec_BookPieces.f out3 (0, (names4.getD (r4.1 : Int).toNat ByteArray.empty, (if r6 < 1000 then r6 else 1000)))).bind fun r8 =>
                    if ((r8.2 : Int) == 0) = true then
                      L4 (IntKind.i64.wrap (n5 - 1)) r7.2 r8.1 names4
                    else
                      L4 (IntKind.i64.wrap (n5 - 1)) r7.2 out3 names4
                  else
                    (spec_BookPieces.f out3 (r3.1, (names4.getD (r4.1 : Int).toNat ByteArray.empty, (if r6 < 1000 then r6 else 1000)))).bind fun r9 =>
                    if ((r9.2 : Int) == 0) = true then
                      L4 (IntKind.i64.wrap (n5 - 1)) r7.2 r9.1 names4
                    else
                      L4 (IntKind.i64.wrap (n5 - 1)) r7.2 out3 names4
                else if ((r6 : Int) == 0) = true then
                  (spec_BookPieces.f out3 (0, (names4.getD (r4.1 : Int).toNat ByteArray.empty, IntKind.i64.wrap (1 + r5.1)))).bind fun r10 =>
                  if ((r10.2 : Int) == 0) = true then
                    L4 (IntKind.i64.wrap (n5 - 1)) r7.2 r10.1 names4
                  else
                    L4 (IntKind.i64.wrap (n5 - 1)) r7.2 out3 names4
                else
                  (spec_BookPieces.f out3 (r3.1, (names4.getD (r4.1 : Int).toNat ByteArray.empty, IntKind.i64.wrap (1 + r5.1)))).bind fun r11 =>
                  if ((r11.2 : Int) == 0) = true then
                    L4 (IntKind.i64.wrap (n5 - 1)) r7.2 r11.1 names4
                  else
                    L4 (IntKind.i64.wrap (n5 - 1)) r7.2 out3 names4
              else if ((r6 : Int) == 0) = true then
                (spec_BookPieces.f out3 (0, (names4.getD (r4.1 : Int).toNat ByteArray.empty, IntKind.i64.wrap (1 + r5.1)))).bind fun r12 =>
                if ((r12.2 : Int) == 0) = true then
                  L4 (IntKind.i64.wrap (n5 - 1)) r5.2 r12.1 names4
                else
                  L4 (IntKind.i64.wrap (n5 - 1)) r5.2 out3 names4
              else
                (spec_BookPieces.f out3 (r3.1, (names4.getD (r4.1 : Int).toNat ByteArray.empty, IntKind.i64.wrap (1 + r5.1)))).bind fun r13 =>
                if ((r13.2 : Int) == 0) = true then
                  L4 (IntKind.i64.wrap (n5 - 1)) r5.2 r13.1 names4
                else
                  L4 (IntKind.i64.wrap (n5 - 1)) r5.2 out3 names4
            else if ((r6 : Int) == 0) = true then
              (spec_BookPieces.f out3 (0, (names4.getD (r4.1 : Int).toNat ByteArray.empty, IntKind.i64.wrap (1 + r5.1)))).bind fun r14 =>
              if ((r14.2 : Int) == 0) = true then
                L4 (IntKind.i64.wrap (n5 - 1)) r5.2 r14.1 names4
              else
                L4 (IntKind.i64.wrap (n5 - 1)) r5.2 out3 names4
            else
              (spec_BookPieces.f out3 (r3.1, (names4.getD (r4.1 : Int).toNat ByteArray.empty, IntKind.i64.wrap (1 + r5.1)))).bind fun r15 =>
              if ((r15.2 : Int) == 0) = true then
                L4 (IntKind.i64.wrap (n5 - 1)) r5.2 r15.1 names4
              else
                L4 (IntKind.i64.wrap (n5 - 1)) r5.2 out3 names4
          ) (
            (spec_l01Next.f r4.2 12).bind fun r5 =>
            (spec_l32Left.f out3 (names4.getD (r4.1 : Int).toNat ByteArray.empty) (out3.length : Int)).bind fun r6 =>
            if (decide ((0 : Int) < r3.1)) = true then
              if (decide ((0 : Int) < r6)) = true then
                (spec_l01Next.f r5.2 2).bind fun r7 =>
                if ((r7.1 : Int) == 0) = true then
                  if ((r6 : Int) == 0) = true then
                    (spec_BookPieces.f out3 (0, (names4.getD (r4.1 : Int).toNat ByteArray.empty, (if r6 < 1000 then r6 else 1000)))).bind fun r8 =>
                    if ((r8.2 : Int) == 0) = true then
                      L4 (IntKind.i64.wrap (n5 - 1)) r7.2 r8.1 names4
                    else
                      L4 (IntKind.i64.wrap (n5 - 1)) r7.2 out3 names4
                  else
                    (spec_BookPieces.f out3 (r3.1, (names4.getD (r4.1 : Int).toNat ByteArray.empty, (if r6 < 1000 then r6 else 1000)))).bind fun r9 =>
                    if ((r9.2 : Int) == 0) = true then
                      L4 (IntKind.i64.wrap (n5 - 1)) r7.2 r9.1 names4
                    else
                      L4 (IntKind.i64.wrap (n5 - 1)) r7.2 out3 names4
                else if ((r6 : Int) == 0) = true then
                  (spec_BookPieces.f out3 (0, (names4.getD (r4.1 : Int).toNat ByteArray.empty, IntKind.i64.wrap (1 + r5.1)))).bind fun r10 =>
                  if ((r10.2 : Int) == 0) = true then
                    L4 (IntKind.i64.wrap (n5 - 1)) r7.2 r10.1 names4
                  else
                    L4 (IntKind.i64.wrap (n5 - 1)) r7.2 out3 names4
                else
                  (spec_BookPieces.f out3 (r3.1, (names4.getD (r4.1 : Int).toNat ByteArray.empty, IntKind.i64.wrap (1 + r5.1)))).bind fun r11 =>
                  if ((r11.2 : Int) == 0) = true then
                    L4 (IntKind.i64.wrap (n5 - 1)) r7.2 r11.1 names4
                  else
                    L4 (IntKind.i64.wrap (n5 - 1)) r7.2 out3 names4
              else if ((r6 : Int) == 0) = true then
                (spec_BookPieces.f out3 (0, (names4.getD (r4.1 : Int).toNat ByteArray.empty, IntKind.i64.wrap (1 + r5.1)))).bind fun r12 =>
                if ((r12.2 : Int) == 0) = true then
                  L4 (IntKind.i64.wrap (n5 - 1)) r5.2 r12.1 names4
                else
                  L4 (IntKind.i64.wrap (n5 - 1)) r5.2 out3 names4
              else
                (spec_BookPieces.f out3 (r3.1, (names4.getD (r4.1 : Int).toNat ByteArray.empty, IntKind.i64.wrap (1 + r5.1)))).bind fun r13 =>
                if ((r13.2 : Int) == 0) = true then
                  L4 (IntKind.i64.wrap (n5 - 1)) r5.2 r13.1 names4
                else
                  L4 (IntKind.i64.wrap (n5 - 1)) r5.2 out3 names4
            else if ((r6 : Int) == 0) = true then
              (spec_BookPieces.f out3 (0, (names4.getD (r4.1 : Int).toNat ByteArray.empty, IntKind.i64.wrap (1 + r5.1)))).bind fun r14 =>
              if ((r14.2 : Int) == 0) = true then
                L4 (IntKind.i64.wrap (n5 - 1)) r5.2 r14.1 names4
              else
                L4 (IntKind.i64.wrap (n5 - 1)) r5.2 out3 names4
            else
              (spec_BookPieces.f out3 (r3.1, (names4.getD (r4.1 : Int).toNat ByteArray.empty, IntKind.i64.wrap (1 + r5.1)))).bind fun r15 =>
              if ((r15.2 : Int) == 0) = true then
                L4 (IntKind.i64.wrap (n5 - 1)) r5.2 r15.1 names4
              else
                L4 (IntKind.i64.wrap (n5 - 1)) r5.2 out3 names4
          )
        else
          none
      )
    ) (
      (spec_l01Next.f s0 4).bind fun r3 =>
      (spec_l01Next.f r3.2 4).bind fun r4 =>
      if (0 : Int) ≤ r4.1 ∧ (r4.1 : Int) < names4.length then
        agree (
          (spec_l01Next.f r4.2 12).bind fun r5 =>
          (spec_l32Left.f out3 (names4.getD (r4.1 : Int).toNat ByteArray.empty) (out3.length : Int)).bind fun r6 =>
          if (decide ((0 : Int) < r3.1)) = true then
            if (decide ((0 : Int) < r6)) = true then
              (spec_l01Next.f r5.2 2).bind fun r7 =>
              if ((r7.1 : Int) == 0) = true then
                if ((r6 : Int) == 0) = true then
                  (spec_BookPieces.f out3 (0, (names4.getD (r4.1 : Int).toNat ByteArray.empty, (if r6 < 1000 then r6 else 1000)))).bind fun r8 =>
                  if ((r8.2 : Int) == 0) = true then
                    L4 (IntKind.i64.wrap (n5 - 1)) r7.2 r8.1 names4
                  else
                    L4 (IntKind.i64.wrap (n5 - 1)) r7.2 out3 names4
                else
                  (spec_BookPieces.f out3 (r3.1, (names4.getD (r4.1 : Int).toNat ByteArray.empty, (if r6 < 1000 then r6 else 1000)))).bind fun r9 =>
                  if ((r9.2 : Int) == 0) = true then
                    L4 (IntKind.i64.wrap (n5 - 1)) r7.2 r9.1 names4
                  else
                    L4 (IntKind.i64.wrap (n5 - 1)) r7.2 out3 names4
              else if ((r6 : Int) == 0) = true then
                (spec_BookPieces.f out3 (0, (names4.getD (r4.1 : Int).toNat ByteArray.empty, IntKind.i64.wrap (1 + r5.1)))).bind fun r10 =>
                if ((r10.2 : Int) == 0) = true then
                  L4 (IntKind.i64.wrap (n5 - 1)) r7.2 r10.1 names4
                else
                  L4 (IntKind.i64.wrap (n5 - 1)) r7.2 out3 names4
              else
                (spec_BookPieces.f out3 (r3.1, (names4.getD (r4.1 : Int).toNat ByteArray.empty, IntKind.i64.wrap (1 + r5.1)))).bind fun r11 =>
                if ((r11.2 : Int) == 0) = true then
                  L4 (IntKind.i64.wrap (n5 - 1)) r7.2 r11.1 names4
                else
                  L4 (IntKind.i64.wrap (n5 - 1)) r7.2 out3 names4
            else if ((r6 : Int) == 0) = true then
              (spec_BookPieces.f out3 (0, (names4.getD (r4.1 : Int).toNat ByteArray.empty, IntKind.i64.wrap (1 + r5.1)))).bind fun r12 =>
              if ((r12.2 : Int) == 0) = true then
                L4 (IntKind.i64.wrap (n5 - 1)) r5.2 r12.1 names4
              else
                L4 (IntKind.i64.wrap (n5 - 1)) r5.2 out3 names4
            else
              (spec_BookPieces.f out3 (r3.1, (names4.getD (r4.1 : Int).toNat ByteArray.empty, IntKind.i64.wrap (1 + r5.1)))).bind fun r13 =>
              if ((r13.2 : Int) == 0) = true then
                L4 (IntKind.i64.wrap (n5 - 1)) r5.2 r13.1 names4
              else
                L4 (IntKind.i64.wrap (n5 - 1)) r5.2 out3 names4
          else if ((r6 : Int) == 0) = true then
            (spec_BookPieces.f out3 (0, (names4.getD (r4.1 : Int).toNat ByteArray.empty, IntKind.i64.wrap (1 + r5.1)))).bind fun r14 =>
            if ((r14.2 : Int) == 0) = true then
              L4 (IntKind.i64.wrap (n5 - 1)) r5.2 r14.1 names4
            else
              L4 (IntKind.i64.wrap (n5 - 1)) r5.2 out3 names4
          else
            (spec_BookPieces.f out3 (r3.1, (names4.getD (r4.1 : Int).toNat ByteArray.empty, IntKind.i64.wrap (1 + r5.1)))).bind fun r15 =>
            if ((r15.2 : Int) == 0) = true then
              L4 (IntKind.i64.wrap (n5 - 1)) r5.2 r15.1 names4
            else
              L4 (IntKind.i64.wrap (n5 - 1)) r5.2 out3 names4
        ) (
          (spec_l01Next.f r4.2 12).bind fun r5 =>
          (spec_l32Left.f out3 (names4.getD (r4.1 : Int).toNat ByteArray.empty) (out3.length : Int)).bind fun r6 =>
          if (decide ((0 : Int) < r3.1)) = true then
            if (decide ((0 : Int) < r6)) = true then
              (spec_l01Next.f r5.2 2).bind fun r7 =>
              if ((r7.1 : Int) == 0) = true then
                if ((r6 : Int) == 0) = true then
                  (spec_BookPieces.f out3 (0, (names4.getD (r4.1 : Int).toNat ByteArray.empty, (if r6 < 1000 then r6 else 1000)))).bind fun r8 =>
                  if ((r8.2 : Int) == 0) = true then
                    L4 (IntKind.i64.wrap (n5 - 1)) r7.2 r8.1 names4
                  else
                    L4 (IntKind.i64.wrap (n5 - 1)) r7.2 out3 names4
                else
                  (spec_BookPieces.f out3 (r3.1, (names4.getD (r4.1 : Int).toNat ByteArray.empty, (if r6 < 1000 then r6 else 1000)))).bind fun r9 =>
                  if ((r9.2 : Int) == 0) = true then
                    L4 (IntKind.i64.wrap (n5 - 1)) r7.2 r9.1 names4
                  else
                    L4 (IntKind.i64.wrap (n5 - 1)) r7.2 out3 names4
              else if ((r6 : Int) == 0) = true then
                (spec_BookPieces.f out3 (0, (names4.getD (r4.1 : Int).toNat ByteArray.empty, IntKind.i64.wrap (1 + r5.1)))).bind fun r10 =>
                if ((r10.2 : Int) == 0) = true then
                  L4 (IntKind.i64.wrap (n5 - 1)) r7.2 r10.1 names4
                else
                  L4 (IntKind.i64.wrap (n5 - 1)) r7.2 out3 names4
              else
                (spec_BookPieces.f out3 (r3.1, (names4.getD (r4.1 : Int).toNat ByteArray.empty, IntKind.i64.wrap (1 + r5.1)))).bind fun r11 =>
                if ((r11.2 : Int) == 0) = true then
                  L4 (IntKind.i64.wrap (n5 - 1)) r7.2 r11.1 names4
                else
                  L4 (IntKind.i64.wrap (n5 - 1)) r7.2 out3 names4
            else if ((r6 : Int) == 0) = true then
              (spec_BookPieces.f out3 (0, (names4.getD (r4.1 : Int).toNat ByteArray.empty, IntKind.i64.wrap (1 + r5.1)))).bind fun r12 =>
              if ((r12.2 : Int) == 0) = true then
                L4 (IntKind.i64.wrap (n5 - 1)) r5.2 r12.1 names4
              else
                L4 (IntKind.i64.wrap (n5 - 1)) r5.2 out3 names4
            else
              (spec_BookPieces.f out3 (r3.1, (names4.getD (r4.1 : Int).toNat ByteArray.empty, IntKind.i64.wrap (1 + r5.1)))).bind fun r13 =>
              if ((r13.2 : Int) == 0) = true then
                L4 (IntKind.i64.wrap (n5 - 1)) r5.2 r13.1 names4
              else
                L4 (IntKind.i64.wrap (n5 - 1)) r5.2 out3 names4
          else if ((r6 : Int) == 0) = true then
            (spec_BookPieces.f out3 (0, (names4.getD (r4.1 : Int).toNat ByteArray.empty, IntKind.i64.wrap (1 + r5.1)))).bind fun r14 =>
            if ((r14.2 : Int) == 0) = true then
              L4 (IntKind.i64.wrap (n5 - 1)) r5.2 r14.1 names4
            else
              L4 (IntKind.i64.wrap (n5 - 1)) r5.2 out3 names4
          else
            (spec_BookPieces.f out3 (r3.1, (names4.getD (r4.1 : Int).toNat ByteArray.empty, IntKind.i64.wrap (1 + r5.1)))).bind fun r15 =>
            if ((r15.2 : Int) == 0) = true then
              L4 (IntKind.i64.wrap (n5 - 1)) r5.2 r15.1 names4
            else
              L4 (IntKind.i64.wrap (n5 - 1)) r5.2 out3 names4
        )
      else
        none
    )
  else
    some (out3, s0)
theorem spec_l32Good.g4raw_eq (L4 : Int → (List Int × Int × Int) → (List (Int × ByteArray × Int)) → List ByteArray → Option ((List (Int × ByteArray × Int)) × List Int × Int × Int)) (n5 : Int) (s0 : List Int × Int × Int) (out3 : List (Int × ByteArray × Int)) (names4 : List ByteArray) : spec_l32Good.g4raw L4 n5 s0 out3 names4 = spec_l32Good.g4 L4 n5 s0 out3 names4 := by
  unfold spec_l32Good.g4raw spec_l32Good.g4
  simp only [agree_self]
def spec_l32Good.con : Con := { ps := [(.bx 158, (.pair (.sl 5 (.int .u8)) (.pair (.int .i64) (.int .i64))))], rs := [(.own, (.sl 90 (.pair (.int .i64) (.pair .str (.int .i64)))))], F := fun x => spec_l32Good.f x }
def spec_l32Good.cs : List (FuncId × Con) := [(88, spec_l32Left.con), (96, spec_l01Next.con), (158, spec_l03Names.con), (159, spec_BookPieces.con)]
def spec_l32Good.E : Env := envOf tab spec_l32Good.cs 1 false
def spec_l32Good.keep (i : Nat) : List Nat := if i = 4 then [0, 3, 4, 5] else []
def spec_l32Good.at4 (n : Nat) (x : List Int × Int × Int) : Code × (Ex → St → Option (((List (Int × ByteArray × Int)) × List Int × Int × Int))) := ctx spec_l32Good.E spec_l32Good.keep n [.snd, .snd, .snd, .fst, .snd, .blk] (codeOf Try.f138) (kEnd spec_l32Good.E Try.f138 spec_l32Good.con x)
def spec_l32Good.LN4 (n : Nat) (x : List Int × Int × Int) : Nat → St → Option (((List (Int × ByteArray × Int)) × List Int × Int × Int)) := loopN (exec spec_l32Good.E spec_l32Good.keep n (bodyOf (spec_l32Good.at4 n x).1)) (St.norm 1 (spec_l32Good.keep 4)) (spec_l32Good.at4 n x).2
set_option maxRecDepth 100000 in
theorem spec_l32Good.lem4 (n : Nat) (x : List Int × Int × Int) : ∀ (k : Nat) (n5 : Int) (s0 : List Int × Int × Int) (out3 : List (Int × ByteArray × Int)) (names4 : List ByteArray), spec_l32Good.LN4 n x k (spec_l32Good.st4 n5 s0 out3 names4) = spec_l32Good.l4 n k n5 s0 out3 names4 := by
  intro k
  induction k with
  | zero => intro n5 s0 out3 names4; rfl
  | succ k ih =>
    intro n5 s0 out3 names4
    have h : spec_l32Good.LN4 n x (k + 1) (spec_l32Good.st4 n5 s0 out3 names4) = spec_l32Good.g4raw (fun n5 s0 out3 names4 => spec_l32Good.LN4 n x k (spec_l32Good.st4 n5 s0 out3 names4)) n5 s0 out3 names4 := by kernel_rfl
    rw [spec_l32Good.g4raw_eq] at h
    rw [h]
    simp only [ih]
    rfl
set_option maxRecDepth 100000 in
theorem spec_l32Good.body (n : Nat) (x : List Int × Int × Int) : bodyF spec_l32Good.E spec_l32Good.keep n Try.f138 spec_l32Good.con x = spec_l32Good.fn n x := by
  have h : bodyF spec_l32Good.E spec_l32Good.keep n Try.f138 spec_l32Good.con x = spec_l32Good.top (fun n5 s0 out3 names4 => spec_l32Good.LN4 n x n (spec_l32Good.st4 n5 s0 out3 names4)) x := by kernel_rfl
  rw [h]
  simp only [spec_l32Good.lem4]
  rfl
set_option maxRecDepth 100000 in
theorem spec_l32Good.good : Good Try.prog 138 spec_l32Good.con :=
  good_of tabok (cs := spec_l32Good.cs) ⟨spec_l32Left.good, spec_l01Next.good, spec_l03Names.good, spec_BookPieces.good, trivial⟩ 1 false (fn := Try.f138) Try.func138 rfl (by decide) (by simp [spec_l32Good.con]) spec_l32Good.keep NN (fun _ => rfl) (fun x => spec_l32Good.body NN x)
end
end Go.Ev.Try

namespace Go.Ev.Try
open Go.Proofs Go.Pl
set_option linter.unusedVariables false
noncomputable section
def spec_l01Good.con : Con := { ps := [(.bx 158, (.pair (.sl 5 (.int .u8)) (.pair (.int .i64) (.int .i64))))], rs := [(.val, .str)], F := fun x => spec_l01Good.f x }
def spec_l01Good.cs : List (FuncId × Con) := [(96, spec_l01Next.con)]
def spec_l01Good.E : Env := envOf tab spec_l01Good.cs 1 false
def spec_l01Good.keep (i : Nat) : List Nat := []
set_option maxRecDepth 100000 in
theorem spec_l01Good.body (n : Nat) (x : List Int × Int × Int) : bodyF spec_l01Good.E spec_l01Good.keep n Try.f160 spec_l01Good.con x = spec_l01Good.fn n x := by
  have h : bodyF spec_l01Good.E spec_l01Good.keep n Try.f160 spec_l01Good.con x = spec_l01Good.top x := by kernel_rfl
  exact h
set_option maxRecDepth 100000 in
theorem spec_l01Good.good : Good Try.prog 160 spec_l01Good.con :=
  good_of tabok (cs := spec_l01Good.cs) ⟨spec_l01Next.good, trivial⟩ 1 false (fn := Try.f160) Try.func160 rfl (by decide) (by simp [spec_l01Good.con]) spec_l01Good.keep NN (fun _ => rfl) (fun x => spec_l01Good.body NN x)
end
end Go.Ev.Try

namespace Go.Ev.Try
open Go.Proofs Go.Pl
set_option linter.unusedVariables false
noncomputable section
def spec_l01DrawWord.con : Con := { ps := [(.bx 158, (.pair (.sl 5 (.int .u8)) (.pair (.int .i64) (.int .i64))))], rs := [(.val, .str)], F := fun x => spec_l01DrawWord.f x }
def spec_l01DrawWord.cs : List (FuncId × Con) := [(96, spec_l01Next.con), (160, spec_l01Good.con)]
def spec_l01DrawWord.E : Env := envOf tab spec_l01DrawWord.cs 1 false
def spec_l01DrawWord.keep (i : Nat) : List Nat := []
set_option maxRecDepth 100000 in
theorem spec_l01DrawWord.body (n : Nat) (x : List Int × Int × Int) : bodyF spec_l01DrawWord.E spec_l01DrawWord.keep n Try.f139 spec_l01DrawWord.con x = spec_l01DrawWord.fn n x := by
  have h : bodyF spec_l01DrawWord.E spec_l01DrawWord.keep n Try.f139 spec_l01DrawWord.con x = spec_l01DrawWord.top x := by kernel_rfl
  exact h
set_option maxRecDepth 100000 in
theorem spec_l01DrawWord.good : Good Try.prog 139 spec_l01DrawWord.con :=
  good_of tabok (cs := spec_l01DrawWord.cs) ⟨spec_l01Next.good, spec_l01Good.good, trivial⟩ 1 false (fn := Try.f139) Try.func139 rfl (by decide) (by simp [spec_l01DrawWord.con]) spec_l01DrawWord.keep NN (fun _ => rfl) (fun x => spec_l01DrawWord.body NN x)
end
end Go.Ev.Try

namespace Go.Ev.Try
open Go.Proofs Go.Pl
set_option linter.unusedVariables false
noncomputable section
def spec_l32Draw.st6 (s0 : List Int × Int × Int) (out3 : List (Int × ByteArray × Int)) : St := ⟨[.ptr 0 [], .gone, .gone, .ref 1, .gone, .gone, .gone, .gone, .gone, .gone, .gone, .gone, .gone, .gone, .gone, .gone, .gone, .gone, .gone, .gone, .gone, .gone, .gone, .gone, .gone, .gone, .gone, .gone, .gone, .gone, .gone, .gone, .gone, .gone, .gone, .gone, .gone, .gone, .gone, .gone, .gone, .gone], [.box 158 (.pair (.sl 5 (.int .u8)) (.pair (.int .i64) (.int .i64))) (.dat (.pair (.sl 5 (.int .u8)) (.pair (.int .i64) (.int .i64))) s0), .row 90 (.pair (.int .i64) (.pair .str (.int .i64))) out3 none]⟩
def spec_l32Draw.con : Con := { ps := [(.bx 158, (.pair (.sl 5 (.int .u8)) (.pair (.int .i64) (.int .i64))))], rs := [(.own, (.sl 90 (.pair (.int .i64) (.pair .str (.int .i64)))))], F := fun x => spec_l32Draw.f x }
def spec_l32Draw.cs : List (FuncId × Con) := [(95, spec_l01Pick.con), (96, spec_l01Next.con), (138, spec_l32Good.con), (139, spec_l01DrawWord.con)]
def spec_l32Draw.E : Env := envOf tab spec_l32Draw.cs 1 false
def spec_l32Draw.keep (i : Nat) : List Nat := if i = 6 then [0, 3] else []
def spec_l32Draw.at6 (n : Nat) (x : List Int × Int × Int) : Code × (Ex → St → Option (((List (Int × ByteArray × Int)) × List Int × Int × Int))) := ctx spec_l32Draw.E spec_l32Draw.keep n [.snd, .snd, .fst, .snd, .blk, .snd, .no, .snd, .yes, .blk] (codeOf Try.f94) (kEnd spec_l32Draw.E Try.f94 spec_l32Draw.con x)
def spec_l32Draw.LN6 (n : Nat) (x : List Int × Int × Int) : Nat → St → Option (((List (Int × ByteArray × Int)) × List Int × Int × Int)) := loopN (exec spec_l32Draw.E spec_l32Draw.keep n (bodyOf (spec_l32Draw.at6 n x).1)) (St.norm 1 (spec_l32Draw.keep 6)) (spec_l32Draw.at6 n x).2
set_option maxRecDepth 100000 in
theorem spec_l32Draw.lem6 (n : Nat) (x : List Int × Int × Int) : ∀ (k : Nat) (s0 : List Int × Int × Int) (out3 : List (Int × ByteArray × Int)), spec_l32Draw.LN6 n x k (spec_l32Draw.st6 s0 out3) = spec_l32Draw.l6 n k s0 out3 := by
  intro k
  induction k with
  | zero => intro s0 out3; rfl
  | succ k ih =>
    intro s0 out3
    have h : spec_l32Draw.LN6 n x (k + 1) (spec_l32Draw.st6 s0 out3) = spec_l32Draw.g6 (fun s0 out3 => spec_l32Draw.LN6 n x k (spec_l32Draw.st6 s0 out3)) s0 out3 := by kernel_rfl
    rw [h]
    simp only [ih]
    rfl
set_option maxRecDepth 100000 in
theorem spec_l32Draw.body (n : Nat) (x : List Int × Int × Int) : bodyF spec_l32Draw.E spec_l32Draw.keep n Try.f94 spec_l32Draw.con x = spec_l32Draw.fn n x := by
  have h : bodyF spec_l32Draw.E spec_l32Draw.keep n Try.f94 spec_l32Draw.con x = spec_l32Draw.top (fun s0 out3 => spec_l32Draw.LN6 n x n (spec_l32Draw.st6 s0 out3)) x := by kernel_rfl
  rw [h]
  simp only [spec_l32Draw.lem6]
  rfl
set_option maxRecDepth 100000 in
theorem spec_l32Draw.good : Good Try.prog 94 spec_l32Draw.con :=
  good_of tabok (cs := spec_l32Draw.cs) ⟨spec_l01Pick.good, spec_l01Next.good, spec_l32Good.good, spec_l01DrawWord.good, trivial⟩ 1 false (fn := Try.f94) Try.func94 rfl (by decide) (by simp [spec_l32Draw.con]) spec_l32Draw.keep NN (fun _ => rfl) (fun x => spec_l32Draw.body NN x)
end
end Go.Ev.Try

namespace Go.Ev.Try
open Go.Proofs Go.Pl
set_option linter.unusedVariables false
noncomputable section
def spec_DrawSettleAll.con : Con := { ps := [(.val, (.sl 5 (.int .u8)))], rs := [(.own, (.sl 90 (.pair (.int .i64) (.pair .str (.int .i64))))), (.own, (.int .i64))], F := fun x => spec_DrawSettleAll.f x }
def spec_DrawSettleAll.cs : List (FuncId × Con) := [(93, spec_l01From.con), (94, spec_l32Draw.con), (95, spec_l01Pick.con)]
def spec_DrawSettleAll.E : Env := envOf tab spec_DrawSettleAll.cs 0 false
def spec_DrawSettleAll.keep (i : Nat) : List Nat := []
set_option maxRecDepth 100000 in
theorem spec_DrawSettleAll.body (n : Nat) (x : List Int) : bodyF spec_DrawSettleAll.E spec_DrawSettleAll.keep n Try.f30 spec_DrawSettleAll.con x = spec_DrawSettleAll.fn n x := by
  have h : bodyF spec_DrawSettleAll.E spec_DrawSettleAll.keep n Try.f30 spec_DrawSettleAll.con x = spec_DrawSettleAll.top x := by kernel_rfl
  exact h
set_option maxRecDepth 100000 in
theorem spec_DrawSettleAll.good : Good Try.prog 30 spec_DrawSettleAll.con :=
  good_of tabok (cs := spec_DrawSettleAll.cs) ⟨spec_l01From.good, spec_l32Draw.good, spec_l01Pick.good, trivial⟩ 0 false (fn := Try.f30) Try.func30 rfl (by decide) (by simp [spec_DrawSettleAll.con]) spec_DrawSettleAll.keep NN (fun _ => rfl) (fun x => spec_DrawSettleAll.body NN x)
end
end Go.Ev.Try

namespace Go.Ev.Try
open Go.Proofs Go.Pl
set_option linter.unusedVariables false
noncomputable section
def spec_DrawIsSettled.con : Con := { ps := [(.val, (.sl 5 (.int .u8)))], rs := [(.own, (.sl 90 (.pair (.int .i64) (.pair .str (.int .i64)))))], F := fun x => spec_DrawIsSettled.f x }
def spec_DrawIsSettled.cs : List (FuncId × Con) := [(25, spec_SettleAll.con), (93, spec_l01From.con), (94, spec_l32Draw.con), (96, spec_l01Next.con)]
def spec_DrawIsSettled.E : Env := envOf tab spec_DrawIsSettled.cs 0 false
def spec_DrawIsSettled.keep (i : Nat) : List Nat := []
set_option maxRecDepth 100000 in
theorem spec_DrawIsSettled.body (n : Nat) (x : List Int) : bodyF spec_DrawIsSettled.E spec_DrawIsSettled.keep n Try.f31 spec_DrawIsSettled.con x = spec_DrawIsSettled.fn n x := by
  have h : bodyF spec_DrawIsSettled.E spec_DrawIsSettled.keep n Try.f31 spec_DrawIsSettled.con x = spec_DrawIsSettled.top x := by kernel_rfl
  exact h
set_option maxRecDepth 100000 in
theorem spec_DrawIsSettled.good : Good Try.prog 31 spec_DrawIsSettled.con :=
  good_of tabok (cs := spec_DrawIsSettled.cs) ⟨spec_SettleAll.good, spec_l01From.good, spec_l32Draw.good, spec_l01Next.good, trivial⟩ 0 false (fn := Try.f31) Try.func31 rfl (by decide) (by simp [spec_DrawIsSettled.con]) spec_DrawIsSettled.keep NN (fun _ => rfl) (fun x => spec_DrawIsSettled.body NN x)
end
end Go.Ev.Try

namespace Go.Ev.Try
open Go.Proofs Go.Pl
set_option linter.unusedVariables false
noncomputable section
def laws_likeBookings.st4 (a0 : List (Int × ByteArray × Int)) (b1 : List (Int × ByteArray × Int)) (i5 : Int) : St := ⟨[.dat (.sl 90 (.pair (.int .i64) (.pair .str (.int .i64)))) a0, .dat (.sl 90 (.pair (.int .i64) (.pair .str (.int .i64)))) b1, .gone, .gone, .gone, .dat (.int .i64) i5, .gone, .gone, .gone, .gone, .gone, .gone, .gone, .gone, .gone, .gone, .gone, .gone, .gone, .gone, .gone, .gone, .gone, .gone, .gone, .gone], []⟩
def laws_likeBookings.con : Con := { ps := [(.val, (.sl 90 (.pair (.int .i64) (.pair .str (.int .i64))))), (.val, (.sl 90 (.pair (.int .i64) (.pair .str (.int .i64)))))], rs := [(.val, .bool)], F := fun x => laws_likeBookings.f x.1 x.2 }
def laws_likeBookings.cs : List (FuncId × Con) := []
def laws_likeBookings.E : Env := envOf tab laws_likeBookings.cs 0 false
def laws_likeBookings.keep (i : Nat) : List Nat := if i = 4 then [0, 1, 5] else []
def laws_likeBookings.at4 (n : Nat) (x : (List (Int × ByteArray × Int)) × List (Int × ByteArray × Int)) : Code × (Ex → St → Option (Bool)) := ctx laws_likeBookings.E laws_likeBookings.keep n [.snd, .snd, .fst, .snd, .blk] (codeOf Try.f32) (kEnd laws_likeBookings.E Try.f32 laws_likeBookings.con x)
def laws_likeBookings.LN4 (n : Nat) (x : (List (Int × ByteArray × Int)) × List (Int × ByteArray × Int)) : Nat → St → Option (Bool) := loopN (exec laws_likeBookings.E laws_likeBookings.keep n (bodyOf (laws_likeBookings.at4 n x).1)) (St.norm 0 (laws_likeBookings.keep 4)) (laws_likeBookings.at4 n x).2
set_option maxRecDepth 100000 in
theorem laws_likeBookings.lem4 (n : Nat) (x : (List (Int × ByteArray × Int)) × List (Int × ByteArray × Int)) : ∀ (k : Nat) (a0 : List (Int × ByteArray × Int)) (b1 : List (Int × ByteArray × Int)) (i5 : Int), laws_likeBookings.LN4 n x k (laws_likeBookings.st4 a0 b1 i5) = laws_likeBookings.l4 n k a0 b1 i5 := by
  intro k
  induction k with
  | zero => intro a0 b1 i5; rfl
  | succ k ih =>
    intro a0 b1 i5
    have h : laws_likeBookings.LN4 n x (k + 1) (laws_likeBookings.st4 a0 b1 i5) = laws_likeBookings.g4 (fun a0 b1 i5 => laws_likeBookings.LN4 n x k (laws_likeBookings.st4 a0 b1 i5)) a0 b1 i5 := by kernel_rfl
    rw [h]
    simp only [ih]
    rfl
set_option maxRecDepth 100000 in
theorem laws_likeBookings.body (n : Nat) (x : (List (Int × ByteArray × Int)) × List (Int × ByteArray × Int)) : bodyF laws_likeBookings.E laws_likeBookings.keep n Try.f32 laws_likeBookings.con x = laws_likeBookings.fn n x.1 x.2 := by
  have h : bodyF laws_likeBookings.E laws_likeBookings.keep n Try.f32 laws_likeBookings.con x = laws_likeBookings.top (fun a0 b1 i5 => laws_likeBookings.LN4 n x n (laws_likeBookings.st4 a0 b1 i5)) x.1 x.2 := by kernel_rfl
  rw [h]
  simp only [laws_likeBookings.lem4]
  rfl
set_option maxRecDepth 100000 in
theorem laws_likeBookings.good : Good Try.prog 32 laws_likeBookings.con :=
  good_of tabok (cs := laws_likeBookings.cs) trivial 0 false (fn := Try.f32) Try.func32 rfl (by decide) (by simp [laws_likeBookings.con]) laws_likeBookings.keep NN (fun _ => rfl) (fun x => laws_likeBookings.body NN x)
end
end Go.Ev.Try

namespace Go.Ev.Try
open Go.Proofs Go.Pl
set_option linter.unusedVariables false
noncomputable section
def laws_likeTexts.st4 (a0 : List ByteArray) (b1 : List ByteArray) (i5 : Int) : St := ⟨[.dat (.sl 9 .str) a0, .dat (.sl 9 .str) b1, .gone, .gone, .gone, .dat (.int .i64) i5, .gone, .gone, .gone, .gone, .gone, .gone, .gone, .gone, .gone, .gone, .gone, .gone, .gone, .gone, .gone, .gone, .gone, .gone, .gone, .gone], []⟩
def laws_likeTexts.con : Con := { ps := [(.val, (.sl 9 .str)), (.val, (.sl 9 .str))], rs := [(.val, .bool)], F := fun x => laws_likeTexts.f x.1 x.2 }
def laws_likeTexts.cs : List (FuncId × Con) := []
def laws_likeTexts.E : Env := envOf tab laws_likeTexts.cs 0 false
def laws_likeTexts.keep (i : Nat) : List Nat := if i = 4 then [0, 1, 5] else []
def laws_likeTexts.at4 (n : Nat) (x : List ByteArray × List ByteArray) : Code × (Ex → St → Option (Bool)) := ctx laws_likeTexts.E laws_likeTexts.keep n [.snd, .snd, .fst, .snd, .blk] (codeOf Try.f33) (kEnd laws_likeTexts.E Try.f33 laws_likeTexts.con x)
def laws_likeTexts.LN4 (n : Nat) (x : List ByteArray × List ByteArray) : Nat → St → Option (Bool) := loopN (exec laws_likeTexts.E laws_likeTexts.keep n (bodyOf (laws_likeTexts.at4 n x).1)) (St.norm 0 (laws_likeTexts.keep 4)) (laws_likeTexts.at4 n x).2
set_option maxRecDepth 100000 in
theorem laws_likeTexts.lem4 (n : Nat) (x : List ByteArray × List ByteArray) : ∀ (k : Nat) (a0 : List ByteArray) (b1 : List ByteArray) (i5 : Int), laws_likeTexts.LN4 n x k (laws_likeTexts.st4 a0 b1 i5) = laws_likeTexts.l4 n k a0 b1 i5 := by
  intro k
  induction k with
  | zero => intro a0 b1 i5; rfl
  | succ k ih =>
    intro a0 b1 i5
    have h : laws_likeTexts.LN4 n x (k + 1) (laws_likeTexts.st4 a0 b1 i5) = laws_likeTexts.g4 (fun a0 b1 i5 => laws_likeTexts.LN4 n x k (laws_likeTexts.st4 a0 b1 i5)) a0 b1 i5 := by kernel_rfl
    rw [h]
    simp only [ih]
    rfl
set_option maxRecDepth 100000 in
theorem laws_likeTexts.body (n : Nat) (x : List ByteArray × List ByteArray) : bodyF laws_likeTexts.E laws_likeTexts.keep n Try.f33 laws_likeTexts.con x = laws_likeTexts.fn n x.1 x.2 := by
  have h : bodyF laws_likeTexts.E laws_likeTexts.keep n Try.f33 laws_likeTexts.con x = laws_likeTexts.top (fun a0 b1 i5 => laws_likeTexts.LN4 n x n (laws_likeTexts.st4 a0 b1 i5)) x.1 x.2 := by kernel_rfl
  rw [h]
  simp only [laws_likeTexts.lem4]
  rfl
set_option maxRecDepth 100000 in
theorem laws_likeTexts.good : Good Try.prog 33 laws_likeTexts.con :=
  good_of tabok (cs := laws_likeTexts.cs) trivial 0 false (fn := Try.f33) Try.func33 rfl (by decide) (by simp [laws_likeTexts.con]) laws_likeTexts.keep NN (fun _ => rfl) (fun x => laws_likeTexts.body NN x)
end
end Go.Ev.Try

namespace Go.Ev.Try
open Go.Proofs Go.Pl
set_option linter.unusedVariables false
noncomputable section
def impl_PiecesLeft.con : Con := { ps := [(.val, (.sl 90 (.pair (.int .i64) (.pair .str (.int .i64))))), (.val, .str)], rs := [(.val, (.int .i64)), (.val, (.int .i64))], F := fun x => impl_PiecesLeft.f x.1 x.2 }
def impl_PiecesLeft.cs : List (FuncId × Con) := [(84, impl_AreBookings.con), (91, impl_piecesLeft.con), (97, impl_IsWord.con)]
def impl_PiecesLeft.E : Env := envOf tab impl_PiecesLeft.cs 0 false
def impl_PiecesLeft.keep (i : Nat) : List Nat := []
set_option maxRecDepth 100000 in
theorem impl_PiecesLeft.body (n : Nat) (x : (List (Int × ByteArray × Int)) × ByteArray) : bodyF impl_PiecesLeft.E impl_PiecesLeft.keep n Try.f34 impl_PiecesLeft.con x = impl_PiecesLeft.fn n x.1 x.2 := by
  have h : bodyF impl_PiecesLeft.E impl_PiecesLeft.keep n Try.f34 impl_PiecesLeft.con x = impl_PiecesLeft.top x.1 x.2 := by kernel_rfl
  exact h
set_option maxRecDepth 100000 in
theorem impl_PiecesLeft.good : Good Try.prog 34 impl_PiecesLeft.con :=
  good_of tabok (cs := impl_PiecesLeft.cs) ⟨impl_AreBookings.good, impl_piecesLeft.good, impl_IsWord.good, trivial⟩ 0 false (fn := Try.f34) Try.func34 rfl (by decide) (by simp [impl_PiecesLeft.con]) impl_PiecesLeft.keep NN (fun _ => rfl) (fun x => impl_PiecesLeft.body NN x)
end
end Go.Ev.Try
