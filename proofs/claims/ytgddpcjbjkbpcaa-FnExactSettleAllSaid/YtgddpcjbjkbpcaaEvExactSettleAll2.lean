/- Part 2 of what the law FnExactSettleAll stands on: an evaluator of the model's code, proved sound; the functions as plain texts; their contracts. -/
import Derived.Test.YtgddpcjbjkbpcaaChecked
import Derived.Test.YtgddpcjbjkbpcaaProg
import Derived.Test.YtgddpcjbjkbpcaaRows
import Derived.Below
import Derived.Calls
import Derived.Carry
import Derived.ChangeArms
import Derived.ChangeKeysEq
import Derived.ChangeOld
import Derived.Deep.Quiet
import Derived.KernelRfl
import Derived.Laws.Append
import Derived.Laws.BytesString
import Derived.Laws.MakeOwn
import Derived.Laws.Strings
import Derived.Laws.StructEq
import Derived.OpenShut
import Derived.OrdersHeld
import Derived.ProofKit
import Derived.ShutString
import Derived.SizedLaws
import Derived.Tactics
import Derived.WalkKit
import Derived.WideShapes
import Derived.Test.YtgddpcjbjkbpcaaEvExactSettleAll1
namespace Go.Ev.Try
open Go.Proofs Go.Pl
set_option linter.unusedVariables false
noncomputable section
def spec_l20Insert.st2 (s1 : ByteArray) (at5 : Int) (list0 : List ByteArray) : St := ⟨[.ref 0, .dat .str s1, .gone, .gone, .gone, .dat (.int .i64) at5, .gone, .gone, .gone, .gone, .gone, .gone, .gone, .gone, .gone, .gone, .gone, .gone, .gone, .gone, .gone, .gone, .gone, .gone, .gone, .gone, .gone, .gone, .gone, .gone, .gone, .gone, .gone, .gone, .gone, .gone, .gone, .gone, .gone, .gone, .gone, .gone, .gone, .gone, .gone], [.row 9 .str list0 none]⟩
def spec_l20Insert.g2raw (L2 : ByteArray → Int → List ByteArray → Option (List ByteArray)) (s1 : ByteArray) (at5 : Int) (list0 : List ByteArray) : Option (List ByteArray) :=
  if (decide ((at5 : Int) < (list0.length : Int))) = true then
    if (0 : Int) ≤ at5 ∧ (at5 : Int) < list0.length then
      if (Op.bytesLess (list0.getD (at5 : Int).toNat ByteArray.empty).toList s1.toList) = true then
        L2 s1 (IntKind.i64.wrap (at5 + 1)) list0
      else if (decide ((at5 : Int) < (list0.length : Int))) = true then
        if (0 : Int) ≤ at5 ∧ (at5 : Int) < list0.length then
          if ((list0.getD (at5 : Int).toNat ByteArray.empty).toList == s1.toList) = true then
            some list0
          else if (0 : Int) ≤ at5 ∧ (at5 : Int) ≤ list0.length then
            if (0 : Int) ≤ at5 ∧ (at5 : Int) ≤ list0.length then
              agree (
                agree (
                  if ([] : List ByteArray).length + (list0.take (at5 : Int).toNat).length < room 16 then
                    if (([] : List ByteArray) ++ (list0.take (at5 : Int).toNat)).length + ([s1]).length < room 16 then
                      if ((([] : List ByteArray) ++ (list0.take (at5 : Int).toNat)) ++ ([s1])).length + (list0.drop (at5 : Int).toNat).length < room 16 then
                        some (((([] : List ByteArray) ++ (list0.take (at5 : Int).toNat)) ++ ([s1])) ++ (list0.drop (at5 : Int).toNat))
                      else
                        none
                    else
                      none
                  else
                    none
                ) (
                  if ([] : List ByteArray).length + (list0.take (at5 : Int).toNat).length < room 16 then
                    if (([] : List ByteArray) ++ (list0.take (at5 : Int).toNat)).length + ([s1]).length < room 16 then
                      if ((([] : List ByteArray) ++ (list0.take (at5 : Int).toNat)) ++ ([s1])).length + (list0.drop (at5 : Int).toNat).length < room 16 then
                        some (((([] : List ByteArray) ++ (list0.take (at5 : Int).toNat)) ++ ([s1])) ++ (list0.drop (at5 : Int).toNat))
                      else
                        none
                    else
                      none
                  else
                    none
                )
              ) (
                if ([] : List ByteArray).length + (list0.take (at5 : Int).toNat).length < room 16 then
                  if (([] : List ByteArray) ++ (list0.take (at5 : Int).toNat)).length + ([s1]).length < room 16 then
                    if ((([] : List ByteArray) ++ (list0.take (at5 : Int).toNat)) ++ ([s1])).length + (list0.drop (at5 : Int).toNat).length < room 16 then
                      some (((([] : List ByteArray) ++ (list0.take (at5 : Int).toNat)) ++ ([s1])) ++ (list0.drop (at5 : Int).toNat))
                    else
                      none
                  else
                    none
                else
                  none
              )
            else
              none
          else
            none
        else
          none
      else if (0 : Int) ≤ at5 ∧ (at5 : Int) ≤ list0.length then
        if (0 : Int) ≤ at5 ∧ (at5 : Int) ≤ list0.length then
          agree (
            agree (
              if ([] : List ByteArray).length + (list0.take (at5 : Int).toNat).length < room 16 then
                if (([] : List ByteArray) ++ (list0.take (at5 : Int).toNat)).length + ([s1]).length < room 16 then
                  if ((([] : List ByteArray) ++ (list0.take (at5 : Int).toNat)) ++ ([s1])).length + (list0.drop (at5 : Int).toNat).length < room 16 then
                    some (((([] : List ByteArray) ++ (list0.take (at5 : Int).toNat)) ++ ([s1])) ++ (list0.drop (at5 : Int).toNat))
                  else
                    none
                else
                  none
              else
                none
            ) (
              if ([] : List ByteArray).length + (list0.take (at5 : Int).toNat).length < room 16 then
                if (([] : List ByteArray) ++ (list0.take (at5 : Int).toNat)).length + ([s1]).length < room 16 then
                  if ((([] : List ByteArray) ++ (list0.take (at5 : Int).toNat)) ++ ([s1])).length + (list0.drop (at5 : Int).toNat).length < room 16 then
                    some (((([] : List ByteArray) ++ (list0.take (at5 : Int).toNat)) ++ ([s1])) ++ (list0.drop (at5 : Int).toNat))
                  else
                    none
                else
                  none
              else
                none
            )
          ) (
            if ([] : List ByteArray).length + (list0.take (at5 : Int).toNat).length < room 16 then
              if (([] : List ByteArray) ++ (list0.take (at5 : Int).toNat)).length + ([s1]).length < room 16 then
                if ((([] : List ByteArray) ++ (list0.take (at5 : Int).toNat)) ++ ([s1])).length + (list0.drop (at5 : Int).toNat).length < room 16 then
                  some (((([] : List ByteArray) ++ (list0.take (at5 : Int).toNat)) ++ ([s1])) ++ (list0.drop (at5 : Int).toNat))
                else
                  none
              else
                none
            else
              none
          )
        else
          none
      else
        none
    else
      none
  else if (decide ((at5 : Int) < (list0.length : Int))) = true then
    if (0 : Int) ≤ at5 ∧ (at5 : Int) < list0.length then
      if ((list0.getD (at5 : Int).toNat ByteArray.empty).toList == s1.toList) = true then
        some list0
      else if (0 : Int) ≤ at5 ∧ (at5 : Int) ≤ list0.length then
        if (0 : Int) ≤ at5 ∧ (at5 : Int) ≤ list0.length then
          agree (
            agree (
              if ([] : List ByteArray).length + (list0.take (at5 : Int).toNat).length < room 16 then
                if (([] : List ByteArray) ++ (list0.take (at5 : Int).toNat)).length + ([s1]).length < room 16 then
                  if ((([] : List ByteArray) ++ (list0.take (at5 : Int).toNat)) ++ ([s1])).length + (list0.drop (at5 : Int).toNat).length < room 16 then
                    some (((([] : List ByteArray) ++ (list0.take (at5 : Int).toNat)) ++ ([s1])) ++ (list0.drop (at5 : Int).toNat))
                  else
                    none
                else
                  none
              else
                none
            ) (
              if ([] : List ByteArray).length + (list0.take (at5 : Int).toNat).length < room 16 then
                if (([] : List ByteArray) ++ (list0.take (at5 : Int).toNat)).length + ([s1]).length < room 16 then
                  if ((([] : List ByteArray) ++ (list0.take (at5 : Int).toNat)) ++ ([s1])).length + (list0.drop (at5 : Int).toNat).length < room 16 then
                    some (((([] : List ByteArray) ++ (list0.take (at5 : Int).toNat)) ++ ([s1])) ++ (list0.drop (at5 : Int).toNat))
                  else
                    none
                else
                  none
              else
                none
            )
          ) (
            if ([] : List ByteArray).length + (list0.take (at5 : Int).toNat).length < room 16 then
              if (([] : List ByteArray) ++ (list0.take (at5 : Int).toNat)).length + ([s1]).length < room 16 then
                if ((([] : List ByteArray) ++ (list0.take (at5 : Int).toNat)) ++ ([s1])).length + (list0.drop (at5 : Int).toNat).length < room 16 then
                  some (((([] : List ByteArray) ++ (list0.take (at5 : Int).toNat)) ++ ([s1])) ++ (list0.drop (at5 : Int).toNat))
                else
                  none
              else
                none
            else
              none
          )
        else
          none
      else
        none
    else
      none
  else if (0 : Int) ≤ at5 ∧ (at5 : Int) ≤ list0.length then
    if (0 : Int) ≤ at5 ∧ (at5 : Int) ≤ list0.length then
      agree (
        agree (
          if ([] : List ByteArray).length + (list0.take (at5 : Int).toNat).length < room 16 then
            if (([] : List ByteArray) ++ (list0.take (at5 : Int).toNat)).length + ([s1]).length < room 16 then
              if ((([] : List ByteArray) ++ (list0.take (at5 : Int).toNat)) ++ ([s1])).length + (list0.drop (at5 : Int).toNat).length < room 16 then
                some (((([] : List ByteArray) ++ (list0.take (at5 : Int).toNat)) ++ ([s1])) ++ (list0.drop (at5 : Int).toNat))
              else
                none
            else
              none
          else
            none
        ) (
          if ([] : List ByteArray).length + (list0.take (at5 : Int).toNat).length < room 16 then
            if (([] : List ByteArray) ++ (list0.take (at5 : Int).toNat)).length + ([s1]).length < room 16 then
              if ((([] : List ByteArray) ++ (list0.take (at5 : Int).toNat)) ++ ([s1])).length + (list0.drop (at5 : Int).toNat).length < room 16 then
                some (((([] : List ByteArray) ++ (list0.take (at5 : Int).toNat)) ++ ([s1])) ++ (list0.drop (at5 : Int).toNat))
              else
                none
            else
              none
          else
            none
        )
      ) (
        if ([] : List ByteArray).length + (list0.take (at5 : Int).toNat).length < room 16 then
          if (([] : List ByteArray) ++ (list0.take (at5 : Int).toNat)).length + ([s1]).length < room 16 then
            if ((([] : List ByteArray) ++ (list0.take (at5 : Int).toNat)) ++ ([s1])).length + (list0.drop (at5 : Int).toNat).length < room 16 then
              some (((([] : List ByteArray) ++ (list0.take (at5 : Int).toNat)) ++ ([s1])) ++ (list0.drop (at5 : Int).toNat))
            else
              none
          else
            none
        else
          none
      )
    else
      none
  else
    none
theorem spec_l20Insert.g2raw_eq (L2 : ByteArray → Int → List ByteArray → Option (List ByteArray)) (s1 : ByteArray) (at5 : Int) (list0 : List ByteArray) : spec_l20Insert.g2raw L2 s1 at5 list0 = spec_l20Insert.g2 L2 s1 at5 list0 := by
  unfold spec_l20Insert.g2raw spec_l20Insert.g2
  simp only [agree_self]
def spec_l20Insert.con : Con := { ps := [(.own, (.sl 9 .str)), (.val, .str)], rs := [(.own, (.sl 9 .str))], gv := true, F := fun x => spec_l20Insert.f x.1 x.2 }
def spec_l20Insert.cs : List (FuncId × Con) := []
def spec_l20Insert.E : Env := envOf tab spec_l20Insert.cs 0 false
def spec_l20Insert.keep (i : Nat) : List Nat := if i = 2 then [0, 1, 5] else []
def spec_l20Insert.at2 (n : Nat) (x : List ByteArray × ByteArray) : Code × (Ex → St → Option ((List ByteArray))) := ctx spec_l20Insert.E spec_l20Insert.keep n [.snd, .snd, .fst, .blk] (codeOf Try.f135) (kEnd spec_l20Insert.E Try.f135 spec_l20Insert.con x)
def spec_l20Insert.LN2 (n : Nat) (x : List ByteArray × ByteArray) : Nat → St → Option ((List ByteArray)) := loopN (exec spec_l20Insert.E spec_l20Insert.keep n (bodyOf (spec_l20Insert.at2 n x).1)) (St.norm 0 (spec_l20Insert.keep 2)) (spec_l20Insert.at2 n x).2
set_option maxRecDepth 100000 in
theorem spec_l20Insert.lem2 (n : Nat) (x : List ByteArray × ByteArray) : ∀ (k : Nat) (s1 : ByteArray) (at5 : Int) (list0 : List ByteArray), spec_l20Insert.LN2 n x k (spec_l20Insert.st2 s1 at5 list0) = spec_l20Insert.l2 n k s1 at5 list0 := by
  intro k
  induction k with
  | zero => intro s1 at5 list0; rfl
  | succ k ih =>
    intro s1 at5 list0
    have h : spec_l20Insert.LN2 n x (k + 1) (spec_l20Insert.st2 s1 at5 list0) = spec_l20Insert.g2raw (fun s1 at5 list0 => spec_l20Insert.LN2 n x k (spec_l20Insert.st2 s1 at5 list0)) s1 at5 list0 := by kernel_rfl
    rw [spec_l20Insert.g2raw_eq] at h
    rw [h]
    simp only [ih]
    rfl
set_option maxRecDepth 100000 in
theorem spec_l20Insert.body (n : Nat) (x : List ByteArray × ByteArray) : bodyF spec_l20Insert.E spec_l20Insert.keep n Try.f135 spec_l20Insert.con x = spec_l20Insert.fn n x.1 x.2 := by
  have h : bodyF spec_l20Insert.E spec_l20Insert.keep n Try.f135 spec_l20Insert.con x = spec_l20Insert.top (fun s1 at5 list0 => spec_l20Insert.LN2 n x n (spec_l20Insert.st2 s1 at5 list0)) x.1 x.2 := by kernel_rfl
  rw [h]
  simp only [spec_l20Insert.lem2]
  rfl
set_option maxRecDepth 100000 in
theorem spec_l20Insert.good : Good Try.prog 135 spec_l20Insert.con :=
  good_of tabok (cs := spec_l20Insert.cs) trivial 0 false (fn := Try.f135) Try.func135 rfl (by decide) (by simp [spec_l20Insert.con]) spec_l20Insert.keep NN (fun _ => rfl) (fun x => spec_l20Insert.body NN x)
end
end Go.Ev.Try

namespace Go.Ev.Try
open Go.Proofs Go.Pl
set_option linter.unusedVariables false
noncomputable section
def spec_l32Open.st3 (list0 : List (Int × ByteArray × Int)) (i4 : Int) (out3 : List ByteArray) : St := ⟨[.dat (.sl 90 (.pair (.int .i64) (.pair .str (.int .i64)))) list0, .gone, .gone, .ref 0, .dat (.int .i64) i4, .gone, .gone, .gone, .gone, .gone, .gone, .gone, .gone, .gone, .gone, .gone, .gone, .gone, .gone, .gone, .gone, .gone, .gone, .gone, .gone, .gone, .gone, .gone, .gone, .gone], [.row 9 .str out3 none]⟩
def spec_l32Open.con : Con := { ps := [(.val, (.sl 90 (.pair (.int .i64) (.pair .str (.int .i64)))))], rs := [(.own, (.sl 9 .str))], F := fun x => spec_l32Open.f x }
def spec_l32Open.cs : List (FuncId × Con) := [(88, spec_l32Left.con), (135, spec_l20Insert.con)]
def spec_l32Open.E : Env := envOf tab spec_l32Open.cs 0 false
def spec_l32Open.keep (i : Nat) : List Nat := if i = 3 then [0, 3, 4] else []
def spec_l32Open.at3 (n : Nat) (x : List (Int × ByteArray × Int)) : Code × (Ex → St → Option ((List ByteArray))) := ctx spec_l32Open.E spec_l32Open.keep n [.snd, .snd, .fst, .snd, .blk] (codeOf Try.f80) (kEnd spec_l32Open.E Try.f80 spec_l32Open.con x)
def spec_l32Open.LN3 (n : Nat) (x : List (Int × ByteArray × Int)) : Nat → St → Option ((List ByteArray)) := loopN (exec spec_l32Open.E spec_l32Open.keep n (bodyOf (spec_l32Open.at3 n x).1)) (St.norm 0 (spec_l32Open.keep 3)) (spec_l32Open.at3 n x).2
set_option maxRecDepth 100000 in
theorem spec_l32Open.lem3 (n : Nat) (x : List (Int × ByteArray × Int)) : ∀ (k : Nat) (list0 : List (Int × ByteArray × Int)) (i4 : Int) (out3 : List ByteArray), spec_l32Open.LN3 n x k (spec_l32Open.st3 list0 i4 out3) = spec_l32Open.l3 n k list0 i4 out3 := by
  intro k
  induction k with
  | zero => intro list0 i4 out3; rfl
  | succ k ih =>
    intro list0 i4 out3
    have h : spec_l32Open.LN3 n x (k + 1) (spec_l32Open.st3 list0 i4 out3) = spec_l32Open.g3 (fun list0 i4 out3 => spec_l32Open.LN3 n x k (spec_l32Open.st3 list0 i4 out3)) list0 i4 out3 := by kernel_rfl
    rw [h]
    simp only [ih]
    rfl
set_option maxRecDepth 100000 in
theorem spec_l32Open.body (n : Nat) (x : List (Int × ByteArray × Int)) : bodyF spec_l32Open.E spec_l32Open.keep n Try.f80 spec_l32Open.con x = spec_l32Open.fn n x := by
  have h : bodyF spec_l32Open.E spec_l32Open.keep n Try.f80 spec_l32Open.con x = spec_l32Open.top (fun list0 i4 out3 => spec_l32Open.LN3 n x n (spec_l32Open.st3 list0 i4 out3)) x := by kernel_rfl
  rw [h]
  simp only [spec_l32Open.lem3]
  rfl
set_option maxRecDepth 100000 in
theorem spec_l32Open.good : Good Try.prog 80 spec_l32Open.con :=
  good_of tabok (cs := spec_l32Open.cs) ⟨spec_l32Left.good, spec_l20Insert.good, trivial⟩ 0 false (fn := Try.f80) Try.func80 rfl (by decide) (by simp [spec_l32Open.con]) spec_l32Open.keep NN (fun _ => rfl) (fun x => spec_l32Open.body NN x)
end
end Go.Ev.Try

namespace Go.Ev.Try
open Go.Proofs Go.Pl
set_option linter.unusedVariables false
noncomputable section
def spec_l32Limits.con : Con := { ps := [(.val, (.sl 90 (.pair (.int .i64) (.pair .str (.int .i64)))))], rs := [(.val, (.int .i64))], F := fun x => spec_l32Limits.f x }
def spec_l32Limits.cs : List (FuncId × Con) := [(79, spec_AreBookings.con)]
def spec_l32Limits.E : Env := envOf tab spec_l32Limits.cs 0 false
def spec_l32Limits.keep (i : Nat) : List Nat := []
set_option maxRecDepth 100000 in
theorem spec_l32Limits.body (n : Nat) (x : List (Int × ByteArray × Int)) : bodyF spec_l32Limits.E spec_l32Limits.keep n Try.f89 spec_l32Limits.con x = spec_l32Limits.fn n x := by
  have h : bodyF spec_l32Limits.E spec_l32Limits.keep n Try.f89 spec_l32Limits.con x = spec_l32Limits.top x := by kernel_rfl
  exact h
set_option maxRecDepth 100000 in
theorem spec_l32Limits.good : Good Try.prog 89 spec_l32Limits.con :=
  good_of tabok (cs := spec_l32Limits.cs) ⟨spec_AreBookings.good, trivial⟩ 0 false (fn := Try.f89) Try.func89 rfl (by decide) (by simp [spec_l32Limits.con]) spec_l32Limits.keep NN (fun _ => rfl) (fun x => spec_l32Limits.body NN x)
end
end Go.Ev.Try

namespace Go.Ev.Try
open Go.Proofs Go.Pl
set_option linter.unusedVariables false
noncomputable section
def spec_SettleAll.st8 (list0 : List (Int × ByteArray × Int)) (kind1 : Int) (i8 : Int) (out6 : List (Int × ByteArray × Int)) (open7 : List ByteArray) : St := ⟨[.dat (.sl 90 (.pair (.int .i64) (.pair .str (.int .i64)))) list0, .dat (.int .i64) kind1, .gone, .gone, .gone, .gone, .ref 0, .ref 1, .dat (.int .i64) i8, .gone, .gone, .gone, .gone, .gone, .gone, .gone, .gone, .gone, .gone, .gone, .gone, .gone, .gone, .gone, .gone, .gone, .gone, .gone, .gone, .gone, .gone, .gone, .gone, .gone, .gone, .gone, .gone, .gone, .gone, .gone, .gone, .gone, .gone, .gone, .gone, .gone, .gone, .gone, .gone, .gone], [.row 90 (.pair (.int .i64) (.pair .str (.int .i64))) out6 none, .row 9 .str open7 none]⟩
def spec_SettleAll.con : Con := { ps := [(.val, (.sl 90 (.pair (.int .i64) (.pair .str (.int .i64))))), (.val, (.int .i64))], rs := [(.own, (.sl 90 (.pair (.int .i64) (.pair .str (.int .i64))))), (.own, (.int .i64))], F := fun x => spec_SettleAll.f x.1 x.2 }
def spec_SettleAll.cs : List (FuncId × Con) := [(79, spec_AreBookings.con), (80, spec_l32Open.con), (87, spec_l01In.con), (88, spec_l32Left.con), (89, spec_l32Limits.con)]
def spec_SettleAll.E : Env := envOf tab spec_SettleAll.cs 0 false
def spec_SettleAll.keep (i : Nat) : List Nat := if i = 8 then [0, 1, 6, 7, 8] else []
def spec_SettleAll.at8 (n : Nat) (x : (List (Int × ByteArray × Int)) × Int) : Code × (Ex → St → Option (((List (Int × ByteArray × Int)) × Int))) := ctx spec_SettleAll.E spec_SettleAll.keep n [.snd, .snd, .snd, .snd, .snd, .fst, .snd, .blk] (codeOf Try.f25) (kEnd spec_SettleAll.E Try.f25 spec_SettleAll.con x)
def spec_SettleAll.LN8 (n : Nat) (x : (List (Int × ByteArray × Int)) × Int) : Nat → St → Option (((List (Int × ByteArray × Int)) × Int)) := loopN (exec spec_SettleAll.E spec_SettleAll.keep n (bodyOf (spec_SettleAll.at8 n x).1)) (St.norm 0 (spec_SettleAll.keep 8)) (spec_SettleAll.at8 n x).2
set_option maxRecDepth 100000 in
theorem spec_SettleAll.lem8 (n : Nat) (x : (List (Int × ByteArray × Int)) × Int) : ∀ (k : Nat) (list0 : List (Int × ByteArray × Int)) (kind1 : Int) (i8 : Int) (out6 : List (Int × ByteArray × Int)) (open7 : List ByteArray), spec_SettleAll.LN8 n x k (spec_SettleAll.st8 list0 kind1 i8 out6 open7) = spec_SettleAll.l8 n k list0 kind1 i8 out6 open7 := by
  intro k
  induction k with
  | zero => intro list0 kind1 i8 out6 open7; rfl
  | succ k ih =>
    intro list0 kind1 i8 out6 open7
    have h : spec_SettleAll.LN8 n x (k + 1) (spec_SettleAll.st8 list0 kind1 i8 out6 open7) = spec_SettleAll.g8 (fun list0 kind1 i8 out6 open7 => spec_SettleAll.LN8 n x k (spec_SettleAll.st8 list0 kind1 i8 out6 open7)) list0 kind1 i8 out6 open7 := by kernel_rfl
    rw [h]
    simp only [ih]
    rfl
set_option maxRecDepth 100000 in
theorem spec_SettleAll.body (n : Nat) (x : (List (Int × ByteArray × Int)) × Int) : bodyF spec_SettleAll.E spec_SettleAll.keep n Try.f25 spec_SettleAll.con x = spec_SettleAll.fn n x.1 x.2 := by
  have h : bodyF spec_SettleAll.E spec_SettleAll.keep n Try.f25 spec_SettleAll.con x = spec_SettleAll.top (fun list0 kind1 i8 out6 open7 => spec_SettleAll.LN8 n x n (spec_SettleAll.st8 list0 kind1 i8 out6 open7)) x.1 x.2 := by kernel_rfl
  rw [h]
  simp only [spec_SettleAll.lem8]
  rfl
set_option maxRecDepth 100000 in
theorem spec_SettleAll.good : Good Try.prog 25 spec_SettleAll.con :=
  good_of tabok (cs := spec_SettleAll.cs) ⟨spec_AreBookings.good, spec_l32Open.good, spec_l01In.good, spec_l32Left.good, spec_l32Limits.good, trivial⟩ 0 false (fn := Try.f25) Try.func25 rfl (by decide) (by simp [spec_SettleAll.con]) spec_SettleAll.keep NN (fun _ => rfl) (fun x => spec_SettleAll.body NN x)
end
end Go.Ev.Try

namespace Go.Ev.Try
open Go.Proofs Go.Pl
set_option linter.unusedVariables false
noncomputable section
def impl_within.con : Con := { ps := [(.val, (.int .i64)), (.val, (.int .i64)), (.val, (.int .i64))], rs := [(.val, .bool)], F := fun x => impl_within.f x.1 x.2.1 x.2.2 }
def impl_within.cs : List (FuncId × Con) := []
def impl_within.E : Env := envOf tab impl_within.cs 0 false
def impl_within.keep (i : Nat) : List Nat := []
set_option maxRecDepth 100000 in
theorem impl_within.body (n : Nat) (x : Int × Int × Int) : bodyF impl_within.E impl_within.keep n Try.f90 impl_within.con x = impl_within.fn n x.1 x.2.1 x.2.2 := by
  have h : bodyF impl_within.E impl_within.keep n Try.f90 impl_within.con x = impl_within.top x.1 x.2.1 x.2.2 := by kernel_rfl
  exact h
set_option maxRecDepth 100000 in
theorem impl_within.good : Good Try.prog 90 impl_within.con :=
  good_of tabok (cs := impl_within.cs) trivial 0 false (fn := Try.f90) Try.func90 rfl (by decide) (by simp [impl_within.con]) impl_within.keep NN (fun _ => rfl) (fun x => impl_within.body NN x)
end
end Go.Ev.Try

namespace Go.Ev.Try
open Go.Proofs Go.Pl
set_option linter.unusedVariables false
noncomputable section
def impl_totalsOf.st3 (article1 : ByteArray) (v9 : List (Int × ByteArray × Int)) (v10 : Int) (v11 : Int) (out5 : List Int) : St := ⟨[.gone, .dat .str article1, .gone, .gone, .gone, .ref 0, .gone, .gone, .gone, .dat (.sl 90 (.pair (.int .i64) (.pair .str (.int .i64)))) v9, .dat (.int .i64) v10, .dat (.int .i64) v11, .gone, .gone, .gone, .gone, .gone, .gone, .gone, .gone, .gone, .gone, .gone, .gone, .gone, .gone, .gone, .gone, .gone, .gone], [.row 2 (.int .i64) out5 none]⟩
def impl_totalsOf.con : Con := { ps := [(.val, (.sl 90 (.pair (.int .i64) (.pair .str (.int .i64))))), (.val, .str)], rs := [(.own, (.sl 2 (.int .i64)))], F := fun x => impl_totalsOf.f x.1 x.2 }
def impl_totalsOf.cs : List (FuncId × Con) := []
def impl_totalsOf.E : Env := envOf tab impl_totalsOf.cs 0 false
def impl_totalsOf.keep (i : Nat) : List Nat := if i = 3 then [1, 5, 9, 10, 11] else []
def impl_totalsOf.at3 (n : Nat) (x : (List (Int × ByteArray × Int)) × ByteArray) : Code × (Ex → St → Option ((List Int))) := ctx impl_totalsOf.E impl_totalsOf.keep n [.snd, .snd, .fst, .snd, .blk] (codeOf Try.f137) (kEnd impl_totalsOf.E Try.f137 impl_totalsOf.con x)
def impl_totalsOf.LN3 (n : Nat) (x : (List (Int × ByteArray × Int)) × ByteArray) : Nat → St → Option ((List Int)) := loopN (exec impl_totalsOf.E impl_totalsOf.keep n (bodyOf (impl_totalsOf.at3 n x).1)) (St.norm 0 (impl_totalsOf.keep 3)) (impl_totalsOf.at3 n x).2
set_option maxRecDepth 100000 in
theorem impl_totalsOf.lem3 (n : Nat) (x : (List (Int × ByteArray × Int)) × ByteArray) : ∀ (k : Nat) (article1 : ByteArray) (v9 : List (Int × ByteArray × Int)) (v10 : Int) (v11 : Int) (out5 : List Int), impl_totalsOf.LN3 n x k (impl_totalsOf.st3 article1 v9 v10 v11 out5) = impl_totalsOf.l3 n k article1 v9 v10 v11 out5 := by
  intro k
  induction k with
  | zero => intro article1 v9 v10 v11 out5; rfl
  | succ k ih =>
    intro article1 v9 v10 v11 out5
    have h : impl_totalsOf.LN3 n x (k + 1) (impl_totalsOf.st3 article1 v9 v10 v11 out5) = impl_totalsOf.g3 (fun article1 v9 v10 v11 out5 => impl_totalsOf.LN3 n x k (impl_totalsOf.st3 article1 v9 v10 v11 out5)) article1 v9 v10 v11 out5 := by kernel_rfl
    rw [h]
    simp only [ih]
    rfl
set_option maxRecDepth 100000 in
theorem impl_totalsOf.body (n : Nat) (x : (List (Int × ByteArray × Int)) × ByteArray) : bodyF impl_totalsOf.E impl_totalsOf.keep n Try.f137 impl_totalsOf.con x = impl_totalsOf.fn n x.1 x.2 := by
  have h : bodyF impl_totalsOf.E impl_totalsOf.keep n Try.f137 impl_totalsOf.con x = impl_totalsOf.top (fun article1 v9 v10 v11 out5 => impl_totalsOf.LN3 n x n (impl_totalsOf.st3 article1 v9 v10 v11 out5)) x.1 x.2 := by kernel_rfl
  rw [h]
  simp only [impl_totalsOf.lem3]
  rfl
set_option maxRecDepth 100000 in
theorem impl_totalsOf.good : Good Try.prog 137 impl_totalsOf.con :=
  good_of tabok (cs := impl_totalsOf.cs) trivial 0 false (fn := Try.f137) Try.func137 rfl (by decide) (by simp [impl_totalsOf.con]) impl_totalsOf.keep NN (fun _ => rfl) (fun x => impl_totalsOf.body NN x)
end
end Go.Ev.Try

namespace Go.Ev.Try
open Go.Proofs Go.Pl
set_option linter.unusedVariables false
noncomputable section
def impl_piecesLeft.con : Con := { ps := [(.val, (.sl 90 (.pair (.int .i64) (.pair .str (.int .i64))))), (.val, .str)], rs := [(.val, (.int .i64))], F := fun x => impl_piecesLeft.f x.1 x.2 }
def impl_piecesLeft.cs : List (FuncId × Con) := [(137, impl_totalsOf.con)]
def impl_piecesLeft.E : Env := envOf tab impl_piecesLeft.cs 0 false
def impl_piecesLeft.keep (i : Nat) : List Nat := []
set_option maxRecDepth 100000 in
theorem impl_piecesLeft.body (n : Nat) (x : (List (Int × ByteArray × Int)) × ByteArray) : bodyF impl_piecesLeft.E impl_piecesLeft.keep n Try.f91 impl_piecesLeft.con x = impl_piecesLeft.fn n x.1 x.2 := by
  have h : bodyF impl_piecesLeft.E impl_piecesLeft.keep n Try.f91 impl_piecesLeft.con x = impl_piecesLeft.top x.1 x.2 := by kernel_rfl
  exact h
set_option maxRecDepth 100000 in
theorem impl_piecesLeft.good : Good Try.prog 91 impl_piecesLeft.con :=
  good_of tabok (cs := impl_piecesLeft.cs) ⟨impl_totalsOf.good, trivial⟩ 0 false (fn := Try.f91) Try.func91 rfl (by decide) (by simp [impl_piecesLeft.con]) impl_piecesLeft.keep NN (fun _ => rfl) (fun x => impl_piecesLeft.body NN x)
end
end Go.Ev.Try

namespace Go.Ev.Try
open Go.Proofs Go.Pl
set_option linter.unusedVariables false
noncomputable section
def impl_IsWord.st4 (s0 : ByteArray) (i3 : Int) : St := ⟨[.dat .str s0, .gone, .gone, .dat (.int .i64) i3, .gone, .gone, .gone, .gone, .gone, .gone, .gone, .gone, .gone, .gone, .gone, .gone, .gone, .gone, .gone, .gone, .gone, .gone, .gone, .gone, .gone, .gone, .gone, .gone], []⟩
def impl_IsWord.con : Con := { ps := [(.val, .str)], rs := [(.val, .bool)], F := fun x => impl_IsWord.f x }
def impl_IsWord.cs : List (FuncId × Con) := []
def impl_IsWord.E : Env := envOf tab impl_IsWord.cs 0 false
def impl_IsWord.keep (i : Nat) : List Nat := if i = 4 then [0, 3] else []
def impl_IsWord.at4 (n : Nat) (x : ByteArray) : Code × (Ex → St → Option (Bool)) := ctx impl_IsWord.E impl_IsWord.keep n [.snd, .snd, .fst, .snd, .blk] (codeOf Try.f97) (kEnd impl_IsWord.E Try.f97 impl_IsWord.con x)
def impl_IsWord.LN4 (n : Nat) (x : ByteArray) : Nat → St → Option (Bool) := loopN (exec impl_IsWord.E impl_IsWord.keep n (bodyOf (impl_IsWord.at4 n x).1)) (St.norm 0 (impl_IsWord.keep 4)) (impl_IsWord.at4 n x).2
set_option maxRecDepth 100000 in
theorem impl_IsWord.lem4 (n : Nat) (x : ByteArray) : ∀ (k : Nat) (s0 : ByteArray) (i3 : Int), impl_IsWord.LN4 n x k (impl_IsWord.st4 s0 i3) = impl_IsWord.l4 n k s0 i3 := by
  intro k
  induction k with
  | zero => intro s0 i3; rfl
  | succ k ih =>
    intro s0 i3
    have h : impl_IsWord.LN4 n x (k + 1) (impl_IsWord.st4 s0 i3) = impl_IsWord.g4 (fun s0 i3 => impl_IsWord.LN4 n x k (impl_IsWord.st4 s0 i3)) s0 i3 := by kernel_rfl
    rw [h]
    simp only [ih]
    rfl
set_option maxRecDepth 100000 in
theorem impl_IsWord.body (n : Nat) (x : ByteArray) : bodyF impl_IsWord.E impl_IsWord.keep n Try.f97 impl_IsWord.con x = impl_IsWord.fn n x := by
  have h : bodyF impl_IsWord.E impl_IsWord.keep n Try.f97 impl_IsWord.con x = impl_IsWord.top (fun s0 i3 => impl_IsWord.LN4 n x n (impl_IsWord.st4 s0 i3)) x := by kernel_rfl
  rw [h]
  simp only [impl_IsWord.lem4]
  rfl
set_option maxRecDepth 100000 in
theorem impl_IsWord.good : Good Try.prog 97 impl_IsWord.con :=
  good_of tabok (cs := impl_IsWord.cs) trivial 0 false (fn := Try.f97) Try.func97 rfl (by decide) (by simp [impl_IsWord.con]) impl_IsWord.keep NN (fun _ => rfl) (fun x => impl_IsWord.body NN x)
end
end Go.Ev.Try

namespace Go.Ev.Try
open Go.Proofs Go.Pl
set_option linter.unusedVariables false
noncomputable section
def impl_AreBookings.st4 (list0 : List (Int × ByteArray × Int)) (v8 : List (Int × ByteArray × Int)) (v9 : Int) (v10 : Int) : St := ⟨[.dat (.sl 90 (.pair (.int .i64) (.pair .str (.int .i64)))) list0, .gone, .gone, .gone, .gone, .gone, .gone, .gone, .dat (.sl 90 (.pair (.int .i64) (.pair .str (.int .i64)))) v8, .dat (.int .i64) v9, .dat (.int .i64) v10, .gone, .gone, .gone, .gone, .gone, .gone, .gone, .gone, .gone, .gone, .gone, .gone, .gone, .gone, .gone, .gone, .gone, .gone, .gone, .gone, .gone, .gone, .gone, .gone, .gone, .gone, .gone, .gone, .gone, .gone, .gone], []⟩
def impl_AreBookings.con : Con := { ps := [(.val, (.sl 90 (.pair (.int .i64) (.pair .str (.int .i64)))))], rs := [(.val, .bool)], F := fun x => impl_AreBookings.f x }
def impl_AreBookings.cs : List (FuncId × Con) := [(90, impl_within.con), (91, impl_piecesLeft.con), (97, impl_IsWord.con)]
def impl_AreBookings.E : Env := envOf tab impl_AreBookings.cs 0 false
def impl_AreBookings.keep (i : Nat) : List Nat := if i = 4 then [0, 8, 9, 10] else []
def impl_AreBookings.at4 (n : Nat) (x : List (Int × ByteArray × Int)) : Code × (Ex → St → Option (Bool)) := ctx impl_AreBookings.E impl_AreBookings.keep n [.snd, .snd, .fst, .snd, .blk] (codeOf Try.f84) (kEnd impl_AreBookings.E Try.f84 impl_AreBookings.con x)
def impl_AreBookings.LN4 (n : Nat) (x : List (Int × ByteArray × Int)) : Nat → St → Option (Bool) := loopN (exec impl_AreBookings.E impl_AreBookings.keep n (bodyOf (impl_AreBookings.at4 n x).1)) (St.norm 0 (impl_AreBookings.keep 4)) (impl_AreBookings.at4 n x).2
set_option maxRecDepth 100000 in
theorem impl_AreBookings.lem4 (n : Nat) (x : List (Int × ByteArray × Int)) : ∀ (k : Nat) (list0 : List (Int × ByteArray × Int)) (v8 : List (Int × ByteArray × Int)) (v9 : Int) (v10 : Int), impl_AreBookings.LN4 n x k (impl_AreBookings.st4 list0 v8 v9 v10) = impl_AreBookings.l4 n k list0 v8 v9 v10 := by
  intro k
  induction k with
  | zero => intro list0 v8 v9 v10; rfl
  | succ k ih =>
    intro list0 v8 v9 v10
    have h : impl_AreBookings.LN4 n x (k + 1) (impl_AreBookings.st4 list0 v8 v9 v10) = impl_AreBookings.g4 (fun list0 v8 v9 v10 => impl_AreBookings.LN4 n x k (impl_AreBookings.st4 list0 v8 v9 v10)) list0 v8 v9 v10 := by kernel_rfl
    rw [h]
    simp only [ih]
    rfl
set_option maxRecDepth 100000 in
theorem impl_AreBookings.body (n : Nat) (x : List (Int × ByteArray × Int)) : bodyF impl_AreBookings.E impl_AreBookings.keep n Try.f84 impl_AreBookings.con x = impl_AreBookings.fn n x := by
  have h : bodyF impl_AreBookings.E impl_AreBookings.keep n Try.f84 impl_AreBookings.con x = impl_AreBookings.top (fun list0 v8 v9 v10 => impl_AreBookings.LN4 n x n (impl_AreBookings.st4 list0 v8 v9 v10)) x := by kernel_rfl
  rw [h]
  simp only [impl_AreBookings.lem4]
  rfl
set_option maxRecDepth 100000 in
theorem impl_AreBookings.good : Good Try.prog 84 impl_AreBookings.con :=
  good_of tabok (cs := impl_AreBookings.cs) ⟨impl_within.good, impl_piecesLeft.good, impl_IsWord.good, trivial⟩ 0 false (fn := Try.f84) Try.func84 rfl (by decide) (by simp [impl_AreBookings.con]) impl_AreBookings.keep NN (fun _ => rfl) (fun x => impl_AreBookings.body NN x)
end
end Go.Ev.Try

namespace Go.Ev.Try
open Go.Proofs Go.Pl
set_option linter.unusedVariables false
noncomputable section
def impl_putWord.st2 (word1 : ByteArray) (k5 : Int) (words0 : List ByteArray) : St := ⟨[.ref 0, .dat .str word1, .gone, .gone, .gone, .dat (.int .i64) k5, .gone, .gone, .gone, .gone, .gone, .gone, .gone, .gone, .gone, .gone, .gone, .gone, .gone, .gone, .gone, .gone, .gone, .gone, .gone, .gone, .gone, .gone, .gone, .gone, .gone, .gone, .gone, .gone, .gone, .gone, .gone, .gone, .gone, .gone, .gone, .gone, .gone, .gone, .gone, .gone, .gone, .gone, .gone], [.row 9 .str words0 none]⟩
def impl_putWord.con : Con := { ps := [(.own, (.sl 9 .str)), (.val, .str)], rs := [(.own, (.sl 9 .str))], gv := true, F := fun x => impl_putWord.f x.1 x.2 }
def impl_putWord.cs : List (FuncId × Con) := []
def impl_putWord.E : Env := envOf tab impl_putWord.cs 0 true
def impl_putWord.keep (i : Nat) : List Nat := if i = 2 then [0, 1, 5] else []
def impl_putWord.at2 (n : Nat) (x : List ByteArray × ByteArray) : Code × (Ex → St → Option ((List ByteArray))) := ctx impl_putWord.E impl_putWord.keep n [.snd, .snd, .fst, .blk] (codeOf Try.f136) (kEnd impl_putWord.E Try.f136 impl_putWord.con x)
def impl_putWord.LN2 (n : Nat) (x : List ByteArray × ByteArray) : Nat → St → Option ((List ByteArray)) := loopN (exec impl_putWord.E impl_putWord.keep n (bodyOf (impl_putWord.at2 n x).1)) (St.norm 0 (impl_putWord.keep 2)) (impl_putWord.at2 n x).2
set_option maxRecDepth 100000 in
theorem impl_putWord.lem2 (n : Nat) (x : List ByteArray × ByteArray) : ∀ (k : Nat) (word1 : ByteArray) (k5 : Int) (words0 : List ByteArray), impl_putWord.LN2 n x k (impl_putWord.st2 word1 k5 words0) = impl_putWord.l2 n k word1 k5 words0 := by
  intro k
  induction k with
  | zero => intro word1 k5 words0; rfl
  | succ k ih =>
    intro word1 k5 words0
    have h : impl_putWord.LN2 n x (k + 1) (impl_putWord.st2 word1 k5 words0) = impl_putWord.g2 (fun word1 k5 words0 => impl_putWord.LN2 n x k (impl_putWord.st2 word1 k5 words0)) word1 k5 words0 := by kernel_rfl
    rw [h]
    simp only [ih]
    rfl
set_option maxRecDepth 100000 in
theorem impl_putWord.body (n : Nat) (x : List ByteArray × ByteArray) : bodyF impl_putWord.E impl_putWord.keep n Try.f136 impl_putWord.con x = impl_putWord.fn n x.1 x.2 := by
  have h : bodyF impl_putWord.E impl_putWord.keep n Try.f136 impl_putWord.con x = impl_putWord.top (fun word1 k5 words0 => impl_putWord.LN2 n x n (impl_putWord.st2 word1 k5 words0)) x.1 x.2 := by kernel_rfl
  rw [h]
  simp only [impl_putWord.lem2]
  rfl
set_option maxRecDepth 100000 in
theorem impl_putWord.good : Good Try.prog 136 impl_putWord.con :=
  good_of tabok (cs := impl_putWord.cs) trivial 0 true (fn := Try.f136) Try.func136 rfl (by decide) (by simp [impl_putWord.con]) impl_putWord.keep NN (fun _ => rfl) (fun x => impl_putWord.body NN x)
end
end Go.Ev.Try

namespace Go.Ev.Try
open Go.Proofs Go.Pl
set_option linter.unusedVariables false
noncomputable section
def impl_openArticles.st3 (list0 : List (Int × ByteArray × Int)) (v6 : List (Int × ByteArray × Int)) (v7 : Int) (v8 : Int) (out3 : List ByteArray) : St := ⟨[.dat (.sl 90 (.pair (.int .i64) (.pair .str (.int .i64)))) list0, .gone, .gone, .ref 0, .gone, .gone, .dat (.sl 90 (.pair (.int .i64) (.pair .str (.int .i64)))) v6, .dat (.int .i64) v7, .dat (.int .i64) v8, .gone, .gone, .gone, .gone, .gone, .gone, .gone, .gone, .gone, .gone, .gone, .gone, .gone, .gone], [.row 9 .str out3 none]⟩
def impl_openArticles.con : Con := { ps := [(.val, (.sl 90 (.pair (.int .i64) (.pair .str (.int .i64)))))], rs := [(.own, (.sl 9 .str))], F := fun x => impl_openArticles.f x }
def impl_openArticles.cs : List (FuncId × Con) := [(91, impl_piecesLeft.con), (136, impl_putWord.con)]
def impl_openArticles.E : Env := envOf tab impl_openArticles.cs 0 false
def impl_openArticles.keep (i : Nat) : List Nat := if i = 3 then [0, 3, 6, 7, 8] else []
def impl_openArticles.at3 (n : Nat) (x : List (Int × ByteArray × Int)) : Code × (Ex → St → Option ((List ByteArray))) := ctx impl_openArticles.E impl_openArticles.keep n [.snd, .snd, .fst, .snd, .blk] (codeOf Try.f85) (kEnd impl_openArticles.E Try.f85 impl_openArticles.con x)
def impl_openArticles.LN3 (n : Nat) (x : List (Int × ByteArray × Int)) : Nat → St → Option ((List ByteArray)) := loopN (exec impl_openArticles.E impl_openArticles.keep n (bodyOf (impl_openArticles.at3 n x).1)) (St.norm 0 (impl_openArticles.keep 3)) (impl_openArticles.at3 n x).2
set_option maxRecDepth 100000 in
theorem impl_openArticles.lem3 (n : Nat) (x : List (Int × ByteArray × Int)) : ∀ (k : Nat) (list0 : List (Int × ByteArray × Int)) (v6 : List (Int × ByteArray × Int)) (v7 : Int) (v8 : Int) (out3 : List ByteArray), impl_openArticles.LN3 n x k (impl_openArticles.st3 list0 v6 v7 v8 out3) = impl_openArticles.l3 n k list0 v6 v7 v8 out3 := by
  intro k
  induction k with
  | zero => intro list0 v6 v7 v8 out3; rfl
  | succ k ih =>
    intro list0 v6 v7 v8 out3
    have h : impl_openArticles.LN3 n x (k + 1) (impl_openArticles.st3 list0 v6 v7 v8 out3) = impl_openArticles.g3 (fun list0 v6 v7 v8 out3 => impl_openArticles.LN3 n x k (impl_openArticles.st3 list0 v6 v7 v8 out3)) list0 v6 v7 v8 out3 := by kernel_rfl
    rw [h]
    simp only [ih]
    rfl
set_option maxRecDepth 100000 in
theorem impl_openArticles.body (n : Nat) (x : List (Int × ByteArray × Int)) : bodyF impl_openArticles.E impl_openArticles.keep n Try.f85 impl_openArticles.con x = impl_openArticles.fn n x := by
  have h : bodyF impl_openArticles.E impl_openArticles.keep n Try.f85 impl_openArticles.con x = impl_openArticles.top (fun list0 v6 v7 v8 out3 => impl_openArticles.LN3 n x n (impl_openArticles.st3 list0 v6 v7 v8 out3)) x := by kernel_rfl
  rw [h]
  simp only [impl_openArticles.lem3]
  rfl
set_option maxRecDepth 100000 in
theorem impl_openArticles.good : Good Try.prog 85 impl_openArticles.con :=
  good_of tabok (cs := impl_openArticles.cs) ⟨impl_piecesLeft.good, impl_putWord.good, trivial⟩ 0 false (fn := Try.f85) Try.func85 rfl (by decide) (by simp [impl_openArticles.con]) impl_openArticles.keep NN (fun _ => rfl) (fun x => impl_openArticles.body NN x)
end
end Go.Ev.Try

namespace Go.Ev.Try
open Go.Proofs Go.Pl
set_option linter.unusedVariables false
noncomputable section
def impl_SettleAll.st7 (list0 : List (Int × ByteArray × Int)) (kind1 : Int) (v20 : Int) (v21 : Int) (out6 : List (Int × ByteArray × Int)) (v19 : List ByteArray) : St := ⟨[.dat (.sl 90 (.pair (.int .i64) (.pair .str (.int .i64)))) list0, .dat (.int .i64) kind1, .gone, .gone, .gone, .gone, .ref 0, .gone, .gone, .gone, .gone, .gone, .gone, .gone, .gone, .gone, .gone, .gone, .gone, .ref 1, .dat (.int .i64) v20, .dat (.int .i64) v21, .gone, .gone, .gone, .gone, .gone, .gone, .gone, .gone, .gone, .gone, .gone, .gone, .gone, .gone, .gone, .gone, .gone, .gone, .gone, .gone], [.row 90 (.pair (.int .i64) (.pair .str (.int .i64))) out6 none, .row 9 .str v19 none]⟩
def impl_SettleAll.con : Con := { ps := [(.val, (.sl 90 (.pair (.int .i64) (.pair .str (.int .i64))))), (.val, (.int .i64))], rs := [(.own, (.sl 90 (.pair (.int .i64) (.pair .str (.int .i64))))), (.own, (.int .i64))], F := fun x => impl_SettleAll.f x.1 x.2 }
def impl_SettleAll.cs : List (FuncId × Con) := [(84, impl_AreBookings.con), (85, impl_openArticles.con), (90, impl_within.con), (91, impl_piecesLeft.con)]
def impl_SettleAll.E : Env := envOf tab impl_SettleAll.cs 0 false
def impl_SettleAll.keep (i : Nat) : List Nat := if i = 7 then [0, 1, 6, 19, 20, 21] else []
def impl_SettleAll.at7 (n : Nat) (x : (List (Int × ByteArray × Int)) × Int) : Code × (Ex → St → Option (((List (Int × ByteArray × Int)) × Int))) := ctx impl_SettleAll.E impl_SettleAll.keep n [.snd, .snd, .snd, .snd, .fst, .snd, .blk] (codeOf Try.f26) (kEnd impl_SettleAll.E Try.f26 impl_SettleAll.con x)
def impl_SettleAll.LN7 (n : Nat) (x : (List (Int × ByteArray × Int)) × Int) : Nat → St → Option (((List (Int × ByteArray × Int)) × Int)) := loopN (exec impl_SettleAll.E impl_SettleAll.keep n (bodyOf (impl_SettleAll.at7 n x).1)) (St.norm 0 (impl_SettleAll.keep 7)) (impl_SettleAll.at7 n x).2
set_option maxRecDepth 100000 in
theorem impl_SettleAll.lem7 (n : Nat) (x : (List (Int × ByteArray × Int)) × Int) : ∀ (k : Nat) (list0 : List (Int × ByteArray × Int)) (kind1 : Int) (v20 : Int) (v21 : Int) (out6 : List (Int × ByteArray × Int)) (v19 : List ByteArray), impl_SettleAll.LN7 n x k (impl_SettleAll.st7 list0 kind1 v20 v21 out6 v19) = impl_SettleAll.l7 n k list0 kind1 v20 v21 out6 v19 := by
  intro k
  induction k with
  | zero => intro list0 kind1 v20 v21 out6 v19; rfl
  | succ k ih =>
    intro list0 kind1 v20 v21 out6 v19
    have h : impl_SettleAll.LN7 n x (k + 1) (impl_SettleAll.st7 list0 kind1 v20 v21 out6 v19) = impl_SettleAll.g7 (fun list0 kind1 v20 v21 out6 v19 => impl_SettleAll.LN7 n x k (impl_SettleAll.st7 list0 kind1 v20 v21 out6 v19)) list0 kind1 v20 v21 out6 v19 := by kernel_rfl
    rw [h]
    simp only [ih]
    rfl
set_option maxRecDepth 100000 in
theorem impl_SettleAll.body (n : Nat) (x : (List (Int × ByteArray × Int)) × Int) : bodyF impl_SettleAll.E impl_SettleAll.keep n Try.f26 impl_SettleAll.con x = impl_SettleAll.fn n x.1 x.2 := by
  have h : bodyF impl_SettleAll.E impl_SettleAll.keep n Try.f26 impl_SettleAll.con x = impl_SettleAll.top (fun list0 kind1 v20 v21 out6 v19 => impl_SettleAll.LN7 n x n (impl_SettleAll.st7 list0 kind1 v20 v21 out6 v19)) x.1 x.2 := by kernel_rfl
  rw [h]
  simp only [impl_SettleAll.lem7]
  rfl
set_option maxRecDepth 100000 in
theorem impl_SettleAll.good : Good Try.prog 26 impl_SettleAll.con :=
  good_of tabok (cs := impl_SettleAll.cs) ⟨impl_AreBookings.good, impl_openArticles.good, impl_within.good, impl_piecesLeft.good, trivial⟩ 0 false (fn := Try.f26) Try.func26 rfl (by decide) (by simp [impl_SettleAll.con]) impl_SettleAll.keep NN (fun _ => rfl) (fun x => impl_SettleAll.body NN x)
end
end Go.Ev.Try

namespace Go.Ev.Try
open Go.Proofs Go.Pl
set_option linter.unusedVariables false
noncomputable section
def laws_heldBookingS.st2 (a0 : List (Int × ByteArray × Int)) (k1 : Int) (i5 : Int) : St := ⟨[.dat (.sl 90 (.pair (.int .i64) (.pair .str (.int .i64)))) a0, .dat (.int .i64) k1, .gone, .gone, .gone, .dat (.int .i64) i5, .gone, .gone, .gone, .gone, .gone, .gone, .gone, .gone, .gone, .gone, .gone, .gone, .gone, .gone, .gone, .gone, .gone, .gone, .gone, .gone, .gone, .gone, .gone, .gone, .gone, .gone, .gone, .gone, .gone, .gone, .gone, .gone, .gone, .gone, .gone], []⟩
def laws_heldBookingS.con : Con := { ps := [(.val, (.sl 90 (.pair (.int .i64) (.pair .str (.int .i64))))), (.val, (.int .i64))], rs := [(.val, (.int .i64))], F := fun x => laws_heldBookingS.f x.1 x.2 }
def laws_heldBookingS.cs : List (FuncId × Con) := [(86, laws_markText.con)]
def laws_heldBookingS.E : Env := envOf tab laws_heldBookingS.cs 0 false
def laws_heldBookingS.keep (i : Nat) : List Nat := if i = 2 then [0, 1, 5] else []
def laws_heldBookingS.at2 (n : Nat) (x : (List (Int × ByteArray × Int)) × Int) : Code × (Ex → St → Option (Int)) := ctx laws_heldBookingS.E laws_heldBookingS.keep n [.snd, .fst, .snd, .blk] (codeOf Try.f28) (kEnd laws_heldBookingS.E Try.f28 laws_heldBookingS.con x)
def laws_heldBookingS.LN2 (n : Nat) (x : (List (Int × ByteArray × Int)) × Int) : Nat → St → Option (Int) := loopN (exec laws_heldBookingS.E laws_heldBookingS.keep n (bodyOf (laws_heldBookingS.at2 n x).1)) (St.norm 0 (laws_heldBookingS.keep 2)) (laws_heldBookingS.at2 n x).2
set_option maxRecDepth 100000 in
theorem laws_heldBookingS.lem2 (n : Nat) (x : (List (Int × ByteArray × Int)) × Int) : ∀ (k : Nat) (a0 : List (Int × ByteArray × Int)) (k1 : Int) (i5 : Int), laws_heldBookingS.LN2 n x k (laws_heldBookingS.st2 a0 k1 i5) = laws_heldBookingS.l2 n k a0 k1 i5 := by
  intro k
  induction k with
  | zero => intro a0 k1 i5; rfl
  | succ k ih =>
    intro a0 k1 i5
    have h : laws_heldBookingS.LN2 n x (k + 1) (laws_heldBookingS.st2 a0 k1 i5) = laws_heldBookingS.g2 (fun a0 k1 i5 => laws_heldBookingS.LN2 n x k (laws_heldBookingS.st2 a0 k1 i5)) a0 k1 i5 := by kernel_rfl
    rw [h]
    simp only [ih]
    rfl
set_option maxRecDepth 100000 in
theorem laws_heldBookingS.body (n : Nat) (x : (List (Int × ByteArray × Int)) × Int) : bodyF laws_heldBookingS.E laws_heldBookingS.keep n Try.f28 laws_heldBookingS.con x = laws_heldBookingS.fn n x.1 x.2 := by
  have h : bodyF laws_heldBookingS.E laws_heldBookingS.keep n Try.f28 laws_heldBookingS.con x = laws_heldBookingS.top (fun a0 k1 i5 => laws_heldBookingS.LN2 n x n (laws_heldBookingS.st2 a0 k1 i5)) x.1 x.2 := by kernel_rfl
  rw [h]
  simp only [laws_heldBookingS.lem2]
  rfl
set_option maxRecDepth 100000 in
theorem laws_heldBookingS.good : Good Try.prog 28 laws_heldBookingS.con :=
  good_of tabok (cs := laws_heldBookingS.cs) ⟨laws_markText.good, trivial⟩ 0 false (fn := Try.f28) Try.func28 rfl (by decide) (by simp [laws_heldBookingS.con]) laws_heldBookingS.keep NN (fun _ => rfl) (fun x => laws_heldBookingS.body NN x)
end
end Go.Ev.Try

namespace Go.Ev.Try
open Go.Proofs Go.Pl
set_option linter.unusedVariables false
noncomputable section
def laws_FnExactSettleAll.con : Con := { ps := [(.val, (.sl 111 (.pair (.int .i64) (.pair .str (.int .i64))))), (.val, (.int .i64))], rs := [(.val, .bool)], F := fun x => laws_FnExactSettleAll.f x.1 x.2 }
def laws_FnExactSettleAll.cs : List (FuncId × Con) := [(14, laws_szBookingS.con), (16, laws_toBookingS.con), (18, laws_intactBookingS.con), (22, laws_markBookingS.con), (25, spec_SettleAll.con), (26, impl_SettleAll.con), (27, laws_eqBookingS.con), (28, laws_heldBookingS.con)]
def laws_FnExactSettleAll.E : Env := envOf tab laws_FnExactSettleAll.cs 0 false
def laws_FnExactSettleAll.keep (i : Nat) : List Nat := []
set_option maxRecDepth 100000 in
theorem laws_FnExactSettleAll.body (n : Nat) (x : (List (Int × ByteArray × Int)) × Int) : bodyF laws_FnExactSettleAll.E laws_FnExactSettleAll.keep n Try.f5 laws_FnExactSettleAll.con x = laws_FnExactSettleAll.fn n x.1 x.2 := by
  have h : bodyF laws_FnExactSettleAll.E laws_FnExactSettleAll.keep n Try.f5 laws_FnExactSettleAll.con x = laws_FnExactSettleAll.top x.1 x.2 := by kernel_rfl
  exact h
set_option maxRecDepth 100000 in
theorem laws_FnExactSettleAll.good : Good Try.prog 5 laws_FnExactSettleAll.con :=
  good_of tabok (cs := laws_FnExactSettleAll.cs) ⟨laws_szBookingS.good, laws_toBookingS.good, laws_intactBookingS.good, laws_markBookingS.good, spec_SettleAll.good, impl_SettleAll.good, laws_eqBookingS.good, laws_heldBookingS.good, trivial⟩ 0 false (fn := Try.f5) Try.func5 rfl (by decide) (by simp [laws_FnExactSettleAll.con]) laws_FnExactSettleAll.keep NN (fun _ => rfl) (fun x => laws_FnExactSettleAll.body NN x)
end
end Go.Ev.Try

/- Words for the plain laws. -/
namespace Go.Pl
open Go.Ev
set_option linter.unusedVariables false

theorem wf64 {n : Int} : (Lit.int .i64 n).wf = true ↔ (-9223372036854775808 ≤ n ∧ n ≤ 9223372036854775807) := by
  simp only [Lit.wf, Bool.and_eq_true, decide_eq_true_eq]
  have e1 : IntKind.i64.min = -9223372036854775808 := by decide
  have e2 : IntKind.i64.max = 9223372036854775807 := by decide
  omega
theorem wf8 {n : Int} : (Lit.int .u8 n).wf = true ↔ (0 ≤ n ∧ n ≤ 255) := by
  simp only [Lit.wf, Bool.and_eq_true, decide_eq_true_eq]
  have e1 : IntKind.u8.min = 0 := by decide
  have e2 : IntKind.u8.max = 255 := by decide
  omega
theorem w8 {n : Int} (h1 : 0 ≤ n) (h2 : n < 256) : IntKind.u8.wrap n = n := by
  simp only [IntKind.wrap, IntKind.bits, IntKind.signed]
  simp
  omega
theorem w8_range (n : Int) : 0 ≤ IntKind.u8.wrap n ∧ IntKind.u8.wrap n < 256 := by
  simp only [IntKind.wrap, IntKind.bits, IntKind.signed]
  simp
  omega

/-! Rows, taken apart where a loop stands. -/
theorem mid_get {α : Type} (p r : List α) (x z : α) : (p ++ x :: r).getD (p.length : Int).toNat z = x := by simp
theorem mid_set {α : Type} (p r : List α) (x y : α) : (p ++ x :: r).set (p.length : Int).toNat y = p ++ y :: r := by simp
theorem mid_getn {α : Type} (p r : List α) (x z : α) : (p ++ x :: r).getD p.length z = x := by simp
theorem mid_setn {α : Type} (p r : List α) (x y : α) : (p ++ x :: r).set p.length y = p ++ y :: r := by simp
theorem mid_len {α : Type} (p r : List α) (x : α) : ((p ++ x :: r).length : Int) = (p.length : Int) + r.length + 1 := by simp; omega
theorem mid_nil {α : Type} (p : List α) : p ++ [] = p := by simp
theorem mid_snoc {α : Type} (p r : List α) (x : α) : (p ++ [x]) ++ r = p ++ x :: r := by simp
theorem snoc_len {α : Type} (p : List α) (x : α) : ((p ++ [x]).length : Int) = (p.length : Int) + 1 := by simp
/-- A loop over a row: l stands for its rounds, f for what it comes to. -/
theorem loop_mid {α ρ σ : Type} {B : Nat} (l : Nat → List α → Int → σ → Option ρ) (f : List α → List α → σ → Option ρ)
    (hnil : ∀ k pre st, pre.length ≤ B → l (k + 1) pre (pre.length : Int) st = f pre [] st)
    (hcons : ∀ k pre a r st, pre.length + r.length + 1 ≤ B → (∀ st', l k (pre ++ a :: r) ((pre.length : Int) + 1) st' = f (pre ++ [a]) r st') → l (k + 1) (pre ++ a :: r) (pre.length : Int) st = f pre (a :: r) st) :
    ∀ r pre k st, pre.length + r.length ≤ B → r.length < k → l k (pre ++ r) (pre.length : Int) st = f pre r st := by
  intro r
  induction r with
  | nil =>
    intro pre k st h1 h2
    obtain ⟨k, rfl⟩ : ∃ j, k = j + 1 := ⟨k - 1, by omega⟩
    rw [List.append_nil]
    exact hnil k pre st (by simpa using h1)
  | cons a r ih =>
    intro pre k st h1 h2
    simp only [List.length_cons] at h1 h2
    obtain ⟨k, rfl⟩ : ∃ j, k = j + 1 := ⟨k - 1, by omega⟩
    refine hcons k pre a r st (by omega) fun st' => ?_
    have := ih (pre ++ [a]) k st' (by simp; omega) (by omega)
    rw [mid_snoc, snoc_len] at this
    exact this
/-- The same, where the row itself is written. -/
theorem loop_mid0 {α ρ σ : Type} {B : Nat} (l : Nat → List α → Int → σ → Option ρ) (f : List α → List α → σ → Option ρ)
    (hnil : ∀ k pre st, pre.length ≤ B → l (k + 1) pre (pre.length : Int) st = f pre [] st)
    (hcons : ∀ k pre a r st, pre.length + r.length + 1 ≤ B → (∀ st', l k (pre ++ a :: r) ((pre.length : Int) + 1) st' = f (pre ++ [a]) r st') → l (k + 1) (pre ++ a :: r) (pre.length : Int) st = f pre (a :: r) st)
    (xs : List α) (k : Nat) (st : σ) (h1 : xs.length ≤ B) (h2 : xs.length < k) : l k xs 0 st = f [] xs st := by
  have := loop_mid l f hnil hcons xs [] k st (by simpa using h1) h2
  simpa using this
/-- A loop by a measure. -/
theorem loop_by {ρ σ : Type} (l : Nat → σ → Option ρ) (μ : σ → Nat) (Q : σ → Option ρ → Prop)
    (h : ∀ k st, (∀ st', μ st' < μ st → Q st' (l k st')) → Q st (l (k + 1) st)) : ∀ k st, μ st < k → Q st (l k st) := by
  intro k
  induction k with
  | zero => intro st h; omega
  | succ k ih => intro st hk; exact h k st fun st' h' => ih st' (by omega)

/-! Bytes. -/
theorem ba_toList {a b : ByteArray} : a.toList = b.toList ↔ a = b := by
  rw [ByteArray.toList_eq, ByteArray.toList_eq]
  exact ⟨fun h => ByteArray.ext (Array.toList_inj.mp h), fun h => by rw [h]⟩
theorem ba_beq (a b : ByteArray) : (a.toList == b.toList) = decide (a = b) := by
  by_cases h : a = b
  · subst h; simp
  · rw [decide_eq_false h, beq_eq_false_iff_ne]; exact fun e => h (ba_toList.1 e)
def bl (s : ByteArray) : List UInt8 := s.data.toList
def ob (l : List UInt8) : ByteArray := ⟨l.toArray⟩
theorem bl_ob (l : List UInt8) : bl (ob l) = l := by simp [bl, ob]
theorem ob_bl (s : ByteArray) : ob (bl s) = s := by simp [bl, ob]
theorem bl_inj {a b : ByteArray} (h : bl a = bl b) : a = b := by rw [← ob_bl a, h, ob_bl]
theorem ob_inj {a b : List UInt8} (h : ob a = ob b) : a = b := by rw [← bl_ob a, h, bl_ob]
theorem bl_length (s : ByteArray) : (bl s).length = s.size := by simp only [bl, Array.length_toList]; rfl
theorem ob_size (l : List UInt8) : (ob l).size = l.length := by rw [← bl_length, bl_ob]
theorem bl_append (a b : ByteArray) : bl (a ++ b) = bl a ++ bl b := by simp [bl]
theorem ob_append (a b : List UInt8) : ob a ++ ob b = ob (a ++ b) := by apply bl_inj; rw [bl_append, bl_ob, bl_ob, bl_ob]
theorem bl_lit (a : Array UInt8) : bl (⟨a⟩ : ByteArray) = a.toList := rfl
theorem lit_ob (l : List UInt8) : (⟨l.toArray⟩ : ByteArray) = ob l := rfl
theorem bl_extract (s : ByteArray) (i j : Nat) : bl (s.extract i j) = ((bl s).take j).drop i := by
  simp only [bl, ByteArray.data_extract, Array.toList_extract, List.extract]
  rw [List.drop_take]
theorem ob_extract (l : List UInt8) (i j : Nat) : (ob l).extract i j = ob ((l.take j).drop i) := by apply bl_inj; rw [bl_extract, bl_ob, bl_ob]
theorem ob_toList (l : List UInt8) : (ob l).toList = l := by rw [ByteArray.toList_eq]; rfl
theorem ba_bl (s : ByteArray) : s.toList = bl s := by rw [ByteArray.toList_eq]; rfl
theorem bt_ob (l : List UInt8) (i : Int) : bt (ob l) i = ((l.getD i.toNat 0).toNat : Int) := rfl
theorem bt_mid (p r : List UInt8) (c : UInt8) : bt (ob (p ++ c :: r)) (p.length : Int) = (c.toNat : Int) := by rw [bt_ob, mid_get]
theorem bt_range (s : ByteArray) (i : Int) : 0 ≤ bt s i ∧ bt s i ≤ 255 := by
  unfold bt
  have := UInt8.toNat_lt ((s.data.toList.getD i.toNat 0))
  omega
theorem u8_lt (c : UInt8) : c.toNat < 256 := UInt8.toNat_lt c
theorem u8_eq {a : UInt8} {n : Nat} (h : n < 256) : ((a.toNat : Int) = (n : Int)) ↔ a = UInt8.ofNat n := by
  constructor
  · intro e
    apply UInt8.toNat_inj.mp
    rw [UInt8.toNat_ofNat']; omega
  · rintro rfl
    rw [UInt8.toNat_ofNat']; omega
theorem bytesOf_ob (l : List Int) : bytesOf l = ob (l.map fun n => UInt8.ofNat n.toNat) := rfl
/-- Every string is of bytes. -/
theorem ob_all {P : ByteArray → Prop} (h : ∀ l, P (ob l)) (s : ByteArray) : P s := by rw [← ob_bl s]; exact h _
/-- A loop over a string's bytes. -/
theorem loop_str0 {ρ σ : Type} {B : Nat} (l : Nat → ByteArray → Int → σ → Option ρ) (f : List UInt8 → List UInt8 → σ → Option ρ)
    (hnil : ∀ k pre st, pre.length ≤ B → l (k + 1) (ob pre) (pre.length : Int) st = f pre [] st)
    (hcons : ∀ k pre a r st, pre.length + r.length + 1 ≤ B → (∀ st', l k (ob (pre ++ a :: r)) ((pre.length : Int) + 1) st' = f (pre ++ [a]) r st') → l (k + 1) (ob (pre ++ a :: r)) (pre.length : Int) st = f pre (a :: r) st)
    (s : ByteArray) (k : Nat) (st : σ) (h1 : s.size ≤ B) (h2 : s.size < k) : l k s 0 st = f [] (bl s) st := by
  have := loop_mid0 (fun k xs i st => l k (ob xs) i st) f hnil hcons (bl s) k st (by rw [bl_length]; exact h1) (by rw [bl_length]; exact h2)
  rw [ob_bl] at this
  exact this
theorem room1 : room 1 = 140737488355328 := by decide
theorem room8 : room 8 = 17592186044416 := by decide
theorem room16 : room 16 = 8796093022208 := by decide
theorem room24 : room 24 = 5864062014805 := by decide
theorem room32 : room 32 = 4398046511104 := by decide
theorem room40 : room 40 = 3518437208883 := by decide
theorem NNb : (1000000000000 : Nat) < NN := by rw [NN_eq]; omega
theorem NN_lt {n : Nat} (h : n < 1152921504606846976) : n < NN := by rw [NN_eq]; omega
theorem some_iff {b c : Bool} (h : b = true ↔ c = true) : some b = some c := by
  congr 1; exact Bool.eq_iff_iff.mpr h
end Go.Pl

/- A law's row: what its arguments are, in plain words. -/
namespace Go.Ev
set_option linter.unusedVariables false
set_option linter.unusedSimpArgs false
open Go.RowKit Go.WideShapes Go.ChangeShapes Go.ChangeAt
variable {P : Program}

def Rg (k : IntKind) (n : Int) : Prop := (Lit.int k n).wf = true
def Sz (s : ByteArray) : Prop := s.size ≤ 140737488355328
def Ls {α : Type} (Q : α → Prop) (xs : List α) : Prop := xs.length ≤ 140737488355328 ∧ ∀ x ∈ xs, Q x
def Plain : (t : Ty) → t.I → Prop
  | .int k, n => Rg k n
  | .bool, _ => True
  | .str, s => Sz s
  | .sl _ t, xs => Ls (Plain t) xs
  | .slb _ _, _ => True
  | .pair a b, x => Plain a x.1 ∧ Plain b x.2
  | .arr n t, xs => xs.length = n ∧ ∀ x ∈ xs, Plain t x
def PlainAll : (ts : List Ty) → Tup ts → Prop
  | [], _ => True
  | [t], x => Plain t x
  | t :: u :: r, x => Plain t x.1 ∧ PlainAll (u :: r) x.2
def okE (B : TypeId → Nat) : Ty → Bool
  | .sl e t => decide (1 ≤ B e) && okE B t
  | .slb e t => decide (1 ≤ B e) && okE B t
  | .pair a b => okE B a && okE B b
  | .arr _ t => okE B t
  | _ => true
theorem reach_lt : reachBytes ≤ 140737488355328 := by decide
theorem fit_plain {B : TypeId → Nat} : ∀ (t : Ty) (x : t.I), okE B t = true → Fit B t x → Plain t x := by
  intro t
  induction t with
  | int k => intro x _ h; exact h
  | bool => intro x _ h; trivial
  | str => intro x _ h; exact Nat.le_trans h reach_lt
  | sl e t ih =>
    intro x ho h
    simp only [okE, Bool.and_eq_true, decide_eq_true_eq] at ho
    refine ⟨?_, fun y hy => ih y ho.2 (h.2 y hy)⟩
    have h1 : x.length * 1 ≤ x.length * B e := Nat.mul_le_mul_left _ ho.1
    have h2 := h.1
    have h3 := reach_lt
    omega
  | slb e t ih => intro x ho h; trivial
  | pair a b iha ihb =>
    intro x ho h
    simp only [okE, Bool.and_eq_true] at ho
    exact ⟨iha _ ho.1 h.1, ihb _ ho.2 h.2⟩
  | arr n t ih => intro x ho h; exact ⟨h.1, fun y hy => ih y ho (h.2 y hy)⟩
theorem fit_plainAll {B : TypeId → Nat} : ∀ (ts : List Ty) (x : Tup ts), ts.all (okE B) = true → FitAll B ts x → PlainAll ts x := by
  intro ts
  induction ts with
  | nil => intro x _ _; trivial
  | cons t r ih =>
    intro x ho h
    simp only [List.all_cons, Bool.and_eq_true] at ho
    cases r with
    | nil => exact fit_plain t x ho.1 h
    | cons u r => exact ⟨fit_plain t x.1 ho.1 h.1, ih x.2 ho.2 h.2⟩
theorem ok_all {tab : List TRow} (h : okB P tab = true) : tab.all (rowB P tab) = true := by
  unfold okB at h; simp only [Bool.and_eq_true] at h; exact h.2.2
theorem bytes_sound {tab : List TRow} (h : okB P tab = true) : ∀ t x, tabT tab t = some x → P.bytesOf t = tabB tab t := by
  intro t x ht
  have hs := tab_sound (ok_all h)
  obtain ⟨ty, n⟩ := x
  obtain ⟨i, h1, h2⟩ := (hs.1 t ty n ht).info
  unfold Program.bytesOf
  rw [h1]
  exact hs.2 t _ ht i h1
section
variable {H : Type} {enc : TypeId × Value → H} {w : World} {base : Nat} {spare : Nat → Bool} {held : Bool}
theorem law_row {tab : List TRow} (hok : okB P tab = true) (hpos : posB tab = true) {f : FuncId} {c : Con} (hg : Good P f c) (hps : (c.ps.map (·.2)).map ((Kn.val, ·)) = c.ps) (hE : (c.ps.map (·.2)).all (okE (tabB tab)) = true)
    (hlaw : ∀ x, PlainAll (c.ps.map (·.2)) x → ∃ r, c.F x = some r ∧ kds' c.rs (dats _ r) = [(.val, ⟨.bool, true⟩)])
    {r : Reach} {b0 : Nat} {ts : List TypeId} {args : Array Value} {ds : List (DataW H)} {p : List MemPlace} (hts : tysOf (tabT tab) ts = some (c.ps.map (·.2))) (h : DataW.TrodAll enc P w base spare held ts args.toList ds p)
    (hval : ∀ (j : Nat) t v, ts[j]? = some t → args[j]? = some v → Value.okWide P w r b0 t v) {vt : List TypeId} {gs : List (DataW H)} (hgs : vt = [] ∨ gs = []) (hw : (DataW.weightsEach P (ts ++ vt) (ds ++ gs)).all (· ≤ reachBytes) = true) (hl : ts.length = ds.length) :
    Calls P f args w fun e w' => e = .returned (.bool true) ∧ Below w.heap.size w w' := by
  refine law_calls (tab_sound (ok_all hok)).1 (bytes_sound hok) (posB_sound hpos) hg hps (fun x hx => hlaw x (fit_plainAll _ x hE hx)) hts h (fun j t v hj hv => hval j t v hj (by simpa using hv)) ?_
  have key : ∀ (ts : List TypeId) (ds : List (DataW H)), ts.length = ds.length → ∀ m ∈ DataW.weightsEach P ts ds, m ∈ DataW.weightsEach P (ts ++ vt) (ds ++ gs) := by
    intro ts
    induction ts with
    | nil => intro ds hl m hm; cases ds <;> simp [DataW.weightsEach] at hm
    | cons t ts ih =>
      intro ds hl m hm
      cases ds with
      | nil => simp [DataW.weightsEach] at hm
      | cons d ds =>
        simp only [List.cons_append, DataW.weightsEach, List.mem_append] at hm ⊢
        rcases hm with hm | hm
        · exact .inl hm
        · exact .inr (ih ds (by simpa using hl) m hm)
  intro m hm
  have := List.all_eq_true.1 hw m (key ts ds hl m hm)
  simpa using this
end
end Go.Ev

/- What the laws' own helpers do, loop by loop: sizes, copies, comparisons, marks. -/
namespace Go.Pl
open Go.Ev
set_option linter.unusedVariables false

def Sm (s : ByteArray) : Prop := s.size ≤ 1000000
def Lm {α : Type} (Q : α → Prop) (xs : List α) : Prop := xs.length ≤ 1000000 ∧ ∀ x ∈ xs, Q x

theorem eqS_loop {α : Type} {E : α → Prop} (l : Nat → List α → List α → Int → Option Bool) (a : List α) (hE : ∀ x ∈ a, E x)
    (hs : ∀ k p x r, E x → a = p ++ x :: r → l (k + 1) a a p.length = l k a a ((p.length : Int) + 1)) (he : ∀ k, l (k + 1) a a a.length = some true) :
    ∀ k, a.length < k → l k a a 0 = some true := by
  have key : ∀ (r p : List α) (k : Nat), a = p ++ r → r.length < k → l k a a p.length = some true := by
    intro r
    induction r with
    | nil =>
      intro p k h hk
      obtain ⟨k, rfl⟩ : ∃ j, k = j + 1 := ⟨k - 1, by omega⟩
      rw [List.append_nil] at h
      rw [← h]; exact he k
    | cons x r ih =>
      intro p k h hk
      simp only [List.length_cons] at hk
      obtain ⟨k, rfl⟩ : ∃ j, k = j + 1 := ⟨k - 1, by omega⟩
      rw [hs k p x r (hE x (by rw [h]; simp)) h]
      have := ih (p ++ [x]) k (by rw [h]; simp) (by omega)
      rw [snoc_len] at this
      exact this
  intro k hk
  have := key a [] k (by simp) hk
  simpa using this

theorem szS_loop {α : Type} {Q R : α → Prop} (l : Nat → List α → Int → Int → Option Int)
    (he : ∀ k p left, l (k + 1) p left p.length = some left)
    (hs : ∀ x, Q x → ∀ left, -1000000000000000 ≤ left → left ≤ 1000000 → ∃ s, s ≤ 1000000 ∧ (0 ≤ s → s ≤ left ∧ R x) ∧ ∀ k p r, p.length + r.length + 1 ≤ 140737488355328 → l (k + 1) (p ++ x :: r) left p.length = if s < 0 then some (-1) else l k (p ++ x :: r) s ((p.length : Int) + 1))
    (a : List α) (k : Nat) (left : Int) (h0 : -1000000000000000 ≤ left) (h1 : left ≤ 1000000) (ha : Ls Q a) (hk : a.length < k) : ∃ s, l k a left 0 = some s ∧ s ≤ 1000000 ∧ (0 ≤ s → s ≤ left ∧ ∀ x ∈ a, R x) := by
  have key : ∀ (r p : List α) (k : Nat) (left : Int), p.length + r.length ≤ 140737488355328 → (∀ x ∈ r, Q x) → -1000000000000000 ≤ left → left ≤ 1000000 → r.length < k → ∃ s, l k (p ++ r) left p.length = some s ∧ s ≤ 1000000 ∧ (0 ≤ s → s ≤ left ∧ ∀ x ∈ r, R x) := by
    intro r
    induction r with
    | nil =>
      intro p k left _ _ _ _ hk
      obtain ⟨k, rfl⟩ : ∃ j, k = j + 1 := ⟨k - 1, by omega⟩
      rw [List.append_nil]
      exact ⟨left, he k p left, by omega, fun _ => ⟨by omega, fun x hx => by cases hx⟩⟩
    | cons x r ih =>
      intro p k left hb hq h0 h1 hk
      simp only [List.length_cons] at hk hb
      obtain ⟨k, rfl⟩ : ∃ j, k = j + 1 := ⟨k - 1, by omega⟩
      obtain ⟨s, s1, s2, s3⟩ := hs x (hq x (by simp)) left h0 h1
      rw [s3 k p r (by omega)]
      by_cases hn : s < 0
      · rw [if_pos hn]; exact ⟨-1, rfl, by omega, by omega⟩
      · rw [if_neg hn]
        obtain ⟨u, u1, u2, u3⟩ := ih (p ++ [x]) k s (by simp; omega) (fun y hy => hq y (by simp [hy])) (by omega) (by omega) (by omega)
        rw [mid_snoc, snoc_len] at u1
        refine ⟨u, u1, by omega, fun h => ⟨by have := (u3 h).1; have := (s2 (by omega)).1; omega, fun y hy => ?_⟩⟩
        rcases List.mem_cons.1 hy with rfl | hy
        · exact (s2 (by omega)).2
        · exact (u3 h).2 y hy
  have := key a [] k left (by simpa using ha.1) ha.2 h0 h1 hk
  simpa using this

theorem toS_loop {α : Type} {Z R : α → Prop} (l5 l9 : Nat → List α → Int → List α → Option (List α × List α))
    (he9 : ∀ k a (out : List α), (a.length : Int) ≤ out.length → l9 (k + 1) a out.length out = some (out.take a.length, out.drop a.length))
    (hs9 : ∀ k a (i : Nat) (out : List α), i < out.length → out.length ≤ 140737488355328 → ∃ z, Z z ∧ l9 (k + 1) a i out = l9 k a ((i : Int) + 1) (out.set i z))
    (he5 : ∀ k a (out : List α), l5 (k + 1) a a.length out = l9 NN a a.length out)
    (hs5 : ∀ k (p r : List α) x (q s : List α) y, R x → p.length = q.length → p.length + r.length + 1 ≤ 140737488355328 → p.length + s.length + 1 ≤ 140737488355328 → l5 (k + 1) (p ++ x :: r) p.length (q ++ y :: s) = l5 k (p ++ x :: r) ((p.length : Int) + 1) (q ++ x :: s))
    (a : List α) (out : List α) (k : Nat) (ha : ∀ x ∈ a, R x) (h : a.length ≤ out.length) (hb : out.length ≤ 140737488355328) (hk : a.length < k) :
    ∃ fil, l5 k a 0 out = some (a, fil) ∧ fil.length = out.length - a.length ∧ ∀ x ∈ fil, Z x := by
  have hN : 140737488355328 < NN := NN_lt (by omega)
  have k9 : ∀ (d : Nat) (k : Nat) (i : Nat) (out : List α), out.length ≤ 140737488355328 → i + d = out.length → d < k → a.length ≤ i → out.take a.length = a → (∀ j x, a.length ≤ j → j < i → out[j]? = some x → Z x) →
      ∃ fil, l9 k a i out = some (a, fil) ∧ fil.length = out.length - a.length ∧ ∀ x ∈ fil, Z x := by
    intro d
    induction d with
    | zero =>
      intro k i out hb hi hk ha ht hz
      obtain ⟨k, rfl⟩ : ∃ j, k = j + 1 := ⟨k - 1, by omega⟩
      obtain rfl : i = out.length := by omega
      refine ⟨_, by rw [he9 k a out (by omega), ht], by simp, fun x hx => ?_⟩
      obtain ⟨m, hm⟩ := List.mem_iff_getElem?.1 hx
      rw [List.getElem?_drop] at hm
      exact hz _ x (by omega) (List.getElem?_eq_some_iff.1 hm).1 hm
    | succ d ih =>
      intro k i out hb hi hk ha ht hz
      obtain ⟨k, rfl⟩ : ∃ j, k = j + 1 := ⟨k - 1, by omega⟩
      obtain ⟨z, z1, z2⟩ := hs9 k a i out (by omega) hb
      rw [z2]
      obtain ⟨fil, f1, f2, f3⟩ := ih k (i + 1) (out.set i z) (by simpa using hb) (by simp; omega) (by omega) (by omega) (by rw [List.take_set_of_le ha]; exact ht) (fun j x h1 h2 h3 => by
        by_cases hj : i = j
        · subst hj
          rw [List.getElem?_set_self (by omega)] at h3
          cases h3; exact z1
        · rw [List.getElem?_set_ne hj] at h3
          exact hz j x h1 (by omega) h3)
      exact ⟨fil, f1, by simpa using f2, f3⟩
  have k5 : ∀ (r p : List α) (s : List α) (k : Nat), p ++ r = a → p.length + s.length ≤ 140737488355328 → r.length ≤ s.length → r.length < k → (∀ x ∈ r, R x) →
      ∃ fil, l5 k a p.length (p ++ s) = some (a, fil) ∧ fil.length = p.length + s.length - a.length ∧ ∀ x ∈ fil, Z x := by
    intro r
    induction r with
    | nil =>
      intro p s k h3 h4 h5 hk _
      obtain ⟨k, rfl⟩ : ∃ j, k = j + 1 := ⟨k - 1, by omega⟩
      rw [List.append_nil] at h3
      subst h3
      rw [he5]
      obtain ⟨fil, f1, f2, f3⟩ := k9 s.length NN p.length (p ++ s) (by simp; omega) (by simp) (by omega) (by omega) (by rw [List.take_left' rfl]) (fun j x h1 h2 => by omega)
      exact ⟨fil, f1, by rw [f2]; simp, f3⟩
    | cons x r ih =>
      intro p s k h3 h4 h5 hk hR
      simp only [List.length_cons] at h5 hk
      obtain ⟨k, rfl⟩ : ∃ j, k = j + 1 := ⟨k - 1, by omega⟩
      cases s with
      | nil => simp at h5
      | cons y s =>
        have hs := hs5 k p r x p s y (hR x (by simp)) rfl (by simp only [List.length_cons] at h4 h5; omega) (by simp only [List.length_cons] at h4; omega)
        rw [h3] at hs
        rw [hs]
        obtain ⟨fil, f1, f2, f3⟩ := ih (p ++ [x]) s k (by rw [← h3]; simp) (by simp only [List.length_append, List.length_cons, List.length_nil] at h4 ⊢; omega) (by simp only [List.length_cons] at h5; omega) (by omega) (fun z hz => hR z (by simp [hz]))
        rw [mid_snoc, snoc_len] at f1
        exact ⟨fil, f1, by rw [f2]; simp only [List.length_append, List.length_cons, List.length_nil]; omega, f3⟩
  obtain ⟨fil, f1, f2, f3⟩ := k5 a [] out k rfl (by simpa using hb) h hk ha
  exact ⟨fil, by simpa using f1, by simpa using f2, f3⟩

/-- Rows that are marked, and looked at afterwards. -/
theorem mark_held {α : Type} {Q : α → Prop} (l : Nat → List α → Int → Int → Option (Int × List α)) (lh : Nat → List α → Int → Int → Option Int) (C : Nat) (K : Int)
    (he : ∀ k p n, l (k + 1) p n p.length = some (n, p)) (heh : ∀ k p n, lh (k + 1) p n p.length = some n)
    (hs : ∀ x, Q x → ∀ n, 0 ≤ n → n ≤ K → ∃ x' n', n ≤ n' ∧ n' ≤ n + C ∧ (∀ k p r, p.length + r.length + 1 ≤ 1000000 → l (k + 1) (p ++ x :: r) n p.length = l k (p ++ x' :: r) n' ((p.length : Int) + 1))
      ∧ (∀ k p r, p.length + r.length + 1 ≤ 1000000 → lh (k + 1) (p ++ x' :: r) n p.length = lh k (p ++ x' :: r) n' ((p.length : Int) + 1)))
    (a : List α) (ha : Lm Q a) (n : Int) (h0 : 0 ≤ n) (h1 : n + (1000000 * C : Nat) ≤ K) (k kh : Nat) (hk : 1000000 < k) (hkh : 1000000 < kh) :
    ∃ n' a', l k a n 0 = some (n', a') ∧ lh kh a' n 0 = some n' ∧ n ≤ n' ∧ n' ≤ n + (1000000 * C : Nat) := by
  have key : ∀ (r p : List α) (k : Nat) (n : Int), p.length + r.length ≤ 1000000 → (∀ x ∈ r, Q x) → 0 ≤ n → n + ((r.length * C : Nat) : Int) ≤ K → r.length < k →
      ∃ n' r', l k (p ++ r) n p.length = some (n', p ++ r') ∧ r'.length = r.length ∧ n ≤ n' ∧ n' ≤ n + ((r.length * C : Nat) : Int) ∧ (∀ (q : List α) kh, q.length = p.length → r.length < kh → lh kh (q ++ r') n q.length = some n') := by
    intro r
    induction r with
    | nil =>
      intro p k n _ _ h0 _ hk
      obtain ⟨k, rfl⟩ : ∃ j, k = j + 1 := ⟨k - 1, by omega⟩
      refine ⟨n, [], by rw [List.append_nil]; exact he k p n, rfl, by omega, by simp, fun q kh _ hkh => ?_⟩
      obtain ⟨kh, rfl⟩ : ∃ j, kh = j + 1 := ⟨kh - 1, by simp at hkh; omega⟩
      rw [List.append_nil]; exact heh kh q n
    | cons x r ih =>
      intro p k n hb hq h0 hK hk
      simp only [List.length_cons] at hk hb hK
      obtain ⟨k, rfl⟩ : ∃ j, k = j + 1 := ⟨k - 1, by omega⟩
      have hm : (r.length + 1) * C = r.length * C + C := by rw [Nat.add_mul, Nat.one_mul]
      rw [hm] at hK
      obtain ⟨x', n1, a1, a2, a3, a4⟩ := hs x (hq x (by simp)) n h0 (by omega)
      rw [a3 k p r (by omega)]
      obtain ⟨n', r', b1, b2, b3, b4, b5⟩ := ih (p ++ [x']) k n1 (by simp; omega) (fun y hy => hq y (by simp [hy])) (by omega) (by omega) (by omega)
      rw [mid_snoc, snoc_len] at b1
      refine ⟨n', x' :: r', by rw [b1]; simp, by simp [b2], by omega, by simp only [List.length_cons]; rw [hm]; omega, fun q kh hq' hkh => ?_⟩
      simp only [List.length_cons] at hkh
      obtain ⟨kh, rfl⟩ : ∃ j, kh = j + 1 := ⟨kh - 1, by omega⟩
      rw [a4 kh q r' (by omega)]
      have := b5 (q ++ [x']) kh (by simp [hq']) (by omega)
      rw [mid_snoc, snoc_len] at this
      exact this
  have hle : ((a.length * C : Nat) : Int) ≤ ((1000000 * C : Nat) : Int) := Int.ofNat_le.2 (Nat.mul_le_mul_right _ ha.1)
  obtain ⟨n', r', b1, b2, b3, b4, b5⟩ := key a [] k n (by simpa using ha.1) ha.2 h0 (by omega) (by have := ha.1; omega)
  have := b5 [] kh rfl (by have := ha.1; omega)
  exact ⟨n', r', by simpa using b1, by simpa using this, b3, by omega⟩
theorem mem_mid {α : Type} {a p r : List α} {x : α} (h : a = p ++ x :: r) : x ∈ a := by rw [h]; simp
end Go.Pl

namespace Go.Pl
open Go.Ev
set_option linter.unusedVariables false
set_option linter.unusedSimpArgs false
def PlRatio (x : Int × Int) : Prop := Rg .i64 x.1 ∧ Rg .i64 x.2
def OkRatio (x : Int × Int) : Prop := Rg .i64 x.1 ∧ Rg .i64 x.2
def PlArticle (x : ByteArray × Int × Int × Int × Int × Int × Int × Int × Int) : Prop := Sz x.1 ∧ Rg .i64 x.2.1 ∧ Rg .i64 x.2.2.1 ∧ Rg .i64 x.2.2.2.1 ∧ Rg .i64 x.2.2.2.2.1 ∧ Rg .i64 x.2.2.2.2.2.1 ∧ Rg .i64 x.2.2.2.2.2.2.1 ∧ Rg .i64 x.2.2.2.2.2.2.2.1 ∧ Rg .i64 x.2.2.2.2.2.2.2.2
def OkArticle (x : ByteArray × Int × Int × Int × Int × Int × Int × Int × Int) : Prop := Sm x.1 ∧ Rg .i64 x.2.1 ∧ Rg .i64 x.2.2.1 ∧ Rg .i64 x.2.2.2.1 ∧ Rg .i64 x.2.2.2.2.1 ∧ Rg .i64 x.2.2.2.2.2.1 ∧ Rg .i64 x.2.2.2.2.2.2.1 ∧ Rg .i64 x.2.2.2.2.2.2.2.1 ∧ Rg .i64 x.2.2.2.2.2.2.2.2
def PlLayer (x : Int × Int × Int) : Prop := Rg .i64 x.1 ∧ Rg .i64 x.2.1 ∧ Rg .i64 x.2.2
def OkLayer (x : Int × Int × Int) : Prop := Rg .i64 x.1 ∧ Rg .i64 x.2.1 ∧ Rg .i64 x.2.2
def PlShot (x : Int × Int × Int × Int) : Prop := Rg .i64 x.1 ∧ Rg .i64 x.2.1 ∧ Rg .i64 x.2.2.1 ∧ Rg .i64 x.2.2.2
def OkShot (x : Int × Int × Int × Int) : Prop := Rg .i64 x.1 ∧ Rg .i64 x.2.1 ∧ Rg .i64 x.2.2.1 ∧ Rg .i64 x.2.2.2
def PlBar (x : Int × Int) : Prop := Rg .i64 x.1 ∧ Rg .i64 x.2
def OkBar (x : Int × Int) : Prop := Rg .i64 x.1 ∧ Rg .i64 x.2
def PlCue (x : Int × Int × ByteArray × Int) : Prop := Rg .i64 x.1 ∧ Rg .i64 x.2.1 ∧ Sz x.2.2.1 ∧ Rg .i64 x.2.2.2
def OkCue (x : Int × Int × ByteArray × Int) : Prop := Rg .i64 x.1 ∧ Rg .i64 x.2.1 ∧ Sm x.2.2.1 ∧ Rg .i64 x.2.2.2
def PlShow (x : (List (Int × Int)) × (List (ByteArray × Int × Int × Int × Int × Int × Int × Int × Int)) × (List (Int × Int × ByteArray × Int))) : Prop := Ls PlBar x.1 ∧ Ls PlArticle x.2.1 ∧ Ls PlCue x.2.2
def OkShow (x : (List (Int × Int)) × (List (ByteArray × Int × Int × Int × Int × Int × Int × Int × Int)) × (List (Int × Int × ByteArray × Int))) : Prop := Lm OkBar x.1 ∧ Lm OkArticle x.2.1 ∧ Lm OkCue x.2.2
def PlFuse (x : Int × Int × Int × Int) : Prop := Rg .i64 x.1 ∧ Rg .i64 x.2.1 ∧ Rg .i64 x.2.2.1 ∧ Rg .i64 x.2.2.2
def OkFuse (x : Int × Int × Int × Int) : Prop := Rg .i64 x.1 ∧ Rg .i64 x.2.1 ∧ Rg .i64 x.2.2.1 ∧ Rg .i64 x.2.2.2
def PlLink (x : Int × Int) : Prop := Rg .i64 x.1 ∧ Rg .i64 x.2
def OkLink (x : Int × Int) : Prop := Rg .i64 x.1 ∧ Rg .i64 x.2
def PlModule (x : Int × Int) : Prop := Rg .i64 x.1 ∧ Rg .i64 x.2
def OkModule (x : Int × Int) : Prop := Rg .i64 x.1 ∧ Rg .i64 x.2
def PlWire (x : Int × Int × Int) : Prop := Rg .i64 x.1 ∧ Rg .i64 x.2.1 ∧ Rg .i64 x.2.2
def OkWire (x : Int × Int × Int) : Prop := Rg .i64 x.1 ∧ Rg .i64 x.2.1 ∧ Rg .i64 x.2.2
def PlCircuit (x : Int × List Int) : Prop := Rg .i64 x.1 ∧ Ls (Rg .i64) x.2
def OkCircuit (x : Int × List Int) : Prop := Rg .i64 x.1 ∧ Lm (Rg .i64) x.2
def PlArea (x : Int × Int × Int × Int × Int) : Prop := Rg .i64 x.1 ∧ Rg .i64 x.2.1 ∧ Rg .i64 x.2.2.1 ∧ Rg .i64 x.2.2.2.1 ∧ Rg .i64 x.2.2.2.2
def OkArea (x : Int × Int × Int × Int × Int) : Prop := Rg .i64 x.1 ∧ Rg .i64 x.2.1 ∧ Rg .i64 x.2.2.1 ∧ Rg .i64 x.2.2.2.1 ∧ Rg .i64 x.2.2.2.2
def PlDemand (x : Int × Int × Int) : Prop := Rg .i64 x.1 ∧ Rg .i64 x.2.1 ∧ Rg .i64 x.2.2
def OkDemand (x : Int × Int × Int) : Prop := Rg .i64 x.1 ∧ Rg .i64 x.2.1 ∧ Rg .i64 x.2.2
def PlRack (x : Int × Int × List Int × List ByteArray) : Prop := Rg .i64 x.1 ∧ Rg .i64 x.2.1 ∧ Ls (Rg .i64) x.2.2.1 ∧ Ls Sz x.2.2.2
def OkRack (x : Int × Int × List Int × List ByteArray) : Prop := Rg .i64 x.1 ∧ Rg .i64 x.2.1 ∧ Lm (Rg .i64) x.2.2.1 ∧ Lm Sm x.2.2.2
def PlField (x : (List (Int × Int × Int)) × (List (Int × Int × Int × Int × Int)) × List Int × List Int × List Int × Int) : Prop := Ls PlDemand x.1 ∧ Ls PlArea x.2.1 ∧ Ls (Rg .i64) x.2.2.1 ∧ Ls (Rg .i64) x.2.2.2.1 ∧ Ls (Rg .i64) x.2.2.2.2.1 ∧ Rg .i64 x.2.2.2.2.2
def OkField (x : (List (Int × Int × Int)) × (List (Int × Int × Int × Int × Int)) × List Int × List Int × List Int × Int) : Prop := Lm OkDemand x.1 ∧ Lm OkArea x.2.1 ∧ Lm (Rg .i64) x.2.2.1 ∧ Lm (Rg .i64) x.2.2.2.1 ∧ Lm (Rg .i64) x.2.2.2.2.1 ∧ Rg .i64 x.2.2.2.2.2
def PlMove (x : Int × ByteArray × Int) : Prop := Rg .i64 x.1 ∧ Sz x.2.1 ∧ Rg .i64 x.2.2
def OkMove (x : Int × ByteArray × Int) : Prop := Rg .i64 x.1 ∧ Sm x.2.1 ∧ Rg .i64 x.2.2
def PlController (x : Bool × Bool × Bool × Bool × Bool × Int) : Prop := True ∧ True ∧ True ∧ True ∧ True ∧ Rg .i64 x.2.2.2.2.2
def OkController (x : Bool × Bool × Bool × Bool × Bool × Int) : Prop := True ∧ True ∧ True ∧ True ∧ True ∧ Rg .i64 x.2.2.2.2.2
def PlSignal (x : Int × Int) : Prop := Rg .i64 x.1 ∧ Rg .i64 x.2
def OkSignal (x : Int × Int) : Prop := Rg .i64 x.1 ∧ Rg .i64 x.2
def PlTry (x : Int × Int × Bool) : Prop := Rg .i64 x.1 ∧ Rg .i64 x.2.1 ∧ True
def OkTry (x : Int × Int × Bool) : Prop := Rg .i64 x.1 ∧ Rg .i64 x.2.1 ∧ True
def PlMagazine (x : Int × List Int) : Prop := Rg .i64 x.1 ∧ Ls (Rg .i64) x.2
def OkMagazine (x : Int × List Int) : Prop := Rg .i64 x.1 ∧ Lm (Rg .i64) x.2
def PlDepot (x : Int × Int × Int) : Prop := Rg .i64 x.1 ∧ Rg .i64 x.2.1 ∧ Rg .i64 x.2.2
def OkDepot (x : Int × Int × Int) : Prop := Rg .i64 x.1 ∧ Rg .i64 x.2.1 ∧ Rg .i64 x.2.2
def PlBox (x : Int × Int) : Prop := Rg .i64 x.1 ∧ Rg .i64 x.2
def OkBox (x : Int × Int) : Prop := Rg .i64 x.1 ∧ Rg .i64 x.2
def PlLine (x : ByteArray × Int) : Prop := Sz x.1 ∧ Rg .i64 x.2
def OkLine (x : ByteArray × Int) : Prop := Sm x.1 ∧ Rg .i64 x.2
def PlPaper (x : ByteArray × Int × (List (ByteArray × Int))) : Prop := Sz x.1 ∧ Rg .i64 x.2.1 ∧ Ls PlLine x.2.2
def OkPaper (x : ByteArray × Int × (List (ByteArray × Int))) : Prop := Sm x.1 ∧ Rg .i64 x.2.1 ∧ Lm OkLine x.2.2
def PlPermit (x : Int × Int × Int × Int × List Int × Int) : Prop := Rg .i64 x.1 ∧ Rg .i64 x.2.1 ∧ Rg .i64 x.2.2.1 ∧ Rg .i64 x.2.2.2.1 ∧ Ls (Rg .i64) x.2.2.2.2.1 ∧ Rg .i64 x.2.2.2.2.2
def OkPermit (x : Int × Int × Int × Int × List Int × Int) : Prop := Rg .i64 x.1 ∧ Rg .i64 x.2.1 ∧ Rg .i64 x.2.2.1 ∧ Rg .i64 x.2.2.2.1 ∧ Lm (Rg .i64) x.2.2.2.2.1 ∧ Rg .i64 x.2.2.2.2.2
def PlGrid (x : Int × Int × List Bool) : Prop := Rg .i64 x.1 ∧ Rg .i64 x.2.1 ∧ Ls (fun _ => True) x.2.2
def OkGrid (x : Int × Int × List Bool) : Prop := Rg .i64 x.1 ∧ Rg .i64 x.2.1 ∧ Lm (fun _ => True) x.2.2
def PlBooking (x : Int × ByteArray × Int) : Prop := Rg .i64 x.1 ∧ Sz x.2.1 ∧ Rg .i64 x.2.2
def OkBooking (x : Int × ByteArray × Int) : Prop := Rg .i64 x.1 ∧ Sm x.2.1 ∧ Rg .i64 x.2.2
def PlEntry (x : Int × ByteArray) : Prop := Rg .u8 x.1 ∧ Sz x.2
def OkEntry (x : Int × ByteArray) : Prop := Rg .u8 x.1 ∧ Sm x.2
def PlDesk (x : (List (Int × ByteArray × Int)) × (List (Int × Int)) × (List (Int × ByteArray × Int))) : Prop := Ls PlMove x.1 ∧ Ls PlSignal x.2.1 ∧ Ls PlBooking x.2.2
def OkDesk (x : (List (Int × ByteArray × Int)) × (List (Int × Int)) × (List (Int × ByteArray × Int))) : Prop := Lm OkMove x.1 ∧ Lm OkSignal x.2.1 ∧ Lm OkBooking x.2.2
end Go.Pl

namespace Go.Pl
open Go.Ev
set_option linter.unusedVariables false
set_option linter.unusedSimpArgs false
theorem laws_eqBooking_self (a : Int × ByteArray × Int) : laws_eqBooking.f a a = some true := by
  unfold laws_eqBooking.f laws_eqBooking.fn laws_eqBooking.top
  simp []
end Go.Pl

namespace Go.Pl
open Go.Ev
set_option linter.unusedVariables false
set_option linter.unusedSimpArgs false
theorem laws_eqBookingS_self (a : List (Int × ByteArray × Int)) (hl : a.length ≤ 140737488355328) : laws_eqBookingS.f a a = some true := by
  unfold laws_eqBookingS.f laws_eqBookingS.fn laws_eqBookingS.top
  simp only [bne_self_eq_false, Bool.false_eq_true, if_false]
  refine eqS_loop (E := fun _ => True) (fun k a b i => laws_eqBookingS.l4 NN k a b i) a (fun _ _ => trivial) ?_ ?_ NN (NN_lt (by omega))
  · intro k p x r hx ha
    subst ha
    show laws_eqBookingS.g4 (laws_eqBookingS.l4 NN k) (p ++ x :: r) (p ++ x :: r) p.length = _
    unfold laws_eqBookingS.g4
    have hm := mid_len p r x
    have c1 : (p.length : Int) < ((p ++ x :: r).length : Int) := by omega
    have c0 : (0 : Int) ≤ (p.length : Int) := by omega
    have cw := w64 (n := (p.length : Int) + 1) (by omega) (by omega)
    simp only [c0, c1, and_self, decide_true, if_true, mid_get, laws_eqBooking_self x, Option.bind_some, cw, Bool.not_true, Bool.false_eq_true, if_false]
  · intro k
    show laws_eqBookingS.g4 (laws_eqBookingS.l4 NN k) a a a.length = _
    unfold laws_eqBookingS.g4
    simp
end Go.Pl

/- Loops of a few sorts, and what they come to. -/
namespace Go.Pl
open Go.Ev
set_option linter.unusedVariables false

/-- false at the first element that fails -/
theorem all_loop {α : Type} {E : α → Prop} (P : α → Bool) (fin : List α → Option Bool) (l : Nat → List α → Int → Option Bool)
    (hn : ∀ k p, l (k + 1) p p.length = fin p)
    (hc : ∀ k p a r, E a → (0 : Int) ≤ (p.length : Int) → (p.length : Int) < ((p ++ a :: r).length : Int) → IntKind.i64.wrap ((p.length : Int) + 1) = (p.length : Int) + 1 → l (k + 1) (p ++ a :: r) p.length = if P a = true then l k (p ++ a :: r) ((p.length : Int) + 1) else some false)
    (xs : List α) (hE : ∀ x ∈ xs, E x) (hB : xs.length ≤ 140737488355328) (k : Nat) (hk : xs.length < k) : l k xs 0 = if xs.all P = true then fin xs else some false := by
  have key : ∀ (r p : List α) (k : Nat), p.length + r.length ≤ 140737488355328 → (∀ x ∈ r, E x) → r.length < k → l k (p ++ r) p.length = if r.all P = true then fin (p ++ r) else some false := by
    intro r
    induction r with
    | nil =>
      intro p k _ _ hk
      obtain ⟨k, rfl⟩ : ∃ j, k = j + 1 := ⟨k - 1, by omega⟩
      rw [List.append_nil, hn]; simp
    | cons a r ih =>
      intro p k hb he hk
      simp only [List.length_cons] at hk hb
      obtain ⟨k, rfl⟩ : ∃ j, k = j + 1 := ⟨k - 1, by omega⟩
      have hm := mid_len p r a
      rw [hc k p a r (he a (by simp)) (by omega) (by omega) (w64 (by omega) (by omega))]
      have := ih (p ++ [a]) k (by simp; omega) (fun y hy => he y (by simp [hy])) (by omega)
      rw [mid_snoc, snoc_len] at this
      rw [this]
      cases h : P a <;> simp [h]
  have := key xs [] k (by simpa using hB) hE hk
  simpa using this
/-- the same over a string's bytes -/
theorem all_loop_str (P : UInt8 → Bool) (fin : ByteArray → Option Bool) (l : Nat → ByteArray → Int → Option Bool)
    (hn : ∀ k p, l (k + 1) (ob p) p.length = fin (ob p))
    (hc : ∀ k p a r, (0 : Int) ≤ (p.length : Int) → (p.length : Int) < ((ob (p ++ a :: r)).size : Int) → IntKind.i64.wrap ((p.length : Int) + 1) = (p.length : Int) + 1 → l (k + 1) (ob (p ++ a :: r)) p.length = if P a = true then l k (ob (p ++ a :: r)) ((p.length : Int) + 1) else some false)
    (s : ByteArray) (hB : s.size ≤ 140737488355328) (k : Nat) (hk : s.size < k) : l k s 0 = if (bl s).all P = true then fin s else some false := by
  have := all_loop (E := fun _ => True) P (fun x => fin (ob x)) (fun k x i => l k (ob x) i) hn (fun k p a r _ h1 h2 h3 => hc k p a r h1 (by rw [ob_size]; exact h2) h3) (bl s) (fun _ _ => trivial) (by rw [bl_length]; exact hB) k (by rw [bl_length]; exact hk)
  rw [ob_bl] at this
  exact this

def foldi {α σ : Type} (f : Nat → σ → α → σ) : Nat → σ → List α → σ
  | _, st, [] => st
  | i, st, a :: r => foldi f (i + 1) (f i st a) r
theorem foldi_foldl {α σ : Type} (f : σ → α → σ) : ∀ (xs : List α) (i : Nat) (st : σ), foldi (fun _ => f) i st xs = xs.foldl f st := by
  intro xs
  induction xs with
  | nil => intro i st; rfl
  | cons a r ih => intro i st; exact ih _ _
theorem foldi_append {α σ : Type} (f : Nat → σ → α → σ) : ∀ (xs ys : List α) (i : Nat) (st : σ), foldi f i st (xs ++ ys) = foldi f (i + xs.length) (foldi f i st xs) ys := by
  intro xs
  induction xs with
  | nil => intro ys i st; rfl
  | cons a r ih => intro ys i st; simp only [List.cons_append, foldi, List.length_cons]; rw [ih, show i + 1 + r.length = i + (r.length + 1) by omega]
/-- a state that goes from element to element; I: what holds of it behind a part of the row -/
theorem fold_loop {α σ ρ : Type} {E : α → Prop} (I : List α → σ → Prop) (f : Nat → σ → α → σ) (fin : List α → σ → Option ρ) (l : Nat → List α → Int → σ → Option ρ)
    (hn : ∀ k p st, I p st → l (k + 1) p p.length st = fin p st)
    (hc : ∀ k p a r st, E a → I p st → (0 : Int) ≤ (p.length : Int) → (p.length : Int) < ((p ++ a :: r).length : Int) → p.length < 140737488355328 → IntKind.i64.wrap ((p.length : Int) + 1) = (p.length : Int) + 1 →
      I (p ++ [a]) (f p.length st a) ∧ l (k + 1) (p ++ a :: r) p.length st = l k (p ++ a :: r) ((p.length : Int) + 1) (f p.length st a))
    (xs : List α) (st : σ) (hE : ∀ x ∈ xs, E x) (hI : I [] st) (hB : xs.length ≤ 140737488355328) (k : Nat) (hk : xs.length < k) :
    I xs (foldi f 0 st xs) ∧ l k xs 0 st = fin xs (foldi f 0 st xs) := by
  have key : ∀ (r p : List α) (k : Nat) (st : σ), p.length + r.length ≤ 140737488355328 → (∀ x ∈ r, E x) → I p st → r.length < k → I (p ++ r) (foldi f p.length st r) ∧ l k (p ++ r) p.length st = fin (p ++ r) (foldi f p.length st r) := by
    intro r
    induction r with
    | nil =>
      intro p k st _ _ hI hk
      obtain ⟨k, rfl⟩ : ∃ j, k = j + 1 := ⟨k - 1, by omega⟩
      rw [List.append_nil]; exact ⟨hI, hn k p st hI⟩
    | cons a r ih =>
      intro p k st hb he hI hk
      simp only [List.length_cons] at hk hb
      obtain ⟨k, rfl⟩ : ∃ j, k = j + 1 := ⟨k - 1, by omega⟩
      have hm := mid_len p r a
      obtain ⟨h1, h2⟩ := hc k p a r st (he a (by simp)) hI (by omega) (by omega) (by omega) (w64 (by omega) (by omega))
      have := ih (p ++ [a]) k (f p.length st a) (by simp; omega) (fun y hy => he y (by simp [hy])) h1 (by omega)
      rw [mid_snoc, snoc_len] at this
      rw [h2]
      simpa [foldi] using this
  have := key xs [] k st (by simpa using hB) hE hI hk
  simpa using this
/-- the same over a string's bytes -/
theorem fold_loop_str {σ ρ : Type} (I : List UInt8 → σ → Prop) (f : Nat → σ → UInt8 → σ) (fin : ByteArray → σ → Option ρ) (l : Nat → ByteArray → Int → σ → Option ρ)
    (hn : ∀ k p st, I p st → l (k + 1) (ob p) p.length st = fin (ob p) st)
    (hc : ∀ k p a r st, I p st → (0 : Int) ≤ (p.length : Int) → (p.length : Int) < ((ob (p ++ a :: r)).size : Int) → p.length < 140737488355328 → IntKind.i64.wrap ((p.length : Int) + 1) = (p.length : Int) + 1 →
      I (p ++ [a]) (f p.length st a) ∧ l (k + 1) (ob (p ++ a :: r)) p.length st = l k (ob (p ++ a :: r)) ((p.length : Int) + 1) (f p.length st a))
    (s : ByteArray) (st : σ) (hI : I [] st) (hB : s.size ≤ 140737488355328) (k : Nat) (hk : s.size < k) :
    I (bl s) (foldi f 0 st (bl s)) ∧ l k s 0 st = fin s (foldi f 0 st (bl s)) := by
  have := fold_loop (E := fun _ => True) I f (fun x => fin (ob x)) (fun k x i st => l k (ob x) i st) hn (fun k p a r st _ hI h1 h2 h3 h4 => hc k p a r st hI h1 (by rw [ob_size]; exact h2) h3 h4) (bl s) st (fun _ _ => trivial) hI (by rw [bl_length]; exact hB) k (by rw [bl_length]; exact hk)
  rw [ob_bl] at this
  exact this
/-- fold_loop, of one row: the rounds may look at it as a whole -/
theorem fold_fix {α σ ρ : Type} {E : α → Prop} (I : List α → σ → Prop) (f : Nat → σ → α → σ) (fin : σ → Option ρ) (l : Nat → Int → σ → Option ρ) (xs : List α)
    (hn : ∀ k st, I xs st → l (k + 1) xs.length st = fin st)
    (hc : ∀ k p a r st, xs = p ++ a :: r → E a → I p st → (0 : Int) ≤ (p.length : Int) → (p.length : Int) < (xs.length : Int) → p.length < 140737488355328 → IntKind.i64.wrap ((p.length : Int) + 1) = (p.length : Int) + 1 → (∀ z, xs.getD p.length z = a) →
      I (p ++ [a]) (f p.length st a) ∧ l (k + 1) p.length st = l k ((p.length : Int) + 1) (f p.length st a))
    (st : σ) (hE : ∀ x ∈ xs, E x) (hI : I [] st) (hB : xs.length ≤ 140737488355328) (k : Nat) (hk : xs.length < k) :
    I xs (foldi f 0 st xs) ∧ l k 0 st = fin (foldi f 0 st xs) := by
  have key : ∀ (r p : List α) (k : Nat) (st : σ), xs = p ++ r → (∀ x ∈ r, E x) → I p st → r.length < k → I xs (foldi f p.length st r) ∧ l k p.length st = fin (foldi f p.length st r) := by
    intro r
    induction r with
    | nil =>
      intro p k st hx _ hI hk
      obtain ⟨k, rfl⟩ : ∃ j, k = j + 1 := ⟨k - 1, by omega⟩
      rw [List.append_nil] at hx
      subst hx; exact ⟨hI, hn k st hI⟩
    | cons a r ih =>
      intro p k st hx he hI hk
      simp only [List.length_cons] at hk
      obtain ⟨k, rfl⟩ : ∃ j, k = j + 1 := ⟨k - 1, by omega⟩
      have hm := mid_len p r a
      have hxl : (xs.length : Int) = ((p ++ a :: r).length : Int) := by rw [hx]
      obtain ⟨h1, h2⟩ := hc k p a r st hx (he a (by simp)) hI (by omega) (by omega) (by omega) (w64 (by omega) (by omega)) (fun z => by rw [hx, mid_getn])
      have := ih (p ++ [a]) k (f p.length st a) (by rw [hx]; simp) (fun y hy => he y (by simp [hy])) h1 (by omega)
      rw [snoc_len] at this
      rw [h2]
      simpa [foldi] using this
  have := key xs [] k st (by simp) hE hI hk
  simpa using this
/-- the first element that is looked for, and its number -/
def firstOf {α : Type} (P : α → Bool) : Nat → List α → Option (Nat × α)
  | _, [] => none
  | i, a :: r => if P a = true then some (i, a) else firstOf P (i + 1) r
theorem find_loop {α ρ : Type} {E : α → Prop} (P : α → Bool) (hit : Nat → α → Option ρ) (fin : List α → Option ρ) (l : Nat → List α → Int → Option ρ)
    (hn : ∀ k p, l (k + 1) p p.length = fin p)
    (hc : ∀ k p a r, E a → (0 : Int) ≤ (p.length : Int) → (p.length : Int) < ((p ++ a :: r).length : Int) → p.length < 140737488355328 → IntKind.i64.wrap ((p.length : Int) + 1) = (p.length : Int) + 1 → l (k + 1) (p ++ a :: r) p.length = if P a = true then hit p.length a else l k (p ++ a :: r) ((p.length : Int) + 1))
    (xs : List α) (hE : ∀ x ∈ xs, E x) (hB : xs.length ≤ 140737488355328) (k : Nat) (hk : xs.length < k) : l k xs 0 = (firstOf P 0 xs).elim (fin xs) (fun x => hit x.1 x.2) := by
  have key : ∀ (r p : List α) (k : Nat), p.length + r.length ≤ 140737488355328 → (∀ x ∈ r, E x) → r.length < k → l k (p ++ r) p.length = (firstOf P p.length r).elim (fin (p ++ r)) (fun x => hit x.1 x.2) := by
    intro r
    induction r with
    | nil =>
      intro p k _ _ hk
      obtain ⟨k, rfl⟩ : ∃ j, k = j + 1 := ⟨k - 1, by omega⟩
      rw [List.append_nil, hn]; rfl
    | cons a r ih =>
      intro p k hb he hk
      simp only [List.length_cons] at hk hb
      obtain ⟨k, rfl⟩ : ∃ j, k = j + 1 := ⟨k - 1, by omega⟩
      have hm := mid_len p r a
      rw [hc k p a r (he a (by simp)) (by omega) (by omega) (by omega) (w64 (by omega) (by omega))]
      have := ih (p ++ [a]) k (by simp; omega) (fun y hy => he y (by simp [hy])) (by omega)
      rw [mid_snoc, snoc_len] at this
      rw [this]
      cases h : P a <;> simp [h, firstOf]
  have := key xs [] k (by simpa using hB) hE hk
  simpa using this
end Go.Pl

namespace Go.Pl
open Go.Ev
set_option linter.unusedVariables false
set_option linter.unusedSimpArgs false
theorem markText_some (n : Int) (h0 : 0 ≤ n) (h1 : n ≤ 100000000000000) : ∃ t, laws_markText.f n = some t := by
  have key : ∀ (m : Nat) (n : Int) (out : ByteArray) (k : Nat), 0 ≤ n → n ≤ m → (out.size : Int) + n ≤ 1000000000000000 → m < k → ∃ t, laws_markText.l4 NN k n out = some t := by
    intro m
    induction m with
    | zero =>
      intro n out k h0 h1 h2 hk
      obtain ⟨k, rfl⟩ : ∃ j, k = j + 1 := ⟨k - 1, by omega⟩
      obtain rfl : n = 0 := by omega
      have z : (⟨#[109]⟩ : ByteArray).size = 1 := rfl
      exact ⟨_, by
        simp only [laws_markText.l4, laws_markText.g4]
        rw [if_neg (by simp), if_pos (by omega)]⟩
    | succ m ih =>
      intro n out k h0 h1 h2 hk
      obtain ⟨k, rfl⟩ : ∃ j, k = j + 1 := ⟨k - 1, by omega⟩
      by_cases hn : 0 < n
      · have z : (bytesOf [IntKind.u8.wrap (IntKind.i64.wrap (48 + n.tmod 10))]).size = 1 := rfl
        have hd : n.tdiv 10 = n / 10 := Int.tdiv_eq_ediv_of_nonneg h0
        have hw := w64 (n := n.tdiv 10) (by omega) (by omega)
        obtain ⟨t, ht⟩ := ih (n.tdiv 10) (bytesOf [IntKind.u8.wrap (IntKind.i64.wrap (48 + n.tmod 10))] ++ out) k (by omega) (by omega) (by rw [ByteArray.size_append, z]; omega) (by omega)
        refine ⟨t, ?_⟩
        simp only [laws_markText.l4, laws_markText.g4]
        rw [if_pos (by simpa using hn), if_pos (by omega), hw]
        exact ht
      · have z : (⟨#[109]⟩ : ByteArray).size = 1 := rfl
        exact ⟨_, by
          simp only [laws_markText.l4, laws_markText.g4]
          rw [if_neg (by simpa using hn), if_pos (by omega)]⟩
  unfold laws_markText.f laws_markText.fn laws_markText.top
  by_cases hn : n ≤ 0
  · exact ⟨_, by rw [if_pos (by simpa using hn)]⟩
  · rw [if_neg (by simpa using hn)]
    exact key n.toNat n ⟨#[]⟩ NN h0 (by omega) (by rw [show (⟨#[]⟩ : ByteArray).size = 0 from rfl]; omega) (NN_lt (by omega))
end Go.Pl

namespace Go.Pl
open Go.Ev
set_option linter.unusedVariables false
set_option linter.unusedSimpArgs false
theorem laws_markBookingS_ok (a : List (Int × ByteArray × Int)) (ha : Lm OkBooking a) (n : Int) (h0 : 0 ≤ n) (h1 : n ≤ 1000000000000) : ∃ n' a', laws_markBookingS.f a n = some (n', a') ∧ laws_heldBookingS.f a' n = some n' ∧ n ≤ n' ∧ n' ≤ n + 3000000 := by
  have := mark_held (Q := OkBooking) (fun k a n i => laws_markBookingS.l2 NN k n i a) (fun k a n i => laws_heldBookingS.l2 NN k a n i) 3 2000000000000 ?_ ?_ ?_ a ha n h0 (by omega) NN NN (NN_lt (by omega)) (NN_lt (by omega))
  · obtain ⟨n1, a1, e1, e2, e3, e4⟩ := this
    exact ⟨n1, a1, e1, e2, e3, by omega⟩
  · intro k p n
    show laws_markBookingS.g2 (laws_markBookingS.l2 NN k) n p.length p = _
    unfold laws_markBookingS.g2
    simp
  · intro k p n
    show laws_heldBookingS.g2 (laws_heldBookingS.l2 NN k) p n p.length = _
    unfold laws_heldBookingS.g2
    simp
  · intro x hx n n0 n1
    obtain ⟨t1, ht1⟩ := markText_some (n + 1) (by omega) (by omega)
    have wk : ∀ i : Int, 0 ≤ i → i ≤ 3000000000000 → IntKind.i64.wrap i = i := fun i h h2 => w64 (by omega) (by omega)
    refine ⟨(n, t1, ((n + 1) + 1)), (((n + 1) + 1) + 1), by omega, by omega, fun k p r hb => ?_, fun k p r hb => ?_⟩
    · show laws_markBookingS.g2 (laws_markBookingS.l2 NN k) n p.length (p ++ x :: r) = _
      unfold laws_markBookingS.g2
      have c1 : ∀ y, (p.length : Int) < ((p ++ y :: r).length : Int) := fun y => by have := mid_len p r y; omega
      have c0 : (0 : Int) ≤ (p.length : Int) := by omega
      have cw := w64 (n := (p.length : Int) + 1) (by omega) (by omega)
      have q0 := wk (n + 1) (by omega) (by omega)
      have q1 := wk ((n + 1) + 1) (by omega) (by omega)
      have q2 := wk (((n + 1) + 1) + 1) (by omega) (by omega)
      have u0 := wk n (by omega) (by omega)
      have u1 := wk (n + 1) (by omega) (by omega)
      have u2 := wk ((n + 1) + 1) (by omega) (by omega)
      simp only [c0, c1, and_self, decide_true, if_true, mid_get, mid_set, cw, Option.bind_some, bne_self_eq_false, beq_self_eq_true, Bool.not_true, Bool.false_eq_true, if_false, ht1, q0, q1, q2, u0]
    · show laws_heldBookingS.g2 (laws_heldBookingS.l2 NN k) (p ++ (n, t1, ((n + 1) + 1)) :: r) n p.length = _
      unfold laws_heldBookingS.g2
      have c1 : ∀ y, (p.length : Int) < ((p ++ y :: r).length : Int) := fun y => by have := mid_len p r y; omega
      have c0 : (0 : Int) ≤ (p.length : Int) := by omega
      have cw := w64 (n := (p.length : Int) + 1) (by omega) (by omega)
      have q0 := wk (n + 1) (by omega) (by omega)
      have q1 := wk ((n + 1) + 1) (by omega) (by omega)
      have q2 := wk (((n + 1) + 1) + 1) (by omega) (by omega)
      have u0 := wk n (by omega) (by omega)
      have u1 := wk (n + 1) (by omega) (by omega)
      have u2 := wk ((n + 1) + 1) (by omega) (by omega)
      simp only [c0, c1, and_self, decide_true, if_true, mid_get, mid_set, cw, Option.bind_some, bne_self_eq_false, beq_self_eq_true, Bool.not_true, Bool.false_eq_true, if_false, ht1, q0, q1, q2, u0]
end Go.Pl

namespace Go.Pl
open Go.Ev
set_option linter.unusedVariables false
set_option linter.unusedSimpArgs false
theorem laws_szBooking_ok (a : Int × ByteArray × Int) (left : Int) (h0 : -1000000000000000 ≤ left) (h1 : left ≤ 1000000) (ha : PlBooking a) : ∃ s, laws_szBooking.f a left = some s ∧ s ≤ 1000000 ∧ (0 ≤ s → s ≤ left ∧ OkBooking a) := by
  unfold laws_szBooking.f laws_szBooking.fn laws_szBooking.top
  have hz1 : a.2.1.size ≤ 140737488355328 := ha.2.1
  have hw1 := w64 (n := left - (a.2.1.size : Int)) (by omega) (by omega)
  simp only [hw1]
  by_cases hn1 : left - (a.2.1.size : Int) < 0
  · exact ⟨-1, by simp [hn1], by omega, by omega⟩
  simp only [hn1, decide_false, Bool.false_eq_true, if_false]
  exact ⟨_, rfl, by omega, fun h => ⟨by omega, ha.1, (by unfold Sm; omega), ha.2.2⟩⟩
end Go.Pl

namespace Go.Pl
open Go.Ev
set_option linter.unusedVariables false
set_option linter.unusedSimpArgs false
theorem laws_szBookingS_ok (a : List (Int × ByteArray × Int)) (left : Int) (h0 : -1000000000000000 ≤ left) (h1 : left ≤ 1000000) (ha : Ls PlBooking a) : ∃ s, laws_szBookingS.f a left = some s ∧ s ≤ 1000000 ∧ (0 ≤ s → s ≤ left ∧ Lm OkBooking a) := by
  unfold laws_szBookingS.f laws_szBookingS.fn laws_szBookingS.top
  have hl : a.length ≤ 140737488355328 := ha.1
  have hw := w64 (n := left - (a.length : Int)) (by omega) (by omega)
  simp only [hw]
  by_cases hn : left - (a.length : Int) < 0
  · exact ⟨-1, by simp [hn], by omega, by omega⟩
  · simp only [hn, decide_false, Bool.false_eq_true, if_false]
    have := szS_loop (Q := PlBooking) (R := OkBooking) (fun k a left i => laws_szBookingS.l5 NN k a left i) ?_ ?_ a NN (left - (a.length : Int)) (by omega) (by omega) ha (NN_lt (by omega))
    · obtain ⟨s, s1, s2, s3⟩ := this
      exact ⟨s, s1, by omega, fun h => ⟨by have := (s3 h).1; omega, by omega, (s3 h).2⟩⟩
    · intro k p left
      show laws_szBookingS.g5 (laws_szBookingS.l5 NN k) p left p.length = _
      unfold laws_szBookingS.g5
      simp
    · intro x hx left l0 l1
      obtain ⟨s, s1, s2, s3⟩ := laws_szBooking_ok x left l0 l1 hx
      refine ⟨s, s2, s3, fun k p r hb => ?_⟩
      show laws_szBookingS.g5 (laws_szBookingS.l5 NN k) (p ++ x :: r) left p.length = _
      unfold laws_szBookingS.g5
      have hl := mid_len p r x
      have c1 : (p.length : Int) < ((p ++ x :: r).length : Int) := by omega
      have c0 : (0 : Int) ≤ (p.length : Int) := by omega
      have cw := w64 (n := (p.length : Int) + 1) (by omega) (by omega)
      simp only [c0, c1, and_self, decide_true, if_true, mid_get, s1, Option.bind_some, cw, decide_eq_true_eq]
end Go.Pl

namespace Go.Pl
open Go.Ev
set_option linter.unusedVariables false
set_option linter.unusedSimpArgs false
theorem roomBehind_le (n : Int) (h0 : 0 ≤ n) : ∃ r, laws_roomBehind.f n = some r ∧ 0 ≤ r ∧ (r ≤ n ∨ r = 1) := by
  unfold laws_roomBehind.f laws_roomBehind.fn laws_roomBehind.top
  split
  · exact ⟨0, rfl, by omega, by omega⟩
  · split
    · exact ⟨1, rfl, by omega, .inr rfl⟩
    · exact ⟨n, rfl, h0, .inl (by omega)⟩
theorem roomv1 : room 1 = 140737488355328 := by decide
theorem roomv8 : room 8 = 17592186044416 := by decide
theorem roomv16 : room 16 = 8796093022208 := by decide
theorem roomv24 : room 24 = 5864062014805 := by decide
theorem roomv32 : room 32 = 4398046511104 := by decide
theorem roomv40 : room 40 = 3518437208883 := by decide
theorem roomv48 : room 48 = 2932031007402 := by decide
theorem roomv56 : room 56 = 2513169434916 := by decide
theorem roomv64 : room 64 = 2199023255552 := by decide
theorem roomv72 : room 72 = 1954687338268 := by decide
theorem roomv80 : room 80 = 1759218604441 := by decide
theorem roomv88 : room 88 = 1599289640401 := by decide
theorem roomv96 : room 96 = 1466015503701 := by decide
theorem roomv104 : room 104 = 1353245080339 := by decide
theorem roomv112 : room 112 = 1256584717458 := by decide
theorem roomv120 : room 120 = 1172812402961 := by decide
theorem roomv128 : room 128 = 1099511627776 := by decide
end Go.Pl

namespace Go.Pl
open Go.Ev
set_option linter.unusedVariables false
set_option linter.unusedSimpArgs false
theorem laws_toBooking_ok (a : Int × ByteArray × Int) : laws_toBooking.f a = some a := rfl
end Go.Pl

namespace Go.Pl
open Go.Ev
set_option linter.unusedVariables false
set_option linter.unusedSimpArgs false
theorem laws_toBookingS_ok (a : List (Int × ByteArray × Int)) (ha : Lm OkBooking a) (bare : Bool) : ∃ fil, laws_toBookingS.f a bare = some (a, fil) ∧ (bare = false → laws_roomBehind.f a.length = some (fil.length : Int)) ∧ fil.length ≤ 1000001 ∧ ∀ x ∈ fil, (fun _ => True) x := by
  have hl : a.length ≤ 1000000 := ha.1
  obtain ⟨r, h1, h2, h3⟩ := roomBehind_le a.length (by omega)
  have hw := w64 (n := (a.length : Int) + r) (by omega) (by omega)
  have c1 : (0 : Int) ≤ a.length + r ∧ (a.length : Int) + r < (room 32 : Nat) ∧ (a.length : Int) + r = a.length + r := by rw [roomv32]; omega
  have key : ∃ fil, laws_toBookingS.l5 NN NN a 0 (List.replicate ((a.length : Int) + r).toNat (0, (ByteArray.empty, 0))) = some (a, fil) ∧ fil.length = ((a.length : Int) + r).toNat - a.length ∧ ∀ x ∈ fil, (fun _ => True) x := by
    have := toS_loop (Z := fun _ => True) (R := OkBooking) (fun k a i out => laws_toBookingS.l5 NN k a i out) (fun k a i out => laws_toBookingS.l9 NN k a i out) ?_ ?_ ?_ ?_ a (List.replicate ((a.length : Int) + r).toNat (0, (ByteArray.empty, 0))) NN ha.2 (by rw [List.length_replicate]; omega) (by rw [List.length_replicate]; omega) (NN_lt (by omega))
    · simpa using this
    · intro k a out h
      show laws_toBookingS.g9 (laws_toBookingS.l9 NN k) a out.length out = _
      unfold laws_toBookingS.g9
      have c2 : (0 : Int) ≤ (a.length : Int) := by omega
      simp [h]
    · intro k a i out hi hb
      have d1 : (i : Int) < (out.length : Int) := by omega
      have d0 : (0 : Int) ≤ (i : Int) := by omega
      have dw := w64 (n := (i : Int) + 1) (by omega) (by omega)
      have e : laws_toBookingS.g9 (laws_toBookingS.l9 NN k) a i out = laws_toBookingS.l9 NN k a ((i : Int) + 1) (out.set i ((-7000000000000000101), ((⟨#[126, 115, 112, 97, 114, 101, 126]⟩ : ByteArray), (-7000000000000000101)))) := by
        unfold laws_toBookingS.g9
        simp only [d0, d1, and_self, decide_true, if_true, dw, Int.toNat_natCast, laws_fillerBooking.f, laws_fillerBooking.fn, laws_fillerBooking.top, Option.bind_some]
      exact ⟨_, trivial, e⟩
    · intro k a out
      show laws_toBookingS.g5 (laws_toBookingS.l9 NN NN) (laws_toBookingS.l5 NN k) a a.length out = _
      unfold laws_toBookingS.g5
      simp
    · intro k p r x q s y hx hpq hb hb2
      have hm := mid_len p r x
      have hm2 := mid_len q s y
      have d1 : (p.length : Int) < ((p ++ x :: r).length : Int) := by omega
      have d2 : (q.length : Int) < ((q ++ y :: s).length : Int) := by omega
      have d0 : (0 : Int) ≤ (q.length : Int) := by omega
      have dw := w64 (n := (q.length : Int) + 1) (by omega) (by omega)
      have g := mid_get p r x (0, (ByteArray.empty, 0))
      show laws_toBookingS.g5 (laws_toBookingS.l9 NN NN) (laws_toBookingS.l5 NN k) (p ++ x :: r) p.length (q ++ y :: s) = laws_toBookingS.l5 NN k (p ++ x :: r) ((p.length : Int) + 1) (q ++ x :: s)
      unfold laws_toBookingS.g5
      rw [hpq] at d1 g ⊢
      have e5 := hpq
      simp only [d0, d1, d2, and_self, decide_true, if_true, g, laws_toBooking_ok, Option.bind_some, dw, mid_set]
  obtain ⟨fil, k1, k2, k3⟩ := key
  have k4 : (fil.length : Int) = r := by omega
  unfold laws_toBookingS.f laws_toBookingS.fn laws_toBookingS.top
  simp only [h1, Option.bind_some, hw, c1, and_self, if_true]
  by_cases hb : bare = true
  · simp only [hb, if_true]
    by_cases he : a = []
    · subst he
      exact ⟨[], by simp, by simp, by simp, by simp⟩
    · have : ((a.length : Int) == 0) = false := by simpa using he
      simp only [this, Bool.false_eq_true, if_false]
      exact ⟨fil, by first | exact k1 | (rw [hb] at k1; exact k1), by simp, by omega, k3⟩
  · simp only [hb, Bool.false_eq_true, if_false]
    exact ⟨fil, by first | exact k1 | (rw [Bool.not_eq_true] at hb; rw [hb] at k1; exact k1), fun _ => by rw [k4], by omega, k3⟩
theorem laws_intactBookingS_self (a fil : List (Int × ByteArray × Int)) (ha : Lm OkBooking a) (h1 : laws_roomBehind.f a.length = some (fil.length : Int)) (h2 : fil.length ≤ 1000001) (h3 : ∀ x ∈ fil, (fun _ => True) x) : laws_intactBookingS.f (a, fil) (a, fil) = some true := by
  have hl : a.length ≤ 1000000 := ha.1
  unfold laws_intactBookingS.f laws_intactBookingS.fn laws_intactBookingS.top
  have hw := w64 (n := (a.length : Int) + (fil.length : Int)) (by omega) (by omega)
  have c1 : (0 : Int) ≤ a.length + fil.length ∧ (a.length : Int) + fil.length ≤ ((a ++ fil).length : Nat) := by rw [List.length_append]; omega
  simp only [h1, Option.bind_some, hw, beq_self_eq_true, if_true, c1, and_self]
  rw [laws_eqBookingS_self _ (by rw [List.length_take, List.length_append]; omega)]
  rfl
theorem laws_toBookingS_both (a : List (Int × ByteArray × Int)) (ha : Lm OkBooking a) : ∃ f : Bool → List (Int × ByteArray × Int), (∀ bare, laws_toBookingS.f a bare = some (a, f bare)) ∧ laws_intactBookingS.f (a, f false) (a, f false) = some true := by
  obtain ⟨f1, a1, a2, a3, a4⟩ := laws_toBookingS_ok a ha false
  obtain ⟨f2, b1, b2, b3, b4⟩ := laws_toBookingS_ok a ha true
  refine ⟨fun bare => if bare = true then f2 else f1, fun bare => ?_, ?_⟩
  · cases bare
    · simpa using a1
    · simpa using b1
  · simpa using laws_intactBookingS_self a f1 ha (a2 rfl) a3 a4
end Go.Pl

namespace Go.Pl
open Go.Ev
set_option linter.unusedVariables false
set_option linter.unusedSimpArgs false
/-- words in order -/
def ltW (a b : ByteArray) : Bool := Op.bytesLess a.toList b.toList
theorem lessL_trans : ∀ (x y z : List UInt8), Op.bytesLess x y = true → Op.bytesLess y z = true → Op.bytesLess x z = true := by
  intro x
  induction x with
  | nil =>
    intro y z h1 h2
    cases z with
    | nil => cases y <;> simp [Op.bytesLess] at h2
    | cons c z => rfl
  | cons a x ih =>
    intro y z h1 h2
    cases y with
    | nil => simp [Op.bytesLess] at h1
    | cons b y =>
      cases z with
      | nil => simp [Op.bytesLess] at h2
      | cons c z =>
        simp only [Op.bytesLess, Bool.or_eq_true, Bool.and_eq_true, decide_eq_true_eq, beq_iff_eq, UInt8.lt_iff_toNat_lt] at h1 h2 ⊢
        rcases h1 with h1 | ⟨rfl, h1⟩
        · rcases h2 with h2 | ⟨rfl, h2⟩
          · left; omega
          · left; exact h1
        · rcases h2 with h2 | ⟨rfl, h2⟩
          · left; exact h2
          · right; exact ⟨rfl, ih y z h1 h2⟩
theorem lessL_irr : ∀ (x : List UInt8), Op.bytesLess x x = false := by
  intro x
  induction x with
  | nil => rfl
  | cons a x ih => simp [Op.bytesLess, ih]
theorem lessL_tot : ∀ (x y : List UInt8), Op.bytesLess x y = true ∨ x = y ∨ Op.bytesLess y x = true := by
  intro x
  induction x with
  | nil => intro y; cases y; exact .inr (.inl rfl); exact .inl rfl
  | cons a x ih =>
    intro y
    cases y with
    | nil => exact .inr (.inr rfl)
    | cons b y =>
      simp only [Op.bytesLess, Bool.or_eq_true, Bool.and_eq_true, decide_eq_true_eq, beq_iff_eq, UInt8.lt_iff_toNat_lt, List.cons.injEq]
      by_cases h : a = b
      · subst h
        rcases ih y with h | h | h
        · exact .inl (.inr ⟨rfl, h⟩)
        · exact .inr (.inl ⟨rfl, h⟩)
        · exact .inr (.inr (.inr ⟨rfl, h⟩))
      · have h' : a.toNat ≠ b.toNat := fun e => h (UInt8.toNat_inj.1 e)
        rcases Nat.lt_or_gt_of_ne h' with h | h
        · exact .inl (.inl h)
        · exact .inr (.inr (.inl h))
theorem ltW_trans {a b c : ByteArray} (h1 : ltW a b = true) (h2 : ltW b c = true) : ltW a c = true := lessL_trans _ _ _ h1 h2
theorem ltW_irr (a : ByteArray) : ltW a a = false := lessL_irr _
theorem ltW_ne {a b : ByteArray} (h : ltW a b = true) : a ≠ b := fun e => by subst e; rw [ltW_irr] at h; cases h
theorem ltW_asym {a b : ByteArray} (h : ltW a b = true) : ltW b a = false := by
  cases h2 : ltW b a
  · rfl
  · exact absurd (ltW_trans h h2) (by rw [ltW_irr]; simp)
theorem ltW_tot (a b : ByteArray) : ltW a b = true ∨ a = b ∨ ltW b a = true := by
  rcases lessL_tot a.toList b.toList with h | h | h
  · exact .inl h
  · exact .inr (.inl (ba_toList.1 h))
  · exact .inr (.inr h)
theorem ltW_not {a b : ByteArray} (h1 : ltW a b = false) (h2 : a ≠ b) : ltW b a = true := by
  rcases ltW_tot a b with h | h | h
  · rw [h1] at h; cases h
  · exact absurd h h2
  · exact h
end Go.Pl

namespace Go.Pl
open Go.Ev
set_option linter.unusedVariables false
set_option linter.unusedSimpArgs false
def SrtW (xs : List ByteArray) : Prop := xs.Pairwise fun a b => ltW a b = true
/-- a word put in at its place, once -/
def insW (w : ByteArray) : List ByteArray → List ByteArray
  | [] => [w]
  | a :: r => if ltW a w = true then a :: insW w r else if a = w then a :: r else w :: a :: r
theorem insW_mid {w : ByteArray} {r : List ByteArray} : ∀ {p : List ByteArray}, (∀ x ∈ p, ltW x w = true) → insW w (p ++ r) = p ++ insW w r := by
  intro p
  induction p with
  | nil => intro _; rfl
  | cons a p ih => intro h; simp only [List.cons_append, insW, h a (by simp), if_true]; rw [ih fun x hx => h x (by simp [hx])]
theorem insW_up {w : ByteArray} {r : List ByteArray} (h : ∀ x ∈ r, ltW w x = true) : insW w r = w :: r := by
  cases r with
  | nil => rfl
  | cons a r =>
    have h1 := h a (by simp)
    simp only [insW, ltW_asym h1, Bool.false_eq_true, if_false]
    rw [if_neg fun e => ltW_ne h1 e.symm]
theorem insW_here {w : ByteArray} {r : List ByteArray} : insW w (w :: r) = w :: r := by simp [insW, ltW_irr]
theorem mem_insW {w x : ByteArray} : ∀ {xs : List ByteArray}, x ∈ insW w xs ↔ x = w ∨ x ∈ xs := by
  intro xs
  induction xs with
  | nil => simp [insW]
  | cons a r ih =>
    simp only [insW]
    split
    · simp only [List.mem_cons, ih]
      constructor
      · rintro (h | h | h) <;> simp [h]
      · rintro (h | h | h) <;> simp [h]
    · split
      · rename_i h; subst h; simp
      · simp
theorem insW_srt {w : ByteArray} : ∀ {xs : List ByteArray}, SrtW xs → SrtW (insW w xs) := by
  intro xs
  induction xs with
  | nil => intro _; exact List.pairwise_singleton _ _
  | cons a r ih =>
    intro hs
    obtain ⟨h1, h2⟩ := List.pairwise_cons.1 hs
    simp only [insW]
    split
    · rename_i h
      refine List.pairwise_cons.2 ⟨fun x hx => ?_, ih h2⟩
      rcases mem_insW.1 hx with rfl | hx
      · exact h
      · exact h1 x hx
    · rename_i h
      split
      · exact hs
      · rename_i he
        have hlt : ltW w a = true := ltW_not (by simpa using h) he
        refine List.pairwise_cons.2 ⟨fun x hx => ?_, hs⟩
        rcases List.mem_cons.1 hx with rfl | hx
        · exact hlt
        · exact ltW_trans hlt (h1 x hx)
theorem insW_len (w : ByteArray) : ∀ (xs : List ByteArray), (insW w xs).length ≤ xs.length + 1 := by
  intro xs
  induction xs with
  | nil => simp [insW]
  | cons a r ih =>
    simp only [insW]
    split
    · simp only [List.length_cons]; omega
    · split <;> simp
theorem room16n {n : Nat} (h : n ≤ 2000000) : n < room 16 := by rw [room16]; omega
def hitW (w : ByteArray) (xs : List ByteArray) (i : Nat) (a : ByteArray) : List ByteArray := if a = w then xs else xs.take i ++ w :: xs.drop i
theorem insW_first (w : ByteArray) : ∀ (r p : List ByteArray), p ++ insW w r = (firstOf (fun a => !ltW a w) p.length r).elim (p ++ r ++ [w]) (fun x => hitW w (p ++ r) x.1 x.2) := by
  intro r
  induction r with
  | nil => intro p; simp [insW, firstOf]
  | cons l r ih =>
    intro p
    have := ih (p ++ [l])
    simp only [insW, firstOf]
    by_cases h : ltW l w = true
    · simp only [h, if_true, Bool.not_true, Bool.false_eq_true, if_false]
      simp only [List.length_append, List.length_singleton, List.append_assoc, List.singleton_append] at this ⊢
      exact this
    · simp only [Bool.not_eq_true] at h
      simp only [h, Bool.false_eq_true, if_false, Bool.not_false, if_true, Option.elim, hitW]
      by_cases h2 : l = w <;> simp [h2]
theorem spec_l20Insert_f (xs : List ByteArray) (w : ByteArray) (h : xs.length ≤ 1000000) : spec_l20Insert.f xs w = some (insW w xs) := by
  have := find_loop (E := fun _ => True) (fun a => !ltW a w) (fun i a => some (hitW w xs i a)) (fun p => some (p ++ [w])) (fun k p i => if p = xs then spec_l20Insert.l2 NN k w i p else (firstOf (fun a => !ltW a w) i.toNat (p.drop i.toNat)).elim (some (p ++ [w])) (fun x => some (hitW w xs x.1 x.2))) ?_ ?_ xs (fun _ _ => trivial) (by omega) NN (NN_lt (by omega))
  · rw [if_pos rfl] at this
    unfold spec_l20Insert.f spec_l20Insert.fn spec_l20Insert.top
    rw [this]
    have h2 := insW_first w xs []
    simp only [List.nil_append, List.length_nil] at h2
    rw [h2]
    cases firstOf (fun a => !ltW a w) 0 xs <;> rfl
  · intro k p
    by_cases hp : p = xs
    · subst hp
      rw [if_pos rfl]
      have q0 : (0 : Int) ≤ (p.length : Int) := by omega
      simp only [spec_l20Insert.l2, spec_l20Insert.g2, Int.lt_irrefl, and_self, and_true, true_and, decide_true, decide_false, if_true, if_false, mid_get, mid_set, mid_getn, mid_setn, bt_mid, Option.bind_some, Bool.not_true, Bool.not_false, Bool.false_eq_true, Bool.true_eq_false, beq_self_eq_true, bne_self_eq_false, Int.toNat_natCast, Int.le_refl, q0, List.take_length, List.drop_length, List.nil_append, List.append_nil]
      rw [if_pos (room16n (by simp; omega)), if_pos (room16n (by simp; omega)), if_pos (room16n (by simp; omega))]
    · rw [if_neg hp]; simp [firstOf]
  · intro k p l r _ c0 c1 c2 cw
    by_cases hp : p ++ l :: r = xs
    · rw [if_pos hp, if_pos hp, hp]
      have c1' : (p.length : Int) < (xs.length : Int) := by rw [← hp]; exact c1
      have g : ∀ z, xs.getD p.length z = l := fun z => by rw [← hp, mid_getn]
      have c3 : (p.length : Int) ≤ (xs.length : Int) := by omega
      simp only [spec_l20Insert.l2, spec_l20Insert.g2, c0, c1', c3, cw, and_self, and_true, true_and, decide_true, decide_false, if_true, if_false, mid_get, mid_set, mid_getn, mid_setn, bt_mid, Option.bind_some, Bool.not_true, Bool.not_false, Bool.false_eq_true, Bool.true_eq_false, beq_self_eq_true, bne_self_eq_false, Int.toNat_natCast, g]
      rw [show Op.bytesLess l.toList w.toList = ltW l w from rfl, ba_beq]
      cases h1 : ltW l w
      · simp only [Bool.false_eq_true, if_false, Bool.not_false, if_true, hitW, decide_eq_true_eq]
        by_cases h2 : l = w
        · simp only [h2, if_true]
        · simp only [h2, if_false, List.nil_append]
          rw [if_pos (room16n (by simp; omega)), if_pos (room16n (by simp; omega)), if_pos (room16n (by simp; omega))]
          simp
      · simp
    · rw [if_neg hp, if_neg hp]
      have t1 : ((p.length : Int) + 1).toNat = p.length + 1 := by omega
      rw [t1, Int.toNat_natCast, List.drop_left, show p ++ l :: r = (p ++ [l]) ++ r by simp, show p.length + 1 = (p ++ [l]).length by simp, List.drop_left]
      simp only [firstOf]
      by_cases h1 : ltW l w = true
      · simp only [h1, Bool.not_true, Bool.false_eq_true, if_false, List.length_append, List.length_singleton]
      · simp only [Bool.not_eq_true] at h1
        simp only [h1, Bool.not_false, if_true, Option.elim]
theorem copy_ins {α : Type} (q s : List α) (e w : α) : (copyL (q ++ s ++ [e]) (q.length + 1) q.length).set q.length w = q ++ w :: s := by
  unfold copyL
  have e1 : (q ++ s ++ [e]).drop q.length = s ++ [e] := by rw [List.append_assoc, List.drop_left]
  have e2 : (q ++ s ++ [e]).length - (q.length + 1) = s.length := by simp; omega
  have e3 : q.length + 1 + min ((q ++ s ++ [e]).length - q.length) ((q ++ s ++ [e]).length - (q.length + 1)) = (q ++ s ++ [e]).length := by simp; omega
  have e4 : ∃ h, (q ++ s ++ [e]).take (q.length + 1) = q ++ [h] := by
    cases s with
    | nil => exact ⟨e, by rw [List.append_nil, List.take_of_length_le (by simp)]⟩
    | cons y s =>
      refine ⟨y, ?_⟩
      rw [show q ++ y :: s ++ [e] = (q ++ [y]) ++ (s ++ [e]) by simp, show q.length + 1 = (q ++ [y]).length by simp, List.take_left]
  obtain ⟨h, e4⟩ := e4
  rw [e3, e2, e1, e4, List.drop_length, List.take_left]
  simp
theorem copy_len2 {α : Type} (q s : List α) (e : α) : (copyL (q ++ s ++ [e]) (q.length + 1) q.length).length = q.length + s.length + 1 := by
  have := congrArg List.length (copy_ins q s e e)
  simp only [List.length_set, List.length_append, List.length_cons] at this
  omega
theorem putWord_l (w : ByteArray) : ∀ (n : Nat) (q s : List ByteArray) (k : Nat), q.length = n → SrtW (q ++ s) → (∀ y ∈ s, ltW w y = true) → (q ++ s).length ≤ 1000000 → n < k →
    impl_putWord.l2 NN k w (n : Int) (q ++ s) = some (insW w (q ++ s)) := by
  intro n
  induction n with
  | zero =>
    intro q s k hq hs hu hl hk
    obtain ⟨k, rfl⟩ : ∃ j, k = j + 1 := ⟨k - 1, by omega⟩
    obtain rfl := List.eq_nil_of_length_eq_zero hq
    simp only [List.nil_append] at hl ⊢
    have w1 := w64 (n := ((0 : Nat) : Int) + 1) (by omega) (by omega)
    have hc := copy_ins [] s ⟨#[]⟩ w
    have hcl := copy_len2 [] s (⟨#[]⟩ : ByteArray)
    simp only [List.nil_append, List.length_nil, Nat.zero_add] at hc hcl
    have n1 : ¬ (0 : Int) < ((0 : Nat) : Int) := by omega
    have n2 : (0 : Int) ≤ ((0 : Nat) : Int) := by omega
    have n3 : (0 : Int) ≤ ((0 : Nat) : Int) + 1 := by omega
    have n4 : ((0 : Nat) : Int) + 1 ≤ ((s ++ [(⟨#[]⟩ : ByteArray)]).length : Int) := by simp; omega
    have n5 : ((0 : Nat) : Int) ≤ ((s ++ [(⟨#[]⟩ : ByteArray)]).length : Int) := by omega
    have n6 : ((0 : Nat) : Int) < ((copyL (s ++ [(⟨#[]⟩ : ByteArray)]) 1 0).length : Int) := by rw [hcl]; omega
    have t1 : (((0 : Nat) : Int) + 1).toNat = 1 := rfl
    have hr := room16n (n := s.length + [(⟨#[]⟩ : ByteArray)].length) (by simp; omega)
    simp only [impl_putWord.l2, impl_putWord.g2, n1, n2, n3, n4, n5, n6, w1, t1, hr, and_self, and_true, true_and, decide_true, decide_false, if_true, if_false, mid_get, mid_set, mid_getn, mid_setn, bt_mid, Option.bind_some, Bool.not_true, Bool.not_false, Bool.false_eq_true, Bool.true_eq_false, beq_self_eq_true, bne_self_eq_false, Int.toNat_natCast]
    rw [hc, insW_up hu]
  | succ n ih =>
    intro q s k hq hs hu hl hk
    obtain ⟨k, rfl⟩ : ∃ j, k = j + 1 := ⟨k - 1, by omega⟩
    obtain ⟨q', x, rfl⟩ : ∃ q' x, q = q' ++ [x] := by
      rcases List.eq_nil_or_concat q with h | ⟨q', x, h⟩
      · rw [h] at hq; simp at hq
      · exact ⟨q', x, by rw [h]; simp⟩
    have hq' : q'.length = n := by simpa using hq
    have hll : q'.length + s.length + 1 ≤ 1000000 := by simpa [Nat.add_assoc, Nat.add_comm, Nat.add_left_comm] using hl
    have w1 := w64 (n := ((n + 1 : Nat) : Int) - 1) (by omega) (by omega)
    have w2 := w64 (n := ((n + 1 : Nat) : Int) + 1) (by omega) (by omega)
    have n1 : (0 : Int) < ((n + 1 : Nat) : Int) := by omega
    have n2 : (0 : Int) ≤ ((n + 1 : Nat) : Int) - 1 := by omega
    have n3 : ((n + 1 : Nat) : Int) - 1 < ((q' ++ [x] ++ s).length : Int) := by simp; omega
    have t1 : (((n + 1 : Nat) : Int) - 1).toNat = q'.length := by omega
    have g : ∀ z, (q' ++ [x] ++ s).getD q'.length z = x := fun z => by rw [List.append_assoc, List.singleton_append, mid_getn]
    have e1 : ((n + 1 : Nat) : Int) - 1 = (n : Int) := by omega
    simp only [impl_putWord.l2, impl_putWord.g2, n1, n2, n3, w1, t1, g, and_self, and_true, true_and, decide_true, decide_false, if_true, if_false, mid_get, mid_set, mid_getn, mid_setn, bt_mid, Option.bind_some, Bool.not_true, Bool.not_false, Bool.false_eq_true, Bool.true_eq_false, beq_self_eq_true, bne_self_eq_false, Int.toNat_natCast]
    rw [show Op.bytesLess x.toList w.toList = ltW x w from rfl, ba_beq]
    have hs' : SrtW (q' ++ x :: s) := by simpa using hs
    obtain ⟨p1, p2, p3⟩ := List.pairwise_append.1 hs'
    have hbelow : ∀ y ∈ q', ltW y x = true := fun y hy => p3 y hy x (by simp)
    rcases ltW_tot x w with h | h | h
    · have hne := ltW_ne h
      simp only [h, hne, decide_false, Bool.or_false, Bool.not_true, Bool.false_eq_true, if_false]
      have hc := copy_ins (q' ++ [x]) s ⟨#[]⟩ w
      have hcl := copy_len2 (q' ++ [x]) s (⟨#[]⟩ : ByteArray)
      have hqn : (q' ++ [x]).length = n + 1 := by simp [hq']
      rw [hqn] at hc hcl
      have n4 : (0 : Int) ≤ ((n + 1 : Nat) : Int) + 1 := by omega
      have n5 : ((n + 1 : Nat) : Int) + 1 ≤ ((q' ++ [x] ++ s ++ [(⟨#[]⟩ : ByteArray)]).length : Int) := by simp; omega
      have n6 : (0 : Int) ≤ ((n + 1 : Nat) : Int) := by omega
      have n7 : ((n + 1 : Nat) : Int) ≤ ((q' ++ [x] ++ s ++ [(⟨#[]⟩ : ByteArray)]).length : Int) := by omega
      have t2 : (((n + 1 : Nat) : Int) + 1).toNat = n + 1 + 1 := by omega
      have t3 : ((n + 1 : Nat) : Int).toNat = n + 1 := by omega
      have n8 : ((n + 1 : Nat) : Int) < ((copyL (q' ++ [x] ++ s ++ [(⟨#[]⟩ : ByteArray)]) (n + 1 + 1) (n + 1)).length : Int) := by rw [hcl]; omega
      have hr := room16n (n := (q' ++ [x] ++ s).length + [(⟨#[]⟩ : ByteArray)].length) (by simp; omega)
      simp only [n4, n5, n6, n7, n8, w2, t2, t3, hr, and_self, if_true]
      rw [hc, insW_mid (p := q' ++ [x]) (r := s) (fun y hy => ?_), insW_up hu]
      rcases List.mem_append.1 hy with hy | hy
      · exact ltW_trans (hbelow y hy) h
      · rw [List.mem_singleton.1 hy]; exact h
    · subst h
      simp only [decide_true, Bool.or_true, Bool.not_true, Bool.false_eq_true, if_false, if_true]
      rw [show q' ++ [x] ++ s = q' ++ x :: s by simp, insW_mid hbelow, insW_here]
    · have hne : ¬ x = w := fun e => ltW_ne h e.symm
      simp only [ltW_asym h, hne, decide_false, Bool.or_false, Bool.not_false, if_true]
      rw [e1, show q' ++ [x] ++ s = q' ++ (x :: s) by simp]
      refine ih q' (x :: s) k hq' hs' (fun y hy => ?_) (by simpa [Nat.add_assoc] using hl) (by omega)
      rcases List.mem_cons.1 hy with rfl | hy
      · exact h
      · exact hu y hy
theorem impl_putWord_f (xs : List ByteArray) (w : ByteArray) (hs : SrtW xs) (h : xs.length ≤ 1000000) : impl_putWord.f xs w = some (insW w xs) := by
  have := putWord_l w xs.length xs [] NN rfl (by simpa using hs) (by simp) (by simpa using h) (NN_lt (by omega))
  rw [List.append_nil] at this
  exact this
end Go.Pl

namespace Go.Pl
open Go.Ev
set_option linter.unusedVariables false
set_option linter.unusedSimpArgs false
def inB (n lo hi : Int) : Bool := decide (lo ≤ n) && decide (n ≤ hi)
theorem inB_iff {n lo hi : Int} : inB n lo hi = true ↔ lo ≤ n ∧ n ≤ hi := by unfold inB; simp
theorem impl_within_f (n lo hi : Int) : impl_within.f n lo hi = some (inB n lo hi) := by
  unfold impl_within.f impl_within.fn impl_within.top inB
  by_cases h : lo ≤ n <;> simp [h]
theorem spec_l01In_f (n lo hi : Int) : spec_l01In.f n lo hi = some (inB n lo hi) := by
  unfold spec_l01In.f spec_l01In.fn spec_l01In.top inB
  by_cases h : lo ≤ n <;> simp [h]
/-- a letter -/
def letB (c : UInt8) : Bool := !(decide ((c.toNat : Int) < 97)) && !(decide (122 < (c.toNat : Int)))
def wordB (s : ByteArray) : Bool := decide (1 ≤ s.size) && decide (s.size ≤ 16) && (bl s).all letB
theorem wordB_size {s : ByteArray} (h : wordB s = true) : 1 ≤ s.size ∧ s.size ≤ 16 := by
  unfold wordB at h; simp at h; exact h.1
theorem impl_IsWord_loop (s : ByteArray) (h : s.size ≤ 140737488355328) : impl_IsWord.l4 NN NN s 0 = if (bl s).all letB = true then some true else some false := by
  refine all_loop_str letB (fun s => some true) (fun k s i => impl_IsWord.l4 NN k s i) ?_ ?_ s h NN (NN_lt (by omega))
  · intro k p
    show impl_IsWord.g4 _ (ob p) p.length = _
    simp [impl_IsWord.g4, ob_size, spec_l01In_f]
  · intro k p a r c0 c1 cw
    show impl_IsWord.g4 (impl_IsWord.l4 NN k) (ob (p ++ a :: r)) p.length = _
    simp only [impl_IsWord.g4, c0, c1, cw, and_self, and_true, true_and, decide_true, decide_false, if_true, if_false, mid_get, mid_set, mid_getn, mid_setn, bt_mid, Option.bind_some, Bool.not_true, Bool.not_false, Bool.false_eq_true, Bool.true_eq_false, beq_self_eq_true, bne_self_eq_false, Int.toNat_natCast]
    unfold letB
    by_cases h1 : (a.toNat : Int) < 97 <;> by_cases h2 : (122 : Int) < (a.toNat : Int) <;> simp [h1, h2]
theorem spec_IsWord_loop (s : ByteArray) (h : s.size ≤ 140737488355328) : spec_IsWord.l2 NN NN s 0 = if (bl s).all letB = true then some (inB s.size 1 16) else some false := by
  refine all_loop_str letB (fun s => some (inB s.size 1 16)) (fun k s i => spec_IsWord.l2 NN k s i) ?_ ?_ s h NN (NN_lt (by omega))
  · intro k p
    show spec_IsWord.g2 _ (ob p) p.length = _
    simp [spec_IsWord.g2, ob_size, spec_l01In_f]
  · intro k p a r c0 c1 cw
    show spec_IsWord.g2 (spec_IsWord.l2 NN k) (ob (p ++ a :: r)) p.length = _
    simp only [spec_IsWord.g2, c0, c1, cw, and_self, and_true, true_and, decide_true, decide_false, if_true, if_false, mid_get, mid_set, mid_getn, mid_setn, bt_mid, Option.bind_some, Bool.not_true, Bool.not_false, Bool.false_eq_true, Bool.true_eq_false, beq_self_eq_true, bne_self_eq_false, Int.toNat_natCast]
    unfold letB
    by_cases h1 : (a.toNat : Int) < 97 <;> by_cases h2 : (122 : Int) < (a.toNat : Int) <;> simp [h1, h2]
theorem impl_IsWord_f (s : ByteArray) (h : s.size ≤ 140737488355328) : impl_IsWord.f s = some (wordB s) := by
  unfold impl_IsWord.f impl_IsWord.fn impl_IsWord.top
  rw [impl_IsWord_loop s h]
  unfold wordB
  by_cases h1 : (s.size : Int) < 1
  · have : ¬ 1 ≤ s.size := by omega
    simp [h1, this]
  · have e1 : 1 ≤ s.size := by omega
    by_cases h2 : (16 : Int) < s.size
    · have : ¬ s.size ≤ 16 := by omega
      simp [h1, h2, this]
    · have : s.size ≤ 16 := by omega
      cases h3 : (bl s).all letB <;> simp [h1, h2, this, h3, e1]
theorem spec_IsWord_f (s : ByteArray) (h : s.size ≤ 140737488355328) : spec_IsWord.f s = some (wordB s) := by
  unfold spec_IsWord.f spec_IsWord.fn spec_IsWord.top
  rw [spec_IsWord_loop s h]
  unfold wordB inB
  have e1 : decide ((1 : Int) ≤ s.size) = decide (1 ≤ s.size) := by congr 1; simp; omega
  have e2 : decide ((s.size : Int) ≤ 16) = decide (s.size ≤ 16) := by congr 1; simp; omega
  rw [e1, e2]
  cases h3 : (bl s).all letB <;> simp
end Go.Pl

namespace Go.Pl
open Go.Ev
set_option linter.unusedVariables false
set_option linter.unusedSimpArgs false
/-- a booking that stands -/
def valB (b : Int × ByteArray × Int) : Bool := inB b.1 0 3 && wordB b.2.1 && inB b.2.2 1 1000
def addL (a : ByteArray) (s : Int) (b : Int × ByteArray × Int) : Int := if b.2.1 = a then (if b.1 = 0 then s + b.2.2 else s - b.2.2) else s
def leftOf (xs : List (Int × ByteArray × Int)) (a : ByteArray) : Int := xs.foldl (addL a) 0
theorem leftOf_snoc (p : List (Int × ByteArray × Int)) (b : Int × ByteArray × Int) (a : ByteArray) : leftOf (p ++ [b]) a = addL a (leftOf p a) b := by
  unfold leftOf; rw [List.foldl_append]; rfl
theorem valB_count {b : Int × ByteArray × Int} (h : valB b = true) : 1 ≤ b.2.2 ∧ b.2.2 ≤ 1000 ∧ 0 ≤ b.1 ∧ b.1 ≤ 3 := by
  unfold valB at h
  simp only [Bool.and_eq_true, inB_iff] at h
  omega
theorem leftOf_le (a : ByteArray) (xs : List (Int × ByteArray × Int)) (h : ∀ b ∈ xs, valB b = true) : -(1000 * (xs.length : Int)) ≤ leftOf xs a ∧ leftOf xs a ≤ 1000 * (xs.length : Int) := by
  have key : ∀ (ys : List (Int × ByteArray × Int)) (s : Int), (∀ b ∈ ys, valB b = true) → s - 1000 * (ys.length : Int) ≤ ys.foldl (addL a) s ∧ ys.foldl (addL a) s ≤ s + 1000 * (ys.length : Int) := by
    intro ys
    induction ys with
    | nil => intro s _; simp
    | cons b r ih =>
      intro s hb
      have h1 := ih (addL a s b) (fun x hx => hb x (by simp [hx]))
      have h2 := valB_count (hb b (by simp))
      simp only [List.foldl_cons, List.length_cons]
      have : s - 1000 ≤ addL a s b ∧ addL a s b ≤ s + 1000 := by
        unfold addL; split <;> (try split) <;> omega
      omega
  have := key xs 0 h
  unfold leftOf; omega
theorem spec_l32Left_f (xs rest : List (Int × ByteArray × Int)) (a : ByteArray) (h : ∀ b ∈ xs, valB b = true) (hl : xs.length ≤ 1000000) : spec_l32Left.f (xs ++ rest) a xs.length = some (leftOf xs a) := by
  have := (fold_fix (E := fun b => valB b = true) (fun p s => (∀ b ∈ p, valB b = true) ∧ s = leftOf p a) (fun _ => addL a) some (fun k i s => spec_l32Left.l3 NN k (xs ++ rest) a xs.length s i) xs ?_ ?_ 0 h ⟨by simp, rfl⟩ (by omega) NN (NN_lt (by omega))).2
  · rw [foldi_foldl] at this
    exact this
  · intro k st _
    simp [spec_l32Left.l3, spec_l32Left.g3]
  · intro k p b r st hx hb hI c0 c1 c2 cw g
    obtain ⟨h1, rfl⟩ := hI
    have h2 : ∀ x ∈ p ++ [b], valB x = true := fun x hx => by
      rcases List.mem_append.1 hx with h | h
      · exact h1 x h
      · rw [List.mem_singleton.1 h]; exact hb
    refine ⟨⟨h2, (leftOf_snoc p b a).symm⟩, ?_⟩
    have c3 : (p.length : Int) < ((xs ++ rest).length : Int) := by rw [List.length_append]; omega
    have g' : ∀ z, (xs ++ rest).getD p.length z = b := fun z => by rw [hx]; simp
    have bd := leftOf_le a (p ++ [b]) h2
    rw [leftOf_snoc] at bd
    have hpl : p.length ≤ 1000000 := by omega
    simp only [List.length_append, List.length_cons, List.length_nil] at bd
    simp only [spec_l32Left.l3, spec_l32Left.g3, c0, c1, c3, cw, and_self, and_true, true_and, decide_true, decide_false, if_true, if_false, mid_get, mid_set, mid_getn, mid_setn, bt_mid, Option.bind_some, Bool.not_true, Bool.not_false, Bool.false_eq_true, Bool.true_eq_false, beq_self_eq_true, bne_self_eq_false, Int.toNat_natCast, g', ba_beq]
    unfold addL at bd ⊢
    by_cases ha : b.2.1 = a
    · by_cases hz : b.1 = 0
      · have e := w64 (n := leftOf p a + b.2.2) (by simp only [ha, hz, if_true] at bd; omega) (by simp only [ha, hz, if_true] at bd; omega)
        simp [ha, hz, e]
      · have e := w64 (n := leftOf p a - b.2.2) (by simp only [ha, hz, if_true, if_false] at bd; omega) (by simp only [ha, hz, if_true, if_false] at bd; omega)
        simp [ha, hz, e]
    · simp [ha]
/-- how many of each kind -/
def addT (a : ByteArray) (s : List Int) (b : Int × ByteArray × Int) : List Int := if b.2.1 = a then s.set b.1.toNat (s.getD b.1.toNat 0 + b.2.2) else s
def totL (xs : List (Int × ByteArray × Int)) (a : ByteArray) : List Int := xs.foldl (addT a) [0, 0, 0, 0]
theorem totL_snoc (p : List (Int × ByteArray × Int)) (b : Int × ByteArray × Int) (a : ByteArray) : totL (p ++ [b]) a = addT a (totL p a) b := by
  unfold totL; rw [List.foldl_append]; rfl
theorem totL_shape (a : ByteArray) (xs : List (Int × ByteArray × Int)) (h : ∀ b ∈ xs, valB b = true) : ∃ t0 t1 t2 t3, totL xs a = [t0, t1, t2, t3] ∧ t0 - t1 - t2 - t3 = leftOf xs a ∧ 0 ≤ t0 ∧ 0 ≤ t1 ∧ 0 ≤ t2 ∧ 0 ≤ t3 ∧ t0 + t1 + t2 + t3 ≤ 1000 * (xs.length : Int) := by
  have key : ∀ (n : Nat) (xs : List (Int × ByteArray × Int)), xs.length = n → (∀ b ∈ xs, valB b = true) → ∃ t0 t1 t2 t3, totL xs a = [t0, t1, t2, t3] ∧ t0 - t1 - t2 - t3 = leftOf xs a ∧ 0 ≤ t0 ∧ 0 ≤ t1 ∧ 0 ≤ t2 ∧ 0 ≤ t3 ∧ t0 + t1 + t2 + t3 ≤ 1000 * (xs.length : Int) := by
    intro n
    induction n with
    | zero => intro xs hn _; obtain rfl := List.length_eq_zero_iff.1 hn; exact ⟨0, 0, 0, 0, rfl, rfl, by omega, by omega, by omega, by omega, by simp⟩
    | succ n ih =>
      intro xs hn hb
      rcases List.eq_nil_or_concat xs with rfl | ⟨p, b, rfl⟩
      · simp at hn
      simp only [List.concat_eq_append] at hn hb ⊢
      obtain ⟨t0, t1, t2, t3, e1, e2, e3, e4, e5, e6, e7⟩ := ih p (by simpa using hn) (fun x hx => hb x (by simp [hx]))
      have hv := valB_count (hb b (by simp))
      rw [totL_snoc, leftOf_snoc, e1]
      simp only [List.length_append, List.length_cons, List.length_nil]
      unfold addT addL
      by_cases ha : b.2.1 = a
      · simp only [ha, if_true]
        obtain h | h | h | h : b.1 = 0 ∨ b.1 = 1 ∨ b.1 = 2 ∨ b.1 = 3 := by omega
        · exact ⟨t0 + b.2.2, t1, t2, t3, by simp [h], by simp [h]; omega, by omega, by omega, by omega, by omega, by omega⟩
        · exact ⟨t0, t1 + b.2.2, t2, t3, by simp [h], by simp [h]; omega, by omega, by omega, by omega, by omega, by omega⟩
        · exact ⟨t0, t1, t2 + b.2.2, t3, by simp [h], by simp [h]; omega, by omega, by omega, by omega, by omega, by omega⟩
        · exact ⟨t0, t1, t2, t3 + b.2.2, by simp [h], by simp [h]; omega, by omega, by omega, by omega, by omega, by omega⟩
      · simp only [ha, if_false]
        exact ⟨t0, t1, t2, t3, rfl, by omega, by omega, by omega, by omega, by omega, by omega⟩
  exact key _ xs rfl h
theorem impl_totalsOf_f (xs : List (Int × ByteArray × Int)) (a : ByteArray) (h : ∀ b ∈ xs, valB b = true) (hl : xs.length ≤ 1000000) : impl_totalsOf.f xs a = some (totL xs a) := by
  have := (fold_fix (E := fun b => valB b = true) (fun p s => (∀ b ∈ p, valB b = true) ∧ s = totL p a) (fun _ => addT a) some (fun k i s => impl_totalsOf.l3 NN k a xs xs.length i s) xs ?_ ?_ [0, 0, 0, 0] h ⟨by simp, rfl⟩ (by omega) NN (NN_lt (by omega))).2
  · rw [foldi_foldl] at this
    unfold impl_totalsOf.f impl_totalsOf.fn impl_totalsOf.top
    rw [if_pos (by rw [room8]; omega)]
    exact this
  · intro k st _
    simp [impl_totalsOf.l3, impl_totalsOf.g3]
  · intro k p b r st hx hb hI c0 c1 c2 cw g
    obtain ⟨h1, rfl⟩ := hI
    have h2 : ∀ x ∈ p ++ [b], valB x = true := fun x hx => by
      rcases List.mem_append.1 hx with h | h
      · exact h1 x h
      · rw [List.mem_singleton.1 h]; exact hb
    refine ⟨⟨h2, (totL_snoc p b a).symm⟩, ?_⟩
    obtain ⟨t0, t1, t2, t3, e1, e2, e3, e4, e5, e6, e7⟩ := totL_shape a p h1
    have hpl : p.length ≤ 1000000 := by omega
    have hv := valB_count hb
    simp only [impl_totalsOf.l3, impl_totalsOf.g3, c0, c1, cw, and_self, and_true, true_and, decide_true, decide_false, if_true, if_false, mid_get, mid_set, mid_getn, mid_setn, bt_mid, Option.bind_some, Bool.not_true, Bool.not_false, Bool.false_eq_true, Bool.true_eq_false, beq_self_eq_true, bne_self_eq_false, Int.toNat_natCast, g, ba_beq]
    unfold addT
    by_cases ha : b.2.1 = a
    · have k1 : b.1 < ((totL p a).length : Int) := by rw [e1]; simp; omega
      have k2 : 0 ≤ (totL p a).getD b.1.toNat 0 ∧ (totL p a).getD b.1.toNat 0 ≤ 1000000000 := by
        rw [e1]
        obtain h | h | h | h : b.1 = 0 ∨ b.1 = 1 ∨ b.1 = 2 ∨ b.1 = 3 := by omega
        all_goals (rw [h]; simp; omega)
      have e := w64 (n := (totL p a).getD b.1.toNat 0 + b.2.2) (by omega) (by omega)
      simp only [ha, decide_true, if_true, hv.2.2.1, k1, and_self, e]
    · simp [ha]
theorem impl_piecesLeft_f (xs : List (Int × ByteArray × Int)) (a : ByteArray) (h : ∀ b ∈ xs, valB b = true) (hl : xs.length ≤ 1000000) : impl_piecesLeft.f xs a = some (leftOf xs a) := by
  unfold impl_piecesLeft.f impl_piecesLeft.fn impl_piecesLeft.top
  rw [impl_totalsOf_f xs a h hl]
  obtain ⟨t0, t1, t2, t3, e1, e2, e3, e4, e5, e6, e7⟩ := totL_shape a xs h
  have w1 := w64 (n := t0 - t1) (by omega) (by omega)
  have w2 := w64 (n := t0 - t1 - t2) (by omega) (by omega)
  have w3 := w64 (n := t0 - t1 - t2 - t3) (by omega) (by omega)
  have w4 : IntKind.i64.wrap (leftOf xs a) = leftOf xs a := by rw [← e2]; exact w3
  rw [e1]
  simp [w1, w2, w3, e2, w4]
/-- no article short at any time -/
def okFrom (p : List (Int × ByteArray × Int)) : List (Int × ByteArray × Int) → Bool
  | [] => true
  | b :: r => valB b && decide (0 ≤ leftOf (p ++ [b]) b.2.1) && okFrom (p ++ [b]) r
def booksB (xs : List (Int × ByteArray × Int)) : Bool := decide (xs.length ≤ 60) && okFrom [] xs
theorem okFrom_val : ∀ (r p : List (Int × ByteArray × Int)), okFrom p r = true → ∀ b ∈ r, valB b = true := by
  intro r
  induction r with
  | nil => intro p _ b hb; cases hb
  | cons x r ih =>
    intro p h b hb
    simp only [okFrom, Bool.and_eq_true] at h
    rcases List.mem_cons.1 hb with rfl | hb
    · exact h.1.1
    · exact ih _ h.2 b hb
theorem booksB_val {xs : List (Int × ByteArray × Int)} (h : booksB xs = true) : (∀ b ∈ xs, valB b = true) ∧ xs.length ≤ 60 := by
  unfold booksB at h
  simp only [Bool.and_eq_true, decide_eq_true_eq] at h
  exact ⟨okFrom_val _ _ h.2, h.1⟩
theorem val_snoc {p : List (Int × ByteArray × Int)} {b : Int × ByteArray × Int} (h1 : ∀ x ∈ p, valB x = true) (hb : valB b = true) : ∀ x ∈ p ++ [b], valB x = true := fun x hx => by
  rcases List.mem_append.1 hx with h | h
  · exact h1 x h
  · rw [List.mem_singleton.1 h]; exact hb
theorem spec_AreBookings_loop : ∀ (r p : List (Int × ByteArray × Int)) (k : Nat), (∀ b ∈ p, valB b = true) → (∀ b ∈ r, Sz b.2.1) → p.length + r.length ≤ 1000000 → r.length < k →
    spec_AreBookings.l2 NN k (p ++ r) p.length = some (okFrom p r && decide ((p ++ r).length ≤ 60)) := by
  intro r
  induction r with
  | nil =>
    intro p k _ _ _ hk
    obtain ⟨k, rfl⟩ : ∃ j, k = j + 1 := ⟨k - 1, by omega⟩
    simp [spec_AreBookings.l2, spec_AreBookings.g2, okFrom]
    omega
  | cons b r ih =>
    intro p k hp hr hb hk
    simp only [List.length_cons] at hk hb
    obtain ⟨k, rfl⟩ : ∃ j, k = j + 1 := ⟨k - 1, by omega⟩
    have hm := mid_len p r b
    have c0 : (0 : Int) ≤ (p.length : Int) := by omega
    have c1 : (p.length : Int) < ((p ++ b :: r).length : Int) := by omega
    have cw := w64 (n := (p.length : Int) + 1) (by omega) (by omega)
    simp only [spec_AreBookings.l2, spec_AreBookings.g2, c0, c1, cw, and_self, and_true, true_and, decide_true, decide_false, if_true, if_false, mid_get, mid_set, mid_getn, mid_setn, bt_mid, Option.bind_some, Bool.not_true, Bool.not_false, Bool.false_eq_true, Bool.true_eq_false, beq_self_eq_true, bne_self_eq_false, Int.toNat_natCast, spec_l01In_f, spec_IsWord_f _ (hr b (by simp))]
    have hv : valB b = (inB b.1 0 3 && wordB b.2.1 && inB b.2.2 1 1000) := rfl
    simp only [okFrom]
    cases h1 : inB b.1 0 3
    · simp [hv, h1]
    cases h2 : wordB b.2.1
    · simp [hv, h2]
    cases h3 : inB b.2.2 1 1000
    · simp [hv, h3]
    have hvt : valB b = true := by rw [hv, h1, h2, h3]; rfl
    have hl := spec_l32Left_f (p ++ [b]) r b.2.1 (val_snoc hp hvt) (by simp; omega)
    rw [mid_snoc, snoc_len] at hl
    have := ih (p ++ [b]) k (val_snoc hp hvt) (fun x hx => hr x (by simp [hx])) (by simp; omega) (by omega)
    rw [mid_snoc, snoc_len] at this
    simp only [hl, this, hvt, and_self, and_true, true_and, decide_true, decide_false, if_true, if_false, mid_get, mid_set, mid_getn, mid_setn, bt_mid, Option.bind_some, Bool.not_true, Bool.not_false, Bool.false_eq_true, Bool.true_eq_false, beq_self_eq_true, bne_self_eq_false, Int.toNat_natCast, decide_eq_true_eq]
    by_cases hn : leftOf (p ++ [b]) b.2.1 < 0
    · have : ¬ 0 ≤ leftOf (p ++ [b]) b.2.1 := by omega
      simp [hn, this]
    · have h4 : 0 ≤ leftOf (p ++ [b]) b.2.1 := by omega
      simp [hn, h4]
theorem spec_AreBookings_f (xs : List (Int × ByteArray × Int)) (h : Lm OkBooking xs) : spec_AreBookings.f xs = some (booksB xs) := by
  have := spec_AreBookings_loop xs [] NN (by simp) (fun b hb => Nat.le_trans (h.2 b hb).2.1 (by omega)) (by simpa using h.1) (NN_lt (by have := h.1; omega))
  unfold spec_AreBookings.f spec_AreBookings.fn spec_AreBookings.top booksB
  rw [Bool.and_comm]
  simpa using this
theorem impl_AreBookings_loop : ∀ (r p : List (Int × ByteArray × Int)) (k : Nat), (∀ b ∈ p, valB b = true) → (∀ b ∈ r, Sz b.2.1) → p.length + r.length ≤ 1000000 → r.length < k →
    impl_AreBookings.l4 NN k (p ++ r) (p ++ r) (p ++ r).length p.length = some (okFrom p r) := by
  intro r
  induction r with
  | nil =>
    intro p k _ _ _ hk
    obtain ⟨k, rfl⟩ : ∃ j, k = j + 1 := ⟨k - 1, by omega⟩
    simp [impl_AreBookings.l4, impl_AreBookings.g4, okFrom]
  | cons b r ih =>
    intro p k hp hr hb hk
    simp only [List.length_cons] at hk hb
    obtain ⟨k, rfl⟩ : ∃ j, k = j + 1 := ⟨k - 1, by omega⟩
    have hm := mid_len p r b
    have c0 : (0 : Int) ≤ (p.length : Int) := by omega
    have c1 : (p.length : Int) < ((p ++ b :: r).length : Int) := by omega
    have cw := w64 (n := (p.length : Int) + 1) (by omega) (by omega)
    have c2 : (0 : Int) ≤ (p.length : Int) + 1 := by omega
    have c3 : (p.length : Int) + 1 ≤ ((p ++ b :: r).length : Int) := by omega
    have ct : (p ++ b :: r).take ((p.length : Int) + 1).toNat = p ++ [b] := by
      rw [show ((p.length : Int) + 1).toNat = (p ++ [b]).length by simp, show p ++ b :: r = (p ++ [b]) ++ r by simp, List.take_left' rfl]
    simp only [impl_AreBookings.l4, impl_AreBookings.g4, c0, c1, c2, c3, cw, ct, and_self, and_true, true_and, decide_true, decide_false, if_true, if_false, mid_get, mid_set, mid_getn, mid_setn, bt_mid, Option.bind_some, Bool.not_true, Bool.not_false, Bool.false_eq_true, Bool.true_eq_false, beq_self_eq_true, bne_self_eq_false, Int.toNat_natCast, impl_within_f, impl_IsWord_f _ (hr b (by simp))]
    have hv : valB b = (inB b.1 0 3 && wordB b.2.1 && inB b.2.2 1 1000) := rfl
    simp only [okFrom]
    cases h1 : inB b.1 0 3
    · simp [hv, h1]
    cases h2 : wordB b.2.1
    · simp [hv, h2]
    cases h3 : inB b.2.2 1 1000
    · simp [hv, h3]
    have hvt : valB b = true := by rw [hv, h1, h2, h3]; rfl
    have hl := impl_piecesLeft_f (p ++ [b]) b.2.1 (val_snoc hp hvt) (by simp; omega)
    have := ih (p ++ [b]) k (val_snoc hp hvt) (fun x hx => hr x (by simp [hx])) (by simp; omega) (by omega)
    rw [mid_snoc, snoc_len] at this
    simp only [hl, this, hvt, and_self, and_true, true_and, decide_true, decide_false, if_true, if_false, mid_get, mid_set, mid_getn, mid_setn, bt_mid, Option.bind_some, Bool.not_true, Bool.not_false, Bool.false_eq_true, Bool.true_eq_false, beq_self_eq_true, bne_self_eq_false, Int.toNat_natCast, decide_eq_true_eq]
    by_cases hn : leftOf (p ++ [b]) b.2.1 < 0
    · have : ¬ 0 ≤ leftOf (p ++ [b]) b.2.1 := by omega
      simp [hn, this]
    · have h4 : 0 ≤ leftOf (p ++ [b]) b.2.1 := by omega
      simp [hn, h4]
theorem impl_AreBookings_f (xs : List (Int × ByteArray × Int)) (h : Lm OkBooking xs) : impl_AreBookings.f xs = some (booksB xs) := by
  have := impl_AreBookings_loop xs [] NN (by simp) (fun b hb => Nat.le_trans (h.2 b hb).2.1 (by omega)) (by simpa using h.1) (NN_lt (by have := h.1; omega))
  unfold impl_AreBookings.f impl_AreBookings.fn impl_AreBookings.top booksB
  simp only [List.nil_append, List.length_nil] at this
  by_cases h1 : (60 : Int) < xs.length
  · have h2 : ¬ xs.length ≤ 60 := by omega
    simp [h1, h2]
  · have h2 : xs.length ≤ 60 := by omega
    simp only [h1, h2, decide_false, Bool.false_eq_true, if_false, decide_true, Bool.true_and]
    exact this
theorem AreBookings_core (xs : List (Int × ByteArray × Int)) (h : Lm OkBooking xs) : ∃ w, spec_AreBookings.f xs = some w ∧ impl_AreBookings.f xs = some w ∧ True :=
  ⟨_, spec_AreBookings_f xs h, impl_AreBookings_f xs h, trivial⟩
end Go.Pl

namespace Go.Pl
open Go.Ev
set_option linter.unusedVariables false
noncomputable section
def impl_PiecesLeft.top (list0 : List (Int × ByteArray × Int)) (article1 : ByteArray) : Option (Int × Int) :=
  (impl_AreBookings.f list0).bind fun r1 =>
  if (!r1) = false then
    (impl_IsWord.f article1).bind fun r2 =>
    if (!r2) = true then
      some (0, 1)
    else
      (impl_piecesLeft.f list0 article1).bind fun r3 =>
      some (r3, 0)
  else
    some (0, 1)
def impl_PiecesLeft.fn (n : Nat) (list0 : List (Int × ByteArray × Int)) (article1 : ByteArray) : Option (Int × Int) := impl_PiecesLeft.top list0 article1
def impl_PiecesLeft.f (list0 : List (Int × ByteArray × Int)) (article1 : ByteArray) : Option (Int × Int) := impl_PiecesLeft.fn NN list0 article1
end
end Go.Pl

namespace Go.Pl
open Go.Ev
set_option linter.unusedVariables false
noncomputable section
def spec_PiecesLeft.top (list0 : List (Int × ByteArray × Int)) (article1 : ByteArray) : Option (Int × Int) :=
  (spec_AreBookings.f list0).bind fun r1 =>
  if (!r1) = false then
    (spec_IsWord.f article1).bind fun r2 =>
    if (!r2) = true then
      some (0, 1)
    else
      (spec_l32Left.f list0 article1 (list0.length : Int)).bind fun r3 =>
      some (r3, 0)
  else
    some (0, 1)
def spec_PiecesLeft.fn (n : Nat) (list0 : List (Int × ByteArray × Int)) (article1 : ByteArray) : Option (Int × Int) := spec_PiecesLeft.top list0 article1
def spec_PiecesLeft.f (list0 : List (Int × ByteArray × Int)) (article1 : ByteArray) : Option (Int × Int) := spec_PiecesLeft.fn NN list0 article1
end
end Go.Pl

namespace Go.Pl
open Go.Ev
set_option linter.unusedVariables false
noncomputable section
def impl_MostIn.g5 (L5 : (List (Int × ByteArray × Int)) → ByteArray → Int → Int → Int → Option (Int × Int)) (list0 : List (Int × ByteArray × Int)) (article1 : ByteArray) (most6 : Int) (v17 : Int) (v18 : Int) : Option (Int × Int) :=
  if (decide ((v18 : Int) < v17)) = true then
    if (0 : Int) ≤ (IntKind.i64.wrap (v18 + 1)) ∧ ((IntKind.i64.wrap (v18 + 1)) : Int) ≤ list0.length then
      (impl_piecesLeft.f (list0.take ((IntKind.i64.wrap (v18 + 1)) : Int).toNat) article1).bind fun r3 =>
      L5 list0 article1 (if r3 > most6 then r3 else most6) v17 (IntKind.i64.wrap (v18 + 1))
    else
      none
  else
    some (most6, 0)
def impl_MostIn.l5 (n : Nat) : Nat → (List (Int × ByteArray × Int)) → ByteArray → Int → Int → Int → Option (Int × Int)
  | 0 => fun _ _ _ _ _ => none
  | k + 1 => impl_MostIn.g5 (impl_MostIn.l5 n k)
def impl_MostIn.top (I5 : (List (Int × ByteArray × Int)) → ByteArray → Int → Int → Int → Option (Int × Int)) (list0 : List (Int × ByteArray × Int)) (article1 : ByteArray) : Option (Int × Int) :=
  (impl_AreBookings.f list0).bind fun r1 =>
  if (!r1) = false then
    (impl_IsWord.f article1).bind fun r2 =>
    if (!r2) = true then
      some (0, 1)
    else
      I5 list0 article1 0 (list0.length : Int) 0
  else
    some (0, 1)
def impl_MostIn.fn (n : Nat) (list0 : List (Int × ByteArray × Int)) (article1 : ByteArray) : Option (Int × Int) := impl_MostIn.top (impl_MostIn.l5 n n) list0 article1
def impl_MostIn.f (list0 : List (Int × ByteArray × Int)) (article1 : ByteArray) : Option (Int × Int) := impl_MostIn.fn NN list0 article1
end
end Go.Pl

namespace Go.Pl
open Go.Ev
set_option linter.unusedVariables false
noncomputable section
def spec_MostIn.g5 (L5 : (List (Int × ByteArray × Int)) → ByteArray → Int → Int → Option (Int × Int)) (list0 : List (Int × ByteArray × Int)) (article1 : ByteArray) (most6 : Int) (n7 : Int) : Option (Int × Int) :=
  if (decide ((n7 : Int) ≤ (list0.length : Int))) = true then
    (spec_l32Left.f list0 article1 n7).bind fun r3 =>
    L5 list0 article1 (if r3 > most6 then r3 else most6) (IntKind.i64.wrap (n7 + 1))
  else
    some (most6, 0)
def spec_MostIn.l5 (n : Nat) : Nat → (List (Int × ByteArray × Int)) → ByteArray → Int → Int → Option (Int × Int)
  | 0 => fun _ _ _ _ => none
  | k + 1 => spec_MostIn.g5 (spec_MostIn.l5 n k)
def spec_MostIn.top (I5 : (List (Int × ByteArray × Int)) → ByteArray → Int → Int → Option (Int × Int)) (list0 : List (Int × ByteArray × Int)) (article1 : ByteArray) : Option (Int × Int) :=
  (spec_AreBookings.f list0).bind fun r1 =>
  if (!r1) = false then
    (spec_IsWord.f article1).bind fun r2 =>
    if (!r2) = true then
      some (0, 1)
    else
      I5 list0 article1 0 0
  else
    some (0, 1)
def spec_MostIn.fn (n : Nat) (list0 : List (Int × ByteArray × Int)) (article1 : ByteArray) : Option (Int × Int) := spec_MostIn.top (spec_MostIn.l5 n n) list0 article1
def spec_MostIn.f (list0 : List (Int × ByteArray × Int)) (article1 : ByteArray) : Option (Int × Int) := spec_MostIn.fn NN list0 article1
end
end Go.Pl

namespace Go.Pl
open Go.Ev
set_option linter.unusedVariables false
set_option linter.unusedSimpArgs false
theorem l32Left_all (xs : List (Int × ByteArray × Int)) (a : ByteArray) (h : ∀ b ∈ xs, valB b = true) (hl : xs.length ≤ 1000000) : spec_l32Left.f xs a xs.length = some (leftOf xs a) := by
  have := spec_l32Left_f xs [] a h hl
  rwa [List.append_nil] at this
theorem l32Left_take (xs : List (Int × ByteArray × Int)) (a : ByteArray) (n : Nat) (hn : n ≤ xs.length) (h : ∀ b ∈ xs, valB b = true) (hl : xs.length ≤ 1000000) : spec_l32Left.f xs a n = some (leftOf (xs.take n) a) := by
  have := spec_l32Left_f (xs.take n) (xs.drop n) a (fun b hb => h b (List.mem_of_mem_take hb)) (by rw [List.length_take]; omega)
  rwa [List.take_append_drop, List.length_take, Nat.min_eq_left hn] at this
def leftR (xs : List (Int × ByteArray × Int)) (a : ByteArray) : Int × Int := if booksB xs = true ∧ wordB a = true then (leftOf xs a, 0) else (0, 1)
theorem PiecesLeft_both (xs : List (Int × ByteArray × Int)) (a : ByteArray) (h : Lm OkBooking xs) (ha : Sm a) : spec_PiecesLeft.f xs a = some (leftR xs a) ∧ impl_PiecesLeft.f xs a = some (leftR xs a) := by
  unfold leftR
  refine ⟨?_, ?_⟩
  · unfold spec_PiecesLeft.f spec_PiecesLeft.fn spec_PiecesLeft.top
    rw [spec_AreBookings_f xs h, spec_IsWord_f a (Nat.le_trans ha (by omega))]
    cases hb : booksB xs
    · rfl
    cases hw : wordB a
    · rfl
    have hv := booksB_val hb
    simp only [and_self, and_true, true_and, decide_true, decide_false, if_true, if_false, mid_get, mid_set, mid_getn, mid_setn, bt_mid, Option.bind_some, Bool.not_true, Bool.not_false, Bool.false_eq_true, Bool.true_eq_false, beq_self_eq_true, bne_self_eq_false, Int.toNat_natCast]
    rw [l32Left_all xs a hv.1 (by omega)]; rfl
  · unfold impl_PiecesLeft.f impl_PiecesLeft.fn impl_PiecesLeft.top
    rw [impl_AreBookings_f xs h, impl_IsWord_f a (Nat.le_trans ha (by omega))]
    cases hb : booksB xs
    · rfl
    cases hw : wordB a
    · rfl
    have hv := booksB_val hb
    simp only [and_self, and_true, true_and, decide_true, decide_false, if_true, if_false, mid_get, mid_set, mid_getn, mid_setn, bt_mid, Option.bind_some, Bool.not_true, Bool.not_false, Bool.false_eq_true, Bool.true_eq_false, beq_self_eq_true, bne_self_eq_false, Int.toNat_natCast]
    rw [impl_piecesLeft_f xs a hv.1 (by omega)]; rfl
theorem PiecesLeft_core (xs : List (Int × ByteArray × Int)) (a : ByteArray) (h : Lm OkBooking xs) (ha : Sm a) : ∃ w, spec_PiecesLeft.f xs a = some w ∧ impl_PiecesLeft.f xs a = some w ∧ True :=
  ⟨_, (PiecesLeft_both xs a h ha).1, (PiecesLeft_both xs a h ha).2, trivial⟩
def mostF (xs : List (Int × ByteArray × Int)) (a : ByteArray) (i : Nat) (st : Int) : Int := if leftOf (xs.take (i + 1)) a > st then leftOf (xs.take (i + 1)) a else st
def mostL (xs : List (Int × ByteArray × Int)) (a : ByteArray) : Int := foldi (fun i st (_ : Int × ByteArray × Int) => mostF xs a i st) 0 0 xs
theorem impl_MostIn_l (xs : List (Int × ByteArray × Int)) (a : ByteArray) (h : ∀ b ∈ xs, valB b = true) (hl : xs.length ≤ 60) : impl_MostIn.l5 NN NN xs a 0 xs.length 0 = some (mostL xs a, 0) := by
  have := (fold_fix (E := fun _ => True) (fun _ _ => True) (fun i st (_ : Int × ByteArray × Int) => mostF xs a i st) (fun st => some (st, (0 : Int))) (fun k i st => impl_MostIn.l5 NN k xs a st xs.length i) xs ?_ ?_ 0 (fun _ _ => trivial) trivial (by omega) NN (NN_lt (by omega))).2
  · exact this
  · intro k st _
    simp [impl_MostIn.l5, impl_MostIn.g5]
  · intro k p b r st hx _ _ c0 c1 c2 cw g
    refine ⟨trivial, ?_⟩
    have c3 : (0 : Int) ≤ (p.length : Int) + 1 := by omega
    have c4 : (p.length : Int) + 1 ≤ (xs.length : Int) := by omega
    have e : ((p.length : Int) + 1).toNat = p.length + 1 := by omega
    simp only [impl_MostIn.l5, impl_MostIn.g5, c1, c3, c4, cw, e, and_self, and_true, true_and, decide_true, decide_false, if_true, if_false, mid_get, mid_set, mid_getn, mid_setn, bt_mid, Option.bind_some, Bool.not_true, Bool.not_false, Bool.false_eq_true, Bool.true_eq_false, beq_self_eq_true, bne_self_eq_false, Int.toNat_natCast]
    rw [impl_piecesLeft_f (xs.take (p.length + 1)) a (fun b hb => h b (List.mem_of_mem_take hb)) (by rw [List.length_take]; omega)]
    rfl
theorem spec_MostIn_l (xs : List (Int × ByteArray × Int)) (a : ByteArray) (h : ∀ b ∈ xs, valB b = true) (hl : xs.length ≤ 60) : spec_MostIn.l5 NN NN xs a 0 0 = some (mostL xs a, 0) := by
  obtain ⟨k, hk⟩ : ∃ j, NN = j + 1 := ⟨NN - 1, by have := NNb; omega⟩
  have hkb : 1000 < k := by rw [NN_eq] at hk; omega
  have := (fold_fix (E := fun _ => True) (fun _ _ => True) (fun i st (_ : Int × ByteArray × Int) => mostF xs a i st) (fun st => some (st, (0 : Int))) (fun k i st => spec_MostIn.l5 NN k xs a st (i + 1)) xs ?_ ?_ 0 (fun _ _ => trivial) trivial (by omega) k (by omega)).2
  · rw [show spec_MostIn.l5 NN NN = spec_MostIn.l5 NN (k + 1) by rw [← hk]]
    have c0 : (0 : Int) ≤ (xs.length : Int) := by omega
    have z := l32Left_take xs a 0 (by omega) h (by omega)
    have w := w64 (n := 0 + 1) (by omega) (by omega)
    simp only [spec_MostIn.l5, spec_MostIn.g5, c0, and_self, and_true, true_and, decide_true, decide_false, if_true, if_false, mid_get, mid_set, mid_getn, mid_setn, bt_mid, Option.bind_some, Bool.not_true, Bool.not_false, Bool.false_eq_true, Bool.true_eq_false, beq_self_eq_true, bne_self_eq_false, Int.toNat_natCast, w]
    rw [show ((0 : Nat) : Int) = 0 from rfl] at z
    rw [z]
    exact this
  · intro k st _
    simp [spec_MostIn.l5, spec_MostIn.g5]
    omega
  · intro k p b r st hx _ _ c0 c1 c2 cw g
    refine ⟨trivial, ?_⟩
    have c4 : (p.length : Int) + 1 ≤ (xs.length : Int) := by omega
    have z := l32Left_take xs a (p.length + 1) (by omega) h (by omega)
    rw [show ((p.length + 1 : Nat) : Int) = (p.length : Int) + 1 by omega] at z
    have w := w64 (n := (p.length : Int) + 1 + 1) (by omega) (by omega)
    simp only [spec_MostIn.l5, spec_MostIn.g5, c4, w, z, and_self, and_true, true_and, decide_true, decide_false, if_true, if_false, mid_get, mid_set, mid_getn, mid_setn, bt_mid, Option.bind_some, Bool.not_true, Bool.not_false, Bool.false_eq_true, Bool.true_eq_false, beq_self_eq_true, bne_self_eq_false, Int.toNat_natCast]
    rfl
def mostR (xs : List (Int × ByteArray × Int)) (a : ByteArray) : Int × Int := if booksB xs = true ∧ wordB a = true then (mostL xs a, 0) else (0, 1)
theorem MostIn_both (xs : List (Int × ByteArray × Int)) (a : ByteArray) (h : Lm OkBooking xs) (ha : Sm a) : spec_MostIn.f xs a = some (mostR xs a) ∧ impl_MostIn.f xs a = some (mostR xs a) := by
  unfold mostR
  refine ⟨?_, ?_⟩
  · unfold spec_MostIn.f spec_MostIn.fn spec_MostIn.top
    rw [spec_AreBookings_f xs h, spec_IsWord_f a (Nat.le_trans ha (by omega))]
    cases hb : booksB xs
    · rfl
    cases hw : wordB a
    · rfl
    have hv := booksB_val hb
    exact spec_MostIn_l xs a hv.1 hv.2
  · unfold impl_MostIn.f impl_MostIn.fn impl_MostIn.top
    rw [impl_AreBookings_f xs h, impl_IsWord_f a (Nat.le_trans ha (by omega))]
    cases hb : booksB xs
    · rfl
    cases hw : wordB a
    · rfl
    have hv := booksB_val hb
    exact impl_MostIn_l xs a hv.1 hv.2
theorem MostIn_core (xs : List (Int × ByteArray × Int)) (a : ByteArray) (h : Lm OkBooking xs) (ha : Sm a) : ∃ w, spec_MostIn.f xs a = some w ∧ impl_MostIn.f xs a = some w ∧ True :=
  ⟨_, (MostIn_both xs a h ha).1, (MostIn_both xs a h ha).2, trivial⟩
end Go.Pl

namespace Go.Pl
open Go.Ev
set_option linter.unusedVariables false
noncomputable section
def impl_BookPieces.top (list0 : List (Int × ByteArray × Int)) (b1 : Int × ByteArray × Int) : Option ((List (Int × ByteArray × Int)) × Int) :=
  (impl_AreBookings.f list0).bind fun r1 =>
  if (!r1) = true then
    some ([], 1)
  else if (((list0.length : Int) : Int) == 60) = true then
    some ([], 3)
  else if ([] : List (Int × ByteArray × Int)).length + list0.length < room 32 then
    if (([] : List (Int × ByteArray × Int)) ++ list0).length + ([b1]).length < room 32 then
      (impl_AreBookings.f ((([] : List (Int × ByteArray × Int)) ++ list0) ++ ([b1]))).bind fun r2 =>
      if (!r2) = true then
        some ([], 5)
      else
        some ((([] : List (Int × ByteArray × Int)) ++ list0) ++ ([b1]), 0)
    else
      none
  else
    none
def impl_BookPieces.fn (n : Nat) (list0 : List (Int × ByteArray × Int)) (b1 : Int × ByteArray × Int) : Option ((List (Int × ByteArray × Int)) × Int) := impl_BookPieces.top list0 b1
def impl_BookPieces.f (list0 : List (Int × ByteArray × Int)) (b1 : Int × ByteArray × Int) : Option ((List (Int × ByteArray × Int)) × Int) := impl_BookPieces.fn NN list0 b1
end
end Go.Pl

namespace Go.Pl
open Go.Ev
set_option linter.unusedVariables false
noncomputable section
def spec_BookPieces.top (list0 : List (Int × ByteArray × Int)) (b1 : Int × ByteArray × Int) : Option ((List (Int × ByteArray × Int)) × Int) :=
  (spec_AreBookings.f list0).bind fun r1 =>
  if (!r1) = true then
    some ([], 1)
  else if (((list0.length : Int) : Int) == 60) = true then
    some ([], 3)
  else if ([] : List (Int × ByteArray × Int)).length + list0.length < room 32 then
    if (([] : List (Int × ByteArray × Int)) ++ list0).length + ([b1]).length < room 32 then
      (spec_AreBookings.f ((([] : List (Int × ByteArray × Int)) ++ list0) ++ ([b1]))).bind fun r2 =>
      if (!r2) = true then
        some ([], 5)
      else
        some ((([] : List (Int × ByteArray × Int)) ++ list0) ++ ([b1]), 0)
    else
      none
  else
    none
def spec_BookPieces.fn (n : Nat) (list0 : List (Int × ByteArray × Int)) (b1 : Int × ByteArray × Int) : Option ((List (Int × ByteArray × Int)) × Int) := spec_BookPieces.top list0 b1
def spec_BookPieces.f (list0 : List (Int × ByteArray × Int)) (b1 : Int × ByteArray × Int) : Option ((List (Int × ByteArray × Int)) × Int) := spec_BookPieces.fn NN list0 b1
end
end Go.Pl

namespace Go.Pl
open Go.Ev
set_option linter.unusedVariables false
set_option linter.unusedSimpArgs false
theorem ok_snoc {α : Type} {Q : α → Prop} {xs : List α} {b : α} (h : Lm Q xs) (hb : Q b) (hl : xs.length < 1000000) : Lm Q (xs ++ [b]) :=
  ⟨by simp; omega, fun x hx => by
    rcases List.mem_append.1 hx with h1 | h1
    · exact h.2 x h1
    · rw [List.mem_singleton.1 h1]; exact hb⟩
def bookR (xs : List (Int × ByteArray × Int)) (b : Int × ByteArray × Int) : List (Int × ByteArray × Int) × Int :=
  if booksB xs = true then (if xs.length = 60 then ([], 3) else if booksB (xs ++ [b]) = true then (xs ++ [b], 0) else ([], 5)) else ([], 1)
theorem impl_BookPieces_f (xs : List (Int × ByteArray × Int)) (b : Int × ByteArray × Int) (h : Lm OkBooking xs) (hb : OkBooking b) : impl_BookPieces.f xs b = some (bookR xs b) := by
  unfold impl_BookPieces.f impl_BookPieces.fn impl_BookPieces.top bookR
  rw [impl_AreBookings_f xs h]
  cases hx : booksB xs
  · rfl
  have hv := booksB_val hx
  simp only [and_self, and_true, true_and, decide_true, decide_false, if_true, if_false, mid_get, mid_set, mid_getn, mid_setn, bt_mid, Option.bind_some, Bool.not_true, Bool.not_false, Bool.false_eq_true, Bool.true_eq_false, beq_self_eq_true, bne_self_eq_false, Int.toNat_natCast]
  by_cases h60 : xs.length = 60
  · simp [h60]
  · have e1 : ((xs.length : Int) == 60) = false := by rw [beq_eq_false_iff_ne]; omega
    have e2 : ([] : List (Int × ByteArray × Int)).length + xs.length < room 32 := by rw [room32]; simp; omega
    have e3 : (([] : List (Int × ByteArray × Int)) ++ xs).length + [b].length < room 32 := by rw [room32]; simp; omega
    simp only [e1, e2, e3, h60, and_self, and_true, true_and, decide_true, decide_false, if_true, if_false, mid_get, mid_set, mid_getn, mid_setn, bt_mid, Option.bind_some, Bool.not_true, Bool.not_false, Bool.false_eq_true, Bool.true_eq_false, beq_self_eq_true, bne_self_eq_false, Int.toNat_natCast]
    rw [List.nil_append, impl_AreBookings_f (xs ++ [b]) (ok_snoc h hb (by omega))]
    cases booksB (xs ++ [b]) <;> rfl
theorem spec_BookPieces_f (xs : List (Int × ByteArray × Int)) (b : Int × ByteArray × Int) (h : Lm OkBooking xs) (hb : OkBooking b) : spec_BookPieces.f xs b = some (bookR xs b) := by
  unfold spec_BookPieces.f spec_BookPieces.fn spec_BookPieces.top bookR
  rw [spec_AreBookings_f xs h]
  cases hx : booksB xs
  · rfl
  have hv := booksB_val hx
  simp only [and_self, and_true, true_and, decide_true, decide_false, if_true, if_false, mid_get, mid_set, mid_getn, mid_setn, bt_mid, Option.bind_some, Bool.not_true, Bool.not_false, Bool.false_eq_true, Bool.true_eq_false, beq_self_eq_true, bne_self_eq_false, Int.toNat_natCast]
  by_cases h60 : xs.length = 60
  · simp [h60]
  · have e1 : ((xs.length : Int) == 60) = false := by rw [beq_eq_false_iff_ne]; omega
    have e2 : ([] : List (Int × ByteArray × Int)).length + xs.length < room 32 := by rw [room32]; simp; omega
    have e3 : (([] : List (Int × ByteArray × Int)) ++ xs).length + [b].length < room 32 := by rw [room32]; simp; omega
    simp only [e1, e2, e3, h60, and_self, and_true, true_and, decide_true, decide_false, if_true, if_false, mid_get, mid_set, mid_getn, mid_setn, bt_mid, Option.bind_some, Bool.not_true, Bool.not_false, Bool.false_eq_true, Bool.true_eq_false, beq_self_eq_true, bne_self_eq_false, Int.toNat_natCast]
    rw [List.nil_append, spec_AreBookings_f (xs ++ [b]) (ok_snoc h hb (by omega))]
    cases booksB (xs ++ [b]) <;> rfl
theorem bookR_ok (xs : List (Int × ByteArray × Int)) (b : Int × ByteArray × Int) (h : Lm OkBooking xs) (hb : OkBooking b) : Lm OkBooking (bookR xs b).1 := by
  unfold bookR
  split
  · rename_i hx
    have hv := booksB_val hx
    split
    · exact ⟨by simp, by simp⟩
    · split
      · exact ok_snoc h hb (by omega)
      · exact ⟨by simp, by simp⟩
  · exact ⟨by simp, by simp⟩
theorem BookPieces_core (xs : List (Int × ByteArray × Int)) (b : Int × ByteArray × Int) (h : Lm OkBooking xs) (hb : OkBooking b) : ∃ w, spec_BookPieces.f xs b = some w ∧ impl_BookPieces.f xs b = some w ∧ Lm OkBooking w.1 :=
  ⟨_, spec_BookPieces_f xs b h hb, impl_BookPieces_f xs b h hb, bookR_ok xs b h hb⟩
end Go.Pl

namespace Go.Pl
open Go.Ev
set_option linter.unusedVariables false
noncomputable section
def impl_IsSettled.top (list0 : List (Int × ByteArray × Int)) : Option (Bool × Int) :=
  (impl_AreBookings.f list0).bind fun r1 =>
  if (!r1) = true then
    some (false, 1)
  else
    (impl_openArticles.f list0).bind fun r2 =>
    some (((r2.length : Int) : Int) == 0, 0)
def impl_IsSettled.fn (n : Nat) (list0 : List (Int × ByteArray × Int)) : Option (Bool × Int) := impl_IsSettled.top list0
def impl_IsSettled.f (list0 : List (Int × ByteArray × Int)) : Option (Bool × Int) := impl_IsSettled.fn NN list0
end
end Go.Pl

namespace Go.Pl
open Go.Ev
set_option linter.unusedVariables false
noncomputable section
def spec_IsSettled.top (list0 : List (Int × ByteArray × Int)) : Option (Bool × Int) :=
  (spec_AreBookings.f list0).bind fun r1 =>
  if (!r1) = true then
    some (false, 1)
  else
    (spec_l32Open.f list0).bind fun r2 =>
    some (((r2.length : Int) : Int) == 0, 0)
def spec_IsSettled.fn (n : Nat) (list0 : List (Int × ByteArray × Int)) : Option (Bool × Int) := spec_IsSettled.top list0
def spec_IsSettled.f (list0 : List (Int × ByteArray × Int)) : Option (Bool × Int) := spec_IsSettled.fn NN list0
end
end Go.Pl

namespace Go.Pl
open Go.Ev
set_option linter.unusedVariables false
noncomputable section
def impl_OpenArticles.top (list0 : List (Int × ByteArray × Int)) : Option (List ByteArray × Int) :=
  (impl_AreBookings.f list0).bind fun r1 =>
  if (!r1) = true then
    some ([], 1)
  else
    (impl_openArticles.f list0).bind fun r2 =>
    some (r2, 0)
def impl_OpenArticles.fn (n : Nat) (list0 : List (Int × ByteArray × Int)) : Option (List ByteArray × Int) := impl_OpenArticles.top list0
def impl_OpenArticles.f (list0 : List (Int × ByteArray × Int)) : Option (List ByteArray × Int) := impl_OpenArticles.fn NN list0
end
end Go.Pl

namespace Go.Pl
open Go.Ev
set_option linter.unusedVariables false
noncomputable section
def spec_OpenArticles.top (list0 : List (Int × ByteArray × Int)) : Option (List ByteArray × Int) :=
  (spec_AreBookings.f list0).bind fun r1 =>
  if (!r1) = true then
    some ([], 1)
  else
    (spec_l32Open.f list0).bind fun r2 =>
    some (r2, 0)
def spec_OpenArticles.fn (n : Nat) (list0 : List (Int × ByteArray × Int)) : Option (List ByteArray × Int) := spec_OpenArticles.top list0
def spec_OpenArticles.f (list0 : List (Int × ByteArray × Int)) : Option (List ByteArray × Int) := spec_OpenArticles.fn NN list0
end
end Go.Pl

namespace Go.Pl
open Go.Ev
set_option linter.unusedVariables false
set_option linter.unusedSimpArgs false
abbrev Bkg := Int × ByteArray × Int
def openF (xs : List Bkg) (st : List ByteArray) (b : Bkg) : List ByteArray := if 0 < leftOf xs b.2.1 then insW b.2.1 st else st
/-- the articles of which pieces are left -/
def openL (xs : List Bkg) : List ByteArray := xs.foldl (openF xs) []
structure OI (xs p : List Bkg) (st : List ByteArray) : Prop where
  srt : SrtW st
  len : st.length ≤ p.length
  mem : ∀ w, w ∈ st ↔ (∃ b ∈ p, b.2.1 = w) ∧ 0 < leftOf xs w
theorem oi_step {xs p : List Bkg} {st : List ByteArray} (b : Bkg) (h : OI xs p st) : OI xs (p ++ [b]) (openF xs st b) := by
  unfold openF
  split
  · rename_i hp
    refine ⟨insW_srt h.srt, by have := insW_len b.2.1 st; have := h.len; simp; omega, fun w => ?_⟩
    rw [mem_insW, h.mem]
    constructor
    · rintro (rfl | ⟨⟨c, h1, h2⟩, h3⟩)
      · exact ⟨⟨b, by simp, rfl⟩, hp⟩
      · exact ⟨⟨c, by simp [h1], h2⟩, h3⟩
    · rintro ⟨⟨c, h1, h2⟩, h3⟩
      rcases List.mem_append.1 h1 with h1 | h1
      · exact .inr ⟨⟨c, h1, h2⟩, h3⟩
      · rw [List.mem_singleton.1 h1] at h2; exact .inl h2.symm
  · rename_i hp
    refine ⟨h.srt, by have := h.len; simp; omega, fun w => ?_⟩
    rw [h.mem]
    constructor
    · rintro ⟨⟨c, h1, h2⟩, h3⟩; exact ⟨⟨c, by simp [h1], h2⟩, h3⟩
    · rintro ⟨⟨c, h1, h2⟩, h3⟩
      rcases List.mem_append.1 h1 with h1 | h1
      · exact ⟨⟨c, h1, h2⟩, h3⟩
      · rw [List.mem_singleton.1 h1] at h2; rw [h2] at hp; exact absurd h3 hp
theorem oi_nil (xs : List Bkg) : OI xs [] [] := ⟨List.Pairwise.nil, by simp, fun w => by simp⟩
theorem open_both (xs : List Bkg) (h : ∀ b ∈ xs, valB b = true) (hl : xs.length ≤ 1000000) : OI xs xs (openL xs) ∧ impl_openArticles.f xs = some (openL xs) ∧ spec_l32Open.f xs = some (openL xs) := by
  have e1 := fold_fix (E := fun _ => True) (fun p st => OI xs p st) (fun _ => openF xs) (fun st => some st) (fun k i st => impl_openArticles.l3 NN k xs xs xs.length i st) xs ?_ ?_ [] (fun _ _ => trivial) (oi_nil xs) (by omega) NN (NN_lt (by omega))
  have e2 := fold_fix (E := fun _ => True) (fun p st => OI xs p st) (fun _ => openF xs) (fun st => some st) (fun k i st => spec_l32Open.l3 NN k xs i st) xs ?_ ?_ [] (fun _ _ => trivial) (oi_nil xs) (by omega) NN (NN_lt (by omega))
  · rw [foldi_foldl] at e1 e2
    exact ⟨e1.1, e1.2, e2.2⟩
  · intro k st _
    simp [spec_l32Open.l3, spec_l32Open.g3]
  · intro k p b r st hx _ hI c0 c1 c2 cw g
    refine ⟨oi_step b hI, ?_⟩
    have hpl : p.length ≤ 1000000 := by rw [hx] at hl; simp at hl; omega
    have := hI.len
    simp only [spec_l32Open.l3, spec_l32Open.g3, c0, c1, cw, and_self, and_true, true_and, decide_true, decide_false, if_true, if_false, mid_get, mid_set, mid_getn, mid_setn, bt_mid, Option.bind_some, Bool.not_true, Bool.not_false, Bool.false_eq_true, Bool.true_eq_false, beq_self_eq_true, bne_self_eq_false, Int.toNat_natCast, g, l32Left_all xs _ h hl, decide_eq_true_eq]
    unfold openF
    split
    · rw [spec_l20Insert_f _ _ (by omega)]; rfl
    · rfl
  · intro k st _
    simp [impl_openArticles.l3, impl_openArticles.g3]
  · intro k p b r st hx _ hI c0 c1 c2 cw g
    refine ⟨oi_step b hI, ?_⟩
    have hpl : p.length ≤ 1000000 := by rw [hx] at hl; simp at hl; omega
    have := hI.len
    simp only [impl_openArticles.l3, impl_openArticles.g3, c0, c1, cw, and_self, and_true, true_and, decide_true, decide_false, if_true, if_false, mid_get, mid_set, mid_getn, mid_setn, bt_mid, Option.bind_some, Bool.not_true, Bool.not_false, Bool.false_eq_true, Bool.true_eq_false, beq_self_eq_true, bne_self_eq_false, Int.toNat_natCast, g, impl_piecesLeft_f xs _ h hl, decide_eq_true_eq]
    unfold openF
    split
    · rw [impl_putWord_f _ _ hI.srt (by omega)]; rfl
    · rfl
theorem open_sm {xs : List Bkg} (h : ∀ b ∈ xs, valB b = true) (hl : xs.length ≤ 1000000) : ∀ w ∈ openL xs, wordB w = true := by
  intro w hw
  obtain ⟨⟨b, h1, rfl⟩, _⟩ := ((open_both xs h hl).1.mem w).1 hw
  have := h b h1
  unfold valB at this
  simp only [Bool.and_eq_true] at this
  exact this.1.2
theorem word_sm {w : ByteArray} (h : wordB w = true) : Sm w := by have := wordB_size h; unfold Sm; omega
def setR (xs : List Bkg) : Bool × Int := if booksB xs = true then (decide (openL xs = []), 0) else (false, 1)
def opnR (xs : List Bkg) : List ByteArray × Int := if booksB xs = true then (openL xs, 0) else ([], 1)
theorem len0 {α : Type} (l : List α) : (((l.length : Int) : Int) == 0) = decide (l = []) := by cases l <;> simp <;> omega
theorem IsSettled_both (xs : List Bkg) (h : Lm OkBooking xs) : spec_IsSettled.f xs = some (setR xs) ∧ impl_IsSettled.f xs = some (setR xs) := by
  unfold spec_IsSettled.f spec_IsSettled.fn spec_IsSettled.top impl_IsSettled.f impl_IsSettled.fn impl_IsSettled.top setR
  rw [spec_AreBookings_f xs h, impl_AreBookings_f xs h]
  cases hx : booksB xs
  · exact ⟨rfl, rfl⟩
  have hv := booksB_val hx
  obtain ⟨_, e1, e2⟩ := open_both xs hv.1 (by omega)
  simp only [Option.bind_some, Bool.not_true, Bool.false_eq_true, if_false, if_true, e1, e2, len0, and_self]
theorem IsSettled_core (xs : List Bkg) (h : Lm OkBooking xs) : ∃ w, spec_IsSettled.f xs = some w ∧ impl_IsSettled.f xs = some w ∧ True :=
  ⟨_, (IsSettled_both xs h).1, (IsSettled_both xs h).2, trivial⟩
theorem OpenArticles_both (xs : List Bkg) (h : Lm OkBooking xs) : spec_OpenArticles.f xs = some (opnR xs) ∧ impl_OpenArticles.f xs = some (opnR xs) := by
  unfold spec_OpenArticles.f spec_OpenArticles.fn spec_OpenArticles.top impl_OpenArticles.f impl_OpenArticles.fn impl_OpenArticles.top opnR
  rw [spec_AreBookings_f xs h, impl_AreBookings_f xs h]
  cases hx : booksB xs
  · exact ⟨rfl, rfl⟩
  have hv := booksB_val hx
  obtain ⟨_, e1, e2⟩ := open_both xs hv.1 (by omega)
  simp only [Option.bind_some, Bool.not_true, Bool.false_eq_true, if_false, if_true, e1, e2, and_self]
theorem opnR_ok (xs : List Bkg) : Lm Sm (opnR xs).1 := by
  unfold opnR
  split
  · rename_i hx
    have hv := booksB_val hx
    obtain ⟨h1, _, _⟩ := open_both xs hv.1 (by omega)
    exact ⟨by have := h1.len; simp only; omega, fun w hw => word_sm (open_sm hv.1 (by omega) w hw)⟩
  · exact ⟨by simp, by simp⟩
theorem OpenArticles_core (xs : List Bkg) (h : Lm OkBooking xs) : ∃ w, spec_OpenArticles.f xs = some w ∧ impl_OpenArticles.f xs = some w ∧ Lm Sm w.1 :=
  ⟨_, (OpenArticles_both xs h).1, (OpenArticles_both xs h).2, opnR_ok xs⟩
def setlF (xs : List Bkg) (kind : Int) (out : List Bkg) (w : ByteArray) : List Bkg := out ++ [(kind, w, leftOf xs w)]
def setlL (xs : List Bkg) (kind : Int) : List Bkg := (openL xs).foldl (setlF xs kind) xs
def limS (out : List Bkg) : List Bkg × Int := if 60 < out.length then ([], 3) else if booksB out = true then (out, 0) else ([], 5)
def stlR (xs : List Bkg) (kind : Int) : List Bkg × Int := if booksB xs = true then (if inB kind 1 3 = true then limS (setlL xs kind) else ([], 2)) else ([], 1)
theorem room32n {n : Nat} (h : n ≤ 2000000) : n < room 32 := by rw [room32]; omega
structure SI (xs : List Bkg) (p : List ByteArray) (out : List Bkg) : Prop where
  len : out.length = xs.length + p.length
  ok : ∀ b ∈ out, OkBooking b
theorem Settle_l (xs : List Bkg) (kind : Int) (hk : 1 ≤ kind ∧ kind ≤ 3) (hok : ∀ b ∈ xs, OkBooking b) (h : ∀ b ∈ xs, valB b = true) (hl : xs.length ≤ 60) :
    SI xs (openL xs) (setlL xs kind) ∧ impl_SettleAll.l7 NN NN xs kind (openL xs).length 0 xs (openL xs) = some (limS (setlL xs kind)) ∧ spec_SettleAll.l8 NN NN xs kind 0 xs (openL xs) = some (limS (setlL xs kind)) := by
  obtain ⟨oi, _, _⟩ := open_both xs h (by omega)
  have hol := oi.len
  have hos := open_sm h (by omega)
  have step : ∀ (p : List ByteArray) (w : ByteArray) (out : List Bkg), wordB w = true → SI xs p out → SI xs (p ++ [w]) (setlF xs kind out w) := fun p w out hw hI => by
    have hb := leftOf_le w xs h
    refine ⟨by unfold setlF; have := hI.len; simp; omega, fun b hb' => ?_⟩
    unfold setlF at hb'
    rcases List.mem_append.1 hb' with h1 | h1
    · exact hI.ok b h1
    · rw [List.mem_singleton.1 h1]; exact ⟨wf64.2 (by simp only; omega), word_sm hw, wf64.2 (by simp only; omega)⟩
  have z0 : SI xs [] xs := ⟨by simp, hok⟩
  have e1 := fold_fix (E := fun w => wordB w = true) (fun p out => SI xs p out) (fun _ => setlF xs kind) (fun out => some (limS out)) (fun k i out => impl_SettleAll.l7 NN k xs kind (openL xs).length i out (openL xs)) (openL xs) ?_ ?_ xs hos z0 (by omega) NN (NN_lt (by omega))
  have e2 := fold_fix (E := fun w => wordB w = true) (fun p out => SI xs p out) (fun _ => setlF xs kind) (fun out => some (limS out)) (fun k i out => spec_SettleAll.l8 NN k xs kind i out (openL xs)) (openL xs) ?_ ?_ xs hos z0 (by omega) NN (NN_lt (by omega))
  · rw [foldi_foldl] at e1 e2
    exact ⟨e1.1, e1.2, e2.2⟩
  · intro k out hI
    have := hI.len
    simp only [spec_SettleAll.l8, spec_SettleAll.g8, Int.lt_irrefl, and_self, and_true, true_and, decide_true, decide_false, if_true, if_false, mid_get, mid_set, mid_getn, mid_setn, bt_mid, Option.bind_some, Bool.not_true, Bool.not_false, Bool.false_eq_true, Bool.true_eq_false, beq_self_eq_true, bne_self_eq_false, Int.toNat_natCast]
    unfold spec_l32Limits.f spec_l32Limits.fn spec_l32Limits.top limS
    by_cases h6 : 60 < out.length
    · have h6' : (60 : Int) < (out.length : Int) := by omega
      simp only [h6, h6', and_self, and_true, true_and, decide_true, decide_false, if_true, if_false, mid_get, mid_set, mid_getn, mid_setn, bt_mid, Option.bind_some, Bool.not_true, Bool.not_false, Bool.false_eq_true, Bool.true_eq_false, beq_self_eq_true, bne_self_eq_false, Int.toNat_natCast]; rfl
    · have h6' : ¬ (60 : Int) < (out.length : Int) := by omega
      simp only [h6, h6', and_self, and_true, true_and, decide_true, decide_false, if_true, if_false, mid_get, mid_set, mid_getn, mid_setn, bt_mid, Option.bind_some, Bool.not_true, Bool.not_false, Bool.false_eq_true, Bool.true_eq_false, beq_self_eq_true, bne_self_eq_false, Int.toNat_natCast]
      rw [spec_AreBookings_f out ⟨by omega, hI.ok⟩]
      cases booksB out <;> rfl
  · intro k p w r out hx hw hI c0 c1 c2 cw g
    refine ⟨step p w out hw hI, ?_⟩
    have hpl : p.length ≤ 60 := by have := congrArg List.length hx; simp at this; omega
    have hil := hI.len
    have hr := room32n (n := out.length + [(kind, w, leftOf xs w)].length) (by simp; omega)
    simp only [spec_SettleAll.l8, spec_SettleAll.g8, c0, c1, cw, and_self, and_true, true_and, decide_true, decide_false, if_true, if_false, mid_get, mid_set, mid_getn, mid_setn, bt_mid, Option.bind_some, Bool.not_true, Bool.not_false, Bool.false_eq_true, Bool.true_eq_false, beq_self_eq_true, bne_self_eq_false, Int.toNat_natCast, g, l32Left_all xs _ h (by omega), hr]
    rfl
  · intro k out hI
    have := hI.len
    simp only [impl_SettleAll.l7, impl_SettleAll.g7, Int.lt_irrefl, and_self, and_true, true_and, decide_true, decide_false, if_true, if_false, mid_get, mid_set, mid_getn, mid_setn, bt_mid, Option.bind_some, Bool.not_true, Bool.not_false, Bool.false_eq_true, Bool.true_eq_false, beq_self_eq_true, bne_self_eq_false, Int.toNat_natCast]
    unfold limS
    by_cases h6 : 60 < out.length
    · have h6' : (60 : Int) < (out.length : Int) := by omega
      simp only [h6, h6', and_self, and_true, true_and, decide_true, decide_false, if_true, if_false, mid_get, mid_set, mid_getn, mid_setn, bt_mid, Option.bind_some, Bool.not_true, Bool.not_false, Bool.false_eq_true, Bool.true_eq_false, beq_self_eq_true, bne_self_eq_false, Int.toNat_natCast]
    · have h6' : ¬ (60 : Int) < (out.length : Int) := by omega
      simp only [h6, h6', and_self, and_true, true_and, decide_true, decide_false, if_true, if_false, mid_get, mid_set, mid_getn, mid_setn, bt_mid, Option.bind_some, Bool.not_true, Bool.not_false, Bool.false_eq_true, Bool.true_eq_false, beq_self_eq_true, bne_self_eq_false, Int.toNat_natCast]
      rw [impl_AreBookings_f out ⟨by omega, hI.ok⟩]
      cases booksB out <;> rfl
  · intro k p w r out hx hw hI c0 c1 c2 cw g
    refine ⟨step p w out hw hI, ?_⟩
    have hpl : p.length ≤ 60 := by have := congrArg List.length hx; simp at this; omega
    have hil := hI.len
    have hr := room32n (n := out.length + [(kind, w, leftOf xs w)].length) (by simp; omega)
    simp only [impl_SettleAll.l7, impl_SettleAll.g7, c0, c1, cw, and_self, and_true, true_and, decide_true, decide_false, if_true, if_false, mid_get, mid_set, mid_getn, mid_setn, bt_mid, Option.bind_some, Bool.not_true, Bool.not_false, Bool.false_eq_true, Bool.true_eq_false, beq_self_eq_true, bne_self_eq_false, Int.toNat_natCast, g, impl_piecesLeft_f xs _ h (by omega), hr]
    rfl
theorem SettleAll_both (xs : List Bkg) (kind : Int) (h : Lm OkBooking xs) : spec_SettleAll.f xs kind = some (stlR xs kind) ∧ impl_SettleAll.f xs kind = some (stlR xs kind) := by
  unfold spec_SettleAll.f spec_SettleAll.fn spec_SettleAll.top impl_SettleAll.f impl_SettleAll.fn impl_SettleAll.top stlR
  rw [spec_AreBookings_f xs h, impl_AreBookings_f xs h, spec_l01In_f, impl_within_f]
  cases hx : booksB xs
  · exact ⟨rfl, rfl⟩
  have hv := booksB_val hx
  cases hk : inB kind 1 3
  · exact ⟨rfl, rfl⟩
  obtain ⟨_, e1, e2⟩ := open_both xs hv.1 (by omega)
  obtain ⟨_, e3, e4⟩ := Settle_l xs kind (inB_iff.1 hk) h.2 hv.1 hv.2
  have hr := room32n (n := 0 + xs.length) (by omega)
  simp only [Option.bind_some, Bool.not_true, Bool.false_eq_true, if_false, if_true, List.length_nil, List.nil_append, hr, e1, e2, e3, e4, and_self]
theorem stlR_ok (xs : List Bkg) (kind : Int) (h : Lm OkBooking xs) : Lm OkBooking (stlR xs kind).1 := by
  unfold stlR
  split
  · rename_i hx
    have hv := booksB_val hx
    split
    · rename_i hk
      obtain ⟨hs, _, _⟩ := Settle_l xs kind (inB_iff.1 hk) h.2 hv.1 hv.2
      obtain ⟨oi, _, _⟩ := open_both xs hv.1 (by omega)
      have := oi.len
      have := hs.len
      unfold limS
      split
      · exact ⟨by simp, by simp⟩
      · split
        · exact ⟨by simp only; omega, hs.ok⟩
        · exact ⟨by simp, by simp⟩
    · exact ⟨by simp, by simp⟩
  · exact ⟨by simp, by simp⟩
theorem SettleAll_core (xs : List Bkg) (kind : Int) (h : Lm OkBooking xs) (_ : Rg .i64 kind) : ∃ w, spec_SettleAll.f xs kind = some w ∧ impl_SettleAll.f xs kind = some w ∧ Lm OkBooking w.1 :=
  ⟨_, (SettleAll_both xs kind h).1, (SettleAll_both xs kind h).2, stlR_ok xs kind h⟩
end Go.Pl

namespace Go.Pl
open Go.Ev
set_option linter.unusedVariables false
set_option linter.unusedSimpArgs false
theorem FnExactSettleAll_true (aList : List (Int × ByteArray × Int)) (aKind : Int) (hyp : Ls PlBooking aList ∧ Rg .i64 aKind) : laws_FnExactSettleAll.f aList aKind = some true := by
  obtain ⟨h_aList, h_aKind⟩ := hyp
  unfold laws_FnExactSettleAll.f laws_FnExactSettleAll.fn laws_FnExactSettleAll.top
  obtain ⟨s1, e1, l1, k1⟩ := laws_szBookingS_ok aList 1000000 (by omega) (by omega) h_aList
  simp only [e1, Option.bind_some, decide_eq_true_eq]
  by_cases hn1 : s1 < 0
  · simp [hn1]
  simp only [hn1, if_false]
  obtain ⟨q1, o_aList⟩ := k1 (by omega)
  have o_aKind := h_aKind
  obtain ⟨f0_aList, t_aList, i_aList⟩ := laws_toBookingS_both aList o_aList
  obtain ⟨⟨w0, w1⟩, c1, c2, c3⟩ := SettleAll_core aList aKind o_aList o_aKind
  have c4 := c3
  have c3_0 : Lm OkBooking w0 := c3
  have eq_0 := laws_eqBookingS_self w0 (Nat.le_trans c3_0.1 (by omega))
  obtain ⟨m1, d1, x1, y1, z1, u1⟩ := laws_markBookingS_ok aList o_aList 101 (by omega) (by omega)
  have kn : ¬ m1 < 0 := by omega
  obtain ⟨m2, d2, x2, y2, z2, u2⟩ := laws_markBookingS_ok w0 c3_0 101 (by omega) (by omega)
  have n2 : ¬ m2 < 0 := by omega
  simp [t_aList, i_aList, c1, c2, eq_0, x1, kn, x2, y2, n2]
end Go.Pl
