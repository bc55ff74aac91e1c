/- Part 2 of what the law FnExactMergePapers stands on: an evaluator of the model's code, proved sound; the functions as plain texts; their contracts. -/
import Derived.Test.YtgddpcjbjkbpcaaChecked
import Derived.Test.YtgddpcjbjkbpcaaProg
import Derived.Test.YtgddpcjbjkbpcaaRows
import Derived.Below
import Derived.Calls
import Derived.Carry
import Derived.ChangeArms
import Derived.ChangeKeysEq
import Derived.ChangeOld
import Derived.Deep.Quiet
import Derived.KernelRfl
import Derived.Laws.Append
import Derived.Laws.BytesString
import Derived.Laws.MakeOwn
import Derived.Laws.Strings
import Derived.Laws.StructEq
import Derived.OpenShut
import Derived.OrdersHeld
import Derived.ProofKit
import Derived.ShutString
import Derived.SizedLaws
import Derived.Tactics
import Derived.WalkKit
import Derived.WideShapes
import Derived.Test.YtgddpcjbjkbpcaaEvExactMergePapers1
namespace Go.Ev.Try
open Go.Proofs Go.Pl
set_option linter.unusedVariables false
noncomputable section
def spec_l29Put.st2 (lines0 : List (ByteArray × Int)) (article1 : ByteArray) (count2 : Int) (at7 : Int) : St := ⟨[.dat (.sl 82 (.pair .str (.int .i64))) lines0, .dat .str article1, .dat (.int .i64) count2, .gone, .gone, .gone, .gone, .dat (.int .i64) at7, .gone, .gone, .gone, .gone, .gone, .gone, .gone, .gone, .gone, .gone, .gone, .gone, .gone, .gone, .gone, .gone, .gone, .gone, .gone, .gone, .gone, .gone, .gone, .gone, .gone, .gone, .gone, .gone, .gone, .gone, .gone, .gone, .gone, .gone, .gone, .gone, .gone, .gone, .gone, .gone, .gone, .gone, .gone, .gone, .gone, .gone, .gone, .gone, .gone, .gone, .gone, .gone, .gone], []⟩
def spec_l29Put.g2raw (L2 : (List (ByteArray × Int)) → ByteArray → Int → Int → Option (List (ByteArray × Int))) (lines0 : List (ByteArray × Int)) (article1 : ByteArray) (count2 : Int) (at7 : Int) : Option (List (ByteArray × Int)) :=
  if (decide ((at7 : Int) < (lines0.length : Int))) = true then
    if (0 : Int) ≤ at7 ∧ (at7 : Int) < lines0.length then
      if (Op.bytesLess ((lines0.getD (at7 : Int).toNat (ByteArray.empty, 0)).1).toList article1.toList) = true then
        L2 lines0 article1 count2 (IntKind.i64.wrap (at7 + 1))
      else if (decide ((at7 : Int) < (lines0.length : Int))) = true then
        if (0 : Int) ≤ at7 ∧ (at7 : Int) < lines0.length then
          if (((lines0.getD (at7 : Int).toNat (ByteArray.empty, 0)).1).toList == article1.toList) = true then
            if (0 : Int) ≤ at7 ∧ (at7 : Int) < lines0.length then
              if (0 : Int) ≤ at7 ∧ (at7 : Int) ≤ lines0.length then
                if (0 : Int) ≤ (IntKind.i64.wrap (at7 + 1)) ∧ ((IntKind.i64.wrap (at7 + 1)) : Int) ≤ lines0.length then
                  agree (
                    agree (
                      if ([] : List (ByteArray × Int)).length + (lines0.take (at7 : Int).toNat).length < room 24 then
                        if (([] : List (ByteArray × Int)) ++ (lines0.take (at7 : Int).toNat)).length + ([(article1, IntKind.i64.wrap (count2 + ((lines0.getD (at7 : Int).toNat (ByteArray.empty, 0)).2)))]).length < room 24 then
                          if ((([] : List (ByteArray × Int)) ++ (lines0.take (at7 : Int).toNat)) ++ ([(article1, IntKind.i64.wrap (count2 + ((lines0.getD (at7 : Int).toNat (ByteArray.empty, 0)).2)))])).length + (lines0.drop ((IntKind.i64.wrap (at7 + 1)) : Int).toNat).length < room 24 then
                            some (((([] : List (ByteArray × Int)) ++ (lines0.take (at7 : Int).toNat)) ++ ([(article1, IntKind.i64.wrap (count2 + ((lines0.getD (at7 : Int).toNat (ByteArray.empty, 0)).2)))])) ++ (lines0.drop ((IntKind.i64.wrap (at7 + 1)) : Int).toNat))
                          else
                            none
                        else
                          none
                      else
                        none
                    ) (
                      if ([] : List (ByteArray × Int)).length + (lines0.take (at7 : Int).toNat).length < room 24 then
                        if (([] : List (ByteArray × Int)) ++ (lines0.take (at7 : Int).toNat)).length + ([(article1, IntKind.i64.wrap (count2 + ((lines0.getD (at7 : Int).toNat (ByteArray.empty, 0)).2)))]).length < room 24 then
                          if ((([] : List (ByteArray × Int)) ++ (lines0.take (at7 : Int).toNat)) ++ ([(article1, IntKind.i64.wrap (count2 + ((lines0.getD (at7 : Int).toNat (ByteArray.empty, 0)).2)))])).length + (lines0.drop ((IntKind.i64.wrap (at7 + 1)) : Int).toNat).length < room 24 then
                            some (((([] : List (ByteArray × Int)) ++ (lines0.take (at7 : Int).toNat)) ++ ([(article1, IntKind.i64.wrap (count2 + ((lines0.getD (at7 : Int).toNat (ByteArray.empty, 0)).2)))])) ++ (lines0.drop ((IntKind.i64.wrap (at7 + 1)) : Int).toNat))
                          else
                            none
                        else
                          none
                      else
                        none
                    )
                  ) (
                    if ([] : List (ByteArray × Int)).length + (lines0.take (at7 : Int).toNat).length < room 24 then
                      if (([] : List (ByteArray × Int)) ++ (lines0.take (at7 : Int).toNat)).length + ([(article1, IntKind.i64.wrap (count2 + ((lines0.getD (at7 : Int).toNat (ByteArray.empty, 0)).2)))]).length < room 24 then
                        if ((([] : List (ByteArray × Int)) ++ (lines0.take (at7 : Int).toNat)) ++ ([(article1, IntKind.i64.wrap (count2 + ((lines0.getD (at7 : Int).toNat (ByteArray.empty, 0)).2)))])).length + (lines0.drop ((IntKind.i64.wrap (at7 + 1)) : Int).toNat).length < room 24 then
                          some (((([] : List (ByteArray × Int)) ++ (lines0.take (at7 : Int).toNat)) ++ ([(article1, IntKind.i64.wrap (count2 + ((lines0.getD (at7 : Int).toNat (ByteArray.empty, 0)).2)))])) ++ (lines0.drop ((IntKind.i64.wrap (at7 + 1)) : Int).toNat))
                        else
                          none
                      else
                        none
                    else
                      none
                  )
                else
                  none
              else
                none
            else
              none
          else if (0 : Int) ≤ at7 ∧ (at7 : Int) ≤ lines0.length then
            if (0 : Int) ≤ at7 ∧ (at7 : Int) ≤ lines0.length then
              agree (
                agree (
                  if ([] : List (ByteArray × Int)).length + (lines0.take (at7 : Int).toNat).length < room 24 then
                    if (([] : List (ByteArray × Int)) ++ (lines0.take (at7 : Int).toNat)).length + ([(article1, count2)]).length < room 24 then
                      if ((([] : List (ByteArray × Int)) ++ (lines0.take (at7 : Int).toNat)) ++ ([(article1, count2)])).length + (lines0.drop (at7 : Int).toNat).length < room 24 then
                        some (((([] : List (ByteArray × Int)) ++ (lines0.take (at7 : Int).toNat)) ++ ([(article1, count2)])) ++ (lines0.drop (at7 : Int).toNat))
                      else
                        none
                    else
                      none
                  else
                    none
                ) (
                  if ([] : List (ByteArray × Int)).length + (lines0.take (at7 : Int).toNat).length < room 24 then
                    if (([] : List (ByteArray × Int)) ++ (lines0.take (at7 : Int).toNat)).length + ([(article1, count2)]).length < room 24 then
                      if ((([] : List (ByteArray × Int)) ++ (lines0.take (at7 : Int).toNat)) ++ ([(article1, count2)])).length + (lines0.drop (at7 : Int).toNat).length < room 24 then
                        some (((([] : List (ByteArray × Int)) ++ (lines0.take (at7 : Int).toNat)) ++ ([(article1, count2)])) ++ (lines0.drop (at7 : Int).toNat))
                      else
                        none
                    else
                      none
                  else
                    none
                )
              ) (
                if ([] : List (ByteArray × Int)).length + (lines0.take (at7 : Int).toNat).length < room 24 then
                  if (([] : List (ByteArray × Int)) ++ (lines0.take (at7 : Int).toNat)).length + ([(article1, count2)]).length < room 24 then
                    if ((([] : List (ByteArray × Int)) ++ (lines0.take (at7 : Int).toNat)) ++ ([(article1, count2)])).length + (lines0.drop (at7 : Int).toNat).length < room 24 then
                      some (((([] : List (ByteArray × Int)) ++ (lines0.take (at7 : Int).toNat)) ++ ([(article1, count2)])) ++ (lines0.drop (at7 : Int).toNat))
                    else
                      none
                  else
                    none
                else
                  none
              )
            else
              none
          else
            none
        else
          none
      else if (0 : Int) ≤ at7 ∧ (at7 : Int) ≤ lines0.length then
        if (0 : Int) ≤ at7 ∧ (at7 : Int) ≤ lines0.length then
          agree (
            agree (
              if ([] : List (ByteArray × Int)).length + (lines0.take (at7 : Int).toNat).length < room 24 then
                if (([] : List (ByteArray × Int)) ++ (lines0.take (at7 : Int).toNat)).length + ([(article1, count2)]).length < room 24 then
                  if ((([] : List (ByteArray × Int)) ++ (lines0.take (at7 : Int).toNat)) ++ ([(article1, count2)])).length + (lines0.drop (at7 : Int).toNat).length < room 24 then
                    some (((([] : List (ByteArray × Int)) ++ (lines0.take (at7 : Int).toNat)) ++ ([(article1, count2)])) ++ (lines0.drop (at7 : Int).toNat))
                  else
                    none
                else
                  none
              else
                none
            ) (
              if ([] : List (ByteArray × Int)).length + (lines0.take (at7 : Int).toNat).length < room 24 then
                if (([] : List (ByteArray × Int)) ++ (lines0.take (at7 : Int).toNat)).length + ([(article1, count2)]).length < room 24 then
                  if ((([] : List (ByteArray × Int)) ++ (lines0.take (at7 : Int).toNat)) ++ ([(article1, count2)])).length + (lines0.drop (at7 : Int).toNat).length < room 24 then
                    some (((([] : List (ByteArray × Int)) ++ (lines0.take (at7 : Int).toNat)) ++ ([(article1, count2)])) ++ (lines0.drop (at7 : Int).toNat))
                  else
                    none
                else
                  none
              else
                none
            )
          ) (
            if ([] : List (ByteArray × Int)).length + (lines0.take (at7 : Int).toNat).length < room 24 then
              if (([] : List (ByteArray × Int)) ++ (lines0.take (at7 : Int).toNat)).length + ([(article1, count2)]).length < room 24 then
                if ((([] : List (ByteArray × Int)) ++ (lines0.take (at7 : Int).toNat)) ++ ([(article1, count2)])).length + (lines0.drop (at7 : Int).toNat).length < room 24 then
                  some (((([] : List (ByteArray × Int)) ++ (lines0.take (at7 : Int).toNat)) ++ ([(article1, count2)])) ++ (lines0.drop (at7 : Int).toNat))
                else
                  none
              else
                none
            else
              none
          )
        else
          none
      else
        none
    else
      none
  else if (decide ((at7 : Int) < (lines0.length : Int))) = true then
    if (0 : Int) ≤ at7 ∧ (at7 : Int) < lines0.length then
      if (((lines0.getD (at7 : Int).toNat (ByteArray.empty, 0)).1).toList == article1.toList) = true then
        if (0 : Int) ≤ at7 ∧ (at7 : Int) < lines0.length then
          if (0 : Int) ≤ at7 ∧ (at7 : Int) ≤ lines0.length then
            if (0 : Int) ≤ (IntKind.i64.wrap (at7 + 1)) ∧ ((IntKind.i64.wrap (at7 + 1)) : Int) ≤ lines0.length then
              agree (
                agree (
                  if ([] : List (ByteArray × Int)).length + (lines0.take (at7 : Int).toNat).length < room 24 then
                    if (([] : List (ByteArray × Int)) ++ (lines0.take (at7 : Int).toNat)).length + ([(article1, IntKind.i64.wrap (count2 + ((lines0.getD (at7 : Int).toNat (ByteArray.empty, 0)).2)))]).length < room 24 then
                      if ((([] : List (ByteArray × Int)) ++ (lines0.take (at7 : Int).toNat)) ++ ([(article1, IntKind.i64.wrap (count2 + ((lines0.getD (at7 : Int).toNat (ByteArray.empty, 0)).2)))])).length + (lines0.drop ((IntKind.i64.wrap (at7 + 1)) : Int).toNat).length < room 24 then
                        some (((([] : List (ByteArray × Int)) ++ (lines0.take (at7 : Int).toNat)) ++ ([(article1, IntKind.i64.wrap (count2 + ((lines0.getD (at7 : Int).toNat (ByteArray.empty, 0)).2)))])) ++ (lines0.drop ((IntKind.i64.wrap (at7 + 1)) : Int).toNat))
                      else
                        none
                    else
                      none
                  else
                    none
                ) (
                  if ([] : List (ByteArray × Int)).length + (lines0.take (at7 : Int).toNat).length < room 24 then
                    if (([] : List (ByteArray × Int)) ++ (lines0.take (at7 : Int).toNat)).length + ([(article1, IntKind.i64.wrap (count2 + ((lines0.getD (at7 : Int).toNat (ByteArray.empty, 0)).2)))]).length < room 24 then
                      if ((([] : List (ByteArray × Int)) ++ (lines0.take (at7 : Int).toNat)) ++ ([(article1, IntKind.i64.wrap (count2 + ((lines0.getD (at7 : Int).toNat (ByteArray.empty, 0)).2)))])).length + (lines0.drop ((IntKind.i64.wrap (at7 + 1)) : Int).toNat).length < room 24 then
                        some (((([] : List (ByteArray × Int)) ++ (lines0.take (at7 : Int).toNat)) ++ ([(article1, IntKind.i64.wrap (count2 + ((lines0.getD (at7 : Int).toNat (ByteArray.empty, 0)).2)))])) ++ (lines0.drop ((IntKind.i64.wrap (at7 + 1)) : Int).toNat))
                      else
                        none
                    else
                      none
                  else
                    none
                )
              ) (
                if ([] : List (ByteArray × Int)).length + (lines0.take (at7 : Int).toNat).length < room 24 then
                  if (([] : List (ByteArray × Int)) ++ (lines0.take (at7 : Int).toNat)).length + ([(article1, IntKind.i64.wrap (count2 + ((lines0.getD (at7 : Int).toNat (ByteArray.empty, 0)).2)))]).length < room 24 then
                    if ((([] : List (ByteArray × Int)) ++ (lines0.take (at7 : Int).toNat)) ++ ([(article1, IntKind.i64.wrap (count2 + ((lines0.getD (at7 : Int).toNat (ByteArray.empty, 0)).2)))])).length + (lines0.drop ((IntKind.i64.wrap (at7 + 1)) : Int).toNat).length < room 24 then
                      some (((([] : List (ByteArray × Int)) ++ (lines0.take (at7 : Int).toNat)) ++ ([(article1, IntKind.i64.wrap (count2 + ((lines0.getD (at7 : Int).toNat (ByteArray.empty, 0)).2)))])) ++ (lines0.drop ((IntKind.i64.wrap (at7 + 1)) : Int).toNat))
                    else
                      none
                  else
                    none
                else
                  none
              )
            else
              none
          else
            none
        else
          none
      else if (0 : Int) ≤ at7 ∧ (at7 : Int) ≤ lines0.length then
        if (0 : Int) ≤ at7 ∧ (at7 : Int) ≤ lines0.length then
          agree (
            agree (
              if ([] : List (ByteArray × Int)).length + (lines0.take (at7 : Int).toNat).length < room 24 then
                if (([] : List (ByteArray × Int)) ++ (lines0.take (at7 : Int).toNat)).length + ([(article1, count2)]).length < room 24 then
                  if ((([] : List (ByteArray × Int)) ++ (lines0.take (at7 : Int).toNat)) ++ ([(article1, count2)])).length + (lines0.drop (at7 : Int).toNat).length < room 24 then
                    some (((([] : List (ByteArray × Int)) ++ (lines0.take (at7 : Int).toNat)) ++ ([(article1, count2)])) ++ (lines0.drop (at7 : Int).toNat))
                  else
                    none
                else
                  none
              else
                none
            ) (
              if ([] : List (ByteArray × Int)).length + (lines0.take (at7 : Int).toNat).length < room 24 then
                if (([] : List (ByteArray × Int)) ++ (lines0.take (at7 : Int).toNat)).length + ([(article1, count2)]).length < room 24 then
                  if ((([] : List (ByteArray × Int)) ++ (lines0.take (at7 : Int).toNat)) ++ ([(article1, count2)])).length + (lines0.drop (at7 : Int).toNat).length < room 24 then
                    some (((([] : List (ByteArray × Int)) ++ (lines0.take (at7 : Int).toNat)) ++ ([(article1, count2)])) ++ (lines0.drop (at7 : Int).toNat))
                  else
                    none
                else
                  none
              else
                none
            )
          ) (
            if ([] : List (ByteArray × Int)).length + (lines0.take (at7 : Int).toNat).length < room 24 then
              if (([] : List (ByteArray × Int)) ++ (lines0.take (at7 : Int).toNat)).length + ([(article1, count2)]).length < room 24 then
                if ((([] : List (ByteArray × Int)) ++ (lines0.take (at7 : Int).toNat)) ++ ([(article1, count2)])).length + (lines0.drop (at7 : Int).toNat).length < room 24 then
                  some (((([] : List (ByteArray × Int)) ++ (lines0.take (at7 : Int).toNat)) ++ ([(article1, count2)])) ++ (lines0.drop (at7 : Int).toNat))
                else
                  none
              else
                none
            else
              none
          )
        else
          none
      else
        none
    else
      none
  else if (0 : Int) ≤ at7 ∧ (at7 : Int) ≤ lines0.length then
    if (0 : Int) ≤ at7 ∧ (at7 : Int) ≤ lines0.length then
      agree (
        agree (
          if ([] : List (ByteArray × Int)).length + (lines0.take (at7 : Int).toNat).length < room 24 then
            if (([] : List (ByteArray × Int)) ++ (lines0.take (at7 : Int).toNat)).length + ([(article1, count2)]).length < room 24 then
              if ((([] : List (ByteArray × Int)) ++ (lines0.take (at7 : Int).toNat)) ++ ([(article1, count2)])).length + (lines0.drop (at7 : Int).toNat).length < room 24 then
                some (((([] : List (ByteArray × Int)) ++ (lines0.take (at7 : Int).toNat)) ++ ([(article1, count2)])) ++ (lines0.drop (at7 : Int).toNat))
              else
                none
            else
              none
          else
            none
        ) (
          if ([] : List (ByteArray × Int)).length + (lines0.take (at7 : Int).toNat).length < room 24 then
            if (([] : List (ByteArray × Int)) ++ (lines0.take (at7 : Int).toNat)).length + ([(article1, count2)]).length < room 24 then
              if ((([] : List (ByteArray × Int)) ++ (lines0.take (at7 : Int).toNat)) ++ ([(article1, count2)])).length + (lines0.drop (at7 : Int).toNat).length < room 24 then
                some (((([] : List (ByteArray × Int)) ++ (lines0.take (at7 : Int).toNat)) ++ ([(article1, count2)])) ++ (lines0.drop (at7 : Int).toNat))
              else
                none
            else
              none
          else
            none
        )
      ) (
        if ([] : List (ByteArray × Int)).length + (lines0.take (at7 : Int).toNat).length < room 24 then
          if (([] : List (ByteArray × Int)) ++ (lines0.take (at7 : Int).toNat)).length + ([(article1, count2)]).length < room 24 then
            if ((([] : List (ByteArray × Int)) ++ (lines0.take (at7 : Int).toNat)) ++ ([(article1, count2)])).length + (lines0.drop (at7 : Int).toNat).length < room 24 then
              some (((([] : List (ByteArray × Int)) ++ (lines0.take (at7 : Int).toNat)) ++ ([(article1, count2)])) ++ (lines0.drop (at7 : Int).toNat))
            else
              none
          else
            none
        else
          none
      )
    else
      none
  else
    none
theorem spec_l29Put.g2raw_eq (L2 : (List (ByteArray × Int)) → ByteArray → Int → Int → Option (List (ByteArray × Int))) (lines0 : List (ByteArray × Int)) (article1 : ByteArray) (count2 : Int) (at7 : Int) : spec_l29Put.g2raw L2 lines0 article1 count2 at7 = spec_l29Put.g2 L2 lines0 article1 count2 at7 := by
  unfold spec_l29Put.g2raw spec_l29Put.g2
  simp only [agree_self]
def spec_l29Put.con : Con := { ps := [(.val, (.sl 82 (.pair .str (.int .i64)))), (.val, .str), (.val, (.int .i64))], rs := [(.own, (.sl 82 (.pair .str (.int .i64))))], F := fun x => spec_l29Put.f x.1 x.2.1 x.2.2 }
def spec_l29Put.cs : List (FuncId × Con) := []
def spec_l29Put.E : Env := envOf tab spec_l29Put.cs 0 false
def spec_l29Put.keep (i : Nat) : List Nat := if i = 2 then [0, 1, 2, 7] else []
def spec_l29Put.at2 (n : Nat) (x : (List (ByteArray × Int)) × ByteArray × Int) : Code × (Ex → St → Option ((List (ByteArray × Int)))) := ctx spec_l29Put.E spec_l29Put.keep n [.snd, .snd, .fst, .blk] (codeOf Try.f104) (kEnd spec_l29Put.E Try.f104 spec_l29Put.con x)
def spec_l29Put.LN2 (n : Nat) (x : (List (ByteArray × Int)) × ByteArray × Int) : Nat → St → Option ((List (ByteArray × Int))) := loopN (exec spec_l29Put.E spec_l29Put.keep n (bodyOf (spec_l29Put.at2 n x).1)) (St.norm 0 (spec_l29Put.keep 2)) (spec_l29Put.at2 n x).2
set_option maxRecDepth 100000 in
theorem spec_l29Put.lem2 (n : Nat) (x : (List (ByteArray × Int)) × ByteArray × Int) : ∀ (k : Nat) (lines0 : List (ByteArray × Int)) (article1 : ByteArray) (count2 : Int) (at7 : Int), spec_l29Put.LN2 n x k (spec_l29Put.st2 lines0 article1 count2 at7) = spec_l29Put.l2 n k lines0 article1 count2 at7 := by
  intro k
  induction k with
  | zero => intro lines0 article1 count2 at7; rfl
  | succ k ih =>
    intro lines0 article1 count2 at7
    have h : spec_l29Put.LN2 n x (k + 1) (spec_l29Put.st2 lines0 article1 count2 at7) = spec_l29Put.g2raw (fun lines0 article1 count2 at7 => spec_l29Put.LN2 n x k (spec_l29Put.st2 lines0 article1 count2 at7)) lines0 article1 count2 at7 := by kernel_rfl
    rw [spec_l29Put.g2raw_eq] at h
    rw [h]
    simp only [ih]
    rfl
set_option maxRecDepth 100000 in
theorem spec_l29Put.body (n : Nat) (x : (List (ByteArray × Int)) × ByteArray × Int) : bodyF spec_l29Put.E spec_l29Put.keep n Try.f104 spec_l29Put.con x = spec_l29Put.fn n x.1 x.2.1 x.2.2 := by
  have h : bodyF spec_l29Put.E spec_l29Put.keep n Try.f104 spec_l29Put.con x = spec_l29Put.top (fun lines0 article1 count2 at7 => spec_l29Put.LN2 n x n (spec_l29Put.st2 lines0 article1 count2 at7)) x.1 x.2.1 x.2.2 := by kernel_rfl
  rw [h]
  simp only [spec_l29Put.lem2]
  rfl
set_option maxRecDepth 100000 in
theorem spec_l29Put.good : Good Try.prog 104 spec_l29Put.con :=
  good_of tabok (cs := spec_l29Put.cs) trivial 0 false (fn := Try.f104) Try.func104 rfl (by decide) (by simp [spec_l29Put.con]) spec_l29Put.keep NN (fun _ => rfl) (fun x => spec_l29Put.body NN x)
end
end Go.Ev.Try

namespace Go.Ev.Try
open Go.Proofs Go.Pl
set_option linter.unusedVariables false
noncomputable section
def spec_MergePapers.st5 (i7 : Int) (b3 : ByteArray × Int × List (ByteArray × Int)) (v4a : ByteArray) (v4ba : Int) (out6a : ByteArray) (out6ba : Int) (w3 : List (ByteArray × Int)) (w4 : List (ByteArray × Int)) : St := ⟨[.gone, .gone, .gone, .ptr 0 [], .ptr 1 [], .gone, .ptr 2 [], .dat (.int .i64) i7, .gone, .gone, .gone, .gone, .gone, .gone, .gone, .gone, .gone, .gone, .gone, .gone, .gone, .gone, .gone, .gone, .gone, .gone, .gone, .gone, .gone, .gone, .gone, .gone, .gone, .gone, .gone, .gone, .gone, .gone, .gone, .gone, .gone, .gone, .gone, .gone, .gone, .gone, .gone, .gone, .gone, .gone, .gone, .gone, .gone, .gone], [.box 47 (.pair .str (.pair (.int .i64) (.sl 82 (.pair .str (.int .i64))))) (.dat (.pair .str (.pair (.int .i64) (.sl 82 (.pair .str (.int .i64))))) b3), .box 47 (.pair .str (.pair (.int .i64) (.sl 82 (.pair .str (.int .i64))))) (.pr (.dat .str v4a) (.pr (.dat (.int .i64) v4ba) (.ref 3))), .box 47 (.pair .str (.pair (.int .i64) (.sl 82 (.pair .str (.int .i64))))) (.pr (.dat .str out6a) (.pr (.dat (.int .i64) out6ba) (.ref 4))), .row 82 (.pair .str (.int .i64)) w3 none, .row 82 (.pair .str (.int .i64)) w4 none]⟩
def spec_MergePapers.st1000004 (b3 : ByteArray × Int × List (ByteArray × Int)) (v4a : ByteArray) (v4ba : Int) (out6a : ByteArray) (out6ba : Int) (w3 : List (ByteArray × Int)) (w4 : List (ByteArray × Int)) : St := ⟨[.gone, .gone, .gone, .ptr 0 [], .ptr 1 [], .gone, .ptr 2 [], .gone, .gone, .gone, .gone, .gone, .gone, .gone, .gone, .gone, .gone, .gone, .gone, .gone, .gone, .gone, .gone, .gone, .gone, .gone, .gone, .gone, .gone, .gone, .gone, .gone, .gone, .gone, .gone, .gone, .gone, .gone, .gone, .gone, .gone, .gone, .gone, .gone, .gone, .gone, .gone, .gone, .gone, .gone, .gone, .gone, .gone, .gone], [.box 47 (.pair .str (.pair (.int .i64) (.sl 82 (.pair .str (.int .i64))))) (.dat (.pair .str (.pair (.int .i64) (.sl 82 (.pair .str (.int .i64))))) b3), .box 47 (.pair .str (.pair (.int .i64) (.sl 82 (.pair .str (.int .i64))))) (.pr (.dat .str v4a) (.pr (.dat (.int .i64) v4ba) (.ref 3))), .box 47 (.pair .str (.pair (.int .i64) (.sl 82 (.pair .str (.int .i64))))) (.pr (.dat .str out6a) (.pr (.dat (.int .i64) out6ba) (.ref 4))), .row 82 (.pair .str (.int .i64)) w3 none, .row 82 (.pair .str (.int .i64)) w4 none]⟩
def spec_MergePapers.st1000003 (a2 : ByteArray × Int × List (ByteArray × Int)) (b3 : ByteArray × Int × List (ByteArray × Int)) (v4a : ByteArray) (v4ba : Int) (w3 : List (ByteArray × Int)) : St := ⟨[.gone, .gone, .ptr 0 [], .ptr 1 [], .ptr 2 [], .gone, .gone, .gone, .gone, .gone, .gone, .gone, .gone, .gone, .gone, .gone, .gone, .gone, .gone, .gone, .gone, .gone, .gone, .gone, .gone, .gone, .gone, .gone, .gone, .gone, .gone, .gone, .gone, .gone, .gone, .gone, .gone, .gone, .gone, .gone, .gone, .gone, .gone, .gone, .gone, .gone, .gone, .gone, .gone, .gone, .gone, .gone, .gone, .gone], [.box 47 (.pair .str (.pair (.int .i64) (.sl 82 (.pair .str (.int .i64))))) (.dat (.pair .str (.pair (.int .i64) (.sl 82 (.pair .str (.int .i64))))) a2), .box 47 (.pair .str (.pair (.int .i64) (.sl 82 (.pair .str (.int .i64))))) (.dat (.pair .str (.pair (.int .i64) (.sl 82 (.pair .str (.int .i64))))) b3), .box 47 (.pair .str (.pair (.int .i64) (.sl 82 (.pair .str (.int .i64))))) (.pr (.dat .str v4a) (.pr (.dat (.int .i64) v4ba) (.ref 3))), .row 82 (.pair .str (.int .i64)) w3 none]⟩
def spec_MergePapers.g1000003raw (I1000004 : (ByteArray × Int × List (ByteArray × Int)) → ByteArray → Int → ByteArray → Int → (List (ByteArray × Int)) → (List (ByteArray × Int)) → Option ((ByteArray × Int × List (ByteArray × Int)) × Int)) (L1000003 : (ByteArray × Int × List (ByteArray × Int)) → (ByteArray × Int × List (ByteArray × Int)) → ByteArray → Int → (List (ByteArray × Int)) → Option ((ByteArray × Int × List (ByteArray × Int)) × Int)) (a2 : ByteArray × Int × List (ByteArray × Int)) (b3 : ByteArray × Int × List (ByteArray × Int)) (v4a : ByteArray) (v4ba : Int) (w3 : List (ByteArray × Int)) : Option ((ByteArray × Int × List (ByteArray × Int)) × Int) :=
  agree (
    agree (
      agree (
        agree (
          agree (
            if ([] : List (ByteArray × Int)).length + a2.2.2.length < room 24 then
              I1000004 b3 v4a v4ba a2.1 a2.2.1 w3 (([] : List (ByteArray × Int)) ++ a2.2.2)
            else
              none
          ) (
            if ([] : List (ByteArray × Int)).length + a2.2.2.length < room 24 then
              I1000004 b3 v4a v4ba a2.1 a2.2.1 w3 (([] : List (ByteArray × Int)) ++ a2.2.2)
            else
              none
          )
        ) (
          if ([] : List (ByteArray × Int)).length + a2.2.2.length < room 24 then
            I1000004 b3 v4a v4ba a2.1 a2.2.1 w3 (([] : List (ByteArray × Int)) ++ a2.2.2)
          else
            none
        )
      ) (
        agree (
          agree (
            agree (
              if ([] : List (ByteArray × Int)).length + a2.2.2.length < room 24 then
                I1000004 b3 v4a v4ba a2.1 a2.2.1 w3 (([] : List (ByteArray × Int)) ++ a2.2.2)
              else
                none
            ) (
              if ([] : List (ByteArray × Int)).length + a2.2.2.length < room 24 then
                I1000004 b3 v4a v4ba a2.1 a2.2.1 w3 (([] : List (ByteArray × Int)) ++ a2.2.2)
              else
                none
            )
          ) (
            if ([] : List (ByteArray × Int)).length + a2.2.2.length < room 24 then
              I1000004 b3 v4a v4ba a2.1 a2.2.1 w3 (([] : List (ByteArray × Int)) ++ a2.2.2)
            else
              none
          )
        ) (
          agree (
            if ([] : List (ByteArray × Int)).length + a2.2.2.length < room 24 then
              I1000004 b3 v4a v4ba a2.1 a2.2.1 w3 (([] : List (ByteArray × Int)) ++ a2.2.2)
            else
              none
          ) (
            if ([] : List (ByteArray × Int)).length + a2.2.2.length < room 24 then
              I1000004 b3 v4a v4ba a2.1 a2.2.1 w3 (([] : List (ByteArray × Int)) ++ a2.2.2)
            else
              none
          )
        )
      )
    ) (
      agree (
        agree (
          agree (
            agree (
              if ([] : List (ByteArray × Int)).length + a2.2.2.length < room 24 then
                I1000004 b3 v4a v4ba a2.1 a2.2.1 w3 (([] : List (ByteArray × Int)) ++ a2.2.2)
              else
                none
            ) (
              if ([] : List (ByteArray × Int)).length + a2.2.2.length < room 24 then
                I1000004 b3 v4a v4ba a2.1 a2.2.1 w3 (([] : List (ByteArray × Int)) ++ a2.2.2)
              else
                none
            )
          ) (
            if ([] : List (ByteArray × Int)).length + a2.2.2.length < room 24 then
              I1000004 b3 v4a v4ba a2.1 a2.2.1 w3 (([] : List (ByteArray × Int)) ++ a2.2.2)
            else
              none
          )
        ) (
          agree (
            agree (
              agree (
                if ([] : List (ByteArray × Int)).length + a2.2.2.length < room 24 then
                  I1000004 b3 v4a v4ba a2.1 a2.2.1 w3 (([] : List (ByteArray × Int)) ++ a2.2.2)
                else
                  none
              ) (
                if ([] : List (ByteArray × Int)).length + a2.2.2.length < room 24 then
                  I1000004 b3 v4a v4ba a2.1 a2.2.1 w3 (([] : List (ByteArray × Int)) ++ a2.2.2)
                else
                  none
              )
            ) (
              agree (
                if ([] : List (ByteArray × Int)).length + a2.2.2.length < room 24 then
                  I1000004 b3 v4a v4ba a2.1 a2.2.1 w3 (([] : List (ByteArray × Int)) ++ a2.2.2)
                else
                  none
              ) (
                agree (
                  if ([] : List (ByteArray × Int)).length + a2.2.2.length < room 24 then
                    I1000004 b3 v4a v4ba a2.1 a2.2.1 w3 (([] : List (ByteArray × Int)) ++ a2.2.2)
                  else
                    none
                ) (
                  if ([] : List (ByteArray × Int)).length + a2.2.2.length < room 24 then
                    I1000004 b3 v4a v4ba a2.1 a2.2.1 w3 (([] : List (ByteArray × Int)) ++ a2.2.2)
                  else
                    none
                )
              )
            )
          ) (
            agree (
              if ([] : List (ByteArray × Int)).length + a2.2.2.length < room 24 then
                I1000004 b3 v4a v4ba a2.1 a2.2.1 w3 (([] : List (ByteArray × Int)) ++ a2.2.2)
              else
                none
            ) (
              agree (
                if ([] : List (ByteArray × Int)).length + a2.2.2.length < room 24 then
                  I1000004 b3 v4a v4ba a2.1 a2.2.1 w3 (([] : List (ByteArray × Int)) ++ a2.2.2)
                else
                  none
              ) (
                if ([] : List (ByteArray × Int)).length + a2.2.2.length < room 24 then
                  I1000004 b3 v4a v4ba a2.1 a2.2.1 w3 (([] : List (ByteArray × Int)) ++ a2.2.2)
                else
                  none
              )
            )
          )
        )
      ) (
        agree (
          agree (
            agree (
              agree (
                if ([] : List (ByteArray × Int)).length + a2.2.2.length < room 24 then
                  I1000004 b3 v4a v4ba a2.1 a2.2.1 w3 (([] : List (ByteArray × Int)) ++ a2.2.2)
                else
                  none
              ) (
                if ([] : List (ByteArray × Int)).length + a2.2.2.length < room 24 then
                  I1000004 b3 v4a v4ba a2.1 a2.2.1 w3 (([] : List (ByteArray × Int)) ++ a2.2.2)
                else
                  none
              )
            ) (
              if ([] : List (ByteArray × Int)).length + a2.2.2.length < room 24 then
                I1000004 b3 v4a v4ba a2.1 a2.2.1 w3 (([] : List (ByteArray × Int)) ++ a2.2.2)
              else
                none
            )
          ) (
            agree (
              agree (
                agree (
                  if ([] : List (ByteArray × Int)).length + a2.2.2.length < room 24 then
                    I1000004 b3 v4a v4ba a2.1 a2.2.1 w3 (([] : List (ByteArray × Int)) ++ a2.2.2)
                  else
                    none
                ) (
                  if ([] : List (ByteArray × Int)).length + a2.2.2.length < room 24 then
                    I1000004 b3 v4a v4ba a2.1 a2.2.1 w3 (([] : List (ByteArray × Int)) ++ a2.2.2)
                  else
                    none
                )
              ) (
                agree (
                  if ([] : List (ByteArray × Int)).length + a2.2.2.length < room 24 then
                    I1000004 b3 v4a v4ba a2.1 a2.2.1 w3 (([] : List (ByteArray × Int)) ++ a2.2.2)
                  else
                    none
                ) (
                  agree (
                    if ([] : List (ByteArray × Int)).length + a2.2.2.length < room 24 then
                      I1000004 b3 v4a v4ba a2.1 a2.2.1 w3 (([] : List (ByteArray × Int)) ++ a2.2.2)
                    else
                      none
                  ) (
                    if ([] : List (ByteArray × Int)).length + a2.2.2.length < room 24 then
                      I1000004 b3 v4a v4ba a2.1 a2.2.1 w3 (([] : List (ByteArray × Int)) ++ a2.2.2)
                    else
                      none
                  )
                )
              )
            ) (
              agree (
                if ([] : List (ByteArray × Int)).length + a2.2.2.length < room 24 then
                  I1000004 b3 v4a v4ba a2.1 a2.2.1 w3 (([] : List (ByteArray × Int)) ++ a2.2.2)
                else
                  none
              ) (
                agree (
                  if ([] : List (ByteArray × Int)).length + a2.2.2.length < room 24 then
                    I1000004 b3 v4a v4ba a2.1 a2.2.1 w3 (([] : List (ByteArray × Int)) ++ a2.2.2)
                  else
                    none
                ) (
                  if ([] : List (ByteArray × Int)).length + a2.2.2.length < room 24 then
                    I1000004 b3 v4a v4ba a2.1 a2.2.1 w3 (([] : List (ByteArray × Int)) ++ a2.2.2)
                  else
                    none
                )
              )
            )
          )
        ) (
          agree (
            agree (
              if ([] : List (ByteArray × Int)).length + a2.2.2.length < room 24 then
                I1000004 b3 v4a v4ba a2.1 a2.2.1 w3 (([] : List (ByteArray × Int)) ++ a2.2.2)
              else
                none
            ) (
              if ([] : List (ByteArray × Int)).length + a2.2.2.length < room 24 then
                I1000004 b3 v4a v4ba a2.1 a2.2.1 w3 (([] : List (ByteArray × Int)) ++ a2.2.2)
              else
                none
            )
          ) (
            agree (
              agree (
                if ([] : List (ByteArray × Int)).length + a2.2.2.length < room 24 then
                  I1000004 b3 v4a v4ba a2.1 a2.2.1 w3 (([] : List (ByteArray × Int)) ++ a2.2.2)
                else
                  none
              ) (
                agree (
                  if ([] : List (ByteArray × Int)).length + a2.2.2.length < room 24 then
                    I1000004 b3 v4a v4ba a2.1 a2.2.1 w3 (([] : List (ByteArray × Int)) ++ a2.2.2)
                  else
                    none
                ) (
                  if ([] : List (ByteArray × Int)).length + a2.2.2.length < room 24 then
                    I1000004 b3 v4a v4ba a2.1 a2.2.1 w3 (([] : List (ByteArray × Int)) ++ a2.2.2)
                  else
                    none
                )
              )
            ) (
              agree (
                if ([] : List (ByteArray × Int)).length + a2.2.2.length < room 24 then
                  I1000004 b3 v4a v4ba a2.1 a2.2.1 w3 (([] : List (ByteArray × Int)) ++ a2.2.2)
                else
                  none
              ) (
                agree (
                  if ([] : List (ByteArray × Int)).length + a2.2.2.length < room 24 then
                    I1000004 b3 v4a v4ba a2.1 a2.2.1 w3 (([] : List (ByteArray × Int)) ++ a2.2.2)
                  else
                    none
                ) (
                  if ([] : List (ByteArray × Int)).length + a2.2.2.length < room 24 then
                    I1000004 b3 v4a v4ba a2.1 a2.2.1 w3 (([] : List (ByteArray × Int)) ++ a2.2.2)
                  else
                    none
                )
              )
            )
          )
        )
      )
    )
  ) (
    agree (
      agree (
        agree (
          agree (
            agree (
              if ([] : List (ByteArray × Int)).length + a2.2.2.length < room 24 then
                I1000004 b3 v4a v4ba a2.1 a2.2.1 w3 (([] : List (ByteArray × Int)) ++ a2.2.2)
              else
                none
            ) (
              if ([] : List (ByteArray × Int)).length + a2.2.2.length < room 24 then
                I1000004 b3 v4a v4ba a2.1 a2.2.1 w3 (([] : List (ByteArray × Int)) ++ a2.2.2)
              else
                none
            )
          ) (
            if ([] : List (ByteArray × Int)).length + a2.2.2.length < room 24 then
              I1000004 b3 v4a v4ba a2.1 a2.2.1 w3 (([] : List (ByteArray × Int)) ++ a2.2.2)
            else
              none
          )
        ) (
          agree (
            agree (
              agree (
                if ([] : List (ByteArray × Int)).length + a2.2.2.length < room 24 then
                  I1000004 b3 v4a v4ba a2.1 a2.2.1 w3 (([] : List (ByteArray × Int)) ++ a2.2.2)
                else
                  none
              ) (
                if ([] : List (ByteArray × Int)).length + a2.2.2.length < room 24 then
                  I1000004 b3 v4a v4ba a2.1 a2.2.1 w3 (([] : List (ByteArray × Int)) ++ a2.2.2)
                else
                  none
              )
            ) (
              if ([] : List (ByteArray × Int)).length + a2.2.2.length < room 24 then
                I1000004 b3 v4a v4ba a2.1 a2.2.1 w3 (([] : List (ByteArray × Int)) ++ a2.2.2)
              else
                none
            )
          ) (
            agree (
              if ([] : List (ByteArray × Int)).length + a2.2.2.length < room 24 then
                I1000004 b3 v4a v4ba a2.1 a2.2.1 w3 (([] : List (ByteArray × Int)) ++ a2.2.2)
              else
                none
            ) (
              if ([] : List (ByteArray × Int)).length + a2.2.2.length < room 24 then
                I1000004 b3 v4a v4ba a2.1 a2.2.1 w3 (([] : List (ByteArray × Int)) ++ a2.2.2)
              else
                none
            )
          )
        )
      ) (
        agree (
          agree (
            agree (
              agree (
                if ([] : List (ByteArray × Int)).length + a2.2.2.length < room 24 then
                  I1000004 b3 v4a v4ba a2.1 a2.2.1 w3 (([] : List (ByteArray × Int)) ++ a2.2.2)
                else
                  none
              ) (
                if ([] : List (ByteArray × Int)).length + a2.2.2.length < room 24 then
                  I1000004 b3 v4a v4ba a2.1 a2.2.1 w3 (([] : List (ByteArray × Int)) ++ a2.2.2)
                else
                  none
              )
            ) (
              if ([] : List (ByteArray × Int)).length + a2.2.2.length < room 24 then
                I1000004 b3 v4a v4ba a2.1 a2.2.1 w3 (([] : List (ByteArray × Int)) ++ a2.2.2)
              else
                none
            )
          ) (
            agree (
              agree (
                agree (
                  if ([] : List (ByteArray × Int)).length + a2.2.2.length < room 24 then
                    I1000004 b3 v4a v4ba a2.1 a2.2.1 w3 (([] : List (ByteArray × Int)) ++ a2.2.2)
                  else
                    none
                ) (
                  if ([] : List (ByteArray × Int)).length + a2.2.2.length < room 24 then
                    I1000004 b3 v4a v4ba a2.1 a2.2.1 w3 (([] : List (ByteArray × Int)) ++ a2.2.2)
                  else
                    none
                )
              ) (
                agree (
                  if ([] : List (ByteArray × Int)).length + a2.2.2.length < room 24 then
                    I1000004 b3 v4a v4ba a2.1 a2.2.1 w3 (([] : List (ByteArray × Int)) ++ a2.2.2)
                  else
                    none
                ) (
                  agree (
                    if ([] : List (ByteArray × Int)).length + a2.2.2.length < room 24 then
                      I1000004 b3 v4a v4ba a2.1 a2.2.1 w3 (([] : List (ByteArray × Int)) ++ a2.2.2)
                    else
                      none
                  ) (
                    if ([] : List (ByteArray × Int)).length + a2.2.2.length < room 24 then
                      I1000004 b3 v4a v4ba a2.1 a2.2.1 w3 (([] : List (ByteArray × Int)) ++ a2.2.2)
                    else
                      none
                  )
                )
              )
            ) (
              agree (
                if ([] : List (ByteArray × Int)).length + a2.2.2.length < room 24 then
                  I1000004 b3 v4a v4ba a2.1 a2.2.1 w3 (([] : List (ByteArray × Int)) ++ a2.2.2)
                else
                  none
              ) (
                agree (
                  if ([] : List (ByteArray × Int)).length + a2.2.2.length < room 24 then
                    I1000004 b3 v4a v4ba a2.1 a2.2.1 w3 (([] : List (ByteArray × Int)) ++ a2.2.2)
                  else
                    none
                ) (
                  if ([] : List (ByteArray × Int)).length + a2.2.2.length < room 24 then
                    I1000004 b3 v4a v4ba a2.1 a2.2.1 w3 (([] : List (ByteArray × Int)) ++ a2.2.2)
                  else
                    none
                )
              )
            )
          )
        ) (
          agree (
            agree (
              agree (
                agree (
                  if ([] : List (ByteArray × Int)).length + a2.2.2.length < room 24 then
                    I1000004 b3 v4a v4ba a2.1 a2.2.1 w3 (([] : List (ByteArray × Int)) ++ a2.2.2)
                  else
                    none
                ) (
                  if ([] : List (ByteArray × Int)).length + a2.2.2.length < room 24 then
                    I1000004 b3 v4a v4ba a2.1 a2.2.1 w3 (([] : List (ByteArray × Int)) ++ a2.2.2)
                  else
                    none
                )
              ) (
                if ([] : List (ByteArray × Int)).length + a2.2.2.length < room 24 then
                  I1000004 b3 v4a v4ba a2.1 a2.2.1 w3 (([] : List (ByteArray × Int)) ++ a2.2.2)
                else
                  none
              )
            ) (
              agree (
                agree (
                  agree (
                    if ([] : List (ByteArray × Int)).length + a2.2.2.length < room 24 then
                      I1000004 b3 v4a v4ba a2.1 a2.2.1 w3 (([] : List (ByteArray × Int)) ++ a2.2.2)
                    else
                      none
                  ) (
                    if ([] : List (ByteArray × Int)).length + a2.2.2.length < room 24 then
                      I1000004 b3 v4a v4ba a2.1 a2.2.1 w3 (([] : List (ByteArray × Int)) ++ a2.2.2)
                    else
                      none
                  )
                ) (
                  agree (
                    if ([] : List (ByteArray × Int)).length + a2.2.2.length < room 24 then
                      I1000004 b3 v4a v4ba a2.1 a2.2.1 w3 (([] : List (ByteArray × Int)) ++ a2.2.2)
                    else
                      none
                  ) (
                    agree (
                      if ([] : List (ByteArray × Int)).length + a2.2.2.length < room 24 then
                        I1000004 b3 v4a v4ba a2.1 a2.2.1 w3 (([] : List (ByteArray × Int)) ++ a2.2.2)
                      else
                        none
                    ) (
                      if ([] : List (ByteArray × Int)).length + a2.2.2.length < room 24 then
                        I1000004 b3 v4a v4ba a2.1 a2.2.1 w3 (([] : List (ByteArray × Int)) ++ a2.2.2)
                      else
                        none
                    )
                  )
                )
              ) (
                agree (
                  if ([] : List (ByteArray × Int)).length + a2.2.2.length < room 24 then
                    I1000004 b3 v4a v4ba a2.1 a2.2.1 w3 (([] : List (ByteArray × Int)) ++ a2.2.2)
                  else
                    none
                ) (
                  agree (
                    if ([] : List (ByteArray × Int)).length + a2.2.2.length < room 24 then
                      I1000004 b3 v4a v4ba a2.1 a2.2.1 w3 (([] : List (ByteArray × Int)) ++ a2.2.2)
                    else
                      none
                  ) (
                    if ([] : List (ByteArray × Int)).length + a2.2.2.length < room 24 then
                      I1000004 b3 v4a v4ba a2.1 a2.2.1 w3 (([] : List (ByteArray × Int)) ++ a2.2.2)
                    else
                      none
                  )
                )
              )
            )
          ) (
            agree (
              agree (
                if ([] : List (ByteArray × Int)).length + a2.2.2.length < room 24 then
                  I1000004 b3 v4a v4ba a2.1 a2.2.1 w3 (([] : List (ByteArray × Int)) ++ a2.2.2)
                else
                  none
              ) (
                if ([] : List (ByteArray × Int)).length + a2.2.2.length < room 24 then
                  I1000004 b3 v4a v4ba a2.1 a2.2.1 w3 (([] : List (ByteArray × Int)) ++ a2.2.2)
                else
                  none
              )
            ) (
              agree (
                agree (
                  if ([] : List (ByteArray × Int)).length + a2.2.2.length < room 24 then
                    I1000004 b3 v4a v4ba a2.1 a2.2.1 w3 (([] : List (ByteArray × Int)) ++ a2.2.2)
                  else
                    none
                ) (
                  agree (
                    if ([] : List (ByteArray × Int)).length + a2.2.2.length < room 24 then
                      I1000004 b3 v4a v4ba a2.1 a2.2.1 w3 (([] : List (ByteArray × Int)) ++ a2.2.2)
                    else
                      none
                  ) (
                    if ([] : List (ByteArray × Int)).length + a2.2.2.length < room 24 then
                      I1000004 b3 v4a v4ba a2.1 a2.2.1 w3 (([] : List (ByteArray × Int)) ++ a2.2.2)
                    else
                      none
                  )
                )
              ) (
                agree (
                  if ([] : List (ByteArray × Int)).length + a2.2.2.length < room 24 then
                    I1000004 b3 v4a v4ba a2.1 a2.2.1 w3 (([] : List (ByteArray × Int)) ++ a2.2.2)
                  else
                    none
                ) (
                  agree (
                    if ([] : List (ByteArray × Int)).length + a2.2.2.length < room 24 then
                      I1000004 b3 v4a v4ba a2.1 a2.2.1 w3 (([] : List (ByteArray × Int)) ++ a2.2.2)
                    else
                      none
                  ) (
                    if ([] : List (ByteArray × Int)).length + a2.2.2.length < room 24 then
                      I1000004 b3 v4a v4ba a2.1 a2.2.1 w3 (([] : List (ByteArray × Int)) ++ a2.2.2)
                    else
                      none
                  )
                )
              )
            )
          )
        )
      )
    ) (
      agree (
        agree (
          agree (
            agree (
              agree (
                if ([] : List (ByteArray × Int)).length + a2.2.2.length < room 24 then
                  I1000004 b3 v4a v4ba a2.1 a2.2.1 w3 (([] : List (ByteArray × Int)) ++ a2.2.2)
                else
                  none
              ) (
                if ([] : List (ByteArray × Int)).length + a2.2.2.length < room 24 then
                  I1000004 b3 v4a v4ba a2.1 a2.2.1 w3 (([] : List (ByteArray × Int)) ++ a2.2.2)
                else
                  none
              )
            ) (
              if ([] : List (ByteArray × Int)).length + a2.2.2.length < room 24 then
                I1000004 b3 v4a v4ba a2.1 a2.2.1 w3 (([] : List (ByteArray × Int)) ++ a2.2.2)
              else
                none
            )
          ) (
            agree (
              agree (
                agree (
                  if ([] : List (ByteArray × Int)).length + a2.2.2.length < room 24 then
                    I1000004 b3 v4a v4ba a2.1 a2.2.1 w3 (([] : List (ByteArray × Int)) ++ a2.2.2)
                  else
                    none
                ) (
                  if ([] : List (ByteArray × Int)).length + a2.2.2.length < room 24 then
                    I1000004 b3 v4a v4ba a2.1 a2.2.1 w3 (([] : List (ByteArray × Int)) ++ a2.2.2)
                  else
                    none
                )
              ) (
                agree (
                  if ([] : List (ByteArray × Int)).length + a2.2.2.length < room 24 then
                    I1000004 b3 v4a v4ba a2.1 a2.2.1 w3 (([] : List (ByteArray × Int)) ++ a2.2.2)
                  else
                    none
                ) (
                  agree (
                    if ([] : List (ByteArray × Int)).length + a2.2.2.length < room 24 then
                      I1000004 b3 v4a v4ba a2.1 a2.2.1 w3 (([] : List (ByteArray × Int)) ++ a2.2.2)
                    else
                      none
                  ) (
                    if ([] : List (ByteArray × Int)).length + a2.2.2.length < room 24 then
                      I1000004 b3 v4a v4ba a2.1 a2.2.1 w3 (([] : List (ByteArray × Int)) ++ a2.2.2)
                    else
                      none
                  )
                )
              )
            ) (
              agree (
                if ([] : List (ByteArray × Int)).length + a2.2.2.length < room 24 then
                  I1000004 b3 v4a v4ba a2.1 a2.2.1 w3 (([] : List (ByteArray × Int)) ++ a2.2.2)
                else
                  none
              ) (
                agree (
                  if ([] : List (ByteArray × Int)).length + a2.2.2.length < room 24 then
                    I1000004 b3 v4a v4ba a2.1 a2.2.1 w3 (([] : List (ByteArray × Int)) ++ a2.2.2)
                  else
                    none
                ) (
                  if ([] : List (ByteArray × Int)).length + a2.2.2.length < room 24 then
                    I1000004 b3 v4a v4ba a2.1 a2.2.1 w3 (([] : List (ByteArray × Int)) ++ a2.2.2)
                  else
                    none
                )
              )
            )
          )
        ) (
          agree (
            agree (
              agree (
                agree (
                  if ([] : List (ByteArray × Int)).length + a2.2.2.length < room 24 then
                    I1000004 b3 v4a v4ba a2.1 a2.2.1 w3 (([] : List (ByteArray × Int)) ++ a2.2.2)
                  else
                    none
                ) (
                  if ([] : List (ByteArray × Int)).length + a2.2.2.length < room 24 then
                    I1000004 b3 v4a v4ba a2.1 a2.2.1 w3 (([] : List (ByteArray × Int)) ++ a2.2.2)
                  else
                    none
                )
              ) (
                if ([] : List (ByteArray × Int)).length + a2.2.2.length < room 24 then
                  I1000004 b3 v4a v4ba a2.1 a2.2.1 w3 (([] : List (ByteArray × Int)) ++ a2.2.2)
                else
                  none
              )
            ) (
              agree (
                agree (
                  agree (
                    if ([] : List (ByteArray × Int)).length + a2.2.2.length < room 24 then
                      I1000004 b3 v4a v4ba a2.1 a2.2.1 w3 (([] : List (ByteArray × Int)) ++ a2.2.2)
                    else
                      none
                  ) (
                    if ([] : List (ByteArray × Int)).length + a2.2.2.length < room 24 then
                      I1000004 b3 v4a v4ba a2.1 a2.2.1 w3 (([] : List (ByteArray × Int)) ++ a2.2.2)
                    else
                      none
                  )
                ) (
                  agree (
                    if ([] : List (ByteArray × Int)).length + a2.2.2.length < room 24 then
                      I1000004 b3 v4a v4ba a2.1 a2.2.1 w3 (([] : List (ByteArray × Int)) ++ a2.2.2)
                    else
                      none
                  ) (
                    agree (
                      if ([] : List (ByteArray × Int)).length + a2.2.2.length < room 24 then
                        I1000004 b3 v4a v4ba a2.1 a2.2.1 w3 (([] : List (ByteArray × Int)) ++ a2.2.2)
                      else
                        none
                    ) (
                      if ([] : List (ByteArray × Int)).length + a2.2.2.length < room 24 then
                        I1000004 b3 v4a v4ba a2.1 a2.2.1 w3 (([] : List (ByteArray × Int)) ++ a2.2.2)
                      else
                        none
                    )
                  )
                )
              ) (
                agree (
                  if ([] : List (ByteArray × Int)).length + a2.2.2.length < room 24 then
                    I1000004 b3 v4a v4ba a2.1 a2.2.1 w3 (([] : List (ByteArray × Int)) ++ a2.2.2)
                  else
                    none
                ) (
                  agree (
                    if ([] : List (ByteArray × Int)).length + a2.2.2.length < room 24 then
                      I1000004 b3 v4a v4ba a2.1 a2.2.1 w3 (([] : List (ByteArray × Int)) ++ a2.2.2)
                    else
                      none
                  ) (
                    if ([] : List (ByteArray × Int)).length + a2.2.2.length < room 24 then
                      I1000004 b3 v4a v4ba a2.1 a2.2.1 w3 (([] : List (ByteArray × Int)) ++ a2.2.2)
                    else
                      none
                  )
                )
              )
            )
          ) (
            agree (
              agree (
                agree (
                  agree (
                    if ([] : List (ByteArray × Int)).length + a2.2.2.length < room 24 then
                      I1000004 b3 v4a v4ba a2.1 a2.2.1 w3 (([] : List (ByteArray × Int)) ++ a2.2.2)
                    else
                      none
                  ) (
                    if ([] : List (ByteArray × Int)).length + a2.2.2.length < room 24 then
                      I1000004 b3 v4a v4ba a2.1 a2.2.1 w3 (([] : List (ByteArray × Int)) ++ a2.2.2)
                    else
                      none
                  )
                ) (
                  agree (
                    if ([] : List (ByteArray × Int)).length + a2.2.2.length < room 24 then
                      I1000004 b3 v4a v4ba a2.1 a2.2.1 w3 (([] : List (ByteArray × Int)) ++ a2.2.2)
                    else
                      none
                  ) (
                    agree (
                      if ([] : List (ByteArray × Int)).length + a2.2.2.length < room 24 then
                        I1000004 b3 v4a v4ba a2.1 a2.2.1 w3 (([] : List (ByteArray × Int)) ++ a2.2.2)
                      else
                        none
                    ) (
                      if ([] : List (ByteArray × Int)).length + a2.2.2.length < room 24 then
                        I1000004 b3 v4a v4ba a2.1 a2.2.1 w3 (([] : List (ByteArray × Int)) ++ a2.2.2)
                      else
                        none
                    )
                  )
                )
              ) (
                agree (
                  agree (
                    agree (
                      if ([] : List (ByteArray × Int)).length + a2.2.2.length < room 24 then
                        I1000004 b3 v4a v4ba a2.1 a2.2.1 w3 (([] : List (ByteArray × Int)) ++ a2.2.2)
                      else
                        none
                    ) (
                      if ([] : List (ByteArray × Int)).length + a2.2.2.length < room 24 then
                        I1000004 b3 v4a v4ba a2.1 a2.2.1 w3 (([] : List (ByteArray × Int)) ++ a2.2.2)
                      else
                        none
                    )
                  ) (
                    agree (
                      if ([] : List (ByteArray × Int)).length + a2.2.2.length < room 24 then
                        I1000004 b3 v4a v4ba a2.1 a2.2.1 w3 (([] : List (ByteArray × Int)) ++ a2.2.2)
                      else
                        none
                    ) (
                      agree (
                        if ([] : List (ByteArray × Int)).length + a2.2.2.length < room 24 then
                          I1000004 b3 v4a v4ba a2.1 a2.2.1 w3 (([] : List (ByteArray × Int)) ++ a2.2.2)
                        else
                          none
                      ) (
                        if ([] : List (ByteArray × Int)).length + a2.2.2.length < room 24 then
                          I1000004 b3 v4a v4ba a2.1 a2.2.1 w3 (([] : List (ByteArray × Int)) ++ a2.2.2)
                        else
                          none
                      )
                    )
                  )
                ) (
                  agree (
                    if ([] : List (ByteArray × Int)).length + a2.2.2.length < room 24 then
                      I1000004 b3 v4a v4ba a2.1 a2.2.1 w3 (([] : List (ByteArray × Int)) ++ a2.2.2)
                    else
                      none
                  ) (
                    agree (
                      agree (
                        if ([] : List (ByteArray × Int)).length + a2.2.2.length < room 24 then
                          I1000004 b3 v4a v4ba a2.1 a2.2.1 w3 (([] : List (ByteArray × Int)) ++ a2.2.2)
                        else
                          none
                      ) (
                        if ([] : List (ByteArray × Int)).length + a2.2.2.length < room 24 then
                          I1000004 b3 v4a v4ba a2.1 a2.2.1 w3 (([] : List (ByteArray × Int)) ++ a2.2.2)
                        else
                          none
                      )
                    ) (
                      agree (
                        agree (
                          if ([] : List (ByteArray × Int)).length + a2.2.2.length < room 24 then
                            I1000004 b3 v4a v4ba a2.1 a2.2.1 w3 (([] : List (ByteArray × Int)) ++ a2.2.2)
                          else
                            none
                        ) (
                          if ([] : List (ByteArray × Int)).length + a2.2.2.length < room 24 then
                            I1000004 b3 v4a v4ba a2.1 a2.2.1 w3 (([] : List (ByteArray × Int)) ++ a2.2.2)
                          else
                            none
                        )
                      ) (
                        if ([] : List (ByteArray × Int)).length + a2.2.2.length < room 24 then
                          I1000004 b3 v4a v4ba a2.1 a2.2.1 w3 (([] : List (ByteArray × Int)) ++ a2.2.2)
                        else
                          none
                      )
                    )
                  )
                )
              )
            ) (
              agree (
                agree (
                  if ([] : List (ByteArray × Int)).length + a2.2.2.length < room 24 then
                    I1000004 b3 v4a v4ba a2.1 a2.2.1 w3 (([] : List (ByteArray × Int)) ++ a2.2.2)
                  else
                    none
                ) (
                  agree (
                    if ([] : List (ByteArray × Int)).length + a2.2.2.length < room 24 then
                      I1000004 b3 v4a v4ba a2.1 a2.2.1 w3 (([] : List (ByteArray × Int)) ++ a2.2.2)
                    else
                      none
                  ) (
                    if ([] : List (ByteArray × Int)).length + a2.2.2.length < room 24 then
                      I1000004 b3 v4a v4ba a2.1 a2.2.1 w3 (([] : List (ByteArray × Int)) ++ a2.2.2)
                    else
                      none
                  )
                )
              ) (
                agree (
                  agree (
                    if ([] : List (ByteArray × Int)).length + a2.2.2.length < room 24 then
                      I1000004 b3 v4a v4ba a2.1 a2.2.1 w3 (([] : List (ByteArray × Int)) ++ a2.2.2)
                    else
                      none
                  ) (
                    agree (
                      if ([] : List (ByteArray × Int)).length + a2.2.2.length < room 24 then
                        I1000004 b3 v4a v4ba a2.1 a2.2.1 w3 (([] : List (ByteArray × Int)) ++ a2.2.2)
                      else
                        none
                    ) (
                      if ([] : List (ByteArray × Int)).length + a2.2.2.length < room 24 then
                        I1000004 b3 v4a v4ba a2.1 a2.2.1 w3 (([] : List (ByteArray × Int)) ++ a2.2.2)
                      else
                        none
                    )
                  )
                ) (
                  agree (
                    agree (
                      if ([] : List (ByteArray × Int)).length + a2.2.2.length < room 24 then
                        I1000004 b3 v4a v4ba a2.1 a2.2.1 w3 (([] : List (ByteArray × Int)) ++ a2.2.2)
                      else
                        none
                    ) (
                      if ([] : List (ByteArray × Int)).length + a2.2.2.length < room 24 then
                        I1000004 b3 v4a v4ba a2.1 a2.2.1 w3 (([] : List (ByteArray × Int)) ++ a2.2.2)
                      else
                        none
                    )
                  ) (
                    agree (
                      agree (
                        if ([] : List (ByteArray × Int)).length + a2.2.2.length < room 24 then
                          I1000004 b3 v4a v4ba a2.1 a2.2.1 w3 (([] : List (ByteArray × Int)) ++ a2.2.2)
                        else
                          none
                      ) (
                        if ([] : List (ByteArray × Int)).length + a2.2.2.length < room 24 then
                          I1000004 b3 v4a v4ba a2.1 a2.2.1 w3 (([] : List (ByteArray × Int)) ++ a2.2.2)
                        else
                          none
                      )
                    ) (
                      if ([] : List (ByteArray × Int)).length + a2.2.2.length < room 24 then
                        I1000004 b3 v4a v4ba a2.1 a2.2.1 w3 (([] : List (ByteArray × Int)) ++ a2.2.2)
                      else
                        none
                    )
                  )
                )
              )
            )
          )
        )
      ) (
        agree (
          agree (
            agree (
              agree (
                agree (
                  if ([] : List (ByteArray × Int)).length + a2.2.2.length < room 24 then
                    I1000004 b3 v4a v4ba a2.1 a2.2.1 w3 (([] : List (ByteArray × Int)) ++ a2.2.2)
                  else
                    none
                ) (
                  if ([] : List (ByteArray × Int)).length + a2.2.2.length < room 24 then
                    I1000004 b3 v4a v4ba a2.1 a2.2.1 w3 (([] : List (ByteArray × Int)) ++ a2.2.2)
                  else
                    none
                )
              ) (
                if ([] : List (ByteArray × Int)).length + a2.2.2.length < room 24 then
                  I1000004 b3 v4a v4ba a2.1 a2.2.1 w3 (([] : List (ByteArray × Int)) ++ a2.2.2)
                else
                  none
              )
            ) (
              agree (
                agree (
                  agree (
                    if ([] : List (ByteArray × Int)).length + a2.2.2.length < room 24 then
                      I1000004 b3 v4a v4ba a2.1 a2.2.1 w3 (([] : List (ByteArray × Int)) ++ a2.2.2)
                    else
                      none
                  ) (
                    if ([] : List (ByteArray × Int)).length + a2.2.2.length < room 24 then
                      I1000004 b3 v4a v4ba a2.1 a2.2.1 w3 (([] : List (ByteArray × Int)) ++ a2.2.2)
                    else
                      none
                  )
                ) (
                  agree (
                    if ([] : List (ByteArray × Int)).length + a2.2.2.length < room 24 then
                      I1000004 b3 v4a v4ba a2.1 a2.2.1 w3 (([] : List (ByteArray × Int)) ++ a2.2.2)
                    else
                      none
                  ) (
                    agree (
                      if ([] : List (ByteArray × Int)).length + a2.2.2.length < room 24 then
                        I1000004 b3 v4a v4ba a2.1 a2.2.1 w3 (([] : List (ByteArray × Int)) ++ a2.2.2)
                      else
                        none
                    ) (
                      if ([] : List (ByteArray × Int)).length + a2.2.2.length < room 24 then
                        I1000004 b3 v4a v4ba a2.1 a2.2.1 w3 (([] : List (ByteArray × Int)) ++ a2.2.2)
                      else
                        none
                    )
                  )
                )
              ) (
                agree (
                  if ([] : List (ByteArray × Int)).length + a2.2.2.length < room 24 then
                    I1000004 b3 v4a v4ba a2.1 a2.2.1 w3 (([] : List (ByteArray × Int)) ++ a2.2.2)
                  else
                    none
                ) (
                  agree (
                    if ([] : List (ByteArray × Int)).length + a2.2.2.length < room 24 then
                      I1000004 b3 v4a v4ba a2.1 a2.2.1 w3 (([] : List (ByteArray × Int)) ++ a2.2.2)
                    else
                      none
                  ) (
                    if ([] : List (ByteArray × Int)).length + a2.2.2.length < room 24 then
                      I1000004 b3 v4a v4ba a2.1 a2.2.1 w3 (([] : List (ByteArray × Int)) ++ a2.2.2)
                    else
                      none
                  )
                )
              )
            )
          ) (
            agree (
              agree (
                agree (
                  agree (
                    if ([] : List (ByteArray × Int)).length + a2.2.2.length < room 24 then
                      I1000004 b3 v4a v4ba a2.1 a2.2.1 w3 (([] : List (ByteArray × Int)) ++ a2.2.2)
                    else
                      none
                  ) (
                    if ([] : List (ByteArray × Int)).length + a2.2.2.length < room 24 then
                      I1000004 b3 v4a v4ba a2.1 a2.2.1 w3 (([] : List (ByteArray × Int)) ++ a2.2.2)
                    else
                      none
                  )
                ) (
                  if ([] : List (ByteArray × Int)).length + a2.2.2.length < room 24 then
                    I1000004 b3 v4a v4ba a2.1 a2.2.1 w3 (([] : List (ByteArray × Int)) ++ a2.2.2)
                  else
                    none
                )
              ) (
                agree (
                  agree (
                    agree (
                      if ([] : List (ByteArray × Int)).length + a2.2.2.length < room 24 then
                        I1000004 b3 v4a v4ba a2.1 a2.2.1 w3 (([] : List (ByteArray × Int)) ++ a2.2.2)
                      else
                        none
                    ) (
                      if ([] : List (ByteArray × Int)).length + a2.2.2.length < room 24 then
                        I1000004 b3 v4a v4ba a2.1 a2.2.1 w3 (([] : List (ByteArray × Int)) ++ a2.2.2)
                      else
                        none
                    )
                  ) (
                    agree (
                      if ([] : List (ByteArray × Int)).length + a2.2.2.length < room 24 then
                        I1000004 b3 v4a v4ba a2.1 a2.2.1 w3 (([] : List (ByteArray × Int)) ++ a2.2.2)
                      else
                        none
                    ) (
                      agree (
                        if ([] : List (ByteArray × Int)).length + a2.2.2.length < room 24 then
                          I1000004 b3 v4a v4ba a2.1 a2.2.1 w3 (([] : List (ByteArray × Int)) ++ a2.2.2)
                        else
                          none
                      ) (
                        if ([] : List (ByteArray × Int)).length + a2.2.2.length < room 24 then
                          I1000004 b3 v4a v4ba a2.1 a2.2.1 w3 (([] : List (ByteArray × Int)) ++ a2.2.2)
                        else
                          none
                      )
                    )
                  )
                ) (
                  agree (
                    if ([] : List (ByteArray × Int)).length + a2.2.2.length < room 24 then
                      I1000004 b3 v4a v4ba a2.1 a2.2.1 w3 (([] : List (ByteArray × Int)) ++ a2.2.2)
                    else
                      none
                  ) (
                    agree (
                      if ([] : List (ByteArray × Int)).length + a2.2.2.length < room 24 then
                        I1000004 b3 v4a v4ba a2.1 a2.2.1 w3 (([] : List (ByteArray × Int)) ++ a2.2.2)
                      else
                        none
                    ) (
                      if ([] : List (ByteArray × Int)).length + a2.2.2.length < room 24 then
                        I1000004 b3 v4a v4ba a2.1 a2.2.1 w3 (([] : List (ByteArray × Int)) ++ a2.2.2)
                      else
                        none
                    )
                  )
                )
              )
            ) (
              agree (
                agree (
                  agree (
                    agree (
                      if ([] : List (ByteArray × Int)).length + a2.2.2.length < room 24 then
                        I1000004 b3 v4a v4ba a2.1 a2.2.1 w3 (([] : List (ByteArray × Int)) ++ a2.2.2)
                      else
                        none
                    ) (
                      if ([] : List (ByteArray × Int)).length + a2.2.2.length < room 24 then
                        I1000004 b3 v4a v4ba a2.1 a2.2.1 w3 (([] : List (ByteArray × Int)) ++ a2.2.2)
                      else
                        none
                    )
                  ) (
                    agree (
                      if ([] : List (ByteArray × Int)).length + a2.2.2.length < room 24 then
                        I1000004 b3 v4a v4ba a2.1 a2.2.1 w3 (([] : List (ByteArray × Int)) ++ a2.2.2)
                      else
                        none
                    ) (
                      agree (
                        if ([] : List (ByteArray × Int)).length + a2.2.2.length < room 24 then
                          I1000004 b3 v4a v4ba a2.1 a2.2.1 w3 (([] : List (ByteArray × Int)) ++ a2.2.2)
                        else
                          none
                      ) (
                        if ([] : List (ByteArray × Int)).length + a2.2.2.length < room 24 then
                          I1000004 b3 v4a v4ba a2.1 a2.2.1 w3 (([] : List (ByteArray × Int)) ++ a2.2.2)
                        else
                          none
                      )
                    )
                  )
                ) (
                  agree (
                    agree (
                      agree (
                        if ([] : List (ByteArray × Int)).length + a2.2.2.length < room 24 then
                          I1000004 b3 v4a v4ba a2.1 a2.2.1 w3 (([] : List (ByteArray × Int)) ++ a2.2.2)
                        else
                          none
                      ) (
                        if ([] : List (ByteArray × Int)).length + a2.2.2.length < room 24 then
                          I1000004 b3 v4a v4ba a2.1 a2.2.1 w3 (([] : List (ByteArray × Int)) ++ a2.2.2)
                        else
                          none
                      )
                    ) (
                      agree (
                        if ([] : List (ByteArray × Int)).length + a2.2.2.length < room 24 then
                          I1000004 b3 v4a v4ba a2.1 a2.2.1 w3 (([] : List (ByteArray × Int)) ++ a2.2.2)
                        else
                          none
                      ) (
                        agree (
                          if ([] : List (ByteArray × Int)).length + a2.2.2.length < room 24 then
                            I1000004 b3 v4a v4ba a2.1 a2.2.1 w3 (([] : List (ByteArray × Int)) ++ a2.2.2)
                          else
                            none
                        ) (
                          if ([] : List (ByteArray × Int)).length + a2.2.2.length < room 24 then
                            I1000004 b3 v4a v4ba a2.1 a2.2.1 w3 (([] : List (ByteArray × Int)) ++ a2.2.2)
                          else
                            none
                        )
                      )
                    )
                  ) (
                    agree (
                      if ([] : List (ByteArray × Int)).length + a2.2.2.length < room 24 then
                        I1000004 b3 v4a v4ba a2.1 a2.2.1 w3 (([] : List (ByteArray × Int)) ++ a2.2.2)
                      else
                        none
                    ) (
                      agree (
                        agree (
                          if ([] : List (ByteArray × Int)).length + a2.2.2.length < room 24 then
                            I1000004 b3 v4a v4ba a2.1 a2.2.1 w3 (([] : List (ByteArray × Int)) ++ a2.2.2)
                          else
                            none
                        ) (
                          if ([] : List (ByteArray × Int)).length + a2.2.2.length < room 24 then
                            I1000004 b3 v4a v4ba a2.1 a2.2.1 w3 (([] : List (ByteArray × Int)) ++ a2.2.2)
                          else
                            none
                        )
                      ) (
                        agree (
                          agree (
                            if ([] : List (ByteArray × Int)).length + a2.2.2.length < room 24 then
                              I1000004 b3 v4a v4ba a2.1 a2.2.1 w3 (([] : List (ByteArray × Int)) ++ a2.2.2)
                            else
                              none
                          ) (
                            if ([] : List (ByteArray × Int)).length + a2.2.2.length < room 24 then
                              I1000004 b3 v4a v4ba a2.1 a2.2.1 w3 (([] : List (ByteArray × Int)) ++ a2.2.2)
                            else
                              none
                          )
                        ) (
                          if ([] : List (ByteArray × Int)).length + a2.2.2.length < room 24 then
                            I1000004 b3 v4a v4ba a2.1 a2.2.1 w3 (([] : List (ByteArray × Int)) ++ a2.2.2)
                          else
                            none
                        )
                      )
                    )
                  )
                )
              ) (
                agree (
                  agree (
                    if ([] : List (ByteArray × Int)).length + a2.2.2.length < room 24 then
                      I1000004 b3 v4a v4ba a2.1 a2.2.1 w3 (([] : List (ByteArray × Int)) ++ a2.2.2)
                    else
                      none
                  ) (
                    agree (
                      if ([] : List (ByteArray × Int)).length + a2.2.2.length < room 24 then
                        I1000004 b3 v4a v4ba a2.1 a2.2.1 w3 (([] : List (ByteArray × Int)) ++ a2.2.2)
                      else
                        none
                    ) (
                      if ([] : List (ByteArray × Int)).length + a2.2.2.length < room 24 then
                        I1000004 b3 v4a v4ba a2.1 a2.2.1 w3 (([] : List (ByteArray × Int)) ++ a2.2.2)
                      else
                        none
                    )
                  )
                ) (
                  agree (
                    agree (
                      if ([] : List (ByteArray × Int)).length + a2.2.2.length < room 24 then
                        I1000004 b3 v4a v4ba a2.1 a2.2.1 w3 (([] : List (ByteArray × Int)) ++ a2.2.2)
                      else
                        none
                    ) (
                      agree (
                        if ([] : List (ByteArray × Int)).length + a2.2.2.length < room 24 then
                          I1000004 b3 v4a v4ba a2.1 a2.2.1 w3 (([] : List (ByteArray × Int)) ++ a2.2.2)
                        else
                          none
                      ) (
                        if ([] : List (ByteArray × Int)).length + a2.2.2.length < room 24 then
                          I1000004 b3 v4a v4ba a2.1 a2.2.1 w3 (([] : List (ByteArray × Int)) ++ a2.2.2)
                        else
                          none
                      )
                    )
                  ) (
                    agree (
                      agree (
                        if ([] : List (ByteArray × Int)).length + a2.2.2.length < room 24 then
                          I1000004 b3 v4a v4ba a2.1 a2.2.1 w3 (([] : List (ByteArray × Int)) ++ a2.2.2)
                        else
                          none
                      ) (
                        if ([] : List (ByteArray × Int)).length + a2.2.2.length < room 24 then
                          I1000004 b3 v4a v4ba a2.1 a2.2.1 w3 (([] : List (ByteArray × Int)) ++ a2.2.2)
                        else
                          none
                      )
                    ) (
                      agree (
                        agree (
                          if ([] : List (ByteArray × Int)).length + a2.2.2.length < room 24 then
                            I1000004 b3 v4a v4ba a2.1 a2.2.1 w3 (([] : List (ByteArray × Int)) ++ a2.2.2)
                          else
                            none
                        ) (
                          if ([] : List (ByteArray × Int)).length + a2.2.2.length < room 24 then
                            I1000004 b3 v4a v4ba a2.1 a2.2.1 w3 (([] : List (ByteArray × Int)) ++ a2.2.2)
                          else
                            none
                        )
                      ) (
                        if ([] : List (ByteArray × Int)).length + a2.2.2.length < room 24 then
                          I1000004 b3 v4a v4ba a2.1 a2.2.1 w3 (([] : List (ByteArray × Int)) ++ a2.2.2)
                        else
                          none
                      )
                    )
                  )
                )
              )
            )
          )
        ) (
          agree (
            agree (
              agree (
                if ([] : List (ByteArray × Int)).length + a2.2.2.length < room 24 then
                  I1000004 b3 v4a v4ba a2.1 a2.2.1 w3 (([] : List (ByteArray × Int)) ++ a2.2.2)
                else
                  none
              ) (
                if ([] : List (ByteArray × Int)).length + a2.2.2.length < room 24 then
                  I1000004 b3 v4a v4ba a2.1 a2.2.1 w3 (([] : List (ByteArray × Int)) ++ a2.2.2)
                else
                  none
              )
            ) (
              agree (
                agree (
                  if ([] : List (ByteArray × Int)).length + a2.2.2.length < room 24 then
                    I1000004 b3 v4a v4ba a2.1 a2.2.1 w3 (([] : List (ByteArray × Int)) ++ a2.2.2)
                  else
                    none
                ) (
                  agree (
                    if ([] : List (ByteArray × Int)).length + a2.2.2.length < room 24 then
                      I1000004 b3 v4a v4ba a2.1 a2.2.1 w3 (([] : List (ByteArray × Int)) ++ a2.2.2)
                    else
                      none
                  ) (
                    if ([] : List (ByteArray × Int)).length + a2.2.2.length < room 24 then
                      I1000004 b3 v4a v4ba a2.1 a2.2.1 w3 (([] : List (ByteArray × Int)) ++ a2.2.2)
                    else
                      none
                  )
                )
              ) (
                agree (
                  if ([] : List (ByteArray × Int)).length + a2.2.2.length < room 24 then
                    I1000004 b3 v4a v4ba a2.1 a2.2.1 w3 (([] : List (ByteArray × Int)) ++ a2.2.2)
                  else
                    none
                ) (
                  agree (
                    if ([] : List (ByteArray × Int)).length + a2.2.2.length < room 24 then
                      I1000004 b3 v4a v4ba a2.1 a2.2.1 w3 (([] : List (ByteArray × Int)) ++ a2.2.2)
                    else
                      none
                  ) (
                    if ([] : List (ByteArray × Int)).length + a2.2.2.length < room 24 then
                      I1000004 b3 v4a v4ba a2.1 a2.2.1 w3 (([] : List (ByteArray × Int)) ++ a2.2.2)
                    else
                      none
                  )
                )
              )
            )
          ) (
            agree (
              agree (
                agree (
                  if ([] : List (ByteArray × Int)).length + a2.2.2.length < room 24 then
                    I1000004 b3 v4a v4ba a2.1 a2.2.1 w3 (([] : List (ByteArray × Int)) ++ a2.2.2)
                  else
                    none
                ) (
                  if ([] : List (ByteArray × Int)).length + a2.2.2.length < room 24 then
                    I1000004 b3 v4a v4ba a2.1 a2.2.1 w3 (([] : List (ByteArray × Int)) ++ a2.2.2)
                  else
                    none
                )
              ) (
                agree (
                  agree (
                    if ([] : List (ByteArray × Int)).length + a2.2.2.length < room 24 then
                      I1000004 b3 v4a v4ba a2.1 a2.2.1 w3 (([] : List (ByteArray × Int)) ++ a2.2.2)
                    else
                      none
                  ) (
                    agree (
                      if ([] : List (ByteArray × Int)).length + a2.2.2.length < room 24 then
                        I1000004 b3 v4a v4ba a2.1 a2.2.1 w3 (([] : List (ByteArray × Int)) ++ a2.2.2)
                      else
                        none
                    ) (
                      if ([] : List (ByteArray × Int)).length + a2.2.2.length < room 24 then
                        I1000004 b3 v4a v4ba a2.1 a2.2.1 w3 (([] : List (ByteArray × Int)) ++ a2.2.2)
                      else
                        none
                    )
                  )
                ) (
                  agree (
                    if ([] : List (ByteArray × Int)).length + a2.2.2.length < room 24 then
                      I1000004 b3 v4a v4ba a2.1 a2.2.1 w3 (([] : List (ByteArray × Int)) ++ a2.2.2)
                    else
                      none
                  ) (
                    agree (
                      if ([] : List (ByteArray × Int)).length + a2.2.2.length < room 24 then
                        I1000004 b3 v4a v4ba a2.1 a2.2.1 w3 (([] : List (ByteArray × Int)) ++ a2.2.2)
                      else
                        none
                    ) (
                      if ([] : List (ByteArray × Int)).length + a2.2.2.length < room 24 then
                        I1000004 b3 v4a v4ba a2.1 a2.2.1 w3 (([] : List (ByteArray × Int)) ++ a2.2.2)
                      else
                        none
                    )
                  )
                )
              )
            ) (
              agree (
                agree (
                  agree (
                    if ([] : List (ByteArray × Int)).length + a2.2.2.length < room 24 then
                      I1000004 b3 v4a v4ba a2.1 a2.2.1 w3 (([] : List (ByteArray × Int)) ++ a2.2.2)
                    else
                      none
                  ) (
                    agree (
                      if ([] : List (ByteArray × Int)).length + a2.2.2.length < room 24 then
                        I1000004 b3 v4a v4ba a2.1 a2.2.1 w3 (([] : List (ByteArray × Int)) ++ a2.2.2)
                      else
                        none
                    ) (
                      if ([] : List (ByteArray × Int)).length + a2.2.2.length < room 24 then
                        I1000004 b3 v4a v4ba a2.1 a2.2.1 w3 (([] : List (ByteArray × Int)) ++ a2.2.2)
                      else
                        none
                    )
                  )
                ) (
                  agree (
                    agree (
                      if ([] : List (ByteArray × Int)).length + a2.2.2.length < room 24 then
                        I1000004 b3 v4a v4ba a2.1 a2.2.1 w3 (([] : List (ByteArray × Int)) ++ a2.2.2)
                      else
                        none
                    ) (
                      agree (
                        if ([] : List (ByteArray × Int)).length + a2.2.2.length < room 24 then
                          I1000004 b3 v4a v4ba a2.1 a2.2.1 w3 (([] : List (ByteArray × Int)) ++ a2.2.2)
                        else
                          none
                      ) (
                        if ([] : List (ByteArray × Int)).length + a2.2.2.length < room 24 then
                          I1000004 b3 v4a v4ba a2.1 a2.2.1 w3 (([] : List (ByteArray × Int)) ++ a2.2.2)
                        else
                          none
                      )
                    )
                  ) (
                    agree (
                      agree (
                        if ([] : List (ByteArray × Int)).length + a2.2.2.length < room 24 then
                          I1000004 b3 v4a v4ba a2.1 a2.2.1 w3 (([] : List (ByteArray × Int)) ++ a2.2.2)
                        else
                          none
                      ) (
                        if ([] : List (ByteArray × Int)).length + a2.2.2.length < room 24 then
                          I1000004 b3 v4a v4ba a2.1 a2.2.1 w3 (([] : List (ByteArray × Int)) ++ a2.2.2)
                        else
                          none
                      )
                    ) (
                      agree (
                        agree (
                          if ([] : List (ByteArray × Int)).length + a2.2.2.length < room 24 then
                            I1000004 b3 v4a v4ba a2.1 a2.2.1 w3 (([] : List (ByteArray × Int)) ++ a2.2.2)
                          else
                            none
                        ) (
                          if ([] : List (ByteArray × Int)).length + a2.2.2.length < room 24 then
                            I1000004 b3 v4a v4ba a2.1 a2.2.1 w3 (([] : List (ByteArray × Int)) ++ a2.2.2)
                          else
                            none
                        )
                      ) (
                        if ([] : List (ByteArray × Int)).length + a2.2.2.length < room 24 then
                          I1000004 b3 v4a v4ba a2.1 a2.2.1 w3 (([] : List (ByteArray × Int)) ++ a2.2.2)
                        else
                          none
                      )
                    )
                  )
                )
              ) (
                agree (
                  agree (
                    if ([] : List (ByteArray × Int)).length + a2.2.2.length < room 24 then
                      I1000004 b3 v4a v4ba a2.1 a2.2.1 w3 (([] : List (ByteArray × Int)) ++ a2.2.2)
                    else
                      none
                  ) (
                    agree (
                      if ([] : List (ByteArray × Int)).length + a2.2.2.length < room 24 then
                        I1000004 b3 v4a v4ba a2.1 a2.2.1 w3 (([] : List (ByteArray × Int)) ++ a2.2.2)
                      else
                        none
                    ) (
                      if ([] : List (ByteArray × Int)).length + a2.2.2.length < room 24 then
                        I1000004 b3 v4a v4ba a2.1 a2.2.1 w3 (([] : List (ByteArray × Int)) ++ a2.2.2)
                      else
                        none
                    )
                  )
                ) (
                  agree (
                    agree (
                      if ([] : List (ByteArray × Int)).length + a2.2.2.length < room 24 then
                        I1000004 b3 v4a v4ba a2.1 a2.2.1 w3 (([] : List (ByteArray × Int)) ++ a2.2.2)
                      else
                        none
                    ) (
                      agree (
                        if ([] : List (ByteArray × Int)).length + a2.2.2.length < room 24 then
                          I1000004 b3 v4a v4ba a2.1 a2.2.1 w3 (([] : List (ByteArray × Int)) ++ a2.2.2)
                        else
                          none
                      ) (
                        if ([] : List (ByteArray × Int)).length + a2.2.2.length < room 24 then
                          I1000004 b3 v4a v4ba a2.1 a2.2.1 w3 (([] : List (ByteArray × Int)) ++ a2.2.2)
                        else
                          none
                      )
                    )
                  ) (
                    agree (
                      agree (
                        if ([] : List (ByteArray × Int)).length + a2.2.2.length < room 24 then
                          I1000004 b3 v4a v4ba a2.1 a2.2.1 w3 (([] : List (ByteArray × Int)) ++ a2.2.2)
                        else
                          none
                      ) (
                        if ([] : List (ByteArray × Int)).length + a2.2.2.length < room 24 then
                          I1000004 b3 v4a v4ba a2.1 a2.2.1 w3 (([] : List (ByteArray × Int)) ++ a2.2.2)
                        else
                          none
                      )
                    ) (
                      agree (
                        agree (
                          if ([] : List (ByteArray × Int)).length + a2.2.2.length < room 24 then
                            I1000004 b3 v4a v4ba a2.1 a2.2.1 w3 (([] : List (ByteArray × Int)) ++ a2.2.2)
                          else
                            none
                        ) (
                          if ([] : List (ByteArray × Int)).length + a2.2.2.length < room 24 then
                            I1000004 b3 v4a v4ba a2.1 a2.2.1 w3 (([] : List (ByteArray × Int)) ++ a2.2.2)
                          else
                            none
                        )
                      ) (
                        if ([] : List (ByteArray × Int)).length + a2.2.2.length < room 24 then
                          I1000004 b3 v4a v4ba a2.1 a2.2.1 w3 (([] : List (ByteArray × Int)) ++ a2.2.2)
                        else
                          none
                      )
                    )
                  )
                )
              )
            )
          )
        )
      )
    )
  )
theorem spec_MergePapers.g1000003raw_eq (I1000004 : (ByteArray × Int × List (ByteArray × Int)) → ByteArray → Int → ByteArray → Int → (List (ByteArray × Int)) → (List (ByteArray × Int)) → Option ((ByteArray × Int × List (ByteArray × Int)) × Int)) (L1000003 : (ByteArray × Int × List (ByteArray × Int)) → (ByteArray × Int × List (ByteArray × Int)) → ByteArray → Int → (List (ByteArray × Int)) → Option ((ByteArray × Int × List (ByteArray × Int)) × Int)) (a2 : ByteArray × Int × List (ByteArray × Int)) (b3 : ByteArray × Int × List (ByteArray × Int)) (v4a : ByteArray) (v4ba : Int) (w3 : List (ByteArray × Int)) : spec_MergePapers.g1000003raw I1000004 L1000003 a2 b3 v4a v4ba w3 = spec_MergePapers.g1000003 I1000004 L1000003 a2 b3 v4a v4ba w3 := by
  unfold spec_MergePapers.g1000003raw spec_MergePapers.g1000003
  simp only [agree_self]
def spec_MergePapers.con : Con := { ps := [(.val, (.pair .str (.pair (.int .i64) (.sl 82 (.pair .str (.int .i64)))))), (.val, (.pair .str (.pair (.int .i64) (.sl 82 (.pair .str (.int .i64))))))], rs := [(.own, (.pair .str (.pair (.int .i64) (.sl 82 (.pair .str (.int .i64)))))), (.own, (.int .i64))], F := fun x => spec_MergePapers.f x.1 x.2 }
def spec_MergePapers.cs : List (FuncId × Con) := [(103, spec_IsPaper.con), (104, spec_l29Put.con)]
def spec_MergePapers.E : Env := envOf tab spec_MergePapers.cs 0 false
def spec_MergePapers.keep (i : Nat) : List Nat := if i = 5 then [3, 4, 6, 7] else if i = 1000004 then [3, 4, 6] else if i = 1000003 then [2, 3, 4] else []
def spec_MergePapers.at5 (n : Nat) (x : (ByteArray × Int × List (ByteArray × Int)) × ByteArray × Int × List (ByteArray × Int)) : Code × (Ex → St → Option (((ByteArray × Int × List (ByteArray × Int)) × Int))) := ctx spec_MergePapers.E spec_MergePapers.keep n [.snd, .snd, .snd, .fst, .snd, .blk] (codeOf Try.f37) (kEnd spec_MergePapers.E Try.f37 spec_MergePapers.con x)
def spec_MergePapers.LN5 (n : Nat) (x : (ByteArray × Int × List (ByteArray × Int)) × ByteArray × Int × List (ByteArray × Int)) : Nat → St → Option (((ByteArray × Int × List (ByteArray × Int)) × Int)) := loopN (exec spec_MergePapers.E spec_MergePapers.keep n (bodyOf (spec_MergePapers.at5 n x).1)) (St.norm 0 (spec_MergePapers.keep 5)) (spec_MergePapers.at5 n x).2
def spec_MergePapers.at1000004 (n : Nat) (x : (ByteArray × Int × List (ByteArray × Int)) × ByteArray × Int × List (ByteArray × Int)) : Code × (Ex → St → Option (((ByteArray × Int × List (ByteArray × Int)) × Int))) := ctx spec_MergePapers.E spec_MergePapers.keep n [.snd, .snd, .snd] (codeOf Try.f37) (kEnd spec_MergePapers.E Try.f37 spec_MergePapers.con x)
def spec_MergePapers.LN1000004 (n : Nat) (x : (ByteArray × Int × List (ByteArray × Int)) × ByteArray × Int × List (ByteArray × Int)) : Nat → St → Option (((ByteArray × Int × List (ByteArray × Int)) × Int)) := cutN (exec spec_MergePapers.E spec_MergePapers.keep n (spec_MergePapers.at1000004 n x).1 (spec_MergePapers.at1000004 n x).2)
def spec_MergePapers.at1000003 (n : Nat) (x : (ByteArray × Int × List (ByteArray × Int)) × ByteArray × Int × List (ByteArray × Int)) : Code × (Ex → St → Option (((ByteArray × Int × List (ByteArray × Int)) × Int))) := ctx spec_MergePapers.E spec_MergePapers.keep n [.snd, .snd] (codeOf Try.f37) (kEnd spec_MergePapers.E Try.f37 spec_MergePapers.con x)
def spec_MergePapers.LN1000003 (n : Nat) (x : (ByteArray × Int × List (ByteArray × Int)) × ByteArray × Int × List (ByteArray × Int)) : Nat → St → Option (((ByteArray × Int × List (ByteArray × Int)) × Int)) := cutN (exec spec_MergePapers.E spec_MergePapers.keep n (spec_MergePapers.at1000003 n x).1 (spec_MergePapers.at1000003 n x).2)
set_option maxRecDepth 100000 in
theorem spec_MergePapers.lem5 (n : Nat) (x : (ByteArray × Int × List (ByteArray × Int)) × ByteArray × Int × List (ByteArray × Int)) : ∀ (k : Nat) (i7 : Int) (b3 : ByteArray × Int × List (ByteArray × Int)) (v4a : ByteArray) (v4ba : Int) (out6a : ByteArray) (out6ba : Int) (w3 : List (ByteArray × Int)) (w4 : List (ByteArray × Int)), spec_MergePapers.LN5 n x k (spec_MergePapers.st5 i7 b3 v4a v4ba out6a out6ba w3 w4) = spec_MergePapers.l5 n k i7 b3 v4a v4ba out6a out6ba w3 w4 := by
  intro k
  induction k with
  | zero => intro i7 b3 v4a v4ba out6a out6ba w3 w4; rfl
  | succ k ih =>
    intro i7 b3 v4a v4ba out6a out6ba w3 w4
    have h : spec_MergePapers.LN5 n x (k + 1) (spec_MergePapers.st5 i7 b3 v4a v4ba out6a out6ba w3 w4) = spec_MergePapers.g5 (fun i7 b3 v4a v4ba out6a out6ba w3 w4 => spec_MergePapers.LN5 n x k (spec_MergePapers.st5 i7 b3 v4a v4ba out6a out6ba w3 w4)) i7 b3 v4a v4ba out6a out6ba w3 w4 := by kernel_rfl
    rw [h]
    simp only [ih]
    rfl
set_option maxRecDepth 100000 in
theorem spec_MergePapers.lem1000004 (n : Nat) (x : (ByteArray × Int × List (ByteArray × Int)) × ByteArray × Int × List (ByteArray × Int)) : ∀ (k : Nat) (b3 : ByteArray × Int × List (ByteArray × Int)) (v4a : ByteArray) (v4ba : Int) (out6a : ByteArray) (out6ba : Int) (w3 : List (ByteArray × Int)) (w4 : List (ByteArray × Int)), spec_MergePapers.LN1000004 n x k (spec_MergePapers.st1000004 b3 v4a v4ba out6a out6ba w3 w4) = spec_MergePapers.l1000004 n k b3 v4a v4ba out6a out6ba w3 w4 := by
  intro k
  induction k with
  | zero => intro b3 v4a v4ba out6a out6ba w3 w4; rfl
  | succ k ih =>
    intro b3 v4a v4ba out6a out6ba w3 w4
    have h : spec_MergePapers.LN1000004 n x (k + 1) (spec_MergePapers.st1000004 b3 v4a v4ba out6a out6ba w3 w4) = spec_MergePapers.g1000004 (fun i7 b3 v4a v4ba out6a out6ba w3 w4 => spec_MergePapers.LN5 n x n (spec_MergePapers.st5 i7 b3 v4a v4ba out6a out6ba w3 w4)) (fun b3 v4a v4ba out6a out6ba w3 w4 => spec_MergePapers.LN1000004 n x k (spec_MergePapers.st1000004 b3 v4a v4ba out6a out6ba w3 w4)) b3 v4a v4ba out6a out6ba w3 w4 := by kernel_rfl
    rw [h]
    simp only [ih, spec_MergePapers.lem5]
    rfl
set_option maxRecDepth 100000 in
theorem spec_MergePapers.lem1000003 (n : Nat) (x : (ByteArray × Int × List (ByteArray × Int)) × ByteArray × Int × List (ByteArray × Int)) : ∀ (k : Nat) (a2 : ByteArray × Int × List (ByteArray × Int)) (b3 : ByteArray × Int × List (ByteArray × Int)) (v4a : ByteArray) (v4ba : Int) (w3 : List (ByteArray × Int)), spec_MergePapers.LN1000003 n x k (spec_MergePapers.st1000003 a2 b3 v4a v4ba w3) = spec_MergePapers.l1000003 n k a2 b3 v4a v4ba w3 := by
  intro k
  induction k with
  | zero => intro a2 b3 v4a v4ba w3; rfl
  | succ k ih =>
    intro a2 b3 v4a v4ba w3
    have h : spec_MergePapers.LN1000003 n x (k + 1) (spec_MergePapers.st1000003 a2 b3 v4a v4ba w3) = spec_MergePapers.g1000003raw (fun b3 v4a v4ba out6a out6ba w3 w4 => spec_MergePapers.LN1000004 n x n (spec_MergePapers.st1000004 b3 v4a v4ba out6a out6ba w3 w4)) (fun a2 b3 v4a v4ba w3 => spec_MergePapers.LN1000003 n x k (spec_MergePapers.st1000003 a2 b3 v4a v4ba w3)) a2 b3 v4a v4ba w3 := by kernel_rfl
    rw [spec_MergePapers.g1000003raw_eq] at h
    rw [h]
    simp only [ih, spec_MergePapers.lem1000004]
    rfl
set_option maxRecDepth 100000 in
theorem spec_MergePapers.body (n : Nat) (x : (ByteArray × Int × List (ByteArray × Int)) × ByteArray × Int × List (ByteArray × Int)) : bodyF spec_MergePapers.E spec_MergePapers.keep n Try.f37 spec_MergePapers.con x = spec_MergePapers.fn n x.1 x.2 := by
  have h : bodyF spec_MergePapers.E spec_MergePapers.keep n Try.f37 spec_MergePapers.con x = spec_MergePapers.top (fun a2 b3 v4a v4ba w3 => spec_MergePapers.LN1000003 n x n (spec_MergePapers.st1000003 a2 b3 v4a v4ba w3)) x.1 x.2 := by kernel_rfl
  rw [h]
  simp only [spec_MergePapers.lem1000003]
  rfl
set_option maxRecDepth 100000 in
theorem spec_MergePapers.good : Good Try.prog 37 spec_MergePapers.con :=
  good_of tabok (cs := spec_MergePapers.cs) ⟨spec_IsPaper.good, spec_l29Put.good, trivial⟩ 0 false (fn := Try.f37) Try.func37 rfl (by decide) (by simp [spec_MergePapers.con]) spec_MergePapers.keep NN (fun _ => rfl) (fun x => spec_MergePapers.body NN x)
end
end Go.Ev.Try

namespace Go.Ev.Try
open Go.Proofs Go.Pl
set_option linter.unusedVariables false
noncomputable section
def laws_szLine.con : Con := { ps := [(.val, (.pair .str (.int .i64))), (.val, (.int .i64))], rs := [(.val, (.int .i64))], F := fun x => laws_szLine.f x.1 x.2 }
def laws_szLine.cs : List (FuncId × Con) := []
def laws_szLine.E : Env := envOf tab laws_szLine.cs 0 false
def laws_szLine.keep (i : Nat) : List Nat := []
set_option maxRecDepth 100000 in
theorem laws_szLine.body (n : Nat) (x : (ByteArray × Int) × Int) : bodyF laws_szLine.E laws_szLine.keep n Try.f141 laws_szLine.con x = laws_szLine.fn n x.1 x.2 := by
  have h : bodyF laws_szLine.E laws_szLine.keep n Try.f141 laws_szLine.con x = laws_szLine.top x.1 x.2 := by kernel_rfl
  exact h
set_option maxRecDepth 100000 in
theorem laws_szLine.good : Good Try.prog 141 laws_szLine.con :=
  good_of tabok (cs := laws_szLine.cs) trivial 0 false (fn := Try.f141) Try.func141 rfl (by decide) (by simp [laws_szLine.con]) laws_szLine.keep NN (fun _ => rfl) (fun x => laws_szLine.body NN x)
end
end Go.Ev.Try

namespace Go.Ev.Try
open Go.Proofs Go.Pl
set_option linter.unusedVariables false
noncomputable section
def laws_szLineS.st5 (a0 : List (ByteArray × Int)) (left1 : Int) (i5 : Int) : St := ⟨[.dat (.sl 161 (.pair .str (.int .i64))) a0, .dat (.int .i64) left1, .gone, .gone, .gone, .dat (.int .i64) i5, .gone, .gone, .gone, .gone, .gone, .gone, .gone, .gone, .gone, .gone, .gone, .gone, .gone, .gone, .gone, .gone, .gone, .gone, .gone, .gone, .gone], []⟩
def laws_szLineS.con : Con := { ps := [(.val, (.sl 161 (.pair .str (.int .i64)))), (.val, (.int .i64))], rs := [(.val, (.int .i64))], F := fun x => laws_szLineS.f x.1 x.2 }
def laws_szLineS.cs : List (FuncId × Con) := [(141, laws_szLine.con)]
def laws_szLineS.E : Env := envOf tab laws_szLineS.cs 0 false
def laws_szLineS.keep (i : Nat) : List Nat := if i = 5 then [0, 1, 5] else []
def laws_szLineS.at5 (n : Nat) (x : (List (ByteArray × Int)) × Int) : Code × (Ex → St → Option (Int)) := ctx laws_szLineS.E laws_szLineS.keep n [.snd, .snd, .snd, .fst, .snd, .blk] (codeOf Try.f107) (kEnd laws_szLineS.E Try.f107 laws_szLineS.con x)
def laws_szLineS.LN5 (n : Nat) (x : (List (ByteArray × Int)) × Int) : Nat → St → Option (Int) := loopN (exec laws_szLineS.E laws_szLineS.keep n (bodyOf (laws_szLineS.at5 n x).1)) (St.norm 0 (laws_szLineS.keep 5)) (laws_szLineS.at5 n x).2
set_option maxRecDepth 100000 in
theorem laws_szLineS.lem5 (n : Nat) (x : (List (ByteArray × Int)) × Int) : ∀ (k : Nat) (a0 : List (ByteArray × Int)) (left1 : Int) (i5 : Int), laws_szLineS.LN5 n x k (laws_szLineS.st5 a0 left1 i5) = laws_szLineS.l5 n k a0 left1 i5 := by
  intro k
  induction k with
  | zero => intro a0 left1 i5; rfl
  | succ k ih =>
    intro a0 left1 i5
    have h : laws_szLineS.LN5 n x (k + 1) (laws_szLineS.st5 a0 left1 i5) = laws_szLineS.g5 (fun a0 left1 i5 => laws_szLineS.LN5 n x k (laws_szLineS.st5 a0 left1 i5)) a0 left1 i5 := by kernel_rfl
    rw [h]
    simp only [ih]
    rfl
set_option maxRecDepth 100000 in
theorem laws_szLineS.body (n : Nat) (x : (List (ByteArray × Int)) × Int) : bodyF laws_szLineS.E laws_szLineS.keep n Try.f107 laws_szLineS.con x = laws_szLineS.fn n x.1 x.2 := by
  have h : bodyF laws_szLineS.E laws_szLineS.keep n Try.f107 laws_szLineS.con x = laws_szLineS.top (fun a0 left1 i5 => laws_szLineS.LN5 n x n (laws_szLineS.st5 a0 left1 i5)) x.1 x.2 := by kernel_rfl
  rw [h]
  simp only [laws_szLineS.lem5]
  rfl
set_option maxRecDepth 100000 in
theorem laws_szLineS.good : Good Try.prog 107 laws_szLineS.con :=
  good_of tabok (cs := laws_szLineS.cs) ⟨laws_szLine.good, trivial⟩ 0 false (fn := Try.f107) Try.func107 rfl (by decide) (by simp [laws_szLineS.con]) laws_szLineS.keep NN (fun _ => rfl) (fun x => laws_szLineS.body NN x)
end
end Go.Ev.Try

namespace Go.Ev.Try
open Go.Proofs Go.Pl
set_option linter.unusedVariables false
noncomputable section
def laws_szPaper.con : Con := { ps := [(.val, (.pair .str (.pair (.int .i64) (.sl 161 (.pair .str (.int .i64)))))), (.val, (.int .i64))], rs := [(.val, (.int .i64))], F := fun x => laws_szPaper.f x.1 x.2 }
def laws_szPaper.cs : List (FuncId × Con) := [(107, laws_szLineS.con)]
def laws_szPaper.E : Env := envOf tab laws_szPaper.cs 0 false
def laws_szPaper.keep (i : Nat) : List Nat := []
set_option maxRecDepth 100000 in
theorem laws_szPaper.body (n : Nat) (x : (ByteArray × Int × List (ByteArray × Int)) × Int) : bodyF laws_szPaper.E laws_szPaper.keep n Try.f43 laws_szPaper.con x = laws_szPaper.fn n x.1 x.2 := by
  have h : bodyF laws_szPaper.E laws_szPaper.keep n Try.f43 laws_szPaper.con x = laws_szPaper.top x.1 x.2 := by kernel_rfl
  exact h
set_option maxRecDepth 100000 in
theorem laws_szPaper.good : Good Try.prog 43 laws_szPaper.con :=
  good_of tabok (cs := laws_szPaper.cs) ⟨laws_szLineS.good, trivial⟩ 0 false (fn := Try.f43) Try.func43 rfl (by decide) (by simp [laws_szPaper.con]) laws_szPaper.keep NN (fun _ => rfl) (fun x => laws_szPaper.body NN x)
end
end Go.Ev.Try

namespace Go.Ev.Try
open Go.Proofs Go.Pl
set_option linter.unusedVariables false
noncomputable section
def laws_roomBehind.con : Con := { ps := [(.val, (.int .i64))], rs := [(.val, (.int .i64))], F := fun x => laws_roomBehind.f x }
def laws_roomBehind.cs : List (FuncId × Con) := []
def laws_roomBehind.E : Env := envOf tab laws_roomBehind.cs 0 false
def laws_roomBehind.keep (i : Nat) : List Nat := []
set_option maxRecDepth 100000 in
theorem laws_roomBehind.body (n : Nat) (x : Int) : bodyF laws_roomBehind.E laws_roomBehind.keep n Try.f81 laws_roomBehind.con x = laws_roomBehind.fn n x := by
  have h : bodyF laws_roomBehind.E laws_roomBehind.keep n Try.f81 laws_roomBehind.con x = laws_roomBehind.top x := by kernel_rfl
  exact h
set_option maxRecDepth 100000 in
theorem laws_roomBehind.good : Good Try.prog 81 laws_roomBehind.con :=
  good_of tabok (cs := laws_roomBehind.cs) trivial 0 false (fn := Try.f81) Try.func81 rfl (by decide) (by simp [laws_roomBehind.con]) laws_roomBehind.keep NN (fun _ => rfl) (fun x => laws_roomBehind.body NN x)
end
end Go.Ev.Try

namespace Go.Ev.Try
open Go.Proofs Go.Pl
set_option linter.unusedVariables false
noncomputable section
def laws_toLine.con : Con := { ps := [(.val, (.pair .str (.int .i64)))], rs := [(.own, (.pair .str (.int .i64)))], F := fun x => laws_toLine.f x }
def laws_toLine.cs : List (FuncId × Con) := []
def laws_toLine.E : Env := envOf tab laws_toLine.cs 0 true
def laws_toLine.keep (i : Nat) : List Nat := []
set_option maxRecDepth 100000 in
theorem laws_toLine.body (n : Nat) (x : ByteArray × Int) : bodyF laws_toLine.E laws_toLine.keep n Try.f142 laws_toLine.con x = laws_toLine.fn n x := by
  have h : bodyF laws_toLine.E laws_toLine.keep n Try.f142 laws_toLine.con x = laws_toLine.top x := by kernel_rfl
  exact h
set_option maxRecDepth 100000 in
theorem laws_toLine.good : Good Try.prog 142 laws_toLine.con :=
  good_of tabok (cs := laws_toLine.cs) trivial 0 true (fn := Try.f142) Try.func142 rfl (by decide) (by simp [laws_toLine.con]) laws_toLine.keep NN (fun _ => rfl) (fun x => laws_toLine.body NN x)
end
end Go.Ev.Try

namespace Go.Ev.Try
open Go.Proofs Go.Pl
set_option linter.unusedVariables false
noncomputable section
def laws_fillerLine.con : Con := { ps := [], rs := [(.val, (.pair .str (.int .i64)))], F := fun x => laws_fillerLine.f  }
def laws_fillerLine.cs : List (FuncId × Con) := []
def laws_fillerLine.E : Env := envOf tab laws_fillerLine.cs 0 false
def laws_fillerLine.keep (i : Nat) : List Nat := []
set_option maxRecDepth 100000 in
theorem laws_fillerLine.body (n : Nat) (x : Unit) : bodyF laws_fillerLine.E laws_fillerLine.keep n Try.f143 laws_fillerLine.con x = laws_fillerLine.fn n  := by
  have h : bodyF laws_fillerLine.E laws_fillerLine.keep n Try.f143 laws_fillerLine.con x = laws_fillerLine.top  := by kernel_rfl
  exact h
set_option maxRecDepth 100000 in
theorem laws_fillerLine.good : Good Try.prog 143 laws_fillerLine.con :=
  good_of tabok (cs := laws_fillerLine.cs) trivial 0 false (fn := Try.f143) Try.func143 rfl (by decide) (by simp [laws_fillerLine.con]) laws_fillerLine.keep NN (fun _ => rfl) (fun x => laws_fillerLine.body NN x)
end
end Go.Ev.Try

namespace Go.Ev.Try
open Go.Proofs Go.Pl
set_option linter.unusedVariables false
noncomputable section
def laws_toLineS.st9 (a0 : List (ByteArray × Int)) (i7 : Int) (out5 : List (ByteArray × Int)) : St := ⟨[.dat (.sl 161 (.pair .str (.int .i64))) a0, .gone, .gone, .gone, .gone, .ref 0, .gone, .dat (.int .i64) i7, .gone, .gone, .gone, .gone, .gone, .gone, .gone, .gone, .gone, .gone, .gone, .gone, .gone, .gone, .gone, .gone, .gone, .gone, .gone, .gone, .gone, .gone, .gone, .gone, .gone, .gone, .gone, .gone, .gone, .gone, .gone, .gone, .gone, .gone, .gone, .gone, .gone, .gone, .gone, .gone, .gone, .gone, .gone], [.row 82 (.pair .str (.int .i64)) out5 none]⟩
def laws_toLineS.st5 (a0 : List (ByteArray × Int)) (i6 : Int) (out5 : List (ByteArray × Int)) : St := ⟨[.dat (.sl 161 (.pair .str (.int .i64))) a0, .gone, .gone, .gone, .gone, .ref 0, .dat (.int .i64) i6, .gone, .gone, .gone, .gone, .gone, .gone, .gone, .gone, .gone, .gone, .gone, .gone, .gone, .gone, .gone, .gone, .gone, .gone, .gone, .gone, .gone, .gone, .gone, .gone, .gone, .gone, .gone, .gone, .gone, .gone, .gone, .gone, .gone, .gone, .gone, .gone, .gone, .gone, .gone, .gone, .gone, .gone, .gone, .gone], [.row 82 (.pair .str (.int .i64)) out5 none]⟩
def laws_toLineS.con : Con := { ps := [(.val, (.sl 161 (.pair .str (.int .i64)))), (.val, .bool)], rs := [(.own, (.slb 82 (.pair .str (.int .i64))))], F := fun x => laws_toLineS.f x.1 x.2 }
def laws_toLineS.cs : List (FuncId × Con) := [(81, laws_roomBehind.con), (142, laws_toLine.con), (143, laws_fillerLine.con)]
def laws_toLineS.E : Env := envOf tab laws_toLineS.cs 0 true
def laws_toLineS.keep (i : Nat) : List Nat := if i = 9 then [0, 5, 7] else if i = 5 then [0, 5, 6] else []
def laws_toLineS.at9 (n : Nat) (x : (List (ByteArray × Int)) × Bool) : Code × (Ex → St → Option ((List (ByteArray × Int) × List (ByteArray × Int)))) := ctx laws_toLineS.E laws_toLineS.keep n [.snd, .snd, .snd, .snd, .fst, .snd, .blk] (codeOf Try.f109) (kEnd laws_toLineS.E Try.f109 laws_toLineS.con x)
def laws_toLineS.LN9 (n : Nat) (x : (List (ByteArray × Int)) × Bool) : Nat → St → Option ((List (ByteArray × Int) × List (ByteArray × Int))) := loopN (exec laws_toLineS.E laws_toLineS.keep n (bodyOf (laws_toLineS.at9 n x).1)) (St.norm 0 (laws_toLineS.keep 9)) (laws_toLineS.at9 n x).2
def laws_toLineS.at5 (n : Nat) (x : (List (ByteArray × Int)) × Bool) : Code × (Ex → St → Option ((List (ByteArray × Int) × List (ByteArray × Int)))) := ctx laws_toLineS.E laws_toLineS.keep n [.snd, .snd, .snd, .fst, .snd, .blk] (codeOf Try.f109) (kEnd laws_toLineS.E Try.f109 laws_toLineS.con x)
def laws_toLineS.LN5 (n : Nat) (x : (List (ByteArray × Int)) × Bool) : Nat → St → Option ((List (ByteArray × Int) × List (ByteArray × Int))) := loopN (exec laws_toLineS.E laws_toLineS.keep n (bodyOf (laws_toLineS.at5 n x).1)) (St.norm 0 (laws_toLineS.keep 5)) (laws_toLineS.at5 n x).2
set_option maxRecDepth 100000 in
theorem laws_toLineS.lem9 (n : Nat) (x : (List (ByteArray × Int)) × Bool) : ∀ (k : Nat) (a0 : List (ByteArray × Int)) (i7 : Int) (out5 : List (ByteArray × Int)), laws_toLineS.LN9 n x k (laws_toLineS.st9 a0 i7 out5) = laws_toLineS.l9 n k a0 i7 out5 := by
  intro k
  induction k with
  | zero => intro a0 i7 out5; rfl
  | succ k ih =>
    intro a0 i7 out5
    have h : laws_toLineS.LN9 n x (k + 1) (laws_toLineS.st9 a0 i7 out5) = laws_toLineS.g9 (fun a0 i7 out5 => laws_toLineS.LN9 n x k (laws_toLineS.st9 a0 i7 out5)) a0 i7 out5 := by kernel_rfl
    rw [h]
    simp only [ih]
    rfl
set_option maxRecDepth 100000 in
theorem laws_toLineS.lem5 (n : Nat) (x : (List (ByteArray × Int)) × Bool) : ∀ (k : Nat) (a0 : List (ByteArray × Int)) (i6 : Int) (out5 : List (ByteArray × Int)), laws_toLineS.LN5 n x k (laws_toLineS.st5 a0 i6 out5) = laws_toLineS.l5 n k a0 i6 out5 := by
  intro k
  induction k with
  | zero => intro a0 i6 out5; rfl
  | succ k ih =>
    intro a0 i6 out5
    have h : laws_toLineS.LN5 n x (k + 1) (laws_toLineS.st5 a0 i6 out5) = laws_toLineS.g5 (fun a0 i7 out5 => laws_toLineS.LN9 n x n (laws_toLineS.st9 a0 i7 out5)) (fun a0 i6 out5 => laws_toLineS.LN5 n x k (laws_toLineS.st5 a0 i6 out5)) a0 i6 out5 := by kernel_rfl
    rw [h]
    simp only [ih, laws_toLineS.lem9]
    rfl
set_option maxRecDepth 100000 in
theorem laws_toLineS.body (n : Nat) (x : (List (ByteArray × Int)) × Bool) : bodyF laws_toLineS.E laws_toLineS.keep n Try.f109 laws_toLineS.con x = laws_toLineS.fn n x.1 x.2 := by
  have h : bodyF laws_toLineS.E laws_toLineS.keep n Try.f109 laws_toLineS.con x = laws_toLineS.top (fun a0 i6 out5 => laws_toLineS.LN5 n x n (laws_toLineS.st5 a0 i6 out5)) x.1 x.2 := by kernel_rfl
  rw [h]
  simp only [laws_toLineS.lem5]
  rfl
set_option maxRecDepth 100000 in
theorem laws_toLineS.good : Good Try.prog 109 laws_toLineS.con :=
  good_of tabok (cs := laws_toLineS.cs) ⟨laws_roomBehind.good, laws_toLine.good, laws_fillerLine.good, trivial⟩ 0 true (fn := Try.f109) Try.func109 rfl (by decide) (by simp [laws_toLineS.con]) laws_toLineS.keep NN (fun _ => rfl) (fun x => laws_toLineS.body NN x)
end
end Go.Ev.Try

namespace Go.Ev.Try
open Go.Proofs Go.Pl
set_option linter.unusedVariables false
noncomputable section
def laws_toPaper.con : Con := { ps := [(.val, (.pair .str (.pair (.int .i64) (.sl 161 (.pair .str (.int .i64)))))), (.val, .bool)], rs := [(.own, (.pair .str (.pair (.int .i64) (.slb 82 (.pair .str (.int .i64))))))], F := fun x => laws_toPaper.f x.1 x.2 }
def laws_toPaper.cs : List (FuncId × Con) := [(109, laws_toLineS.con)]
def laws_toPaper.E : Env := envOf tab laws_toPaper.cs 0 true
def laws_toPaper.keep (i : Nat) : List Nat := []
set_option maxRecDepth 100000 in
theorem laws_toPaper.body (n : Nat) (x : (ByteArray × Int × List (ByteArray × Int)) × Bool) : bodyF laws_toPaper.E laws_toPaper.keep n Try.f45 laws_toPaper.con x = laws_toPaper.fn n x.1 x.2 := by
  have h : bodyF laws_toPaper.E laws_toPaper.keep n Try.f45 laws_toPaper.con x = laws_toPaper.top x.1 x.2 := by kernel_rfl
  exact h
set_option maxRecDepth 100000 in
theorem laws_toPaper.good : Good Try.prog 45 laws_toPaper.con :=
  good_of tabok (cs := laws_toPaper.cs) ⟨laws_toLineS.good, trivial⟩ 0 true (fn := Try.f45) Try.func45 rfl (by decide) (by simp [laws_toPaper.con]) laws_toPaper.keep NN (fun _ => rfl) (fun x => laws_toPaper.body NN x)
end
end Go.Ev.Try

namespace Go.Ev.Try
open Go.Proofs Go.Pl
set_option linter.unusedVariables false
noncomputable section
def laws_eqLine.con : Con := { ps := [(.val, (.pair .str (.int .i64))), (.val, (.pair .str (.int .i64)))], rs := [(.val, .bool)], F := fun x => laws_eqLine.f x.1 x.2 }
def laws_eqLine.cs : List (FuncId × Con) := []
def laws_eqLine.E : Env := envOf tab laws_eqLine.cs 0 false
def laws_eqLine.keep (i : Nat) : List Nat := []
set_option maxRecDepth 100000 in
theorem laws_eqLine.body (n : Nat) (x : (ByteArray × Int) × ByteArray × Int) : bodyF laws_eqLine.E laws_eqLine.keep n Try.f144 laws_eqLine.con x = laws_eqLine.fn n x.1 x.2 := by
  have h : bodyF laws_eqLine.E laws_eqLine.keep n Try.f144 laws_eqLine.con x = laws_eqLine.top x.1 x.2 := by kernel_rfl
  exact h
set_option maxRecDepth 100000 in
theorem laws_eqLine.good : Good Try.prog 144 laws_eqLine.con :=
  good_of tabok (cs := laws_eqLine.cs) trivial 0 false (fn := Try.f144) Try.func144 rfl (by decide) (by simp [laws_eqLine.con]) laws_eqLine.keep NN (fun _ => rfl) (fun x => laws_eqLine.body NN x)
end
end Go.Ev.Try

namespace Go.Ev.Try
open Go.Proofs Go.Pl
set_option linter.unusedVariables false
noncomputable section
def laws_eqLineS.st4 (a0 : List (ByteArray × Int)) (b1 : List (ByteArray × Int)) (i5 : Int) : St := ⟨[.dat (.sl 82 (.pair .str (.int .i64))) a0, .dat (.sl 82 (.pair .str (.int .i64))) b1, .gone, .gone, .gone, .dat (.int .i64) i5, .gone, .gone, .gone, .gone, .gone, .gone, .gone, .gone, .gone, .gone, .gone, .gone, .gone, .gone, .gone, .gone, .gone, .gone, .gone, .gone, .gone], []⟩
def laws_eqLineS.con : Con := { ps := [(.val, (.sl 82 (.pair .str (.int .i64)))), (.val, (.sl 82 (.pair .str (.int .i64))))], rs := [(.val, .bool)], F := fun x => laws_eqLineS.f x.1 x.2 }
def laws_eqLineS.cs : List (FuncId × Con) := [(144, laws_eqLine.con)]
def laws_eqLineS.E : Env := envOf tab laws_eqLineS.cs 0 false
def laws_eqLineS.keep (i : Nat) : List Nat := if i = 4 then [0, 1, 5] else []
def laws_eqLineS.at4 (n : Nat) (x : (List (ByteArray × Int)) × List (ByteArray × Int)) : Code × (Ex → St → Option (Bool)) := ctx laws_eqLineS.E laws_eqLineS.keep n [.snd, .snd, .fst, .snd, .blk] (codeOf Try.f110) (kEnd laws_eqLineS.E Try.f110 laws_eqLineS.con x)
def laws_eqLineS.LN4 (n : Nat) (x : (List (ByteArray × Int)) × List (ByteArray × Int)) : Nat → St → Option (Bool) := loopN (exec laws_eqLineS.E laws_eqLineS.keep n (bodyOf (laws_eqLineS.at4 n x).1)) (St.norm 0 (laws_eqLineS.keep 4)) (laws_eqLineS.at4 n x).2
set_option maxRecDepth 100000 in
theorem laws_eqLineS.lem4 (n : Nat) (x : (List (ByteArray × Int)) × List (ByteArray × Int)) : ∀ (k : Nat) (a0 : List (ByteArray × Int)) (b1 : List (ByteArray × Int)) (i5 : Int), laws_eqLineS.LN4 n x k (laws_eqLineS.st4 a0 b1 i5) = laws_eqLineS.l4 n k a0 b1 i5 := by
  intro k
  induction k with
  | zero => intro a0 b1 i5; rfl
  | succ k ih =>
    intro a0 b1 i5
    have h : laws_eqLineS.LN4 n x (k + 1) (laws_eqLineS.st4 a0 b1 i5) = laws_eqLineS.g4 (fun a0 b1 i5 => laws_eqLineS.LN4 n x k (laws_eqLineS.st4 a0 b1 i5)) a0 b1 i5 := by kernel_rfl
    rw [h]
    simp only [ih]
    rfl
set_option maxRecDepth 100000 in
theorem laws_eqLineS.body (n : Nat) (x : (List (ByteArray × Int)) × List (ByteArray × Int)) : bodyF laws_eqLineS.E laws_eqLineS.keep n Try.f110 laws_eqLineS.con x = laws_eqLineS.fn n x.1 x.2 := by
  have h : bodyF laws_eqLineS.E laws_eqLineS.keep n Try.f110 laws_eqLineS.con x = laws_eqLineS.top (fun a0 b1 i5 => laws_eqLineS.LN4 n x n (laws_eqLineS.st4 a0 b1 i5)) x.1 x.2 := by kernel_rfl
  rw [h]
  simp only [laws_eqLineS.lem4]
  rfl
set_option maxRecDepth 100000 in
theorem laws_eqLineS.good : Good Try.prog 110 laws_eqLineS.con :=
  good_of tabok (cs := laws_eqLineS.cs) ⟨laws_eqLine.good, trivial⟩ 0 false (fn := Try.f110) Try.func110 rfl (by decide) (by simp [laws_eqLineS.con]) laws_eqLineS.keep NN (fun _ => rfl) (fun x => laws_eqLineS.body NN x)
end
end Go.Ev.Try

namespace Go.Ev.Try
open Go.Proofs Go.Pl
set_option linter.unusedVariables false
noncomputable section
def laws_eqPaper.con : Con := { ps := [(.val, (.pair .str (.pair (.int .i64) (.sl 82 (.pair .str (.int .i64)))))), (.val, (.pair .str (.pair (.int .i64) (.sl 82 (.pair .str (.int .i64))))))], rs := [(.val, .bool)], F := fun x => laws_eqPaper.f x.1 x.2 }
def laws_eqPaper.cs : List (FuncId × Con) := [(110, laws_eqLineS.con)]
def laws_eqPaper.E : Env := envOf tab laws_eqPaper.cs 0 false
def laws_eqPaper.keep (i : Nat) : List Nat := []
set_option maxRecDepth 100000 in
theorem laws_eqPaper.body (n : Nat) (x : (ByteArray × Int × List (ByteArray × Int)) × ByteArray × Int × List (ByteArray × Int)) : bodyF laws_eqPaper.E laws_eqPaper.keep n Try.f47 laws_eqPaper.con x = laws_eqPaper.fn n x.1 x.2 := by
  have h : bodyF laws_eqPaper.E laws_eqPaper.keep n Try.f47 laws_eqPaper.con x = laws_eqPaper.top x.1 x.2 := by kernel_rfl
  exact h
set_option maxRecDepth 100000 in
theorem laws_eqPaper.good : Good Try.prog 47 laws_eqPaper.con :=
  good_of tabok (cs := laws_eqPaper.cs) ⟨laws_eqLineS.good, trivial⟩ 0 false (fn := Try.f47) Try.func47 rfl (by decide) (by simp [laws_eqPaper.con]) laws_eqPaper.keep NN (fun _ => rfl) (fun x => laws_eqPaper.body NN x)
end
end Go.Ev.Try

namespace Go.Ev.Try
open Go.Proofs Go.Pl
set_option linter.unusedVariables false
noncomputable section
def laws_intactLineS.con : Con := { ps := [(.val, (.slb 82 (.pair .str (.int .i64)))), (.val, (.slb 82 (.pair .str (.int .i64))))], rs := [(.val, .bool)], F := fun x => laws_intactLineS.f x.1 x.2 }
def laws_intactLineS.cs : List (FuncId × Con) := [(81, laws_roomBehind.con), (110, laws_eqLineS.con)]
def laws_intactLineS.E : Env := envOf tab laws_intactLineS.cs 0 false
def laws_intactLineS.keep (i : Nat) : List Nat := []
set_option maxRecDepth 100000 in
theorem laws_intactLineS.body (n : Nat) (x : (List (ByteArray × Int) × List (ByteArray × Int)) × List (ByteArray × Int) × List (ByteArray × Int)) : bodyF laws_intactLineS.E laws_intactLineS.keep n Try.f111 laws_intactLineS.con x = laws_intactLineS.fn n x.1 x.2 := by
  have h : bodyF laws_intactLineS.E laws_intactLineS.keep n Try.f111 laws_intactLineS.con x = laws_intactLineS.top x.1 x.2 := by kernel_rfl
  exact h
set_option maxRecDepth 100000 in
theorem laws_intactLineS.good : Good Try.prog 111 laws_intactLineS.con :=
  good_of tabok (cs := laws_intactLineS.cs) ⟨laws_roomBehind.good, laws_eqLineS.good, trivial⟩ 0 false (fn := Try.f111) Try.func111 rfl (by decide) (by simp [laws_intactLineS.con]) laws_intactLineS.keep NN (fun _ => rfl) (fun x => laws_intactLineS.body NN x)
end
end Go.Ev.Try

namespace Go.Ev.Try
open Go.Proofs Go.Pl
set_option linter.unusedVariables false
noncomputable section
def laws_intactPaper.con : Con := { ps := [(.val, (.pair .str (.pair (.int .i64) (.slb 82 (.pair .str (.int .i64)))))), (.val, (.pair .str (.pair (.int .i64) (.slb 82 (.pair .str (.int .i64))))))], rs := [(.val, .bool)], F := fun x => laws_intactPaper.f x.1 x.2 }
def laws_intactPaper.cs : List (FuncId × Con) := [(111, laws_intactLineS.con)]
def laws_intactPaper.E : Env := envOf tab laws_intactPaper.cs 0 false
def laws_intactPaper.keep (i : Nat) : List Nat := []
set_option maxRecDepth 100000 in
theorem laws_intactPaper.body (n : Nat) (x : (ByteArray × Int × List (ByteArray × Int) × List (ByteArray × Int)) × ByteArray × Int × List (ByteArray × Int) × List (ByteArray × Int)) : bodyF laws_intactPaper.E laws_intactPaper.keep n Try.f48 laws_intactPaper.con x = laws_intactPaper.fn n x.1 x.2 := by
  have h : bodyF laws_intactPaper.E laws_intactPaper.keep n Try.f48 laws_intactPaper.con x = laws_intactPaper.top x.1 x.2 := by kernel_rfl
  exact h
set_option maxRecDepth 100000 in
theorem laws_intactPaper.good : Good Try.prog 48 laws_intactPaper.con :=
  good_of tabok (cs := laws_intactPaper.cs) ⟨laws_intactLineS.good, trivial⟩ 0 false (fn := Try.f48) Try.func48 rfl (by decide) (by simp [laws_intactPaper.con]) laws_intactPaper.keep NN (fun _ => rfl) (fun x => laws_intactPaper.body NN x)
end
end Go.Ev.Try

namespace Go.Ev.Try
open Go.Proofs Go.Pl
set_option linter.unusedVariables false
noncomputable section
def laws_markText.st4 (k0 : Int) (out3 : ByteArray) : St := ⟨[.dat (.int .i64) k0, .gone, .gone, .dat .str out3, .gone, .gone, .gone, .gone, .gone, .gone, .gone, .gone, .gone, .gone, .gone, .gone, .gone, .gone, .gone, .gone], []⟩
def laws_markText.con : Con := { ps := [(.val, (.int .i64))], rs := [(.val, .str)], F := fun x => laws_markText.f x }
def laws_markText.cs : List (FuncId × Con) := []
def laws_markText.E : Env := envOf tab laws_markText.cs 0 false
def laws_markText.keep (i : Nat) : List Nat := if i = 4 then [0, 3] else []
def laws_markText.at4 (n : Nat) (x : Int) : Code × (Ex → St → Option (ByteArray)) := ctx laws_markText.E laws_markText.keep n [.snd, .snd, .snd, .fst, .blk] (codeOf Try.f86) (kEnd laws_markText.E Try.f86 laws_markText.con x)
def laws_markText.LN4 (n : Nat) (x : Int) : Nat → St → Option (ByteArray) := loopN (exec laws_markText.E laws_markText.keep n (bodyOf (laws_markText.at4 n x).1)) (St.norm 0 (laws_markText.keep 4)) (laws_markText.at4 n x).2
set_option maxRecDepth 100000 in
theorem laws_markText.lem4 (n : Nat) (x : Int) : ∀ (k : Nat) (k0 : Int) (out3 : ByteArray), laws_markText.LN4 n x k (laws_markText.st4 k0 out3) = laws_markText.l4 n k k0 out3 := by
  intro k
  induction k with
  | zero => intro k0 out3; rfl
  | succ k ih =>
    intro k0 out3
    have h : laws_markText.LN4 n x (k + 1) (laws_markText.st4 k0 out3) = laws_markText.g4 (fun k0 out3 => laws_markText.LN4 n x k (laws_markText.st4 k0 out3)) k0 out3 := by kernel_rfl
    rw [h]
    simp only [ih]
    rfl
set_option maxRecDepth 100000 in
theorem laws_markText.body (n : Nat) (x : Int) : bodyF laws_markText.E laws_markText.keep n Try.f86 laws_markText.con x = laws_markText.fn n x := by
  have h : bodyF laws_markText.E laws_markText.keep n Try.f86 laws_markText.con x = laws_markText.top (fun k0 out3 => laws_markText.LN4 n x n (laws_markText.st4 k0 out3)) x := by kernel_rfl
  rw [h]
  simp only [laws_markText.lem4]
  rfl
set_option maxRecDepth 100000 in
theorem laws_markText.good : Good Try.prog 86 laws_markText.con :=
  good_of tabok (cs := laws_markText.cs) trivial 0 false (fn := Try.f86) Try.func86 rfl (by decide) (by simp [laws_markText.con]) laws_markText.keep NN (fun _ => rfl) (fun x => laws_markText.body NN x)
end
end Go.Ev.Try

namespace Go.Ev.Try
open Go.Proofs Go.Pl
set_option linter.unusedVariables false
noncomputable section
def laws_markLineS.st2 (k1 : Int) (i5 : Int) (a0 : List (ByteArray × Int)) : St := ⟨[.ref 0, .dat (.int .i64) k1, .gone, .gone, .gone, .dat (.int .i64) i5, .gone, .gone, .gone, .gone, .gone, .gone, .gone, .gone, .gone, .gone, .gone, .gone, .gone, .gone, .gone, .gone, .gone, .gone, .gone, .gone, .gone, .gone], [.row 82 (.pair .str (.int .i64)) a0 none]⟩
def laws_markLineS.con : Con := { ps := [(.own, (.sl 82 (.pair .str (.int .i64)))), (.val, (.int .i64))], rs := [(.val, (.int .i64))], F := fun x => laws_markLineS.f x.1 x.2 }
def laws_markLineS.cs : List (FuncId × Con) := [(86, laws_markText.con)]
def laws_markLineS.E : Env := envOf tab laws_markLineS.cs 1 false
def laws_markLineS.keep (i : Nat) : List Nat := if i = 2 then [0, 1, 5] else []
def laws_markLineS.at2 (n : Nat) (x : (List (ByteArray × Int)) × Int) : Code × (Ex → St → Option ((Int × List (ByteArray × Int)))) := ctx laws_markLineS.E laws_markLineS.keep n [.snd, .fst, .snd, .blk] (codeOf Try.f112) (kEnd laws_markLineS.E Try.f112 laws_markLineS.con x)
def laws_markLineS.LN2 (n : Nat) (x : (List (ByteArray × Int)) × Int) : Nat → St → Option ((Int × List (ByteArray × Int))) := loopN (exec laws_markLineS.E laws_markLineS.keep n (bodyOf (laws_markLineS.at2 n x).1)) (St.norm 1 (laws_markLineS.keep 2)) (laws_markLineS.at2 n x).2
set_option maxRecDepth 100000 in
theorem laws_markLineS.lem2 (n : Nat) (x : (List (ByteArray × Int)) × Int) : ∀ (k : Nat) (k1 : Int) (i5 : Int) (a0 : List (ByteArray × Int)), laws_markLineS.LN2 n x k (laws_markLineS.st2 k1 i5 a0) = laws_markLineS.l2 n k k1 i5 a0 := by
  intro k
  induction k with
  | zero => intro k1 i5 a0; rfl
  | succ k ih =>
    intro k1 i5 a0
    have h : laws_markLineS.LN2 n x (k + 1) (laws_markLineS.st2 k1 i5 a0) = laws_markLineS.g2 (fun k1 i5 a0 => laws_markLineS.LN2 n x k (laws_markLineS.st2 k1 i5 a0)) k1 i5 a0 := by kernel_rfl
    rw [h]
    simp only [ih]
    rfl
set_option maxRecDepth 100000 in
theorem laws_markLineS.body (n : Nat) (x : (List (ByteArray × Int)) × Int) : bodyF laws_markLineS.E laws_markLineS.keep n Try.f112 laws_markLineS.con x = laws_markLineS.fn n x.1 x.2 := by
  have h : bodyF laws_markLineS.E laws_markLineS.keep n Try.f112 laws_markLineS.con x = laws_markLineS.top (fun k1 i5 a0 => laws_markLineS.LN2 n x n (laws_markLineS.st2 k1 i5 a0)) x.1 x.2 := by kernel_rfl
  rw [h]
  simp only [laws_markLineS.lem2]
  rfl
set_option maxRecDepth 100000 in
theorem laws_markLineS.good : Good Try.prog 112 laws_markLineS.con :=
  good_of tabok (cs := laws_markLineS.cs) ⟨laws_markText.good, trivial⟩ 1 false (fn := Try.f112) Try.func112 rfl (by decide) (by simp [laws_markLineS.con]) laws_markLineS.keep NN (fun _ => rfl) (fun x => laws_markLineS.body NN x)
end
end Go.Ev.Try

namespace Go.Ev.Try
open Go.Proofs Go.Pl
set_option linter.unusedVariables false
noncomputable section
def laws_markPaper.con : Con := { ps := [(.own, (.pair .str (.pair (.int .i64) (.sl 82 (.pair .str (.int .i64)))))), (.val, (.int .i64))], rs := [(.val, (.int .i64))], F := fun x => laws_markPaper.f x.1 x.2 }
def laws_markPaper.cs : List (FuncId × Con) := [(112, laws_markLineS.con)]
def laws_markPaper.E : Env := envOf tab laws_markPaper.cs 1 false
def laws_markPaper.keep (i : Nat) : List Nat := []
set_option maxRecDepth 100000 in
theorem laws_markPaper.body (n : Nat) (x : (ByteArray × Int × List (ByteArray × Int)) × Int) : bodyF laws_markPaper.E laws_markPaper.keep n Try.f49 laws_markPaper.con x = laws_markPaper.fn n x.1 x.2 := by
  have h : bodyF laws_markPaper.E laws_markPaper.keep n Try.f49 laws_markPaper.con x = laws_markPaper.top x.1 x.2 := by kernel_rfl
  exact h
set_option maxRecDepth 100000 in
theorem laws_markPaper.good : Good Try.prog 49 laws_markPaper.con :=
  good_of tabok (cs := laws_markPaper.cs) ⟨laws_markLineS.good, trivial⟩ 1 false (fn := Try.f49) Try.func49 rfl (by decide) (by simp [laws_markPaper.con]) laws_markPaper.keep NN (fun _ => rfl) (fun x => laws_markPaper.body NN x)
end
end Go.Ev.Try

namespace Go.Ev.Try
open Go.Proofs Go.Pl
set_option linter.unusedVariables false
noncomputable section
def laws_heldLineS.st2 (a0 : List (ByteArray × Int)) (k1 : Int) (i5 : Int) : St := ⟨[.dat (.sl 82 (.pair .str (.int .i64))) a0, .dat (.int .i64) k1, .gone, .gone, .gone, .dat (.int .i64) i5, .gone, .gone, .gone, .gone, .gone, .gone, .gone, .gone, .gone, .gone, .gone, .gone, .gone, .gone, .gone, .gone, .gone, .gone, .gone, .gone, .gone, .gone, .gone, .gone, .gone, .gone], []⟩
def laws_heldLineS.con : Con := { ps := [(.val, (.sl 82 (.pair .str (.int .i64)))), (.val, (.int .i64))], rs := [(.val, (.int .i64))], F := fun x => laws_heldLineS.f x.1 x.2 }
def laws_heldLineS.cs : List (FuncId × Con) := [(86, laws_markText.con)]
def laws_heldLineS.E : Env := envOf tab laws_heldLineS.cs 0 false
def laws_heldLineS.keep (i : Nat) : List Nat := if i = 2 then [0, 1, 5] else []
def laws_heldLineS.at2 (n : Nat) (x : (List (ByteArray × Int)) × Int) : Code × (Ex → St → Option (Int)) := ctx laws_heldLineS.E laws_heldLineS.keep n [.snd, .fst, .snd, .blk] (codeOf Try.f113) (kEnd laws_heldLineS.E Try.f113 laws_heldLineS.con x)
def laws_heldLineS.LN2 (n : Nat) (x : (List (ByteArray × Int)) × Int) : Nat → St → Option (Int) := loopN (exec laws_heldLineS.E laws_heldLineS.keep n (bodyOf (laws_heldLineS.at2 n x).1)) (St.norm 0 (laws_heldLineS.keep 2)) (laws_heldLineS.at2 n x).2
set_option maxRecDepth 100000 in
theorem laws_heldLineS.lem2 (n : Nat) (x : (List (ByteArray × Int)) × Int) : ∀ (k : Nat) (a0 : List (ByteArray × Int)) (k1 : Int) (i5 : Int), laws_heldLineS.LN2 n x k (laws_heldLineS.st2 a0 k1 i5) = laws_heldLineS.l2 n k a0 k1 i5 := by
  intro k
  induction k with
  | zero => intro a0 k1 i5; rfl
  | succ k ih =>
    intro a0 k1 i5
    have h : laws_heldLineS.LN2 n x (k + 1) (laws_heldLineS.st2 a0 k1 i5) = laws_heldLineS.g2 (fun a0 k1 i5 => laws_heldLineS.LN2 n x k (laws_heldLineS.st2 a0 k1 i5)) a0 k1 i5 := by kernel_rfl
    rw [h]
    simp only [ih]
    rfl
set_option maxRecDepth 100000 in
theorem laws_heldLineS.body (n : Nat) (x : (List (ByteArray × Int)) × Int) : bodyF laws_heldLineS.E laws_heldLineS.keep n Try.f113 laws_heldLineS.con x = laws_heldLineS.fn n x.1 x.2 := by
  have h : bodyF laws_heldLineS.E laws_heldLineS.keep n Try.f113 laws_heldLineS.con x = laws_heldLineS.top (fun a0 k1 i5 => laws_heldLineS.LN2 n x n (laws_heldLineS.st2 a0 k1 i5)) x.1 x.2 := by kernel_rfl
  rw [h]
  simp only [laws_heldLineS.lem2]
  rfl
set_option maxRecDepth 100000 in
theorem laws_heldLineS.good : Good Try.prog 113 laws_heldLineS.con :=
  good_of tabok (cs := laws_heldLineS.cs) ⟨laws_markText.good, trivial⟩ 0 false (fn := Try.f113) Try.func113 rfl (by decide) (by simp [laws_heldLineS.con]) laws_heldLineS.keep NN (fun _ => rfl) (fun x => laws_heldLineS.body NN x)
end
end Go.Ev.Try

namespace Go.Ev.Try
open Go.Proofs Go.Pl
set_option linter.unusedVariables false
noncomputable section
def laws_heldPaper.con : Con := { ps := [(.val, (.pair .str (.pair (.int .i64) (.sl 82 (.pair .str (.int .i64)))))), (.val, (.int .i64))], rs := [(.val, (.int .i64))], F := fun x => laws_heldPaper.f x.1 x.2 }
def laws_heldPaper.cs : List (FuncId × Con) := [(113, laws_heldLineS.con)]
def laws_heldPaper.E : Env := envOf tab laws_heldPaper.cs 0 false
def laws_heldPaper.keep (i : Nat) : List Nat := []
set_option maxRecDepth 100000 in
theorem laws_heldPaper.body (n : Nat) (x : (ByteArray × Int × List (ByteArray × Int)) × Int) : bodyF laws_heldPaper.E laws_heldPaper.keep n Try.f50 laws_heldPaper.con x = laws_heldPaper.fn n x.1 x.2 := by
  have h : bodyF laws_heldPaper.E laws_heldPaper.keep n Try.f50 laws_heldPaper.con x = laws_heldPaper.top x.1 x.2 := by kernel_rfl
  exact h
set_option maxRecDepth 100000 in
theorem laws_heldPaper.good : Good Try.prog 50 laws_heldPaper.con :=
  good_of tabok (cs := laws_heldPaper.cs) ⟨laws_heldLineS.good, trivial⟩ 0 false (fn := Try.f50) Try.func50 rfl (by decide) (by simp [laws_heldPaper.con]) laws_heldPaper.keep NN (fun _ => rfl) (fun x => laws_heldPaper.body NN x)
end
end Go.Ev.Try

namespace Go.Ev.Try
open Go.Proofs Go.Pl
set_option linter.unusedVariables false
noncomputable section
def laws_FnExactMergePapers.st1000032 (w17 : Int) (m13 : Int) (h116 : Int) (w06a : ByteArray) (w06ba : Int) (g010a : ByteArray) (g010ba : Int) (h015a : ByteArray) (h015ba : Int) (w3 : List (ByteArray × Int)) (w4 : List (ByteArray × Int)) (w5 : List (ByteArray × Int)) : St := ⟨[.gone, .gone, .gone, .gone, .gone, .gone, .ptr 0 [], .dat (.int .i64) w17, .gone, .gone, .ptr 1 [], .gone, .gone, .dat (.int .i64) m13, .gone, .ptr 2 [], .dat (.int .i64) h116, .gone, .gone, .gone, .gone, .gone, .gone, .gone, .gone, .gone, .gone, .gone, .gone, .gone, .gone, .gone, .gone, .gone, .gone, .gone, .gone, .gone, .gone, .gone, .gone, .gone, .gone, .gone, .gone, .gone, .gone, .gone, .gone, .gone, .gone, .gone, .gone, .gone, .gone, .gone, .gone, .gone, .gone, .gone, .gone, .gone, .gone, .gone, .gone, .gone, .gone, .gone, .gone, .gone, .gone, .gone, .gone, .gone, .gone, .gone, .gone, .gone, .gone, .gone, .gone, .gone, .gone, .gone, .gone, .gone, .gone, .gone, .gone, .gone, .gone, .gone, .gone, .gone, .gone, .gone, .gone, .gone, .gone, .gone, .gone, .gone, .gone, .gone, .gone, .gone, .gone, .gone, .gone, .gone, .gone, .gone, .gone, .gone, .gone, .gone, .gone, .gone, .gone], [.box 47 (.pair .str (.pair (.int .i64) (.sl 82 (.pair .str (.int .i64))))) (.pr (.dat .str w06a) (.pr (.dat (.int .i64) w06ba) (.ref 3))), .box 47 (.pair .str (.pair (.int .i64) (.sl 82 (.pair .str (.int .i64))))) (.pr (.dat .str g010a) (.pr (.dat (.int .i64) g010ba) (.ref 4))), .box 47 (.pair .str (.pair (.int .i64) (.sl 82 (.pair .str (.int .i64))))) (.pr (.dat .str h015a) (.pr (.dat (.int .i64) h015ba) (.ref 5))), .row 82 (.pair .str (.int .i64)) w3 none, .row 82 (.pair .str (.int .i64)) w4 none, .row 82 (.pair .str (.int .i64)) w5 none]⟩
def laws_FnExactMergePapers.st1000018 (w17 : Int) (g111 : Int) (aA2 : ByteArray × Int × List (ByteArray × Int)) (aB3 : ByteArray × Int × List (ByteArray × Int)) (w06a : ByteArray) (w06ba : Int) (x08a : ByteArray) (x08ba : Int) (x19a : ByteArray) (x19ba : Int) (g010a : ByteArray) (g010ba : Int) (w6 : List (ByteArray × Int)) (w7 : List (ByteArray × Int)) (w7r : List (ByteArray × Int)) (w8 : List (ByteArray × Int)) (w8r : List (ByteArray × Int)) (w9 : List (ByteArray × Int)) : St := ⟨[.gone, .gone, .ptr 0 [], .ptr 1 [], .gone, .gone, .ptr 2 [], .dat (.int .i64) w17, .ptr 3 [], .ptr 4 [], .ptr 5 [], .dat (.int .i64) g111, .gone, .gone, .gone, .gone, .gone, .gone, .gone, .gone, .gone, .gone, .gone, .gone, .gone, .gone, .gone, .gone, .gone, .gone, .gone, .gone, .gone, .gone, .gone, .gone, .gone, .gone, .gone, .gone, .gone, .gone, .gone, .gone, .gone, .gone, .gone, .gone, .gone, .gone, .gone, .gone, .gone, .gone, .gone, .gone, .gone, .gone, .gone, .gone, .gone, .gone, .gone, .gone, .gone, .gone, .gone, .gone, .gone, .gone, .gone, .gone, .gone, .gone, .gone, .gone, .gone, .gone, .gone, .gone, .gone, .gone, .gone, .gone, .gone, .gone, .gone, .gone, .gone, .gone, .gone, .gone, .gone, .gone, .gone, .gone, .gone, .gone, .gone, .gone, .gone, .gone, .gone, .gone, .gone, .gone, .gone, .gone, .gone, .gone, .gone, .gone, .gone, .gone, .gone, .gone, .gone, .gone, .gone], [.box 59 (.pair .str (.pair (.int .i64) (.sl 161 (.pair .str (.int .i64))))) (.dat (.pair .str (.pair (.int .i64) (.sl 161 (.pair .str (.int .i64))))) aA2), .box 59 (.pair .str (.pair (.int .i64) (.sl 161 (.pair .str (.int .i64))))) (.dat (.pair .str (.pair (.int .i64) (.sl 161 (.pair .str (.int .i64))))) aB3), .box 47 (.pair .str (.pair (.int .i64) (.sl 82 (.pair .str (.int .i64))))) (.pr (.dat .str w06a) (.pr (.dat (.int .i64) w06ba) (.ref 6))), .box 47 (.pair .str (.pair (.int .i64) (.sl 82 (.pair .str (.int .i64))))) (.pr (.dat .str x08a) (.pr (.dat (.int .i64) x08ba) (.ref 7))), .box 47 (.pair .str (.pair (.int .i64) (.sl 82 (.pair .str (.int .i64))))) (.pr (.dat .str x19a) (.pr (.dat (.int .i64) x19ba) (.ref 8))), .box 47 (.pair .str (.pair (.int .i64) (.sl 82 (.pair .str (.int .i64))))) (.pr (.dat .str g010a) (.pr (.dat (.int .i64) g010ba) (.ref 9))), .row 82 (.pair .str (.int .i64)) w6 none, .row 82 (.pair .str (.int .i64)) w7 (some w7r), .row 82 (.pair .str (.int .i64)) w8 (some w8r), .row 82 (.pair .str (.int .i64)) w9 none]⟩
def laws_FnExactMergePapers.g1000018raw (I1000032 : Int → Int → Int → ByteArray → Int → ByteArray → Int → ByteArray → Int → (List (ByteArray × Int)) → (List (ByteArray × Int)) → (List (ByteArray × Int)) → Option Bool) (L1000018 : Int → Int → (ByteArray × Int × List (ByteArray × Int)) → (ByteArray × Int × List (ByteArray × Int)) → ByteArray → Int → ByteArray → Int → ByteArray → Int → ByteArray → Int → (List (ByteArray × Int)) → (List (ByteArray × Int)) → (List (ByteArray × Int)) → (List (ByteArray × Int)) → (List (ByteArray × Int)) → (List (ByteArray × Int)) → Option Bool) (w17 : Int) (g111 : Int) (aA2 : ByteArray × Int × List (ByteArray × Int)) (aB3 : ByteArray × Int × List (ByteArray × Int)) (w06a : ByteArray) (w06ba : Int) (x08a : ByteArray) (x08ba : Int) (x19a : ByteArray) (x19ba : Int) (g010a : ByteArray) (g010ba : Int) (w6 : List (ByteArray × Int)) (w7 : List (ByteArray × Int)) (w7r : List (ByteArray × Int)) (w8 : List (ByteArray × Int)) (w8r : List (ByteArray × Int)) (w9 : List (ByteArray × Int)) : Option Bool :=
  (laws_markPaper.f (x08a, (x08ba, w7)) 101).bind fun r14 =>
  (laws_markPaper.f (x19a, (x19ba, w8)) r14.1).bind fun r15 =>
  if (decide ((r15.1 : Int) < 0)) = false then
    (laws_eqPaper.f (g010a, (g010ba, w9)) (w06a, (w06ba, w6))).bind fun r16 =>
    if (!r16) = false then
      if ((g111 : Int) != w17) = true then
        some false
      else
        (laws_markPaper.f (g010a, (g010ba, w9)) 101).bind fun r17 =>
        (laws_heldPaper.f (g010a, (g010ba, r17.2.2.2)) 101).bind fun r18 =>
        if (decide ((r18 : Int) < 0)) = true then
          some false
        else if ((r18 : Int) != r17.1) = true then
          some false
        else
          agree (
            agree (
              (laws_toPaper.f aA2 true).bind fun r19 =>
              agree (
                agree (
                  (laws_toPaper.f aB3 true).bind fun r20 =>
                  agree (
                    (impl_MergePapers.f (r19.1, (r19.2.1, r19.2.2.1)) (r20.1, (r20.2.1, r20.2.2.1))).bind fun r21 =>
                    I1000032 w17 r17.1 r21.2 w06a w06ba g010a g010ba r21.1.1 r21.1.2.1 w6 r17.2.2.2 r21.1.2.2
                  ) (
                    (impl_MergePapers.f (r19.1, (r19.2.1, r19.2.2.1)) (r20.1, (r20.2.1, r20.2.2.1))).bind fun r21 =>
                    I1000032 w17 r17.1 r21.2 w06a w06ba g010a g010ba r21.1.1 r21.1.2.1 w6 r17.2.2.2 r21.1.2.2
                  )
                ) (
                  (laws_toPaper.f aB3 true).bind fun r20 =>
                  (impl_MergePapers.f (r19.1, (r19.2.1, r19.2.2.1)) (r20.1, (r20.2.1, r20.2.2.1))).bind fun r21 =>
                  I1000032 w17 r17.1 r21.2 w06a w06ba g010a g010ba r21.1.1 r21.1.2.1 w6 r17.2.2.2 r21.1.2.2
                )
              ) (
                (laws_toPaper.f aB3 true).bind fun r20 =>
                (impl_MergePapers.f (r19.1, (r19.2.1, r19.2.2.1)) (r20.1, (r20.2.1, r20.2.2.1))).bind fun r21 =>
                I1000032 w17 r17.1 r21.2 w06a w06ba g010a g010ba r21.1.1 r21.1.2.1 w6 r17.2.2.2 r21.1.2.2
              )
            ) (
              agree (
                agree (
                  (laws_toPaper.f aA2 true).bind fun r19 =>
                  agree (
                    (laws_toPaper.f aB3 true).bind fun r20 =>
                    agree (
                      (impl_MergePapers.f (r19.1, (r19.2.1, r19.2.2.1)) (r20.1, (r20.2.1, r20.2.2.1))).bind fun r21 =>
                      I1000032 w17 r17.1 r21.2 w06a w06ba g010a g010ba r21.1.1 r21.1.2.1 w6 r17.2.2.2 r21.1.2.2
                    ) (
                      (impl_MergePapers.f (r19.1, (r19.2.1, r19.2.2.1)) (r20.1, (r20.2.1, r20.2.2.1))).bind fun r21 =>
                      I1000032 w17 r17.1 r21.2 w06a w06ba g010a g010ba r21.1.1 r21.1.2.1 w6 r17.2.2.2 r21.1.2.2
                    )
                  ) (
                    (laws_toPaper.f aB3 true).bind fun r20 =>
                    (impl_MergePapers.f (r19.1, (r19.2.1, r19.2.2.1)) (r20.1, (r20.2.1, r20.2.2.1))).bind fun r21 =>
                    I1000032 w17 r17.1 r21.2 w06a w06ba g010a g010ba r21.1.1 r21.1.2.1 w6 r17.2.2.2 r21.1.2.2
                  )
                ) (
                  (laws_toPaper.f aA2 true).bind fun r19 =>
                  (laws_toPaper.f aB3 true).bind fun r20 =>
                  (impl_MergePapers.f (r19.1, (r19.2.1, r19.2.2.1)) (r20.1, (r20.2.1, r20.2.2.1))).bind fun r21 =>
                  I1000032 w17 r17.1 r21.2 w06a w06ba g010a g010ba r21.1.1 r21.1.2.1 w6 r17.2.2.2 r21.1.2.2
                )
              ) (
                agree (
                  (laws_toPaper.f aA2 true).bind fun r19 =>
                  (laws_toPaper.f aB3 true).bind fun r20 =>
                  (impl_MergePapers.f (r19.1, (r19.2.1, r19.2.2.1)) (r20.1, (r20.2.1, r20.2.2.1))).bind fun r21 =>
                  I1000032 w17 r17.1 r21.2 w06a w06ba g010a g010ba r21.1.1 r21.1.2.1 w6 r17.2.2.2 r21.1.2.2
                ) (
                  (laws_toPaper.f aA2 true).bind fun r19 =>
                  (laws_toPaper.f aB3 true).bind fun r20 =>
                  (impl_MergePapers.f (r19.1, (r19.2.1, r19.2.2.1)) (r20.1, (r20.2.1, r20.2.2.1))).bind fun r21 =>
                  I1000032 w17 r17.1 r21.2 w06a w06ba g010a g010ba r21.1.1 r21.1.2.1 w6 r17.2.2.2 r21.1.2.2
                )
              )
            )
          ) (
            agree (
              agree (
                agree (
                  (laws_toPaper.f aA2 true).bind fun r19 =>
                  agree (
                    (laws_toPaper.f aB3 true).bind fun r20 =>
                    agree (
                      (impl_MergePapers.f (r19.1, (r19.2.1, r19.2.2.1)) (r20.1, (r20.2.1, r20.2.2.1))).bind fun r21 =>
                      I1000032 w17 r17.1 r21.2 w06a w06ba g010a g010ba r21.1.1 r21.1.2.1 w6 r17.2.2.2 r21.1.2.2
                    ) (
                      (impl_MergePapers.f (r19.1, (r19.2.1, r19.2.2.1)) (r20.1, (r20.2.1, r20.2.2.1))).bind fun r21 =>
                      I1000032 w17 r17.1 r21.2 w06a w06ba g010a g010ba r21.1.1 r21.1.2.1 w6 r17.2.2.2 r21.1.2.2
                    )
                  ) (
                    (laws_toPaper.f aB3 true).bind fun r20 =>
                    (impl_MergePapers.f (r19.1, (r19.2.1, r19.2.2.1)) (r20.1, (r20.2.1, r20.2.2.1))).bind fun r21 =>
                    I1000032 w17 r17.1 r21.2 w06a w06ba g010a g010ba r21.1.1 r21.1.2.1 w6 r17.2.2.2 r21.1.2.2
                  )
                ) (
                  (laws_toPaper.f aA2 true).bind fun r19 =>
                  (laws_toPaper.f aB3 true).bind fun r20 =>
                  (impl_MergePapers.f (r19.1, (r19.2.1, r19.2.2.1)) (r20.1, (r20.2.1, r20.2.2.1))).bind fun r21 =>
                  I1000032 w17 r17.1 r21.2 w06a w06ba g010a g010ba r21.1.1 r21.1.2.1 w6 r17.2.2.2 r21.1.2.2
                )
              ) (
                (laws_toPaper.f aA2 true).bind fun r19 =>
                (laws_toPaper.f aB3 true).bind fun r20 =>
                (impl_MergePapers.f (r19.1, (r19.2.1, r19.2.2.1)) (r20.1, (r20.2.1, r20.2.2.1))).bind fun r21 =>
                I1000032 w17 r17.1 r21.2 w06a w06ba g010a g010ba r21.1.1 r21.1.2.1 w6 r17.2.2.2 r21.1.2.2
              )
            ) (
              agree (
                agree (
                  (laws_toPaper.f aA2 true).bind fun r19 =>
                  (laws_toPaper.f aB3 true).bind fun r20 =>
                  (impl_MergePapers.f (r19.1, (r19.2.1, r19.2.2.1)) (r20.1, (r20.2.1, r20.2.2.1))).bind fun r21 =>
                  I1000032 w17 r17.1 r21.2 w06a w06ba g010a g010ba r21.1.1 r21.1.2.1 w6 r17.2.2.2 r21.1.2.2
                ) (
                  (laws_toPaper.f aA2 true).bind fun r19 =>
                  (laws_toPaper.f aB3 true).bind fun r20 =>
                  (impl_MergePapers.f (r19.1, (r19.2.1, r19.2.2.1)) (r20.1, (r20.2.1, r20.2.2.1))).bind fun r21 =>
                  I1000032 w17 r17.1 r21.2 w06a w06ba g010a g010ba r21.1.1 r21.1.2.1 w6 r17.2.2.2 r21.1.2.2
                )
              ) (
                (laws_toPaper.f aA2 true).bind fun r19 =>
                (laws_toPaper.f aB3 true).bind fun r20 =>
                (impl_MergePapers.f (r19.1, (r19.2.1, r19.2.2.1)) (r20.1, (r20.2.1, r20.2.2.1))).bind fun r21 =>
                I1000032 w17 r17.1 r21.2 w06a w06ba g010a g010ba r21.1.1 r21.1.2.1 w6 r17.2.2.2 r21.1.2.2
              )
            )
          )
    else
      some false
  else
    some false
theorem laws_FnExactMergePapers.g1000018raw_eq (I1000032 : Int → Int → Int → ByteArray → Int → ByteArray → Int → ByteArray → Int → (List (ByteArray × Int)) → (List (ByteArray × Int)) → (List (ByteArray × Int)) → Option Bool) (L1000018 : Int → Int → (ByteArray × Int × List (ByteArray × Int)) → (ByteArray × Int × List (ByteArray × Int)) → ByteArray → Int → ByteArray → Int → ByteArray → Int → ByteArray → Int → (List (ByteArray × Int)) → (List (ByteArray × Int)) → (List (ByteArray × Int)) → (List (ByteArray × Int)) → (List (ByteArray × Int)) → (List (ByteArray × Int)) → Option Bool) (w17 : Int) (g111 : Int) (aA2 : ByteArray × Int × List (ByteArray × Int)) (aB3 : ByteArray × Int × List (ByteArray × Int)) (w06a : ByteArray) (w06ba : Int) (x08a : ByteArray) (x08ba : Int) (x19a : ByteArray) (x19ba : Int) (g010a : ByteArray) (g010ba : Int) (w6 : List (ByteArray × Int)) (w7 : List (ByteArray × Int)) (w7r : List (ByteArray × Int)) (w8 : List (ByteArray × Int)) (w8r : List (ByteArray × Int)) (w9 : List (ByteArray × Int)) : laws_FnExactMergePapers.g1000018raw I1000032 L1000018 w17 g111 aA2 aB3 w06a w06ba x08a x08ba x19a x19ba g010a g010ba w6 w7 w7r w8 w8r w9 = laws_FnExactMergePapers.g1000018 I1000032 L1000018 w17 g111 aA2 aB3 w06a w06ba x08a x08ba x19a x19ba g010a g010ba w6 w7 w7r w8 w8r w9 := by
  unfold laws_FnExactMergePapers.g1000018raw laws_FnExactMergePapers.g1000018
  simp only [agree_self]
def laws_FnExactMergePapers.st1000009 (w17 : Int) (aA2 : ByteArray × Int × List (ByteArray × Int)) (aB3 : ByteArray × Int × List (ByteArray × Int)) (w06a : ByteArray) (w06ba : Int) (w3 : List (ByteArray × Int)) : St := ⟨[.gone, .gone, .ptr 0 [], .ptr 1 [], .gone, .gone, .ptr 2 [], .dat (.int .i64) w17, .gone, .gone, .gone, .gone, .gone, .gone, .gone, .gone, .gone, .gone, .gone, .gone, .gone, .gone, .gone, .gone, .gone, .gone, .gone, .gone, .gone, .gone, .gone, .gone, .gone, .gone, .gone, .gone, .gone, .gone, .gone, .gone, .gone, .gone, .gone, .gone, .gone, .gone, .gone, .gone, .gone, .gone, .gone, .gone, .gone, .gone, .gone, .gone, .gone, .gone, .gone, .gone, .gone, .gone, .gone, .gone, .gone, .gone, .gone, .gone, .gone, .gone, .gone, .gone, .gone, .gone, .gone, .gone, .gone, .gone, .gone, .gone, .gone, .gone, .gone, .gone, .gone, .gone, .gone, .gone, .gone, .gone, .gone, .gone, .gone, .gone, .gone, .gone, .gone, .gone, .gone, .gone, .gone, .gone, .gone, .gone, .gone, .gone, .gone, .gone, .gone, .gone, .gone, .gone, .gone, .gone, .gone, .gone, .gone, .gone, .gone], [.box 59 (.pair .str (.pair (.int .i64) (.sl 161 (.pair .str (.int .i64))))) (.dat (.pair .str (.pair (.int .i64) (.sl 161 (.pair .str (.int .i64))))) aA2), .box 59 (.pair .str (.pair (.int .i64) (.sl 161 (.pair .str (.int .i64))))) (.dat (.pair .str (.pair (.int .i64) (.sl 161 (.pair .str (.int .i64))))) aB3), .box 47 (.pair .str (.pair (.int .i64) (.sl 82 (.pair .str (.int .i64))))) (.pr (.dat .str w06a) (.pr (.dat (.int .i64) w06ba) (.ref 3))), .row 82 (.pair .str (.int .i64)) w3 none]⟩
def laws_FnExactMergePapers.topraw (I1000009 : Int → (ByteArray × Int × List (ByteArray × Int)) → (ByteArray × Int × List (ByteArray × Int)) → ByteArray → Int → (List (ByteArray × Int)) → Option Bool) (aA0 : ByteArray × Int × List (ByteArray × Int)) (aB1 : ByteArray × Int × List (ByteArray × Int)) : Option Bool :=
  (laws_szPaper.f aA0 1000000).bind fun r1 =>
  if (decide ((r1 : Int) < 0)) = true then
    some true
  else
    (laws_szPaper.f aB1 r1).bind fun r2 =>
    if (decide ((r2 : Int) < 0)) = true then
      some true
    else
      agree (
        agree (
          (laws_toPaper.f aA0 false).bind fun r3 =>
          agree (
            agree (
              (laws_toPaper.f aB1 false).bind fun r4 =>
              agree (
                (spec_MergePapers.f (r3.1, (r3.2.1, r3.2.2.1)) (r4.1, (r4.2.1, r4.2.2.1))).bind fun r5 =>
                I1000009 r5.2 aA0 aB1 r5.1.1 r5.1.2.1 r5.1.2.2
              ) (
                (spec_MergePapers.f (r3.1, (r3.2.1, r3.2.2.1)) (r4.1, (r4.2.1, r4.2.2.1))).bind fun r5 =>
                I1000009 r5.2 aA0 aB1 r5.1.1 r5.1.2.1 r5.1.2.2
              )
            ) (
              (laws_toPaper.f aB1 false).bind fun r4 =>
              (spec_MergePapers.f (r3.1, (r3.2.1, r3.2.2.1)) (r4.1, (r4.2.1, r4.2.2.1))).bind fun r5 =>
              I1000009 r5.2 aA0 aB1 r5.1.1 r5.1.2.1 r5.1.2.2
            )
          ) (
            (laws_toPaper.f aB1 false).bind fun r4 =>
            (spec_MergePapers.f (r3.1, (r3.2.1, r3.2.2.1)) (r4.1, (r4.2.1, r4.2.2.1))).bind fun r5 =>
            I1000009 r5.2 aA0 aB1 r5.1.1 r5.1.2.1 r5.1.2.2
          )
        ) (
          agree (
            agree (
              (laws_toPaper.f aA0 false).bind fun r3 =>
              agree (
                (laws_toPaper.f aB1 false).bind fun r4 =>
                agree (
                  (spec_MergePapers.f (r3.1, (r3.2.1, r3.2.2.1)) (r4.1, (r4.2.1, r4.2.2.1))).bind fun r5 =>
                  I1000009 r5.2 aA0 aB1 r5.1.1 r5.1.2.1 r5.1.2.2
                ) (
                  (spec_MergePapers.f (r3.1, (r3.2.1, r3.2.2.1)) (r4.1, (r4.2.1, r4.2.2.1))).bind fun r5 =>
                  I1000009 r5.2 aA0 aB1 r5.1.1 r5.1.2.1 r5.1.2.2
                )
              ) (
                (laws_toPaper.f aB1 false).bind fun r4 =>
                (spec_MergePapers.f (r3.1, (r3.2.1, r3.2.2.1)) (r4.1, (r4.2.1, r4.2.2.1))).bind fun r5 =>
                I1000009 r5.2 aA0 aB1 r5.1.1 r5.1.2.1 r5.1.2.2
              )
            ) (
              (laws_toPaper.f aA0 false).bind fun r3 =>
              (laws_toPaper.f aB1 false).bind fun r4 =>
              (spec_MergePapers.f (r3.1, (r3.2.1, r3.2.2.1)) (r4.1, (r4.2.1, r4.2.2.1))).bind fun r5 =>
              I1000009 r5.2 aA0 aB1 r5.1.1 r5.1.2.1 r5.1.2.2
            )
          ) (
            agree (
              (laws_toPaper.f aA0 false).bind fun r3 =>
              (laws_toPaper.f aB1 false).bind fun r4 =>
              (spec_MergePapers.f (r3.1, (r3.2.1, r3.2.2.1)) (r4.1, (r4.2.1, r4.2.2.1))).bind fun r5 =>
              I1000009 r5.2 aA0 aB1 r5.1.1 r5.1.2.1 r5.1.2.2
            ) (
              (laws_toPaper.f aA0 false).bind fun r3 =>
              (laws_toPaper.f aB1 false).bind fun r4 =>
              (spec_MergePapers.f (r3.1, (r3.2.1, r3.2.2.1)) (r4.1, (r4.2.1, r4.2.2.1))).bind fun r5 =>
              I1000009 r5.2 aA0 aB1 r5.1.1 r5.1.2.1 r5.1.2.2
            )
          )
        )
      ) (
        agree (
          agree (
            agree (
              (laws_toPaper.f aA0 false).bind fun r3 =>
              agree (
                (laws_toPaper.f aB1 false).bind fun r4 =>
                agree (
                  (spec_MergePapers.f (r3.1, (r3.2.1, r3.2.2.1)) (r4.1, (r4.2.1, r4.2.2.1))).bind fun r5 =>
                  I1000009 r5.2 aA0 aB1 r5.1.1 r5.1.2.1 r5.1.2.2
                ) (
                  (spec_MergePapers.f (r3.1, (r3.2.1, r3.2.2.1)) (r4.1, (r4.2.1, r4.2.2.1))).bind fun r5 =>
                  I1000009 r5.2 aA0 aB1 r5.1.1 r5.1.2.1 r5.1.2.2
                )
              ) (
                (laws_toPaper.f aB1 false).bind fun r4 =>
                (spec_MergePapers.f (r3.1, (r3.2.1, r3.2.2.1)) (r4.1, (r4.2.1, r4.2.2.1))).bind fun r5 =>
                I1000009 r5.2 aA0 aB1 r5.1.1 r5.1.2.1 r5.1.2.2
              )
            ) (
              (laws_toPaper.f aA0 false).bind fun r3 =>
              (laws_toPaper.f aB1 false).bind fun r4 =>
              (spec_MergePapers.f (r3.1, (r3.2.1, r3.2.2.1)) (r4.1, (r4.2.1, r4.2.2.1))).bind fun r5 =>
              I1000009 r5.2 aA0 aB1 r5.1.1 r5.1.2.1 r5.1.2.2
            )
          ) (
            (laws_toPaper.f aA0 false).bind fun r3 =>
            (laws_toPaper.f aB1 false).bind fun r4 =>
            (spec_MergePapers.f (r3.1, (r3.2.1, r3.2.2.1)) (r4.1, (r4.2.1, r4.2.2.1))).bind fun r5 =>
            I1000009 r5.2 aA0 aB1 r5.1.1 r5.1.2.1 r5.1.2.2
          )
        ) (
          agree (
            agree (
              (laws_toPaper.f aA0 false).bind fun r3 =>
              (laws_toPaper.f aB1 false).bind fun r4 =>
              (spec_MergePapers.f (r3.1, (r3.2.1, r3.2.2.1)) (r4.1, (r4.2.1, r4.2.2.1))).bind fun r5 =>
              I1000009 r5.2 aA0 aB1 r5.1.1 r5.1.2.1 r5.1.2.2
            ) (
              (laws_toPaper.f aA0 false).bind fun r3 =>
              (laws_toPaper.f aB1 false).bind fun r4 =>
              (spec_MergePapers.f (r3.1, (r3.2.1, r3.2.2.1)) (r4.1, (r4.2.1, r4.2.2.1))).bind fun r5 =>
              I1000009 r5.2 aA0 aB1 r5.1.1 r5.1.2.1 r5.1.2.2
            )
          ) (
            (laws_toPaper.f aA0 false).bind fun r3 =>
            (laws_toPaper.f aB1 false).bind fun r4 =>
            (spec_MergePapers.f (r3.1, (r3.2.1, r3.2.2.1)) (r4.1, (r4.2.1, r4.2.2.1))).bind fun r5 =>
            I1000009 r5.2 aA0 aB1 r5.1.1 r5.1.2.1 r5.1.2.2
          )
        )
      )
theorem laws_FnExactMergePapers.topraw_eq (I1000009 : Int → (ByteArray × Int × List (ByteArray × Int)) → (ByteArray × Int × List (ByteArray × Int)) → ByteArray → Int → (List (ByteArray × Int)) → Option Bool) (aA0 : ByteArray × Int × List (ByteArray × Int)) (aB1 : ByteArray × Int × List (ByteArray × Int)) : laws_FnExactMergePapers.topraw I1000009 aA0 aB1 = laws_FnExactMergePapers.top I1000009 aA0 aB1 := by
  unfold laws_FnExactMergePapers.topraw laws_FnExactMergePapers.top
  simp only [agree_self]
def laws_FnExactMergePapers.con : Con := { ps := [(.val, (.pair .str (.pair (.int .i64) (.sl 161 (.pair .str (.int .i64)))))), (.val, (.pair .str (.pair (.int .i64) (.sl 161 (.pair .str (.int .i64))))))], rs := [(.val, .bool)], F := fun x => laws_FnExactMergePapers.f x.1 x.2 }
def laws_FnExactMergePapers.cs : List (FuncId × Con) := [(36, impl_MergePapers.con), (37, spec_MergePapers.con), (43, laws_szPaper.con), (45, laws_toPaper.con), (47, laws_eqPaper.con), (48, laws_intactPaper.con), (49, laws_markPaper.con), (50, laws_heldPaper.con)]
def laws_FnExactMergePapers.E : Env := envOf tab laws_FnExactMergePapers.cs 0 false
def laws_FnExactMergePapers.keep (i : Nat) : List Nat := if i = 1000032 then [6, 7, 10, 13, 15, 16] else if i = 1000018 then [2, 3, 6, 7, 8, 9, 10, 11] else if i = 1000009 then [2, 3, 6, 7] else []
def laws_FnExactMergePapers.at1000032 (n : Nat) (x : (ByteArray × Int × List (ByteArray × Int)) × ByteArray × Int × List (ByteArray × Int)) : Code × (Ex → St → Option (Bool)) := ctx laws_FnExactMergePapers.E laws_FnExactMergePapers.keep n [.snd, .snd, .snd, .snd, .snd, .snd, .snd, .snd, .snd, .snd, .snd, .snd, .snd, .snd, .snd, .snd, .snd, .snd, .snd, .snd, .snd, .snd, .snd, .snd] (codeOf Try.f9) (kEnd laws_FnExactMergePapers.E Try.f9 laws_FnExactMergePapers.con x)
def laws_FnExactMergePapers.LN1000032 (n : Nat) (x : (ByteArray × Int × List (ByteArray × Int)) × ByteArray × Int × List (ByteArray × Int)) : Nat → St → Option (Bool) := cutN (exec laws_FnExactMergePapers.E laws_FnExactMergePapers.keep n (laws_FnExactMergePapers.at1000032 n x).1 (laws_FnExactMergePapers.at1000032 n x).2)
def laws_FnExactMergePapers.at1000018 (n : Nat) (x : (ByteArray × Int × List (ByteArray × Int)) × ByteArray × Int × List (ByteArray × Int)) : Code × (Ex → St → Option (Bool)) := ctx laws_FnExactMergePapers.E laws_FnExactMergePapers.keep n [.snd, .snd, .snd, .snd, .snd, .snd, .snd, .snd, .snd, .snd, .snd, .snd, .snd] (codeOf Try.f9) (kEnd laws_FnExactMergePapers.E Try.f9 laws_FnExactMergePapers.con x)
def laws_FnExactMergePapers.LN1000018 (n : Nat) (x : (ByteArray × Int × List (ByteArray × Int)) × ByteArray × Int × List (ByteArray × Int)) : Nat → St → Option (Bool) := cutN (exec laws_FnExactMergePapers.E laws_FnExactMergePapers.keep n (laws_FnExactMergePapers.at1000018 n x).1 (laws_FnExactMergePapers.at1000018 n x).2)
def laws_FnExactMergePapers.at1000009 (n : Nat) (x : (ByteArray × Int × List (ByteArray × Int)) × ByteArray × Int × List (ByteArray × Int)) : Code × (Ex → St → Option (Bool)) := ctx laws_FnExactMergePapers.E laws_FnExactMergePapers.keep n [.snd, .snd, .snd, .snd, .snd, .snd, .snd] (codeOf Try.f9) (kEnd laws_FnExactMergePapers.E Try.f9 laws_FnExactMergePapers.con x)
def laws_FnExactMergePapers.LN1000009 (n : Nat) (x : (ByteArray × Int × List (ByteArray × Int)) × ByteArray × Int × List (ByteArray × Int)) : Nat → St → Option (Bool) := cutN (exec laws_FnExactMergePapers.E laws_FnExactMergePapers.keep n (laws_FnExactMergePapers.at1000009 n x).1 (laws_FnExactMergePapers.at1000009 n x).2)
set_option maxRecDepth 100000 in
theorem laws_FnExactMergePapers.lem1000032 (n : Nat) (x : (ByteArray × Int × List (ByteArray × Int)) × ByteArray × Int × List (ByteArray × Int)) : ∀ (k : Nat) (w17 : Int) (m13 : Int) (h116 : Int) (w06a : ByteArray) (w06ba : Int) (g010a : ByteArray) (g010ba : Int) (h015a : ByteArray) (h015ba : Int) (w3 : List (ByteArray × Int)) (w4 : List (ByteArray × Int)) (w5 : List (ByteArray × Int)), laws_FnExactMergePapers.LN1000032 n x k (laws_FnExactMergePapers.st1000032 w17 m13 h116 w06a w06ba g010a g010ba h015a h015ba w3 w4 w5) = laws_FnExactMergePapers.l1000032 n k w17 m13 h116 w06a w06ba g010a g010ba h015a h015ba w3 w4 w5 := by
  intro k
  induction k with
  | zero => intro w17 m13 h116 w06a w06ba g010a g010ba h015a h015ba w3 w4 w5; rfl
  | succ k ih =>
    intro w17 m13 h116 w06a w06ba g010a g010ba h015a h015ba w3 w4 w5
    have h : laws_FnExactMergePapers.LN1000032 n x (k + 1) (laws_FnExactMergePapers.st1000032 w17 m13 h116 w06a w06ba g010a g010ba h015a h015ba w3 w4 w5) = laws_FnExactMergePapers.g1000032 (fun w17 m13 h116 w06a w06ba g010a g010ba h015a h015ba w3 w4 w5 => laws_FnExactMergePapers.LN1000032 n x k (laws_FnExactMergePapers.st1000032 w17 m13 h116 w06a w06ba g010a g010ba h015a h015ba w3 w4 w5)) w17 m13 h116 w06a w06ba g010a g010ba h015a h015ba w3 w4 w5 := by kernel_rfl
    rw [h]
    simp only [ih]
    rfl
set_option maxRecDepth 100000 in
theorem laws_FnExactMergePapers.lem1000018 (n : Nat) (x : (ByteArray × Int × List (ByteArray × Int)) × ByteArray × Int × List (ByteArray × Int)) : ∀ (k : Nat) (w17 : Int) (g111 : Int) (aA2 : ByteArray × Int × List (ByteArray × Int)) (aB3 : ByteArray × Int × List (ByteArray × Int)) (w06a : ByteArray) (w06ba : Int) (x08a : ByteArray) (x08ba : Int) (x19a : ByteArray) (x19ba : Int) (g010a : ByteArray) (g010ba : Int) (w6 : List (ByteArray × Int)) (w7 : List (ByteArray × Int)) (w7r : List (ByteArray × Int)) (w8 : List (ByteArray × Int)) (w8r : List (ByteArray × Int)) (w9 : List (ByteArray × Int)), laws_FnExactMergePapers.LN1000018 n x k (laws_FnExactMergePapers.st1000018 w17 g111 aA2 aB3 w06a w06ba x08a x08ba x19a x19ba g010a g010ba w6 w7 w7r w8 w8r w9) = laws_FnExactMergePapers.l1000018 n k w17 g111 aA2 aB3 w06a w06ba x08a x08ba x19a x19ba g010a g010ba w6 w7 w7r w8 w8r w9 := by
  intro k
  induction k with
  | zero => intro w17 g111 aA2 aB3 w06a w06ba x08a x08ba x19a x19ba g010a g010ba w6 w7 w7r w8 w8r w9; rfl
  | succ k ih =>
    intro w17 g111 aA2 aB3 w06a w06ba x08a x08ba x19a x19ba g010a g010ba w6 w7 w7r w8 w8r w9
    have h : laws_FnExactMergePapers.LN1000018 n x (k + 1) (laws_FnExactMergePapers.st1000018 w17 g111 aA2 aB3 w06a w06ba x08a x08ba x19a x19ba g010a g010ba w6 w7 w7r w8 w8r w9) = laws_FnExactMergePapers.g1000018raw (fun w17 m13 h116 w06a w06ba g010a g010ba h015a h015ba w3 w4 w5 => laws_FnExactMergePapers.LN1000032 n x n (laws_FnExactMergePapers.st1000032 w17 m13 h116 w06a w06ba g010a g010ba h015a h015ba w3 w4 w5)) (fun w17 g111 aA2 aB3 w06a w06ba x08a x08ba x19a x19ba g010a g010ba w6 w7 w7r w8 w8r w9 => laws_FnExactMergePapers.LN1000018 n x k (laws_FnExactMergePapers.st1000018 w17 g111 aA2 aB3 w06a w06ba x08a x08ba x19a x19ba g010a g010ba w6 w7 w7r w8 w8r w9)) w17 g111 aA2 aB3 w06a w06ba x08a x08ba x19a x19ba g010a g010ba w6 w7 w7r w8 w8r w9 := by kernel_rfl
    rw [laws_FnExactMergePapers.g1000018raw_eq] at h
    rw [h]
    simp only [ih, laws_FnExactMergePapers.lem1000032]
    rfl
set_option maxRecDepth 100000 in
theorem laws_FnExactMergePapers.lem1000009 (n : Nat) (x : (ByteArray × Int × List (ByteArray × Int)) × ByteArray × Int × List (ByteArray × Int)) : ∀ (k : Nat) (w17 : Int) (aA2 : ByteArray × Int × List (ByteArray × Int)) (aB3 : ByteArray × Int × List (ByteArray × Int)) (w06a : ByteArray) (w06ba : Int) (w3 : List (ByteArray × Int)), laws_FnExactMergePapers.LN1000009 n x k (laws_FnExactMergePapers.st1000009 w17 aA2 aB3 w06a w06ba w3) = laws_FnExactMergePapers.l1000009 n k w17 aA2 aB3 w06a w06ba w3 := by
  intro k
  induction k with
  | zero => intro w17 aA2 aB3 w06a w06ba w3; rfl
  | succ k ih =>
    intro w17 aA2 aB3 w06a w06ba w3
    have h : laws_FnExactMergePapers.LN1000009 n x (k + 1) (laws_FnExactMergePapers.st1000009 w17 aA2 aB3 w06a w06ba w3) = laws_FnExactMergePapers.g1000009 (fun w17 g111 aA2 aB3 w06a w06ba x08a x08ba x19a x19ba g010a g010ba w6 w7 w7r w8 w8r w9 => laws_FnExactMergePapers.LN1000018 n x n (laws_FnExactMergePapers.st1000018 w17 g111 aA2 aB3 w06a w06ba x08a x08ba x19a x19ba g010a g010ba w6 w7 w7r w8 w8r w9)) (fun w17 aA2 aB3 w06a w06ba w3 => laws_FnExactMergePapers.LN1000009 n x k (laws_FnExactMergePapers.st1000009 w17 aA2 aB3 w06a w06ba w3)) w17 aA2 aB3 w06a w06ba w3 := by kernel_rfl
    rw [h]
    simp only [ih, laws_FnExactMergePapers.lem1000018]
    rfl
set_option maxRecDepth 100000 in
theorem laws_FnExactMergePapers.body (n : Nat) (x : (ByteArray × Int × List (ByteArray × Int)) × ByteArray × Int × List (ByteArray × Int)) : bodyF laws_FnExactMergePapers.E laws_FnExactMergePapers.keep n Try.f9 laws_FnExactMergePapers.con x = laws_FnExactMergePapers.fn n x.1 x.2 := by
  have h : bodyF laws_FnExactMergePapers.E laws_FnExactMergePapers.keep n Try.f9 laws_FnExactMergePapers.con x = laws_FnExactMergePapers.topraw (fun w17 aA2 aB3 w06a w06ba w3 => laws_FnExactMergePapers.LN1000009 n x n (laws_FnExactMergePapers.st1000009 w17 aA2 aB3 w06a w06ba w3)) x.1 x.2 := by kernel_rfl
  rw [laws_FnExactMergePapers.topraw_eq] at h
  rw [h]
  simp only [laws_FnExactMergePapers.lem1000009]
  rfl
set_option maxRecDepth 100000 in
theorem laws_FnExactMergePapers.good : Good Try.prog 9 laws_FnExactMergePapers.con :=
  good_of tabok (cs := laws_FnExactMergePapers.cs) ⟨impl_MergePapers.good, spec_MergePapers.good, laws_szPaper.good, laws_toPaper.good, laws_eqPaper.good, laws_intactPaper.good, laws_markPaper.good, laws_heldPaper.good, trivial⟩ 0 false (fn := Try.f9) Try.func9 rfl (by decide) (by simp [laws_FnExactMergePapers.con]) laws_FnExactMergePapers.keep NN (fun _ => rfl) (fun x => laws_FnExactMergePapers.body NN x)
end
end Go.Ev.Try

/- Words for the plain laws. -/
namespace Go.Pl
open Go.Ev
set_option linter.unusedVariables false

theorem wf64 {n : Int} : (Lit.int .i64 n).wf = true ↔ (-9223372036854775808 ≤ n ∧ n ≤ 9223372036854775807) := by
  simp only [Lit.wf, Bool.and_eq_true, decide_eq_true_eq]
  have e1 : IntKind.i64.min = -9223372036854775808 := by decide
  have e2 : IntKind.i64.max = 9223372036854775807 := by decide
  omega
theorem wf8 {n : Int} : (Lit.int .u8 n).wf = true ↔ (0 ≤ n ∧ n ≤ 255) := by
  simp only [Lit.wf, Bool.and_eq_true, decide_eq_true_eq]
  have e1 : IntKind.u8.min = 0 := by decide
  have e2 : IntKind.u8.max = 255 := by decide
  omega
theorem w8 {n : Int} (h1 : 0 ≤ n) (h2 : n < 256) : IntKind.u8.wrap n = n := by
  simp only [IntKind.wrap, IntKind.bits, IntKind.signed]
  simp
  omega
theorem w8_range (n : Int) : 0 ≤ IntKind.u8.wrap n ∧ IntKind.u8.wrap n < 256 := by
  simp only [IntKind.wrap, IntKind.bits, IntKind.signed]
  simp
  omega

/-! Rows, taken apart where a loop stands. -/
theorem mid_get {α : Type} (p r : List α) (x z : α) : (p ++ x :: r).getD (p.length : Int).toNat z = x := by simp
theorem mid_set {α : Type} (p r : List α) (x y : α) : (p ++ x :: r).set (p.length : Int).toNat y = p ++ y :: r := by simp
theorem mid_getn {α : Type} (p r : List α) (x z : α) : (p ++ x :: r).getD p.length z = x := by simp
theorem mid_setn {α : Type} (p r : List α) (x y : α) : (p ++ x :: r).set p.length y = p ++ y :: r := by simp
theorem mid_len {α : Type} (p r : List α) (x : α) : ((p ++ x :: r).length : Int) = (p.length : Int) + r.length + 1 := by simp; omega
theorem mid_nil {α : Type} (p : List α) : p ++ [] = p := by simp
theorem mid_snoc {α : Type} (p r : List α) (x : α) : (p ++ [x]) ++ r = p ++ x :: r := by simp
theorem snoc_len {α : Type} (p : List α) (x : α) : ((p ++ [x]).length : Int) = (p.length : Int) + 1 := by simp
/-- A loop over a row: l stands for its rounds, f for what it comes to. -/
theorem loop_mid {α ρ σ : Type} {B : Nat} (l : Nat → List α → Int → σ → Option ρ) (f : List α → List α → σ → Option ρ)
    (hnil : ∀ k pre st, pre.length ≤ B → l (k + 1) pre (pre.length : Int) st = f pre [] st)
    (hcons : ∀ k pre a r st, pre.length + r.length + 1 ≤ B → (∀ st', l k (pre ++ a :: r) ((pre.length : Int) + 1) st' = f (pre ++ [a]) r st') → l (k + 1) (pre ++ a :: r) (pre.length : Int) st = f pre (a :: r) st) :
    ∀ r pre k st, pre.length + r.length ≤ B → r.length < k → l k (pre ++ r) (pre.length : Int) st = f pre r st := by
  intro r
  induction r with
  | nil =>
    intro pre k st h1 h2
    obtain ⟨k, rfl⟩ : ∃ j, k = j + 1 := ⟨k - 1, by omega⟩
    rw [List.append_nil]
    exact hnil k pre st (by simpa using h1)
  | cons a r ih =>
    intro pre k st h1 h2
    simp only [List.length_cons] at h1 h2
    obtain ⟨k, rfl⟩ : ∃ j, k = j + 1 := ⟨k - 1, by omega⟩
    refine hcons k pre a r st (by omega) fun st' => ?_
    have := ih (pre ++ [a]) k st' (by simp; omega) (by omega)
    rw [mid_snoc, snoc_len] at this
    exact this
/-- The same, where the row itself is written. -/
theorem loop_mid0 {α ρ σ : Type} {B : Nat} (l : Nat → List α → Int → σ → Option ρ) (f : List α → List α → σ → Option ρ)
    (hnil : ∀ k pre st, pre.length ≤ B → l (k + 1) pre (pre.length : Int) st = f pre [] st)
    (hcons : ∀ k pre a r st, pre.length + r.length + 1 ≤ B → (∀ st', l k (pre ++ a :: r) ((pre.length : Int) + 1) st' = f (pre ++ [a]) r st') → l (k + 1) (pre ++ a :: r) (pre.length : Int) st = f pre (a :: r) st)
    (xs : List α) (k : Nat) (st : σ) (h1 : xs.length ≤ B) (h2 : xs.length < k) : l k xs 0 st = f [] xs st := by
  have := loop_mid l f hnil hcons xs [] k st (by simpa using h1) h2
  simpa using this
/-- A loop by a measure. -/
theorem loop_by {ρ σ : Type} (l : Nat → σ → Option ρ) (μ : σ → Nat) (Q : σ → Option ρ → Prop)
    (h : ∀ k st, (∀ st', μ st' < μ st → Q st' (l k st')) → Q st (l (k + 1) st)) : ∀ k st, μ st < k → Q st (l k st) := by
  intro k
  induction k with
  | zero => intro st h; omega
  | succ k ih => intro st hk; exact h k st fun st' h' => ih st' (by omega)

/-! Bytes. -/
theorem ba_toList {a b : ByteArray} : a.toList = b.toList ↔ a = b := by
  rw [ByteArray.toList_eq, ByteArray.toList_eq]
  exact ⟨fun h => ByteArray.ext (Array.toList_inj.mp h), fun h => by rw [h]⟩
theorem ba_beq (a b : ByteArray) : (a.toList == b.toList) = decide (a = b) := by
  by_cases h : a = b
  · subst h; simp
  · rw [decide_eq_false h, beq_eq_false_iff_ne]; exact fun e => h (ba_toList.1 e)
def bl (s : ByteArray) : List UInt8 := s.data.toList
def ob (l : List UInt8) : ByteArray := ⟨l.toArray⟩
theorem bl_ob (l : List UInt8) : bl (ob l) = l := by simp [bl, ob]
theorem ob_bl (s : ByteArray) : ob (bl s) = s := by simp [bl, ob]
theorem bl_inj {a b : ByteArray} (h : bl a = bl b) : a = b := by rw [← ob_bl a, h, ob_bl]
theorem ob_inj {a b : List UInt8} (h : ob a = ob b) : a = b := by rw [← bl_ob a, h, bl_ob]
theorem bl_length (s : ByteArray) : (bl s).length = s.size := by simp only [bl, Array.length_toList]; rfl
theorem ob_size (l : List UInt8) : (ob l).size = l.length := by rw [← bl_length, bl_ob]
theorem bl_append (a b : ByteArray) : bl (a ++ b) = bl a ++ bl b := by simp [bl]
theorem ob_append (a b : List UInt8) : ob a ++ ob b = ob (a ++ b) := by apply bl_inj; rw [bl_append, bl_ob, bl_ob, bl_ob]
theorem bl_lit (a : Array UInt8) : bl (⟨a⟩ : ByteArray) = a.toList := rfl
theorem lit_ob (l : List UInt8) : (⟨l.toArray⟩ : ByteArray) = ob l := rfl
theorem bl_extract (s : ByteArray) (i j : Nat) : bl (s.extract i j) = ((bl s).take j).drop i := by
  simp only [bl, ByteArray.data_extract, Array.toList_extract, List.extract]
  rw [List.drop_take]
theorem ob_extract (l : List UInt8) (i j : Nat) : (ob l).extract i j = ob ((l.take j).drop i) := by apply bl_inj; rw [bl_extract, bl_ob, bl_ob]
theorem ob_toList (l : List UInt8) : (ob l).toList = l := by rw [ByteArray.toList_eq]; rfl
theorem ba_bl (s : ByteArray) : s.toList = bl s := by rw [ByteArray.toList_eq]; rfl
theorem bt_ob (l : List UInt8) (i : Int) : bt (ob l) i = ((l.getD i.toNat 0).toNat : Int) := rfl
theorem bt_mid (p r : List UInt8) (c : UInt8) : bt (ob (p ++ c :: r)) (p.length : Int) = (c.toNat : Int) := by rw [bt_ob, mid_get]
theorem bt_range (s : ByteArray) (i : Int) : 0 ≤ bt s i ∧ bt s i ≤ 255 := by
  unfold bt
  have := UInt8.toNat_lt ((s.data.toList.getD i.toNat 0))
  omega
theorem u8_lt (c : UInt8) : c.toNat < 256 := UInt8.toNat_lt c
theorem u8_eq {a : UInt8} {n : Nat} (h : n < 256) : ((a.toNat : Int) = (n : Int)) ↔ a = UInt8.ofNat n := by
  constructor
  · intro e
    apply UInt8.toNat_inj.mp
    rw [UInt8.toNat_ofNat']; omega
  · rintro rfl
    rw [UInt8.toNat_ofNat']; omega
theorem bytesOf_ob (l : List Int) : bytesOf l = ob (l.map fun n => UInt8.ofNat n.toNat) := rfl
/-- Every string is of bytes. -/
theorem ob_all {P : ByteArray → Prop} (h : ∀ l, P (ob l)) (s : ByteArray) : P s := by rw [← ob_bl s]; exact h _
/-- A loop over a string's bytes. -/
theorem loop_str0 {ρ σ : Type} {B : Nat} (l : Nat → ByteArray → Int → σ → Option ρ) (f : List UInt8 → List UInt8 → σ → Option ρ)
    (hnil : ∀ k pre st, pre.length ≤ B → l (k + 1) (ob pre) (pre.length : Int) st = f pre [] st)
    (hcons : ∀ k pre a r st, pre.length + r.length + 1 ≤ B → (∀ st', l k (ob (pre ++ a :: r)) ((pre.length : Int) + 1) st' = f (pre ++ [a]) r st') → l (k + 1) (ob (pre ++ a :: r)) (pre.length : Int) st = f pre (a :: r) st)
    (s : ByteArray) (k : Nat) (st : σ) (h1 : s.size ≤ B) (h2 : s.size < k) : l k s 0 st = f [] (bl s) st := by
  have := loop_mid0 (fun k xs i st => l k (ob xs) i st) f hnil hcons (bl s) k st (by rw [bl_length]; exact h1) (by rw [bl_length]; exact h2)
  rw [ob_bl] at this
  exact this
theorem room1 : room 1 = 140737488355328 := by decide
theorem room8 : room 8 = 17592186044416 := by decide
theorem room16 : room 16 = 8796093022208 := by decide
theorem room24 : room 24 = 5864062014805 := by decide
theorem room32 : room 32 = 4398046511104 := by decide
theorem room40 : room 40 = 3518437208883 := by decide
theorem NNb : (1000000000000 : Nat) < NN := by rw [NN_eq]; omega
theorem NN_lt {n : Nat} (h : n < 1152921504606846976) : n < NN := by rw [NN_eq]; omega
theorem some_iff {b c : Bool} (h : b = true ↔ c = true) : some b = some c := by
  congr 1; exact Bool.eq_iff_iff.mpr h
end Go.Pl

/- A law's row: what its arguments are, in plain words. -/
namespace Go.Ev
set_option linter.unusedVariables false
set_option linter.unusedSimpArgs false
open Go.RowKit Go.WideShapes Go.ChangeShapes Go.ChangeAt
variable {P : Program}

def Rg (k : IntKind) (n : Int) : Prop := (Lit.int k n).wf = true
def Sz (s : ByteArray) : Prop := s.size ≤ 140737488355328
def Ls {α : Type} (Q : α → Prop) (xs : List α) : Prop := xs.length ≤ 140737488355328 ∧ ∀ x ∈ xs, Q x
def Plain : (t : Ty) → t.I → Prop
  | .int k, n => Rg k n
  | .bool, _ => True
  | .str, s => Sz s
  | .sl _ t, xs => Ls (Plain t) xs
  | .slb _ _, _ => True
  | .pair a b, x => Plain a x.1 ∧ Plain b x.2
  | .arr n t, xs => xs.length = n ∧ ∀ x ∈ xs, Plain t x
def PlainAll : (ts : List Ty) → Tup ts → Prop
  | [], _ => True
  | [t], x => Plain t x
  | t :: u :: r, x => Plain t x.1 ∧ PlainAll (u :: r) x.2
def okE (B : TypeId → Nat) : Ty → Bool
  | .sl e t => decide (1 ≤ B e) && okE B t
  | .slb e t => decide (1 ≤ B e) && okE B t
  | .pair a b => okE B a && okE B b
  | .arr _ t => okE B t
  | _ => true
theorem reach_lt : reachBytes ≤ 140737488355328 := by decide
theorem fit_plain {B : TypeId → Nat} : ∀ (t : Ty) (x : t.I), okE B t = true → Fit B t x → Plain t x := by
  intro t
  induction t with
  | int k => intro x _ h; exact h
  | bool => intro x _ h; trivial
  | str => intro x _ h; exact Nat.le_trans h reach_lt
  | sl e t ih =>
    intro x ho h
    simp only [okE, Bool.and_eq_true, decide_eq_true_eq] at ho
    refine ⟨?_, fun y hy => ih y ho.2 (h.2 y hy)⟩
    have h1 : x.length * 1 ≤ x.length * B e := Nat.mul_le_mul_left _ ho.1
    have h2 := h.1
    have h3 := reach_lt
    omega
  | slb e t ih => intro x ho h; trivial
  | pair a b iha ihb =>
    intro x ho h
    simp only [okE, Bool.and_eq_true] at ho
    exact ⟨iha _ ho.1 h.1, ihb _ ho.2 h.2⟩
  | arr n t ih => intro x ho h; exact ⟨h.1, fun y hy => ih y ho (h.2 y hy)⟩
theorem fit_plainAll {B : TypeId → Nat} : ∀ (ts : List Ty) (x : Tup ts), ts.all (okE B) = true → FitAll B ts x → PlainAll ts x := by
  intro ts
  induction ts with
  | nil => intro x _ _; trivial
  | cons t r ih =>
    intro x ho h
    simp only [List.all_cons, Bool.and_eq_true] at ho
    cases r with
    | nil => exact fit_plain t x ho.1 h
    | cons u r => exact ⟨fit_plain t x.1 ho.1 h.1, ih x.2 ho.2 h.2⟩
theorem ok_all {tab : List TRow} (h : okB P tab = true) : tab.all (rowB P tab) = true := by
  unfold okB at h; simp only [Bool.and_eq_true] at h; exact h.2.2
theorem bytes_sound {tab : List TRow} (h : okB P tab = true) : ∀ t x, tabT tab t = some x → P.bytesOf t = tabB tab t := by
  intro t x ht
  have hs := tab_sound (ok_all h)
  obtain ⟨ty, n⟩ := x
  obtain ⟨i, h1, h2⟩ := (hs.1 t ty n ht).info
  unfold Program.bytesOf
  rw [h1]
  exact hs.2 t _ ht i h1
section
variable {H : Type} {enc : TypeId × Value → H} {w : World} {base : Nat} {spare : Nat → Bool} {held : Bool}
theorem law_row {tab : List TRow} (hok : okB P tab = true) (hpos : posB tab = true) {f : FuncId} {c : Con} (hg : Good P f c) (hps : (c.ps.map (·.2)).map ((Kn.val, ·)) = c.ps) (hE : (c.ps.map (·.2)).all (okE (tabB tab)) = true)
    (hlaw : ∀ x, PlainAll (c.ps.map (·.2)) x → ∃ r, c.F x = some r ∧ kds' c.rs (dats _ r) = [(.val, ⟨.bool, true⟩)])
    {r : Reach} {b0 : Nat} {ts : List TypeId} {args : Array Value} {ds : List (DataW H)} {p : List MemPlace} (hts : tysOf (tabT tab) ts = some (c.ps.map (·.2))) (h : DataW.TrodAll enc P w base spare held ts args.toList ds p)
    (hval : ∀ (j : Nat) t v, ts[j]? = some t → args[j]? = some v → Value.okWide P w r b0 t v) {vt : List TypeId} {gs : List (DataW H)} (hgs : vt = [] ∨ gs = []) (hw : (DataW.weightsEach P (ts ++ vt) (ds ++ gs)).all (· ≤ reachBytes) = true) (hl : ts.length = ds.length) :
    Calls P f args w fun e w' => e = .returned (.bool true) ∧ Below w.heap.size w w' := by
  refine law_calls (tab_sound (ok_all hok)).1 (bytes_sound hok) (posB_sound hpos) hg hps (fun x hx => hlaw x (fit_plainAll _ x hE hx)) hts h (fun j t v hj hv => hval j t v hj (by simpa using hv)) ?_
  have key : ∀ (ts : List TypeId) (ds : List (DataW H)), ts.length = ds.length → ∀ m ∈ DataW.weightsEach P ts ds, m ∈ DataW.weightsEach P (ts ++ vt) (ds ++ gs) := by
    intro ts
    induction ts with
    | nil => intro ds hl m hm; cases ds <;> simp [DataW.weightsEach] at hm
    | cons t ts ih =>
      intro ds hl m hm
      cases ds with
      | nil => simp [DataW.weightsEach] at hm
      | cons d ds =>
        simp only [List.cons_append, DataW.weightsEach, List.mem_append] at hm ⊢
        rcases hm with hm | hm
        · exact .inl hm
        · exact .inr (ih ds (by simpa using hl) m hm)
  intro m hm
  have := List.all_eq_true.1 hw m (key ts ds hl m hm)
  simpa using this
end
end Go.Ev

/- What the laws' own helpers do, loop by loop: sizes, copies, comparisons, marks. -/
namespace Go.Pl
open Go.Ev
set_option linter.unusedVariables false

def Sm (s : ByteArray) : Prop := s.size ≤ 1000000
def Lm {α : Type} (Q : α → Prop) (xs : List α) : Prop := xs.length ≤ 1000000 ∧ ∀ x ∈ xs, Q x

theorem eqS_loop {α : Type} {E : α → Prop} (l : Nat → List α → List α → Int → Option Bool) (a : List α) (hE : ∀ x ∈ a, E x)
    (hs : ∀ k p x r, E x → a = p ++ x :: r → l (k + 1) a a p.length = l k a a ((p.length : Int) + 1)) (he : ∀ k, l (k + 1) a a a.length = some true) :
    ∀ k, a.length < k → l k a a 0 = some true := by
  have key : ∀ (r p : List α) (k : Nat), a = p ++ r → r.length < k → l k a a p.length = some true := by
    intro r
    induction r with
    | nil =>
      intro p k h hk
      obtain ⟨k, rfl⟩ : ∃ j, k = j + 1 := ⟨k - 1, by omega⟩
      rw [List.append_nil] at h
      rw [← h]; exact he k
    | cons x r ih =>
      intro p k h hk
      simp only [List.length_cons] at hk
      obtain ⟨k, rfl⟩ : ∃ j, k = j + 1 := ⟨k - 1, by omega⟩
      rw [hs k p x r (hE x (by rw [h]; simp)) h]
      have := ih (p ++ [x]) k (by rw [h]; simp) (by omega)
      rw [snoc_len] at this
      exact this
  intro k hk
  have := key a [] k (by simp) hk
  simpa using this

theorem szS_loop {α : Type} {Q R : α → Prop} (l : Nat → List α → Int → Int → Option Int)
    (he : ∀ k p left, l (k + 1) p left p.length = some left)
    (hs : ∀ x, Q x → ∀ left, -1000000000000000 ≤ left → left ≤ 1000000 → ∃ s, s ≤ 1000000 ∧ (0 ≤ s → s ≤ left ∧ R x) ∧ ∀ k p r, p.length + r.length + 1 ≤ 140737488355328 → l (k + 1) (p ++ x :: r) left p.length = if s < 0 then some (-1) else l k (p ++ x :: r) s ((p.length : Int) + 1))
    (a : List α) (k : Nat) (left : Int) (h0 : -1000000000000000 ≤ left) (h1 : left ≤ 1000000) (ha : Ls Q a) (hk : a.length < k) : ∃ s, l k a left 0 = some s ∧ s ≤ 1000000 ∧ (0 ≤ s → s ≤ left ∧ ∀ x ∈ a, R x) := by
  have key : ∀ (r p : List α) (k : Nat) (left : Int), p.length + r.length ≤ 140737488355328 → (∀ x ∈ r, Q x) → -1000000000000000 ≤ left → left ≤ 1000000 → r.length < k → ∃ s, l k (p ++ r) left p.length = some s ∧ s ≤ 1000000 ∧ (0 ≤ s → s ≤ left ∧ ∀ x ∈ r, R x) := by
    intro r
    induction r with
    | nil =>
      intro p k left _ _ _ _ hk
      obtain ⟨k, rfl⟩ : ∃ j, k = j + 1 := ⟨k - 1, by omega⟩
      rw [List.append_nil]
      exact ⟨left, he k p left, by omega, fun _ => ⟨by omega, fun x hx => by cases hx⟩⟩
    | cons x r ih =>
      intro p k left hb hq h0 h1 hk
      simp only [List.length_cons] at hk hb
      obtain ⟨k, rfl⟩ : ∃ j, k = j + 1 := ⟨k - 1, by omega⟩
      obtain ⟨s, s1, s2, s3⟩ := hs x (hq x (by simp)) left h0 h1
      rw [s3 k p r (by omega)]
      by_cases hn : s < 0
      · rw [if_pos hn]; exact ⟨-1, rfl, by omega, by omega⟩
      · rw [if_neg hn]
        obtain ⟨u, u1, u2, u3⟩ := ih (p ++ [x]) k s (by simp; omega) (fun y hy => hq y (by simp [hy])) (by omega) (by omega) (by omega)
        rw [mid_snoc, snoc_len] at u1
        refine ⟨u, u1, by omega, fun h => ⟨by have := (u3 h).1; have := (s2 (by omega)).1; omega, fun y hy => ?_⟩⟩
        rcases List.mem_cons.1 hy with rfl | hy
        · exact (s2 (by omega)).2
        · exact (u3 h).2 y hy
  have := key a [] k left (by simpa using ha.1) ha.2 h0 h1 hk
  simpa using this

theorem toS_loop {α : Type} {Z R : α → Prop} (l5 l9 : Nat → List α → Int → List α → Option (List α × List α))
    (he9 : ∀ k a (out : List α), (a.length : Int) ≤ out.length → l9 (k + 1) a out.length out = some (out.take a.length, out.drop a.length))
    (hs9 : ∀ k a (i : Nat) (out : List α), i < out.length → out.length ≤ 140737488355328 → ∃ z, Z z ∧ l9 (k + 1) a i out = l9 k a ((i : Int) + 1) (out.set i z))
    (he5 : ∀ k a (out : List α), l5 (k + 1) a a.length out = l9 NN a a.length out)
    (hs5 : ∀ k (p r : List α) x (q s : List α) y, R x → p.length = q.length → p.length + r.length + 1 ≤ 140737488355328 → p.length + s.length + 1 ≤ 140737488355328 → l5 (k + 1) (p ++ x :: r) p.length (q ++ y :: s) = l5 k (p ++ x :: r) ((p.length : Int) + 1) (q ++ x :: s))
    (a : List α) (out : List α) (k : Nat) (ha : ∀ x ∈ a, R x) (h : a.length ≤ out.length) (hb : out.length ≤ 140737488355328) (hk : a.length < k) :
    ∃ fil, l5 k a 0 out = some (a, fil) ∧ fil.length = out.length - a.length ∧ ∀ x ∈ fil, Z x := by
  have hN : 140737488355328 < NN := NN_lt (by omega)
  have k9 : ∀ (d : Nat) (k : Nat) (i : Nat) (out : List α), out.length ≤ 140737488355328 → i + d = out.length → d < k → a.length ≤ i → out.take a.length = a → (∀ j x, a.length ≤ j → j < i → out[j]? = some x → Z x) →
      ∃ fil, l9 k a i out = some (a, fil) ∧ fil.length = out.length - a.length ∧ ∀ x ∈ fil, Z x := by
    intro d
    induction d with
    | zero =>
      intro k i out hb hi hk ha ht hz
      obtain ⟨k, rfl⟩ : ∃ j, k = j + 1 := ⟨k - 1, by omega⟩
      obtain rfl : i = out.length := by omega
      refine ⟨_, by rw [he9 k a out (by omega), ht], by simp, fun x hx => ?_⟩
      obtain ⟨m, hm⟩ := List.mem_iff_getElem?.1 hx
      rw [List.getElem?_drop] at hm
      exact hz _ x (by omega) (List.getElem?_eq_some_iff.1 hm).1 hm
    | succ d ih =>
      intro k i out hb hi hk ha ht hz
      obtain ⟨k, rfl⟩ : ∃ j, k = j + 1 := ⟨k - 1, by omega⟩
      obtain ⟨z, z1, z2⟩ := hs9 k a i out (by omega) hb
      rw [z2]
      obtain ⟨fil, f1, f2, f3⟩ := ih k (i + 1) (out.set i z) (by simpa using hb) (by simp; omega) (by omega) (by omega) (by rw [List.take_set_of_le ha]; exact ht) (fun j x h1 h2 h3 => by
        by_cases hj : i = j
        · subst hj
          rw [List.getElem?_set_self (by omega)] at h3
          cases h3; exact z1
        · rw [List.getElem?_set_ne hj] at h3
          exact hz j x h1 (by omega) h3)
      exact ⟨fil, f1, by simpa using f2, f3⟩
  have k5 : ∀ (r p : List α) (s : List α) (k : Nat), p ++ r = a → p.length + s.length ≤ 140737488355328 → r.length ≤ s.length → r.length < k → (∀ x ∈ r, R x) →
      ∃ fil, l5 k a p.length (p ++ s) = some (a, fil) ∧ fil.length = p.length + s.length - a.length ∧ ∀ x ∈ fil, Z x := by
    intro r
    induction r with
    | nil =>
      intro p s k h3 h4 h5 hk _
      obtain ⟨k, rfl⟩ : ∃ j, k = j + 1 := ⟨k - 1, by omega⟩
      rw [List.append_nil] at h3
      subst h3
      rw [he5]
      obtain ⟨fil, f1, f2, f3⟩ := k9 s.length NN p.length (p ++ s) (by simp; omega) (by simp) (by omega) (by omega) (by rw [List.take_left' rfl]) (fun j x h1 h2 => by omega)
      exact ⟨fil, f1, by rw [f2]; simp, f3⟩
    | cons x r ih =>
      intro p s k h3 h4 h5 hk hR
      simp only [List.length_cons] at h5 hk
      obtain ⟨k, rfl⟩ : ∃ j, k = j + 1 := ⟨k - 1, by omega⟩
      cases s with
      | nil => simp at h5
      | cons y s =>
        have hs := hs5 k p r x p s y (hR x (by simp)) rfl (by simp only [List.length_cons] at h4 h5; omega) (by simp only [List.length_cons] at h4; omega)
        rw [h3] at hs
        rw [hs]
        obtain ⟨fil, f1, f2, f3⟩ := ih (p ++ [x]) s k (by rw [← h3]; simp) (by simp only [List.length_append, List.length_cons, List.length_nil] at h4 ⊢; omega) (by simp only [List.length_cons] at h5; omega) (by omega) (fun z hz => hR z (by simp [hz]))
        rw [mid_snoc, snoc_len] at f1
        exact ⟨fil, f1, by rw [f2]; simp only [List.length_append, List.length_cons, List.length_nil]; omega, f3⟩
  obtain ⟨fil, f1, f2, f3⟩ := k5 a [] out k rfl (by simpa using hb) h hk ha
  exact ⟨fil, by simpa using f1, by simpa using f2, f3⟩

/-- Rows that are marked, and looked at afterwards. -/
theorem mark_held {α : Type} {Q : α → Prop} (l : Nat → List α → Int → Int → Option (Int × List α)) (lh : Nat → List α → Int → Int → Option Int) (C : Nat) (K : Int)
    (he : ∀ k p n, l (k + 1) p n p.length = some (n, p)) (heh : ∀ k p n, lh (k + 1) p n p.length = some n)
    (hs : ∀ x, Q x → ∀ n, 0 ≤ n → n ≤ K → ∃ x' n', n ≤ n' ∧ n' ≤ n + C ∧ (∀ k p r, p.length + r.length + 1 ≤ 1000000 → l (k + 1) (p ++ x :: r) n p.length = l k (p ++ x' :: r) n' ((p.length : Int) + 1))
      ∧ (∀ k p r, p.length + r.length + 1 ≤ 1000000 → lh (k + 1) (p ++ x' :: r) n p.length = lh k (p ++ x' :: r) n' ((p.length : Int) + 1)))
    (a : List α) (ha : Lm Q a) (n : Int) (h0 : 0 ≤ n) (h1 : n + (1000000 * C : Nat) ≤ K) (k kh : Nat) (hk : 1000000 < k) (hkh : 1000000 < kh) :
    ∃ n' a', l k a n 0 = some (n', a') ∧ lh kh a' n 0 = some n' ∧ n ≤ n' ∧ n' ≤ n + (1000000 * C : Nat) := by
  have key : ∀ (r p : List α) (k : Nat) (n : Int), p.length + r.length ≤ 1000000 → (∀ x ∈ r, Q x) → 0 ≤ n → n + ((r.length * C : Nat) : Int) ≤ K → r.length < k →
      ∃ n' r', l k (p ++ r) n p.length = some (n', p ++ r') ∧ r'.length = r.length ∧ n ≤ n' ∧ n' ≤ n + ((r.length * C : Nat) : Int) ∧ (∀ (q : List α) kh, q.length = p.length → r.length < kh → lh kh (q ++ r') n q.length = some n') := by
    intro r
    induction r with
    | nil =>
      intro p k n _ _ h0 _ hk
      obtain ⟨k, rfl⟩ : ∃ j, k = j + 1 := ⟨k - 1, by omega⟩
      refine ⟨n, [], by rw [List.append_nil]; exact he k p n, rfl, by omega, by simp, fun q kh _ hkh => ?_⟩
      obtain ⟨kh, rfl⟩ : ∃ j, kh = j + 1 := ⟨kh - 1, by simp at hkh; omega⟩
      rw [List.append_nil]; exact heh kh q n
    | cons x r ih =>
      intro p k n hb hq h0 hK hk
      simp only [List.length_cons] at hk hb hK
      obtain ⟨k, rfl⟩ : ∃ j, k = j + 1 := ⟨k - 1, by omega⟩
      have hm : (r.length + 1) * C = r.length * C + C := by rw [Nat.add_mul, Nat.one_mul]
      rw [hm] at hK
      obtain ⟨x', n1, a1, a2, a3, a4⟩ := hs x (hq x (by simp)) n h0 (by omega)
      rw [a3 k p r (by omega)]
      obtain ⟨n', r', b1, b2, b3, b4, b5⟩ := ih (p ++ [x']) k n1 (by simp; omega) (fun y hy => hq y (by simp [hy])) (by omega) (by omega) (by omega)
      rw [mid_snoc, snoc_len] at b1
      refine ⟨n', x' :: r', by rw [b1]; simp, by simp [b2], by omega, by simp only [List.length_cons]; rw [hm]; omega, fun q kh hq' hkh => ?_⟩
      simp only [List.length_cons] at hkh
      obtain ⟨kh, rfl⟩ : ∃ j, kh = j + 1 := ⟨kh - 1, by omega⟩
      rw [a4 kh q r' (by omega)]
      have := b5 (q ++ [x']) kh (by simp [hq']) (by omega)
      rw [mid_snoc, snoc_len] at this
      exact this
  have hle : ((a.length * C : Nat) : Int) ≤ ((1000000 * C : Nat) : Int) := Int.ofNat_le.2 (Nat.mul_le_mul_right _ ha.1)
  obtain ⟨n', r', b1, b2, b3, b4, b5⟩ := key a [] k n (by simpa using ha.1) ha.2 h0 (by omega) (by have := ha.1; omega)
  have := b5 [] kh rfl (by have := ha.1; omega)
  exact ⟨n', r', by simpa using b1, by simpa using this, b3, by omega⟩
theorem mem_mid {α : Type} {a p r : List α} {x : α} (h : a = p ++ x :: r) : x ∈ a := by rw [h]; simp
end Go.Pl

namespace Go.Pl
open Go.Ev
set_option linter.unusedVariables false
set_option linter.unusedSimpArgs false
def PlRatio (x : Int × Int) : Prop := Rg .i64 x.1 ∧ Rg .i64 x.2
def OkRatio (x : Int × Int) : Prop := Rg .i64 x.1 ∧ Rg .i64 x.2
def PlArticle (x : ByteArray × Int × Int × Int × Int × Int × Int × Int × Int) : Prop := Sz x.1 ∧ Rg .i64 x.2.1 ∧ Rg .i64 x.2.2.1 ∧ Rg .i64 x.2.2.2.1 ∧ Rg .i64 x.2.2.2.2.1 ∧ Rg .i64 x.2.2.2.2.2.1 ∧ Rg .i64 x.2.2.2.2.2.2.1 ∧ Rg .i64 x.2.2.2.2.2.2.2.1 ∧ Rg .i64 x.2.2.2.2.2.2.2.2
def OkArticle (x : ByteArray × Int × Int × Int × Int × Int × Int × Int × Int) : Prop := Sm x.1 ∧ Rg .i64 x.2.1 ∧ Rg .i64 x.2.2.1 ∧ Rg .i64 x.2.2.2.1 ∧ Rg .i64 x.2.2.2.2.1 ∧ Rg .i64 x.2.2.2.2.2.1 ∧ Rg .i64 x.2.2.2.2.2.2.1 ∧ Rg .i64 x.2.2.2.2.2.2.2.1 ∧ Rg .i64 x.2.2.2.2.2.2.2.2
def PlLayer (x : Int × Int × Int) : Prop := Rg .i64 x.1 ∧ Rg .i64 x.2.1 ∧ Rg .i64 x.2.2
def OkLayer (x : Int × Int × Int) : Prop := Rg .i64 x.1 ∧ Rg .i64 x.2.1 ∧ Rg .i64 x.2.2
def PlShot (x : Int × Int × Int × Int) : Prop := Rg .i64 x.1 ∧ Rg .i64 x.2.1 ∧ Rg .i64 x.2.2.1 ∧ Rg .i64 x.2.2.2
def OkShot (x : Int × Int × Int × Int) : Prop := Rg .i64 x.1 ∧ Rg .i64 x.2.1 ∧ Rg .i64 x.2.2.1 ∧ Rg .i64 x.2.2.2
def PlBar (x : Int × Int) : Prop := Rg .i64 x.1 ∧ Rg .i64 x.2
def OkBar (x : Int × Int) : Prop := Rg .i64 x.1 ∧ Rg .i64 x.2
def PlCue (x : Int × Int × ByteArray × Int) : Prop := Rg .i64 x.1 ∧ Rg .i64 x.2.1 ∧ Sz x.2.2.1 ∧ Rg .i64 x.2.2.2
def OkCue (x : Int × Int × ByteArray × Int) : Prop := Rg .i64 x.1 ∧ Rg .i64 x.2.1 ∧ Sm x.2.2.1 ∧ Rg .i64 x.2.2.2
def PlShow (x : (List (Int × Int)) × (List (ByteArray × Int × Int × Int × Int × Int × Int × Int × Int)) × (List (Int × Int × ByteArray × Int))) : Prop := Ls PlBar x.1 ∧ Ls PlArticle x.2.1 ∧ Ls PlCue x.2.2
def OkShow (x : (List (Int × Int)) × (List (ByteArray × Int × Int × Int × Int × Int × Int × Int × Int)) × (List (Int × Int × ByteArray × Int))) : Prop := Lm OkBar x.1 ∧ Lm OkArticle x.2.1 ∧ Lm OkCue x.2.2
def PlFuse (x : Int × Int × Int × Int) : Prop := Rg .i64 x.1 ∧ Rg .i64 x.2.1 ∧ Rg .i64 x.2.2.1 ∧ Rg .i64 x.2.2.2
def OkFuse (x : Int × Int × Int × Int) : Prop := Rg .i64 x.1 ∧ Rg .i64 x.2.1 ∧ Rg .i64 x.2.2.1 ∧ Rg .i64 x.2.2.2
def PlLink (x : Int × Int) : Prop := Rg .i64 x.1 ∧ Rg .i64 x.2
def OkLink (x : Int × Int) : Prop := Rg .i64 x.1 ∧ Rg .i64 x.2
def PlModule (x : Int × Int) : Prop := Rg .i64 x.1 ∧ Rg .i64 x.2
def OkModule (x : Int × Int) : Prop := Rg .i64 x.1 ∧ Rg .i64 x.2
def PlWire (x : Int × Int × Int) : Prop := Rg .i64 x.1 ∧ Rg .i64 x.2.1 ∧ Rg .i64 x.2.2
def OkWire (x : Int × Int × Int) : Prop := Rg .i64 x.1 ∧ Rg .i64 x.2.1 ∧ Rg .i64 x.2.2
def PlCircuit (x : Int × List Int) : Prop := Rg .i64 x.1 ∧ Ls (Rg .i64) x.2
def OkCircuit (x : Int × List Int) : Prop := Rg .i64 x.1 ∧ Lm (Rg .i64) x.2
def PlArea (x : Int × Int × Int × Int × Int) : Prop := Rg .i64 x.1 ∧ Rg .i64 x.2.1 ∧ Rg .i64 x.2.2.1 ∧ Rg .i64 x.2.2.2.1 ∧ Rg .i64 x.2.2.2.2
def OkArea (x : Int × Int × Int × Int × Int) : Prop := Rg .i64 x.1 ∧ Rg .i64 x.2.1 ∧ Rg .i64 x.2.2.1 ∧ Rg .i64 x.2.2.2.1 ∧ Rg .i64 x.2.2.2.2
def PlDemand (x : Int × Int × Int) : Prop := Rg .i64 x.1 ∧ Rg .i64 x.2.1 ∧ Rg .i64 x.2.2
def OkDemand (x : Int × Int × Int) : Prop := Rg .i64 x.1 ∧ Rg .i64 x.2.1 ∧ Rg .i64 x.2.2
def PlRack (x : Int × Int × List Int × List ByteArray) : Prop := Rg .i64 x.1 ∧ Rg .i64 x.2.1 ∧ Ls (Rg .i64) x.2.2.1 ∧ Ls Sz x.2.2.2
def OkRack (x : Int × Int × List Int × List ByteArray) : Prop := Rg .i64 x.1 ∧ Rg .i64 x.2.1 ∧ Lm (Rg .i64) x.2.2.1 ∧ Lm Sm x.2.2.2
def PlField (x : (List (Int × Int × Int)) × (List (Int × Int × Int × Int × Int)) × List Int × List Int × List Int × Int) : Prop := Ls PlDemand x.1 ∧ Ls PlArea x.2.1 ∧ Ls (Rg .i64) x.2.2.1 ∧ Ls (Rg .i64) x.2.2.2.1 ∧ Ls (Rg .i64) x.2.2.2.2.1 ∧ Rg .i64 x.2.2.2.2.2
def OkField (x : (List (Int × Int × Int)) × (List (Int × Int × Int × Int × Int)) × List Int × List Int × List Int × Int) : Prop := Lm OkDemand x.1 ∧ Lm OkArea x.2.1 ∧ Lm (Rg .i64) x.2.2.1 ∧ Lm (Rg .i64) x.2.2.2.1 ∧ Lm (Rg .i64) x.2.2.2.2.1 ∧ Rg .i64 x.2.2.2.2.2
def PlMove (x : Int × ByteArray × Int) : Prop := Rg .i64 x.1 ∧ Sz x.2.1 ∧ Rg .i64 x.2.2
def OkMove (x : Int × ByteArray × Int) : Prop := Rg .i64 x.1 ∧ Sm x.2.1 ∧ Rg .i64 x.2.2
def PlController (x : Bool × Bool × Bool × Bool × Bool × Int) : Prop := True ∧ True ∧ True ∧ True ∧ True ∧ Rg .i64 x.2.2.2.2.2
def OkController (x : Bool × Bool × Bool × Bool × Bool × Int) : Prop := True ∧ True ∧ True ∧ True ∧ True ∧ Rg .i64 x.2.2.2.2.2
def PlSignal (x : Int × Int) : Prop := Rg .i64 x.1 ∧ Rg .i64 x.2
def OkSignal (x : Int × Int) : Prop := Rg .i64 x.1 ∧ Rg .i64 x.2
def PlTry (x : Int × Int × Bool) : Prop := Rg .i64 x.1 ∧ Rg .i64 x.2.1 ∧ True
def OkTry (x : Int × Int × Bool) : Prop := Rg .i64 x.1 ∧ Rg .i64 x.2.1 ∧ True
def PlMagazine (x : Int × List Int) : Prop := Rg .i64 x.1 ∧ Ls (Rg .i64) x.2
def OkMagazine (x : Int × List Int) : Prop := Rg .i64 x.1 ∧ Lm (Rg .i64) x.2
def PlDepot (x : Int × Int × Int) : Prop := Rg .i64 x.1 ∧ Rg .i64 x.2.1 ∧ Rg .i64 x.2.2
def OkDepot (x : Int × Int × Int) : Prop := Rg .i64 x.1 ∧ Rg .i64 x.2.1 ∧ Rg .i64 x.2.2
def PlBox (x : Int × Int) : Prop := Rg .i64 x.1 ∧ Rg .i64 x.2
def OkBox (x : Int × Int) : Prop := Rg .i64 x.1 ∧ Rg .i64 x.2
def PlLine (x : ByteArray × Int) : Prop := Sz x.1 ∧ Rg .i64 x.2
def OkLine (x : ByteArray × Int) : Prop := Sm x.1 ∧ Rg .i64 x.2
def PlPaper (x : ByteArray × Int × (List (ByteArray × Int))) : Prop := Sz x.1 ∧ Rg .i64 x.2.1 ∧ Ls PlLine x.2.2
def OkPaper (x : ByteArray × Int × (List (ByteArray × Int))) : Prop := Sm x.1 ∧ Rg .i64 x.2.1 ∧ Lm OkLine x.2.2
def PlPermit (x : Int × Int × Int × Int × List Int × Int) : Prop := Rg .i64 x.1 ∧ Rg .i64 x.2.1 ∧ Rg .i64 x.2.2.1 ∧ Rg .i64 x.2.2.2.1 ∧ Ls (Rg .i64) x.2.2.2.2.1 ∧ Rg .i64 x.2.2.2.2.2
def OkPermit (x : Int × Int × Int × Int × List Int × Int) : Prop := Rg .i64 x.1 ∧ Rg .i64 x.2.1 ∧ Rg .i64 x.2.2.1 ∧ Rg .i64 x.2.2.2.1 ∧ Lm (Rg .i64) x.2.2.2.2.1 ∧ Rg .i64 x.2.2.2.2.2
def PlGrid (x : Int × Int × List Bool) : Prop := Rg .i64 x.1 ∧ Rg .i64 x.2.1 ∧ Ls (fun _ => True) x.2.2
def OkGrid (x : Int × Int × List Bool) : Prop := Rg .i64 x.1 ∧ Rg .i64 x.2.1 ∧ Lm (fun _ => True) x.2.2
def PlBooking (x : Int × ByteArray × Int) : Prop := Rg .i64 x.1 ∧ Sz x.2.1 ∧ Rg .i64 x.2.2
def OkBooking (x : Int × ByteArray × Int) : Prop := Rg .i64 x.1 ∧ Sm x.2.1 ∧ Rg .i64 x.2.2
def PlEntry (x : Int × ByteArray) : Prop := Rg .u8 x.1 ∧ Sz x.2
def OkEntry (x : Int × ByteArray) : Prop := Rg .u8 x.1 ∧ Sm x.2
def PlDesk (x : (List (Int × ByteArray × Int)) × (List (Int × Int)) × (List (Int × ByteArray × Int))) : Prop := Ls PlMove x.1 ∧ Ls PlSignal x.2.1 ∧ Ls PlBooking x.2.2
def OkDesk (x : (List (Int × ByteArray × Int)) × (List (Int × Int)) × (List (Int × ByteArray × Int))) : Prop := Lm OkMove x.1 ∧ Lm OkSignal x.2.1 ∧ Lm OkBooking x.2.2
end Go.Pl

namespace Go.Pl
open Go.Ev
set_option linter.unusedVariables false
set_option linter.unusedSimpArgs false
theorem laws_eqLine_self (a : ByteArray × Int) : laws_eqLine.f a a = some true := by
  unfold laws_eqLine.f laws_eqLine.fn laws_eqLine.top
  simp []
end Go.Pl

namespace Go.Pl
open Go.Ev
set_option linter.unusedVariables false
set_option linter.unusedSimpArgs false
theorem laws_eqLineS_self (a : List (ByteArray × Int)) (hl : a.length ≤ 140737488355328) : laws_eqLineS.f a a = some true := by
  unfold laws_eqLineS.f laws_eqLineS.fn laws_eqLineS.top
  simp only [bne_self_eq_false, Bool.false_eq_true, if_false]
  refine eqS_loop (E := fun _ => True) (fun k a b i => laws_eqLineS.l4 NN k a b i) a (fun _ _ => trivial) ?_ ?_ NN (NN_lt (by omega))
  · intro k p x r hx ha
    subst ha
    show laws_eqLineS.g4 (laws_eqLineS.l4 NN k) (p ++ x :: r) (p ++ x :: r) p.length = _
    unfold laws_eqLineS.g4
    have hm := mid_len p r x
    have c1 : (p.length : Int) < ((p ++ x :: r).length : Int) := by omega
    have c0 : (0 : Int) ≤ (p.length : Int) := by omega
    have cw := w64 (n := (p.length : Int) + 1) (by omega) (by omega)
    simp only [c0, c1, and_self, decide_true, if_true, mid_get, laws_eqLine_self x, Option.bind_some, cw, Bool.not_true, Bool.false_eq_true, if_false]
  · intro k
    show laws_eqLineS.g4 (laws_eqLineS.l4 NN k) a a a.length = _
    unfold laws_eqLineS.g4
    simp
end Go.Pl

namespace Go.Pl
open Go.Ev
set_option linter.unusedVariables false
set_option linter.unusedSimpArgs false
def EqPaper (x : ByteArray × Int × (List (ByteArray × Int))) : Prop := x.2.2.length ≤ 140737488355328
theorem laws_eqPaper_self (a : ByteArray × Int × (List (ByteArray × Int))) (h : EqPaper a) : laws_eqPaper.f a a = some true := by
  unfold laws_eqPaper.f laws_eqPaper.fn laws_eqPaper.top
  simp [laws_eqLineS_self _ h]
end Go.Pl

/- Loops of a few sorts, and what they come to. -/
namespace Go.Pl
open Go.Ev
set_option linter.unusedVariables false

/-- false at the first element that fails -/
theorem all_loop {α : Type} {E : α → Prop} (P : α → Bool) (fin : List α → Option Bool) (l : Nat → List α → Int → Option Bool)
    (hn : ∀ k p, l (k + 1) p p.length = fin p)
    (hc : ∀ k p a r, E a → (0 : Int) ≤ (p.length : Int) → (p.length : Int) < ((p ++ a :: r).length : Int) → IntKind.i64.wrap ((p.length : Int) + 1) = (p.length : Int) + 1 → l (k + 1) (p ++ a :: r) p.length = if P a = true then l k (p ++ a :: r) ((p.length : Int) + 1) else some false)
    (xs : List α) (hE : ∀ x ∈ xs, E x) (hB : xs.length ≤ 140737488355328) (k : Nat) (hk : xs.length < k) : l k xs 0 = if xs.all P = true then fin xs else some false := by
  have key : ∀ (r p : List α) (k : Nat), p.length + r.length ≤ 140737488355328 → (∀ x ∈ r, E x) → r.length < k → l k (p ++ r) p.length = if r.all P = true then fin (p ++ r) else some false := by
    intro r
    induction r with
    | nil =>
      intro p k _ _ hk
      obtain ⟨k, rfl⟩ : ∃ j, k = j + 1 := ⟨k - 1, by omega⟩
      rw [List.append_nil, hn]; simp
    | cons a r ih =>
      intro p k hb he hk
      simp only [List.length_cons] at hk hb
      obtain ⟨k, rfl⟩ : ∃ j, k = j + 1 := ⟨k - 1, by omega⟩
      have hm := mid_len p r a
      rw [hc k p a r (he a (by simp)) (by omega) (by omega) (w64 (by omega) (by omega))]
      have := ih (p ++ [a]) k (by simp; omega) (fun y hy => he y (by simp [hy])) (by omega)
      rw [mid_snoc, snoc_len] at this
      rw [this]
      cases h : P a <;> simp [h]
  have := key xs [] k (by simpa using hB) hE hk
  simpa using this
/-- the same over a string's bytes -/
theorem all_loop_str (P : UInt8 → Bool) (fin : ByteArray → Option Bool) (l : Nat → ByteArray → Int → Option Bool)
    (hn : ∀ k p, l (k + 1) (ob p) p.length = fin (ob p))
    (hc : ∀ k p a r, (0 : Int) ≤ (p.length : Int) → (p.length : Int) < ((ob (p ++ a :: r)).size : Int) → IntKind.i64.wrap ((p.length : Int) + 1) = (p.length : Int) + 1 → l (k + 1) (ob (p ++ a :: r)) p.length = if P a = true then l k (ob (p ++ a :: r)) ((p.length : Int) + 1) else some false)
    (s : ByteArray) (hB : s.size ≤ 140737488355328) (k : Nat) (hk : s.size < k) : l k s 0 = if (bl s).all P = true then fin s else some false := by
  have := all_loop (E := fun _ => True) P (fun x => fin (ob x)) (fun k x i => l k (ob x) i) hn (fun k p a r _ h1 h2 h3 => hc k p a r h1 (by rw [ob_size]; exact h2) h3) (bl s) (fun _ _ => trivial) (by rw [bl_length]; exact hB) k (by rw [bl_length]; exact hk)
  rw [ob_bl] at this
  exact this

def foldi {α σ : Type} (f : Nat → σ → α → σ) : Nat → σ → List α → σ
  | _, st, [] => st
  | i, st, a :: r => foldi f (i + 1) (f i st a) r
theorem foldi_foldl {α σ : Type} (f : σ → α → σ) : ∀ (xs : List α) (i : Nat) (st : σ), foldi (fun _ => f) i st xs = xs.foldl f st := by
  intro xs
  induction xs with
  | nil => intro i st; rfl
  | cons a r ih => intro i st; exact ih _ _
theorem foldi_append {α σ : Type} (f : Nat → σ → α → σ) : ∀ (xs ys : List α) (i : Nat) (st : σ), foldi f i st (xs ++ ys) = foldi f (i + xs.length) (foldi f i st xs) ys := by
  intro xs
  induction xs with
  | nil => intro ys i st; rfl
  | cons a r ih => intro ys i st; simp only [List.cons_append, foldi, List.length_cons]; rw [ih, show i + 1 + r.length = i + (r.length + 1) by omega]
/-- a state that goes from element to element; I: what holds of it behind a part of the row -/
theorem fold_loop {α σ ρ : Type} {E : α → Prop} (I : List α → σ → Prop) (f : Nat → σ → α → σ) (fin : List α → σ → Option ρ) (l : Nat → List α → Int → σ → Option ρ)
    (hn : ∀ k p st, I p st → l (k + 1) p p.length st = fin p st)
    (hc : ∀ k p a r st, E a → I p st → (0 : Int) ≤ (p.length : Int) → (p.length : Int) < ((p ++ a :: r).length : Int) → p.length < 140737488355328 → IntKind.i64.wrap ((p.length : Int) + 1) = (p.length : Int) + 1 →
      I (p ++ [a]) (f p.length st a) ∧ l (k + 1) (p ++ a :: r) p.length st = l k (p ++ a :: r) ((p.length : Int) + 1) (f p.length st a))
    (xs : List α) (st : σ) (hE : ∀ x ∈ xs, E x) (hI : I [] st) (hB : xs.length ≤ 140737488355328) (k : Nat) (hk : xs.length < k) :
    I xs (foldi f 0 st xs) ∧ l k xs 0 st = fin xs (foldi f 0 st xs) := by
  have key : ∀ (r p : List α) (k : Nat) (st : σ), p.length + r.length ≤ 140737488355328 → (∀ x ∈ r, E x) → I p st → r.length < k → I (p ++ r) (foldi f p.length st r) ∧ l k (p ++ r) p.length st = fin (p ++ r) (foldi f p.length st r) := by
    intro r
    induction r with
    | nil =>
      intro p k st _ _ hI hk
      obtain ⟨k, rfl⟩ : ∃ j, k = j + 1 := ⟨k - 1, by omega⟩
      rw [List.append_nil]; exact ⟨hI, hn k p st hI⟩
    | cons a r ih =>
      intro p k st hb he hI hk
      simp only [List.length_cons] at hk hb
      obtain ⟨k, rfl⟩ : ∃ j, k = j + 1 := ⟨k - 1, by omega⟩
      have hm := mid_len p r a
      obtain ⟨h1, h2⟩ := hc k p a r st (he a (by simp)) hI (by omega) (by omega) (by omega) (w64 (by omega) (by omega))
      have := ih (p ++ [a]) k (f p.length st a) (by simp; omega) (fun y hy => he y (by simp [hy])) h1 (by omega)
      rw [mid_snoc, snoc_len] at this
      rw [h2]
      simpa [foldi] using this
  have := key xs [] k st (by simpa using hB) hE hI hk
  simpa using this
/-- the same over a string's bytes -/
theorem fold_loop_str {σ ρ : Type} (I : List UInt8 → σ → Prop) (f : Nat → σ → UInt8 → σ) (fin : ByteArray → σ → Option ρ) (l : Nat → ByteArray → Int → σ → Option ρ)
    (hn : ∀ k p st, I p st → l (k + 1) (ob p) p.length st = fin (ob p) st)
    (hc : ∀ k p a r st, I p st → (0 : Int) ≤ (p.length : Int) → (p.length : Int) < ((ob (p ++ a :: r)).size : Int) → p.length < 140737488355328 → IntKind.i64.wrap ((p.length : Int) + 1) = (p.length : Int) + 1 →
      I (p ++ [a]) (f p.length st a) ∧ l (k + 1) (ob (p ++ a :: r)) p.length st = l k (ob (p ++ a :: r)) ((p.length : Int) + 1) (f p.length st a))
    (s : ByteArray) (st : σ) (hI : I [] st) (hB : s.size ≤ 140737488355328) (k : Nat) (hk : s.size < k) :
    I (bl s) (foldi f 0 st (bl s)) ∧ l k s 0 st = fin s (foldi f 0 st (bl s)) := by
  have := fold_loop (E := fun _ => True) I f (fun x => fin (ob x)) (fun k x i st => l k (ob x) i st) hn (fun k p a r st _ hI h1 h2 h3 h4 => hc k p a r st hI h1 (by rw [ob_size]; exact h2) h3 h4) (bl s) st (fun _ _ => trivial) hI (by rw [bl_length]; exact hB) k (by rw [bl_length]; exact hk)
  rw [ob_bl] at this
  exact this
/-- fold_loop, of one row: the rounds may look at it as a whole -/
theorem fold_fix {α σ ρ : Type} {E : α → Prop} (I : List α → σ → Prop) (f : Nat → σ → α → σ) (fin : σ → Option ρ) (l : Nat → Int → σ → Option ρ) (xs : List α)
    (hn : ∀ k st, I xs st → l (k + 1) xs.length st = fin st)
    (hc : ∀ k p a r st, xs = p ++ a :: r → E a → I p st → (0 : Int) ≤ (p.length : Int) → (p.length : Int) < (xs.length : Int) → p.length < 140737488355328 → IntKind.i64.wrap ((p.length : Int) + 1) = (p.length : Int) + 1 → (∀ z, xs.getD p.length z = a) →
      I (p ++ [a]) (f p.length st a) ∧ l (k + 1) p.length st = l k ((p.length : Int) + 1) (f p.length st a))
    (st : σ) (hE : ∀ x ∈ xs, E x) (hI : I [] st) (hB : xs.length ≤ 140737488355328) (k : Nat) (hk : xs.length < k) :
    I xs (foldi f 0 st xs) ∧ l k 0 st = fin (foldi f 0 st xs) := by
  have key : ∀ (r p : List α) (k : Nat) (st : σ), xs = p ++ r → (∀ x ∈ r, E x) → I p st → r.length < k → I xs (foldi f p.length st r) ∧ l k p.length st = fin (foldi f p.length st r) := by
    intro r
    induction r with
    | nil =>
      intro p k st hx _ hI hk
      obtain ⟨k, rfl⟩ : ∃ j, k = j + 1 := ⟨k - 1, by omega⟩
      rw [List.append_nil] at hx
      subst hx; exact ⟨hI, hn k st hI⟩
    | cons a r ih =>
      intro p k st hx he hI hk
      simp only [List.length_cons] at hk
      obtain ⟨k, rfl⟩ : ∃ j, k = j + 1 := ⟨k - 1, by omega⟩
      have hm := mid_len p r a
      have hxl : (xs.length : Int) = ((p ++ a :: r).length : Int) := by rw [hx]
      obtain ⟨h1, h2⟩ := hc k p a r st hx (he a (by simp)) hI (by omega) (by omega) (by omega) (w64 (by omega) (by omega)) (fun z => by rw [hx, mid_getn])
      have := ih (p ++ [a]) k (f p.length st a) (by rw [hx]; simp) (fun y hy => he y (by simp [hy])) h1 (by omega)
      rw [snoc_len] at this
      rw [h2]
      simpa [foldi] using this
  have := key xs [] k st (by simp) hE hI hk
  simpa using this
/-- the first element that is looked for, and its number -/
def firstOf {α : Type} (P : α → Bool) : Nat → List α → Option (Nat × α)
  | _, [] => none
  | i, a :: r => if P a = true then some (i, a) else firstOf P (i + 1) r
theorem find_loop {α ρ : Type} {E : α → Prop} (P : α → Bool) (hit : Nat → α → Option ρ) (fin : List α → Option ρ) (l : Nat → List α → Int → Option ρ)
    (hn : ∀ k p, l (k + 1) p p.length = fin p)
    (hc : ∀ k p a r, E a → (0 : Int) ≤ (p.length : Int) → (p.length : Int) < ((p ++ a :: r).length : Int) → p.length < 140737488355328 → IntKind.i64.wrap ((p.length : Int) + 1) = (p.length : Int) + 1 → l (k + 1) (p ++ a :: r) p.length = if P a = true then hit p.length a else l k (p ++ a :: r) ((p.length : Int) + 1))
    (xs : List α) (hE : ∀ x ∈ xs, E x) (hB : xs.length ≤ 140737488355328) (k : Nat) (hk : xs.length < k) : l k xs 0 = (firstOf P 0 xs).elim (fin xs) (fun x => hit x.1 x.2) := by
  have key : ∀ (r p : List α) (k : Nat), p.length + r.length ≤ 140737488355328 → (∀ x ∈ r, E x) → r.length < k → l k (p ++ r) p.length = (firstOf P p.length r).elim (fin (p ++ r)) (fun x => hit x.1 x.2) := by
    intro r
    induction r with
    | nil =>
      intro p k _ _ hk
      obtain ⟨k, rfl⟩ : ∃ j, k = j + 1 := ⟨k - 1, by omega⟩
      rw [List.append_nil, hn]; rfl
    | cons a r ih =>
      intro p k hb he hk
      simp only [List.length_cons] at hk hb
      obtain ⟨k, rfl⟩ : ∃ j, k = j + 1 := ⟨k - 1, by omega⟩
      have hm := mid_len p r a
      rw [hc k p a r (he a (by simp)) (by omega) (by omega) (by omega) (w64 (by omega) (by omega))]
      have := ih (p ++ [a]) k (by simp; omega) (fun y hy => he y (by simp [hy])) (by omega)
      rw [mid_snoc, snoc_len] at this
      rw [this]
      cases h : P a <;> simp [h, firstOf]
  have := key xs [] k (by simpa using hB) hE hk
  simpa using this
end Go.Pl

namespace Go.Pl
open Go.Ev
set_option linter.unusedVariables false
set_option linter.unusedSimpArgs false
theorem markText_some (n : Int) (h0 : 0 ≤ n) (h1 : n ≤ 100000000000000) : ∃ t, laws_markText.f n = some t := by
  have key : ∀ (m : Nat) (n : Int) (out : ByteArray) (k : Nat), 0 ≤ n → n ≤ m → (out.size : Int) + n ≤ 1000000000000000 → m < k → ∃ t, laws_markText.l4 NN k n out = some t := by
    intro m
    induction m with
    | zero =>
      intro n out k h0 h1 h2 hk
      obtain ⟨k, rfl⟩ : ∃ j, k = j + 1 := ⟨k - 1, by omega⟩
      obtain rfl : n = 0 := by omega
      have z : (⟨#[109]⟩ : ByteArray).size = 1 := rfl
      exact ⟨_, by
        simp only [laws_markText.l4, laws_markText.g4]
        rw [if_neg (by simp), if_pos (by omega)]⟩
    | succ m ih =>
      intro n out k h0 h1 h2 hk
      obtain ⟨k, rfl⟩ : ∃ j, k = j + 1 := ⟨k - 1, by omega⟩
      by_cases hn : 0 < n
      · have z : (bytesOf [IntKind.u8.wrap (IntKind.i64.wrap (48 + n.tmod 10))]).size = 1 := rfl
        have hd : n.tdiv 10 = n / 10 := Int.tdiv_eq_ediv_of_nonneg h0
        have hw := w64 (n := n.tdiv 10) (by omega) (by omega)
        obtain ⟨t, ht⟩ := ih (n.tdiv 10) (bytesOf [IntKind.u8.wrap (IntKind.i64.wrap (48 + n.tmod 10))] ++ out) k (by omega) (by omega) (by rw [ByteArray.size_append, z]; omega) (by omega)
        refine ⟨t, ?_⟩
        simp only [laws_markText.l4, laws_markText.g4]
        rw [if_pos (by simpa using hn), if_pos (by omega), hw]
        exact ht
      · have z : (⟨#[109]⟩ : ByteArray).size = 1 := rfl
        exact ⟨_, by
          simp only [laws_markText.l4, laws_markText.g4]
          rw [if_neg (by simpa using hn), if_pos (by omega)]⟩
  unfold laws_markText.f laws_markText.fn laws_markText.top
  by_cases hn : n ≤ 0
  · exact ⟨_, by rw [if_pos (by simpa using hn)]⟩
  · rw [if_neg (by simpa using hn)]
    exact key n.toNat n ⟨#[]⟩ NN h0 (by omega) (by rw [show (⟨#[]⟩ : ByteArray).size = 0 from rfl]; omega) (NN_lt (by omega))
end Go.Pl

namespace Go.Pl
open Go.Ev
set_option linter.unusedVariables false
set_option linter.unusedSimpArgs false
theorem laws_markLineS_ok (a : List (ByteArray × Int)) (ha : Lm OkLine a) (n : Int) (h0 : 0 ≤ n) (h1 : n ≤ 1000000000000) : ∃ n' a', laws_markLineS.f a n = some (n', a') ∧ laws_heldLineS.f a' n = some n' ∧ n ≤ n' ∧ n' ≤ n + 2000000 := by
  have := mark_held (Q := OkLine) (fun k a n i => laws_markLineS.l2 NN k n i a) (fun k a n i => laws_heldLineS.l2 NN k a n i) 2 2000000000000 ?_ ?_ ?_ a ha n h0 (by omega) NN NN (NN_lt (by omega)) (NN_lt (by omega))
  · obtain ⟨n1, a1, e1, e2, e3, e4⟩ := this
    exact ⟨n1, a1, e1, e2, e3, by omega⟩
  · intro k p n
    show laws_markLineS.g2 (laws_markLineS.l2 NN k) n p.length p = _
    unfold laws_markLineS.g2
    simp
  · intro k p n
    show laws_heldLineS.g2 (laws_heldLineS.l2 NN k) p n p.length = _
    unfold laws_heldLineS.g2
    simp
  · intro x hx n n0 n1
    obtain ⟨t0, ht0⟩ := markText_some n (by omega) (by omega)
    have wk : ∀ i : Int, 0 ≤ i → i ≤ 3000000000000 → IntKind.i64.wrap i = i := fun i h h2 => w64 (by omega) (by omega)
    refine ⟨(t0, (n + 1)), ((n + 1) + 1), by omega, by omega, fun k p r hb => ?_, fun k p r hb => ?_⟩
    · show laws_markLineS.g2 (laws_markLineS.l2 NN k) n p.length (p ++ x :: r) = _
      unfold laws_markLineS.g2
      have c1 : ∀ y, (p.length : Int) < ((p ++ y :: r).length : Int) := fun y => by have := mid_len p r y; omega
      have c0 : (0 : Int) ≤ (p.length : Int) := by omega
      have cw := w64 (n := (p.length : Int) + 1) (by omega) (by omega)
      have q0 := wk (n + 1) (by omega) (by omega)
      have q1 := wk ((n + 1) + 1) (by omega) (by omega)
      have u0 := wk n (by omega) (by omega)
      have u1 := wk (n + 1) (by omega) (by omega)
      simp only [c0, c1, and_self, decide_true, if_true, mid_get, mid_set, cw, Option.bind_some, bne_self_eq_false, beq_self_eq_true, Bool.not_true, Bool.false_eq_true, if_false, ht0, q0, q1, u0]
    · show laws_heldLineS.g2 (laws_heldLineS.l2 NN k) (p ++ (t0, (n + 1)) :: r) n p.length = _
      unfold laws_heldLineS.g2
      have c1 : ∀ y, (p.length : Int) < ((p ++ y :: r).length : Int) := fun y => by have := mid_len p r y; omega
      have c0 : (0 : Int) ≤ (p.length : Int) := by omega
      have cw := w64 (n := (p.length : Int) + 1) (by omega) (by omega)
      have q0 := wk (n + 1) (by omega) (by omega)
      have q1 := wk ((n + 1) + 1) (by omega) (by omega)
      have u0 := wk n (by omega) (by omega)
      have u1 := wk (n + 1) (by omega) (by omega)
      simp only [c0, c1, and_self, decide_true, if_true, mid_get, mid_set, cw, Option.bind_some, bne_self_eq_false, beq_self_eq_true, Bool.not_true, Bool.false_eq_true, if_false, ht0, q0, q1, u0]
end Go.Pl

namespace Go.Pl
open Go.Ev
set_option linter.unusedVariables false
set_option linter.unusedSimpArgs false
theorem laws_markPaper_ok (a : ByteArray × Int × (List (ByteArray × Int))) (ha : OkPaper a) (n : Int) (h0 : 0 ≤ n) (h1 : n ≤ 900000000000) : ∃ (n' : Int) (a0 : List (ByteArray × Int)), laws_markPaper.f a n = some (n', (a.1, a.2.1, a0)) ∧ laws_heldPaper.f (a.1, a.2.1, a0) n = some n' ∧ n ≤ n' ∧ n' ≤ n + 2000000 := by
  obtain ⟨n0, a0, x0, y0, z0, w0⟩ := laws_markLineS_ok a.2.2 ha.2.2 n (by omega) (by omega)
  refine ⟨n0, a0, ?_, ?_, by omega, by omega⟩
  · unfold laws_markPaper.f laws_markPaper.fn laws_markPaper.top
    simp only [x0, Option.bind_some]
  · unfold laws_heldPaper.f laws_heldPaper.fn laws_heldPaper.top
    simp only [y0, Option.bind_some, decide_eq_true_eq]
    rw [if_neg (show ¬ n0 < 0 by omega)]
end Go.Pl

namespace Go.Pl
open Go.Ev
set_option linter.unusedVariables false
set_option linter.unusedSimpArgs false
theorem laws_szLine_ok (a : ByteArray × Int) (left : Int) (h0 : -1000000000000000 ≤ left) (h1 : left ≤ 1000000) (ha : PlLine a) : ∃ s, laws_szLine.f a left = some s ∧ s ≤ 1000000 ∧ (0 ≤ s → s ≤ left ∧ OkLine a) := by
  unfold laws_szLine.f laws_szLine.fn laws_szLine.top
  have hz1 : a.1.size ≤ 140737488355328 := ha.1
  have hw1 := w64 (n := left - (a.1.size : Int)) (by omega) (by omega)
  simp only [hw1]
  by_cases hn1 : left - (a.1.size : Int) < 0
  · exact ⟨-1, by simp [hn1], by omega, by omega⟩
  simp only [hn1, decide_false, Bool.false_eq_true, if_false]
  exact ⟨_, rfl, by omega, fun h => ⟨by omega, (by unfold Sm; omega), ha.2⟩⟩
end Go.Pl

namespace Go.Pl
open Go.Ev
set_option linter.unusedVariables false
set_option linter.unusedSimpArgs false
theorem laws_szLineS_ok (a : List (ByteArray × Int)) (left : Int) (h0 : -1000000000000000 ≤ left) (h1 : left ≤ 1000000) (ha : Ls PlLine a) : ∃ s, laws_szLineS.f a left = some s ∧ s ≤ 1000000 ∧ (0 ≤ s → s ≤ left ∧ Lm OkLine a) := by
  unfold laws_szLineS.f laws_szLineS.fn laws_szLineS.top
  have hl : a.length ≤ 140737488355328 := ha.1
  have hw := w64 (n := left - (a.length : Int)) (by omega) (by omega)
  simp only [hw]
  by_cases hn : left - (a.length : Int) < 0
  · exact ⟨-1, by simp [hn], by omega, by omega⟩
  · simp only [hn, decide_false, Bool.false_eq_true, if_false]
    have := szS_loop (Q := PlLine) (R := OkLine) (fun k a left i => laws_szLineS.l5 NN k a left i) ?_ ?_ a NN (left - (a.length : Int)) (by omega) (by omega) ha (NN_lt (by omega))
    · obtain ⟨s, s1, s2, s3⟩ := this
      exact ⟨s, s1, by omega, fun h => ⟨by have := (s3 h).1; omega, by omega, (s3 h).2⟩⟩
    · intro k p left
      show laws_szLineS.g5 (laws_szLineS.l5 NN k) p left p.length = _
      unfold laws_szLineS.g5
      simp
    · intro x hx left l0 l1
      obtain ⟨s, s1, s2, s3⟩ := laws_szLine_ok x left l0 l1 hx
      refine ⟨s, s2, s3, fun k p r hb => ?_⟩
      show laws_szLineS.g5 (laws_szLineS.l5 NN k) (p ++ x :: r) left p.length = _
      unfold laws_szLineS.g5
      have hl := mid_len p r x
      have c1 : (p.length : Int) < ((p ++ x :: r).length : Int) := by omega
      have c0 : (0 : Int) ≤ (p.length : Int) := by omega
      have cw := w64 (n := (p.length : Int) + 1) (by omega) (by omega)
      simp only [c0, c1, and_self, decide_true, if_true, mid_get, s1, Option.bind_some, cw, decide_eq_true_eq]
end Go.Pl

namespace Go.Pl
open Go.Ev
set_option linter.unusedVariables false
set_option linter.unusedSimpArgs false
theorem laws_szPaper_ok (a : ByteArray × Int × (List (ByteArray × Int))) (left : Int) (h0 : -1000000000000000 ≤ left) (h1 : left ≤ 1000000) (ha : PlPaper a) : ∃ s, laws_szPaper.f a left = some s ∧ s ≤ 1000000 ∧ (0 ≤ s → s ≤ left ∧ OkPaper a) := by
  unfold laws_szPaper.f laws_szPaper.fn laws_szPaper.top
  have hz1 : a.1.size ≤ 140737488355328 := ha.1
  have hw1 := w64 (n := left - (a.1.size : Int)) (by omega) (by omega)
  simp only [hw1]
  by_cases hn1 : left - (a.1.size : Int) < 0
  · exact ⟨-1, by simp [hn1], by omega, by omega⟩
  simp only [hn1, decide_false, Bool.false_eq_true, if_false]
  obtain ⟨s2, e2, l2, k2⟩ := laws_szLineS_ok a.2.2 (left - (a.1.size : Int)) (by omega) (by omega) ha.2.2
  simp only [e2, Option.bind_some, decide_eq_true_eq]
  by_cases hn2 : s2 < 0
  · exact ⟨-1, by simp [hn2], by omega, by omega⟩
  simp only [hn2, if_false]
  exact ⟨_, rfl, by omega, fun h => ⟨by have t2 := (k2 (by omega)).1; omega, (by unfold Sm; omega), ha.2.1, (k2 (by omega)).2⟩⟩
end Go.Pl

namespace Go.Pl
open Go.Ev
set_option linter.unusedVariables false
set_option linter.unusedSimpArgs false
theorem roomBehind_le (n : Int) (h0 : 0 ≤ n) : ∃ r, laws_roomBehind.f n = some r ∧ 0 ≤ r ∧ (r ≤ n ∨ r = 1) := by
  unfold laws_roomBehind.f laws_roomBehind.fn laws_roomBehind.top
  split
  · exact ⟨0, rfl, by omega, by omega⟩
  · split
    · exact ⟨1, rfl, by omega, .inr rfl⟩
    · exact ⟨n, rfl, h0, .inl (by omega)⟩
theorem roomv1 : room 1 = 140737488355328 := by decide
theorem roomv8 : room 8 = 17592186044416 := by decide
theorem roomv16 : room 16 = 8796093022208 := by decide
theorem roomv24 : room 24 = 5864062014805 := by decide
theorem roomv32 : room 32 = 4398046511104 := by decide
theorem roomv40 : room 40 = 3518437208883 := by decide
theorem roomv48 : room 48 = 2932031007402 := by decide
theorem roomv56 : room 56 = 2513169434916 := by decide
theorem roomv64 : room 64 = 2199023255552 := by decide
theorem roomv72 : room 72 = 1954687338268 := by decide
theorem roomv80 : room 80 = 1759218604441 := by decide
theorem roomv88 : room 88 = 1599289640401 := by decide
theorem roomv96 : room 96 = 1466015503701 := by decide
theorem roomv104 : room 104 = 1353245080339 := by decide
theorem roomv112 : room 112 = 1256584717458 := by decide
theorem roomv120 : room 120 = 1172812402961 := by decide
theorem roomv128 : room 128 = 1099511627776 := by decide
end Go.Pl

namespace Go.Pl
open Go.Ev
set_option linter.unusedVariables false
set_option linter.unusedSimpArgs false
theorem laws_toLine_ok (a : ByteArray × Int) : laws_toLine.f a = some a := rfl
end Go.Pl

namespace Go.Pl
open Go.Ev
set_option linter.unusedVariables false
set_option linter.unusedSimpArgs false
theorem laws_toLineS_ok (a : List (ByteArray × Int)) (ha : Lm OkLine a) (bare : Bool) : ∃ fil, laws_toLineS.f a bare = some (a, fil) ∧ (bare = false → laws_roomBehind.f a.length = some (fil.length : Int)) ∧ fil.length ≤ 1000001 ∧ ∀ x ∈ fil, (fun _ => True) x := by
  have hl : a.length ≤ 1000000 := ha.1
  obtain ⟨r, h1, h2, h3⟩ := roomBehind_le a.length (by omega)
  have hw := w64 (n := (a.length : Int) + r) (by omega) (by omega)
  have c1 : (0 : Int) ≤ a.length + r ∧ (a.length : Int) + r < (room 24 : Nat) ∧ (a.length : Int) + r = a.length + r := by rw [roomv24]; omega
  have key : ∃ fil, laws_toLineS.l5 NN NN a 0 (List.replicate ((a.length : Int) + r).toNat (ByteArray.empty, 0)) = some (a, fil) ∧ fil.length = ((a.length : Int) + r).toNat - a.length ∧ ∀ x ∈ fil, (fun _ => True) x := by
    have := toS_loop (Z := fun _ => True) (R := OkLine) (fun k a i out => laws_toLineS.l5 NN k a i out) (fun k a i out => laws_toLineS.l9 NN k a i out) ?_ ?_ ?_ ?_ a (List.replicate ((a.length : Int) + r).toNat (ByteArray.empty, 0)) NN ha.2 (by rw [List.length_replicate]; omega) (by rw [List.length_replicate]; omega) (NN_lt (by omega))
    · simpa using this
    · intro k a out h
      show laws_toLineS.g9 (laws_toLineS.l9 NN k) a out.length out = _
      unfold laws_toLineS.g9
      have c2 : (0 : Int) ≤ (a.length : Int) := by omega
      simp [h]
    · intro k a i out hi hb
      have d1 : (i : Int) < (out.length : Int) := by omega
      have d0 : (0 : Int) ≤ (i : Int) := by omega
      have dw := w64 (n := (i : Int) + 1) (by omega) (by omega)
      have e : laws_toLineS.g9 (laws_toLineS.l9 NN k) a i out = laws_toLineS.l9 NN k a ((i : Int) + 1) (out.set i ((⟨#[126, 115, 112, 97, 114, 101, 126]⟩ : ByteArray), (-7000000000000000101))) := by
        unfold laws_toLineS.g9
        simp only [d0, d1, and_self, decide_true, if_true, dw, Int.toNat_natCast, laws_fillerLine.f, laws_fillerLine.fn, laws_fillerLine.top, Option.bind_some]
      exact ⟨_, trivial, e⟩
    · intro k a out
      show laws_toLineS.g5 (laws_toLineS.l9 NN NN) (laws_toLineS.l5 NN k) a a.length out = _
      unfold laws_toLineS.g5
      simp
    · intro k p r x q s y hx hpq hb hb2
      have hm := mid_len p r x
      have hm2 := mid_len q s y
      have d1 : (p.length : Int) < ((p ++ x :: r).length : Int) := by omega
      have d2 : (q.length : Int) < ((q ++ y :: s).length : Int) := by omega
      have d0 : (0 : Int) ≤ (q.length : Int) := by omega
      have dw := w64 (n := (q.length : Int) + 1) (by omega) (by omega)
      have g := mid_get p r x (ByteArray.empty, 0)
      show laws_toLineS.g5 (laws_toLineS.l9 NN NN) (laws_toLineS.l5 NN k) (p ++ x :: r) p.length (q ++ y :: s) = laws_toLineS.l5 NN k (p ++ x :: r) ((p.length : Int) + 1) (q ++ x :: s)
      unfold laws_toLineS.g5
      rw [hpq] at d1 g ⊢
      have e5 := hpq
      simp only [d0, d1, d2, and_self, decide_true, if_true, g, laws_toLine_ok, Option.bind_some, dw, mid_set]
  obtain ⟨fil, k1, k2, k3⟩ := key
  have k4 : (fil.length : Int) = r := by omega
  unfold laws_toLineS.f laws_toLineS.fn laws_toLineS.top
  simp only [h1, Option.bind_some, hw, c1, and_self, if_true]
  by_cases hb : bare = true
  · simp only [hb, if_true]
    by_cases he : a = []
    · subst he
      exact ⟨[], by simp, by simp, by simp, by simp⟩
    · have : ((a.length : Int) == 0) = false := by simpa using he
      simp only [this, Bool.false_eq_true, if_false]
      exact ⟨fil, by first | exact k1 | (rw [hb] at k1; exact k1), by simp, by omega, k3⟩
  · simp only [hb, Bool.false_eq_true, if_false]
    exact ⟨fil, by first | exact k1 | (rw [Bool.not_eq_true] at hb; rw [hb] at k1; exact k1), fun _ => by rw [k4], by omega, k3⟩
theorem laws_intactLineS_self (a fil : List (ByteArray × Int)) (ha : Lm OkLine a) (h1 : laws_roomBehind.f a.length = some (fil.length : Int)) (h2 : fil.length ≤ 1000001) (h3 : ∀ x ∈ fil, (fun _ => True) x) : laws_intactLineS.f (a, fil) (a, fil) = some true := by
  have hl : a.length ≤ 1000000 := ha.1
  unfold laws_intactLineS.f laws_intactLineS.fn laws_intactLineS.top
  have hw := w64 (n := (a.length : Int) + (fil.length : Int)) (by omega) (by omega)
  have c1 : (0 : Int) ≤ a.length + fil.length ∧ (a.length : Int) + fil.length ≤ ((a ++ fil).length : Nat) := by rw [List.length_append]; omega
  simp only [h1, Option.bind_some, hw, beq_self_eq_true, if_true, c1, and_self]
  rw [laws_eqLineS_self _ (by rw [List.length_take, List.length_append]; omega)]
  rfl
theorem laws_toLineS_both (a : List (ByteArray × Int)) (ha : Lm OkLine a) : ∃ f : Bool → List (ByteArray × Int), (∀ bare, laws_toLineS.f a bare = some (a, f bare)) ∧ laws_intactLineS.f (a, f false) (a, f false) = some true := by
  obtain ⟨f1, a1, a2, a3, a4⟩ := laws_toLineS_ok a ha false
  obtain ⟨f2, b1, b2, b3, b4⟩ := laws_toLineS_ok a ha true
  refine ⟨fun bare => if bare = true then f2 else f1, fun bare => ?_, ?_⟩
  · cases bare
    · simpa using a1
    · simpa using b1
  · simpa using laws_intactLineS_self a f1 ha (a2 rfl) a3 a4
end Go.Pl

namespace Go.Pl
open Go.Ev
set_option linter.unusedVariables false
set_option linter.unusedSimpArgs false
theorem laws_toPaper_both (a : ByteArray × Int × (List (ByteArray × Int))) (ha : OkPaper a) : ∃ (f0 : Bool → List (ByteArray × Int)), (∀ bare, laws_toPaper.f a bare = some (a.1, a.2.1, (a.2.2, f0 bare))) ∧ laws_intactPaper.f (a.1, a.2.1, (a.2.2, f0 false)) (a.1, a.2.1, (a.2.2, f0 false)) = some true := by
  obtain ⟨f0, a0, i0⟩ := laws_toLineS_both a.2.2 ha.2.2
  refine ⟨f0, fun bare => ?_, ?_⟩
  · unfold laws_toPaper.f laws_toPaper.fn laws_toPaper.top
    simp only [a0, Option.bind_some]
  · unfold laws_intactPaper.f laws_intactPaper.fn laws_intactPaper.top
    simp [i0]
theorem laws_toPaper_okx (a : ByteArray × Int × (List (ByteArray × Int))) (ha : OkPaper a) (bare : Bool) : ∃ fl, laws_toPaper.f a bare = some (a.1, a.2.1, (a.2.2, fl)) := by
  obtain ⟨fl, h, _⟩ := laws_toLineS_ok a.2.2 ha.2.2 bare
  refine ⟨fl, ?_⟩
  unfold laws_toPaper.f laws_toPaper.fn laws_toPaper.top
  simp only [h, Option.bind_some]
theorem ok_eqPaper (a : ByteArray × Int × (List (ByteArray × Int))) (ha : OkPaper a) : EqPaper a := Nat.le_trans ha.2.2.1 (by omega)
end Go.Pl

namespace Go.Pl
open Go.Ev
set_option linter.unusedVariables false
set_option linter.unusedSimpArgs false
def inB (n lo hi : Int) : Bool := decide (lo ≤ n) && decide (n ≤ hi)
theorem inB_iff {n lo hi : Int} : inB n lo hi = true ↔ lo ≤ n ∧ n ≤ hi := by unfold inB; simp
theorem impl_within_f (n lo hi : Int) : impl_within.f n lo hi = some (inB n lo hi) := by
  unfold impl_within.f impl_within.fn impl_within.top inB
  by_cases h : lo ≤ n <;> simp [h]
theorem spec_l01In_f (n lo hi : Int) : spec_l01In.f n lo hi = some (inB n lo hi) := by
  unfold spec_l01In.f spec_l01In.fn spec_l01In.top inB
  by_cases h : lo ≤ n <;> simp [h]
/-- a letter -/
def letB (c : UInt8) : Bool := !(decide ((c.toNat : Int) < 97)) && !(decide (122 < (c.toNat : Int)))
def wordB (s : ByteArray) : Bool := decide (1 ≤ s.size) && decide (s.size ≤ 16) && (bl s).all letB
theorem wordB_size {s : ByteArray} (h : wordB s = true) : 1 ≤ s.size ∧ s.size ≤ 16 := by
  unfold wordB at h; simp at h; exact h.1
theorem impl_IsWord_loop (s : ByteArray) (h : s.size ≤ 140737488355328) : impl_IsWord.l4 NN NN s 0 = if (bl s).all letB = true then some true else some false := by
  refine all_loop_str letB (fun s => some true) (fun k s i => impl_IsWord.l4 NN k s i) ?_ ?_ s h NN (NN_lt (by omega))
  · intro k p
    show impl_IsWord.g4 _ (ob p) p.length = _
    simp [impl_IsWord.g4, ob_size, spec_l01In_f]
  · intro k p a r c0 c1 cw
    show impl_IsWord.g4 (impl_IsWord.l4 NN k) (ob (p ++ a :: r)) p.length = _
    simp only [impl_IsWord.g4, c0, c1, cw, and_self, and_true, true_and, decide_true, decide_false, if_true, if_false, mid_get, mid_set, mid_getn, mid_setn, bt_mid, Option.bind_some, Bool.not_true, Bool.not_false, Bool.false_eq_true, Bool.true_eq_false, beq_self_eq_true, bne_self_eq_false, Int.toNat_natCast]
    unfold letB
    by_cases h1 : (a.toNat : Int) < 97 <;> by_cases h2 : (122 : Int) < (a.toNat : Int) <;> simp [h1, h2]
theorem spec_IsWord_loop (s : ByteArray) (h : s.size ≤ 140737488355328) : spec_IsWord.l2 NN NN s 0 = if (bl s).all letB = true then some (inB s.size 1 16) else some false := by
  refine all_loop_str letB (fun s => some (inB s.size 1 16)) (fun k s i => spec_IsWord.l2 NN k s i) ?_ ?_ s h NN (NN_lt (by omega))
  · intro k p
    show spec_IsWord.g2 _ (ob p) p.length = _
    simp [spec_IsWord.g2, ob_size, spec_l01In_f]
  · intro k p a r c0 c1 cw
    show spec_IsWord.g2 (spec_IsWord.l2 NN k) (ob (p ++ a :: r)) p.length = _
    simp only [spec_IsWord.g2, c0, c1, cw, and_self, and_true, true_and, decide_true, decide_false, if_true, if_false, mid_get, mid_set, mid_getn, mid_setn, bt_mid, Option.bind_some, Bool.not_true, Bool.not_false, Bool.false_eq_true, Bool.true_eq_false, beq_self_eq_true, bne_self_eq_false, Int.toNat_natCast]
    unfold letB
    by_cases h1 : (a.toNat : Int) < 97 <;> by_cases h2 : (122 : Int) < (a.toNat : Int) <;> simp [h1, h2]
theorem impl_IsWord_f (s : ByteArray) (h : s.size ≤ 140737488355328) : impl_IsWord.f s = some (wordB s) := by
  unfold impl_IsWord.f impl_IsWord.fn impl_IsWord.top
  rw [impl_IsWord_loop s h]
  unfold wordB
  by_cases h1 : (s.size : Int) < 1
  · have : ¬ 1 ≤ s.size := by omega
    simp [h1, this]
  · have e1 : 1 ≤ s.size := by omega
    by_cases h2 : (16 : Int) < s.size
    · have : ¬ s.size ≤ 16 := by omega
      simp [h1, h2, this]
    · have : s.size ≤ 16 := by omega
      cases h3 : (bl s).all letB <;> simp [h1, h2, this, h3, e1]
theorem spec_IsWord_f (s : ByteArray) (h : s.size ≤ 140737488355328) : spec_IsWord.f s = some (wordB s) := by
  unfold spec_IsWord.f spec_IsWord.fn spec_IsWord.top
  rw [spec_IsWord_loop s h]
  unfold wordB inB
  have e1 : decide ((1 : Int) ≤ s.size) = decide (1 ≤ s.size) := by congr 1; simp; omega
  have e2 : decide ((s.size : Int) ≤ 16) = decide (s.size ≤ 16) := by congr 1; simp; omega
  rw [e1, e2]
  cases h3 : (bl s).all letB <;> simp
end Go.Pl

namespace Go.Pl
open Go.Ev
set_option linter.unusedVariables false
noncomputable section
def impl_isCalibre.top (n0 : Int) : Option Bool :=
  (impl_within.f n0 20 300).bind fun r1 =>
  some r1
def impl_isCalibre.fn (n : Nat) (n0 : Int) : Option Bool := impl_isCalibre.top n0
def impl_isCalibre.f (n0 : Int) : Option Bool := impl_isCalibre.fn NN n0
end
end Go.Pl

namespace Go.Pl
open Go.Ev
set_option linter.unusedVariables false
noncomputable section
def impl_allWithin.g2 (L2 : Int → Int → List Int → Int → Int → Option Bool) (low1 : Int) (high2 : Int) (v9 : List Int) (v10 : Int) (v11 : Int) : Option Bool :=
  if (decide ((v11 : Int) < v10)) = true then
    if (0 : Int) ≤ v11 ∧ (v11 : Int) < v9.length then
      (impl_within.f (v9.getD (v11 : Int).toNat 0) low1 high2).bind fun r1 =>
      if (!r1) = true then
        some false
      else
        L2 low1 high2 v9 v10 (IntKind.i64.wrap (v11 + 1))
    else
      none
  else
    some true
def impl_allWithin.l2 (n : Nat) : Nat → Int → Int → List Int → Int → Int → Option Bool
  | 0 => fun _ _ _ _ _ => none
  | k + 1 => impl_allWithin.g2 (impl_allWithin.l2 n k)
def impl_allWithin.top (I2 : Int → Int → List Int → Int → Int → Option Bool) (list0 : List Int) (low1 : Int) (high2 : Int) : Option Bool :=
  I2 low1 high2 list0 (list0.length : Int) 0
def impl_allWithin.fn (n : Nat) (list0 : List Int) (low1 : Int) (high2 : Int) : Option Bool := impl_allWithin.top (impl_allWithin.l2 n n) list0 low1 high2
def impl_allWithin.f (list0 : List Int) (low1 : Int) (high2 : Int) : Option Bool := impl_allWithin.fn NN list0 low1 high2
end
end Go.Pl

namespace Go.Pl
open Go.Ev
set_option linter.unusedVariables false
noncomputable section
def impl_IsPermit.g4 (L4 : Int → (Int × Int × Int × Int × List Int × Int) → Option Bool) (i3 : Int) (p1 : Int × Int × Int × Int × List Int × Int) : Option Bool :=
  if (decide ((i3 : Int) < (p1.2.2.2.2.1.length : Int))) = true then
    if (0 : Int) ≤ (IntKind.i64.wrap (i3 - 1)) ∧ ((IntKind.i64.wrap (i3 - 1)) : Int) < p1.2.2.2.2.1.length then
      if (0 : Int) ≤ i3 ∧ (i3 : Int) < p1.2.2.2.2.1.length then
        if (decide (((p1.2.2.2.2.1.getD (i3 : Int).toNat 0) : Int) ≤ (p1.2.2.2.2.1.getD ((IntKind.i64.wrap (i3 - 1)) : Int).toNat 0))) = true then
          some false
        else
          L4 (IntKind.i64.wrap (i3 + 1)) p1
      else
        none
    else
      none
  else
    some true
def impl_IsPermit.l4 (n : Nat) : Nat → Int → (Int × Int × Int × Int × List Int × Int) → Option Bool
  | 0 => fun _ _ => none
  | k + 1 => impl_IsPermit.g4 (impl_IsPermit.l4 n k)
def impl_IsPermit.top (I4 : Int → (Int × Int × Int × Int × List Int × Int) → Option Bool) (p0 : Int × Int × Int × Int × List Int × Int) : Option Bool :=
  (impl_isDay.f p0.1).bind fun r1 =>
  if (!r1) = false then
    (impl_isDay.f p0.2.1).bind fun r2 =>
    if (!r2) = false then
      if (decide ((p0.2.1 : Int) < p0.1)) = false then
        (impl_within.f p0.2.2.1 0 1000000000).bind fun r3 =>
        if (!r3) = false then
          (impl_isCalibre.f p0.2.2.2.1).bind fun r4 =>
          if (!r4) = false then
            (impl_within.f p0.2.2.2.2.2 0 3).bind fun r5 =>
            if (!r5) = false then
              (impl_allWithin.f p0.2.2.2.2.1 0 3).bind fun r6 =>
              if (!r6) = true then
                some false
              else
                I4 1 p0
            else
              some false
          else
            some false
        else
          some false
      else
        some false
    else
      some false
  else
    some false
def impl_IsPermit.fn (n : Nat) (p0 : Int × Int × Int × Int × List Int × Int) : Option Bool := impl_IsPermit.top (impl_IsPermit.l4 n n) p0
def impl_IsPermit.f (p0 : Int × Int × Int × Int × List Int × Int) : Option Bool := impl_IsPermit.fn NN p0
end
end Go.Pl

namespace Go.Pl
open Go.Ev
set_option linter.unusedVariables false
noncomputable section
def spec_l01Rises.g2 (L2 : List Int → Int → Int → Option Bool) (list0 : List Int) (n1 : Int) (i5 : Int) : Option Bool :=
  if (decide ((i5 : Int) < (list0.length : Int))) = true then
    if (0 : Int) ≤ i5 ∧ (i5 : Int) < list0.length then
      (spec_l01In.f (list0.getD (i5 : Int).toNat 0) 0 (IntKind.i64.wrap (n1 - 1))).bind fun r1 =>
      if (!r1) = false then
        if (decide ((0 : Int) < i5)) = true then
          if (0 : Int) ≤ i5 ∧ (i5 : Int) < list0.length then
            if (0 : Int) ≤ (IntKind.i64.wrap (i5 - 1)) ∧ ((IntKind.i64.wrap (i5 - 1)) : Int) < list0.length then
              if (decide (((list0.getD (i5 : Int).toNat 0) : Int) ≤ (list0.getD ((IntKind.i64.wrap (i5 - 1)) : Int).toNat 0))) = true then
                some false
              else
                L2 list0 n1 (IntKind.i64.wrap (i5 + 1))
            else
              none
          else
            none
        else
          L2 list0 n1 (IntKind.i64.wrap (i5 + 1))
      else
        some false
    else
      none
  else
    some true
def spec_l01Rises.l2 (n : Nat) : Nat → List Int → Int → Int → Option Bool
  | 0 => fun _ _ _ => none
  | k + 1 => spec_l01Rises.g2 (spec_l01Rises.l2 n k)
def spec_l01Rises.top (I2 : List Int → Int → Int → Option Bool) (list0 : List Int) (n1 : Int) : Option Bool :=
  I2 list0 n1 0
def spec_l01Rises.fn (n : Nat) (list0 : List Int) (n1 : Int) : Option Bool := spec_l01Rises.top (spec_l01Rises.l2 n n) list0 n1
def spec_l01Rises.f (list0 : List Int) (n1 : Int) : Option Bool := spec_l01Rises.fn NN list0 n1
end
end Go.Pl

namespace Go.Pl
open Go.Ev
set_option linter.unusedVariables false
noncomputable section
def spec_IsPermit.top (p0 : Int × Int × Int × Int × List Int × Int) : Option Bool :=
  (spec_l01In.f p0.1 0 100000).bind fun r1 =>
  if r1 = true then
    (spec_l01In.f p0.2.1 p0.1 100000).bind fun r2 =>
    if r2 = true then
      (spec_l01In.f p0.2.2.1 0 1000000000).bind fun r3 =>
      if r3 = true then
        (spec_l01In.f p0.2.2.2.1 20 300).bind fun r4 =>
        if r4 = true then
          (spec_l01Rises.f p0.2.2.2.2.1 4).bind fun r5 =>
          if r5 = true then
            (spec_l01In.f p0.2.2.2.2.2 0 3).bind fun r6 =>
            some r6
          else
            some false
        else
          some false
      else
        some false
    else
      some false
  else
    some false
def spec_IsPermit.fn (n : Nat) (p0 : Int × Int × Int × Int × List Int × Int) : Option Bool := spec_IsPermit.top p0
def spec_IsPermit.f (p0 : Int × Int × Int × Int × List Int × Int) : Option Bool := spec_IsPermit.fn NN p0
end
end Go.Pl

namespace Go.Pl
open Go.Ev
set_option linter.unusedVariables false
set_option linter.unusedSimpArgs false
theorem impl_isDay_f (n : Int) : impl_isDay.f n = some (inB n 0 100000) := by
  unfold impl_isDay.f impl_isDay.fn impl_isDay.top
  rw [impl_within_f]; rfl
theorem impl_isCalibre_f (n : Int) : impl_isCalibre.f n = some (inB n 20 300) := by
  unfold impl_isCalibre.f impl_isCalibre.fn impl_isCalibre.top
  rw [impl_within_f]; rfl
theorem impl_allWithin_f (xs : List Int) (lo hi : Int) (h : xs.length ≤ 140737488355328) : impl_allWithin.f xs lo hi = some (xs.all (inB · lo hi)) := by
  have := all_loop (E := fun _ => True) (inB · lo hi) (fun _ => some true) (fun k xs i => impl_allWithin.l2 NN k lo hi xs xs.length i) ?_ ?_ xs (fun _ _ => trivial) h NN (NN_lt (by omega))
  · unfold impl_allWithin.f impl_allWithin.fn impl_allWithin.top
    refine this.trans ?_
    cases xs.all (inB · lo hi) <;> simp
  · intro k p
    simp [impl_allWithin.l2, impl_allWithin.g2]
  · intro k p a r _ c0 c1 cw
    simp only [impl_allWithin.l2, impl_allWithin.g2, c0, c1, cw, and_self, and_true, true_and, decide_true, decide_false, if_true, if_false, mid_get, mid_set, mid_getn, mid_setn, bt_mid, Option.bind_some, Bool.not_true, Bool.not_false, Bool.false_eq_true, Bool.true_eq_false, beq_self_eq_true, bne_self_eq_false, Int.toNat_natCast, impl_within_f]
    cases inB a lo hi <;> simp
/-- strictly rising -/
def risB : List Int → Bool
  | [] => true
  | [_] => true
  | a :: b :: r => decide (a < b) && risB (b :: r)
theorem risB_snoc : ∀ (p : List Int) (a b : Int), risB (p ++ [a, b]) = (risB (p ++ [a]) && decide (a < b)) := by
  intro p
  induction p with
  | nil => intro a b; simp [risB]
  | cons x p ih =>
    intro a b
    cases p with
    | nil => simp [risB]
    | cons y p =>
      have := ih a b
      simp only [List.cons_append] at this ⊢
      simp only [risB, this, Bool.and_assoc]
/-- rises, looked at from its second element on -/
def risF : Int → List Int → Bool
  | _, [] => true
  | a, b :: r => decide (a < b) && risF b r
theorem risB_cons (a : Int) (r : List Int) : risB (a :: r) = risF a r := by
  induction r generalizing a with
  | nil => rfl
  | cons b r ih => simp only [risB, risF, ih]
theorem snoc_getl (p r : List Int) (x a z : Int) : (p ++ [x] ++ a :: r).getD p.length z = x := by simp
theorem impl_IsPermit_loop (f t n c g : Int) : ∀ (r p : List Int) (x : Int) (k : Nat), p.length + r.length + 1 ≤ 140737488355328 → r.length < k →
    impl_IsPermit.l4 NN k ((p.length : Int) + 1) (f, t, n, c, p ++ [x] ++ r, g) = some (risF x r) := by
  intro r
  induction r with
  | nil =>
    intro p x k _ hk
    obtain ⟨k, rfl⟩ : ∃ j, k = j + 1 := ⟨k - 1, by omega⟩
    simp [impl_IsPermit.l4, impl_IsPermit.g4, risF]
  | cons a r ih =>
    intro p x k hb hk
    simp only [List.length_cons] at hb hk
    obtain ⟨k, rfl⟩ : ∃ j, k = j + 1 := ⟨k - 1, by omega⟩
    have hl : ((p ++ [x] ++ a :: r).length : Int) = p.length + r.length + 2 := by simp; omega
    have w1 := w64 (n := (p.length : Int) + 1 - 1) (by omega) (by omega)
    have w2 := w64 (n := (p.length : Int) + 1 + 1) (by omega) (by omega)
    have c1 : (p.length : Int) + 1 < ((p ++ [x] ++ a :: r).length : Int) := by omega
    have c2 : (0 : Int) ≤ (p.length : Int) + 1 - 1 := by omega
    have c3 : (p.length : Int) + 1 - 1 < ((p ++ [x] ++ a :: r).length : Int) := by omega
    have c4 : (0 : Int) ≤ (p.length : Int) + 1 := by omega
    have g1 : (p ++ [x] ++ a :: r).getD ((p.length : Int) + 1).toNat 0 = a := by
      rw [show ((p.length : Int) + 1).toNat = (p ++ [x]).length by simp, mid_getn]
    have g2 : (p ++ [x] ++ a :: r).getD ((p.length : Int) + 1 - 1).toNat 0 = x := by
      rw [show ((p.length : Int) + 1 - 1).toNat = p.length by omega, snoc_getl]
    simp only [impl_IsPermit.l4, impl_IsPermit.g4, w1, w2, c1, c2, c3, c4, g1, g2, and_self, decide_true, if_true, decide_eq_true_eq, risF]
    have := ih (p ++ [x]) a k (by simp; omega) (by omega)
    by_cases h : a ≤ x
    · have h' : ¬ x < a := by omega
      simp [h, h']
    · have h' : x < a := by omega
      simp only [h, h', if_false, decide_true, Bool.true_and]
      rw [← this]
      simp
theorem spec_l01Rises_loop (n : Int) (hn : Rg .i64 (n - 1)) : ∀ (r p : List Int) (x : Int) (k : Nat), p.length + r.length + 1 ≤ 140737488355328 → r.length < k →
    spec_l01Rises.l2 NN k (p ++ [x] ++ r) n ((p.length : Int) + 1) = some (r.all (inB · 0 (n - 1)) && risF x r) := by
  intro r
  induction r with
  | nil =>
    intro p x k _ hk
    obtain ⟨k, rfl⟩ : ∃ j, k = j + 1 := ⟨k - 1, by omega⟩
    simp [spec_l01Rises.l2, spec_l01Rises.g2, risF]
  | cons a r ih =>
    intro p x k hb hk
    simp only [List.length_cons] at hb hk
    obtain ⟨k, rfl⟩ : ∃ j, k = j + 1 := ⟨k - 1, by omega⟩
    have hl : ((p ++ [x] ++ a :: r).length : Int) = p.length + r.length + 2 := by simp; omega
    have w1 := w64 (n := (p.length : Int) + 1 - 1) (by omega) (by omega)
    have w2 := w64 (n := (p.length : Int) + 1 + 1) (by omega) (by omega)
    have hn' := wf64.1 hn
    have w3 := w64 (n := n - 1) (by omega) (by omega)
    have c1 : (p.length : Int) + 1 < ((p ++ [x] ++ a :: r).length : Int) := by omega
    have c2 : (0 : Int) ≤ (p.length : Int) + 1 - 1 := by omega
    have c3 : (p.length : Int) + 1 - 1 < ((p ++ [x] ++ a :: r).length : Int) := by omega
    have c4 : (0 : Int) ≤ (p.length : Int) + 1 := by omega
    have c5 : (0 : Int) < (p.length : Int) + 1 := by omega
    have g1 : (p ++ [x] ++ a :: r).getD ((p.length : Int) + 1).toNat 0 = a := by
      rw [show ((p.length : Int) + 1).toNat = (p ++ [x]).length by simp, mid_getn]
    have g2 : (p ++ [x] ++ a :: r).getD ((p.length : Int) + 1 - 1).toNat 0 = x := by
      rw [show ((p.length : Int) + 1 - 1).toNat = p.length by omega, snoc_getl]
    simp only [spec_l01Rises.l2, spec_l01Rises.g2, w1, w2, w3, c1, c2, c3, c4, c5, g1, g2, and_self, decide_true, if_true, decide_eq_true_eq, risF, spec_l01In_f, Option.bind_some, List.all_cons]
    have := ih (p ++ [x]) a k (by simp; omega) (by omega)
    cases h0 : inB a 0 (n - 1)
    · simp
    by_cases h : a ≤ x
    · have h' : ¬ x < a := by omega
      simp [h, h']
    · have h' : x < a := by omega
      simp only [h, h', if_false, decide_true, Bool.true_and, Bool.not_true, if_true]
      rw [← this]
      simp
theorem spec_l01Rises_f (xs : List Int) (n : Int) (hn : Rg .i64 (n - 1)) (h : xs.length ≤ 140737488355328) : spec_l01Rises.f xs n = some (xs.all (inB · 0 (n - 1)) && risB xs) := by
  unfold spec_l01Rises.f spec_l01Rises.fn spec_l01Rises.top
  obtain ⟨k, hk⟩ : ∃ j, NN = j + 1 := ⟨NN - 1, by have := NNb; omega⟩
  have hkb : 1000000000000000 < k := by rw [NN_eq] at hk; omega
  cases xs with
  | nil => rw [show spec_l01Rises.l2 NN NN = spec_l01Rises.l2 NN (k + 1) by rw [← hk]]; simp [spec_l01Rises.l2, spec_l01Rises.g2, risB]
  | cons a r =>
    simp only [List.length_cons] at h
    have hl := spec_l01Rises_loop n hn r [] a k (by simp; omega) (by omega)
    have hn' := wf64.1 hn
    have w3 := w64 (n := n - 1) (by omega) (by omega)
    have w1 := w64 (n := 0 + 1) (by omega) (by omega)
    have c1 : (0 : Int) < ((a :: r).length : Int) := by simp only [List.length_cons]; omega
    rw [show spec_l01Rises.l2 NN NN = spec_l01Rises.l2 NN (k + 1) by rw [← hk]]
    simp only [spec_l01Rises.l2, spec_l01Rises.g2, c1, w1, w3, spec_l01In_f]
    simp at hl
    simp [risB_cons, hl]
    cases inB a 0 (n - 1) <;> simp
def permB (p : Int × Int × Int × Int × List Int × Int) : Bool :=
  inB p.1 0 100000 && inB p.2.1 p.1 100000 && inB p.2.2.1 0 1000000000 && inB p.2.2.2.1 20 300 && (p.2.2.2.2.1.all (inB · 0 3) && risB p.2.2.2.2.1) && inB p.2.2.2.2.2 0 3
theorem spec_IsPermit_f (p : Int × Int × Int × Int × List Int × Int) (h : p.2.2.2.2.1.length ≤ 140737488355328) : spec_IsPermit.f p = some (permB p) := by
  unfold spec_IsPermit.f spec_IsPermit.fn spec_IsPermit.top permB
  simp only [spec_l01In_f, spec_l01Rises_f _ 4 (wf64.2 (by omega)) h, Option.bind_some, show (4 : Int) - 1 = 3 from rfl]
  cases inB p.1 0 100000 <;> cases inB p.2.1 p.1 100000 <;> cases inB p.2.2.1 0 1000000000 <;> cases inB p.2.2.2.1 20 300 <;> cases (p.2.2.2.2.1.all (inB · 0 3)) <;> cases risB p.2.2.2.2.1 <;> cases inB p.2.2.2.2.2 0 3 <;> rfl
theorem impl_IsPermit_f (p : Int × Int × Int × Int × List Int × Int) (h : p.2.2.2.2.1.length ≤ 140737488355328) : impl_IsPermit.f p = some (permB p) := by
  unfold impl_IsPermit.f impl_IsPermit.fn impl_IsPermit.top permB
  obtain ⟨f, t, n, c, ks, g⟩ := p
  simp only at h
  have hl : impl_IsPermit.l4 NN NN 1 (f, t, n, c, ks, g) = some (risB ks) := by
    cases ks with
    | nil =>
      obtain ⟨k, hk⟩ : ∃ j, NN = j + 1 := ⟨NN - 1, by have := NNb; omega⟩
      rw [show impl_IsPermit.l4 NN NN = impl_IsPermit.l4 NN (k + 1) by rw [← hk]]
      simp [impl_IsPermit.l4, impl_IsPermit.g4, risB]
    | cons a r =>
      simp only [List.length_cons] at h
      have := impl_IsPermit_loop f t n c g r [] a NN (by simp; omega) (NN_lt (by omega))
      simp at this
      rw [risB_cons, ← this]
  simp only [impl_isDay_f, impl_isCalibre_f, impl_within_f, impl_allWithin_f _ _ _ h, Option.bind_some, hl]
  have e : (inB f 0 100000 && inB t f 100000) = (inB f 0 100000 && inB t 0 100000 && !decide (t < f)) := by
    unfold inB
    by_cases h1 : 0 ≤ f <;> by_cases h2 : f ≤ 100000 <;> by_cases h3 : t ≤ 100000 <;> by_cases h4 : f ≤ t <;> by_cases h5 : 0 ≤ t <;> simp [h1, h2, h3, h4, h5] <;> omega
  rw [e]
  cases inB f 0 100000 <;> cases inB t 0 100000 <;> cases decide (t < f) <;> cases inB n 0 1000000000 <;> cases inB c 20 300 <;> cases (ks.all (inB · 0 3)) <;> cases inB g 0 3 <;> simp
theorem IsPermit_core (p : Int × Int × Int × Int × List Int × Int) (h : OkPermit p) : ∃ w, spec_IsPermit.f p = some w ∧ impl_IsPermit.f p = some w ∧ True :=
  have h1 : p.2.2.2.2.1.length ≤ 140737488355328 := Nat.le_trans h.2.2.2.2.1.1 (by omega)
  ⟨_, spec_IsPermit_f p h1, impl_IsPermit_f p h1, trivial⟩
end Go.Pl

namespace Go.Pl
open Go.Ev
set_option linter.unusedVariables false
noncomputable section
def spec_l29Find.g2 (L2 : ByteArray → Int → (ByteArray × Int × List (ByteArray × Int)) → Option Int) (article1 : ByteArray) (i5 : Int) (p2 : ByteArray × Int × List (ByteArray × Int)) : Option Int :=
  if (decide ((i5 : Int) < (p2.2.2.length : Int))) = true then
    if (0 : Int) ≤ i5 ∧ (i5 : Int) < p2.2.2.length then
      if (((p2.2.2.getD (i5 : Int).toNat (ByteArray.empty, 0)).1).toList == article1.toList) = true then
        some i5
      else
        L2 article1 (IntKind.i64.wrap (i5 + 1)) p2
    else
      none
  else
    some (-1)
def spec_l29Find.l2 (n : Nat) : Nat → ByteArray → Int → (ByteArray × Int × List (ByteArray × Int)) → Option Int
  | 0 => fun _ _ _ => none
  | k + 1 => spec_l29Find.g2 (spec_l29Find.l2 n k)
def spec_l29Find.top (I2 : ByteArray → Int → (ByteArray × Int × List (ByteArray × Int)) → Option Int) (p0 : ByteArray × Int × List (ByteArray × Int)) (article1 : ByteArray) : Option Int :=
  I2 article1 0 p0
def spec_l29Find.fn (n : Nat) (p0 : ByteArray × Int × List (ByteArray × Int)) (article1 : ByteArray) : Option Int := spec_l29Find.top (spec_l29Find.l2 n n) p0 article1
def spec_l29Find.f (p0 : ByteArray × Int × List (ByteArray × Int)) (article1 : ByteArray) : Option Int := spec_l29Find.fn NN p0 article1
end
end Go.Pl

namespace Go.Pl
open Go.Ev
set_option linter.unusedVariables false
set_option linter.unusedSimpArgs false
def ltS (a b : ByteArray) : Bool := Op.bytesLess a.toList b.toList
def lineOk (l : ByteArray × Int) : Bool := wordB l.1 && inB l.2 1 1000
/-- lines behind another one -/
def linesF : ByteArray × Int → List (ByteArray × Int) → Bool
  | _, [] => true
  | x, a :: r => lineOk a && ltS x.1 a.1 && linesF a r
def linesL : List (ByteArray × Int) → Bool
  | [] => true
  | a :: r => lineOk a && linesF a r
def linesB (l : List (ByteArray × Int)) : Bool := decide (l.length ≤ 12) && linesL l
def paperB (p : ByteArray × Int × List (ByteArray × Int)) : Bool := wordB p.1 && inB p.2.1 0 100000 && linesB p.2.2
theorem snoc_getl' {α : Type} (p r : List α) (x a z : α) : (p ++ [x] ++ a :: r).getD p.length z = x := by simp
theorem impl_areLines_l : ∀ (r p : List (ByteArray × Int)) (x : ByteArray × Int) (k : Nat), p.length + r.length + 1 ≤ 1000000 → r.length < k → (∀ l ∈ r, Sz l.1) →
    impl_areLines.l4 NN k (p ++ [x] ++ r) (p ++ [x] ++ r) (p ++ [x] ++ r).length ((p.length : Int) + 1) = some (linesF x r) := by
  intro r
  induction r with
  | nil =>
    intro p x k _ hk _
    obtain ⟨k, rfl⟩ : ∃ j, k = j + 1 := ⟨k - 1, by omega⟩
    simp [impl_areLines.l4, impl_areLines.g4, linesF]
  | cons a r ih =>
    intro p x k hb hk hs
    simp only [List.length_cons] at hb hk
    obtain ⟨k, rfl⟩ : ∃ j, k = j + 1 := ⟨k - 1, by omega⟩
    have hl : ((p ++ [x] ++ a :: r).length : Int) = p.length + r.length + 2 := by simp; omega
    have w1 := w64 (n := (p.length : Int) + 1 - 1) (by omega) (by omega)
    have w2 := w64 (n := (p.length : Int) + 1 + 1) (by omega) (by omega)
    have c1 : (p.length : Int) + 1 < ((p ++ [x] ++ a :: r).length : Int) := by omega
    have c2 : (0 : Int) ≤ (p.length : Int) + 1 - 1 := by omega
    have c3 : (p.length : Int) + 1 - 1 < ((p ++ [x] ++ a :: r).length : Int) := by omega
    have c4 : (0 : Int) ≤ (p.length : Int) + 1 := by omega
    have c5 : (0 : Int) < (p.length : Int) + 1 := by omega
    have g1 : ∀ z, (p ++ [x] ++ a :: r).getD ((p.length : Int) + 1).toNat z = a := fun z => by
      rw [show ((p.length : Int) + 1).toNat = (p ++ [x]).length by simp, mid_getn]
    have g2 : ∀ z, (p ++ [x] ++ a :: r).getD ((p.length : Int) + 1 - 1).toNat z = x := fun z => by
      rw [show ((p.length : Int) + 1 - 1).toNat = p.length by omega, snoc_getl']
    have := ih (p ++ [x]) a k (by simp; omega) (by omega) (fun l h => hs l (by simp [h]))
    simp only [impl_areLines.l4, impl_areLines.g4, w1, w2, c1, c2, c3, c4, c5, g1, g2, and_self, and_true, true_and, decide_true, decide_false, if_true, if_false, mid_get, mid_set, mid_getn, mid_setn, bt_mid, Option.bind_some, Bool.not_true, Bool.not_false, Bool.false_eq_true, Bool.true_eq_false, beq_self_eq_true, bne_self_eq_false, Int.toNat_natCast, impl_IsWord_f _ (hs a (by simp)), impl_within_f, linesF, lineOk]
    cases wordB a.1
    · simp
    cases inB a.2 1 1000
    · simp
    show (if (!ltS x.1 a.1) = true then _ else _) = _
    cases ltS x.1 a.1
    · simp
    · simp only [and_self, and_true, true_and, decide_true, decide_false, if_true, if_false, mid_get, mid_set, mid_getn, mid_setn, bt_mid, Option.bind_some, Bool.not_true, Bool.not_false, Bool.false_eq_true, Bool.true_eq_false, beq_self_eq_true, bne_self_eq_false, Int.toNat_natCast, Bool.true_and]
      rw [← this]
      simp
theorem impl_areLines_f (xs : List (ByteArray × Int)) (h : Lm OkLine xs) : impl_areLines.f xs = some (linesB xs) := by
  unfold impl_areLines.f impl_areLines.fn impl_areLines.top linesB
  have hl := h.1
  by_cases h12 : (12 : Int) < (xs.length : Int)
  · have : ¬ xs.length ≤ 12 := by omega
    simp [h12, this]
  have e12 : xs.length ≤ 12 := by omega
  simp only [h12, e12, and_self, and_true, true_and, decide_true, decide_false, if_true, if_false, mid_get, mid_set, mid_getn, mid_setn, bt_mid, Option.bind_some, Bool.not_true, Bool.not_false, Bool.false_eq_true, Bool.true_eq_false, beq_self_eq_true, bne_self_eq_false, Int.toNat_natCast]
  obtain ⟨k, hk⟩ : ∃ j, NN = j + 1 := ⟨NN - 1, by have := NNb; omega⟩
  have hkb : 1000000000000000 < k := by rw [NN_eq] at hk; omega
  rw [show impl_areLines.l4 NN NN = impl_areLines.l4 NN (k + 1) by rw [← hk]]
  cases xs with
  | nil => simp [impl_areLines.l4, impl_areLines.g4, linesL]
  | cons a r =>
    simp only [List.length_cons] at hl
    have := impl_areLines_l r [] a k (by simp; omega) (by omega) (fun l hl => Nat.le_trans (h.2 l (by simp [hl])).1 (by omega))
    have w2 := w64 (n := 0 + 1) (by omega) (by omega)
    have c1 : (0 : Int) < ((a :: r).length : Int) := by simp only [List.length_cons]; omega
    simp only [impl_areLines.l4, impl_areLines.g4, c1, w2, and_self, and_true, true_and, decide_true, decide_false, if_true, if_false, mid_get, mid_set, mid_getn, mid_setn, bt_mid, Option.bind_some, Bool.not_true, Bool.not_false, Bool.false_eq_true, Bool.true_eq_false, beq_self_eq_true, bne_self_eq_false, Int.toNat_natCast, Int.le_refl, impl_IsWord_f _ (Nat.le_trans (h.2 a (by simp)).1 (show 1000000 ≤ 140737488355328 by omega)), impl_within_f, linesL, lineOk, List.getD_cons_zero, Int.toNat_zero]
    simp at this
    cases wordB a.1
    · simp
    cases inB a.2 1 1000
    · simp
    simp [this]
theorem impl_IsPaper_f (p : ByteArray × Int × List (ByteArray × Int)) (h : OkPaper p) : impl_IsPaper.f p = some (paperB p) := by
  unfold impl_IsPaper.f impl_IsPaper.fn impl_IsPaper.top paperB
  rw [impl_IsWord_f _ (Nat.le_trans h.1 (by omega)), impl_isDay_f, impl_areLines_f _ h.2.2]
  cases wordB p.1 <;> cases inB p.2.1 0 100000 <;> rfl
theorem spec_IsPaper_l (v : ByteArray) (d : Int) (hv : Sz v) : ∀ (r p : List (ByteArray × Int)) (x : ByteArray × Int) (k : Nat), p.length + r.length + 1 ≤ 1000000 → r.length < k → (∀ l ∈ r, Sz l.1) →
    spec_IsPaper.l2 NN k ((p.length : Int) + 1) (v, d, p ++ [x] ++ r) = some (linesF x r && (wordB v && inB d 0 100000 && decide ((p ++ [x] ++ r).length ≤ 12))) := by
  intro r
  induction r with
  | nil =>
    intro p x k hb hk _
    obtain ⟨k, rfl⟩ : ∃ j, k = j + 1 := ⟨k - 1, by omega⟩
    have e : decide (((p ++ [x]).length : Int) ≤ 12) = decide ((p ++ [x]).length ≤ 12) := by congr 1; exact propext (by omega)
    have c1 : ¬ (p.length : Int) + 1 < ((p ++ [x]).length : Int) := by simp
    simp only [spec_IsPaper.l2, spec_IsPaper.g2, List.append_nil, c1, and_self, and_true, true_and, decide_true, decide_false, if_true, if_false, mid_get, mid_set, mid_getn, mid_setn, bt_mid, Option.bind_some, Bool.not_true, Bool.not_false, Bool.false_eq_true, Bool.true_eq_false, beq_self_eq_true, bne_self_eq_false, Int.toNat_natCast, spec_IsWord_f v hv, spec_l01In_f, linesF, e]
    cases wordB v <;> cases inB d 0 100000 <;> rfl
  | cons a r ih =>
    intro p x k hb hk hs
    simp only [List.length_cons] at hb hk
    obtain ⟨k, rfl⟩ : ∃ j, k = j + 1 := ⟨k - 1, by omega⟩
    have hl : ((p ++ [x] ++ a :: r).length : Int) = p.length + r.length + 2 := by simp; omega
    have w1 := w64 (n := (p.length : Int) + 1 - 1) (by omega) (by omega)
    have w2 := w64 (n := (p.length : Int) + 1 + 1) (by omega) (by omega)
    have c1 : (p.length : Int) + 1 < ((p ++ [x] ++ a :: r).length : Int) := by omega
    have c2 : (0 : Int) ≤ (p.length : Int) + 1 - 1 := by omega
    have c3 : (p.length : Int) + 1 - 1 < ((p ++ [x] ++ a :: r).length : Int) := by omega
    have c4 : (0 : Int) ≤ (p.length : Int) + 1 := by omega
    have c5 : (0 : Int) < (p.length : Int) + 1 := by omega
    have g1 : ∀ z, (p ++ [x] ++ a :: r).getD ((p.length : Int) + 1).toNat z = a := fun z => by
      rw [show ((p.length : Int) + 1).toNat = (p ++ [x]).length by simp, mid_getn]
    have g2 : ∀ z, (p ++ [x] ++ a :: r).getD ((p.length : Int) + 1 - 1).toNat z = x := fun z => by
      rw [show ((p.length : Int) + 1 - 1).toNat = p.length by omega, snoc_getl']
    have := ih (p ++ [x]) a k (by simp; omega) (by omega) (fun l h => hs l (by simp [h]))
    rw [show p ++ [x] ++ [a] ++ r = p ++ [x] ++ a :: r by simp, snoc_len] at this
    simp only [spec_IsPaper.l2, spec_IsPaper.g2, w1, w2, c1, c2, c3, c4, c5, g1, g2, and_self, and_true, true_and, decide_true, decide_false, if_true, if_false, mid_get, mid_set, mid_getn, mid_setn, bt_mid, Option.bind_some, Bool.not_true, Bool.not_false, Bool.false_eq_true, Bool.true_eq_false, beq_self_eq_true, bne_self_eq_false, Int.toNat_natCast, spec_IsWord_f _ (hs a (by simp)), spec_l01In_f, linesF, lineOk, this]
    cases wordB a.1
    · simp
    cases inB a.2 1 1000
    · simp
    show (if (!ltS x.1 a.1) = true then _ else _) = _
    cases ltS x.1 a.1
    · simp
    · simp
theorem spec_IsPaper_f (p : ByteArray × Int × List (ByteArray × Int)) (h : OkPaper p) : spec_IsPaper.f p = some (paperB p) := by
  obtain ⟨v, d, xs⟩ := p
  unfold spec_IsPaper.f spec_IsPaper.fn spec_IsPaper.top paperB linesB
  have hl : xs.length ≤ 1000000 := h.2.2.1
  have hv : Sz v := Nat.le_trans h.1 (by omega)
  obtain ⟨k, hk⟩ : ∃ j, NN = j + 1 := ⟨NN - 1, by have := NNb; omega⟩
  have hkb : 1000000000000000 < k := by rw [NN_eq] at hk; omega
  rw [show spec_IsPaper.l2 NN NN = spec_IsPaper.l2 NN (k + 1) by rw [← hk]]
  cases xs with
  | nil =>
    simp only [spec_IsPaper.l2, spec_IsPaper.g2, spec_IsWord_f v hv, spec_l01In_f, linesL, and_self, and_true, true_and, decide_true, decide_false, if_true, if_false, mid_get, mid_set, mid_getn, mid_setn, bt_mid, Option.bind_some, Bool.not_true, Bool.not_false, Bool.false_eq_true, Bool.true_eq_false, beq_self_eq_true, bne_self_eq_false, Int.toNat_natCast]
    cases wordB v <;> cases inB d 0 100000 <;> rfl
  | cons a r =>
    simp only [List.length_cons] at hl
    have hxs : Lm OkLine (a :: r) := h.2.2
    have := spec_IsPaper_l v d hv r [] a k (by simp; omega) (by omega) (fun l hl => Nat.le_trans (hxs.2 l (by simp [hl])).1 (by omega))
    have w2 := w64 (n := 0 + 1) (by omega) (by omega)
    have c1 : (0 : Int) < ((a :: r).length : Int) := by simp only [List.length_cons]; omega
    simp only [List.nil_append, List.length_nil, List.cons_append] at this
    rw [show (((0 : Nat) : Int) + 1) = 0 + 1 from rfl] at this
    simp only [spec_IsPaper.l2, spec_IsPaper.g2, c1, w2, and_self, and_true, true_and, decide_true, decide_false, if_true, if_false, mid_get, mid_set, mid_getn, mid_setn, bt_mid, Option.bind_some, Bool.not_true, Bool.not_false, Bool.false_eq_true, Bool.true_eq_false, beq_self_eq_true, bne_self_eq_false, Int.toNat_natCast, Int.le_refl, spec_IsWord_f _ (Nat.le_trans (hxs.2 a (by simp)).1 (show 1000000 ≤ 140737488355328 by omega)), spec_l01In_f, linesL, lineOk, List.getD_cons_zero, Int.toNat_zero]
    cases wordB a.1
    · simp
    cases inB a.2 1 1000
    · simp
    simp only [Int.lt_irrefl, decide_false, and_self, and_true, true_and, decide_true, decide_false, if_true, if_false, mid_get, mid_set, mid_getn, mid_setn, bt_mid, Option.bind_some, Bool.not_true, Bool.not_false, Bool.false_eq_true, Bool.true_eq_false, beq_self_eq_true, bne_self_eq_false, Int.toNat_natCast]
    rw [this]
    cases linesF a r <;> cases wordB v <;> cases inB d 0 100000 <;> simp
/-- how many of an article -/
def cntL (a : ByteArray) : List (ByteArray × Int) → Int
  | [] => 0
  | l :: r => if l.1 = a then l.2 else cntL a r
theorem impl_countIn_f (xs : List (ByteArray × Int)) (a : ByteArray) (h : xs.length ≤ 1000000) : impl_countIn.f xs a = some (cntL a xs) := by
  have := find_loop (E := fun _ => True) (fun l : ByteArray × Int => decide (l.1 = a)) (fun _ l => some l.2) (fun _ => some 0) (fun k xs i => impl_countIn.l2 NN k a xs xs.length i) ?_ ?_ xs (fun _ _ => trivial) (by omega) NN (NN_lt (by omega))
  · refine this.trans ?_
    have key : ∀ (xs : List (ByteArray × Int)) (i : Nat), (firstOf (fun l : ByteArray × Int => decide (l.1 = a)) i xs).elim (some 0) (fun x => some x.2.2) = some (cntL a xs) := by
      intro xs
      induction xs with
      | nil => intro i; rfl
      | cons l r ih =>
        intro i
        by_cases h : l.1 = a
        · simp [firstOf, cntL, h]
        · simp only [firstOf, cntL, h, decide_false, Bool.false_eq_true, if_false]
          exact ih _
    exact key xs 0
  · intro k p
    simp [impl_countIn.l2, impl_countIn.g2]
  · intro k p l r _ c0 c1 c2 cw
    simp only [impl_countIn.l2, impl_countIn.g2, c0, c1, cw, and_self, and_true, true_and, decide_true, decide_false, if_true, if_false, mid_get, mid_set, mid_getn, mid_setn, bt_mid, Option.bind_some, Bool.not_true, Bool.not_false, Bool.false_eq_true, Bool.true_eq_false, beq_self_eq_true, bne_self_eq_false, Int.toNat_natCast, ba_beq]
theorem spec_l29Find_f (p : ByteArray × Int × List (ByteArray × Int)) (a : ByteArray) (h : p.2.2.length ≤ 1000000) : spec_l29Find.f p a = some ((firstOf (fun l : ByteArray × Int => decide (l.1 = a)) 0 p.2.2).elim (-1) (fun x => (x.1 : Int))) := by
  obtain ⟨v, d, xs⟩ := p
  have h : xs.length ≤ 1000000 := h
  have := find_loop (E := fun _ => True) (fun l : ByteArray × Int => decide (l.1 = a)) (fun i _ => some (i : Int)) (fun _ => some (-1)) (fun k xs i => spec_l29Find.l2 NN k a i (v, d, xs)) ?_ ?_ xs (fun _ _ => trivial) (by omega) NN (NN_lt (by omega))
  · refine this.trans ?_
    cases firstOf (fun l : ByteArray × Int => decide (l.1 = a)) 0 xs <;> rfl
  · intro k p
    simp [spec_l29Find.l2, spec_l29Find.g2]
  · intro k p l r _ c0 c1 c2 cw
    simp only [spec_l29Find.l2, spec_l29Find.g2, c0, c1, cw, and_self, and_true, true_and, decide_true, decide_false, if_true, if_false, mid_get, mid_set, mid_getn, mid_setn, bt_mid, Option.bind_some, Bool.not_true, Bool.not_false, Bool.false_eq_true, Bool.true_eq_false, beq_self_eq_true, bne_self_eq_false, Int.toNat_natCast, ba_beq]
/-- what is found: its number and its line -/
theorem firstOf_spec {α : Type} (P : α → Bool) : ∀ (xs : List α) (i j : Nat) (x : α), firstOf P i xs = some (j, x) → i ≤ j ∧ j < i + xs.length ∧ xs[j - i]? = some x ∧ P x = true := by
  intro xs
  induction xs with
  | nil => intro i j x h; cases h
  | cons a r ih =>
    intro i j x h
    simp only [firstOf] at h
    split at h
    · rename_i hp
      cases h
      refine ⟨by omega, by simp, by simp, hp⟩
    · obtain ⟨h1, h2, h3, h4⟩ := ih _ _ _ h
      refine ⟨by omega, by simp; omega, ?_, h4⟩
      rw [show j - i = (j - (i + 1)) + 1 by omega, List.getElem?_cons_succ]; exact h3
theorem cntL_first (a : ByteArray) : ∀ (xs : List (ByteArray × Int)) (i : Nat), cntL a xs = (firstOf (fun l : ByteArray × Int => decide (l.1 = a)) i xs).elim 0 (fun x => x.2.2) := by
  intro xs
  induction xs with
  | nil => intro i; rfl
  | cons l r ih =>
    intro i
    by_cases h : l.1 = a
    · simp [firstOf, cntL, h]
    · simp only [firstOf, cntL, h, decide_false, Bool.false_eq_true, if_false]
      exact ih _
theorem linesF_ok : ∀ (r : List (ByteArray × Int)) (x : ByteArray × Int), linesF x r = true → ∀ l ∈ r, lineOk l = true := by
  intro r
  induction r with
  | nil => intro x _ l hl; cases hl
  | cons a r ih =>
    intro x h l hl
    simp only [linesF, Bool.and_eq_true] at h
    rcases List.mem_cons.1 hl with rfl | hl
    · exact h.1.1
    · exact ih a h.2 l hl
theorem linesB_ok {xs : List (ByteArray × Int)} (h : linesB xs = true) : xs.length ≤ 12 ∧ ∀ l ∈ xs, lineOk l = true := by
  unfold linesB at h
  simp only [Bool.and_eq_true, decide_eq_true_eq] at h
  refine ⟨h.1, ?_⟩
  cases xs with
  | nil => intro l hl; cases hl
  | cons a r =>
    have h2 := h.2
    simp only [linesL, Bool.and_eq_true] at h2
    intro l hl
    rcases List.mem_cons.1 hl with rfl | hl
    · exact h2.1
    · exact linesF_ok r a h2.2 l hl
theorem lineOk_iff {l : ByteArray × Int} : lineOk l = true ↔ wordB l.1 = true ∧ 1 ≤ l.2 ∧ l.2 ≤ 1000 := by
  unfold lineOk; rw [Bool.and_eq_true, inB_iff]
theorem cntL_bd (a : ByteArray) : ∀ (xs : List (ByteArray × Int)), (∀ l ∈ xs, lineOk l = true) → 0 ≤ cntL a xs ∧ cntL a xs ≤ 1000 := by
  intro xs
  induction xs with
  | nil => intro _; simp [cntL]
  | cons l r ih =>
    intro h
    have h1 := lineOk_iff.1 (h l (by simp))
    have h2 := ih fun x hx => h x (by simp [hx])
    simp only [cntL]
    split <;> omega
end Go.Pl

namespace Go.Pl
open Go.Ev
set_option linter.unusedVariables false
noncomputable section
def impl_MissingLines.g5 (L5 : (List (ByteArray × Int)) → Int → Int → (ByteArray × Int × List (ByteArray × Int)) → (List (ByteArray × Int)) → Option ((List (ByteArray × Int)) × Int)) (v19 : List (ByteArray × Int)) (v20 : Int) (v21 : Int) (b3 : ByteArray × Int × List (ByteArray × Int)) (out6 : List (ByteArray × Int)) : Option ((List (ByteArray × Int)) × Int) :=
  if (decide ((v21 : Int) < v20)) = true then
    if (0 : Int) ≤ v21 ∧ (v21 : Int) < v19.length then
      (impl_countIn.f b3.2.2 ((v19.getD (v21 : Int).toNat (ByteArray.empty, 0)).1)).bind fun r3 =>
      if (decide ((0 : Int) < (IntKind.i64.wrap (((v19.getD (v21 : Int).toNat (ByteArray.empty, 0)).2) - r3)))) = true then
        if out6.length + ([((v19.getD (v21 : Int).toNat (ByteArray.empty, 0)).1, IntKind.i64.wrap (((v19.getD (v21 : Int).toNat (ByteArray.empty, 0)).2) - r3))]).length < room 24 then
          L5 v19 v20 (IntKind.i64.wrap (v21 + 1)) b3 (out6 ++ ([((v19.getD (v21 : Int).toNat (ByteArray.empty, 0)).1, IntKind.i64.wrap (((v19.getD (v21 : Int).toNat (ByteArray.empty, 0)).2) - r3))]))
        else
          none
      else
        L5 v19 v20 (IntKind.i64.wrap (v21 + 1)) b3 out6
    else
      none
  else
    some (out6, 0)
def impl_MissingLines.l5 (n : Nat) : Nat → (List (ByteArray × Int)) → Int → Int → (ByteArray × Int × List (ByteArray × Int)) → (List (ByteArray × Int)) → Option ((List (ByteArray × Int)) × Int)
  | 0 => fun _ _ _ _ _ => none
  | k + 1 => impl_MissingLines.g5 (impl_MissingLines.l5 n k)
def impl_MissingLines.top (I5 : (List (ByteArray × Int)) → Int → Int → (ByteArray × Int × List (ByteArray × Int)) → (List (ByteArray × Int)) → Option ((List (ByteArray × Int)) × Int)) (a0 : ByteArray × Int × List (ByteArray × Int)) (b1 : ByteArray × Int × List (ByteArray × Int)) : Option ((List (ByteArray × Int)) × Int) :=
  (impl_IsPaper.f a0).bind fun r1 =>
  if (!r1) = false then
    (impl_IsPaper.f b1).bind fun r2 =>
    if (!r2) = true then
      some ([], 1)
    else
      I5 a0.2.2 (a0.2.2.length : Int) 0 b1 []
  else
    some ([], 1)
def impl_MissingLines.fn (n : Nat) (a0 : ByteArray × Int × List (ByteArray × Int)) (b1 : ByteArray × Int × List (ByteArray × Int)) : Option ((List (ByteArray × Int)) × Int) := impl_MissingLines.top (impl_MissingLines.l5 n n) a0 b1
def impl_MissingLines.f (a0 : ByteArray × Int × List (ByteArray × Int)) (b1 : ByteArray × Int × List (ByteArray × Int)) : Option ((List (ByteArray × Int)) × Int) := impl_MissingLines.fn NN a0 b1
end
end Go.Pl

namespace Go.Pl
open Go.Ev
set_option linter.unusedVariables false
noncomputable section
def spec_MissingLines.g5 (L5 : Int → (ByteArray × Int × List (ByteArray × Int)) → (ByteArray × Int × List (ByteArray × Int)) → (List (ByteArray × Int)) → Option ((List (ByteArray × Int)) × Int)) (i7 : Int) (a2 : ByteArray × Int × List (ByteArray × Int)) (b3 : ByteArray × Int × List (ByteArray × Int)) (out6 : List (ByteArray × Int)) : Option ((List (ByteArray × Int)) × Int) :=
  if (decide ((i7 : Int) < (a2.2.2.length : Int))) = true then
    if (0 : Int) ≤ i7 ∧ (i7 : Int) < a2.2.2.length then
      if (0 : Int) ≤ i7 ∧ (i7 : Int) < a2.2.2.length then
        (spec_l29Find.f b3 ((a2.2.2.getD (i7 : Int).toNat (ByteArray.empty, 0)).1)).bind fun r3 =>
        if (decide ((0 : Int) ≤ r3)) = true then
          if (0 : Int) ≤ r3 ∧ (r3 : Int) < b3.2.2.length then
            if (decide ((0 : Int) < (IntKind.i64.wrap (((a2.2.2.getD (i7 : Int).toNat (ByteArray.empty, 0)).2) - ((b3.2.2.getD (r3 : Int).toNat (ByteArray.empty, 0)).2))))) = true then
              if (0 : Int) ≤ i7 ∧ (i7 : Int) < a2.2.2.length then
                if out6.length + ([((a2.2.2.getD (i7 : Int).toNat (ByteArray.empty, 0)).1, IntKind.i64.wrap (((a2.2.2.getD (i7 : Int).toNat (ByteArray.empty, 0)).2) - ((b3.2.2.getD (r3 : Int).toNat (ByteArray.empty, 0)).2)))]).length < room 24 then
                  L5 (IntKind.i64.wrap (i7 + 1)) a2 b3 (out6 ++ ([((a2.2.2.getD (i7 : Int).toNat (ByteArray.empty, 0)).1, IntKind.i64.wrap (((a2.2.2.getD (i7 : Int).toNat (ByteArray.empty, 0)).2) - ((b3.2.2.getD (r3 : Int).toNat (ByteArray.empty, 0)).2)))]))
                else
                  none
              else
                none
            else
              L5 (IntKind.i64.wrap (i7 + 1)) a2 b3 out6
          else
            none
        else if (decide ((0 : Int) < ((a2.2.2.getD (i7 : Int).toNat (ByteArray.empty, 0)).2))) = true then
          if (0 : Int) ≤ i7 ∧ (i7 : Int) < a2.2.2.length then
            if out6.length + ([((a2.2.2.getD (i7 : Int).toNat (ByteArray.empty, 0)).1, (a2.2.2.getD (i7 : Int).toNat (ByteArray.empty, 0)).2)]).length < room 24 then
              L5 (IntKind.i64.wrap (i7 + 1)) a2 b3 (out6 ++ ([((a2.2.2.getD (i7 : Int).toNat (ByteArray.empty, 0)).1, (a2.2.2.getD (i7 : Int).toNat (ByteArray.empty, 0)).2)]))
            else
              none
          else
            none
        else
          L5 (IntKind.i64.wrap (i7 + 1)) a2 b3 out6
      else
        none
    else
      none
  else
    some (out6, 0)
def spec_MissingLines.l5 (n : Nat) : Nat → Int → (ByteArray × Int × List (ByteArray × Int)) → (ByteArray × Int × List (ByteArray × Int)) → (List (ByteArray × Int)) → Option ((List (ByteArray × Int)) × Int)
  | 0 => fun _ _ _ _ => none
  | k + 1 => spec_MissingLines.g5 (spec_MissingLines.l5 n k)
def spec_MissingLines.top (I5 : Int → (ByteArray × Int × List (ByteArray × Int)) → (ByteArray × Int × List (ByteArray × Int)) → (List (ByteArray × Int)) → Option ((List (ByteArray × Int)) × Int)) (a0 : ByteArray × Int × List (ByteArray × Int)) (b1 : ByteArray × Int × List (ByteArray × Int)) : Option ((List (ByteArray × Int)) × Int) :=
  (spec_IsPaper.f a0).bind fun r1 =>
  if (!r1) = false then
    (spec_IsPaper.f b1).bind fun r2 =>
    if (!r2) = true then
      some ([], 1)
    else
      I5 0 a0 b1 []
  else
    some ([], 1)
def spec_MissingLines.fn (n : Nat) (a0 : ByteArray × Int × List (ByteArray × Int)) (b1 : ByteArray × Int × List (ByteArray × Int)) : Option ((List (ByteArray × Int)) × Int) := spec_MissingLines.top (spec_MissingLines.l5 n n) a0 b1
def spec_MissingLines.f (a0 : ByteArray × Int × List (ByteArray × Int)) (b1 : ByteArray × Int × List (ByteArray × Int)) : Option ((List (ByteArray × Int)) × Int) := spec_MissingLines.fn NN a0 b1
end
end Go.Pl

namespace Go.Pl
open Go.Ev
set_option linter.unusedVariables false
set_option linter.unusedSimpArgs false
def missF (bs : List (ByteArray × Int)) (out : List (ByteArray × Int)) (l : ByteArray × Int) : List (ByteArray × Int) := if 0 < l.2 - cntL l.1 bs then out ++ [(l.1, l.2 - cntL l.1 bs)] else out
def missL (ax bs : List (ByteArray × Int)) : List (ByteArray × Int) := ax.foldl (missF bs) []
theorem missF_ok (bs : List (ByteArray × Int)) (hb : ∀ l ∈ bs, lineOk l = true) (out : List (ByteArray × Int)) (l : ByteArray × Int) (hl : lineOk l = true) (n : Nat) (h : out.length ≤ n ∧ ∀ x ∈ out, lineOk x = true) : (missF bs out l).length ≤ n + 1 ∧ ∀ x ∈ missF bs out l, lineOk x = true := by
  have h1 := lineOk_iff.1 hl
  have h2 := cntL_bd l.1 bs hb
  unfold missF
  split
  · refine ⟨by simp; omega, fun x hx => ?_⟩
    rcases List.mem_append.1 hx with h3 | h3
    · exact h.2 x h3
    · rw [List.mem_singleton.1 h3]; exact lineOk_iff.2 ⟨h1.1, by simp only; omega, by simp only; omega⟩
  · exact ⟨by omega, h.2⟩
theorem room24' {α : Type} (out : List α) (x : α) (h : out.length ≤ 2000000) : out.length + [x].length < room 24 := by rw [room24]; simp; omega
theorem impl_Missing_l (v : ByteArray) (d : Int) (ax bs : List (ByteArray × Int)) (ha : ∀ l ∈ ax, lineOk l = true) (hb : ∀ l ∈ bs, lineOk l = true) (hla : ax.length ≤ 12) (hlb : bs.length ≤ 12) :
    ((missL ax bs).length ≤ ax.length ∧ ∀ x ∈ missL ax bs, lineOk x = true) ∧ impl_MissingLines.l5 NN NN ax ax.length 0 (v, d, bs) [] = some (missL ax bs, 0) := by
  have := fold_fix (E := fun l => lineOk l = true) (fun p st => st.length ≤ p.length ∧ ∀ x ∈ st, lineOk x = true) (fun _ => missF bs) (fun st => some (st, (0 : Int))) (fun k i st => impl_MissingLines.l5 NN k ax ax.length i (v, d, bs) st) ax ?_ ?_ [] ha ⟨by simp, by simp⟩ (by omega) NN (NN_lt (by omega))
  · rw [foldi_foldl] at this
    exact this
  · intro k st _
    simp [impl_MissingLines.l5, impl_MissingLines.g5]
  · intro k p l r st hx hl hI c0 c1 c2 cw g
    have h1 := lineOk_iff.1 hl
    have h2 := cntL_bd l.1 bs hb
    have e1 := w64 (n := l.2 - cntL l.1 bs) (by omega) (by omega)
    refine ⟨by rw [List.length_append, List.length_singleton]; exact missF_ok bs hb st l hl p.length hI, ?_⟩
    simp only [impl_MissingLines.l5, impl_MissingLines.g5, c0, c1, cw, and_self, and_true, true_and, decide_true, decide_false, if_true, if_false, mid_get, mid_set, mid_getn, mid_setn, bt_mid, Option.bind_some, Bool.not_true, Bool.not_false, Bool.false_eq_true, Bool.true_eq_false, beq_self_eq_true, bne_self_eq_false, Int.toNat_natCast, g, impl_countIn_f bs l.1 (by omega), e1, decide_eq_true_eq]
    unfold missF
    rw [if_pos (room24' st _ (by omega))]
    split <;> rfl
theorem spec_Missing_l (v w : ByteArray) (d e : Int) (ax bs : List (ByteArray × Int)) (ha : ∀ l ∈ ax, lineOk l = true) (hb : ∀ l ∈ bs, lineOk l = true) (hla : ax.length ≤ 12) (hlb : bs.length ≤ 12) :
    spec_MissingLines.l5 NN NN 0 (w, e, ax) (v, d, bs) [] = some (missL ax bs, 0) := by
  have := (fold_fix (E := fun l => lineOk l = true) (fun p st => st.length ≤ p.length ∧ ∀ x ∈ st, lineOk x = true) (fun _ => missF bs) (fun st => some (st, (0 : Int))) (fun k i st => spec_MissingLines.l5 NN k i (w, e, ax) (v, d, bs) st) ax ?_ ?_ [] ha ⟨by simp, by simp⟩ (by omega) NN (NN_lt (by omega))).2
  · rw [foldi_foldl] at this
    exact this
  · intro k st _
    simp [spec_MissingLines.l5, spec_MissingLines.g5]
  · intro k p l r st hx hl hI c0 c1 c2 cw g
    have h1 := lineOk_iff.1 hl
    have h2 := cntL_bd l.1 bs hb
    have e1 := w64 (n := l.2 - cntL l.1 bs) (by omega) (by omega)
    refine ⟨by rw [List.length_append, List.length_singleton]; exact missF_ok bs hb st l hl p.length hI, ?_⟩
    simp only [spec_MissingLines.l5, spec_MissingLines.g5, c0, c1, cw, and_self, and_true, true_and, decide_true, decide_false, if_true, if_false, mid_get, mid_set, mid_getn, mid_setn, bt_mid, Option.bind_some, Bool.not_true, Bool.not_false, Bool.false_eq_true, Bool.true_eq_false, beq_self_eq_true, bne_self_eq_false, Int.toNat_natCast, g]
    rw [spec_l29Find_f _ _ (by simp only; omega)]
    simp only [Option.bind_some]
    unfold missF
    have hc := cntL_first l.1 bs 0
    cases hf : firstOf (fun x : ByteArray × Int => decide (x.1 = l.1)) 0 bs with
    | none =>
      rw [hf] at hc
      simp only [Option.elim] at hc
      rw [hc]
      simp only [Option.elim, hf]
      have n1 : ¬ (0 : Int) ≤ -1 := by omega
      simp only [n1, and_self, and_true, true_and, decide_true, decide_false, if_true, if_false, mid_get, mid_set, mid_getn, mid_setn, bt_mid, Option.bind_some, Bool.not_true, Bool.not_false, Bool.false_eq_true, Bool.true_eq_false, beq_self_eq_true, bne_self_eq_false, Int.toNat_natCast, Int.sub_zero]
      rw [if_pos (room24' st _ (by omega))]
      simp only [decide_eq_true_eq]
      split <;> rfl
    | some x =>
      obtain ⟨j, y⟩ := x
      obtain ⟨f1, f2, f3, f4⟩ := firstOf_spec _ _ _ _ _ hf
      rw [hf] at hc
      simp only [Option.elim] at hc
      simp only [Option.elim, hf]
      have n1 : (0 : Int) ≤ (j : Int) := by omega
      have n2 : (j : Int) < (bs.length : Int) := by omega
      have g2 : ∀ z, bs.getD j z = y := fun z => by
        rw [List.getD_eq_getElem?_getD, show j = j - 0 by omega, f3]; rfl
      rw [hc] at e1 ⊢
      simp only [n1, n2, and_self, and_true, true_and, decide_true, decide_false, if_true, if_false, mid_get, mid_set, mid_getn, mid_setn, bt_mid, Option.bind_some, Bool.not_true, Bool.not_false, Bool.false_eq_true, Bool.true_eq_false, beq_self_eq_true, bne_self_eq_false, Int.toNat_natCast, g2, e1]
      rw [if_pos (room24' st _ (by omega))]
      simp only [decide_eq_true_eq]
      split <;> rfl
theorem paperB_iff {p : ByteArray × Int × List (ByteArray × Int)} (h : paperB p = true) : wordB p.1 = true ∧ (0 ≤ p.2.1 ∧ p.2.1 ≤ 100000) ∧ linesB p.2.2 = true := by
  unfold paperB at h
  simp only [Bool.and_eq_true, inB_iff] at h
  exact ⟨h.1.1, h.1.2, h.2⟩
theorem lines_ok {xs : List (ByteArray × Int)} (h1 : xs.length ≤ 1000000) (h2 : ∀ l ∈ xs, lineOk l = true) : Lm OkLine xs := ⟨h1, fun l hl => by
  have h3 := lineOk_iff.1 (h2 l hl)
  have := wordB_size h3.1
  exact ⟨by unfold Sm; omega, wf64.2 (by omega)⟩⟩
theorem MissingLines_core (a b : ByteArray × Int × List (ByteArray × Int)) (ha : OkPaper a) (hb : OkPaper b) : ∃ w, spec_MissingLines.f a b = some w ∧ impl_MissingLines.f a b = some w ∧ Lm OkLine w.1 := by
  unfold spec_MissingLines.f spec_MissingLines.fn spec_MissingLines.top impl_MissingLines.f impl_MissingLines.fn impl_MissingLines.top
  rw [spec_IsPaper_f a ha, spec_IsPaper_f b hb, impl_IsPaper_f a ha, impl_IsPaper_f b hb]
  cases h1 : paperB a
  · exact ⟨([], 1), rfl, rfl, by simp, by simp⟩
  cases h2 : paperB b
  · exact ⟨([], 1), rfl, rfl, by simp, by simp⟩
  have p1 := linesB_ok (paperB_iff h1).2.2
  have p2 := linesB_ok (paperB_iff h2).2.2
  obtain ⟨w, e, ax⟩ := a
  obtain ⟨v, d, bs⟩ := b
  have q1 := impl_Missing_l v d ax bs p1.2 p2.2 p1.1 p2.1
  have q2 := spec_Missing_l v w d e ax bs p1.2 p2.2 p1.1 p2.1
  have p11 : ax.length ≤ 12 := p1.1
  exact ⟨(missL ax bs, 0), q2, q1.2, lines_ok (by simp only; omega) q1.1.2⟩
end Go.Pl

namespace Go.Pl
open Go.Ev
set_option linter.unusedVariables false
set_option linter.unusedSimpArgs false
/-- words in order -/
def ltW (a b : ByteArray) : Bool := Op.bytesLess a.toList b.toList
theorem lessL_trans : ∀ (x y z : List UInt8), Op.bytesLess x y = true → Op.bytesLess y z = true → Op.bytesLess x z = true := by
  intro x
  induction x with
  | nil =>
    intro y z h1 h2
    cases z with
    | nil => cases y <;> simp [Op.bytesLess] at h2
    | cons c z => rfl
  | cons a x ih =>
    intro y z h1 h2
    cases y with
    | nil => simp [Op.bytesLess] at h1
    | cons b y =>
      cases z with
      | nil => simp [Op.bytesLess] at h2
      | cons c z =>
        simp only [Op.bytesLess, Bool.or_eq_true, Bool.and_eq_true, decide_eq_true_eq, beq_iff_eq, UInt8.lt_iff_toNat_lt] at h1 h2 ⊢
        rcases h1 with h1 | ⟨rfl, h1⟩
        · rcases h2 with h2 | ⟨rfl, h2⟩
          · left; omega
          · left; exact h1
        · rcases h2 with h2 | ⟨rfl, h2⟩
          · left; exact h2
          · right; exact ⟨rfl, ih y z h1 h2⟩
theorem lessL_irr : ∀ (x : List UInt8), Op.bytesLess x x = false := by
  intro x
  induction x with
  | nil => rfl
  | cons a x ih => simp [Op.bytesLess, ih]
theorem lessL_tot : ∀ (x y : List UInt8), Op.bytesLess x y = true ∨ x = y ∨ Op.bytesLess y x = true := by
  intro x
  induction x with
  | nil => intro y; cases y; exact .inr (.inl rfl); exact .inl rfl
  | cons a x ih =>
    intro y
    cases y with
    | nil => exact .inr (.inr rfl)
    | cons b y =>
      simp only [Op.bytesLess, Bool.or_eq_true, Bool.and_eq_true, decide_eq_true_eq, beq_iff_eq, UInt8.lt_iff_toNat_lt, List.cons.injEq]
      by_cases h : a = b
      · subst h
        rcases ih y with h | h | h
        · exact .inl (.inr ⟨rfl, h⟩)
        · exact .inr (.inl ⟨rfl, h⟩)
        · exact .inr (.inr (.inr ⟨rfl, h⟩))
      · have h' : a.toNat ≠ b.toNat := fun e => h (UInt8.toNat_inj.1 e)
        rcases Nat.lt_or_gt_of_ne h' with h | h
        · exact .inl (.inl h)
        · exact .inr (.inr (.inl h))
theorem ltW_trans {a b c : ByteArray} (h1 : ltW a b = true) (h2 : ltW b c = true) : ltW a c = true := lessL_trans _ _ _ h1 h2
theorem ltW_irr (a : ByteArray) : ltW a a = false := lessL_irr _
theorem ltW_ne {a b : ByteArray} (h : ltW a b = true) : a ≠ b := fun e => by subst e; rw [ltW_irr] at h; cases h
theorem ltW_asym {a b : ByteArray} (h : ltW a b = true) : ltW b a = false := by
  cases h2 : ltW b a
  · rfl
  · exact absurd (ltW_trans h h2) (by rw [ltW_irr]; simp)
theorem ltW_tot (a b : ByteArray) : ltW a b = true ∨ a = b ∨ ltW b a = true := by
  rcases lessL_tot a.toList b.toList with h | h | h
  · exact .inl h
  · exact .inr (.inl (ba_toList.1 h))
  · exact .inr (.inr h)
theorem ltW_not {a b : ByteArray} (h1 : ltW a b = false) (h2 : a ≠ b) : ltW b a = true := by
  rcases ltW_tot a b with h | h | h
  · rw [h1] at h; cases h
  · exact absurd h h2
  · exact h
end Go.Pl

namespace Go.Pl
open Go.Ev
set_option linter.unusedVariables false
noncomputable section
def impl_PutLine.top (p0 : ByteArray × Int × List (ByteArray × Int)) (article1 : ByteArray) (count2 : Int) : Option ((ByteArray × Int × List (ByteArray × Int)) × Int) :=
  (impl_IsPaper.f p0).bind fun r1 =>
  if (!r1) = false then
    (impl_IsWord.f article1).bind fun r2 =>
    if (!r2) = true then
      some ((ByteArray.empty, (0, [])), 1)
    else
      (impl_within.f count2 1 1000).bind fun r3 =>
      if (!r3) = true then
        some ((ByteArray.empty, (0, [])), 2)
      else
        (impl_putLine.f p0.2.2 article1 count2).bind fun r4 =>
        if (decide ((12 : Int) < (r4.length : Int))) = true then
          some ((ByteArray.empty, (0, [])), 3)
        else
          (impl_withLines.f p0 r4).bind fun r5 =>
          some ((r5.1, (r5.2.1, r5.2.2)), 0)
  else
    some ((ByteArray.empty, (0, [])), 1)
def impl_PutLine.fn (n : Nat) (p0 : ByteArray × Int × List (ByteArray × Int)) (article1 : ByteArray) (count2 : Int) : Option ((ByteArray × Int × List (ByteArray × Int)) × Int) := impl_PutLine.top p0 article1 count2
def impl_PutLine.f (p0 : ByteArray × Int × List (ByteArray × Int)) (article1 : ByteArray) (count2 : Int) : Option ((ByteArray × Int × List (ByteArray × Int)) × Int) := impl_PutLine.fn NN p0 article1 count2
end
end Go.Pl

namespace Go.Pl
open Go.Ev
set_option linter.unusedVariables false
noncomputable section
def spec_PutLine.top (p0 : ByteArray × Int × List (ByteArray × Int)) (article1 : ByteArray) (count2 : Int) : Option ((ByteArray × Int × List (ByteArray × Int)) × Int) :=
  (spec_IsPaper.f p0).bind fun r1 =>
  if (!r1) = false then
    (spec_IsWord.f article1).bind fun r2 =>
    if (!r2) = true then
      some ((ByteArray.empty, (0, [])), 1)
    else
      (spec_l01In.f count2 1 1000).bind fun r3 =>
      if (!r3) = true then
        some ((ByteArray.empty, (0, [])), 2)
      else
        (spec_l29Find.f p0 article1).bind fun r4 =>
        if ([] : List (ByteArray × Int)).length + p0.2.2.length < room 24 then
          if (decide ((0 : Int) ≤ r4)) = true then
            if (0 : Int) ≤ r4 ∧ (r4 : Int) < (([] : List (ByteArray × Int)) ++ p0.2.2).length then
              (some ((([] : List (ByteArray × Int)) ++ p0.2.2).set (r4 : Int).toNat (((([] : List (ByteArray × Int)) ++ p0.2.2).getD (r4 : Int).toNat (ByteArray.empty, 0)).1, count2))).bind fun r5 =>
              some ((p0.1, (p0.2.1, r5)), 0)
            else
              none
          else
            (spec_l29Put.f (([] : List (ByteArray × Int)) ++ p0.2.2) article1 count2).bind fun r6 =>
            (spec_IsPaper.f (p0.1, (p0.2.1, r6))).bind fun r7 =>
            if (!r7) = true then
              some ((ByteArray.empty, (0, [])), 3)
            else
              some ((p0.1, (p0.2.1, r6)), 0)
        else
          none
  else
    some ((ByteArray.empty, (0, [])), 1)
def spec_PutLine.fn (n : Nat) (p0 : ByteArray × Int × List (ByteArray × Int)) (article1 : ByteArray) (count2 : Int) : Option ((ByteArray × Int × List (ByteArray × Int)) × Int) := spec_PutLine.top p0 article1 count2
def spec_PutLine.f (p0 : ByteArray × Int × List (ByteArray × Int)) (article1 : ByteArray) (count2 : Int) : Option ((ByteArray × Int × List (ByteArray × Int)) × Int) := spec_PutLine.fn NN p0 article1 count2
end
end Go.Pl
