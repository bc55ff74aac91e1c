/- Part 2 of what the law FnExactPutLine stands on: an evaluator of the model's code, proved sound; the functions as plain texts; their contracts. -/
import Derived.Test.YtgddpcjbjkbpcaaChecked
import Derived.Test.YtgddpcjbjkbpcaaProg
import Derived.Test.YtgddpcjbjkbpcaaRows
import Derived.Below
import Derived.Calls
import Derived.Carry
import Derived.ChangeArms
import Derived.ChangeKeysEq
import Derived.ChangeOld
import Derived.Deep.Quiet
import Derived.KernelRfl
import Derived.Laws.Append
import Derived.Laws.BytesString
import Derived.Laws.MakeOwn
import Derived.Laws.Strings
import Derived.Laws.StructEq
import Derived.OpenShut
import Derived.OrdersHeld
import Derived.ProofKit
import Derived.ShutString
import Derived.SizedLaws
import Derived.Tactics
import Derived.WalkKit
import Derived.WideShapes
import Derived.Test.YtgddpcjbjkbpcaaEvExactPutLine1
namespace Go.Ev.Try
open Go.Proofs Go.Pl
set_option linter.unusedVariables false
noncomputable section
def spec_l29Put.st2 (lines0 : List (ByteArray × Int)) (article1 : ByteArray) (count2 : Int) (at7 : Int) : St := ⟨[.dat (.sl 82 (.pair .str (.int .i64))) lines0, .dat .str article1, .dat (.int .i64) count2, .gone, .gone, .gone, .gone, .dat (.int .i64) at7, .gone, .gone, .gone, .gone, .gone, .gone, .gone, .gone, .gone, .gone, .gone, .gone, .gone, .gone, .gone, .gone, .gone, .gone, .gone, .gone, .gone, .gone, .gone, .gone, .gone, .gone, .gone, .gone, .gone, .gone, .gone, .gone, .gone, .gone, .gone, .gone, .gone, .gone, .gone, .gone, .gone, .gone, .gone, .gone, .gone, .gone, .gone, .gone, .gone, .gone, .gone, .gone, .gone], []⟩
def spec_l29Put.g2raw (L2 : (List (ByteArray × Int)) → ByteArray → Int → Int → Option (List (ByteArray × Int))) (lines0 : List (ByteArray × Int)) (article1 : ByteArray) (count2 : Int) (at7 : Int) : Option (List (ByteArray × Int)) :=
  if (decide ((at7 : Int) < (lines0.length : Int))) = true then
    if (0 : Int) ≤ at7 ∧ (at7 : Int) < lines0.length then
      if (Op.bytesLess ((lines0.getD (at7 : Int).toNat (ByteArray.empty, 0)).1).toList article1.toList) = true then
        L2 lines0 article1 count2 (IntKind.i64.wrap (at7 + 1))
      else if (decide ((at7 : Int) < (lines0.length : Int))) = true then
        if (0 : Int) ≤ at7 ∧ (at7 : Int) < lines0.length then
          if (((lines0.getD (at7 : Int).toNat (ByteArray.empty, 0)).1).toList == article1.toList) = true then
            if (0 : Int) ≤ at7 ∧ (at7 : Int) < lines0.length then
              if (0 : Int) ≤ at7 ∧ (at7 : Int) ≤ lines0.length then
                if (0 : Int) ≤ (IntKind.i64.wrap (at7 + 1)) ∧ ((IntKind.i64.wrap (at7 + 1)) : Int) ≤ lines0.length then
                  agree (
                    agree (
                      if ([] : List (ByteArray × Int)).length + (lines0.take (at7 : Int).toNat).length < room 24 then
                        if (([] : List (ByteArray × Int)) ++ (lines0.take (at7 : Int).toNat)).length + ([(article1, IntKind.i64.wrap (count2 + ((lines0.getD (at7 : Int).toNat (ByteArray.empty, 0)).2)))]).length < room 24 then
                          if ((([] : List (ByteArray × Int)) ++ (lines0.take (at7 : Int).toNat)) ++ ([(article1, IntKind.i64.wrap (count2 + ((lines0.getD (at7 : Int).toNat (ByteArray.empty, 0)).2)))])).length + (lines0.drop ((IntKind.i64.wrap (at7 + 1)) : Int).toNat).length < room 24 then
                            some (((([] : List (ByteArray × Int)) ++ (lines0.take (at7 : Int).toNat)) ++ ([(article1, IntKind.i64.wrap (count2 + ((lines0.getD (at7 : Int).toNat (ByteArray.empty, 0)).2)))])) ++ (lines0.drop ((IntKind.i64.wrap (at7 + 1)) : Int).toNat))
                          else
                            none
                        else
                          none
                      else
                        none
                    ) (
                      if ([] : List (ByteArray × Int)).length + (lines0.take (at7 : Int).toNat).length < room 24 then
                        if (([] : List (ByteArray × Int)) ++ (lines0.take (at7 : Int).toNat)).length + ([(article1, IntKind.i64.wrap (count2 + ((lines0.getD (at7 : Int).toNat (ByteArray.empty, 0)).2)))]).length < room 24 then
                          if ((([] : List (ByteArray × Int)) ++ (lines0.take (at7 : Int).toNat)) ++ ([(article1, IntKind.i64.wrap (count2 + ((lines0.getD (at7 : Int).toNat (ByteArray.empty, 0)).2)))])).length + (lines0.drop ((IntKind.i64.wrap (at7 + 1)) : Int).toNat).length < room 24 then
                            some (((([] : List (ByteArray × Int)) ++ (lines0.take (at7 : Int).toNat)) ++ ([(article1, IntKind.i64.wrap (count2 + ((lines0.getD (at7 : Int).toNat (ByteArray.empty, 0)).2)))])) ++ (lines0.drop ((IntKind.i64.wrap (at7 + 1)) : Int).toNat))
                          else
                            none
                        else
                          none
                      else
                        none
                    )
                  ) (
                    if ([] : List (ByteArray × Int)).length + (lines0.take (at7 : Int).toNat).length < room 24 then
                      if (([] : List (ByteArray × Int)) ++ (lines0.take (at7 : Int).toNat)).length + ([(article1, IntKind.i64.wrap (count2 + ((lines0.getD (at7 : Int).toNat (ByteArray.empty, 0)).2)))]).length < room 24 then
                        if ((([] : List (ByteArray × Int)) ++ (lines0.take (at7 : Int).toNat)) ++ ([(article1, IntKind.i64.wrap (count2 + ((lines0.getD (at7 : Int).toNat (ByteArray.empty, 0)).2)))])).length + (lines0.drop ((IntKind.i64.wrap (at7 + 1)) : Int).toNat).length < room 24 then
                          some (((([] : List (ByteArray × Int)) ++ (lines0.take (at7 : Int).toNat)) ++ ([(article1, IntKind.i64.wrap (count2 + ((lines0.getD (at7 : Int).toNat (ByteArray.empty, 0)).2)))])) ++ (lines0.drop ((IntKind.i64.wrap (at7 + 1)) : Int).toNat))
                        else
                          none
                      else
                        none
                    else
                      none
                  )
                else
                  none
              else
                none
            else
              none
          else if (0 : Int) ≤ at7 ∧ (at7 : Int) ≤ lines0.length then
            if (0 : Int) ≤ at7 ∧ (at7 : Int) ≤ lines0.length then
              agree (
                agree (
                  if ([] : List (ByteArray × Int)).length + (lines0.take (at7 : Int).toNat).length < room 24 then
                    if (([] : List (ByteArray × Int)) ++ (lines0.take (at7 : Int).toNat)).length + ([(article1, count2)]).length < room 24 then
                      if ((([] : List (ByteArray × Int)) ++ (lines0.take (at7 : Int).toNat)) ++ ([(article1, count2)])).length + (lines0.drop (at7 : Int).toNat).length < room 24 then
                        some (((([] : List (ByteArray × Int)) ++ (lines0.take (at7 : Int).toNat)) ++ ([(article1, count2)])) ++ (lines0.drop (at7 : Int).toNat))
                      else
                        none
                    else
                      none
                  else
                    none
                ) (
                  if ([] : List (ByteArray × Int)).length + (lines0.take (at7 : Int).toNat).length < room 24 then
                    if (([] : List (ByteArray × Int)) ++ (lines0.take (at7 : Int).toNat)).length + ([(article1, count2)]).length < room 24 then
                      if ((([] : List (ByteArray × Int)) ++ (lines0.take (at7 : Int).toNat)) ++ ([(article1, count2)])).length + (lines0.drop (at7 : Int).toNat).length < room 24 then
                        some (((([] : List (ByteArray × Int)) ++ (lines0.take (at7 : Int).toNat)) ++ ([(article1, count2)])) ++ (lines0.drop (at7 : Int).toNat))
                      else
                        none
                    else
                      none
                  else
                    none
                )
              ) (
                if ([] : List (ByteArray × Int)).length + (lines0.take (at7 : Int).toNat).length < room 24 then
                  if (([] : List (ByteArray × Int)) ++ (lines0.take (at7 : Int).toNat)).length + ([(article1, count2)]).length < room 24 then
                    if ((([] : List (ByteArray × Int)) ++ (lines0.take (at7 : Int).toNat)) ++ ([(article1, count2)])).length + (lines0.drop (at7 : Int).toNat).length < room 24 then
                      some (((([] : List (ByteArray × Int)) ++ (lines0.take (at7 : Int).toNat)) ++ ([(article1, count2)])) ++ (lines0.drop (at7 : Int).toNat))
                    else
                      none
                  else
                    none
                else
                  none
              )
            else
              none
          else
            none
        else
          none
      else if (0 : Int) ≤ at7 ∧ (at7 : Int) ≤ lines0.length then
        if (0 : Int) ≤ at7 ∧ (at7 : Int) ≤ lines0.length then
          agree (
            agree (
              if ([] : List (ByteArray × Int)).length + (lines0.take (at7 : Int).toNat).length < room 24 then
                if (([] : List (ByteArray × Int)) ++ (lines0.take (at7 : Int).toNat)).length + ([(article1, count2)]).length < room 24 then
                  if ((([] : List (ByteArray × Int)) ++ (lines0.take (at7 : Int).toNat)) ++ ([(article1, count2)])).length + (lines0.drop (at7 : Int).toNat).length < room 24 then
                    some (((([] : List (ByteArray × Int)) ++ (lines0.take (at7 : Int).toNat)) ++ ([(article1, count2)])) ++ (lines0.drop (at7 : Int).toNat))
                  else
                    none
                else
                  none
              else
                none
            ) (
              if ([] : List (ByteArray × Int)).length + (lines0.take (at7 : Int).toNat).length < room 24 then
                if (([] : List (ByteArray × Int)) ++ (lines0.take (at7 : Int).toNat)).length + ([(article1, count2)]).length < room 24 then
                  if ((([] : List (ByteArray × Int)) ++ (lines0.take (at7 : Int).toNat)) ++ ([(article1, count2)])).length + (lines0.drop (at7 : Int).toNat).length < room 24 then
                    some (((([] : List (ByteArray × Int)) ++ (lines0.take (at7 : Int).toNat)) ++ ([(article1, count2)])) ++ (lines0.drop (at7 : Int).toNat))
                  else
                    none
                else
                  none
              else
                none
            )
          ) (
            if ([] : List (ByteArray × Int)).length + (lines0.take (at7 : Int).toNat).length < room 24 then
              if (([] : List (ByteArray × Int)) ++ (lines0.take (at7 : Int).toNat)).length + ([(article1, count2)]).length < room 24 then
                if ((([] : List (ByteArray × Int)) ++ (lines0.take (at7 : Int).toNat)) ++ ([(article1, count2)])).length + (lines0.drop (at7 : Int).toNat).length < room 24 then
                  some (((([] : List (ByteArray × Int)) ++ (lines0.take (at7 : Int).toNat)) ++ ([(article1, count2)])) ++ (lines0.drop (at7 : Int).toNat))
                else
                  none
              else
                none
            else
              none
          )
        else
          none
      else
        none
    else
      none
  else if (decide ((at7 : Int) < (lines0.length : Int))) = true then
    if (0 : Int) ≤ at7 ∧ (at7 : Int) < lines0.length then
      if (((lines0.getD (at7 : Int).toNat (ByteArray.empty, 0)).1).toList == article1.toList) = true then
        if (0 : Int) ≤ at7 ∧ (at7 : Int) < lines0.length then
          if (0 : Int) ≤ at7 ∧ (at7 : Int) ≤ lines0.length then
            if (0 : Int) ≤ (IntKind.i64.wrap (at7 + 1)) ∧ ((IntKind.i64.wrap (at7 + 1)) : Int) ≤ lines0.length then
              agree (
                agree (
                  if ([] : List (ByteArray × Int)).length + (lines0.take (at7 : Int).toNat).length < room 24 then
                    if (([] : List (ByteArray × Int)) ++ (lines0.take (at7 : Int).toNat)).length + ([(article1, IntKind.i64.wrap (count2 + ((lines0.getD (at7 : Int).toNat (ByteArray.empty, 0)).2)))]).length < room 24 then
                      if ((([] : List (ByteArray × Int)) ++ (lines0.take (at7 : Int).toNat)) ++ ([(article1, IntKind.i64.wrap (count2 + ((lines0.getD (at7 : Int).toNat (ByteArray.empty, 0)).2)))])).length + (lines0.drop ((IntKind.i64.wrap (at7 + 1)) : Int).toNat).length < room 24 then
                        some (((([] : List (ByteArray × Int)) ++ (lines0.take (at7 : Int).toNat)) ++ ([(article1, IntKind.i64.wrap (count2 + ((lines0.getD (at7 : Int).toNat (ByteArray.empty, 0)).2)))])) ++ (lines0.drop ((IntKind.i64.wrap (at7 + 1)) : Int).toNat))
                      else
                        none
                    else
                      none
                  else
                    none
                ) (
                  if ([] : List (ByteArray × Int)).length + (lines0.take (at7 : Int).toNat).length < room 24 then
                    if (([] : List (ByteArray × Int)) ++ (lines0.take (at7 : Int).toNat)).length + ([(article1, IntKind.i64.wrap (count2 + ((lines0.getD (at7 : Int).toNat (ByteArray.empty, 0)).2)))]).length < room 24 then
                      if ((([] : List (ByteArray × Int)) ++ (lines0.take (at7 : Int).toNat)) ++ ([(article1, IntKind.i64.wrap (count2 + ((lines0.getD (at7 : Int).toNat (ByteArray.empty, 0)).2)))])).length + (lines0.drop ((IntKind.i64.wrap (at7 + 1)) : Int).toNat).length < room 24 then
                        some (((([] : List (ByteArray × Int)) ++ (lines0.take (at7 : Int).toNat)) ++ ([(article1, IntKind.i64.wrap (count2 + ((lines0.getD (at7 : Int).toNat (ByteArray.empty, 0)).2)))])) ++ (lines0.drop ((IntKind.i64.wrap (at7 + 1)) : Int).toNat))
                      else
                        none
                    else
                      none
                  else
                    none
                )
              ) (
                if ([] : List (ByteArray × Int)).length + (lines0.take (at7 : Int).toNat).length < room 24 then
                  if (([] : List (ByteArray × Int)) ++ (lines0.take (at7 : Int).toNat)).length + ([(article1, IntKind.i64.wrap (count2 + ((lines0.getD (at7 : Int).toNat (ByteArray.empty, 0)).2)))]).length < room 24 then
                    if ((([] : List (ByteArray × Int)) ++ (lines0.take (at7 : Int).toNat)) ++ ([(article1, IntKind.i64.wrap (count2 + ((lines0.getD (at7 : Int).toNat (ByteArray.empty, 0)).2)))])).length + (lines0.drop ((IntKind.i64.wrap (at7 + 1)) : Int).toNat).length < room 24 then
                      some (((([] : List (ByteArray × Int)) ++ (lines0.take (at7 : Int).toNat)) ++ ([(article1, IntKind.i64.wrap (count2 + ((lines0.getD (at7 : Int).toNat (ByteArray.empty, 0)).2)))])) ++ (lines0.drop ((IntKind.i64.wrap (at7 + 1)) : Int).toNat))
                    else
                      none
                  else
                    none
                else
                  none
              )
            else
              none
          else
            none
        else
          none
      else if (0 : Int) ≤ at7 ∧ (at7 : Int) ≤ lines0.length then
        if (0 : Int) ≤ at7 ∧ (at7 : Int) ≤ lines0.length then
          agree (
            agree (
              if ([] : List (ByteArray × Int)).length + (lines0.take (at7 : Int).toNat).length < room 24 then
                if (([] : List (ByteArray × Int)) ++ (lines0.take (at7 : Int).toNat)).length + ([(article1, count2)]).length < room 24 then
                  if ((([] : List (ByteArray × Int)) ++ (lines0.take (at7 : Int).toNat)) ++ ([(article1, count2)])).length + (lines0.drop (at7 : Int).toNat).length < room 24 then
                    some (((([] : List (ByteArray × Int)) ++ (lines0.take (at7 : Int).toNat)) ++ ([(article1, count2)])) ++ (lines0.drop (at7 : Int).toNat))
                  else
                    none
                else
                  none
              else
                none
            ) (
              if ([] : List (ByteArray × Int)).length + (lines0.take (at7 : Int).toNat).length < room 24 then
                if (([] : List (ByteArray × Int)) ++ (lines0.take (at7 : Int).toNat)).length + ([(article1, count2)]).length < room 24 then
                  if ((([] : List (ByteArray × Int)) ++ (lines0.take (at7 : Int).toNat)) ++ ([(article1, count2)])).length + (lines0.drop (at7 : Int).toNat).length < room 24 then
                    some (((([] : List (ByteArray × Int)) ++ (lines0.take (at7 : Int).toNat)) ++ ([(article1, count2)])) ++ (lines0.drop (at7 : Int).toNat))
                  else
                    none
                else
                  none
              else
                none
            )
          ) (
            if ([] : List (ByteArray × Int)).length + (lines0.take (at7 : Int).toNat).length < room 24 then
              if (([] : List (ByteArray × Int)) ++ (lines0.take (at7 : Int).toNat)).length + ([(article1, count2)]).length < room 24 then
                if ((([] : List (ByteArray × Int)) ++ (lines0.take (at7 : Int).toNat)) ++ ([(article1, count2)])).length + (lines0.drop (at7 : Int).toNat).length < room 24 then
                  some (((([] : List (ByteArray × Int)) ++ (lines0.take (at7 : Int).toNat)) ++ ([(article1, count2)])) ++ (lines0.drop (at7 : Int).toNat))
                else
                  none
              else
                none
            else
              none
          )
        else
          none
      else
        none
    else
      none
  else if (0 : Int) ≤ at7 ∧ (at7 : Int) ≤ lines0.length then
    if (0 : Int) ≤ at7 ∧ (at7 : Int) ≤ lines0.length then
      agree (
        agree (
          if ([] : List (ByteArray × Int)).length + (lines0.take (at7 : Int).toNat).length < room 24 then
            if (([] : List (ByteArray × Int)) ++ (lines0.take (at7 : Int).toNat)).length + ([(article1, count2)]).length < room 24 then
              if ((([] : List (ByteArray × Int)) ++ (lines0.take (at7 : Int).toNat)) ++ ([(article1, count2)])).length + (lines0.drop (at7 : Int).toNat).length < room 24 then
                some (((([] : List (ByteArray × Int)) ++ (lines0.take (at7 : Int).toNat)) ++ ([(article1, count2)])) ++ (lines0.drop (at7 : Int).toNat))
              else
                none
            else
              none
          else
            none
        ) (
          if ([] : List (ByteArray × Int)).length + (lines0.take (at7 : Int).toNat).length < room 24 then
            if (([] : List (ByteArray × Int)) ++ (lines0.take (at7 : Int).toNat)).length + ([(article1, count2)]).length < room 24 then
              if ((([] : List (ByteArray × Int)) ++ (lines0.take (at7 : Int).toNat)) ++ ([(article1, count2)])).length + (lines0.drop (at7 : Int).toNat).length < room 24 then
                some (((([] : List (ByteArray × Int)) ++ (lines0.take (at7 : Int).toNat)) ++ ([(article1, count2)])) ++ (lines0.drop (at7 : Int).toNat))
              else
                none
            else
              none
          else
            none
        )
      ) (
        if ([] : List (ByteArray × Int)).length + (lines0.take (at7 : Int).toNat).length < room 24 then
          if (([] : List (ByteArray × Int)) ++ (lines0.take (at7 : Int).toNat)).length + ([(article1, count2)]).length < room 24 then
            if ((([] : List (ByteArray × Int)) ++ (lines0.take (at7 : Int).toNat)) ++ ([(article1, count2)])).length + (lines0.drop (at7 : Int).toNat).length < room 24 then
              some (((([] : List (ByteArray × Int)) ++ (lines0.take (at7 : Int).toNat)) ++ ([(article1, count2)])) ++ (lines0.drop (at7 : Int).toNat))
            else
              none
          else
            none
        else
          none
      )
    else
      none
  else
    none
theorem spec_l29Put.g2raw_eq (L2 : (List (ByteArray × Int)) → ByteArray → Int → Int → Option (List (ByteArray × Int))) (lines0 : List (ByteArray × Int)) (article1 : ByteArray) (count2 : Int) (at7 : Int) : spec_l29Put.g2raw L2 lines0 article1 count2 at7 = spec_l29Put.g2 L2 lines0 article1 count2 at7 := by
  unfold spec_l29Put.g2raw spec_l29Put.g2
  simp only [agree_self]
def spec_l29Put.con : Con := { ps := [(.val, (.sl 82 (.pair .str (.int .i64)))), (.val, .str), (.val, (.int .i64))], rs := [(.own, (.sl 82 (.pair .str (.int .i64))))], F := fun x => spec_l29Put.f x.1 x.2.1 x.2.2 }
def spec_l29Put.cs : List (FuncId × Con) := []
def spec_l29Put.E : Env := envOf tab spec_l29Put.cs 0 false
def spec_l29Put.keep (i : Nat) : List Nat := if i = 2 then [0, 1, 2, 7] else []
def spec_l29Put.at2 (n : Nat) (x : (List (ByteArray × Int)) × ByteArray × Int) : Code × (Ex → St → Option ((List (ByteArray × Int)))) := ctx spec_l29Put.E spec_l29Put.keep n [.snd, .snd, .fst, .blk] (codeOf Try.f104) (kEnd spec_l29Put.E Try.f104 spec_l29Put.con x)
def spec_l29Put.LN2 (n : Nat) (x : (List (ByteArray × Int)) × ByteArray × Int) : Nat → St → Option ((List (ByteArray × Int))) := loopN (exec spec_l29Put.E spec_l29Put.keep n (bodyOf (spec_l29Put.at2 n x).1)) (St.norm 0 (spec_l29Put.keep 2)) (spec_l29Put.at2 n x).2
set_option maxRecDepth 100000 in
theorem spec_l29Put.lem2 (n : Nat) (x : (List (ByteArray × Int)) × ByteArray × Int) : ∀ (k : Nat) (lines0 : List (ByteArray × Int)) (article1 : ByteArray) (count2 : Int) (at7 : Int), spec_l29Put.LN2 n x k (spec_l29Put.st2 lines0 article1 count2 at7) = spec_l29Put.l2 n k lines0 article1 count2 at7 := by
  intro k
  induction k with
  | zero => intro lines0 article1 count2 at7; rfl
  | succ k ih =>
    intro lines0 article1 count2 at7
    have h : spec_l29Put.LN2 n x (k + 1) (spec_l29Put.st2 lines0 article1 count2 at7) = spec_l29Put.g2raw (fun lines0 article1 count2 at7 => spec_l29Put.LN2 n x k (spec_l29Put.st2 lines0 article1 count2 at7)) lines0 article1 count2 at7 := by kernel_rfl
    rw [spec_l29Put.g2raw_eq] at h
    rw [h]
    simp only [ih]
    rfl
set_option maxRecDepth 100000 in
theorem spec_l29Put.body (n : Nat) (x : (List (ByteArray × Int)) × ByteArray × Int) : bodyF spec_l29Put.E spec_l29Put.keep n Try.f104 spec_l29Put.con x = spec_l29Put.fn n x.1 x.2.1 x.2.2 := by
  have h : bodyF spec_l29Put.E spec_l29Put.keep n Try.f104 spec_l29Put.con x = spec_l29Put.top (fun lines0 article1 count2 at7 => spec_l29Put.LN2 n x n (spec_l29Put.st2 lines0 article1 count2 at7)) x.1 x.2.1 x.2.2 := by kernel_rfl
  rw [h]
  simp only [spec_l29Put.lem2]
  rfl
set_option maxRecDepth 100000 in
theorem spec_l29Put.good : Good Try.prog 104 spec_l29Put.con :=
  good_of tabok (cs := spec_l29Put.cs) trivial 0 false (fn := Try.f104) Try.func104 rfl (by decide) (by simp [spec_l29Put.con]) spec_l29Put.keep NN (fun _ => rfl) (fun x => spec_l29Put.body NN x)
end
end Go.Ev.Try

namespace Go.Ev.Try
open Go.Proofs Go.Pl
set_option linter.unusedVariables false
noncomputable section
def spec_l29Find.st2 (article1 : ByteArray) (i5 : Int) (p2 : ByteArray × Int × List (ByteArray × Int)) : St := ⟨[.gone, .dat .str article1, .ptr 0 [], .gone, .gone, .dat (.int .i64) i5, .gone, .gone, .gone, .gone, .gone, .gone, .gone, .gone, .gone, .gone, .gone, .gone, .gone, .gone, .gone, .gone], [.box 47 (.pair .str (.pair (.int .i64) (.sl 82 (.pair .str (.int .i64))))) (.dat (.pair .str (.pair (.int .i64) (.sl 82 (.pair .str (.int .i64))))) p2)]⟩
def spec_l29Find.con : Con := { ps := [(.val, (.pair .str (.pair (.int .i64) (.sl 82 (.pair .str (.int .i64)))))), (.val, .str)], rs := [(.val, (.int .i64))], F := fun x => spec_l29Find.f x.1 x.2 }
def spec_l29Find.cs : List (FuncId × Con) := []
def spec_l29Find.E : Env := envOf tab spec_l29Find.cs 0 false
def spec_l29Find.keep (i : Nat) : List Nat := if i = 2 then [1, 2, 5] else []
def spec_l29Find.at2 (n : Nat) (x : (ByteArray × Int × List (ByteArray × Int)) × ByteArray) : Code × (Ex → St → Option (Int)) := ctx spec_l29Find.E spec_l29Find.keep n [.snd, .fst, .snd, .blk] (codeOf Try.f105) (kEnd spec_l29Find.E Try.f105 spec_l29Find.con x)
def spec_l29Find.LN2 (n : Nat) (x : (ByteArray × Int × List (ByteArray × Int)) × ByteArray) : Nat → St → Option (Int) := loopN (exec spec_l29Find.E spec_l29Find.keep n (bodyOf (spec_l29Find.at2 n x).1)) (St.norm 0 (spec_l29Find.keep 2)) (spec_l29Find.at2 n x).2
set_option maxRecDepth 100000 in
theorem spec_l29Find.lem2 (n : Nat) (x : (ByteArray × Int × List (ByteArray × Int)) × ByteArray) : ∀ (k : Nat) (article1 : ByteArray) (i5 : Int) (p2 : ByteArray × Int × List (ByteArray × Int)), spec_l29Find.LN2 n x k (spec_l29Find.st2 article1 i5 p2) = spec_l29Find.l2 n k article1 i5 p2 := by
  intro k
  induction k with
  | zero => intro article1 i5 p2; rfl
  | succ k ih =>
    intro article1 i5 p2
    have h : spec_l29Find.LN2 n x (k + 1) (spec_l29Find.st2 article1 i5 p2) = spec_l29Find.g2 (fun article1 i5 p2 => spec_l29Find.LN2 n x k (spec_l29Find.st2 article1 i5 p2)) article1 i5 p2 := by kernel_rfl
    rw [h]
    simp only [ih]
    rfl
set_option maxRecDepth 100000 in
theorem spec_l29Find.body (n : Nat) (x : (ByteArray × Int × List (ByteArray × Int)) × ByteArray) : bodyF spec_l29Find.E spec_l29Find.keep n Try.f105 spec_l29Find.con x = spec_l29Find.fn n x.1 x.2 := by
  have h : bodyF spec_l29Find.E spec_l29Find.keep n Try.f105 spec_l29Find.con x = spec_l29Find.top (fun article1 i5 p2 => spec_l29Find.LN2 n x n (spec_l29Find.st2 article1 i5 p2)) x.1 x.2 := by kernel_rfl
  rw [h]
  simp only [spec_l29Find.lem2]
  rfl
set_option maxRecDepth 100000 in
theorem spec_l29Find.good : Good Try.prog 105 spec_l29Find.con :=
  good_of tabok (cs := spec_l29Find.cs) trivial 0 false (fn := Try.f105) Try.func105 rfl (by decide) (by simp [spec_l29Find.con]) spec_l29Find.keep NN (fun _ => rfl) (fun x => spec_l29Find.body NN x)
end
end Go.Ev.Try

namespace Go.Ev.Try
open Go.Proofs Go.Pl
set_option linter.unusedVariables false
noncomputable section
def spec_PutLine.topraw (p0 : ByteArray × Int × List (ByteArray × Int)) (article1 : ByteArray) (count2 : Int) : Option ((ByteArray × Int × List (ByteArray × Int)) × Int) :=
  (spec_IsPaper.f p0).bind fun r1 =>
  if (!r1) = false then
    (spec_IsWord.f article1).bind fun r2 =>
    if (!r2) = true then
      some ((ByteArray.empty, (0, [])), 1)
    else
      (spec_l01In.f count2 1 1000).bind fun r3 =>
      if (!r3) = true then
        some ((ByteArray.empty, (0, [])), 2)
      else
        (spec_l29Find.f p0 article1).bind fun r4 =>
        agree (
          agree (
            agree (
              agree (
                agree (
                  if ([] : List (ByteArray × Int)).length + p0.2.2.length < room 24 then
                    if (decide ((0 : Int) ≤ r4)) = true then
                      if (0 : Int) ≤ r4 ∧ (r4 : Int) < (([] : List (ByteArray × Int)) ++ p0.2.2).length then
                        some ((p0.1, (p0.2.1, (([] : List (ByteArray × Int)) ++ p0.2.2).set (r4 : Int).toNat (((([] : List (ByteArray × Int)) ++ p0.2.2).getD (r4 : Int).toNat (ByteArray.empty, 0)).1, count2))), 0)
                      else
                        none
                    else
                      (spec_l29Put.f (([] : List (ByteArray × Int)) ++ p0.2.2) article1 count2).bind fun r5 =>
                      (spec_IsPaper.f (p0.1, (p0.2.1, r5))).bind fun r6 =>
                      if (!r6) = true then
                        some ((ByteArray.empty, (0, [])), 3)
                      else
                        some ((p0.1, (p0.2.1, r5)), 0)
                  else
                    none
                ) (
                  if ([] : List (ByteArray × Int)).length + p0.2.2.length < room 24 then
                    if (decide ((0 : Int) ≤ r4)) = true then
                      if (0 : Int) ≤ r4 ∧ (r4 : Int) < (([] : List (ByteArray × Int)) ++ p0.2.2).length then
                        some ((p0.1, (p0.2.1, (([] : List (ByteArray × Int)) ++ p0.2.2).set (r4 : Int).toNat (((([] : List (ByteArray × Int)) ++ p0.2.2).getD (r4 : Int).toNat (ByteArray.empty, 0)).1, count2))), 0)
                      else
                        none
                    else
                      (spec_l29Put.f (([] : List (ByteArray × Int)) ++ p0.2.2) article1 count2).bind fun r5 =>
                      (spec_IsPaper.f (p0.1, (p0.2.1, r5))).bind fun r6 =>
                      if (!r6) = true then
                        some ((ByteArray.empty, (0, [])), 3)
                      else
                        some ((p0.1, (p0.2.1, r5)), 0)
                  else
                    none
                )
              ) (
                if ([] : List (ByteArray × Int)).length + p0.2.2.length < room 24 then
                  if (decide ((0 : Int) ≤ r4)) = true then
                    if (0 : Int) ≤ r4 ∧ (r4 : Int) < (([] : List (ByteArray × Int)) ++ p0.2.2).length then
                      some ((p0.1, (p0.2.1, (([] : List (ByteArray × Int)) ++ p0.2.2).set (r4 : Int).toNat (((([] : List (ByteArray × Int)) ++ p0.2.2).getD (r4 : Int).toNat (ByteArray.empty, 0)).1, count2))), 0)
                    else
                      none
                  else
                    (spec_l29Put.f (([] : List (ByteArray × Int)) ++ p0.2.2) article1 count2).bind fun r5 =>
                    (spec_IsPaper.f (p0.1, (p0.2.1, r5))).bind fun r6 =>
                    if (!r6) = true then
                      some ((ByteArray.empty, (0, [])), 3)
                    else
                      some ((p0.1, (p0.2.1, r5)), 0)
                else
                  none
              )
            ) (
              agree (
                agree (
                  agree (
                    if ([] : List (ByteArray × Int)).length + p0.2.2.length < room 24 then
                      if (decide ((0 : Int) ≤ r4)) = true then
                        if (0 : Int) ≤ r4 ∧ (r4 : Int) < (([] : List (ByteArray × Int)) ++ p0.2.2).length then
                          some ((p0.1, (p0.2.1, (([] : List (ByteArray × Int)) ++ p0.2.2).set (r4 : Int).toNat (((([] : List (ByteArray × Int)) ++ p0.2.2).getD (r4 : Int).toNat (ByteArray.empty, 0)).1, count2))), 0)
                        else
                          none
                      else
                        (spec_l29Put.f (([] : List (ByteArray × Int)) ++ p0.2.2) article1 count2).bind fun r5 =>
                        (spec_IsPaper.f (p0.1, (p0.2.1, r5))).bind fun r6 =>
                        if (!r6) = true then
                          some ((ByteArray.empty, (0, [])), 3)
                        else
                          some ((p0.1, (p0.2.1, r5)), 0)
                    else
                      none
                  ) (
                    if ([] : List (ByteArray × Int)).length + p0.2.2.length < room 24 then
                      if (decide ((0 : Int) ≤ r4)) = true then
                        if (0 : Int) ≤ r4 ∧ (r4 : Int) < (([] : List (ByteArray × Int)) ++ p0.2.2).length then
                          some ((p0.1, (p0.2.1, (([] : List (ByteArray × Int)) ++ p0.2.2).set (r4 : Int).toNat (((([] : List (ByteArray × Int)) ++ p0.2.2).getD (r4 : Int).toNat (ByteArray.empty, 0)).1, count2))), 0)
                        else
                          none
                      else
                        (spec_l29Put.f (([] : List (ByteArray × Int)) ++ p0.2.2) article1 count2).bind fun r5 =>
                        (spec_IsPaper.f (p0.1, (p0.2.1, r5))).bind fun r6 =>
                        if (!r6) = true then
                          some ((ByteArray.empty, (0, [])), 3)
                        else
                          some ((p0.1, (p0.2.1, r5)), 0)
                    else
                      none
                  )
                ) (
                  if ([] : List (ByteArray × Int)).length + p0.2.2.length < room 24 then
                    if (decide ((0 : Int) ≤ r4)) = true then
                      if (0 : Int) ≤ r4 ∧ (r4 : Int) < (([] : List (ByteArray × Int)) ++ p0.2.2).length then
                        some ((p0.1, (p0.2.1, (([] : List (ByteArray × Int)) ++ p0.2.2).set (r4 : Int).toNat (((([] : List (ByteArray × Int)) ++ p0.2.2).getD (r4 : Int).toNat (ByteArray.empty, 0)).1, count2))), 0)
                      else
                        none
                    else
                      (spec_l29Put.f (([] : List (ByteArray × Int)) ++ p0.2.2) article1 count2).bind fun r5 =>
                      (spec_IsPaper.f (p0.1, (p0.2.1, r5))).bind fun r6 =>
                      if (!r6) = true then
                        some ((ByteArray.empty, (0, [])), 3)
                      else
                        some ((p0.1, (p0.2.1, r5)), 0)
                  else
                    none
                )
              ) (
                agree (
                  if ([] : List (ByteArray × Int)).length + p0.2.2.length < room 24 then
                    if (decide ((0 : Int) ≤ r4)) = true then
                      if (0 : Int) ≤ r4 ∧ (r4 : Int) < (([] : List (ByteArray × Int)) ++ p0.2.2).length then
                        some ((p0.1, (p0.2.1, (([] : List (ByteArray × Int)) ++ p0.2.2).set (r4 : Int).toNat (((([] : List (ByteArray × Int)) ++ p0.2.2).getD (r4 : Int).toNat (ByteArray.empty, 0)).1, count2))), 0)
                      else
                        none
                    else
                      (spec_l29Put.f (([] : List (ByteArray × Int)) ++ p0.2.2) article1 count2).bind fun r5 =>
                      (spec_IsPaper.f (p0.1, (p0.2.1, r5))).bind fun r6 =>
                      if (!r6) = true then
                        some ((ByteArray.empty, (0, [])), 3)
                      else
                        some ((p0.1, (p0.2.1, r5)), 0)
                  else
                    none
                ) (
                  if ([] : List (ByteArray × Int)).length + p0.2.2.length < room 24 then
                    if (decide ((0 : Int) ≤ r4)) = true then
                      if (0 : Int) ≤ r4 ∧ (r4 : Int) < (([] : List (ByteArray × Int)) ++ p0.2.2).length then
                        some ((p0.1, (p0.2.1, (([] : List (ByteArray × Int)) ++ p0.2.2).set (r4 : Int).toNat (((([] : List (ByteArray × Int)) ++ p0.2.2).getD (r4 : Int).toNat (ByteArray.empty, 0)).1, count2))), 0)
                      else
                        none
                    else
                      (spec_l29Put.f (([] : List (ByteArray × Int)) ++ p0.2.2) article1 count2).bind fun r5 =>
                      (spec_IsPaper.f (p0.1, (p0.2.1, r5))).bind fun r6 =>
                      if (!r6) = true then
                        some ((ByteArray.empty, (0, [])), 3)
                      else
                        some ((p0.1, (p0.2.1, r5)), 0)
                  else
                    none
                )
              )
            )
          ) (
            agree (
              agree (
                agree (
                  agree (
                    if ([] : List (ByteArray × Int)).length + p0.2.2.length < room 24 then
                      if (decide ((0 : Int) ≤ r4)) = true then
                        if (0 : Int) ≤ r4 ∧ (r4 : Int) < (([] : List (ByteArray × Int)) ++ p0.2.2).length then
                          some ((p0.1, (p0.2.1, (([] : List (ByteArray × Int)) ++ p0.2.2).set (r4 : Int).toNat (((([] : List (ByteArray × Int)) ++ p0.2.2).getD (r4 : Int).toNat (ByteArray.empty, 0)).1, count2))), 0)
                        else
                          none
                      else
                        (spec_l29Put.f (([] : List (ByteArray × Int)) ++ p0.2.2) article1 count2).bind fun r5 =>
                        (spec_IsPaper.f (p0.1, (p0.2.1, r5))).bind fun r6 =>
                        if (!r6) = true then
                          some ((ByteArray.empty, (0, [])), 3)
                        else
                          some ((p0.1, (p0.2.1, r5)), 0)
                    else
                      none
                  ) (
                    if ([] : List (ByteArray × Int)).length + p0.2.2.length < room 24 then
                      if (decide ((0 : Int) ≤ r4)) = true then
                        if (0 : Int) ≤ r4 ∧ (r4 : Int) < (([] : List (ByteArray × Int)) ++ p0.2.2).length then
                          some ((p0.1, (p0.2.1, (([] : List (ByteArray × Int)) ++ p0.2.2).set (r4 : Int).toNat (((([] : List (ByteArray × Int)) ++ p0.2.2).getD (r4 : Int).toNat (ByteArray.empty, 0)).1, count2))), 0)
                        else
                          none
                      else
                        (spec_l29Put.f (([] : List (ByteArray × Int)) ++ p0.2.2) article1 count2).bind fun r5 =>
                        (spec_IsPaper.f (p0.1, (p0.2.1, r5))).bind fun r6 =>
                        if (!r6) = true then
                          some ((ByteArray.empty, (0, [])), 3)
                        else
                          some ((p0.1, (p0.2.1, r5)), 0)
                    else
                      none
                  )
                ) (
                  if ([] : List (ByteArray × Int)).length + p0.2.2.length < room 24 then
                    if (decide ((0 : Int) ≤ r4)) = true then
                      if (0 : Int) ≤ r4 ∧ (r4 : Int) < (([] : List (ByteArray × Int)) ++ p0.2.2).length then
                        some ((p0.1, (p0.2.1, (([] : List (ByteArray × Int)) ++ p0.2.2).set (r4 : Int).toNat (((([] : List (ByteArray × Int)) ++ p0.2.2).getD (r4 : Int).toNat (ByteArray.empty, 0)).1, count2))), 0)
                      else
                        none
                    else
                      (spec_l29Put.f (([] : List (ByteArray × Int)) ++ p0.2.2) article1 count2).bind fun r5 =>
                      (spec_IsPaper.f (p0.1, (p0.2.1, r5))).bind fun r6 =>
                      if (!r6) = true then
                        some ((ByteArray.empty, (0, [])), 3)
                      else
                        some ((p0.1, (p0.2.1, r5)), 0)
                  else
                    none
                )
              ) (
                agree (
                  agree (
                    agree (
                      if ([] : List (ByteArray × Int)).length + p0.2.2.length < room 24 then
                        if (decide ((0 : Int) ≤ r4)) = true then
                          if (0 : Int) ≤ r4 ∧ (r4 : Int) < (([] : List (ByteArray × Int)) ++ p0.2.2).length then
                            some ((p0.1, (p0.2.1, (([] : List (ByteArray × Int)) ++ p0.2.2).set (r4 : Int).toNat (((([] : List (ByteArray × Int)) ++ p0.2.2).getD (r4 : Int).toNat (ByteArray.empty, 0)).1, count2))), 0)
                          else
                            none
                        else
                          (spec_l29Put.f (([] : List (ByteArray × Int)) ++ p0.2.2) article1 count2).bind fun r5 =>
                          (spec_IsPaper.f (p0.1, (p0.2.1, r5))).bind fun r6 =>
                          if (!r6) = true then
                            some ((ByteArray.empty, (0, [])), 3)
                          else
                            some ((p0.1, (p0.2.1, r5)), 0)
                      else
                        none
                    ) (
                      if ([] : List (ByteArray × Int)).length + p0.2.2.length < room 24 then
                        if (decide ((0 : Int) ≤ r4)) = true then
                          if (0 : Int) ≤ r4 ∧ (r4 : Int) < (([] : List (ByteArray × Int)) ++ p0.2.2).length then
                            some ((p0.1, (p0.2.1, (([] : List (ByteArray × Int)) ++ p0.2.2).set (r4 : Int).toNat (((([] : List (ByteArray × Int)) ++ p0.2.2).getD (r4 : Int).toNat (ByteArray.empty, 0)).1, count2))), 0)
                          else
                            none
                        else
                          (spec_l29Put.f (([] : List (ByteArray × Int)) ++ p0.2.2) article1 count2).bind fun r5 =>
                          (spec_IsPaper.f (p0.1, (p0.2.1, r5))).bind fun r6 =>
                          if (!r6) = true then
                            some ((ByteArray.empty, (0, [])), 3)
                          else
                            some ((p0.1, (p0.2.1, r5)), 0)
                      else
                        none
                    )
                  ) (
                    agree (
                      if ([] : List (ByteArray × Int)).length + p0.2.2.length < room 24 then
                        if (decide ((0 : Int) ≤ r4)) = true then
                          if (0 : Int) ≤ r4 ∧ (r4 : Int) < (([] : List (ByteArray × Int)) ++ p0.2.2).length then
                            some ((p0.1, (p0.2.1, (([] : List (ByteArray × Int)) ++ p0.2.2).set (r4 : Int).toNat (((([] : List (ByteArray × Int)) ++ p0.2.2).getD (r4 : Int).toNat (ByteArray.empty, 0)).1, count2))), 0)
                          else
                            none
                        else
                          (spec_l29Put.f (([] : List (ByteArray × Int)) ++ p0.2.2) article1 count2).bind fun r5 =>
                          (spec_IsPaper.f (p0.1, (p0.2.1, r5))).bind fun r6 =>
                          if (!r6) = true then
                            some ((ByteArray.empty, (0, [])), 3)
                          else
                            some ((p0.1, (p0.2.1, r5)), 0)
                      else
                        none
                    ) (
                      agree (
                        if ([] : List (ByteArray × Int)).length + p0.2.2.length < room 24 then
                          if (decide ((0 : Int) ≤ r4)) = true then
                            if (0 : Int) ≤ r4 ∧ (r4 : Int) < (([] : List (ByteArray × Int)) ++ p0.2.2).length then
                              some ((p0.1, (p0.2.1, (([] : List (ByteArray × Int)) ++ p0.2.2).set (r4 : Int).toNat (((([] : List (ByteArray × Int)) ++ p0.2.2).getD (r4 : Int).toNat (ByteArray.empty, 0)).1, count2))), 0)
                            else
                              none
                          else
                            (spec_l29Put.f (([] : List (ByteArray × Int)) ++ p0.2.2) article1 count2).bind fun r5 =>
                            (spec_IsPaper.f (p0.1, (p0.2.1, r5))).bind fun r6 =>
                            if (!r6) = true then
                              some ((ByteArray.empty, (0, [])), 3)
                            else
                              some ((p0.1, (p0.2.1, r5)), 0)
                        else
                          none
                      ) (
                        if ([] : List (ByteArray × Int)).length + p0.2.2.length < room 24 then
                          if (decide ((0 : Int) ≤ r4)) = true then
                            if (0 : Int) ≤ r4 ∧ (r4 : Int) < (([] : List (ByteArray × Int)) ++ p0.2.2).length then
                              some ((p0.1, (p0.2.1, (([] : List (ByteArray × Int)) ++ p0.2.2).set (r4 : Int).toNat (((([] : List (ByteArray × Int)) ++ p0.2.2).getD (r4 : Int).toNat (ByteArray.empty, 0)).1, count2))), 0)
                            else
                              none
                          else
                            (spec_l29Put.f (([] : List (ByteArray × Int)) ++ p0.2.2) article1 count2).bind fun r5 =>
                            (spec_IsPaper.f (p0.1, (p0.2.1, r5))).bind fun r6 =>
                            if (!r6) = true then
                              some ((ByteArray.empty, (0, [])), 3)
                            else
                              some ((p0.1, (p0.2.1, r5)), 0)
                        else
                          none
                      )
                    )
                  )
                ) (
                  agree (
                    if ([] : List (ByteArray × Int)).length + p0.2.2.length < room 24 then
                      if (decide ((0 : Int) ≤ r4)) = true then
                        if (0 : Int) ≤ r4 ∧ (r4 : Int) < (([] : List (ByteArray × Int)) ++ p0.2.2).length then
                          some ((p0.1, (p0.2.1, (([] : List (ByteArray × Int)) ++ p0.2.2).set (r4 : Int).toNat (((([] : List (ByteArray × Int)) ++ p0.2.2).getD (r4 : Int).toNat (ByteArray.empty, 0)).1, count2))), 0)
                        else
                          none
                      else
                        (spec_l29Put.f (([] : List (ByteArray × Int)) ++ p0.2.2) article1 count2).bind fun r5 =>
                        (spec_IsPaper.f (p0.1, (p0.2.1, r5))).bind fun r6 =>
                        if (!r6) = true then
                          some ((ByteArray.empty, (0, [])), 3)
                        else
                          some ((p0.1, (p0.2.1, r5)), 0)
                    else
                      none
                  ) (
                    agree (
                      if ([] : List (ByteArray × Int)).length + p0.2.2.length < room 24 then
                        if (decide ((0 : Int) ≤ r4)) = true then
                          if (0 : Int) ≤ r4 ∧ (r4 : Int) < (([] : List (ByteArray × Int)) ++ p0.2.2).length then
                            some ((p0.1, (p0.2.1, (([] : List (ByteArray × Int)) ++ p0.2.2).set (r4 : Int).toNat (((([] : List (ByteArray × Int)) ++ p0.2.2).getD (r4 : Int).toNat (ByteArray.empty, 0)).1, count2))), 0)
                          else
                            none
                        else
                          (spec_l29Put.f (([] : List (ByteArray × Int)) ++ p0.2.2) article1 count2).bind fun r5 =>
                          (spec_IsPaper.f (p0.1, (p0.2.1, r5))).bind fun r6 =>
                          if (!r6) = true then
                            some ((ByteArray.empty, (0, [])), 3)
                          else
                            some ((p0.1, (p0.2.1, r5)), 0)
                      else
                        none
                    ) (
                      if ([] : List (ByteArray × Int)).length + p0.2.2.length < room 24 then
                        if (decide ((0 : Int) ≤ r4)) = true then
                          if (0 : Int) ≤ r4 ∧ (r4 : Int) < (([] : List (ByteArray × Int)) ++ p0.2.2).length then
                            some ((p0.1, (p0.2.1, (([] : List (ByteArray × Int)) ++ p0.2.2).set (r4 : Int).toNat (((([] : List (ByteArray × Int)) ++ p0.2.2).getD (r4 : Int).toNat (ByteArray.empty, 0)).1, count2))), 0)
                          else
                            none
                        else
                          (spec_l29Put.f (([] : List (ByteArray × Int)) ++ p0.2.2) article1 count2).bind fun r5 =>
                          (spec_IsPaper.f (p0.1, (p0.2.1, r5))).bind fun r6 =>
                          if (!r6) = true then
                            some ((ByteArray.empty, (0, [])), 3)
                          else
                            some ((p0.1, (p0.2.1, r5)), 0)
                      else
                        none
                    )
                  )
                )
              )
            ) (
              agree (
                agree (
                  agree (
                    agree (
                      if ([] : List (ByteArray × Int)).length + p0.2.2.length < room 24 then
                        if (decide ((0 : Int) ≤ r4)) = true then
                          if (0 : Int) ≤ r4 ∧ (r4 : Int) < (([] : List (ByteArray × Int)) ++ p0.2.2).length then
                            some ((p0.1, (p0.2.1, (([] : List (ByteArray × Int)) ++ p0.2.2).set (r4 : Int).toNat (((([] : List (ByteArray × Int)) ++ p0.2.2).getD (r4 : Int).toNat (ByteArray.empty, 0)).1, count2))), 0)
                          else
                            none
                        else
                          (spec_l29Put.f (([] : List (ByteArray × Int)) ++ p0.2.2) article1 count2).bind fun r5 =>
                          (spec_IsPaper.f (p0.1, (p0.2.1, r5))).bind fun r6 =>
                          if (!r6) = true then
                            some ((ByteArray.empty, (0, [])), 3)
                          else
                            some ((p0.1, (p0.2.1, r5)), 0)
                      else
                        none
                    ) (
                      if ([] : List (ByteArray × Int)).length + p0.2.2.length < room 24 then
                        if (decide ((0 : Int) ≤ r4)) = true then
                          if (0 : Int) ≤ r4 ∧ (r4 : Int) < (([] : List (ByteArray × Int)) ++ p0.2.2).length then
                            some ((p0.1, (p0.2.1, (([] : List (ByteArray × Int)) ++ p0.2.2).set (r4 : Int).toNat (((([] : List (ByteArray × Int)) ++ p0.2.2).getD (r4 : Int).toNat (ByteArray.empty, 0)).1, count2))), 0)
                          else
                            none
                        else
                          (spec_l29Put.f (([] : List (ByteArray × Int)) ++ p0.2.2) article1 count2).bind fun r5 =>
                          (spec_IsPaper.f (p0.1, (p0.2.1, r5))).bind fun r6 =>
                          if (!r6) = true then
                            some ((ByteArray.empty, (0, [])), 3)
                          else
                            some ((p0.1, (p0.2.1, r5)), 0)
                      else
                        none
                    )
                  ) (
                    if ([] : List (ByteArray × Int)).length + p0.2.2.length < room 24 then
                      if (decide ((0 : Int) ≤ r4)) = true then
                        if (0 : Int) ≤ r4 ∧ (r4 : Int) < (([] : List (ByteArray × Int)) ++ p0.2.2).length then
                          some ((p0.1, (p0.2.1, (([] : List (ByteArray × Int)) ++ p0.2.2).set (r4 : Int).toNat (((([] : List (ByteArray × Int)) ++ p0.2.2).getD (r4 : Int).toNat (ByteArray.empty, 0)).1, count2))), 0)
                        else
                          none
                      else
                        (spec_l29Put.f (([] : List (ByteArray × Int)) ++ p0.2.2) article1 count2).bind fun r5 =>
                        (spec_IsPaper.f (p0.1, (p0.2.1, r5))).bind fun r6 =>
                        if (!r6) = true then
                          some ((ByteArray.empty, (0, [])), 3)
                        else
                          some ((p0.1, (p0.2.1, r5)), 0)
                    else
                      none
                  )
                ) (
                  agree (
                    agree (
                      agree (
                        if ([] : List (ByteArray × Int)).length + p0.2.2.length < room 24 then
                          if (decide ((0 : Int) ≤ r4)) = true then
                            if (0 : Int) ≤ r4 ∧ (r4 : Int) < (([] : List (ByteArray × Int)) ++ p0.2.2).length then
                              some ((p0.1, (p0.2.1, (([] : List (ByteArray × Int)) ++ p0.2.2).set (r4 : Int).toNat (((([] : List (ByteArray × Int)) ++ p0.2.2).getD (r4 : Int).toNat (ByteArray.empty, 0)).1, count2))), 0)
                            else
                              none
                          else
                            (spec_l29Put.f (([] : List (ByteArray × Int)) ++ p0.2.2) article1 count2).bind fun r5 =>
                            (spec_IsPaper.f (p0.1, (p0.2.1, r5))).bind fun r6 =>
                            if (!r6) = true then
                              some ((ByteArray.empty, (0, [])), 3)
                            else
                              some ((p0.1, (p0.2.1, r5)), 0)
                        else
                          none
                      ) (
                        if ([] : List (ByteArray × Int)).length + p0.2.2.length < room 24 then
                          if (decide ((0 : Int) ≤ r4)) = true then
                            if (0 : Int) ≤ r4 ∧ (r4 : Int) < (([] : List (ByteArray × Int)) ++ p0.2.2).length then
                              some ((p0.1, (p0.2.1, (([] : List (ByteArray × Int)) ++ p0.2.2).set (r4 : Int).toNat (((([] : List (ByteArray × Int)) ++ p0.2.2).getD (r4 : Int).toNat (ByteArray.empty, 0)).1, count2))), 0)
                            else
                              none
                          else
                            (spec_l29Put.f (([] : List (ByteArray × Int)) ++ p0.2.2) article1 count2).bind fun r5 =>
                            (spec_IsPaper.f (p0.1, (p0.2.1, r5))).bind fun r6 =>
                            if (!r6) = true then
                              some ((ByteArray.empty, (0, [])), 3)
                            else
                              some ((p0.1, (p0.2.1, r5)), 0)
                        else
                          none
                      )
                    ) (
                      agree (
                        if ([] : List (ByteArray × Int)).length + p0.2.2.length < room 24 then
                          if (decide ((0 : Int) ≤ r4)) = true then
                            if (0 : Int) ≤ r4 ∧ (r4 : Int) < (([] : List (ByteArray × Int)) ++ p0.2.2).length then
                              some ((p0.1, (p0.2.1, (([] : List (ByteArray × Int)) ++ p0.2.2).set (r4 : Int).toNat (((([] : List (ByteArray × Int)) ++ p0.2.2).getD (r4 : Int).toNat (ByteArray.empty, 0)).1, count2))), 0)
                            else
                              none
                          else
                            (spec_l29Put.f (([] : List (ByteArray × Int)) ++ p0.2.2) article1 count2).bind fun r5 =>
                            (spec_IsPaper.f (p0.1, (p0.2.1, r5))).bind fun r6 =>
                            if (!r6) = true then
                              some ((ByteArray.empty, (0, [])), 3)
                            else
                              some ((p0.1, (p0.2.1, r5)), 0)
                        else
                          none
                      ) (
                        agree (
                          if ([] : List (ByteArray × Int)).length + p0.2.2.length < room 24 then
                            if (decide ((0 : Int) ≤ r4)) = true then
                              if (0 : Int) ≤ r4 ∧ (r4 : Int) < (([] : List (ByteArray × Int)) ++ p0.2.2).length then
                                some ((p0.1, (p0.2.1, (([] : List (ByteArray × Int)) ++ p0.2.2).set (r4 : Int).toNat (((([] : List (ByteArray × Int)) ++ p0.2.2).getD (r4 : Int).toNat (ByteArray.empty, 0)).1, count2))), 0)
                              else
                                none
                            else
                              (spec_l29Put.f (([] : List (ByteArray × Int)) ++ p0.2.2) article1 count2).bind fun r5 =>
                              (spec_IsPaper.f (p0.1, (p0.2.1, r5))).bind fun r6 =>
                              if (!r6) = true then
                                some ((ByteArray.empty, (0, [])), 3)
                              else
                                some ((p0.1, (p0.2.1, r5)), 0)
                          else
                            none
                        ) (
                          if ([] : List (ByteArray × Int)).length + p0.2.2.length < room 24 then
                            if (decide ((0 : Int) ≤ r4)) = true then
                              if (0 : Int) ≤ r4 ∧ (r4 : Int) < (([] : List (ByteArray × Int)) ++ p0.2.2).length then
                                some ((p0.1, (p0.2.1, (([] : List (ByteArray × Int)) ++ p0.2.2).set (r4 : Int).toNat (((([] : List (ByteArray × Int)) ++ p0.2.2).getD (r4 : Int).toNat (ByteArray.empty, 0)).1, count2))), 0)
                              else
                                none
                            else
                              (spec_l29Put.f (([] : List (ByteArray × Int)) ++ p0.2.2) article1 count2).bind fun r5 =>
                              (spec_IsPaper.f (p0.1, (p0.2.1, r5))).bind fun r6 =>
                              if (!r6) = true then
                                some ((ByteArray.empty, (0, [])), 3)
                              else
                                some ((p0.1, (p0.2.1, r5)), 0)
                          else
                            none
                        )
                      )
                    )
                  ) (
                    agree (
                      if ([] : List (ByteArray × Int)).length + p0.2.2.length < room 24 then
                        if (decide ((0 : Int) ≤ r4)) = true then
                          if (0 : Int) ≤ r4 ∧ (r4 : Int) < (([] : List (ByteArray × Int)) ++ p0.2.2).length then
                            some ((p0.1, (p0.2.1, (([] : List (ByteArray × Int)) ++ p0.2.2).set (r4 : Int).toNat (((([] : List (ByteArray × Int)) ++ p0.2.2).getD (r4 : Int).toNat (ByteArray.empty, 0)).1, count2))), 0)
                          else
                            none
                        else
                          (spec_l29Put.f (([] : List (ByteArray × Int)) ++ p0.2.2) article1 count2).bind fun r5 =>
                          (spec_IsPaper.f (p0.1, (p0.2.1, r5))).bind fun r6 =>
                          if (!r6) = true then
                            some ((ByteArray.empty, (0, [])), 3)
                          else
                            some ((p0.1, (p0.2.1, r5)), 0)
                      else
                        none
                    ) (
                      agree (
                        if ([] : List (ByteArray × Int)).length + p0.2.2.length < room 24 then
                          if (decide ((0 : Int) ≤ r4)) = true then
                            if (0 : Int) ≤ r4 ∧ (r4 : Int) < (([] : List (ByteArray × Int)) ++ p0.2.2).length then
                              some ((p0.1, (p0.2.1, (([] : List (ByteArray × Int)) ++ p0.2.2).set (r4 : Int).toNat (((([] : List (ByteArray × Int)) ++ p0.2.2).getD (r4 : Int).toNat (ByteArray.empty, 0)).1, count2))), 0)
                            else
                              none
                          else
                            (spec_l29Put.f (([] : List (ByteArray × Int)) ++ p0.2.2) article1 count2).bind fun r5 =>
                            (spec_IsPaper.f (p0.1, (p0.2.1, r5))).bind fun r6 =>
                            if (!r6) = true then
                              some ((ByteArray.empty, (0, [])), 3)
                            else
                              some ((p0.1, (p0.2.1, r5)), 0)
                        else
                          none
                      ) (
                        if ([] : List (ByteArray × Int)).length + p0.2.2.length < room 24 then
                          if (decide ((0 : Int) ≤ r4)) = true then
                            if (0 : Int) ≤ r4 ∧ (r4 : Int) < (([] : List (ByteArray × Int)) ++ p0.2.2).length then
                              some ((p0.1, (p0.2.1, (([] : List (ByteArray × Int)) ++ p0.2.2).set (r4 : Int).toNat (((([] : List (ByteArray × Int)) ++ p0.2.2).getD (r4 : Int).toNat (ByteArray.empty, 0)).1, count2))), 0)
                            else
                              none
                          else
                            (spec_l29Put.f (([] : List (ByteArray × Int)) ++ p0.2.2) article1 count2).bind fun r5 =>
                            (spec_IsPaper.f (p0.1, (p0.2.1, r5))).bind fun r6 =>
                            if (!r6) = true then
                              some ((ByteArray.empty, (0, [])), 3)
                            else
                              some ((p0.1, (p0.2.1, r5)), 0)
                        else
                          none
                      )
                    )
                  )
                )
              ) (
                agree (
                  agree (
                    if ([] : List (ByteArray × Int)).length + p0.2.2.length < room 24 then
                      if (decide ((0 : Int) ≤ r4)) = true then
                        if (0 : Int) ≤ r4 ∧ (r4 : Int) < (([] : List (ByteArray × Int)) ++ p0.2.2).length then
                          some ((p0.1, (p0.2.1, (([] : List (ByteArray × Int)) ++ p0.2.2).set (r4 : Int).toNat (((([] : List (ByteArray × Int)) ++ p0.2.2).getD (r4 : Int).toNat (ByteArray.empty, 0)).1, count2))), 0)
                        else
                          none
                      else
                        (spec_l29Put.f (([] : List (ByteArray × Int)) ++ p0.2.2) article1 count2).bind fun r5 =>
                        (spec_IsPaper.f (p0.1, (p0.2.1, r5))).bind fun r6 =>
                        if (!r6) = true then
                          some ((ByteArray.empty, (0, [])), 3)
                        else
                          some ((p0.1, (p0.2.1, r5)), 0)
                    else
                      none
                  ) (
                    if ([] : List (ByteArray × Int)).length + p0.2.2.length < room 24 then
                      if (decide ((0 : Int) ≤ r4)) = true then
                        if (0 : Int) ≤ r4 ∧ (r4 : Int) < (([] : List (ByteArray × Int)) ++ p0.2.2).length then
                          some ((p0.1, (p0.2.1, (([] : List (ByteArray × Int)) ++ p0.2.2).set (r4 : Int).toNat (((([] : List (ByteArray × Int)) ++ p0.2.2).getD (r4 : Int).toNat (ByteArray.empty, 0)).1, count2))), 0)
                        else
                          none
                      else
                        (spec_l29Put.f (([] : List (ByteArray × Int)) ++ p0.2.2) article1 count2).bind fun r5 =>
                        (spec_IsPaper.f (p0.1, (p0.2.1, r5))).bind fun r6 =>
                        if (!r6) = true then
                          some ((ByteArray.empty, (0, [])), 3)
                        else
                          some ((p0.1, (p0.2.1, r5)), 0)
                    else
                      none
                  )
                ) (
                  agree (
                    agree (
                      if ([] : List (ByteArray × Int)).length + p0.2.2.length < room 24 then
                        if (decide ((0 : Int) ≤ r4)) = true then
                          if (0 : Int) ≤ r4 ∧ (r4 : Int) < (([] : List (ByteArray × Int)) ++ p0.2.2).length then
                            some ((p0.1, (p0.2.1, (([] : List (ByteArray × Int)) ++ p0.2.2).set (r4 : Int).toNat (((([] : List (ByteArray × Int)) ++ p0.2.2).getD (r4 : Int).toNat (ByteArray.empty, 0)).1, count2))), 0)
                          else
                            none
                        else
                          (spec_l29Put.f (([] : List (ByteArray × Int)) ++ p0.2.2) article1 count2).bind fun r5 =>
                          (spec_IsPaper.f (p0.1, (p0.2.1, r5))).bind fun r6 =>
                          if (!r6) = true then
                            some ((ByteArray.empty, (0, [])), 3)
                          else
                            some ((p0.1, (p0.2.1, r5)), 0)
                      else
                        none
                    ) (
                      agree (
                        if ([] : List (ByteArray × Int)).length + p0.2.2.length < room 24 then
                          if (decide ((0 : Int) ≤ r4)) = true then
                            if (0 : Int) ≤ r4 ∧ (r4 : Int) < (([] : List (ByteArray × Int)) ++ p0.2.2).length then
                              some ((p0.1, (p0.2.1, (([] : List (ByteArray × Int)) ++ p0.2.2).set (r4 : Int).toNat (((([] : List (ByteArray × Int)) ++ p0.2.2).getD (r4 : Int).toNat (ByteArray.empty, 0)).1, count2))), 0)
                            else
                              none
                          else
                            (spec_l29Put.f (([] : List (ByteArray × Int)) ++ p0.2.2) article1 count2).bind fun r5 =>
                            (spec_IsPaper.f (p0.1, (p0.2.1, r5))).bind fun r6 =>
                            if (!r6) = true then
                              some ((ByteArray.empty, (0, [])), 3)
                            else
                              some ((p0.1, (p0.2.1, r5)), 0)
                        else
                          none
                      ) (
                        if ([] : List (ByteArray × Int)).length + p0.2.2.length < room 24 then
                          if (decide ((0 : Int) ≤ r4)) = true then
                            if (0 : Int) ≤ r4 ∧ (r4 : Int) < (([] : List (ByteArray × Int)) ++ p0.2.2).length then
                              some ((p0.1, (p0.2.1, (([] : List (ByteArray × Int)) ++ p0.2.2).set (r4 : Int).toNat (((([] : List (ByteArray × Int)) ++ p0.2.2).getD (r4 : Int).toNat (ByteArray.empty, 0)).1, count2))), 0)
                            else
                              none
                          else
                            (spec_l29Put.f (([] : List (ByteArray × Int)) ++ p0.2.2) article1 count2).bind fun r5 =>
                            (spec_IsPaper.f (p0.1, (p0.2.1, r5))).bind fun r6 =>
                            if (!r6) = true then
                              some ((ByteArray.empty, (0, [])), 3)
                            else
                              some ((p0.1, (p0.2.1, r5)), 0)
                        else
                          none
                      )
                    )
                  ) (
                    agree (
                      if ([] : List (ByteArray × Int)).length + p0.2.2.length < room 24 then
                        if (decide ((0 : Int) ≤ r4)) = true then
                          if (0 : Int) ≤ r4 ∧ (r4 : Int) < (([] : List (ByteArray × Int)) ++ p0.2.2).length then
                            some ((p0.1, (p0.2.1, (([] : List (ByteArray × Int)) ++ p0.2.2).set (r4 : Int).toNat (((([] : List (ByteArray × Int)) ++ p0.2.2).getD (r4 : Int).toNat (ByteArray.empty, 0)).1, count2))), 0)
                          else
                            none
                        else
                          (spec_l29Put.f (([] : List (ByteArray × Int)) ++ p0.2.2) article1 count2).bind fun r5 =>
                          (spec_IsPaper.f (p0.1, (p0.2.1, r5))).bind fun r6 =>
                          if (!r6) = true then
                            some ((ByteArray.empty, (0, [])), 3)
                          else
                            some ((p0.1, (p0.2.1, r5)), 0)
                      else
                        none
                    ) (
                      agree (
                        if ([] : List (ByteArray × Int)).length + p0.2.2.length < room 24 then
                          if (decide ((0 : Int) ≤ r4)) = true then
                            if (0 : Int) ≤ r4 ∧ (r4 : Int) < (([] : List (ByteArray × Int)) ++ p0.2.2).length then
                              some ((p0.1, (p0.2.1, (([] : List (ByteArray × Int)) ++ p0.2.2).set (r4 : Int).toNat (((([] : List (ByteArray × Int)) ++ p0.2.2).getD (r4 : Int).toNat (ByteArray.empty, 0)).1, count2))), 0)
                            else
                              none
                          else
                            (spec_l29Put.f (([] : List (ByteArray × Int)) ++ p0.2.2) article1 count2).bind fun r5 =>
                            (spec_IsPaper.f (p0.1, (p0.2.1, r5))).bind fun r6 =>
                            if (!r6) = true then
                              some ((ByteArray.empty, (0, [])), 3)
                            else
                              some ((p0.1, (p0.2.1, r5)), 0)
                        else
                          none
                      ) (
                        if ([] : List (ByteArray × Int)).length + p0.2.2.length < room 24 then
                          if (decide ((0 : Int) ≤ r4)) = true then
                            if (0 : Int) ≤ r4 ∧ (r4 : Int) < (([] : List (ByteArray × Int)) ++ p0.2.2).length then
                              some ((p0.1, (p0.2.1, (([] : List (ByteArray × Int)) ++ p0.2.2).set (r4 : Int).toNat (((([] : List (ByteArray × Int)) ++ p0.2.2).getD (r4 : Int).toNat (ByteArray.empty, 0)).1, count2))), 0)
                            else
                              none
                          else
                            (spec_l29Put.f (([] : List (ByteArray × Int)) ++ p0.2.2) article1 count2).bind fun r5 =>
                            (spec_IsPaper.f (p0.1, (p0.2.1, r5))).bind fun r6 =>
                            if (!r6) = true then
                              some ((ByteArray.empty, (0, [])), 3)
                            else
                              some ((p0.1, (p0.2.1, r5)), 0)
                        else
                          none
                      )
                    )
                  )
                )
              )
            )
          )
        ) (
          agree (
            agree (
              agree (
                agree (
                  agree (
                    if ([] : List (ByteArray × Int)).length + p0.2.2.length < room 24 then
                      if (decide ((0 : Int) ≤ r4)) = true then
                        if (0 : Int) ≤ r4 ∧ (r4 : Int) < (([] : List (ByteArray × Int)) ++ p0.2.2).length then
                          some ((p0.1, (p0.2.1, (([] : List (ByteArray × Int)) ++ p0.2.2).set (r4 : Int).toNat (((([] : List (ByteArray × Int)) ++ p0.2.2).getD (r4 : Int).toNat (ByteArray.empty, 0)).1, count2))), 0)
                        else
                          none
                      else
                        (spec_l29Put.f (([] : List (ByteArray × Int)) ++ p0.2.2) article1 count2).bind fun r5 =>
                        (spec_IsPaper.f (p0.1, (p0.2.1, r5))).bind fun r6 =>
                        if (!r6) = true then
                          some ((ByteArray.empty, (0, [])), 3)
                        else
                          some ((p0.1, (p0.2.1, r5)), 0)
                    else
                      none
                  ) (
                    if ([] : List (ByteArray × Int)).length + p0.2.2.length < room 24 then
                      if (decide ((0 : Int) ≤ r4)) = true then
                        if (0 : Int) ≤ r4 ∧ (r4 : Int) < (([] : List (ByteArray × Int)) ++ p0.2.2).length then
                          some ((p0.1, (p0.2.1, (([] : List (ByteArray × Int)) ++ p0.2.2).set (r4 : Int).toNat (((([] : List (ByteArray × Int)) ++ p0.2.2).getD (r4 : Int).toNat (ByteArray.empty, 0)).1, count2))), 0)
                        else
                          none
                      else
                        (spec_l29Put.f (([] : List (ByteArray × Int)) ++ p0.2.2) article1 count2).bind fun r5 =>
                        (spec_IsPaper.f (p0.1, (p0.2.1, r5))).bind fun r6 =>
                        if (!r6) = true then
                          some ((ByteArray.empty, (0, [])), 3)
                        else
                          some ((p0.1, (p0.2.1, r5)), 0)
                    else
                      none
                  )
                ) (
                  if ([] : List (ByteArray × Int)).length + p0.2.2.length < room 24 then
                    if (decide ((0 : Int) ≤ r4)) = true then
                      if (0 : Int) ≤ r4 ∧ (r4 : Int) < (([] : List (ByteArray × Int)) ++ p0.2.2).length then
                        some ((p0.1, (p0.2.1, (([] : List (ByteArray × Int)) ++ p0.2.2).set (r4 : Int).toNat (((([] : List (ByteArray × Int)) ++ p0.2.2).getD (r4 : Int).toNat (ByteArray.empty, 0)).1, count2))), 0)
                      else
                        none
                    else
                      (spec_l29Put.f (([] : List (ByteArray × Int)) ++ p0.2.2) article1 count2).bind fun r5 =>
                      (spec_IsPaper.f (p0.1, (p0.2.1, r5))).bind fun r6 =>
                      if (!r6) = true then
                        some ((ByteArray.empty, (0, [])), 3)
                      else
                        some ((p0.1, (p0.2.1, r5)), 0)
                  else
                    none
                )
              ) (
                agree (
                  agree (
                    agree (
                      if ([] : List (ByteArray × Int)).length + p0.2.2.length < room 24 then
                        if (decide ((0 : Int) ≤ r4)) = true then
                          if (0 : Int) ≤ r4 ∧ (r4 : Int) < (([] : List (ByteArray × Int)) ++ p0.2.2).length then
                            some ((p0.1, (p0.2.1, (([] : List (ByteArray × Int)) ++ p0.2.2).set (r4 : Int).toNat (((([] : List (ByteArray × Int)) ++ p0.2.2).getD (r4 : Int).toNat (ByteArray.empty, 0)).1, count2))), 0)
                          else
                            none
                        else
                          (spec_l29Put.f (([] : List (ByteArray × Int)) ++ p0.2.2) article1 count2).bind fun r5 =>
                          (spec_IsPaper.f (p0.1, (p0.2.1, r5))).bind fun r6 =>
                          if (!r6) = true then
                            some ((ByteArray.empty, (0, [])), 3)
                          else
                            some ((p0.1, (p0.2.1, r5)), 0)
                      else
                        none
                    ) (
                      if ([] : List (ByteArray × Int)).length + p0.2.2.length < room 24 then
                        if (decide ((0 : Int) ≤ r4)) = true then
                          if (0 : Int) ≤ r4 ∧ (r4 : Int) < (([] : List (ByteArray × Int)) ++ p0.2.2).length then
                            some ((p0.1, (p0.2.1, (([] : List (ByteArray × Int)) ++ p0.2.2).set (r4 : Int).toNat (((([] : List (ByteArray × Int)) ++ p0.2.2).getD (r4 : Int).toNat (ByteArray.empty, 0)).1, count2))), 0)
                          else
                            none
                        else
                          (spec_l29Put.f (([] : List (ByteArray × Int)) ++ p0.2.2) article1 count2).bind fun r5 =>
                          (spec_IsPaper.f (p0.1, (p0.2.1, r5))).bind fun r6 =>
                          if (!r6) = true then
                            some ((ByteArray.empty, (0, [])), 3)
                          else
                            some ((p0.1, (p0.2.1, r5)), 0)
                      else
                        none
                    )
                  ) (
                    if ([] : List (ByteArray × Int)).length + p0.2.2.length < room 24 then
                      if (decide ((0 : Int) ≤ r4)) = true then
                        if (0 : Int) ≤ r4 ∧ (r4 : Int) < (([] : List (ByteArray × Int)) ++ p0.2.2).length then
                          some ((p0.1, (p0.2.1, (([] : List (ByteArray × Int)) ++ p0.2.2).set (r4 : Int).toNat (((([] : List (ByteArray × Int)) ++ p0.2.2).getD (r4 : Int).toNat (ByteArray.empty, 0)).1, count2))), 0)
                        else
                          none
                      else
                        (spec_l29Put.f (([] : List (ByteArray × Int)) ++ p0.2.2) article1 count2).bind fun r5 =>
                        (spec_IsPaper.f (p0.1, (p0.2.1, r5))).bind fun r6 =>
                        if (!r6) = true then
                          some ((ByteArray.empty, (0, [])), 3)
                        else
                          some ((p0.1, (p0.2.1, r5)), 0)
                    else
                      none
                  )
                ) (
                  agree (
                    if ([] : List (ByteArray × Int)).length + p0.2.2.length < room 24 then
                      if (decide ((0 : Int) ≤ r4)) = true then
                        if (0 : Int) ≤ r4 ∧ (r4 : Int) < (([] : List (ByteArray × Int)) ++ p0.2.2).length then
                          some ((p0.1, (p0.2.1, (([] : List (ByteArray × Int)) ++ p0.2.2).set (r4 : Int).toNat (((([] : List (ByteArray × Int)) ++ p0.2.2).getD (r4 : Int).toNat (ByteArray.empty, 0)).1, count2))), 0)
                        else
                          none
                      else
                        (spec_l29Put.f (([] : List (ByteArray × Int)) ++ p0.2.2) article1 count2).bind fun r5 =>
                        (spec_IsPaper.f (p0.1, (p0.2.1, r5))).bind fun r6 =>
                        if (!r6) = true then
                          some ((ByteArray.empty, (0, [])), 3)
                        else
                          some ((p0.1, (p0.2.1, r5)), 0)
                    else
                      none
                  ) (
                    if ([] : List (ByteArray × Int)).length + p0.2.2.length < room 24 then
                      if (decide ((0 : Int) ≤ r4)) = true then
                        if (0 : Int) ≤ r4 ∧ (r4 : Int) < (([] : List (ByteArray × Int)) ++ p0.2.2).length then
                          some ((p0.1, (p0.2.1, (([] : List (ByteArray × Int)) ++ p0.2.2).set (r4 : Int).toNat (((([] : List (ByteArray × Int)) ++ p0.2.2).getD (r4 : Int).toNat (ByteArray.empty, 0)).1, count2))), 0)
                        else
                          none
                      else
                        (spec_l29Put.f (([] : List (ByteArray × Int)) ++ p0.2.2) article1 count2).bind fun r5 =>
                        (spec_IsPaper.f (p0.1, (p0.2.1, r5))).bind fun r6 =>
                        if (!r6) = true then
                          some ((ByteArray.empty, (0, [])), 3)
                        else
                          some ((p0.1, (p0.2.1, r5)), 0)
                    else
                      none
                  )
                )
              )
            ) (
              agree (
                agree (
                  agree (
                    agree (
                      if ([] : List (ByteArray × Int)).length + p0.2.2.length < room 24 then
                        if (decide ((0 : Int) ≤ r4)) = true then
                          if (0 : Int) ≤ r4 ∧ (r4 : Int) < (([] : List (ByteArray × Int)) ++ p0.2.2).length then
                            some ((p0.1, (p0.2.1, (([] : List (ByteArray × Int)) ++ p0.2.2).set (r4 : Int).toNat (((([] : List (ByteArray × Int)) ++ p0.2.2).getD (r4 : Int).toNat (ByteArray.empty, 0)).1, count2))), 0)
                          else
                            none
                        else
                          (spec_l29Put.f (([] : List (ByteArray × Int)) ++ p0.2.2) article1 count2).bind fun r5 =>
                          (spec_IsPaper.f (p0.1, (p0.2.1, r5))).bind fun r6 =>
                          if (!r6) = true then
                            some ((ByteArray.empty, (0, [])), 3)
                          else
                            some ((p0.1, (p0.2.1, r5)), 0)
                      else
                        none
                    ) (
                      if ([] : List (ByteArray × Int)).length + p0.2.2.length < room 24 then
                        if (decide ((0 : Int) ≤ r4)) = true then
                          if (0 : Int) ≤ r4 ∧ (r4 : Int) < (([] : List (ByteArray × Int)) ++ p0.2.2).length then
                            some ((p0.1, (p0.2.1, (([] : List (ByteArray × Int)) ++ p0.2.2).set (r4 : Int).toNat (((([] : List (ByteArray × Int)) ++ p0.2.2).getD (r4 : Int).toNat (ByteArray.empty, 0)).1, count2))), 0)
                          else
                            none
                        else
                          (spec_l29Put.f (([] : List (ByteArray × Int)) ++ p0.2.2) article1 count2).bind fun r5 =>
                          (spec_IsPaper.f (p0.1, (p0.2.1, r5))).bind fun r6 =>
                          if (!r6) = true then
                            some ((ByteArray.empty, (0, [])), 3)
                          else
                            some ((p0.1, (p0.2.1, r5)), 0)
                      else
                        none
                    )
                  ) (
                    if ([] : List (ByteArray × Int)).length + p0.2.2.length < room 24 then
                      if (decide ((0 : Int) ≤ r4)) = true then
                        if (0 : Int) ≤ r4 ∧ (r4 : Int) < (([] : List (ByteArray × Int)) ++ p0.2.2).length then
                          some ((p0.1, (p0.2.1, (([] : List (ByteArray × Int)) ++ p0.2.2).set (r4 : Int).toNat (((([] : List (ByteArray × Int)) ++ p0.2.2).getD (r4 : Int).toNat (ByteArray.empty, 0)).1, count2))), 0)
                        else
                          none
                      else
                        (spec_l29Put.f (([] : List (ByteArray × Int)) ++ p0.2.2) article1 count2).bind fun r5 =>
                        (spec_IsPaper.f (p0.1, (p0.2.1, r5))).bind fun r6 =>
                        if (!r6) = true then
                          some ((ByteArray.empty, (0, [])), 3)
                        else
                          some ((p0.1, (p0.2.1, r5)), 0)
                    else
                      none
                  )
                ) (
                  agree (
                    agree (
                      agree (
                        if ([] : List (ByteArray × Int)).length + p0.2.2.length < room 24 then
                          if (decide ((0 : Int) ≤ r4)) = true then
                            if (0 : Int) ≤ r4 ∧ (r4 : Int) < (([] : List (ByteArray × Int)) ++ p0.2.2).length then
                              some ((p0.1, (p0.2.1, (([] : List (ByteArray × Int)) ++ p0.2.2).set (r4 : Int).toNat (((([] : List (ByteArray × Int)) ++ p0.2.2).getD (r4 : Int).toNat (ByteArray.empty, 0)).1, count2))), 0)
                            else
                              none
                          else
                            (spec_l29Put.f (([] : List (ByteArray × Int)) ++ p0.2.2) article1 count2).bind fun r5 =>
                            (spec_IsPaper.f (p0.1, (p0.2.1, r5))).bind fun r6 =>
                            if (!r6) = true then
                              some ((ByteArray.empty, (0, [])), 3)
                            else
                              some ((p0.1, (p0.2.1, r5)), 0)
                        else
                          none
                      ) (
                        if ([] : List (ByteArray × Int)).length + p0.2.2.length < room 24 then
                          if (decide ((0 : Int) ≤ r4)) = true then
                            if (0 : Int) ≤ r4 ∧ (r4 : Int) < (([] : List (ByteArray × Int)) ++ p0.2.2).length then
                              some ((p0.1, (p0.2.1, (([] : List (ByteArray × Int)) ++ p0.2.2).set (r4 : Int).toNat (((([] : List (ByteArray × Int)) ++ p0.2.2).getD (r4 : Int).toNat (ByteArray.empty, 0)).1, count2))), 0)
                            else
                              none
                          else
                            (spec_l29Put.f (([] : List (ByteArray × Int)) ++ p0.2.2) article1 count2).bind fun r5 =>
                            (spec_IsPaper.f (p0.1, (p0.2.1, r5))).bind fun r6 =>
                            if (!r6) = true then
                              some ((ByteArray.empty, (0, [])), 3)
                            else
                              some ((p0.1, (p0.2.1, r5)), 0)
                        else
                          none
                      )
                    ) (
                      agree (
                        if ([] : List (ByteArray × Int)).length + p0.2.2.length < room 24 then
                          if (decide ((0 : Int) ≤ r4)) = true then
                            if (0 : Int) ≤ r4 ∧ (r4 : Int) < (([] : List (ByteArray × Int)) ++ p0.2.2).length then
                              some ((p0.1, (p0.2.1, (([] : List (ByteArray × Int)) ++ p0.2.2).set (r4 : Int).toNat (((([] : List (ByteArray × Int)) ++ p0.2.2).getD (r4 : Int).toNat (ByteArray.empty, 0)).1, count2))), 0)
                            else
                              none
                          else
                            (spec_l29Put.f (([] : List (ByteArray × Int)) ++ p0.2.2) article1 count2).bind fun r5 =>
                            (spec_IsPaper.f (p0.1, (p0.2.1, r5))).bind fun r6 =>
                            if (!r6) = true then
                              some ((ByteArray.empty, (0, [])), 3)
                            else
                              some ((p0.1, (p0.2.1, r5)), 0)
                        else
                          none
                      ) (
                        agree (
                          if ([] : List (ByteArray × Int)).length + p0.2.2.length < room 24 then
                            if (decide ((0 : Int) ≤ r4)) = true then
                              if (0 : Int) ≤ r4 ∧ (r4 : Int) < (([] : List (ByteArray × Int)) ++ p0.2.2).length then
                                some ((p0.1, (p0.2.1, (([] : List (ByteArray × Int)) ++ p0.2.2).set (r4 : Int).toNat (((([] : List (ByteArray × Int)) ++ p0.2.2).getD (r4 : Int).toNat (ByteArray.empty, 0)).1, count2))), 0)
                              else
                                none
                            else
                              (spec_l29Put.f (([] : List (ByteArray × Int)) ++ p0.2.2) article1 count2).bind fun r5 =>
                              (spec_IsPaper.f (p0.1, (p0.2.1, r5))).bind fun r6 =>
                              if (!r6) = true then
                                some ((ByteArray.empty, (0, [])), 3)
                              else
                                some ((p0.1, (p0.2.1, r5)), 0)
                          else
                            none
                        ) (
                          if ([] : List (ByteArray × Int)).length + p0.2.2.length < room 24 then
                            if (decide ((0 : Int) ≤ r4)) = true then
                              if (0 : Int) ≤ r4 ∧ (r4 : Int) < (([] : List (ByteArray × Int)) ++ p0.2.2).length then
                                some ((p0.1, (p0.2.1, (([] : List (ByteArray × Int)) ++ p0.2.2).set (r4 : Int).toNat (((([] : List (ByteArray × Int)) ++ p0.2.2).getD (r4 : Int).toNat (ByteArray.empty, 0)).1, count2))), 0)
                              else
                                none
                            else
                              (spec_l29Put.f (([] : List (ByteArray × Int)) ++ p0.2.2) article1 count2).bind fun r5 =>
                              (spec_IsPaper.f (p0.1, (p0.2.1, r5))).bind fun r6 =>
                              if (!r6) = true then
                                some ((ByteArray.empty, (0, [])), 3)
                              else
                                some ((p0.1, (p0.2.1, r5)), 0)
                          else
                            none
                        )
                      )
                    )
                  ) (
                    agree (
                      if ([] : List (ByteArray × Int)).length + p0.2.2.length < room 24 then
                        if (decide ((0 : Int) ≤ r4)) = true then
                          if (0 : Int) ≤ r4 ∧ (r4 : Int) < (([] : List (ByteArray × Int)) ++ p0.2.2).length then
                            some ((p0.1, (p0.2.1, (([] : List (ByteArray × Int)) ++ p0.2.2).set (r4 : Int).toNat (((([] : List (ByteArray × Int)) ++ p0.2.2).getD (r4 : Int).toNat (ByteArray.empty, 0)).1, count2))), 0)
                          else
                            none
                        else
                          (spec_l29Put.f (([] : List (ByteArray × Int)) ++ p0.2.2) article1 count2).bind fun r5 =>
                          (spec_IsPaper.f (p0.1, (p0.2.1, r5))).bind fun r6 =>
                          if (!r6) = true then
                            some ((ByteArray.empty, (0, [])), 3)
                          else
                            some ((p0.1, (p0.2.1, r5)), 0)
                      else
                        none
                    ) (
                      agree (
                        if ([] : List (ByteArray × Int)).length + p0.2.2.length < room 24 then
                          if (decide ((0 : Int) ≤ r4)) = true then
                            if (0 : Int) ≤ r4 ∧ (r4 : Int) < (([] : List (ByteArray × Int)) ++ p0.2.2).length then
                              some ((p0.1, (p0.2.1, (([] : List (ByteArray × Int)) ++ p0.2.2).set (r4 : Int).toNat (((([] : List (ByteArray × Int)) ++ p0.2.2).getD (r4 : Int).toNat (ByteArray.empty, 0)).1, count2))), 0)
                            else
                              none
                          else
                            (spec_l29Put.f (([] : List (ByteArray × Int)) ++ p0.2.2) article1 count2).bind fun r5 =>
                            (spec_IsPaper.f (p0.1, (p0.2.1, r5))).bind fun r6 =>
                            if (!r6) = true then
                              some ((ByteArray.empty, (0, [])), 3)
                            else
                              some ((p0.1, (p0.2.1, r5)), 0)
                        else
                          none
                      ) (
                        if ([] : List (ByteArray × Int)).length + p0.2.2.length < room 24 then
                          if (decide ((0 : Int) ≤ r4)) = true then
                            if (0 : Int) ≤ r4 ∧ (r4 : Int) < (([] : List (ByteArray × Int)) ++ p0.2.2).length then
                              some ((p0.1, (p0.2.1, (([] : List (ByteArray × Int)) ++ p0.2.2).set (r4 : Int).toNat (((([] : List (ByteArray × Int)) ++ p0.2.2).getD (r4 : Int).toNat (ByteArray.empty, 0)).1, count2))), 0)
                            else
                              none
                          else
                            (spec_l29Put.f (([] : List (ByteArray × Int)) ++ p0.2.2) article1 count2).bind fun r5 =>
                            (spec_IsPaper.f (p0.1, (p0.2.1, r5))).bind fun r6 =>
                            if (!r6) = true then
                              some ((ByteArray.empty, (0, [])), 3)
                            else
                              some ((p0.1, (p0.2.1, r5)), 0)
                        else
                          none
                      )
                    )
                  )
                )
              ) (
                agree (
                  agree (
                    agree (
                      agree (
                        if ([] : List (ByteArray × Int)).length + p0.2.2.length < room 24 then
                          if (decide ((0 : Int) ≤ r4)) = true then
                            if (0 : Int) ≤ r4 ∧ (r4 : Int) < (([] : List (ByteArray × Int)) ++ p0.2.2).length then
                              some ((p0.1, (p0.2.1, (([] : List (ByteArray × Int)) ++ p0.2.2).set (r4 : Int).toNat (((([] : List (ByteArray × Int)) ++ p0.2.2).getD (r4 : Int).toNat (ByteArray.empty, 0)).1, count2))), 0)
                            else
                              none
                          else
                            (spec_l29Put.f (([] : List (ByteArray × Int)) ++ p0.2.2) article1 count2).bind fun r5 =>
                            (spec_IsPaper.f (p0.1, (p0.2.1, r5))).bind fun r6 =>
                            if (!r6) = true then
                              some ((ByteArray.empty, (0, [])), 3)
                            else
                              some ((p0.1, (p0.2.1, r5)), 0)
                        else
                          none
                      ) (
                        if ([] : List (ByteArray × Int)).length + p0.2.2.length < room 24 then
                          if (decide ((0 : Int) ≤ r4)) = true then
                            if (0 : Int) ≤ r4 ∧ (r4 : Int) < (([] : List (ByteArray × Int)) ++ p0.2.2).length then
                              some ((p0.1, (p0.2.1, (([] : List (ByteArray × Int)) ++ p0.2.2).set (r4 : Int).toNat (((([] : List (ByteArray × Int)) ++ p0.2.2).getD (r4 : Int).toNat (ByteArray.empty, 0)).1, count2))), 0)
                            else
                              none
                          else
                            (spec_l29Put.f (([] : List (ByteArray × Int)) ++ p0.2.2) article1 count2).bind fun r5 =>
                            (spec_IsPaper.f (p0.1, (p0.2.1, r5))).bind fun r6 =>
                            if (!r6) = true then
                              some ((ByteArray.empty, (0, [])), 3)
                            else
                              some ((p0.1, (p0.2.1, r5)), 0)
                        else
                          none
                      )
                    ) (
                      if ([] : List (ByteArray × Int)).length + p0.2.2.length < room 24 then
                        if (decide ((0 : Int) ≤ r4)) = true then
                          if (0 : Int) ≤ r4 ∧ (r4 : Int) < (([] : List (ByteArray × Int)) ++ p0.2.2).length then
                            some ((p0.1, (p0.2.1, (([] : List (ByteArray × Int)) ++ p0.2.2).set (r4 : Int).toNat (((([] : List (ByteArray × Int)) ++ p0.2.2).getD (r4 : Int).toNat (ByteArray.empty, 0)).1, count2))), 0)
                          else
                            none
                        else
                          (spec_l29Put.f (([] : List (ByteArray × Int)) ++ p0.2.2) article1 count2).bind fun r5 =>
                          (spec_IsPaper.f (p0.1, (p0.2.1, r5))).bind fun r6 =>
                          if (!r6) = true then
                            some ((ByteArray.empty, (0, [])), 3)
                          else
                            some ((p0.1, (p0.2.1, r5)), 0)
                      else
                        none
                    )
                  ) (
                    agree (
                      agree (
                        agree (
                          if ([] : List (ByteArray × Int)).length + p0.2.2.length < room 24 then
                            if (decide ((0 : Int) ≤ r4)) = true then
                              if (0 : Int) ≤ r4 ∧ (r4 : Int) < (([] : List (ByteArray × Int)) ++ p0.2.2).length then
                                some ((p0.1, (p0.2.1, (([] : List (ByteArray × Int)) ++ p0.2.2).set (r4 : Int).toNat (((([] : List (ByteArray × Int)) ++ p0.2.2).getD (r4 : Int).toNat (ByteArray.empty, 0)).1, count2))), 0)
                              else
                                none
                            else
                              (spec_l29Put.f (([] : List (ByteArray × Int)) ++ p0.2.2) article1 count2).bind fun r5 =>
                              (spec_IsPaper.f (p0.1, (p0.2.1, r5))).bind fun r6 =>
                              if (!r6) = true then
                                some ((ByteArray.empty, (0, [])), 3)
                              else
                                some ((p0.1, (p0.2.1, r5)), 0)
                          else
                            none
                        ) (
                          if ([] : List (ByteArray × Int)).length + p0.2.2.length < room 24 then
                            if (decide ((0 : Int) ≤ r4)) = true then
                              if (0 : Int) ≤ r4 ∧ (r4 : Int) < (([] : List (ByteArray × Int)) ++ p0.2.2).length then
                                some ((p0.1, (p0.2.1, (([] : List (ByteArray × Int)) ++ p0.2.2).set (r4 : Int).toNat (((([] : List (ByteArray × Int)) ++ p0.2.2).getD (r4 : Int).toNat (ByteArray.empty, 0)).1, count2))), 0)
                              else
                                none
                            else
                              (spec_l29Put.f (([] : List (ByteArray × Int)) ++ p0.2.2) article1 count2).bind fun r5 =>
                              (spec_IsPaper.f (p0.1, (p0.2.1, r5))).bind fun r6 =>
                              if (!r6) = true then
                                some ((ByteArray.empty, (0, [])), 3)
                              else
                                some ((p0.1, (p0.2.1, r5)), 0)
                          else
                            none
                        )
                      ) (
                        agree (
                          if ([] : List (ByteArray × Int)).length + p0.2.2.length < room 24 then
                            if (decide ((0 : Int) ≤ r4)) = true then
                              if (0 : Int) ≤ r4 ∧ (r4 : Int) < (([] : List (ByteArray × Int)) ++ p0.2.2).length then
                                some ((p0.1, (p0.2.1, (([] : List (ByteArray × Int)) ++ p0.2.2).set (r4 : Int).toNat (((([] : List (ByteArray × Int)) ++ p0.2.2).getD (r4 : Int).toNat (ByteArray.empty, 0)).1, count2))), 0)
                              else
                                none
                            else
                              (spec_l29Put.f (([] : List (ByteArray × Int)) ++ p0.2.2) article1 count2).bind fun r5 =>
                              (spec_IsPaper.f (p0.1, (p0.2.1, r5))).bind fun r6 =>
                              if (!r6) = true then
                                some ((ByteArray.empty, (0, [])), 3)
                              else
                                some ((p0.1, (p0.2.1, r5)), 0)
                          else
                            none
                        ) (
                          agree (
                            if ([] : List (ByteArray × Int)).length + p0.2.2.length < room 24 then
                              if (decide ((0 : Int) ≤ r4)) = true then
                                if (0 : Int) ≤ r4 ∧ (r4 : Int) < (([] : List (ByteArray × Int)) ++ p0.2.2).length then
                                  some ((p0.1, (p0.2.1, (([] : List (ByteArray × Int)) ++ p0.2.2).set (r4 : Int).toNat (((([] : List (ByteArray × Int)) ++ p0.2.2).getD (r4 : Int).toNat (ByteArray.empty, 0)).1, count2))), 0)
                                else
                                  none
                              else
                                (spec_l29Put.f (([] : List (ByteArray × Int)) ++ p0.2.2) article1 count2).bind fun r5 =>
                                (spec_IsPaper.f (p0.1, (p0.2.1, r5))).bind fun r6 =>
                                if (!r6) = true then
                                  some ((ByteArray.empty, (0, [])), 3)
                                else
                                  some ((p0.1, (p0.2.1, r5)), 0)
                            else
                              none
                          ) (
                            if ([] : List (ByteArray × Int)).length + p0.2.2.length < room 24 then
                              if (decide ((0 : Int) ≤ r4)) = true then
                                if (0 : Int) ≤ r4 ∧ (r4 : Int) < (([] : List (ByteArray × Int)) ++ p0.2.2).length then
                                  some ((p0.1, (p0.2.1, (([] : List (ByteArray × Int)) ++ p0.2.2).set (r4 : Int).toNat (((([] : List (ByteArray × Int)) ++ p0.2.2).getD (r4 : Int).toNat (ByteArray.empty, 0)).1, count2))), 0)
                                else
                                  none
                              else
                                (spec_l29Put.f (([] : List (ByteArray × Int)) ++ p0.2.2) article1 count2).bind fun r5 =>
                                (spec_IsPaper.f (p0.1, (p0.2.1, r5))).bind fun r6 =>
                                if (!r6) = true then
                                  some ((ByteArray.empty, (0, [])), 3)
                                else
                                  some ((p0.1, (p0.2.1, r5)), 0)
                            else
                              none
                          )
                        )
                      )
                    ) (
                      agree (
                        if ([] : List (ByteArray × Int)).length + p0.2.2.length < room 24 then
                          if (decide ((0 : Int) ≤ r4)) = true then
                            if (0 : Int) ≤ r4 ∧ (r4 : Int) < (([] : List (ByteArray × Int)) ++ p0.2.2).length then
                              some ((p0.1, (p0.2.1, (([] : List (ByteArray × Int)) ++ p0.2.2).set (r4 : Int).toNat (((([] : List (ByteArray × Int)) ++ p0.2.2).getD (r4 : Int).toNat (ByteArray.empty, 0)).1, count2))), 0)
                            else
                              none
                          else
                            (spec_l29Put.f (([] : List (ByteArray × Int)) ++ p0.2.2) article1 count2).bind fun r5 =>
                            (spec_IsPaper.f (p0.1, (p0.2.1, r5))).bind fun r6 =>
                            if (!r6) = true then
                              some ((ByteArray.empty, (0, [])), 3)
                            else
                              some ((p0.1, (p0.2.1, r5)), 0)
                        else
                          none
                      ) (
                        agree (
                          if ([] : List (ByteArray × Int)).length + p0.2.2.length < room 24 then
                            if (decide ((0 : Int) ≤ r4)) = true then
                              if (0 : Int) ≤ r4 ∧ (r4 : Int) < (([] : List (ByteArray × Int)) ++ p0.2.2).length then
                                some ((p0.1, (p0.2.1, (([] : List (ByteArray × Int)) ++ p0.2.2).set (r4 : Int).toNat (((([] : List (ByteArray × Int)) ++ p0.2.2).getD (r4 : Int).toNat (ByteArray.empty, 0)).1, count2))), 0)
                              else
                                none
                            else
                              (spec_l29Put.f (([] : List (ByteArray × Int)) ++ p0.2.2) article1 count2).bind fun r5 =>
                              (spec_IsPaper.f (p0.1, (p0.2.1, r5))).bind fun r6 =>
                              if (!r6) = true then
                                some ((ByteArray.empty, (0, [])), 3)
                              else
                                some ((p0.1, (p0.2.1, r5)), 0)
                          else
                            none
                        ) (
                          if ([] : List (ByteArray × Int)).length + p0.2.2.length < room 24 then
                            if (decide ((0 : Int) ≤ r4)) = true then
                              if (0 : Int) ≤ r4 ∧ (r4 : Int) < (([] : List (ByteArray × Int)) ++ p0.2.2).length then
                                some ((p0.1, (p0.2.1, (([] : List (ByteArray × Int)) ++ p0.2.2).set (r4 : Int).toNat (((([] : List (ByteArray × Int)) ++ p0.2.2).getD (r4 : Int).toNat (ByteArray.empty, 0)).1, count2))), 0)
                              else
                                none
                            else
                              (spec_l29Put.f (([] : List (ByteArray × Int)) ++ p0.2.2) article1 count2).bind fun r5 =>
                              (spec_IsPaper.f (p0.1, (p0.2.1, r5))).bind fun r6 =>
                              if (!r6) = true then
                                some ((ByteArray.empty, (0, [])), 3)
                              else
                                some ((p0.1, (p0.2.1, r5)), 0)
                          else
                            none
                        )
                      )
                    )
                  )
                ) (
                  agree (
                    agree (
                      if ([] : List (ByteArray × Int)).length + p0.2.2.length < room 24 then
                        if (decide ((0 : Int) ≤ r4)) = true then
                          if (0 : Int) ≤ r4 ∧ (r4 : Int) < (([] : List (ByteArray × Int)) ++ p0.2.2).length then
                            some ((p0.1, (p0.2.1, (([] : List (ByteArray × Int)) ++ p0.2.2).set (r4 : Int).toNat (((([] : List (ByteArray × Int)) ++ p0.2.2).getD (r4 : Int).toNat (ByteArray.empty, 0)).1, count2))), 0)
                          else
                            none
                        else
                          (spec_l29Put.f (([] : List (ByteArray × Int)) ++ p0.2.2) article1 count2).bind fun r5 =>
                          (spec_IsPaper.f (p0.1, (p0.2.1, r5))).bind fun r6 =>
                          if (!r6) = true then
                            some ((ByteArray.empty, (0, [])), 3)
                          else
                            some ((p0.1, (p0.2.1, r5)), 0)
                      else
                        none
                    ) (
                      if ([] : List (ByteArray × Int)).length + p0.2.2.length < room 24 then
                        if (decide ((0 : Int) ≤ r4)) = true then
                          if (0 : Int) ≤ r4 ∧ (r4 : Int) < (([] : List (ByteArray × Int)) ++ p0.2.2).length then
                            some ((p0.1, (p0.2.1, (([] : List (ByteArray × Int)) ++ p0.2.2).set (r4 : Int).toNat (((([] : List (ByteArray × Int)) ++ p0.2.2).getD (r4 : Int).toNat (ByteArray.empty, 0)).1, count2))), 0)
                          else
                            none
                        else
                          (spec_l29Put.f (([] : List (ByteArray × Int)) ++ p0.2.2) article1 count2).bind fun r5 =>
                          (spec_IsPaper.f (p0.1, (p0.2.1, r5))).bind fun r6 =>
                          if (!r6) = true then
                            some ((ByteArray.empty, (0, [])), 3)
                          else
                            some ((p0.1, (p0.2.1, r5)), 0)
                      else
                        none
                    )
                  ) (
                    agree (
                      agree (
                        if ([] : List (ByteArray × Int)).length + p0.2.2.length < room 24 then
                          if (decide ((0 : Int) ≤ r4)) = true then
                            if (0 : Int) ≤ r4 ∧ (r4 : Int) < (([] : List (ByteArray × Int)) ++ p0.2.2).length then
                              some ((p0.1, (p0.2.1, (([] : List (ByteArray × Int)) ++ p0.2.2).set (r4 : Int).toNat (((([] : List (ByteArray × Int)) ++ p0.2.2).getD (r4 : Int).toNat (ByteArray.empty, 0)).1, count2))), 0)
                            else
                              none
                          else
                            (spec_l29Put.f (([] : List (ByteArray × Int)) ++ p0.2.2) article1 count2).bind fun r5 =>
                            (spec_IsPaper.f (p0.1, (p0.2.1, r5))).bind fun r6 =>
                            if (!r6) = true then
                              some ((ByteArray.empty, (0, [])), 3)
                            else
                              some ((p0.1, (p0.2.1, r5)), 0)
                        else
                          none
                      ) (
                        agree (
                          if ([] : List (ByteArray × Int)).length + p0.2.2.length < room 24 then
                            if (decide ((0 : Int) ≤ r4)) = true then
                              if (0 : Int) ≤ r4 ∧ (r4 : Int) < (([] : List (ByteArray × Int)) ++ p0.2.2).length then
                                some ((p0.1, (p0.2.1, (([] : List (ByteArray × Int)) ++ p0.2.2).set (r4 : Int).toNat (((([] : List (ByteArray × Int)) ++ p0.2.2).getD (r4 : Int).toNat (ByteArray.empty, 0)).1, count2))), 0)
                              else
                                none
                            else
                              (spec_l29Put.f (([] : List (ByteArray × Int)) ++ p0.2.2) article1 count2).bind fun r5 =>
                              (spec_IsPaper.f (p0.1, (p0.2.1, r5))).bind fun r6 =>
                              if (!r6) = true then
                                some ((ByteArray.empty, (0, [])), 3)
                              else
                                some ((p0.1, (p0.2.1, r5)), 0)
                          else
                            none
                        ) (
                          if ([] : List (ByteArray × Int)).length + p0.2.2.length < room 24 then
                            if (decide ((0 : Int) ≤ r4)) = true then
                              if (0 : Int) ≤ r4 ∧ (r4 : Int) < (([] : List (ByteArray × Int)) ++ p0.2.2).length then
                                some ((p0.1, (p0.2.1, (([] : List (ByteArray × Int)) ++ p0.2.2).set (r4 : Int).toNat (((([] : List (ByteArray × Int)) ++ p0.2.2).getD (r4 : Int).toNat (ByteArray.empty, 0)).1, count2))), 0)
                              else
                                none
                            else
                              (spec_l29Put.f (([] : List (ByteArray × Int)) ++ p0.2.2) article1 count2).bind fun r5 =>
                              (spec_IsPaper.f (p0.1, (p0.2.1, r5))).bind fun r6 =>
                              if (!r6) = true then
                                some ((ByteArray.empty, (0, [])), 3)
                              else
                                some ((p0.1, (p0.2.1, r5)), 0)
                          else
                            none
                        )
                      )
                    ) (
                      agree (
                        if ([] : List (ByteArray × Int)).length + p0.2.2.length < room 24 then
                          if (decide ((0 : Int) ≤ r4)) = true then
                            if (0 : Int) ≤ r4 ∧ (r4 : Int) < (([] : List (ByteArray × Int)) ++ p0.2.2).length then
                              some ((p0.1, (p0.2.1, (([] : List (ByteArray × Int)) ++ p0.2.2).set (r4 : Int).toNat (((([] : List (ByteArray × Int)) ++ p0.2.2).getD (r4 : Int).toNat (ByteArray.empty, 0)).1, count2))), 0)
                            else
                              none
                          else
                            (spec_l29Put.f (([] : List (ByteArray × Int)) ++ p0.2.2) article1 count2).bind fun r5 =>
                            (spec_IsPaper.f (p0.1, (p0.2.1, r5))).bind fun r6 =>
                            if (!r6) = true then
                              some ((ByteArray.empty, (0, [])), 3)
                            else
                              some ((p0.1, (p0.2.1, r5)), 0)
                        else
                          none
                      ) (
                        agree (
                          if ([] : List (ByteArray × Int)).length + p0.2.2.length < room 24 then
                            if (decide ((0 : Int) ≤ r4)) = true then
                              if (0 : Int) ≤ r4 ∧ (r4 : Int) < (([] : List (ByteArray × Int)) ++ p0.2.2).length then
                                some ((p0.1, (p0.2.1, (([] : List (ByteArray × Int)) ++ p0.2.2).set (r4 : Int).toNat (((([] : List (ByteArray × Int)) ++ p0.2.2).getD (r4 : Int).toNat (ByteArray.empty, 0)).1, count2))), 0)
                              else
                                none
                            else
                              (spec_l29Put.f (([] : List (ByteArray × Int)) ++ p0.2.2) article1 count2).bind fun r5 =>
                              (spec_IsPaper.f (p0.1, (p0.2.1, r5))).bind fun r6 =>
                              if (!r6) = true then
                                some ((ByteArray.empty, (0, [])), 3)
                              else
                                some ((p0.1, (p0.2.1, r5)), 0)
                          else
                            none
                        ) (
                          if ([] : List (ByteArray × Int)).length + p0.2.2.length < room 24 then
                            if (decide ((0 : Int) ≤ r4)) = true then
                              if (0 : Int) ≤ r4 ∧ (r4 : Int) < (([] : List (ByteArray × Int)) ++ p0.2.2).length then
                                some ((p0.1, (p0.2.1, (([] : List (ByteArray × Int)) ++ p0.2.2).set (r4 : Int).toNat (((([] : List (ByteArray × Int)) ++ p0.2.2).getD (r4 : Int).toNat (ByteArray.empty, 0)).1, count2))), 0)
                              else
                                none
                            else
                              (spec_l29Put.f (([] : List (ByteArray × Int)) ++ p0.2.2) article1 count2).bind fun r5 =>
                              (spec_IsPaper.f (p0.1, (p0.2.1, r5))).bind fun r6 =>
                              if (!r6) = true then
                                some ((ByteArray.empty, (0, [])), 3)
                              else
                                some ((p0.1, (p0.2.1, r5)), 0)
                          else
                            none
                        )
                      )
                    )
                  )
                )
              )
            )
          ) (
            agree (
              agree (
                agree (
                  agree (
                    agree (
                      if ([] : List (ByteArray × Int)).length + p0.2.2.length < room 24 then
                        if (decide ((0 : Int) ≤ r4)) = true then
                          if (0 : Int) ≤ r4 ∧ (r4 : Int) < (([] : List (ByteArray × Int)) ++ p0.2.2).length then
                            some ((p0.1, (p0.2.1, (([] : List (ByteArray × Int)) ++ p0.2.2).set (r4 : Int).toNat (((([] : List (ByteArray × Int)) ++ p0.2.2).getD (r4 : Int).toNat (ByteArray.empty, 0)).1, count2))), 0)
                          else
                            none
                        else
                          (spec_l29Put.f (([] : List (ByteArray × Int)) ++ p0.2.2) article1 count2).bind fun r5 =>
                          (spec_IsPaper.f (p0.1, (p0.2.1, r5))).bind fun r6 =>
                          if (!r6) = true then
                            some ((ByteArray.empty, (0, [])), 3)
                          else
                            some ((p0.1, (p0.2.1, r5)), 0)
                      else
                        none
                    ) (
                      if ([] : List (ByteArray × Int)).length + p0.2.2.length < room 24 then
                        if (decide ((0 : Int) ≤ r4)) = true then
                          if (0 : Int) ≤ r4 ∧ (r4 : Int) < (([] : List (ByteArray × Int)) ++ p0.2.2).length then
                            some ((p0.1, (p0.2.1, (([] : List (ByteArray × Int)) ++ p0.2.2).set (r4 : Int).toNat (((([] : List (ByteArray × Int)) ++ p0.2.2).getD (r4 : Int).toNat (ByteArray.empty, 0)).1, count2))), 0)
                          else
                            none
                        else
                          (spec_l29Put.f (([] : List (ByteArray × Int)) ++ p0.2.2) article1 count2).bind fun r5 =>
                          (spec_IsPaper.f (p0.1, (p0.2.1, r5))).bind fun r6 =>
                          if (!r6) = true then
                            some ((ByteArray.empty, (0, [])), 3)
                          else
                            some ((p0.1, (p0.2.1, r5)), 0)
                      else
                        none
                    )
                  ) (
                    if ([] : List (ByteArray × Int)).length + p0.2.2.length < room 24 then
                      if (decide ((0 : Int) ≤ r4)) = true then
                        if (0 : Int) ≤ r4 ∧ (r4 : Int) < (([] : List (ByteArray × Int)) ++ p0.2.2).length then
                          some ((p0.1, (p0.2.1, (([] : List (ByteArray × Int)) ++ p0.2.2).set (r4 : Int).toNat (((([] : List (ByteArray × Int)) ++ p0.2.2).getD (r4 : Int).toNat (ByteArray.empty, 0)).1, count2))), 0)
                        else
                          none
                      else
                        (spec_l29Put.f (([] : List (ByteArray × Int)) ++ p0.2.2) article1 count2).bind fun r5 =>
                        (spec_IsPaper.f (p0.1, (p0.2.1, r5))).bind fun r6 =>
                        if (!r6) = true then
                          some ((ByteArray.empty, (0, [])), 3)
                        else
                          some ((p0.1, (p0.2.1, r5)), 0)
                    else
                      none
                  )
                ) (
                  agree (
                    agree (
                      agree (
                        if ([] : List (ByteArray × Int)).length + p0.2.2.length < room 24 then
                          if (decide ((0 : Int) ≤ r4)) = true then
                            if (0 : Int) ≤ r4 ∧ (r4 : Int) < (([] : List (ByteArray × Int)) ++ p0.2.2).length then
                              some ((p0.1, (p0.2.1, (([] : List (ByteArray × Int)) ++ p0.2.2).set (r4 : Int).toNat (((([] : List (ByteArray × Int)) ++ p0.2.2).getD (r4 : Int).toNat (ByteArray.empty, 0)).1, count2))), 0)
                            else
                              none
                          else
                            (spec_l29Put.f (([] : List (ByteArray × Int)) ++ p0.2.2) article1 count2).bind fun r5 =>
                            (spec_IsPaper.f (p0.1, (p0.2.1, r5))).bind fun r6 =>
                            if (!r6) = true then
                              some ((ByteArray.empty, (0, [])), 3)
                            else
                              some ((p0.1, (p0.2.1, r5)), 0)
                        else
                          none
                      ) (
                        if ([] : List (ByteArray × Int)).length + p0.2.2.length < room 24 then
                          if (decide ((0 : Int) ≤ r4)) = true then
                            if (0 : Int) ≤ r4 ∧ (r4 : Int) < (([] : List (ByteArray × Int)) ++ p0.2.2).length then
                              some ((p0.1, (p0.2.1, (([] : List (ByteArray × Int)) ++ p0.2.2).set (r4 : Int).toNat (((([] : List (ByteArray × Int)) ++ p0.2.2).getD (r4 : Int).toNat (ByteArray.empty, 0)).1, count2))), 0)
                            else
                              none
                          else
                            (spec_l29Put.f (([] : List (ByteArray × Int)) ++ p0.2.2) article1 count2).bind fun r5 =>
                            (spec_IsPaper.f (p0.1, (p0.2.1, r5))).bind fun r6 =>
                            if (!r6) = true then
                              some ((ByteArray.empty, (0, [])), 3)
                            else
                              some ((p0.1, (p0.2.1, r5)), 0)
                        else
                          none
                      )
                    ) (
                      agree (
                        if ([] : List (ByteArray × Int)).length + p0.2.2.length < room 24 then
                          if (decide ((0 : Int) ≤ r4)) = true then
                            if (0 : Int) ≤ r4 ∧ (r4 : Int) < (([] : List (ByteArray × Int)) ++ p0.2.2).length then
                              some ((p0.1, (p0.2.1, (([] : List (ByteArray × Int)) ++ p0.2.2).set (r4 : Int).toNat (((([] : List (ByteArray × Int)) ++ p0.2.2).getD (r4 : Int).toNat (ByteArray.empty, 0)).1, count2))), 0)
                            else
                              none
                          else
                            (spec_l29Put.f (([] : List (ByteArray × Int)) ++ p0.2.2) article1 count2).bind fun r5 =>
                            (spec_IsPaper.f (p0.1, (p0.2.1, r5))).bind fun r6 =>
                            if (!r6) = true then
                              some ((ByteArray.empty, (0, [])), 3)
                            else
                              some ((p0.1, (p0.2.1, r5)), 0)
                        else
                          none
                      ) (
                        agree (
                          if ([] : List (ByteArray × Int)).length + p0.2.2.length < room 24 then
                            if (decide ((0 : Int) ≤ r4)) = true then
                              if (0 : Int) ≤ r4 ∧ (r4 : Int) < (([] : List (ByteArray × Int)) ++ p0.2.2).length then
                                some ((p0.1, (p0.2.1, (([] : List (ByteArray × Int)) ++ p0.2.2).set (r4 : Int).toNat (((([] : List (ByteArray × Int)) ++ p0.2.2).getD (r4 : Int).toNat (ByteArray.empty, 0)).1, count2))), 0)
                              else
                                none
                            else
                              (spec_l29Put.f (([] : List (ByteArray × Int)) ++ p0.2.2) article1 count2).bind fun r5 =>
                              (spec_IsPaper.f (p0.1, (p0.2.1, r5))).bind fun r6 =>
                              if (!r6) = true then
                                some ((ByteArray.empty, (0, [])), 3)
                              else
                                some ((p0.1, (p0.2.1, r5)), 0)
                          else
                            none
                        ) (
                          if ([] : List (ByteArray × Int)).length + p0.2.2.length < room 24 then
                            if (decide ((0 : Int) ≤ r4)) = true then
                              if (0 : Int) ≤ r4 ∧ (r4 : Int) < (([] : List (ByteArray × Int)) ++ p0.2.2).length then
                                some ((p0.1, (p0.2.1, (([] : List (ByteArray × Int)) ++ p0.2.2).set (r4 : Int).toNat (((([] : List (ByteArray × Int)) ++ p0.2.2).getD (r4 : Int).toNat (ByteArray.empty, 0)).1, count2))), 0)
                              else
                                none
                            else
                              (spec_l29Put.f (([] : List (ByteArray × Int)) ++ p0.2.2) article1 count2).bind fun r5 =>
                              (spec_IsPaper.f (p0.1, (p0.2.1, r5))).bind fun r6 =>
                              if (!r6) = true then
                                some ((ByteArray.empty, (0, [])), 3)
                              else
                                some ((p0.1, (p0.2.1, r5)), 0)
                          else
                            none
                        )
                      )
                    )
                  ) (
                    agree (
                      if ([] : List (ByteArray × Int)).length + p0.2.2.length < room 24 then
                        if (decide ((0 : Int) ≤ r4)) = true then
                          if (0 : Int) ≤ r4 ∧ (r4 : Int) < (([] : List (ByteArray × Int)) ++ p0.2.2).length then
                            some ((p0.1, (p0.2.1, (([] : List (ByteArray × Int)) ++ p0.2.2).set (r4 : Int).toNat (((([] : List (ByteArray × Int)) ++ p0.2.2).getD (r4 : Int).toNat (ByteArray.empty, 0)).1, count2))), 0)
                          else
                            none
                        else
                          (spec_l29Put.f (([] : List (ByteArray × Int)) ++ p0.2.2) article1 count2).bind fun r5 =>
                          (spec_IsPaper.f (p0.1, (p0.2.1, r5))).bind fun r6 =>
                          if (!r6) = true then
                            some ((ByteArray.empty, (0, [])), 3)
                          else
                            some ((p0.1, (p0.2.1, r5)), 0)
                      else
                        none
                    ) (
                      agree (
                        if ([] : List (ByteArray × Int)).length + p0.2.2.length < room 24 then
                          if (decide ((0 : Int) ≤ r4)) = true then
                            if (0 : Int) ≤ r4 ∧ (r4 : Int) < (([] : List (ByteArray × Int)) ++ p0.2.2).length then
                              some ((p0.1, (p0.2.1, (([] : List (ByteArray × Int)) ++ p0.2.2).set (r4 : Int).toNat (((([] : List (ByteArray × Int)) ++ p0.2.2).getD (r4 : Int).toNat (ByteArray.empty, 0)).1, count2))), 0)
                            else
                              none
                          else
                            (spec_l29Put.f (([] : List (ByteArray × Int)) ++ p0.2.2) article1 count2).bind fun r5 =>
                            (spec_IsPaper.f (p0.1, (p0.2.1, r5))).bind fun r6 =>
                            if (!r6) = true then
                              some ((ByteArray.empty, (0, [])), 3)
                            else
                              some ((p0.1, (p0.2.1, r5)), 0)
                        else
                          none
                      ) (
                        if ([] : List (ByteArray × Int)).length + p0.2.2.length < room 24 then
                          if (decide ((0 : Int) ≤ r4)) = true then
                            if (0 : Int) ≤ r4 ∧ (r4 : Int) < (([] : List (ByteArray × Int)) ++ p0.2.2).length then
                              some ((p0.1, (p0.2.1, (([] : List (ByteArray × Int)) ++ p0.2.2).set (r4 : Int).toNat (((([] : List (ByteArray × Int)) ++ p0.2.2).getD (r4 : Int).toNat (ByteArray.empty, 0)).1, count2))), 0)
                            else
                              none
                          else
                            (spec_l29Put.f (([] : List (ByteArray × Int)) ++ p0.2.2) article1 count2).bind fun r5 =>
                            (spec_IsPaper.f (p0.1, (p0.2.1, r5))).bind fun r6 =>
                            if (!r6) = true then
                              some ((ByteArray.empty, (0, [])), 3)
                            else
                              some ((p0.1, (p0.2.1, r5)), 0)
                        else
                          none
                      )
                    )
                  )
                )
              ) (
                agree (
                  agree (
                    agree (
                      agree (
                        if ([] : List (ByteArray × Int)).length + p0.2.2.length < room 24 then
                          if (decide ((0 : Int) ≤ r4)) = true then
                            if (0 : Int) ≤ r4 ∧ (r4 : Int) < (([] : List (ByteArray × Int)) ++ p0.2.2).length then
                              some ((p0.1, (p0.2.1, (([] : List (ByteArray × Int)) ++ p0.2.2).set (r4 : Int).toNat (((([] : List (ByteArray × Int)) ++ p0.2.2).getD (r4 : Int).toNat (ByteArray.empty, 0)).1, count2))), 0)
                            else
                              none
                          else
                            (spec_l29Put.f (([] : List (ByteArray × Int)) ++ p0.2.2) article1 count2).bind fun r5 =>
                            (spec_IsPaper.f (p0.1, (p0.2.1, r5))).bind fun r6 =>
                            if (!r6) = true then
                              some ((ByteArray.empty, (0, [])), 3)
                            else
                              some ((p0.1, (p0.2.1, r5)), 0)
                        else
                          none
                      ) (
                        if ([] : List (ByteArray × Int)).length + p0.2.2.length < room 24 then
                          if (decide ((0 : Int) ≤ r4)) = true then
                            if (0 : Int) ≤ r4 ∧ (r4 : Int) < (([] : List (ByteArray × Int)) ++ p0.2.2).length then
                              some ((p0.1, (p0.2.1, (([] : List (ByteArray × Int)) ++ p0.2.2).set (r4 : Int).toNat (((([] : List (ByteArray × Int)) ++ p0.2.2).getD (r4 : Int).toNat (ByteArray.empty, 0)).1, count2))), 0)
                            else
                              none
                          else
                            (spec_l29Put.f (([] : List (ByteArray × Int)) ++ p0.2.2) article1 count2).bind fun r5 =>
                            (spec_IsPaper.f (p0.1, (p0.2.1, r5))).bind fun r6 =>
                            if (!r6) = true then
                              some ((ByteArray.empty, (0, [])), 3)
                            else
                              some ((p0.1, (p0.2.1, r5)), 0)
                        else
                          none
                      )
                    ) (
                      if ([] : List (ByteArray × Int)).length + p0.2.2.length < room 24 then
                        if (decide ((0 : Int) ≤ r4)) = true then
                          if (0 : Int) ≤ r4 ∧ (r4 : Int) < (([] : List (ByteArray × Int)) ++ p0.2.2).length then
                            some ((p0.1, (p0.2.1, (([] : List (ByteArray × Int)) ++ p0.2.2).set (r4 : Int).toNat (((([] : List (ByteArray × Int)) ++ p0.2.2).getD (r4 : Int).toNat (ByteArray.empty, 0)).1, count2))), 0)
                          else
                            none
                        else
                          (spec_l29Put.f (([] : List (ByteArray × Int)) ++ p0.2.2) article1 count2).bind fun r5 =>
                          (spec_IsPaper.f (p0.1, (p0.2.1, r5))).bind fun r6 =>
                          if (!r6) = true then
                            some ((ByteArray.empty, (0, [])), 3)
                          else
                            some ((p0.1, (p0.2.1, r5)), 0)
                      else
                        none
                    )
                  ) (
                    agree (
                      agree (
                        agree (
                          if ([] : List (ByteArray × Int)).length + p0.2.2.length < room 24 then
                            if (decide ((0 : Int) ≤ r4)) = true then
                              if (0 : Int) ≤ r4 ∧ (r4 : Int) < (([] : List (ByteArray × Int)) ++ p0.2.2).length then
                                some ((p0.1, (p0.2.1, (([] : List (ByteArray × Int)) ++ p0.2.2).set (r4 : Int).toNat (((([] : List (ByteArray × Int)) ++ p0.2.2).getD (r4 : Int).toNat (ByteArray.empty, 0)).1, count2))), 0)
                              else
                                none
                            else
                              (spec_l29Put.f (([] : List (ByteArray × Int)) ++ p0.2.2) article1 count2).bind fun r5 =>
                              (spec_IsPaper.f (p0.1, (p0.2.1, r5))).bind fun r6 =>
                              if (!r6) = true then
                                some ((ByteArray.empty, (0, [])), 3)
                              else
                                some ((p0.1, (p0.2.1, r5)), 0)
                          else
                            none
                        ) (
                          if ([] : List (ByteArray × Int)).length + p0.2.2.length < room 24 then
                            if (decide ((0 : Int) ≤ r4)) = true then
                              if (0 : Int) ≤ r4 ∧ (r4 : Int) < (([] : List (ByteArray × Int)) ++ p0.2.2).length then
                                some ((p0.1, (p0.2.1, (([] : List (ByteArray × Int)) ++ p0.2.2).set (r4 : Int).toNat (((([] : List (ByteArray × Int)) ++ p0.2.2).getD (r4 : Int).toNat (ByteArray.empty, 0)).1, count2))), 0)
                              else
                                none
                            else
                              (spec_l29Put.f (([] : List (ByteArray × Int)) ++ p0.2.2) article1 count2).bind fun r5 =>
                              (spec_IsPaper.f (p0.1, (p0.2.1, r5))).bind fun r6 =>
                              if (!r6) = true then
                                some ((ByteArray.empty, (0, [])), 3)
                              else
                                some ((p0.1, (p0.2.1, r5)), 0)
                          else
                            none
                        )
                      ) (
                        agree (
                          if ([] : List (ByteArray × Int)).length + p0.2.2.length < room 24 then
                            if (decide ((0 : Int) ≤ r4)) = true then
                              if (0 : Int) ≤ r4 ∧ (r4 : Int) < (([] : List (ByteArray × Int)) ++ p0.2.2).length then
                                some ((p0.1, (p0.2.1, (([] : List (ByteArray × Int)) ++ p0.2.2).set (r4 : Int).toNat (((([] : List (ByteArray × Int)) ++ p0.2.2).getD (r4 : Int).toNat (ByteArray.empty, 0)).1, count2))), 0)
                              else
                                none
                            else
                              (spec_l29Put.f (([] : List (ByteArray × Int)) ++ p0.2.2) article1 count2).bind fun r5 =>
                              (spec_IsPaper.f (p0.1, (p0.2.1, r5))).bind fun r6 =>
                              if (!r6) = true then
                                some ((ByteArray.empty, (0, [])), 3)
                              else
                                some ((p0.1, (p0.2.1, r5)), 0)
                          else
                            none
                        ) (
                          agree (
                            if ([] : List (ByteArray × Int)).length + p0.2.2.length < room 24 then
                              if (decide ((0 : Int) ≤ r4)) = true then
                                if (0 : Int) ≤ r4 ∧ (r4 : Int) < (([] : List (ByteArray × Int)) ++ p0.2.2).length then
                                  some ((p0.1, (p0.2.1, (([] : List (ByteArray × Int)) ++ p0.2.2).set (r4 : Int).toNat (((([] : List (ByteArray × Int)) ++ p0.2.2).getD (r4 : Int).toNat (ByteArray.empty, 0)).1, count2))), 0)
                                else
                                  none
                              else
                                (spec_l29Put.f (([] : List (ByteArray × Int)) ++ p0.2.2) article1 count2).bind fun r5 =>
                                (spec_IsPaper.f (p0.1, (p0.2.1, r5))).bind fun r6 =>
                                if (!r6) = true then
                                  some ((ByteArray.empty, (0, [])), 3)
                                else
                                  some ((p0.1, (p0.2.1, r5)), 0)
                            else
                              none
                          ) (
                            if ([] : List (ByteArray × Int)).length + p0.2.2.length < room 24 then
                              if (decide ((0 : Int) ≤ r4)) = true then
                                if (0 : Int) ≤ r4 ∧ (r4 : Int) < (([] : List (ByteArray × Int)) ++ p0.2.2).length then
                                  some ((p0.1, (p0.2.1, (([] : List (ByteArray × Int)) ++ p0.2.2).set (r4 : Int).toNat (((([] : List (ByteArray × Int)) ++ p0.2.2).getD (r4 : Int).toNat (ByteArray.empty, 0)).1, count2))), 0)
                                else
                                  none
                              else
                                (spec_l29Put.f (([] : List (ByteArray × Int)) ++ p0.2.2) article1 count2).bind fun r5 =>
                                (spec_IsPaper.f (p0.1, (p0.2.1, r5))).bind fun r6 =>
                                if (!r6) = true then
                                  some ((ByteArray.empty, (0, [])), 3)
                                else
                                  some ((p0.1, (p0.2.1, r5)), 0)
                            else
                              none
                          )
                        )
                      )
                    ) (
                      agree (
                        if ([] : List (ByteArray × Int)).length + p0.2.2.length < room 24 then
                          if (decide ((0 : Int) ≤ r4)) = true then
                            if (0 : Int) ≤ r4 ∧ (r4 : Int) < (([] : List (ByteArray × Int)) ++ p0.2.2).length then
                              some ((p0.1, (p0.2.1, (([] : List (ByteArray × Int)) ++ p0.2.2).set (r4 : Int).toNat (((([] : List (ByteArray × Int)) ++ p0.2.2).getD (r4 : Int).toNat (ByteArray.empty, 0)).1, count2))), 0)
                            else
                              none
                          else
                            (spec_l29Put.f (([] : List (ByteArray × Int)) ++ p0.2.2) article1 count2).bind fun r5 =>
                            (spec_IsPaper.f (p0.1, (p0.2.1, r5))).bind fun r6 =>
                            if (!r6) = true then
                              some ((ByteArray.empty, (0, [])), 3)
                            else
                              some ((p0.1, (p0.2.1, r5)), 0)
                        else
                          none
                      ) (
                        agree (
                          if ([] : List (ByteArray × Int)).length + p0.2.2.length < room 24 then
                            if (decide ((0 : Int) ≤ r4)) = true then
                              if (0 : Int) ≤ r4 ∧ (r4 : Int) < (([] : List (ByteArray × Int)) ++ p0.2.2).length then
                                some ((p0.1, (p0.2.1, (([] : List (ByteArray × Int)) ++ p0.2.2).set (r4 : Int).toNat (((([] : List (ByteArray × Int)) ++ p0.2.2).getD (r4 : Int).toNat (ByteArray.empty, 0)).1, count2))), 0)
                              else
                                none
                            else
                              (spec_l29Put.f (([] : List (ByteArray × Int)) ++ p0.2.2) article1 count2).bind fun r5 =>
                              (spec_IsPaper.f (p0.1, (p0.2.1, r5))).bind fun r6 =>
                              if (!r6) = true then
                                some ((ByteArray.empty, (0, [])), 3)
                              else
                                some ((p0.1, (p0.2.1, r5)), 0)
                          else
                            none
                        ) (
                          if ([] : List (ByteArray × Int)).length + p0.2.2.length < room 24 then
                            if (decide ((0 : Int) ≤ r4)) = true then
                              if (0 : Int) ≤ r4 ∧ (r4 : Int) < (([] : List (ByteArray × Int)) ++ p0.2.2).length then
                                some ((p0.1, (p0.2.1, (([] : List (ByteArray × Int)) ++ p0.2.2).set (r4 : Int).toNat (((([] : List (ByteArray × Int)) ++ p0.2.2).getD (r4 : Int).toNat (ByteArray.empty, 0)).1, count2))), 0)
                              else
                                none
                            else
                              (spec_l29Put.f (([] : List (ByteArray × Int)) ++ p0.2.2) article1 count2).bind fun r5 =>
                              (spec_IsPaper.f (p0.1, (p0.2.1, r5))).bind fun r6 =>
                              if (!r6) = true then
                                some ((ByteArray.empty, (0, [])), 3)
                              else
                                some ((p0.1, (p0.2.1, r5)), 0)
                          else
                            none
                        )
                      )
                    )
                  )
                ) (
                  agree (
                    agree (
                      agree (
                        agree (
                          if ([] : List (ByteArray × Int)).length + p0.2.2.length < room 24 then
                            if (decide ((0 : Int) ≤ r4)) = true then
                              if (0 : Int) ≤ r4 ∧ (r4 : Int) < (([] : List (ByteArray × Int)) ++ p0.2.2).length then
                                some ((p0.1, (p0.2.1, (([] : List (ByteArray × Int)) ++ p0.2.2).set (r4 : Int).toNat (((([] : List (ByteArray × Int)) ++ p0.2.2).getD (r4 : Int).toNat (ByteArray.empty, 0)).1, count2))), 0)
                              else
                                none
                            else
                              (spec_l29Put.f (([] : List (ByteArray × Int)) ++ p0.2.2) article1 count2).bind fun r5 =>
                              (spec_IsPaper.f (p0.1, (p0.2.1, r5))).bind fun r6 =>
                              if (!r6) = true then
                                some ((ByteArray.empty, (0, [])), 3)
                              else
                                some ((p0.1, (p0.2.1, r5)), 0)
                          else
                            none
                        ) (
                          if ([] : List (ByteArray × Int)).length + p0.2.2.length < room 24 then
                            if (decide ((0 : Int) ≤ r4)) = true then
                              if (0 : Int) ≤ r4 ∧ (r4 : Int) < (([] : List (ByteArray × Int)) ++ p0.2.2).length then
                                some ((p0.1, (p0.2.1, (([] : List (ByteArray × Int)) ++ p0.2.2).set (r4 : Int).toNat (((([] : List (ByteArray × Int)) ++ p0.2.2).getD (r4 : Int).toNat (ByteArray.empty, 0)).1, count2))), 0)
                              else
                                none
                            else
                              (spec_l29Put.f (([] : List (ByteArray × Int)) ++ p0.2.2) article1 count2).bind fun r5 =>
                              (spec_IsPaper.f (p0.1, (p0.2.1, r5))).bind fun r6 =>
                              if (!r6) = true then
                                some ((ByteArray.empty, (0, [])), 3)
                              else
                                some ((p0.1, (p0.2.1, r5)), 0)
                          else
                            none
                        )
                      ) (
                        agree (
                          if ([] : List (ByteArray × Int)).length + p0.2.2.length < room 24 then
                            if (decide ((0 : Int) ≤ r4)) = true then
                              if (0 : Int) ≤ r4 ∧ (r4 : Int) < (([] : List (ByteArray × Int)) ++ p0.2.2).length then
                                some ((p0.1, (p0.2.1, (([] : List (ByteArray × Int)) ++ p0.2.2).set (r4 : Int).toNat (((([] : List (ByteArray × Int)) ++ p0.2.2).getD (r4 : Int).toNat (ByteArray.empty, 0)).1, count2))), 0)
                              else
                                none
                            else
                              (spec_l29Put.f (([] : List (ByteArray × Int)) ++ p0.2.2) article1 count2).bind fun r5 =>
                              (spec_IsPaper.f (p0.1, (p0.2.1, r5))).bind fun r6 =>
                              if (!r6) = true then
                                some ((ByteArray.empty, (0, [])), 3)
                              else
                                some ((p0.1, (p0.2.1, r5)), 0)
                          else
                            none
                        ) (
                          agree (
                            if ([] : List (ByteArray × Int)).length + p0.2.2.length < room 24 then
                              if (decide ((0 : Int) ≤ r4)) = true then
                                if (0 : Int) ≤ r4 ∧ (r4 : Int) < (([] : List (ByteArray × Int)) ++ p0.2.2).length then
                                  some ((p0.1, (p0.2.1, (([] : List (ByteArray × Int)) ++ p0.2.2).set (r4 : Int).toNat (((([] : List (ByteArray × Int)) ++ p0.2.2).getD (r4 : Int).toNat (ByteArray.empty, 0)).1, count2))), 0)
                                else
                                  none
                              else
                                (spec_l29Put.f (([] : List (ByteArray × Int)) ++ p0.2.2) article1 count2).bind fun r5 =>
                                (spec_IsPaper.f (p0.1, (p0.2.1, r5))).bind fun r6 =>
                                if (!r6) = true then
                                  some ((ByteArray.empty, (0, [])), 3)
                                else
                                  some ((p0.1, (p0.2.1, r5)), 0)
                            else
                              none
                          ) (
                            if ([] : List (ByteArray × Int)).length + p0.2.2.length < room 24 then
                              if (decide ((0 : Int) ≤ r4)) = true then
                                if (0 : Int) ≤ r4 ∧ (r4 : Int) < (([] : List (ByteArray × Int)) ++ p0.2.2).length then
                                  some ((p0.1, (p0.2.1, (([] : List (ByteArray × Int)) ++ p0.2.2).set (r4 : Int).toNat (((([] : List (ByteArray × Int)) ++ p0.2.2).getD (r4 : Int).toNat (ByteArray.empty, 0)).1, count2))), 0)
                                else
                                  none
                              else
                                (spec_l29Put.f (([] : List (ByteArray × Int)) ++ p0.2.2) article1 count2).bind fun r5 =>
                                (spec_IsPaper.f (p0.1, (p0.2.1, r5))).bind fun r6 =>
                                if (!r6) = true then
                                  some ((ByteArray.empty, (0, [])), 3)
                                else
                                  some ((p0.1, (p0.2.1, r5)), 0)
                            else
                              none
                          )
                        )
                      )
                    ) (
                      agree (
                        agree (
                          agree (
                            if ([] : List (ByteArray × Int)).length + p0.2.2.length < room 24 then
                              if (decide ((0 : Int) ≤ r4)) = true then
                                if (0 : Int) ≤ r4 ∧ (r4 : Int) < (([] : List (ByteArray × Int)) ++ p0.2.2).length then
                                  some ((p0.1, (p0.2.1, (([] : List (ByteArray × Int)) ++ p0.2.2).set (r4 : Int).toNat (((([] : List (ByteArray × Int)) ++ p0.2.2).getD (r4 : Int).toNat (ByteArray.empty, 0)).1, count2))), 0)
                                else
                                  none
                              else
                                (spec_l29Put.f (([] : List (ByteArray × Int)) ++ p0.2.2) article1 count2).bind fun r5 =>
                                (spec_IsPaper.f (p0.1, (p0.2.1, r5))).bind fun r6 =>
                                if (!r6) = true then
                                  some ((ByteArray.empty, (0, [])), 3)
                                else
                                  some ((p0.1, (p0.2.1, r5)), 0)
                            else
                              none
                          ) (
                            if ([] : List (ByteArray × Int)).length + p0.2.2.length < room 24 then
                              if (decide ((0 : Int) ≤ r4)) = true then
                                if (0 : Int) ≤ r4 ∧ (r4 : Int) < (([] : List (ByteArray × Int)) ++ p0.2.2).length then
                                  some ((p0.1, (p0.2.1, (([] : List (ByteArray × Int)) ++ p0.2.2).set (r4 : Int).toNat (((([] : List (ByteArray × Int)) ++ p0.2.2).getD (r4 : Int).toNat (ByteArray.empty, 0)).1, count2))), 0)
                                else
                                  none
                              else
                                (spec_l29Put.f (([] : List (ByteArray × Int)) ++ p0.2.2) article1 count2).bind fun r5 =>
                                (spec_IsPaper.f (p0.1, (p0.2.1, r5))).bind fun r6 =>
                                if (!r6) = true then
                                  some ((ByteArray.empty, (0, [])), 3)
                                else
                                  some ((p0.1, (p0.2.1, r5)), 0)
                            else
                              none
                          )
                        ) (
                          agree (
                            if ([] : List (ByteArray × Int)).length + p0.2.2.length < room 24 then
                              if (decide ((0 : Int) ≤ r4)) = true then
                                if (0 : Int) ≤ r4 ∧ (r4 : Int) < (([] : List (ByteArray × Int)) ++ p0.2.2).length then
                                  some ((p0.1, (p0.2.1, (([] : List (ByteArray × Int)) ++ p0.2.2).set (r4 : Int).toNat (((([] : List (ByteArray × Int)) ++ p0.2.2).getD (r4 : Int).toNat (ByteArray.empty, 0)).1, count2))), 0)
                                else
                                  none
                              else
                                (spec_l29Put.f (([] : List (ByteArray × Int)) ++ p0.2.2) article1 count2).bind fun r5 =>
                                (spec_IsPaper.f (p0.1, (p0.2.1, r5))).bind fun r6 =>
                                if (!r6) = true then
                                  some ((ByteArray.empty, (0, [])), 3)
                                else
                                  some ((p0.1, (p0.2.1, r5)), 0)
                            else
                              none
                          ) (
                            agree (
                              if ([] : List (ByteArray × Int)).length + p0.2.2.length < room 24 then
                                if (decide ((0 : Int) ≤ r4)) = true then
                                  if (0 : Int) ≤ r4 ∧ (r4 : Int) < (([] : List (ByteArray × Int)) ++ p0.2.2).length then
                                    some ((p0.1, (p0.2.1, (([] : List (ByteArray × Int)) ++ p0.2.2).set (r4 : Int).toNat (((([] : List (ByteArray × Int)) ++ p0.2.2).getD (r4 : Int).toNat (ByteArray.empty, 0)).1, count2))), 0)
                                  else
                                    none
                                else
                                  (spec_l29Put.f (([] : List (ByteArray × Int)) ++ p0.2.2) article1 count2).bind fun r5 =>
                                  (spec_IsPaper.f (p0.1, (p0.2.1, r5))).bind fun r6 =>
                                  if (!r6) = true then
                                    some ((ByteArray.empty, (0, [])), 3)
                                  else
                                    some ((p0.1, (p0.2.1, r5)), 0)
                              else
                                none
                            ) (
                              if ([] : List (ByteArray × Int)).length + p0.2.2.length < room 24 then
                                if (decide ((0 : Int) ≤ r4)) = true then
                                  if (0 : Int) ≤ r4 ∧ (r4 : Int) < (([] : List (ByteArray × Int)) ++ p0.2.2).length then
                                    some ((p0.1, (p0.2.1, (([] : List (ByteArray × Int)) ++ p0.2.2).set (r4 : Int).toNat (((([] : List (ByteArray × Int)) ++ p0.2.2).getD (r4 : Int).toNat (ByteArray.empty, 0)).1, count2))), 0)
                                  else
                                    none
                                else
                                  (spec_l29Put.f (([] : List (ByteArray × Int)) ++ p0.2.2) article1 count2).bind fun r5 =>
                                  (spec_IsPaper.f (p0.1, (p0.2.1, r5))).bind fun r6 =>
                                  if (!r6) = true then
                                    some ((ByteArray.empty, (0, [])), 3)
                                  else
                                    some ((p0.1, (p0.2.1, r5)), 0)
                              else
                                none
                            )
                          )
                        )
                      ) (
                        agree (
                          if ([] : List (ByteArray × Int)).length + p0.2.2.length < room 24 then
                            if (decide ((0 : Int) ≤ r4)) = true then
                              if (0 : Int) ≤ r4 ∧ (r4 : Int) < (([] : List (ByteArray × Int)) ++ p0.2.2).length then
                                some ((p0.1, (p0.2.1, (([] : List (ByteArray × Int)) ++ p0.2.2).set (r4 : Int).toNat (((([] : List (ByteArray × Int)) ++ p0.2.2).getD (r4 : Int).toNat (ByteArray.empty, 0)).1, count2))), 0)
                              else
                                none
                            else
                              (spec_l29Put.f (([] : List (ByteArray × Int)) ++ p0.2.2) article1 count2).bind fun r5 =>
                              (spec_IsPaper.f (p0.1, (p0.2.1, r5))).bind fun r6 =>
                              if (!r6) = true then
                                some ((ByteArray.empty, (0, [])), 3)
                              else
                                some ((p0.1, (p0.2.1, r5)), 0)
                          else
                            none
                        ) (
                          agree (
                            agree (
                              if ([] : List (ByteArray × Int)).length + p0.2.2.length < room 24 then
                                if (decide ((0 : Int) ≤ r4)) = true then
                                  if (0 : Int) ≤ r4 ∧ (r4 : Int) < (([] : List (ByteArray × Int)) ++ p0.2.2).length then
                                    some ((p0.1, (p0.2.1, (([] : List (ByteArray × Int)) ++ p0.2.2).set (r4 : Int).toNat (((([] : List (ByteArray × Int)) ++ p0.2.2).getD (r4 : Int).toNat (ByteArray.empty, 0)).1, count2))), 0)
                                  else
                                    none
                                else
                                  (spec_l29Put.f (([] : List (ByteArray × Int)) ++ p0.2.2) article1 count2).bind fun r5 =>
                                  (spec_IsPaper.f (p0.1, (p0.2.1, r5))).bind fun r6 =>
                                  if (!r6) = true then
                                    some ((ByteArray.empty, (0, [])), 3)
                                  else
                                    some ((p0.1, (p0.2.1, r5)), 0)
                              else
                                none
                            ) (
                              if ([] : List (ByteArray × Int)).length + p0.2.2.length < room 24 then
                                if (decide ((0 : Int) ≤ r4)) = true then
                                  if (0 : Int) ≤ r4 ∧ (r4 : Int) < (([] : List (ByteArray × Int)) ++ p0.2.2).length then
                                    some ((p0.1, (p0.2.1, (([] : List (ByteArray × Int)) ++ p0.2.2).set (r4 : Int).toNat (((([] : List (ByteArray × Int)) ++ p0.2.2).getD (r4 : Int).toNat (ByteArray.empty, 0)).1, count2))), 0)
                                  else
                                    none
                                else
                                  (spec_l29Put.f (([] : List (ByteArray × Int)) ++ p0.2.2) article1 count2).bind fun r5 =>
                                  (spec_IsPaper.f (p0.1, (p0.2.1, r5))).bind fun r6 =>
                                  if (!r6) = true then
                                    some ((ByteArray.empty, (0, [])), 3)
                                  else
                                    some ((p0.1, (p0.2.1, r5)), 0)
                              else
                                none
                            )
                          ) (
                            agree (
                              agree (
                                if ([] : List (ByteArray × Int)).length + p0.2.2.length < room 24 then
                                  if (decide ((0 : Int) ≤ r4)) = true then
                                    if (0 : Int) ≤ r4 ∧ (r4 : Int) < (([] : List (ByteArray × Int)) ++ p0.2.2).length then
                                      some ((p0.1, (p0.2.1, (([] : List (ByteArray × Int)) ++ p0.2.2).set (r4 : Int).toNat (((([] : List (ByteArray × Int)) ++ p0.2.2).getD (r4 : Int).toNat (ByteArray.empty, 0)).1, count2))), 0)
                                    else
                                      none
                                  else
                                    (spec_l29Put.f (([] : List (ByteArray × Int)) ++ p0.2.2) article1 count2).bind fun r5 =>
                                    (spec_IsPaper.f (p0.1, (p0.2.1, r5))).bind fun r6 =>
                                    if (!r6) = true then
                                      some ((ByteArray.empty, (0, [])), 3)
                                    else
                                      some ((p0.1, (p0.2.1, r5)), 0)
                                else
                                  none
                              ) (
                                if ([] : List (ByteArray × Int)).length + p0.2.2.length < room 24 then
                                  if (decide ((0 : Int) ≤ r4)) = true then
                                    if (0 : Int) ≤ r4 ∧ (r4 : Int) < (([] : List (ByteArray × Int)) ++ p0.2.2).length then
                                      some ((p0.1, (p0.2.1, (([] : List (ByteArray × Int)) ++ p0.2.2).set (r4 : Int).toNat (((([] : List (ByteArray × Int)) ++ p0.2.2).getD (r4 : Int).toNat (ByteArray.empty, 0)).1, count2))), 0)
                                    else
                                      none
                                  else
                                    (spec_l29Put.f (([] : List (ByteArray × Int)) ++ p0.2.2) article1 count2).bind fun r5 =>
                                    (spec_IsPaper.f (p0.1, (p0.2.1, r5))).bind fun r6 =>
                                    if (!r6) = true then
                                      some ((ByteArray.empty, (0, [])), 3)
                                    else
                                      some ((p0.1, (p0.2.1, r5)), 0)
                                else
                                  none
                              )
                            ) (
                              if ([] : List (ByteArray × Int)).length + p0.2.2.length < room 24 then
                                if (decide ((0 : Int) ≤ r4)) = true then
                                  if (0 : Int) ≤ r4 ∧ (r4 : Int) < (([] : List (ByteArray × Int)) ++ p0.2.2).length then
                                    some ((p0.1, (p0.2.1, (([] : List (ByteArray × Int)) ++ p0.2.2).set (r4 : Int).toNat (((([] : List (ByteArray × Int)) ++ p0.2.2).getD (r4 : Int).toNat (ByteArray.empty, 0)).1, count2))), 0)
                                  else
                                    none
                                else
                                  (spec_l29Put.f (([] : List (ByteArray × Int)) ++ p0.2.2) article1 count2).bind fun r5 =>
                                  (spec_IsPaper.f (p0.1, (p0.2.1, r5))).bind fun r6 =>
                                  if (!r6) = true then
                                    some ((ByteArray.empty, (0, [])), 3)
                                  else
                                    some ((p0.1, (p0.2.1, r5)), 0)
                              else
                                none
                            )
                          )
                        )
                      )
                    )
                  ) (
                    agree (
                      agree (
                        if ([] : List (ByteArray × Int)).length + p0.2.2.length < room 24 then
                          if (decide ((0 : Int) ≤ r4)) = true then
                            if (0 : Int) ≤ r4 ∧ (r4 : Int) < (([] : List (ByteArray × Int)) ++ p0.2.2).length then
                              some ((p0.1, (p0.2.1, (([] : List (ByteArray × Int)) ++ p0.2.2).set (r4 : Int).toNat (((([] : List (ByteArray × Int)) ++ p0.2.2).getD (r4 : Int).toNat (ByteArray.empty, 0)).1, count2))), 0)
                            else
                              none
                          else
                            (spec_l29Put.f (([] : List (ByteArray × Int)) ++ p0.2.2) article1 count2).bind fun r5 =>
                            (spec_IsPaper.f (p0.1, (p0.2.1, r5))).bind fun r6 =>
                            if (!r6) = true then
                              some ((ByteArray.empty, (0, [])), 3)
                            else
                              some ((p0.1, (p0.2.1, r5)), 0)
                        else
                          none
                      ) (
                        agree (
                          if ([] : List (ByteArray × Int)).length + p0.2.2.length < room 24 then
                            if (decide ((0 : Int) ≤ r4)) = true then
                              if (0 : Int) ≤ r4 ∧ (r4 : Int) < (([] : List (ByteArray × Int)) ++ p0.2.2).length then
                                some ((p0.1, (p0.2.1, (([] : List (ByteArray × Int)) ++ p0.2.2).set (r4 : Int).toNat (((([] : List (ByteArray × Int)) ++ p0.2.2).getD (r4 : Int).toNat (ByteArray.empty, 0)).1, count2))), 0)
                              else
                                none
                            else
                              (spec_l29Put.f (([] : List (ByteArray × Int)) ++ p0.2.2) article1 count2).bind fun r5 =>
                              (spec_IsPaper.f (p0.1, (p0.2.1, r5))).bind fun r6 =>
                              if (!r6) = true then
                                some ((ByteArray.empty, (0, [])), 3)
                              else
                                some ((p0.1, (p0.2.1, r5)), 0)
                          else
                            none
                        ) (
                          if ([] : List (ByteArray × Int)).length + p0.2.2.length < room 24 then
                            if (decide ((0 : Int) ≤ r4)) = true then
                              if (0 : Int) ≤ r4 ∧ (r4 : Int) < (([] : List (ByteArray × Int)) ++ p0.2.2).length then
                                some ((p0.1, (p0.2.1, (([] : List (ByteArray × Int)) ++ p0.2.2).set (r4 : Int).toNat (((([] : List (ByteArray × Int)) ++ p0.2.2).getD (r4 : Int).toNat (ByteArray.empty, 0)).1, count2))), 0)
                              else
                                none
                            else
                              (spec_l29Put.f (([] : List (ByteArray × Int)) ++ p0.2.2) article1 count2).bind fun r5 =>
                              (spec_IsPaper.f (p0.1, (p0.2.1, r5))).bind fun r6 =>
                              if (!r6) = true then
                                some ((ByteArray.empty, (0, [])), 3)
                              else
                                some ((p0.1, (p0.2.1, r5)), 0)
                          else
                            none
                        )
                      )
                    ) (
                      agree (
                        agree (
                          if ([] : List (ByteArray × Int)).length + p0.2.2.length < room 24 then
                            if (decide ((0 : Int) ≤ r4)) = true then
                              if (0 : Int) ≤ r4 ∧ (r4 : Int) < (([] : List (ByteArray × Int)) ++ p0.2.2).length then
                                some ((p0.1, (p0.2.1, (([] : List (ByteArray × Int)) ++ p0.2.2).set (r4 : Int).toNat (((([] : List (ByteArray × Int)) ++ p0.2.2).getD (r4 : Int).toNat (ByteArray.empty, 0)).1, count2))), 0)
                              else
                                none
                            else
                              (spec_l29Put.f (([] : List (ByteArray × Int)) ++ p0.2.2) article1 count2).bind fun r5 =>
                              (spec_IsPaper.f (p0.1, (p0.2.1, r5))).bind fun r6 =>
                              if (!r6) = true then
                                some ((ByteArray.empty, (0, [])), 3)
                              else
                                some ((p0.1, (p0.2.1, r5)), 0)
                          else
                            none
                        ) (
                          agree (
                            if ([] : List (ByteArray × Int)).length + p0.2.2.length < room 24 then
                              if (decide ((0 : Int) ≤ r4)) = true then
                                if (0 : Int) ≤ r4 ∧ (r4 : Int) < (([] : List (ByteArray × Int)) ++ p0.2.2).length then
                                  some ((p0.1, (p0.2.1, (([] : List (ByteArray × Int)) ++ p0.2.2).set (r4 : Int).toNat (((([] : List (ByteArray × Int)) ++ p0.2.2).getD (r4 : Int).toNat (ByteArray.empty, 0)).1, count2))), 0)
                                else
                                  none
                              else
                                (spec_l29Put.f (([] : List (ByteArray × Int)) ++ p0.2.2) article1 count2).bind fun r5 =>
                                (spec_IsPaper.f (p0.1, (p0.2.1, r5))).bind fun r6 =>
                                if (!r6) = true then
                                  some ((ByteArray.empty, (0, [])), 3)
                                else
                                  some ((p0.1, (p0.2.1, r5)), 0)
                            else
                              none
                          ) (
                            if ([] : List (ByteArray × Int)).length + p0.2.2.length < room 24 then
                              if (decide ((0 : Int) ≤ r4)) = true then
                                if (0 : Int) ≤ r4 ∧ (r4 : Int) < (([] : List (ByteArray × Int)) ++ p0.2.2).length then
                                  some ((p0.1, (p0.2.1, (([] : List (ByteArray × Int)) ++ p0.2.2).set (r4 : Int).toNat (((([] : List (ByteArray × Int)) ++ p0.2.2).getD (r4 : Int).toNat (ByteArray.empty, 0)).1, count2))), 0)
                                else
                                  none
                              else
                                (spec_l29Put.f (([] : List (ByteArray × Int)) ++ p0.2.2) article1 count2).bind fun r5 =>
                                (spec_IsPaper.f (p0.1, (p0.2.1, r5))).bind fun r6 =>
                                if (!r6) = true then
                                  some ((ByteArray.empty, (0, [])), 3)
                                else
                                  some ((p0.1, (p0.2.1, r5)), 0)
                            else
                              none
                          )
                        )
                      ) (
                        agree (
                          agree (
                            if ([] : List (ByteArray × Int)).length + p0.2.2.length < room 24 then
                              if (decide ((0 : Int) ≤ r4)) = true then
                                if (0 : Int) ≤ r4 ∧ (r4 : Int) < (([] : List (ByteArray × Int)) ++ p0.2.2).length then
                                  some ((p0.1, (p0.2.1, (([] : List (ByteArray × Int)) ++ p0.2.2).set (r4 : Int).toNat (((([] : List (ByteArray × Int)) ++ p0.2.2).getD (r4 : Int).toNat (ByteArray.empty, 0)).1, count2))), 0)
                                else
                                  none
                              else
                                (spec_l29Put.f (([] : List (ByteArray × Int)) ++ p0.2.2) article1 count2).bind fun r5 =>
                                (spec_IsPaper.f (p0.1, (p0.2.1, r5))).bind fun r6 =>
                                if (!r6) = true then
                                  some ((ByteArray.empty, (0, [])), 3)
                                else
                                  some ((p0.1, (p0.2.1, r5)), 0)
                            else
                              none
                          ) (
                            if ([] : List (ByteArray × Int)).length + p0.2.2.length < room 24 then
                              if (decide ((0 : Int) ≤ r4)) = true then
                                if (0 : Int) ≤ r4 ∧ (r4 : Int) < (([] : List (ByteArray × Int)) ++ p0.2.2).length then
                                  some ((p0.1, (p0.2.1, (([] : List (ByteArray × Int)) ++ p0.2.2).set (r4 : Int).toNat (((([] : List (ByteArray × Int)) ++ p0.2.2).getD (r4 : Int).toNat (ByteArray.empty, 0)).1, count2))), 0)
                                else
                                  none
                              else
                                (spec_l29Put.f (([] : List (ByteArray × Int)) ++ p0.2.2) article1 count2).bind fun r5 =>
                                (spec_IsPaper.f (p0.1, (p0.2.1, r5))).bind fun r6 =>
                                if (!r6) = true then
                                  some ((ByteArray.empty, (0, [])), 3)
                                else
                                  some ((p0.1, (p0.2.1, r5)), 0)
                            else
                              none
                          )
                        ) (
                          agree (
                            agree (
                              if ([] : List (ByteArray × Int)).length + p0.2.2.length < room 24 then
                                if (decide ((0 : Int) ≤ r4)) = true then
                                  if (0 : Int) ≤ r4 ∧ (r4 : Int) < (([] : List (ByteArray × Int)) ++ p0.2.2).length then
                                    some ((p0.1, (p0.2.1, (([] : List (ByteArray × Int)) ++ p0.2.2).set (r4 : Int).toNat (((([] : List (ByteArray × Int)) ++ p0.2.2).getD (r4 : Int).toNat (ByteArray.empty, 0)).1, count2))), 0)
                                  else
                                    none
                                else
                                  (spec_l29Put.f (([] : List (ByteArray × Int)) ++ p0.2.2) article1 count2).bind fun r5 =>
                                  (spec_IsPaper.f (p0.1, (p0.2.1, r5))).bind fun r6 =>
                                  if (!r6) = true then
                                    some ((ByteArray.empty, (0, [])), 3)
                                  else
                                    some ((p0.1, (p0.2.1, r5)), 0)
                              else
                                none
                            ) (
                              if ([] : List (ByteArray × Int)).length + p0.2.2.length < room 24 then
                                if (decide ((0 : Int) ≤ r4)) = true then
                                  if (0 : Int) ≤ r4 ∧ (r4 : Int) < (([] : List (ByteArray × Int)) ++ p0.2.2).length then
                                    some ((p0.1, (p0.2.1, (([] : List (ByteArray × Int)) ++ p0.2.2).set (r4 : Int).toNat (((([] : List (ByteArray × Int)) ++ p0.2.2).getD (r4 : Int).toNat (ByteArray.empty, 0)).1, count2))), 0)
                                  else
                                    none
                                else
                                  (spec_l29Put.f (([] : List (ByteArray × Int)) ++ p0.2.2) article1 count2).bind fun r5 =>
                                  (spec_IsPaper.f (p0.1, (p0.2.1, r5))).bind fun r6 =>
                                  if (!r6) = true then
                                    some ((ByteArray.empty, (0, [])), 3)
                                  else
                                    some ((p0.1, (p0.2.1, r5)), 0)
                              else
                                none
                            )
                          ) (
                            if ([] : List (ByteArray × Int)).length + p0.2.2.length < room 24 then
                              if (decide ((0 : Int) ≤ r4)) = true then
                                if (0 : Int) ≤ r4 ∧ (r4 : Int) < (([] : List (ByteArray × Int)) ++ p0.2.2).length then
                                  some ((p0.1, (p0.2.1, (([] : List (ByteArray × Int)) ++ p0.2.2).set (r4 : Int).toNat (((([] : List (ByteArray × Int)) ++ p0.2.2).getD (r4 : Int).toNat (ByteArray.empty, 0)).1, count2))), 0)
                                else
                                  none
                              else
                                (spec_l29Put.f (([] : List (ByteArray × Int)) ++ p0.2.2) article1 count2).bind fun r5 =>
                                (spec_IsPaper.f (p0.1, (p0.2.1, r5))).bind fun r6 =>
                                if (!r6) = true then
                                  some ((ByteArray.empty, (0, [])), 3)
                                else
                                  some ((p0.1, (p0.2.1, r5)), 0)
                            else
                              none
                          )
                        )
                      )
                    )
                  )
                )
              )
            ) (
              agree (
                agree (
                  agree (
                    agree (
                      agree (
                        if ([] : List (ByteArray × Int)).length + p0.2.2.length < room 24 then
                          if (decide ((0 : Int) ≤ r4)) = true then
                            if (0 : Int) ≤ r4 ∧ (r4 : Int) < (([] : List (ByteArray × Int)) ++ p0.2.2).length then
                              some ((p0.1, (p0.2.1, (([] : List (ByteArray × Int)) ++ p0.2.2).set (r4 : Int).toNat (((([] : List (ByteArray × Int)) ++ p0.2.2).getD (r4 : Int).toNat (ByteArray.empty, 0)).1, count2))), 0)
                            else
                              none
                          else
                            (spec_l29Put.f (([] : List (ByteArray × Int)) ++ p0.2.2) article1 count2).bind fun r5 =>
                            (spec_IsPaper.f (p0.1, (p0.2.1, r5))).bind fun r6 =>
                            if (!r6) = true then
                              some ((ByteArray.empty, (0, [])), 3)
                            else
                              some ((p0.1, (p0.2.1, r5)), 0)
                        else
                          none
                      ) (
                        if ([] : List (ByteArray × Int)).length + p0.2.2.length < room 24 then
                          if (decide ((0 : Int) ≤ r4)) = true then
                            if (0 : Int) ≤ r4 ∧ (r4 : Int) < (([] : List (ByteArray × Int)) ++ p0.2.2).length then
                              some ((p0.1, (p0.2.1, (([] : List (ByteArray × Int)) ++ p0.2.2).set (r4 : Int).toNat (((([] : List (ByteArray × Int)) ++ p0.2.2).getD (r4 : Int).toNat (ByteArray.empty, 0)).1, count2))), 0)
                            else
                              none
                          else
                            (spec_l29Put.f (([] : List (ByteArray × Int)) ++ p0.2.2) article1 count2).bind fun r5 =>
                            (spec_IsPaper.f (p0.1, (p0.2.1, r5))).bind fun r6 =>
                            if (!r6) = true then
                              some ((ByteArray.empty, (0, [])), 3)
                            else
                              some ((p0.1, (p0.2.1, r5)), 0)
                        else
                          none
                      )
                    ) (
                      if ([] : List (ByteArray × Int)).length + p0.2.2.length < room 24 then
                        if (decide ((0 : Int) ≤ r4)) = true then
                          if (0 : Int) ≤ r4 ∧ (r4 : Int) < (([] : List (ByteArray × Int)) ++ p0.2.2).length then
                            some ((p0.1, (p0.2.1, (([] : List (ByteArray × Int)) ++ p0.2.2).set (r4 : Int).toNat (((([] : List (ByteArray × Int)) ++ p0.2.2).getD (r4 : Int).toNat (ByteArray.empty, 0)).1, count2))), 0)
                          else
                            none
                        else
                          (spec_l29Put.f (([] : List (ByteArray × Int)) ++ p0.2.2) article1 count2).bind fun r5 =>
                          (spec_IsPaper.f (p0.1, (p0.2.1, r5))).bind fun r6 =>
                          if (!r6) = true then
                            some ((ByteArray.empty, (0, [])), 3)
                          else
                            some ((p0.1, (p0.2.1, r5)), 0)
                      else
                        none
                    )
                  ) (
                    agree (
                      agree (
                        agree (
                          if ([] : List (ByteArray × Int)).length + p0.2.2.length < room 24 then
                            if (decide ((0 : Int) ≤ r4)) = true then
                              if (0 : Int) ≤ r4 ∧ (r4 : Int) < (([] : List (ByteArray × Int)) ++ p0.2.2).length then
                                some ((p0.1, (p0.2.1, (([] : List (ByteArray × Int)) ++ p0.2.2).set (r4 : Int).toNat (((([] : List (ByteArray × Int)) ++ p0.2.2).getD (r4 : Int).toNat (ByteArray.empty, 0)).1, count2))), 0)
                              else
                                none
                            else
                              (spec_l29Put.f (([] : List (ByteArray × Int)) ++ p0.2.2) article1 count2).bind fun r5 =>
                              (spec_IsPaper.f (p0.1, (p0.2.1, r5))).bind fun r6 =>
                              if (!r6) = true then
                                some ((ByteArray.empty, (0, [])), 3)
                              else
                                some ((p0.1, (p0.2.1, r5)), 0)
                          else
                            none
                        ) (
                          if ([] : List (ByteArray × Int)).length + p0.2.2.length < room 24 then
                            if (decide ((0 : Int) ≤ r4)) = true then
                              if (0 : Int) ≤ r4 ∧ (r4 : Int) < (([] : List (ByteArray × Int)) ++ p0.2.2).length then
                                some ((p0.1, (p0.2.1, (([] : List (ByteArray × Int)) ++ p0.2.2).set (r4 : Int).toNat (((([] : List (ByteArray × Int)) ++ p0.2.2).getD (r4 : Int).toNat (ByteArray.empty, 0)).1, count2))), 0)
                              else
                                none
                            else
                              (spec_l29Put.f (([] : List (ByteArray × Int)) ++ p0.2.2) article1 count2).bind fun r5 =>
                              (spec_IsPaper.f (p0.1, (p0.2.1, r5))).bind fun r6 =>
                              if (!r6) = true then
                                some ((ByteArray.empty, (0, [])), 3)
                              else
                                some ((p0.1, (p0.2.1, r5)), 0)
                          else
                            none
                        )
                      ) (
                        agree (
                          if ([] : List (ByteArray × Int)).length + p0.2.2.length < room 24 then
                            if (decide ((0 : Int) ≤ r4)) = true then
                              if (0 : Int) ≤ r4 ∧ (r4 : Int) < (([] : List (ByteArray × Int)) ++ p0.2.2).length then
                                some ((p0.1, (p0.2.1, (([] : List (ByteArray × Int)) ++ p0.2.2).set (r4 : Int).toNat (((([] : List (ByteArray × Int)) ++ p0.2.2).getD (r4 : Int).toNat (ByteArray.empty, 0)).1, count2))), 0)
                              else
                                none
                            else
                              (spec_l29Put.f (([] : List (ByteArray × Int)) ++ p0.2.2) article1 count2).bind fun r5 =>
                              (spec_IsPaper.f (p0.1, (p0.2.1, r5))).bind fun r6 =>
                              if (!r6) = true then
                                some ((ByteArray.empty, (0, [])), 3)
                              else
                                some ((p0.1, (p0.2.1, r5)), 0)
                          else
                            none
                        ) (
                          agree (
                            if ([] : List (ByteArray × Int)).length + p0.2.2.length < room 24 then
                              if (decide ((0 : Int) ≤ r4)) = true then
                                if (0 : Int) ≤ r4 ∧ (r4 : Int) < (([] : List (ByteArray × Int)) ++ p0.2.2).length then
                                  some ((p0.1, (p0.2.1, (([] : List (ByteArray × Int)) ++ p0.2.2).set (r4 : Int).toNat (((([] : List (ByteArray × Int)) ++ p0.2.2).getD (r4 : Int).toNat (ByteArray.empty, 0)).1, count2))), 0)
                                else
                                  none
                              else
                                (spec_l29Put.f (([] : List (ByteArray × Int)) ++ p0.2.2) article1 count2).bind fun r5 =>
                                (spec_IsPaper.f (p0.1, (p0.2.1, r5))).bind fun r6 =>
                                if (!r6) = true then
                                  some ((ByteArray.empty, (0, [])), 3)
                                else
                                  some ((p0.1, (p0.2.1, r5)), 0)
                            else
                              none
                          ) (
                            if ([] : List (ByteArray × Int)).length + p0.2.2.length < room 24 then
                              if (decide ((0 : Int) ≤ r4)) = true then
                                if (0 : Int) ≤ r4 ∧ (r4 : Int) < (([] : List (ByteArray × Int)) ++ p0.2.2).length then
                                  some ((p0.1, (p0.2.1, (([] : List (ByteArray × Int)) ++ p0.2.2).set (r4 : Int).toNat (((([] : List (ByteArray × Int)) ++ p0.2.2).getD (r4 : Int).toNat (ByteArray.empty, 0)).1, count2))), 0)
                                else
                                  none
                              else
                                (spec_l29Put.f (([] : List (ByteArray × Int)) ++ p0.2.2) article1 count2).bind fun r5 =>
                                (spec_IsPaper.f (p0.1, (p0.2.1, r5))).bind fun r6 =>
                                if (!r6) = true then
                                  some ((ByteArray.empty, (0, [])), 3)
                                else
                                  some ((p0.1, (p0.2.1, r5)), 0)
                            else
                              none
                          )
                        )
                      )
                    ) (
                      agree (
                        if ([] : List (ByteArray × Int)).length + p0.2.2.length < room 24 then
                          if (decide ((0 : Int) ≤ r4)) = true then
                            if (0 : Int) ≤ r4 ∧ (r4 : Int) < (([] : List (ByteArray × Int)) ++ p0.2.2).length then
                              some ((p0.1, (p0.2.1, (([] : List (ByteArray × Int)) ++ p0.2.2).set (r4 : Int).toNat (((([] : List (ByteArray × Int)) ++ p0.2.2).getD (r4 : Int).toNat (ByteArray.empty, 0)).1, count2))), 0)
                            else
                              none
                          else
                            (spec_l29Put.f (([] : List (ByteArray × Int)) ++ p0.2.2) article1 count2).bind fun r5 =>
                            (spec_IsPaper.f (p0.1, (p0.2.1, r5))).bind fun r6 =>
                            if (!r6) = true then
                              some ((ByteArray.empty, (0, [])), 3)
                            else
                              some ((p0.1, (p0.2.1, r5)), 0)
                        else
                          none
                      ) (
                        agree (
                          if ([] : List (ByteArray × Int)).length + p0.2.2.length < room 24 then
                            if (decide ((0 : Int) ≤ r4)) = true then
                              if (0 : Int) ≤ r4 ∧ (r4 : Int) < (([] : List (ByteArray × Int)) ++ p0.2.2).length then
                                some ((p0.1, (p0.2.1, (([] : List (ByteArray × Int)) ++ p0.2.2).set (r4 : Int).toNat (((([] : List (ByteArray × Int)) ++ p0.2.2).getD (r4 : Int).toNat (ByteArray.empty, 0)).1, count2))), 0)
                              else
                                none
                            else
                              (spec_l29Put.f (([] : List (ByteArray × Int)) ++ p0.2.2) article1 count2).bind fun r5 =>
                              (spec_IsPaper.f (p0.1, (p0.2.1, r5))).bind fun r6 =>
                              if (!r6) = true then
                                some ((ByteArray.empty, (0, [])), 3)
                              else
                                some ((p0.1, (p0.2.1, r5)), 0)
                          else
                            none
                        ) (
                          if ([] : List (ByteArray × Int)).length + p0.2.2.length < room 24 then
                            if (decide ((0 : Int) ≤ r4)) = true then
                              if (0 : Int) ≤ r4 ∧ (r4 : Int) < (([] : List (ByteArray × Int)) ++ p0.2.2).length then
                                some ((p0.1, (p0.2.1, (([] : List (ByteArray × Int)) ++ p0.2.2).set (r4 : Int).toNat (((([] : List (ByteArray × Int)) ++ p0.2.2).getD (r4 : Int).toNat (ByteArray.empty, 0)).1, count2))), 0)
                              else
                                none
                            else
                              (spec_l29Put.f (([] : List (ByteArray × Int)) ++ p0.2.2) article1 count2).bind fun r5 =>
                              (spec_IsPaper.f (p0.1, (p0.2.1, r5))).bind fun r6 =>
                              if (!r6) = true then
                                some ((ByteArray.empty, (0, [])), 3)
                              else
                                some ((p0.1, (p0.2.1, r5)), 0)
                          else
                            none
                        )
                      )
                    )
                  )
                ) (
                  agree (
                    agree (
                      agree (
                        agree (
                          if ([] : List (ByteArray × Int)).length + p0.2.2.length < room 24 then
                            if (decide ((0 : Int) ≤ r4)) = true then
                              if (0 : Int) ≤ r4 ∧ (r4 : Int) < (([] : List (ByteArray × Int)) ++ p0.2.2).length then
                                some ((p0.1, (p0.2.1, (([] : List (ByteArray × Int)) ++ p0.2.2).set (r4 : Int).toNat (((([] : List (ByteArray × Int)) ++ p0.2.2).getD (r4 : Int).toNat (ByteArray.empty, 0)).1, count2))), 0)
                              else
                                none
                            else
                              (spec_l29Put.f (([] : List (ByteArray × Int)) ++ p0.2.2) article1 count2).bind fun r5 =>
                              (spec_IsPaper.f (p0.1, (p0.2.1, r5))).bind fun r6 =>
                              if (!r6) = true then
                                some ((ByteArray.empty, (0, [])), 3)
                              else
                                some ((p0.1, (p0.2.1, r5)), 0)
                          else
                            none
                        ) (
                          if ([] : List (ByteArray × Int)).length + p0.2.2.length < room 24 then
                            if (decide ((0 : Int) ≤ r4)) = true then
                              if (0 : Int) ≤ r4 ∧ (r4 : Int) < (([] : List (ByteArray × Int)) ++ p0.2.2).length then
                                some ((p0.1, (p0.2.1, (([] : List (ByteArray × Int)) ++ p0.2.2).set (r4 : Int).toNat (((([] : List (ByteArray × Int)) ++ p0.2.2).getD (r4 : Int).toNat (ByteArray.empty, 0)).1, count2))), 0)
                              else
                                none
                            else
                              (spec_l29Put.f (([] : List (ByteArray × Int)) ++ p0.2.2) article1 count2).bind fun r5 =>
                              (spec_IsPaper.f (p0.1, (p0.2.1, r5))).bind fun r6 =>
                              if (!r6) = true then
                                some ((ByteArray.empty, (0, [])), 3)
                              else
                                some ((p0.1, (p0.2.1, r5)), 0)
                          else
                            none
                        )
                      ) (
                        if ([] : List (ByteArray × Int)).length + p0.2.2.length < room 24 then
                          if (decide ((0 : Int) ≤ r4)) = true then
                            if (0 : Int) ≤ r4 ∧ (r4 : Int) < (([] : List (ByteArray × Int)) ++ p0.2.2).length then
                              some ((p0.1, (p0.2.1, (([] : List (ByteArray × Int)) ++ p0.2.2).set (r4 : Int).toNat (((([] : List (ByteArray × Int)) ++ p0.2.2).getD (r4 : Int).toNat (ByteArray.empty, 0)).1, count2))), 0)
                            else
                              none
                          else
                            (spec_l29Put.f (([] : List (ByteArray × Int)) ++ p0.2.2) article1 count2).bind fun r5 =>
                            (spec_IsPaper.f (p0.1, (p0.2.1, r5))).bind fun r6 =>
                            if (!r6) = true then
                              some ((ByteArray.empty, (0, [])), 3)
                            else
                              some ((p0.1, (p0.2.1, r5)), 0)
                        else
                          none
                      )
                    ) (
                      agree (
                        agree (
                          agree (
                            if ([] : List (ByteArray × Int)).length + p0.2.2.length < room 24 then
                              if (decide ((0 : Int) ≤ r4)) = true then
                                if (0 : Int) ≤ r4 ∧ (r4 : Int) < (([] : List (ByteArray × Int)) ++ p0.2.2).length then
                                  some ((p0.1, (p0.2.1, (([] : List (ByteArray × Int)) ++ p0.2.2).set (r4 : Int).toNat (((([] : List (ByteArray × Int)) ++ p0.2.2).getD (r4 : Int).toNat (ByteArray.empty, 0)).1, count2))), 0)
                                else
                                  none
                              else
                                (spec_l29Put.f (([] : List (ByteArray × Int)) ++ p0.2.2) article1 count2).bind fun r5 =>
                                (spec_IsPaper.f (p0.1, (p0.2.1, r5))).bind fun r6 =>
                                if (!r6) = true then
                                  some ((ByteArray.empty, (0, [])), 3)
                                else
                                  some ((p0.1, (p0.2.1, r5)), 0)
                            else
                              none
                          ) (
                            if ([] : List (ByteArray × Int)).length + p0.2.2.length < room 24 then
                              if (decide ((0 : Int) ≤ r4)) = true then
                                if (0 : Int) ≤ r4 ∧ (r4 : Int) < (([] : List (ByteArray × Int)) ++ p0.2.2).length then
                                  some ((p0.1, (p0.2.1, (([] : List (ByteArray × Int)) ++ p0.2.2).set (r4 : Int).toNat (((([] : List (ByteArray × Int)) ++ p0.2.2).getD (r4 : Int).toNat (ByteArray.empty, 0)).1, count2))), 0)
                                else
                                  none
                              else
                                (spec_l29Put.f (([] : List (ByteArray × Int)) ++ p0.2.2) article1 count2).bind fun r5 =>
                                (spec_IsPaper.f (p0.1, (p0.2.1, r5))).bind fun r6 =>
                                if (!r6) = true then
                                  some ((ByteArray.empty, (0, [])), 3)
                                else
                                  some ((p0.1, (p0.2.1, r5)), 0)
                            else
                              none
                          )
                        ) (
                          agree (
                            if ([] : List (ByteArray × Int)).length + p0.2.2.length < room 24 then
                              if (decide ((0 : Int) ≤ r4)) = true then
                                if (0 : Int) ≤ r4 ∧ (r4 : Int) < (([] : List (ByteArray × Int)) ++ p0.2.2).length then
                                  some ((p0.1, (p0.2.1, (([] : List (ByteArray × Int)) ++ p0.2.2).set (r4 : Int).toNat (((([] : List (ByteArray × Int)) ++ p0.2.2).getD (r4 : Int).toNat (ByteArray.empty, 0)).1, count2))), 0)
                                else
                                  none
                              else
                                (spec_l29Put.f (([] : List (ByteArray × Int)) ++ p0.2.2) article1 count2).bind fun r5 =>
                                (spec_IsPaper.f (p0.1, (p0.2.1, r5))).bind fun r6 =>
                                if (!r6) = true then
                                  some ((ByteArray.empty, (0, [])), 3)
                                else
                                  some ((p0.1, (p0.2.1, r5)), 0)
                            else
                              none
                          ) (
                            agree (
                              if ([] : List (ByteArray × Int)).length + p0.2.2.length < room 24 then
                                if (decide ((0 : Int) ≤ r4)) = true then
                                  if (0 : Int) ≤ r4 ∧ (r4 : Int) < (([] : List (ByteArray × Int)) ++ p0.2.2).length then
                                    some ((p0.1, (p0.2.1, (([] : List (ByteArray × Int)) ++ p0.2.2).set (r4 : Int).toNat (((([] : List (ByteArray × Int)) ++ p0.2.2).getD (r4 : Int).toNat (ByteArray.empty, 0)).1, count2))), 0)
                                  else
                                    none
                                else
                                  (spec_l29Put.f (([] : List (ByteArray × Int)) ++ p0.2.2) article1 count2).bind fun r5 =>
                                  (spec_IsPaper.f (p0.1, (p0.2.1, r5))).bind fun r6 =>
                                  if (!r6) = true then
                                    some ((ByteArray.empty, (0, [])), 3)
                                  else
                                    some ((p0.1, (p0.2.1, r5)), 0)
                              else
                                none
                            ) (
                              if ([] : List (ByteArray × Int)).length + p0.2.2.length < room 24 then
                                if (decide ((0 : Int) ≤ r4)) = true then
                                  if (0 : Int) ≤ r4 ∧ (r4 : Int) < (([] : List (ByteArray × Int)) ++ p0.2.2).length then
                                    some ((p0.1, (p0.2.1, (([] : List (ByteArray × Int)) ++ p0.2.2).set (r4 : Int).toNat (((([] : List (ByteArray × Int)) ++ p0.2.2).getD (r4 : Int).toNat (ByteArray.empty, 0)).1, count2))), 0)
                                  else
                                    none
                                else
                                  (spec_l29Put.f (([] : List (ByteArray × Int)) ++ p0.2.2) article1 count2).bind fun r5 =>
                                  (spec_IsPaper.f (p0.1, (p0.2.1, r5))).bind fun r6 =>
                                  if (!r6) = true then
                                    some ((ByteArray.empty, (0, [])), 3)
                                  else
                                    some ((p0.1, (p0.2.1, r5)), 0)
                              else
                                none
                            )
                          )
                        )
                      ) (
                        agree (
                          if ([] : List (ByteArray × Int)).length + p0.2.2.length < room 24 then
                            if (decide ((0 : Int) ≤ r4)) = true then
                              if (0 : Int) ≤ r4 ∧ (r4 : Int) < (([] : List (ByteArray × Int)) ++ p0.2.2).length then
                                some ((p0.1, (p0.2.1, (([] : List (ByteArray × Int)) ++ p0.2.2).set (r4 : Int).toNat (((([] : List (ByteArray × Int)) ++ p0.2.2).getD (r4 : Int).toNat (ByteArray.empty, 0)).1, count2))), 0)
                              else
                                none
                            else
                              (spec_l29Put.f (([] : List (ByteArray × Int)) ++ p0.2.2) article1 count2).bind fun r5 =>
                              (spec_IsPaper.f (p0.1, (p0.2.1, r5))).bind fun r6 =>
                              if (!r6) = true then
                                some ((ByteArray.empty, (0, [])), 3)
                              else
                                some ((p0.1, (p0.2.1, r5)), 0)
                          else
                            none
                        ) (
                          agree (
                            if ([] : List (ByteArray × Int)).length + p0.2.2.length < room 24 then
                              if (decide ((0 : Int) ≤ r4)) = true then
                                if (0 : Int) ≤ r4 ∧ (r4 : Int) < (([] : List (ByteArray × Int)) ++ p0.2.2).length then
                                  some ((p0.1, (p0.2.1, (([] : List (ByteArray × Int)) ++ p0.2.2).set (r4 : Int).toNat (((([] : List (ByteArray × Int)) ++ p0.2.2).getD (r4 : Int).toNat (ByteArray.empty, 0)).1, count2))), 0)
                                else
                                  none
                              else
                                (spec_l29Put.f (([] : List (ByteArray × Int)) ++ p0.2.2) article1 count2).bind fun r5 =>
                                (spec_IsPaper.f (p0.1, (p0.2.1, r5))).bind fun r6 =>
                                if (!r6) = true then
                                  some ((ByteArray.empty, (0, [])), 3)
                                else
                                  some ((p0.1, (p0.2.1, r5)), 0)
                            else
                              none
                          ) (
                            if ([] : List (ByteArray × Int)).length + p0.2.2.length < room 24 then
                              if (decide ((0 : Int) ≤ r4)) = true then
                                if (0 : Int) ≤ r4 ∧ (r4 : Int) < (([] : List (ByteArray × Int)) ++ p0.2.2).length then
                                  some ((p0.1, (p0.2.1, (([] : List (ByteArray × Int)) ++ p0.2.2).set (r4 : Int).toNat (((([] : List (ByteArray × Int)) ++ p0.2.2).getD (r4 : Int).toNat (ByteArray.empty, 0)).1, count2))), 0)
                                else
                                  none
                              else
                                (spec_l29Put.f (([] : List (ByteArray × Int)) ++ p0.2.2) article1 count2).bind fun r5 =>
                                (spec_IsPaper.f (p0.1, (p0.2.1, r5))).bind fun r6 =>
                                if (!r6) = true then
                                  some ((ByteArray.empty, (0, [])), 3)
                                else
                                  some ((p0.1, (p0.2.1, r5)), 0)
                            else
                              none
                          )
                        )
                      )
                    )
                  ) (
                    agree (
                      agree (
                        agree (
                          agree (
                            if ([] : List (ByteArray × Int)).length + p0.2.2.length < room 24 then
                              if (decide ((0 : Int) ≤ r4)) = true then
                                if (0 : Int) ≤ r4 ∧ (r4 : Int) < (([] : List (ByteArray × Int)) ++ p0.2.2).length then
                                  some ((p0.1, (p0.2.1, (([] : List (ByteArray × Int)) ++ p0.2.2).set (r4 : Int).toNat (((([] : List (ByteArray × Int)) ++ p0.2.2).getD (r4 : Int).toNat (ByteArray.empty, 0)).1, count2))), 0)
                                else
                                  none
                              else
                                (spec_l29Put.f (([] : List (ByteArray × Int)) ++ p0.2.2) article1 count2).bind fun r5 =>
                                (spec_IsPaper.f (p0.1, (p0.2.1, r5))).bind fun r6 =>
                                if (!r6) = true then
                                  some ((ByteArray.empty, (0, [])), 3)
                                else
                                  some ((p0.1, (p0.2.1, r5)), 0)
                            else
                              none
                          ) (
                            if ([] : List (ByteArray × Int)).length + p0.2.2.length < room 24 then
                              if (decide ((0 : Int) ≤ r4)) = true then
                                if (0 : Int) ≤ r4 ∧ (r4 : Int) < (([] : List (ByteArray × Int)) ++ p0.2.2).length then
                                  some ((p0.1, (p0.2.1, (([] : List (ByteArray × Int)) ++ p0.2.2).set (r4 : Int).toNat (((([] : List (ByteArray × Int)) ++ p0.2.2).getD (r4 : Int).toNat (ByteArray.empty, 0)).1, count2))), 0)
                                else
                                  none
                              else
                                (spec_l29Put.f (([] : List (ByteArray × Int)) ++ p0.2.2) article1 count2).bind fun r5 =>
                                (spec_IsPaper.f (p0.1, (p0.2.1, r5))).bind fun r6 =>
                                if (!r6) = true then
                                  some ((ByteArray.empty, (0, [])), 3)
                                else
                                  some ((p0.1, (p0.2.1, r5)), 0)
                            else
                              none
                          )
                        ) (
                          agree (
                            if ([] : List (ByteArray × Int)).length + p0.2.2.length < room 24 then
                              if (decide ((0 : Int) ≤ r4)) = true then
                                if (0 : Int) ≤ r4 ∧ (r4 : Int) < (([] : List (ByteArray × Int)) ++ p0.2.2).length then
                                  some ((p0.1, (p0.2.1, (([] : List (ByteArray × Int)) ++ p0.2.2).set (r4 : Int).toNat (((([] : List (ByteArray × Int)) ++ p0.2.2).getD (r4 : Int).toNat (ByteArray.empty, 0)).1, count2))), 0)
                                else
                                  none
                              else
                                (spec_l29Put.f (([] : List (ByteArray × Int)) ++ p0.2.2) article1 count2).bind fun r5 =>
                                (spec_IsPaper.f (p0.1, (p0.2.1, r5))).bind fun r6 =>
                                if (!r6) = true then
                                  some ((ByteArray.empty, (0, [])), 3)
                                else
                                  some ((p0.1, (p0.2.1, r5)), 0)
                            else
                              none
                          ) (
                            agree (
                              if ([] : List (ByteArray × Int)).length + p0.2.2.length < room 24 then
                                if (decide ((0 : Int) ≤ r4)) = true then
                                  if (0 : Int) ≤ r4 ∧ (r4 : Int) < (([] : List (ByteArray × Int)) ++ p0.2.2).length then
                                    some ((p0.1, (p0.2.1, (([] : List (ByteArray × Int)) ++ p0.2.2).set (r4 : Int).toNat (((([] : List (ByteArray × Int)) ++ p0.2.2).getD (r4 : Int).toNat (ByteArray.empty, 0)).1, count2))), 0)
                                  else
                                    none
                                else
                                  (spec_l29Put.f (([] : List (ByteArray × Int)) ++ p0.2.2) article1 count2).bind fun r5 =>
                                  (spec_IsPaper.f (p0.1, (p0.2.1, r5))).bind fun r6 =>
                                  if (!r6) = true then
                                    some ((ByteArray.empty, (0, [])), 3)
                                  else
                                    some ((p0.1, (p0.2.1, r5)), 0)
                              else
                                none
                            ) (
                              if ([] : List (ByteArray × Int)).length + p0.2.2.length < room 24 then
                                if (decide ((0 : Int) ≤ r4)) = true then
                                  if (0 : Int) ≤ r4 ∧ (r4 : Int) < (([] : List (ByteArray × Int)) ++ p0.2.2).length then
                                    some ((p0.1, (p0.2.1, (([] : List (ByteArray × Int)) ++ p0.2.2).set (r4 : Int).toNat (((([] : List (ByteArray × Int)) ++ p0.2.2).getD (r4 : Int).toNat (ByteArray.empty, 0)).1, count2))), 0)
                                  else
                                    none
                                else
                                  (spec_l29Put.f (([] : List (ByteArray × Int)) ++ p0.2.2) article1 count2).bind fun r5 =>
                                  (spec_IsPaper.f (p0.1, (p0.2.1, r5))).bind fun r6 =>
                                  if (!r6) = true then
                                    some ((ByteArray.empty, (0, [])), 3)
                                  else
                                    some ((p0.1, (p0.2.1, r5)), 0)
                              else
                                none
                            )
                          )
                        )
                      ) (
                        agree (
                          agree (
                            agree (
                              if ([] : List (ByteArray × Int)).length + p0.2.2.length < room 24 then
                                if (decide ((0 : Int) ≤ r4)) = true then
                                  if (0 : Int) ≤ r4 ∧ (r4 : Int) < (([] : List (ByteArray × Int)) ++ p0.2.2).length then
                                    some ((p0.1, (p0.2.1, (([] : List (ByteArray × Int)) ++ p0.2.2).set (r4 : Int).toNat (((([] : List (ByteArray × Int)) ++ p0.2.2).getD (r4 : Int).toNat (ByteArray.empty, 0)).1, count2))), 0)
                                  else
                                    none
                                else
                                  (spec_l29Put.f (([] : List (ByteArray × Int)) ++ p0.2.2) article1 count2).bind fun r5 =>
                                  (spec_IsPaper.f (p0.1, (p0.2.1, r5))).bind fun r6 =>
                                  if (!r6) = true then
                                    some ((ByteArray.empty, (0, [])), 3)
                                  else
                                    some ((p0.1, (p0.2.1, r5)), 0)
                              else
                                none
                            ) (
                              if ([] : List (ByteArray × Int)).length + p0.2.2.length < room 24 then
                                if (decide ((0 : Int) ≤ r4)) = true then
                                  if (0 : Int) ≤ r4 ∧ (r4 : Int) < (([] : List (ByteArray × Int)) ++ p0.2.2).length then
                                    some ((p0.1, (p0.2.1, (([] : List (ByteArray × Int)) ++ p0.2.2).set (r4 : Int).toNat (((([] : List (ByteArray × Int)) ++ p0.2.2).getD (r4 : Int).toNat (ByteArray.empty, 0)).1, count2))), 0)
                                  else
                                    none
                                else
                                  (spec_l29Put.f (([] : List (ByteArray × Int)) ++ p0.2.2) article1 count2).bind fun r5 =>
                                  (spec_IsPaper.f (p0.1, (p0.2.1, r5))).bind fun r6 =>
                                  if (!r6) = true then
                                    some ((ByteArray.empty, (0, [])), 3)
                                  else
                                    some ((p0.1, (p0.2.1, r5)), 0)
                              else
                                none
                            )
                          ) (
                            agree (
                              if ([] : List (ByteArray × Int)).length + p0.2.2.length < room 24 then
                                if (decide ((0 : Int) ≤ r4)) = true then
                                  if (0 : Int) ≤ r4 ∧ (r4 : Int) < (([] : List (ByteArray × Int)) ++ p0.2.2).length then
                                    some ((p0.1, (p0.2.1, (([] : List (ByteArray × Int)) ++ p0.2.2).set (r4 : Int).toNat (((([] : List (ByteArray × Int)) ++ p0.2.2).getD (r4 : Int).toNat (ByteArray.empty, 0)).1, count2))), 0)
                                  else
                                    none
                                else
                                  (spec_l29Put.f (([] : List (ByteArray × Int)) ++ p0.2.2) article1 count2).bind fun r5 =>
                                  (spec_IsPaper.f (p0.1, (p0.2.1, r5))).bind fun r6 =>
                                  if (!r6) = true then
                                    some ((ByteArray.empty, (0, [])), 3)
                                  else
                                    some ((p0.1, (p0.2.1, r5)), 0)
                              else
                                none
                            ) (
                              agree (
                                if ([] : List (ByteArray × Int)).length + p0.2.2.length < room 24 then
                                  if (decide ((0 : Int) ≤ r4)) = true then
                                    if (0 : Int) ≤ r4 ∧ (r4 : Int) < (([] : List (ByteArray × Int)) ++ p0.2.2).length then
                                      some ((p0.1, (p0.2.1, (([] : List (ByteArray × Int)) ++ p0.2.2).set (r4 : Int).toNat (((([] : List (ByteArray × Int)) ++ p0.2.2).getD (r4 : Int).toNat (ByteArray.empty, 0)).1, count2))), 0)
                                    else
                                      none
                                  else
                                    (spec_l29Put.f (([] : List (ByteArray × Int)) ++ p0.2.2) article1 count2).bind fun r5 =>
                                    (spec_IsPaper.f (p0.1, (p0.2.1, r5))).bind fun r6 =>
                                    if (!r6) = true then
                                      some ((ByteArray.empty, (0, [])), 3)
                                    else
                                      some ((p0.1, (p0.2.1, r5)), 0)
                                else
                                  none
                              ) (
                                if ([] : List (ByteArray × Int)).length + p0.2.2.length < room 24 then
                                  if (decide ((0 : Int) ≤ r4)) = true then
                                    if (0 : Int) ≤ r4 ∧ (r4 : Int) < (([] : List (ByteArray × Int)) ++ p0.2.2).length then
                                      some ((p0.1, (p0.2.1, (([] : List (ByteArray × Int)) ++ p0.2.2).set (r4 : Int).toNat (((([] : List (ByteArray × Int)) ++ p0.2.2).getD (r4 : Int).toNat (ByteArray.empty, 0)).1, count2))), 0)
                                    else
                                      none
                                  else
                                    (spec_l29Put.f (([] : List (ByteArray × Int)) ++ p0.2.2) article1 count2).bind fun r5 =>
                                    (spec_IsPaper.f (p0.1, (p0.2.1, r5))).bind fun r6 =>
                                    if (!r6) = true then
                                      some ((ByteArray.empty, (0, [])), 3)
                                    else
                                      some ((p0.1, (p0.2.1, r5)), 0)
                                else
                                  none
                              )
                            )
                          )
                        ) (
                          agree (
                            if ([] : List (ByteArray × Int)).length + p0.2.2.length < room 24 then
                              if (decide ((0 : Int) ≤ r4)) = true then
                                if (0 : Int) ≤ r4 ∧ (r4 : Int) < (([] : List (ByteArray × Int)) ++ p0.2.2).length then
                                  some ((p0.1, (p0.2.1, (([] : List (ByteArray × Int)) ++ p0.2.2).set (r4 : Int).toNat (((([] : List (ByteArray × Int)) ++ p0.2.2).getD (r4 : Int).toNat (ByteArray.empty, 0)).1, count2))), 0)
                                else
                                  none
                              else
                                (spec_l29Put.f (([] : List (ByteArray × Int)) ++ p0.2.2) article1 count2).bind fun r5 =>
                                (spec_IsPaper.f (p0.1, (p0.2.1, r5))).bind fun r6 =>
                                if (!r6) = true then
                                  some ((ByteArray.empty, (0, [])), 3)
                                else
                                  some ((p0.1, (p0.2.1, r5)), 0)
                            else
                              none
                          ) (
                            agree (
                              agree (
                                if ([] : List (ByteArray × Int)).length + p0.2.2.length < room 24 then
                                  if (decide ((0 : Int) ≤ r4)) = true then
                                    if (0 : Int) ≤ r4 ∧ (r4 : Int) < (([] : List (ByteArray × Int)) ++ p0.2.2).length then
                                      some ((p0.1, (p0.2.1, (([] : List (ByteArray × Int)) ++ p0.2.2).set (r4 : Int).toNat (((([] : List (ByteArray × Int)) ++ p0.2.2).getD (r4 : Int).toNat (ByteArray.empty, 0)).1, count2))), 0)
                                    else
                                      none
                                  else
                                    (spec_l29Put.f (([] : List (ByteArray × Int)) ++ p0.2.2) article1 count2).bind fun r5 =>
                                    (spec_IsPaper.f (p0.1, (p0.2.1, r5))).bind fun r6 =>
                                    if (!r6) = true then
                                      some ((ByteArray.empty, (0, [])), 3)
                                    else
                                      some ((p0.1, (p0.2.1, r5)), 0)
                                else
                                  none
                              ) (
                                if ([] : List (ByteArray × Int)).length + p0.2.2.length < room 24 then
                                  if (decide ((0 : Int) ≤ r4)) = true then
                                    if (0 : Int) ≤ r4 ∧ (r4 : Int) < (([] : List (ByteArray × Int)) ++ p0.2.2).length then
                                      some ((p0.1, (p0.2.1, (([] : List (ByteArray × Int)) ++ p0.2.2).set (r4 : Int).toNat (((([] : List (ByteArray × Int)) ++ p0.2.2).getD (r4 : Int).toNat (ByteArray.empty, 0)).1, count2))), 0)
                                    else
                                      none
                                  else
                                    (spec_l29Put.f (([] : List (ByteArray × Int)) ++ p0.2.2) article1 count2).bind fun r5 =>
                                    (spec_IsPaper.f (p0.1, (p0.2.1, r5))).bind fun r6 =>
                                    if (!r6) = true then
                                      some ((ByteArray.empty, (0, [])), 3)
                                    else
                                      some ((p0.1, (p0.2.1, r5)), 0)
                                else
                                  none
                              )
                            ) (
                              agree (
                                agree (
                                  if ([] : List (ByteArray × Int)).length + p0.2.2.length < room 24 then
                                    if (decide ((0 : Int) ≤ r4)) = true then
                                      if (0 : Int) ≤ r4 ∧ (r4 : Int) < (([] : List (ByteArray × Int)) ++ p0.2.2).length then
                                        some ((p0.1, (p0.2.1, (([] : List (ByteArray × Int)) ++ p0.2.2).set (r4 : Int).toNat (((([] : List (ByteArray × Int)) ++ p0.2.2).getD (r4 : Int).toNat (ByteArray.empty, 0)).1, count2))), 0)
                                      else
                                        none
                                    else
                                      (spec_l29Put.f (([] : List (ByteArray × Int)) ++ p0.2.2) article1 count2).bind fun r5 =>
                                      (spec_IsPaper.f (p0.1, (p0.2.1, r5))).bind fun r6 =>
                                      if (!r6) = true then
                                        some ((ByteArray.empty, (0, [])), 3)
                                      else
                                        some ((p0.1, (p0.2.1, r5)), 0)
                                  else
                                    none
                                ) (
                                  if ([] : List (ByteArray × Int)).length + p0.2.2.length < room 24 then
                                    if (decide ((0 : Int) ≤ r4)) = true then
                                      if (0 : Int) ≤ r4 ∧ (r4 : Int) < (([] : List (ByteArray × Int)) ++ p0.2.2).length then
                                        some ((p0.1, (p0.2.1, (([] : List (ByteArray × Int)) ++ p0.2.2).set (r4 : Int).toNat (((([] : List (ByteArray × Int)) ++ p0.2.2).getD (r4 : Int).toNat (ByteArray.empty, 0)).1, count2))), 0)
                                      else
                                        none
                                    else
                                      (spec_l29Put.f (([] : List (ByteArray × Int)) ++ p0.2.2) article1 count2).bind fun r5 =>
                                      (spec_IsPaper.f (p0.1, (p0.2.1, r5))).bind fun r6 =>
                                      if (!r6) = true then
                                        some ((ByteArray.empty, (0, [])), 3)
                                      else
                                        some ((p0.1, (p0.2.1, r5)), 0)
                                  else
                                    none
                                )
                              ) (
                                if ([] : List (ByteArray × Int)).length + p0.2.2.length < room 24 then
                                  if (decide ((0 : Int) ≤ r4)) = true then
                                    if (0 : Int) ≤ r4 ∧ (r4 : Int) < (([] : List (ByteArray × Int)) ++ p0.2.2).length then
                                      some ((p0.1, (p0.2.1, (([] : List (ByteArray × Int)) ++ p0.2.2).set (r4 : Int).toNat (((([] : List (ByteArray × Int)) ++ p0.2.2).getD (r4 : Int).toNat (ByteArray.empty, 0)).1, count2))), 0)
                                    else
                                      none
                                  else
                                    (spec_l29Put.f (([] : List (ByteArray × Int)) ++ p0.2.2) article1 count2).bind fun r5 =>
                                    (spec_IsPaper.f (p0.1, (p0.2.1, r5))).bind fun r6 =>
                                    if (!r6) = true then
                                      some ((ByteArray.empty, (0, [])), 3)
                                    else
                                      some ((p0.1, (p0.2.1, r5)), 0)
                                else
                                  none
                              )
                            )
                          )
                        )
                      )
                    ) (
                      agree (
                        agree (
                          if ([] : List (ByteArray × Int)).length + p0.2.2.length < room 24 then
                            if (decide ((0 : Int) ≤ r4)) = true then
                              if (0 : Int) ≤ r4 ∧ (r4 : Int) < (([] : List (ByteArray × Int)) ++ p0.2.2).length then
                                some ((p0.1, (p0.2.1, (([] : List (ByteArray × Int)) ++ p0.2.2).set (r4 : Int).toNat (((([] : List (ByteArray × Int)) ++ p0.2.2).getD (r4 : Int).toNat (ByteArray.empty, 0)).1, count2))), 0)
                              else
                                none
                            else
                              (spec_l29Put.f (([] : List (ByteArray × Int)) ++ p0.2.2) article1 count2).bind fun r5 =>
                              (spec_IsPaper.f (p0.1, (p0.2.1, r5))).bind fun r6 =>
                              if (!r6) = true then
                                some ((ByteArray.empty, (0, [])), 3)
                              else
                                some ((p0.1, (p0.2.1, r5)), 0)
                          else
                            none
                        ) (
                          agree (
                            if ([] : List (ByteArray × Int)).length + p0.2.2.length < room 24 then
                              if (decide ((0 : Int) ≤ r4)) = true then
                                if (0 : Int) ≤ r4 ∧ (r4 : Int) < (([] : List (ByteArray × Int)) ++ p0.2.2).length then
                                  some ((p0.1, (p0.2.1, (([] : List (ByteArray × Int)) ++ p0.2.2).set (r4 : Int).toNat (((([] : List (ByteArray × Int)) ++ p0.2.2).getD (r4 : Int).toNat (ByteArray.empty, 0)).1, count2))), 0)
                                else
                                  none
                              else
                                (spec_l29Put.f (([] : List (ByteArray × Int)) ++ p0.2.2) article1 count2).bind fun r5 =>
                                (spec_IsPaper.f (p0.1, (p0.2.1, r5))).bind fun r6 =>
                                if (!r6) = true then
                                  some ((ByteArray.empty, (0, [])), 3)
                                else
                                  some ((p0.1, (p0.2.1, r5)), 0)
                            else
                              none
                          ) (
                            if ([] : List (ByteArray × Int)).length + p0.2.2.length < room 24 then
                              if (decide ((0 : Int) ≤ r4)) = true then
                                if (0 : Int) ≤ r4 ∧ (r4 : Int) < (([] : List (ByteArray × Int)) ++ p0.2.2).length then
                                  some ((p0.1, (p0.2.1, (([] : List (ByteArray × Int)) ++ p0.2.2).set (r4 : Int).toNat (((([] : List (ByteArray × Int)) ++ p0.2.2).getD (r4 : Int).toNat (ByteArray.empty, 0)).1, count2))), 0)
                                else
                                  none
                              else
                                (spec_l29Put.f (([] : List (ByteArray × Int)) ++ p0.2.2) article1 count2).bind fun r5 =>
                                (spec_IsPaper.f (p0.1, (p0.2.1, r5))).bind fun r6 =>
                                if (!r6) = true then
                                  some ((ByteArray.empty, (0, [])), 3)
                                else
                                  some ((p0.1, (p0.2.1, r5)), 0)
                            else
                              none
                          )
                        )
                      ) (
                        agree (
                          agree (
                            if ([] : List (ByteArray × Int)).length + p0.2.2.length < room 24 then
                              if (decide ((0 : Int) ≤ r4)) = true then
                                if (0 : Int) ≤ r4 ∧ (r4 : Int) < (([] : List (ByteArray × Int)) ++ p0.2.2).length then
                                  some ((p0.1, (p0.2.1, (([] : List (ByteArray × Int)) ++ p0.2.2).set (r4 : Int).toNat (((([] : List (ByteArray × Int)) ++ p0.2.2).getD (r4 : Int).toNat (ByteArray.empty, 0)).1, count2))), 0)
                                else
                                  none
                              else
                                (spec_l29Put.f (([] : List (ByteArray × Int)) ++ p0.2.2) article1 count2).bind fun r5 =>
                                (spec_IsPaper.f (p0.1, (p0.2.1, r5))).bind fun r6 =>
                                if (!r6) = true then
                                  some ((ByteArray.empty, (0, [])), 3)
                                else
                                  some ((p0.1, (p0.2.1, r5)), 0)
                            else
                              none
                          ) (
                            agree (
                              if ([] : List (ByteArray × Int)).length + p0.2.2.length < room 24 then
                                if (decide ((0 : Int) ≤ r4)) = true then
                                  if (0 : Int) ≤ r4 ∧ (r4 : Int) < (([] : List (ByteArray × Int)) ++ p0.2.2).length then
                                    some ((p0.1, (p0.2.1, (([] : List (ByteArray × Int)) ++ p0.2.2).set (r4 : Int).toNat (((([] : List (ByteArray × Int)) ++ p0.2.2).getD (r4 : Int).toNat (ByteArray.empty, 0)).1, count2))), 0)
                                  else
                                    none
                                else
                                  (spec_l29Put.f (([] : List (ByteArray × Int)) ++ p0.2.2) article1 count2).bind fun r5 =>
                                  (spec_IsPaper.f (p0.1, (p0.2.1, r5))).bind fun r6 =>
                                  if (!r6) = true then
                                    some ((ByteArray.empty, (0, [])), 3)
                                  else
                                    some ((p0.1, (p0.2.1, r5)), 0)
                              else
                                none
                            ) (
                              if ([] : List (ByteArray × Int)).length + p0.2.2.length < room 24 then
                                if (decide ((0 : Int) ≤ r4)) = true then
                                  if (0 : Int) ≤ r4 ∧ (r4 : Int) < (([] : List (ByteArray × Int)) ++ p0.2.2).length then
                                    some ((p0.1, (p0.2.1, (([] : List (ByteArray × Int)) ++ p0.2.2).set (r4 : Int).toNat (((([] : List (ByteArray × Int)) ++ p0.2.2).getD (r4 : Int).toNat (ByteArray.empty, 0)).1, count2))), 0)
                                  else
                                    none
                                else
                                  (spec_l29Put.f (([] : List (ByteArray × Int)) ++ p0.2.2) article1 count2).bind fun r5 =>
                                  (spec_IsPaper.f (p0.1, (p0.2.1, r5))).bind fun r6 =>
                                  if (!r6) = true then
                                    some ((ByteArray.empty, (0, [])), 3)
                                  else
                                    some ((p0.1, (p0.2.1, r5)), 0)
                              else
                                none
                            )
                          )
                        ) (
                          agree (
                            agree (
                              if ([] : List (ByteArray × Int)).length + p0.2.2.length < room 24 then
                                if (decide ((0 : Int) ≤ r4)) = true then
                                  if (0 : Int) ≤ r4 ∧ (r4 : Int) < (([] : List (ByteArray × Int)) ++ p0.2.2).length then
                                    some ((p0.1, (p0.2.1, (([] : List (ByteArray × Int)) ++ p0.2.2).set (r4 : Int).toNat (((([] : List (ByteArray × Int)) ++ p0.2.2).getD (r4 : Int).toNat (ByteArray.empty, 0)).1, count2))), 0)
                                  else
                                    none
                                else
                                  (spec_l29Put.f (([] : List (ByteArray × Int)) ++ p0.2.2) article1 count2).bind fun r5 =>
                                  (spec_IsPaper.f (p0.1, (p0.2.1, r5))).bind fun r6 =>
                                  if (!r6) = true then
                                    some ((ByteArray.empty, (0, [])), 3)
                                  else
                                    some ((p0.1, (p0.2.1, r5)), 0)
                              else
                                none
                            ) (
                              if ([] : List (ByteArray × Int)).length + p0.2.2.length < room 24 then
                                if (decide ((0 : Int) ≤ r4)) = true then
                                  if (0 : Int) ≤ r4 ∧ (r4 : Int) < (([] : List (ByteArray × Int)) ++ p0.2.2).length then
                                    some ((p0.1, (p0.2.1, (([] : List (ByteArray × Int)) ++ p0.2.2).set (r4 : Int).toNat (((([] : List (ByteArray × Int)) ++ p0.2.2).getD (r4 : Int).toNat (ByteArray.empty, 0)).1, count2))), 0)
                                  else
                                    none
                                else
                                  (spec_l29Put.f (([] : List (ByteArray × Int)) ++ p0.2.2) article1 count2).bind fun r5 =>
                                  (spec_IsPaper.f (p0.1, (p0.2.1, r5))).bind fun r6 =>
                                  if (!r6) = true then
                                    some ((ByteArray.empty, (0, [])), 3)
                                  else
                                    some ((p0.1, (p0.2.1, r5)), 0)
                              else
                                none
                            )
                          ) (
                            agree (
                              agree (
                                if ([] : List (ByteArray × Int)).length + p0.2.2.length < room 24 then
                                  if (decide ((0 : Int) ≤ r4)) = true then
                                    if (0 : Int) ≤ r4 ∧ (r4 : Int) < (([] : List (ByteArray × Int)) ++ p0.2.2).length then
                                      some ((p0.1, (p0.2.1, (([] : List (ByteArray × Int)) ++ p0.2.2).set (r4 : Int).toNat (((([] : List (ByteArray × Int)) ++ p0.2.2).getD (r4 : Int).toNat (ByteArray.empty, 0)).1, count2))), 0)
                                    else
                                      none
                                  else
                                    (spec_l29Put.f (([] : List (ByteArray × Int)) ++ p0.2.2) article1 count2).bind fun r5 =>
                                    (spec_IsPaper.f (p0.1, (p0.2.1, r5))).bind fun r6 =>
                                    if (!r6) = true then
                                      some ((ByteArray.empty, (0, [])), 3)
                                    else
                                      some ((p0.1, (p0.2.1, r5)), 0)
                                else
                                  none
                              ) (
                                if ([] : List (ByteArray × Int)).length + p0.2.2.length < room 24 then
                                  if (decide ((0 : Int) ≤ r4)) = true then
                                    if (0 : Int) ≤ r4 ∧ (r4 : Int) < (([] : List (ByteArray × Int)) ++ p0.2.2).length then
                                      some ((p0.1, (p0.2.1, (([] : List (ByteArray × Int)) ++ p0.2.2).set (r4 : Int).toNat (((([] : List (ByteArray × Int)) ++ p0.2.2).getD (r4 : Int).toNat (ByteArray.empty, 0)).1, count2))), 0)
                                    else
                                      none
                                  else
                                    (spec_l29Put.f (([] : List (ByteArray × Int)) ++ p0.2.2) article1 count2).bind fun r5 =>
                                    (spec_IsPaper.f (p0.1, (p0.2.1, r5))).bind fun r6 =>
                                    if (!r6) = true then
                                      some ((ByteArray.empty, (0, [])), 3)
                                    else
                                      some ((p0.1, (p0.2.1, r5)), 0)
                                else
                                  none
                              )
                            ) (
                              if ([] : List (ByteArray × Int)).length + p0.2.2.length < room 24 then
                                if (decide ((0 : Int) ≤ r4)) = true then
                                  if (0 : Int) ≤ r4 ∧ (r4 : Int) < (([] : List (ByteArray × Int)) ++ p0.2.2).length then
                                    some ((p0.1, (p0.2.1, (([] : List (ByteArray × Int)) ++ p0.2.2).set (r4 : Int).toNat (((([] : List (ByteArray × Int)) ++ p0.2.2).getD (r4 : Int).toNat (ByteArray.empty, 0)).1, count2))), 0)
                                  else
                                    none
                                else
                                  (spec_l29Put.f (([] : List (ByteArray × Int)) ++ p0.2.2) article1 count2).bind fun r5 =>
                                  (spec_IsPaper.f (p0.1, (p0.2.1, r5))).bind fun r6 =>
                                  if (!r6) = true then
                                    some ((ByteArray.empty, (0, [])), 3)
                                  else
                                    some ((p0.1, (p0.2.1, r5)), 0)
                              else
                                none
                            )
                          )
                        )
                      )
                    )
                  )
                )
              ) (
                agree (
                  agree (
                    agree (
                      if ([] : List (ByteArray × Int)).length + p0.2.2.length < room 24 then
                        if (decide ((0 : Int) ≤ r4)) = true then
                          if (0 : Int) ≤ r4 ∧ (r4 : Int) < (([] : List (ByteArray × Int)) ++ p0.2.2).length then
                            some ((p0.1, (p0.2.1, (([] : List (ByteArray × Int)) ++ p0.2.2).set (r4 : Int).toNat (((([] : List (ByteArray × Int)) ++ p0.2.2).getD (r4 : Int).toNat (ByteArray.empty, 0)).1, count2))), 0)
                          else
                            none
                        else
                          (spec_l29Put.f (([] : List (ByteArray × Int)) ++ p0.2.2) article1 count2).bind fun r5 =>
                          (spec_IsPaper.f (p0.1, (p0.2.1, r5))).bind fun r6 =>
                          if (!r6) = true then
                            some ((ByteArray.empty, (0, [])), 3)
                          else
                            some ((p0.1, (p0.2.1, r5)), 0)
                      else
                        none
                    ) (
                      if ([] : List (ByteArray × Int)).length + p0.2.2.length < room 24 then
                        if (decide ((0 : Int) ≤ r4)) = true then
                          if (0 : Int) ≤ r4 ∧ (r4 : Int) < (([] : List (ByteArray × Int)) ++ p0.2.2).length then
                            some ((p0.1, (p0.2.1, (([] : List (ByteArray × Int)) ++ p0.2.2).set (r4 : Int).toNat (((([] : List (ByteArray × Int)) ++ p0.2.2).getD (r4 : Int).toNat (ByteArray.empty, 0)).1, count2))), 0)
                          else
                            none
                        else
                          (spec_l29Put.f (([] : List (ByteArray × Int)) ++ p0.2.2) article1 count2).bind fun r5 =>
                          (spec_IsPaper.f (p0.1, (p0.2.1, r5))).bind fun r6 =>
                          if (!r6) = true then
                            some ((ByteArray.empty, (0, [])), 3)
                          else
                            some ((p0.1, (p0.2.1, r5)), 0)
                      else
                        none
                    )
                  ) (
                    agree (
                      agree (
                        if ([] : List (ByteArray × Int)).length + p0.2.2.length < room 24 then
                          if (decide ((0 : Int) ≤ r4)) = true then
                            if (0 : Int) ≤ r4 ∧ (r4 : Int) < (([] : List (ByteArray × Int)) ++ p0.2.2).length then
                              some ((p0.1, (p0.2.1, (([] : List (ByteArray × Int)) ++ p0.2.2).set (r4 : Int).toNat (((([] : List (ByteArray × Int)) ++ p0.2.2).getD (r4 : Int).toNat (ByteArray.empty, 0)).1, count2))), 0)
                            else
                              none
                          else
                            (spec_l29Put.f (([] : List (ByteArray × Int)) ++ p0.2.2) article1 count2).bind fun r5 =>
                            (spec_IsPaper.f (p0.1, (p0.2.1, r5))).bind fun r6 =>
                            if (!r6) = true then
                              some ((ByteArray.empty, (0, [])), 3)
                            else
                              some ((p0.1, (p0.2.1, r5)), 0)
                        else
                          none
                      ) (
                        agree (
                          if ([] : List (ByteArray × Int)).length + p0.2.2.length < room 24 then
                            if (decide ((0 : Int) ≤ r4)) = true then
                              if (0 : Int) ≤ r4 ∧ (r4 : Int) < (([] : List (ByteArray × Int)) ++ p0.2.2).length then
                                some ((p0.1, (p0.2.1, (([] : List (ByteArray × Int)) ++ p0.2.2).set (r4 : Int).toNat (((([] : List (ByteArray × Int)) ++ p0.2.2).getD (r4 : Int).toNat (ByteArray.empty, 0)).1, count2))), 0)
                              else
                                none
                            else
                              (spec_l29Put.f (([] : List (ByteArray × Int)) ++ p0.2.2) article1 count2).bind fun r5 =>
                              (spec_IsPaper.f (p0.1, (p0.2.1, r5))).bind fun r6 =>
                              if (!r6) = true then
                                some ((ByteArray.empty, (0, [])), 3)
                              else
                                some ((p0.1, (p0.2.1, r5)), 0)
                          else
                            none
                        ) (
                          if ([] : List (ByteArray × Int)).length + p0.2.2.length < room 24 then
                            if (decide ((0 : Int) ≤ r4)) = true then
                              if (0 : Int) ≤ r4 ∧ (r4 : Int) < (([] : List (ByteArray × Int)) ++ p0.2.2).length then
                                some ((p0.1, (p0.2.1, (([] : List (ByteArray × Int)) ++ p0.2.2).set (r4 : Int).toNat (((([] : List (ByteArray × Int)) ++ p0.2.2).getD (r4 : Int).toNat (ByteArray.empty, 0)).1, count2))), 0)
                              else
                                none
                            else
                              (spec_l29Put.f (([] : List (ByteArray × Int)) ++ p0.2.2) article1 count2).bind fun r5 =>
                              (spec_IsPaper.f (p0.1, (p0.2.1, r5))).bind fun r6 =>
                              if (!r6) = true then
                                some ((ByteArray.empty, (0, [])), 3)
                              else
                                some ((p0.1, (p0.2.1, r5)), 0)
                          else
                            none
                        )
                      )
                    ) (
                      agree (
                        if ([] : List (ByteArray × Int)).length + p0.2.2.length < room 24 then
                          if (decide ((0 : Int) ≤ r4)) = true then
                            if (0 : Int) ≤ r4 ∧ (r4 : Int) < (([] : List (ByteArray × Int)) ++ p0.2.2).length then
                              some ((p0.1, (p0.2.1, (([] : List (ByteArray × Int)) ++ p0.2.2).set (r4 : Int).toNat (((([] : List (ByteArray × Int)) ++ p0.2.2).getD (r4 : Int).toNat (ByteArray.empty, 0)).1, count2))), 0)
                            else
                              none
                          else
                            (spec_l29Put.f (([] : List (ByteArray × Int)) ++ p0.2.2) article1 count2).bind fun r5 =>
                            (spec_IsPaper.f (p0.1, (p0.2.1, r5))).bind fun r6 =>
                            if (!r6) = true then
                              some ((ByteArray.empty, (0, [])), 3)
                            else
                              some ((p0.1, (p0.2.1, r5)), 0)
                        else
                          none
                      ) (
                        agree (
                          if ([] : List (ByteArray × Int)).length + p0.2.2.length < room 24 then
                            if (decide ((0 : Int) ≤ r4)) = true then
                              if (0 : Int) ≤ r4 ∧ (r4 : Int) < (([] : List (ByteArray × Int)) ++ p0.2.2).length then
                                some ((p0.1, (p0.2.1, (([] : List (ByteArray × Int)) ++ p0.2.2).set (r4 : Int).toNat (((([] : List (ByteArray × Int)) ++ p0.2.2).getD (r4 : Int).toNat (ByteArray.empty, 0)).1, count2))), 0)
                              else
                                none
                            else
                              (spec_l29Put.f (([] : List (ByteArray × Int)) ++ p0.2.2) article1 count2).bind fun r5 =>
                              (spec_IsPaper.f (p0.1, (p0.2.1, r5))).bind fun r6 =>
                              if (!r6) = true then
                                some ((ByteArray.empty, (0, [])), 3)
                              else
                                some ((p0.1, (p0.2.1, r5)), 0)
                          else
                            none
                        ) (
                          if ([] : List (ByteArray × Int)).length + p0.2.2.length < room 24 then
                            if (decide ((0 : Int) ≤ r4)) = true then
                              if (0 : Int) ≤ r4 ∧ (r4 : Int) < (([] : List (ByteArray × Int)) ++ p0.2.2).length then
                                some ((p0.1, (p0.2.1, (([] : List (ByteArray × Int)) ++ p0.2.2).set (r4 : Int).toNat (((([] : List (ByteArray × Int)) ++ p0.2.2).getD (r4 : Int).toNat (ByteArray.empty, 0)).1, count2))), 0)
                              else
                                none
                            else
                              (spec_l29Put.f (([] : List (ByteArray × Int)) ++ p0.2.2) article1 count2).bind fun r5 =>
                              (spec_IsPaper.f (p0.1, (p0.2.1, r5))).bind fun r6 =>
                              if (!r6) = true then
                                some ((ByteArray.empty, (0, [])), 3)
                              else
                                some ((p0.1, (p0.2.1, r5)), 0)
                          else
                            none
                        )
                      )
                    )
                  )
                ) (
                  agree (
                    agree (
                      agree (
                        if ([] : List (ByteArray × Int)).length + p0.2.2.length < room 24 then
                          if (decide ((0 : Int) ≤ r4)) = true then
                            if (0 : Int) ≤ r4 ∧ (r4 : Int) < (([] : List (ByteArray × Int)) ++ p0.2.2).length then
                              some ((p0.1, (p0.2.1, (([] : List (ByteArray × Int)) ++ p0.2.2).set (r4 : Int).toNat (((([] : List (ByteArray × Int)) ++ p0.2.2).getD (r4 : Int).toNat (ByteArray.empty, 0)).1, count2))), 0)
                            else
                              none
                          else
                            (spec_l29Put.f (([] : List (ByteArray × Int)) ++ p0.2.2) article1 count2).bind fun r5 =>
                            (spec_IsPaper.f (p0.1, (p0.2.1, r5))).bind fun r6 =>
                            if (!r6) = true then
                              some ((ByteArray.empty, (0, [])), 3)
                            else
                              some ((p0.1, (p0.2.1, r5)), 0)
                        else
                          none
                      ) (
                        if ([] : List (ByteArray × Int)).length + p0.2.2.length < room 24 then
                          if (decide ((0 : Int) ≤ r4)) = true then
                            if (0 : Int) ≤ r4 ∧ (r4 : Int) < (([] : List (ByteArray × Int)) ++ p0.2.2).length then
                              some ((p0.1, (p0.2.1, (([] : List (ByteArray × Int)) ++ p0.2.2).set (r4 : Int).toNat (((([] : List (ByteArray × Int)) ++ p0.2.2).getD (r4 : Int).toNat (ByteArray.empty, 0)).1, count2))), 0)
                            else
                              none
                          else
                            (spec_l29Put.f (([] : List (ByteArray × Int)) ++ p0.2.2) article1 count2).bind fun r5 =>
                            (spec_IsPaper.f (p0.1, (p0.2.1, r5))).bind fun r6 =>
                            if (!r6) = true then
                              some ((ByteArray.empty, (0, [])), 3)
                            else
                              some ((p0.1, (p0.2.1, r5)), 0)
                        else
                          none
                      )
                    ) (
                      agree (
                        agree (
                          if ([] : List (ByteArray × Int)).length + p0.2.2.length < room 24 then
                            if (decide ((0 : Int) ≤ r4)) = true then
                              if (0 : Int) ≤ r4 ∧ (r4 : Int) < (([] : List (ByteArray × Int)) ++ p0.2.2).length then
                                some ((p0.1, (p0.2.1, (([] : List (ByteArray × Int)) ++ p0.2.2).set (r4 : Int).toNat (((([] : List (ByteArray × Int)) ++ p0.2.2).getD (r4 : Int).toNat (ByteArray.empty, 0)).1, count2))), 0)
                              else
                                none
                            else
                              (spec_l29Put.f (([] : List (ByteArray × Int)) ++ p0.2.2) article1 count2).bind fun r5 =>
                              (spec_IsPaper.f (p0.1, (p0.2.1, r5))).bind fun r6 =>
                              if (!r6) = true then
                                some ((ByteArray.empty, (0, [])), 3)
                              else
                                some ((p0.1, (p0.2.1, r5)), 0)
                          else
                            none
                        ) (
                          agree (
                            if ([] : List (ByteArray × Int)).length + p0.2.2.length < room 24 then
                              if (decide ((0 : Int) ≤ r4)) = true then
                                if (0 : Int) ≤ r4 ∧ (r4 : Int) < (([] : List (ByteArray × Int)) ++ p0.2.2).length then
                                  some ((p0.1, (p0.2.1, (([] : List (ByteArray × Int)) ++ p0.2.2).set (r4 : Int).toNat (((([] : List (ByteArray × Int)) ++ p0.2.2).getD (r4 : Int).toNat (ByteArray.empty, 0)).1, count2))), 0)
                                else
                                  none
                              else
                                (spec_l29Put.f (([] : List (ByteArray × Int)) ++ p0.2.2) article1 count2).bind fun r5 =>
                                (spec_IsPaper.f (p0.1, (p0.2.1, r5))).bind fun r6 =>
                                if (!r6) = true then
                                  some ((ByteArray.empty, (0, [])), 3)
                                else
                                  some ((p0.1, (p0.2.1, r5)), 0)
                            else
                              none
                          ) (
                            if ([] : List (ByteArray × Int)).length + p0.2.2.length < room 24 then
                              if (decide ((0 : Int) ≤ r4)) = true then
                                if (0 : Int) ≤ r4 ∧ (r4 : Int) < (([] : List (ByteArray × Int)) ++ p0.2.2).length then
                                  some ((p0.1, (p0.2.1, (([] : List (ByteArray × Int)) ++ p0.2.2).set (r4 : Int).toNat (((([] : List (ByteArray × Int)) ++ p0.2.2).getD (r4 : Int).toNat (ByteArray.empty, 0)).1, count2))), 0)
                                else
                                  none
                              else
                                (spec_l29Put.f (([] : List (ByteArray × Int)) ++ p0.2.2) article1 count2).bind fun r5 =>
                                (spec_IsPaper.f (p0.1, (p0.2.1, r5))).bind fun r6 =>
                                if (!r6) = true then
                                  some ((ByteArray.empty, (0, [])), 3)
                                else
                                  some ((p0.1, (p0.2.1, r5)), 0)
                            else
                              none
                          )
                        )
                      ) (
                        agree (
                          if ([] : List (ByteArray × Int)).length + p0.2.2.length < room 24 then
                            if (decide ((0 : Int) ≤ r4)) = true then
                              if (0 : Int) ≤ r4 ∧ (r4 : Int) < (([] : List (ByteArray × Int)) ++ p0.2.2).length then
                                some ((p0.1, (p0.2.1, (([] : List (ByteArray × Int)) ++ p0.2.2).set (r4 : Int).toNat (((([] : List (ByteArray × Int)) ++ p0.2.2).getD (r4 : Int).toNat (ByteArray.empty, 0)).1, count2))), 0)
                              else
                                none
                            else
                              (spec_l29Put.f (([] : List (ByteArray × Int)) ++ p0.2.2) article1 count2).bind fun r5 =>
                              (spec_IsPaper.f (p0.1, (p0.2.1, r5))).bind fun r6 =>
                              if (!r6) = true then
                                some ((ByteArray.empty, (0, [])), 3)
                              else
                                some ((p0.1, (p0.2.1, r5)), 0)
                          else
                            none
                        ) (
                          agree (
                            if ([] : List (ByteArray × Int)).length + p0.2.2.length < room 24 then
                              if (decide ((0 : Int) ≤ r4)) = true then
                                if (0 : Int) ≤ r4 ∧ (r4 : Int) < (([] : List (ByteArray × Int)) ++ p0.2.2).length then
                                  some ((p0.1, (p0.2.1, (([] : List (ByteArray × Int)) ++ p0.2.2).set (r4 : Int).toNat (((([] : List (ByteArray × Int)) ++ p0.2.2).getD (r4 : Int).toNat (ByteArray.empty, 0)).1, count2))), 0)
                                else
                                  none
                              else
                                (spec_l29Put.f (([] : List (ByteArray × Int)) ++ p0.2.2) article1 count2).bind fun r5 =>
                                (spec_IsPaper.f (p0.1, (p0.2.1, r5))).bind fun r6 =>
                                if (!r6) = true then
                                  some ((ByteArray.empty, (0, [])), 3)
                                else
                                  some ((p0.1, (p0.2.1, r5)), 0)
                            else
                              none
                          ) (
                            if ([] : List (ByteArray × Int)).length + p0.2.2.length < room 24 then
                              if (decide ((0 : Int) ≤ r4)) = true then
                                if (0 : Int) ≤ r4 ∧ (r4 : Int) < (([] : List (ByteArray × Int)) ++ p0.2.2).length then
                                  some ((p0.1, (p0.2.1, (([] : List (ByteArray × Int)) ++ p0.2.2).set (r4 : Int).toNat (((([] : List (ByteArray × Int)) ++ p0.2.2).getD (r4 : Int).toNat (ByteArray.empty, 0)).1, count2))), 0)
                                else
                                  none
                              else
                                (spec_l29Put.f (([] : List (ByteArray × Int)) ++ p0.2.2) article1 count2).bind fun r5 =>
                                (spec_IsPaper.f (p0.1, (p0.2.1, r5))).bind fun r6 =>
                                if (!r6) = true then
                                  some ((ByteArray.empty, (0, [])), 3)
                                else
                                  some ((p0.1, (p0.2.1, r5)), 0)
                            else
                              none
                          )
                        )
                      )
                    )
                  ) (
                    agree (
                      agree (
                        agree (
                          if ([] : List (ByteArray × Int)).length + p0.2.2.length < room 24 then
                            if (decide ((0 : Int) ≤ r4)) = true then
                              if (0 : Int) ≤ r4 ∧ (r4 : Int) < (([] : List (ByteArray × Int)) ++ p0.2.2).length then
                                some ((p0.1, (p0.2.1, (([] : List (ByteArray × Int)) ++ p0.2.2).set (r4 : Int).toNat (((([] : List (ByteArray × Int)) ++ p0.2.2).getD (r4 : Int).toNat (ByteArray.empty, 0)).1, count2))), 0)
                              else
                                none
                            else
                              (spec_l29Put.f (([] : List (ByteArray × Int)) ++ p0.2.2) article1 count2).bind fun r5 =>
                              (spec_IsPaper.f (p0.1, (p0.2.1, r5))).bind fun r6 =>
                              if (!r6) = true then
                                some ((ByteArray.empty, (0, [])), 3)
                              else
                                some ((p0.1, (p0.2.1, r5)), 0)
                          else
                            none
                        ) (
                          agree (
                            if ([] : List (ByteArray × Int)).length + p0.2.2.length < room 24 then
                              if (decide ((0 : Int) ≤ r4)) = true then
                                if (0 : Int) ≤ r4 ∧ (r4 : Int) < (([] : List (ByteArray × Int)) ++ p0.2.2).length then
                                  some ((p0.1, (p0.2.1, (([] : List (ByteArray × Int)) ++ p0.2.2).set (r4 : Int).toNat (((([] : List (ByteArray × Int)) ++ p0.2.2).getD (r4 : Int).toNat (ByteArray.empty, 0)).1, count2))), 0)
                                else
                                  none
                              else
                                (spec_l29Put.f (([] : List (ByteArray × Int)) ++ p0.2.2) article1 count2).bind fun r5 =>
                                (spec_IsPaper.f (p0.1, (p0.2.1, r5))).bind fun r6 =>
                                if (!r6) = true then
                                  some ((ByteArray.empty, (0, [])), 3)
                                else
                                  some ((p0.1, (p0.2.1, r5)), 0)
                            else
                              none
                          ) (
                            if ([] : List (ByteArray × Int)).length + p0.2.2.length < room 24 then
                              if (decide ((0 : Int) ≤ r4)) = true then
                                if (0 : Int) ≤ r4 ∧ (r4 : Int) < (([] : List (ByteArray × Int)) ++ p0.2.2).length then
                                  some ((p0.1, (p0.2.1, (([] : List (ByteArray × Int)) ++ p0.2.2).set (r4 : Int).toNat (((([] : List (ByteArray × Int)) ++ p0.2.2).getD (r4 : Int).toNat (ByteArray.empty, 0)).1, count2))), 0)
                                else
                                  none
                              else
                                (spec_l29Put.f (([] : List (ByteArray × Int)) ++ p0.2.2) article1 count2).bind fun r5 =>
                                (spec_IsPaper.f (p0.1, (p0.2.1, r5))).bind fun r6 =>
                                if (!r6) = true then
                                  some ((ByteArray.empty, (0, [])), 3)
                                else
                                  some ((p0.1, (p0.2.1, r5)), 0)
                            else
                              none
                          )
                        )
                      ) (
                        agree (
                          agree (
                            if ([] : List (ByteArray × Int)).length + p0.2.2.length < room 24 then
                              if (decide ((0 : Int) ≤ r4)) = true then
                                if (0 : Int) ≤ r4 ∧ (r4 : Int) < (([] : List (ByteArray × Int)) ++ p0.2.2).length then
                                  some ((p0.1, (p0.2.1, (([] : List (ByteArray × Int)) ++ p0.2.2).set (r4 : Int).toNat (((([] : List (ByteArray × Int)) ++ p0.2.2).getD (r4 : Int).toNat (ByteArray.empty, 0)).1, count2))), 0)
                                else
                                  none
                              else
                                (spec_l29Put.f (([] : List (ByteArray × Int)) ++ p0.2.2) article1 count2).bind fun r5 =>
                                (spec_IsPaper.f (p0.1, (p0.2.1, r5))).bind fun r6 =>
                                if (!r6) = true then
                                  some ((ByteArray.empty, (0, [])), 3)
                                else
                                  some ((p0.1, (p0.2.1, r5)), 0)
                            else
                              none
                          ) (
                            agree (
                              if ([] : List (ByteArray × Int)).length + p0.2.2.length < room 24 then
                                if (decide ((0 : Int) ≤ r4)) = true then
                                  if (0 : Int) ≤ r4 ∧ (r4 : Int) < (([] : List (ByteArray × Int)) ++ p0.2.2).length then
                                    some ((p0.1, (p0.2.1, (([] : List (ByteArray × Int)) ++ p0.2.2).set (r4 : Int).toNat (((([] : List (ByteArray × Int)) ++ p0.2.2).getD (r4 : Int).toNat (ByteArray.empty, 0)).1, count2))), 0)
                                  else
                                    none
                                else
                                  (spec_l29Put.f (([] : List (ByteArray × Int)) ++ p0.2.2) article1 count2).bind fun r5 =>
                                  (spec_IsPaper.f (p0.1, (p0.2.1, r5))).bind fun r6 =>
                                  if (!r6) = true then
                                    some ((ByteArray.empty, (0, [])), 3)
                                  else
                                    some ((p0.1, (p0.2.1, r5)), 0)
                              else
                                none
                            ) (
                              if ([] : List (ByteArray × Int)).length + p0.2.2.length < room 24 then
                                if (decide ((0 : Int) ≤ r4)) = true then
                                  if (0 : Int) ≤ r4 ∧ (r4 : Int) < (([] : List (ByteArray × Int)) ++ p0.2.2).length then
                                    some ((p0.1, (p0.2.1, (([] : List (ByteArray × Int)) ++ p0.2.2).set (r4 : Int).toNat (((([] : List (ByteArray × Int)) ++ p0.2.2).getD (r4 : Int).toNat (ByteArray.empty, 0)).1, count2))), 0)
                                  else
                                    none
                                else
                                  (spec_l29Put.f (([] : List (ByteArray × Int)) ++ p0.2.2) article1 count2).bind fun r5 =>
                                  (spec_IsPaper.f (p0.1, (p0.2.1, r5))).bind fun r6 =>
                                  if (!r6) = true then
                                    some ((ByteArray.empty, (0, [])), 3)
                                  else
                                    some ((p0.1, (p0.2.1, r5)), 0)
                              else
                                none
                            )
                          )
                        ) (
                          agree (
                            agree (
                              if ([] : List (ByteArray × Int)).length + p0.2.2.length < room 24 then
                                if (decide ((0 : Int) ≤ r4)) = true then
                                  if (0 : Int) ≤ r4 ∧ (r4 : Int) < (([] : List (ByteArray × Int)) ++ p0.2.2).length then
                                    some ((p0.1, (p0.2.1, (([] : List (ByteArray × Int)) ++ p0.2.2).set (r4 : Int).toNat (((([] : List (ByteArray × Int)) ++ p0.2.2).getD (r4 : Int).toNat (ByteArray.empty, 0)).1, count2))), 0)
                                  else
                                    none
                                else
                                  (spec_l29Put.f (([] : List (ByteArray × Int)) ++ p0.2.2) article1 count2).bind fun r5 =>
                                  (spec_IsPaper.f (p0.1, (p0.2.1, r5))).bind fun r6 =>
                                  if (!r6) = true then
                                    some ((ByteArray.empty, (0, [])), 3)
                                  else
                                    some ((p0.1, (p0.2.1, r5)), 0)
                              else
                                none
                            ) (
                              if ([] : List (ByteArray × Int)).length + p0.2.2.length < room 24 then
                                if (decide ((0 : Int) ≤ r4)) = true then
                                  if (0 : Int) ≤ r4 ∧ (r4 : Int) < (([] : List (ByteArray × Int)) ++ p0.2.2).length then
                                    some ((p0.1, (p0.2.1, (([] : List (ByteArray × Int)) ++ p0.2.2).set (r4 : Int).toNat (((([] : List (ByteArray × Int)) ++ p0.2.2).getD (r4 : Int).toNat (ByteArray.empty, 0)).1, count2))), 0)
                                  else
                                    none
                                else
                                  (spec_l29Put.f (([] : List (ByteArray × Int)) ++ p0.2.2) article1 count2).bind fun r5 =>
                                  (spec_IsPaper.f (p0.1, (p0.2.1, r5))).bind fun r6 =>
                                  if (!r6) = true then
                                    some ((ByteArray.empty, (0, [])), 3)
                                  else
                                    some ((p0.1, (p0.2.1, r5)), 0)
                              else
                                none
                            )
                          ) (
                            agree (
                              agree (
                                if ([] : List (ByteArray × Int)).length + p0.2.2.length < room 24 then
                                  if (decide ((0 : Int) ≤ r4)) = true then
                                    if (0 : Int) ≤ r4 ∧ (r4 : Int) < (([] : List (ByteArray × Int)) ++ p0.2.2).length then
                                      some ((p0.1, (p0.2.1, (([] : List (ByteArray × Int)) ++ p0.2.2).set (r4 : Int).toNat (((([] : List (ByteArray × Int)) ++ p0.2.2).getD (r4 : Int).toNat (ByteArray.empty, 0)).1, count2))), 0)
                                    else
                                      none
                                  else
                                    (spec_l29Put.f (([] : List (ByteArray × Int)) ++ p0.2.2) article1 count2).bind fun r5 =>
                                    (spec_IsPaper.f (p0.1, (p0.2.1, r5))).bind fun r6 =>
                                    if (!r6) = true then
                                      some ((ByteArray.empty, (0, [])), 3)
                                    else
                                      some ((p0.1, (p0.2.1, r5)), 0)
                                else
                                  none
                              ) (
                                if ([] : List (ByteArray × Int)).length + p0.2.2.length < room 24 then
                                  if (decide ((0 : Int) ≤ r4)) = true then
                                    if (0 : Int) ≤ r4 ∧ (r4 : Int) < (([] : List (ByteArray × Int)) ++ p0.2.2).length then
                                      some ((p0.1, (p0.2.1, (([] : List (ByteArray × Int)) ++ p0.2.2).set (r4 : Int).toNat (((([] : List (ByteArray × Int)) ++ p0.2.2).getD (r4 : Int).toNat (ByteArray.empty, 0)).1, count2))), 0)
                                    else
                                      none
                                  else
                                    (spec_l29Put.f (([] : List (ByteArray × Int)) ++ p0.2.2) article1 count2).bind fun r5 =>
                                    (spec_IsPaper.f (p0.1, (p0.2.1, r5))).bind fun r6 =>
                                    if (!r6) = true then
                                      some ((ByteArray.empty, (0, [])), 3)
                                    else
                                      some ((p0.1, (p0.2.1, r5)), 0)
                                else
                                  none
                              )
                            ) (
                              if ([] : List (ByteArray × Int)).length + p0.2.2.length < room 24 then
                                if (decide ((0 : Int) ≤ r4)) = true then
                                  if (0 : Int) ≤ r4 ∧ (r4 : Int) < (([] : List (ByteArray × Int)) ++ p0.2.2).length then
                                    some ((p0.1, (p0.2.1, (([] : List (ByteArray × Int)) ++ p0.2.2).set (r4 : Int).toNat (((([] : List (ByteArray × Int)) ++ p0.2.2).getD (r4 : Int).toNat (ByteArray.empty, 0)).1, count2))), 0)
                                  else
                                    none
                                else
                                  (spec_l29Put.f (([] : List (ByteArray × Int)) ++ p0.2.2) article1 count2).bind fun r5 =>
                                  (spec_IsPaper.f (p0.1, (p0.2.1, r5))).bind fun r6 =>
                                  if (!r6) = true then
                                    some ((ByteArray.empty, (0, [])), 3)
                                  else
                                    some ((p0.1, (p0.2.1, r5)), 0)
                              else
                                none
                            )
                          )
                        )
                      )
                    ) (
                      agree (
                        agree (
                          if ([] : List (ByteArray × Int)).length + p0.2.2.length < room 24 then
                            if (decide ((0 : Int) ≤ r4)) = true then
                              if (0 : Int) ≤ r4 ∧ (r4 : Int) < (([] : List (ByteArray × Int)) ++ p0.2.2).length then
                                some ((p0.1, (p0.2.1, (([] : List (ByteArray × Int)) ++ p0.2.2).set (r4 : Int).toNat (((([] : List (ByteArray × Int)) ++ p0.2.2).getD (r4 : Int).toNat (ByteArray.empty, 0)).1, count2))), 0)
                              else
                                none
                            else
                              (spec_l29Put.f (([] : List (ByteArray × Int)) ++ p0.2.2) article1 count2).bind fun r5 =>
                              (spec_IsPaper.f (p0.1, (p0.2.1, r5))).bind fun r6 =>
                              if (!r6) = true then
                                some ((ByteArray.empty, (0, [])), 3)
                              else
                                some ((p0.1, (p0.2.1, r5)), 0)
                          else
                            none
                        ) (
                          agree (
                            if ([] : List (ByteArray × Int)).length + p0.2.2.length < room 24 then
                              if (decide ((0 : Int) ≤ r4)) = true then
                                if (0 : Int) ≤ r4 ∧ (r4 : Int) < (([] : List (ByteArray × Int)) ++ p0.2.2).length then
                                  some ((p0.1, (p0.2.1, (([] : List (ByteArray × Int)) ++ p0.2.2).set (r4 : Int).toNat (((([] : List (ByteArray × Int)) ++ p0.2.2).getD (r4 : Int).toNat (ByteArray.empty, 0)).1, count2))), 0)
                                else
                                  none
                              else
                                (spec_l29Put.f (([] : List (ByteArray × Int)) ++ p0.2.2) article1 count2).bind fun r5 =>
                                (spec_IsPaper.f (p0.1, (p0.2.1, r5))).bind fun r6 =>
                                if (!r6) = true then
                                  some ((ByteArray.empty, (0, [])), 3)
                                else
                                  some ((p0.1, (p0.2.1, r5)), 0)
                            else
                              none
                          ) (
                            if ([] : List (ByteArray × Int)).length + p0.2.2.length < room 24 then
                              if (decide ((0 : Int) ≤ r4)) = true then
                                if (0 : Int) ≤ r4 ∧ (r4 : Int) < (([] : List (ByteArray × Int)) ++ p0.2.2).length then
                                  some ((p0.1, (p0.2.1, (([] : List (ByteArray × Int)) ++ p0.2.2).set (r4 : Int).toNat (((([] : List (ByteArray × Int)) ++ p0.2.2).getD (r4 : Int).toNat (ByteArray.empty, 0)).1, count2))), 0)
                                else
                                  none
                              else
                                (spec_l29Put.f (([] : List (ByteArray × Int)) ++ p0.2.2) article1 count2).bind fun r5 =>
                                (spec_IsPaper.f (p0.1, (p0.2.1, r5))).bind fun r6 =>
                                if (!r6) = true then
                                  some ((ByteArray.empty, (0, [])), 3)
                                else
                                  some ((p0.1, (p0.2.1, r5)), 0)
                            else
                              none
                          )
                        )
                      ) (
                        agree (
                          agree (
                            if ([] : List (ByteArray × Int)).length + p0.2.2.length < room 24 then
                              if (decide ((0 : Int) ≤ r4)) = true then
                                if (0 : Int) ≤ r4 ∧ (r4 : Int) < (([] : List (ByteArray × Int)) ++ p0.2.2).length then
                                  some ((p0.1, (p0.2.1, (([] : List (ByteArray × Int)) ++ p0.2.2).set (r4 : Int).toNat (((([] : List (ByteArray × Int)) ++ p0.2.2).getD (r4 : Int).toNat (ByteArray.empty, 0)).1, count2))), 0)
                                else
                                  none
                              else
                                (spec_l29Put.f (([] : List (ByteArray × Int)) ++ p0.2.2) article1 count2).bind fun r5 =>
                                (spec_IsPaper.f (p0.1, (p0.2.1, r5))).bind fun r6 =>
                                if (!r6) = true then
                                  some ((ByteArray.empty, (0, [])), 3)
                                else
                                  some ((p0.1, (p0.2.1, r5)), 0)
                            else
                              none
                          ) (
                            agree (
                              if ([] : List (ByteArray × Int)).length + p0.2.2.length < room 24 then
                                if (decide ((0 : Int) ≤ r4)) = true then
                                  if (0 : Int) ≤ r4 ∧ (r4 : Int) < (([] : List (ByteArray × Int)) ++ p0.2.2).length then
                                    some ((p0.1, (p0.2.1, (([] : List (ByteArray × Int)) ++ p0.2.2).set (r4 : Int).toNat (((([] : List (ByteArray × Int)) ++ p0.2.2).getD (r4 : Int).toNat (ByteArray.empty, 0)).1, count2))), 0)
                                  else
                                    none
                                else
                                  (spec_l29Put.f (([] : List (ByteArray × Int)) ++ p0.2.2) article1 count2).bind fun r5 =>
                                  (spec_IsPaper.f (p0.1, (p0.2.1, r5))).bind fun r6 =>
                                  if (!r6) = true then
                                    some ((ByteArray.empty, (0, [])), 3)
                                  else
                                    some ((p0.1, (p0.2.1, r5)), 0)
                              else
                                none
                            ) (
                              if ([] : List (ByteArray × Int)).length + p0.2.2.length < room 24 then
                                if (decide ((0 : Int) ≤ r4)) = true then
                                  if (0 : Int) ≤ r4 ∧ (r4 : Int) < (([] : List (ByteArray × Int)) ++ p0.2.2).length then
                                    some ((p0.1, (p0.2.1, (([] : List (ByteArray × Int)) ++ p0.2.2).set (r4 : Int).toNat (((([] : List (ByteArray × Int)) ++ p0.2.2).getD (r4 : Int).toNat (ByteArray.empty, 0)).1, count2))), 0)
                                  else
                                    none
                                else
                                  (spec_l29Put.f (([] : List (ByteArray × Int)) ++ p0.2.2) article1 count2).bind fun r5 =>
                                  (spec_IsPaper.f (p0.1, (p0.2.1, r5))).bind fun r6 =>
                                  if (!r6) = true then
                                    some ((ByteArray.empty, (0, [])), 3)
                                  else
                                    some ((p0.1, (p0.2.1, r5)), 0)
                              else
                                none
                            )
                          )
                        ) (
                          agree (
                            agree (
                              if ([] : List (ByteArray × Int)).length + p0.2.2.length < room 24 then
                                if (decide ((0 : Int) ≤ r4)) = true then
                                  if (0 : Int) ≤ r4 ∧ (r4 : Int) < (([] : List (ByteArray × Int)) ++ p0.2.2).length then
                                    some ((p0.1, (p0.2.1, (([] : List (ByteArray × Int)) ++ p0.2.2).set (r4 : Int).toNat (((([] : List (ByteArray × Int)) ++ p0.2.2).getD (r4 : Int).toNat (ByteArray.empty, 0)).1, count2))), 0)
                                  else
                                    none
                                else
                                  (spec_l29Put.f (([] : List (ByteArray × Int)) ++ p0.2.2) article1 count2).bind fun r5 =>
                                  (spec_IsPaper.f (p0.1, (p0.2.1, r5))).bind fun r6 =>
                                  if (!r6) = true then
                                    some ((ByteArray.empty, (0, [])), 3)
                                  else
                                    some ((p0.1, (p0.2.1, r5)), 0)
                              else
                                none
                            ) (
                              if ([] : List (ByteArray × Int)).length + p0.2.2.length < room 24 then
                                if (decide ((0 : Int) ≤ r4)) = true then
                                  if (0 : Int) ≤ r4 ∧ (r4 : Int) < (([] : List (ByteArray × Int)) ++ p0.2.2).length then
                                    some ((p0.1, (p0.2.1, (([] : List (ByteArray × Int)) ++ p0.2.2).set (r4 : Int).toNat (((([] : List (ByteArray × Int)) ++ p0.2.2).getD (r4 : Int).toNat (ByteArray.empty, 0)).1, count2))), 0)
                                  else
                                    none
                                else
                                  (spec_l29Put.f (([] : List (ByteArray × Int)) ++ p0.2.2) article1 count2).bind fun r5 =>
                                  (spec_IsPaper.f (p0.1, (p0.2.1, r5))).bind fun r6 =>
                                  if (!r6) = true then
                                    some ((ByteArray.empty, (0, [])), 3)
                                  else
                                    some ((p0.1, (p0.2.1, r5)), 0)
                              else
                                none
                            )
                          ) (
                            agree (
                              agree (
                                if ([] : List (ByteArray × Int)).length + p0.2.2.length < room 24 then
                                  if (decide ((0 : Int) ≤ r4)) = true then
                                    if (0 : Int) ≤ r4 ∧ (r4 : Int) < (([] : List (ByteArray × Int)) ++ p0.2.2).length then
                                      some ((p0.1, (p0.2.1, (([] : List (ByteArray × Int)) ++ p0.2.2).set (r4 : Int).toNat (((([] : List (ByteArray × Int)) ++ p0.2.2).getD (r4 : Int).toNat (ByteArray.empty, 0)).1, count2))), 0)
                                    else
                                      none
                                  else
                                    (spec_l29Put.f (([] : List (ByteArray × Int)) ++ p0.2.2) article1 count2).bind fun r5 =>
                                    (spec_IsPaper.f (p0.1, (p0.2.1, r5))).bind fun r6 =>
                                    if (!r6) = true then
                                      some ((ByteArray.empty, (0, [])), 3)
                                    else
                                      some ((p0.1, (p0.2.1, r5)), 0)
                                else
                                  none
                              ) (
                                if ([] : List (ByteArray × Int)).length + p0.2.2.length < room 24 then
                                  if (decide ((0 : Int) ≤ r4)) = true then
                                    if (0 : Int) ≤ r4 ∧ (r4 : Int) < (([] : List (ByteArray × Int)) ++ p0.2.2).length then
                                      some ((p0.1, (p0.2.1, (([] : List (ByteArray × Int)) ++ p0.2.2).set (r4 : Int).toNat (((([] : List (ByteArray × Int)) ++ p0.2.2).getD (r4 : Int).toNat (ByteArray.empty, 0)).1, count2))), 0)
                                    else
                                      none
                                  else
                                    (spec_l29Put.f (([] : List (ByteArray × Int)) ++ p0.2.2) article1 count2).bind fun r5 =>
                                    (spec_IsPaper.f (p0.1, (p0.2.1, r5))).bind fun r6 =>
                                    if (!r6) = true then
                                      some ((ByteArray.empty, (0, [])), 3)
                                    else
                                      some ((p0.1, (p0.2.1, r5)), 0)
                                else
                                  none
                              )
                            ) (
                              if ([] : List (ByteArray × Int)).length + p0.2.2.length < room 24 then
                                if (decide ((0 : Int) ≤ r4)) = true then
                                  if (0 : Int) ≤ r4 ∧ (r4 : Int) < (([] : List (ByteArray × Int)) ++ p0.2.2).length then
                                    some ((p0.1, (p0.2.1, (([] : List (ByteArray × Int)) ++ p0.2.2).set (r4 : Int).toNat (((([] : List (ByteArray × Int)) ++ p0.2.2).getD (r4 : Int).toNat (ByteArray.empty, 0)).1, count2))), 0)
                                  else
                                    none
                                else
                                  (spec_l29Put.f (([] : List (ByteArray × Int)) ++ p0.2.2) article1 count2).bind fun r5 =>
                                  (spec_IsPaper.f (p0.1, (p0.2.1, r5))).bind fun r6 =>
                                  if (!r6) = true then
                                    some ((ByteArray.empty, (0, [])), 3)
                                  else
                                    some ((p0.1, (p0.2.1, r5)), 0)
                              else
                                none
                            )
                          )
                        )
                      )
                    )
                  )
                )
              )
            )
          )
        )
  else
    some ((ByteArray.empty, (0, [])), 1)
theorem spec_PutLine.topraw_eq (p0 : ByteArray × Int × List (ByteArray × Int)) (article1 : ByteArray) (count2 : Int) : spec_PutLine.topraw p0 article1 count2 = spec_PutLine.top p0 article1 count2 := by
  unfold spec_PutLine.topraw spec_PutLine.top
  simp only [agree_self]
def spec_PutLine.con : Con := { ps := [(.val, (.pair .str (.pair (.int .i64) (.sl 82 (.pair .str (.int .i64)))))), (.val, .str), (.val, (.int .i64))], rs := [(.own, (.pair .str (.pair (.int .i64) (.sl 82 (.pair .str (.int .i64)))))), (.own, (.int .i64))], F := fun x => spec_PutLine.f x.1 x.2.1 x.2.2 }
def spec_PutLine.cs : List (FuncId × Con) := [(87, spec_l01In.con), (103, spec_IsPaper.con), (104, spec_l29Put.con), (105, spec_l29Find.con), (108, spec_IsWord.con)]
def spec_PutLine.E : Env := envOf tab spec_PutLine.cs 0 false
def spec_PutLine.keep (i : Nat) : List Nat := []
set_option maxRecDepth 100000 in
theorem spec_PutLine.body (n : Nat) (x : (ByteArray × Int × List (ByteArray × Int)) × ByteArray × Int) : bodyF spec_PutLine.E spec_PutLine.keep n Try.f51 spec_PutLine.con x = spec_PutLine.fn n x.1 x.2.1 x.2.2 := by
  have h : bodyF spec_PutLine.E spec_PutLine.keep n Try.f51 spec_PutLine.con x = spec_PutLine.topraw x.1 x.2.1 x.2.2 := by kernel_rfl
  rw [spec_PutLine.topraw_eq] at h
  exact h
set_option maxRecDepth 100000 in
theorem spec_PutLine.good : Good Try.prog 51 spec_PutLine.con :=
  good_of tabok (cs := spec_PutLine.cs) ⟨spec_l01In.good, spec_IsPaper.good, spec_l29Put.good, spec_l29Find.good, spec_IsWord.good, trivial⟩ 0 false (fn := Try.f51) Try.func51 rfl (by decide) (by simp [spec_PutLine.con]) spec_PutLine.keep NN (fun _ => rfl) (fun x => spec_PutLine.body NN x)
end
end Go.Ev.Try

namespace Go.Ev.Try
open Go.Proofs Go.Pl
set_option linter.unusedVariables false
noncomputable section
def impl_IsWord.st4 (s0 : ByteArray) (i3 : Int) : St := ⟨[.dat .str s0, .gone, .gone, .dat (.int .i64) i3, .gone, .gone, .gone, .gone, .gone, .gone, .gone, .gone, .gone, .gone, .gone, .gone, .gone, .gone, .gone, .gone, .gone, .gone, .gone, .gone, .gone, .gone, .gone, .gone], []⟩
def impl_IsWord.con : Con := { ps := [(.val, .str)], rs := [(.val, .bool)], F := fun x => impl_IsWord.f x }
def impl_IsWord.cs : List (FuncId × Con) := []
def impl_IsWord.E : Env := envOf tab impl_IsWord.cs 0 false
def impl_IsWord.keep (i : Nat) : List Nat := if i = 4 then [0, 3] else []
def impl_IsWord.at4 (n : Nat) (x : ByteArray) : Code × (Ex → St → Option (Bool)) := ctx impl_IsWord.E impl_IsWord.keep n [.snd, .snd, .fst, .snd, .blk] (codeOf Try.f97) (kEnd impl_IsWord.E Try.f97 impl_IsWord.con x)
def impl_IsWord.LN4 (n : Nat) (x : ByteArray) : Nat → St → Option (Bool) := loopN (exec impl_IsWord.E impl_IsWord.keep n (bodyOf (impl_IsWord.at4 n x).1)) (St.norm 0 (impl_IsWord.keep 4)) (impl_IsWord.at4 n x).2
set_option maxRecDepth 100000 in
theorem impl_IsWord.lem4 (n : Nat) (x : ByteArray) : ∀ (k : Nat) (s0 : ByteArray) (i3 : Int), impl_IsWord.LN4 n x k (impl_IsWord.st4 s0 i3) = impl_IsWord.l4 n k s0 i3 := by
  intro k
  induction k with
  | zero => intro s0 i3; rfl
  | succ k ih =>
    intro s0 i3
    have h : impl_IsWord.LN4 n x (k + 1) (impl_IsWord.st4 s0 i3) = impl_IsWord.g4 (fun s0 i3 => impl_IsWord.LN4 n x k (impl_IsWord.st4 s0 i3)) s0 i3 := by kernel_rfl
    rw [h]
    simp only [ih]
    rfl
set_option maxRecDepth 100000 in
theorem impl_IsWord.body (n : Nat) (x : ByteArray) : bodyF impl_IsWord.E impl_IsWord.keep n Try.f97 impl_IsWord.con x = impl_IsWord.fn n x := by
  have h : bodyF impl_IsWord.E impl_IsWord.keep n Try.f97 impl_IsWord.con x = impl_IsWord.top (fun s0 i3 => impl_IsWord.LN4 n x n (impl_IsWord.st4 s0 i3)) x := by kernel_rfl
  rw [h]
  simp only [impl_IsWord.lem4]
  rfl
set_option maxRecDepth 100000 in
theorem impl_IsWord.good : Good Try.prog 97 impl_IsWord.con :=
  good_of tabok (cs := impl_IsWord.cs) trivial 0 false (fn := Try.f97) Try.func97 rfl (by decide) (by simp [impl_IsWord.con]) impl_IsWord.keep NN (fun _ => rfl) (fun x => impl_IsWord.body NN x)
end
end Go.Ev.Try

namespace Go.Ev.Try
open Go.Proofs Go.Pl
set_option linter.unusedVariables false
noncomputable section
def impl_within.con : Con := { ps := [(.val, (.int .i64)), (.val, (.int .i64)), (.val, (.int .i64))], rs := [(.val, .bool)], F := fun x => impl_within.f x.1 x.2.1 x.2.2 }
def impl_within.cs : List (FuncId × Con) := []
def impl_within.E : Env := envOf tab impl_within.cs 0 false
def impl_within.keep (i : Nat) : List Nat := []
set_option maxRecDepth 100000 in
theorem impl_within.body (n : Nat) (x : Int × Int × Int) : bodyF impl_within.E impl_within.keep n Try.f90 impl_within.con x = impl_within.fn n x.1 x.2.1 x.2.2 := by
  have h : bodyF impl_within.E impl_within.keep n Try.f90 impl_within.con x = impl_within.top x.1 x.2.1 x.2.2 := by kernel_rfl
  exact h
set_option maxRecDepth 100000 in
theorem impl_within.good : Good Try.prog 90 impl_within.con :=
  good_of tabok (cs := impl_within.cs) trivial 0 false (fn := Try.f90) Try.func90 rfl (by decide) (by simp [impl_within.con]) impl_within.keep NN (fun _ => rfl) (fun x => impl_within.body NN x)
end
end Go.Ev.Try

namespace Go.Ev.Try
open Go.Proofs Go.Pl
set_option linter.unusedVariables false
noncomputable section
def impl_areLines.st4 (lines0 : List (ByteArray × Int)) (v8 : List (ByteArray × Int)) (v9 : Int) (v10 : Int) : St := ⟨[.dat (.sl 82 (.pair .str (.int .i64))) lines0, .gone, .gone, .gone, .gone, .gone, .gone, .gone, .dat (.sl 82 (.pair .str (.int .i64))) v8, .dat (.int .i64) v9, .dat (.int .i64) v10, .gone, .gone, .gone, .gone, .gone, .gone, .gone, .gone, .gone, .gone, .gone, .gone, .gone, .gone, .gone, .gone, .gone, .gone, .gone, .gone, .gone, .gone, .gone, .gone, .gone, .gone, .gone, .gone, .gone, .gone], []⟩
def impl_areLines.con : Con := { ps := [(.val, (.sl 82 (.pair .str (.int .i64))))], rs := [(.val, .bool)], F := fun x => impl_areLines.f x }
def impl_areLines.cs : List (FuncId × Con) := [(90, impl_within.con), (97, impl_IsWord.con)]
def impl_areLines.E : Env := envOf tab impl_areLines.cs 0 false
def impl_areLines.keep (i : Nat) : List Nat := if i = 4 then [0, 8, 9, 10] else []
def impl_areLines.at4 (n : Nat) (x : List (ByteArray × Int)) : Code × (Ex → St → Option (Bool)) := ctx impl_areLines.E impl_areLines.keep n [.snd, .snd, .fst, .snd, .blk] (codeOf Try.f101) (kEnd impl_areLines.E Try.f101 impl_areLines.con x)
def impl_areLines.LN4 (n : Nat) (x : List (ByteArray × Int)) : Nat → St → Option (Bool) := loopN (exec impl_areLines.E impl_areLines.keep n (bodyOf (impl_areLines.at4 n x).1)) (St.norm 0 (impl_areLines.keep 4)) (impl_areLines.at4 n x).2
set_option maxRecDepth 100000 in
theorem impl_areLines.lem4 (n : Nat) (x : List (ByteArray × Int)) : ∀ (k : Nat) (lines0 : List (ByteArray × Int)) (v8 : List (ByteArray × Int)) (v9 : Int) (v10 : Int), impl_areLines.LN4 n x k (impl_areLines.st4 lines0 v8 v9 v10) = impl_areLines.l4 n k lines0 v8 v9 v10 := by
  intro k
  induction k with
  | zero => intro lines0 v8 v9 v10; rfl
  | succ k ih =>
    intro lines0 v8 v9 v10
    have h : impl_areLines.LN4 n x (k + 1) (impl_areLines.st4 lines0 v8 v9 v10) = impl_areLines.g4 (fun lines0 v8 v9 v10 => impl_areLines.LN4 n x k (impl_areLines.st4 lines0 v8 v9 v10)) lines0 v8 v9 v10 := by kernel_rfl
    rw [h]
    simp only [ih]
    rfl
set_option maxRecDepth 100000 in
theorem impl_areLines.body (n : Nat) (x : List (ByteArray × Int)) : bodyF impl_areLines.E impl_areLines.keep n Try.f101 impl_areLines.con x = impl_areLines.fn n x := by
  have h : bodyF impl_areLines.E impl_areLines.keep n Try.f101 impl_areLines.con x = impl_areLines.top (fun lines0 v8 v9 v10 => impl_areLines.LN4 n x n (impl_areLines.st4 lines0 v8 v9 v10)) x := by kernel_rfl
  rw [h]
  simp only [impl_areLines.lem4]
  rfl
set_option maxRecDepth 100000 in
theorem impl_areLines.good : Good Try.prog 101 impl_areLines.con :=
  good_of tabok (cs := impl_areLines.cs) ⟨impl_within.good, impl_IsWord.good, trivial⟩ 0 false (fn := Try.f101) Try.func101 rfl (by decide) (by simp [impl_areLines.con]) impl_areLines.keep NN (fun _ => rfl) (fun x => impl_areLines.body NN x)
end
end Go.Ev.Try
