/- Part 3 of what the law FnExactCutLine stands on: an evaluator of the model's code, proved sound; the functions as plain texts; their contracts. -/
import Derived.Test.YtgddpcjbjkbpcaaChecked
import Derived.Test.YtgddpcjbjkbpcaaProg
import Derived.Test.YtgddpcjbjkbpcaaRows
import Derived.Below
import Derived.Calls
import Derived.Carry
import Derived.ChangeArms
import Derived.ChangeKeysEq
import Derived.ChangeOld
import Derived.Deep.Quiet
import Derived.KernelRfl
import Derived.Laws.Append
import Derived.Laws.BytesString
import Derived.Laws.MakeOwn
import Derived.Laws.Strings
import Derived.Laws.StructEq
import Derived.OpenShut
import Derived.OrdersHeld
import Derived.ProofKit
import Derived.ShutString
import Derived.SizedLaws
import Derived.Tactics
import Derived.WalkKit
import Derived.WideShapes
import Derived.Test.YtgddpcjbjkbpcaaEvExactCutLine2
namespace Go.Ev.Try
open Go.Proofs Go.Pl
set_option linter.unusedVariables false
noncomputable section
def spec_CutLine.topraw (p0 : ByteArray × Int × List (ByteArray × Int)) (article1 : ByteArray) : Option ((ByteArray × Int × List (ByteArray × Int)) × Int) :=
  (spec_IsPaper.f p0).bind fun r1 =>
  if (!r1) = false then
    (spec_IsWord.f article1).bind fun r2 =>
    if (!r2) = true then
      some ((ByteArray.empty, (0, [])), 1)
    else
      (spec_l29Find.f p0 article1).bind fun r3 =>
      if (decide ((r3 : Int) < 0)) = true then
        some ((ByteArray.empty, (0, [])), 4)
      else
        agree (
          agree (
            agree (
              agree (
                if (0 : Int) ≤ r3 ∧ (r3 : Int) ≤ p0.2.2.length then
                  agree (
                    if ([] : List (ByteArray × Int)).length + (p0.2.2.take (r3 : Int).toNat).length < room 24 then
                      if (0 : Int) ≤ (IntKind.i64.wrap (r3 + 1)) ∧ ((IntKind.i64.wrap (r3 + 1)) : Int) ≤ p0.2.2.length then
                        if (([] : List (ByteArray × Int)) ++ (p0.2.2.take (r3 : Int).toNat)).length + (p0.2.2.drop ((IntKind.i64.wrap (r3 + 1)) : Int).toNat).length < room 24 then
                          some ((p0.1, (p0.2.1, (([] : List (ByteArray × Int)) ++ (p0.2.2.take (r3 : Int).toNat)) ++ (p0.2.2.drop ((IntKind.i64.wrap (r3 + 1)) : Int).toNat))), 0)
                        else
                          none
                      else
                        none
                    else
                      none
                  ) (
                    if (0 : Int) ≤ (IntKind.i64.wrap (r3 + 1)) ∧ ((IntKind.i64.wrap (r3 + 1)) : Int) ≤ p0.2.2.length then
                      if ([] : List (ByteArray × Int)).length + (p0.2.2.take (r3 : Int).toNat).length < room 24 then
                        if (([] : List (ByteArray × Int)) ++ (p0.2.2.take (r3 : Int).toNat)).length + (p0.2.2.drop ((IntKind.i64.wrap (r3 + 1)) : Int).toNat).length < room 24 then
                          some ((p0.1, (p0.2.1, (([] : List (ByteArray × Int)) ++ (p0.2.2.take (r3 : Int).toNat)) ++ (p0.2.2.drop ((IntKind.i64.wrap (r3 + 1)) : Int).toNat))), 0)
                        else
                          none
                      else
                        none
                    else
                      none
                  )
                else
                  none
              ) (
                if (0 : Int) ≤ (IntKind.i64.wrap (r3 + 1)) ∧ ((IntKind.i64.wrap (r3 + 1)) : Int) ≤ p0.2.2.length then
                  if (0 : Int) ≤ r3 ∧ (r3 : Int) ≤ p0.2.2.length then
                    if ([] : List (ByteArray × Int)).length + (p0.2.2.take (r3 : Int).toNat).length < room 24 then
                      if (([] : List (ByteArray × Int)) ++ (p0.2.2.take (r3 : Int).toNat)).length + (p0.2.2.drop ((IntKind.i64.wrap (r3 + 1)) : Int).toNat).length < room 24 then
                        some ((p0.1, (p0.2.1, (([] : List (ByteArray × Int)) ++ (p0.2.2.take (r3 : Int).toNat)) ++ (p0.2.2.drop ((IntKind.i64.wrap (r3 + 1)) : Int).toNat))), 0)
                      else
                        none
                    else
                      none
                  else
                    none
                else
                  none
              )
            ) (
              agree (
                if (0 : Int) ≤ r3 ∧ (r3 : Int) ≤ p0.2.2.length then
                  agree (
                    agree (
                      if ([] : List (ByteArray × Int)).length + (p0.2.2.take (r3 : Int).toNat).length < room 24 then
                        if (0 : Int) ≤ (IntKind.i64.wrap (r3 + 1)) ∧ ((IntKind.i64.wrap (r3 + 1)) : Int) ≤ p0.2.2.length then
                          if (([] : List (ByteArray × Int)) ++ (p0.2.2.take (r3 : Int).toNat)).length + (p0.2.2.drop ((IntKind.i64.wrap (r3 + 1)) : Int).toNat).length < room 24 then
                            some ((p0.1, (p0.2.1, (([] : List (ByteArray × Int)) ++ (p0.2.2.take (r3 : Int).toNat)) ++ (p0.2.2.drop ((IntKind.i64.wrap (r3 + 1)) : Int).toNat))), 0)
                          else
                            none
                        else
                          none
                      else
                        none
                    ) (
                      if (0 : Int) ≤ (IntKind.i64.wrap (r3 + 1)) ∧ ((IntKind.i64.wrap (r3 + 1)) : Int) ≤ p0.2.2.length then
                        if ([] : List (ByteArray × Int)).length + (p0.2.2.take (r3 : Int).toNat).length < room 24 then
                          if (([] : List (ByteArray × Int)) ++ (p0.2.2.take (r3 : Int).toNat)).length + (p0.2.2.drop ((IntKind.i64.wrap (r3 + 1)) : Int).toNat).length < room 24 then
                            some ((p0.1, (p0.2.1, (([] : List (ByteArray × Int)) ++ (p0.2.2.take (r3 : Int).toNat)) ++ (p0.2.2.drop ((IntKind.i64.wrap (r3 + 1)) : Int).toNat))), 0)
                          else
                            none
                        else
                          none
                      else
                        none
                    )
                  ) (
                    if (0 : Int) ≤ (IntKind.i64.wrap (r3 + 1)) ∧ ((IntKind.i64.wrap (r3 + 1)) : Int) ≤ p0.2.2.length then
                      if ([] : List (ByteArray × Int)).length + (p0.2.2.take (r3 : Int).toNat).length < room 24 then
                        if (([] : List (ByteArray × Int)) ++ (p0.2.2.take (r3 : Int).toNat)).length + (p0.2.2.drop ((IntKind.i64.wrap (r3 + 1)) : Int).toNat).length < room 24 then
                          some ((p0.1, (p0.2.1, (([] : List (ByteArray × Int)) ++ (p0.2.2.take (r3 : Int).toNat)) ++ (p0.2.2.drop ((IntKind.i64.wrap (r3 + 1)) : Int).toNat))), 0)
                        else
                          none
                      else
                        none
                    else
                      none
                  )
                else
                  none
              ) (
                if (0 : Int) ≤ (IntKind.i64.wrap (r3 + 1)) ∧ ((IntKind.i64.wrap (r3 + 1)) : Int) ≤ p0.2.2.length then
                  agree (
                    if (0 : Int) ≤ r3 ∧ (r3 : Int) ≤ p0.2.2.length then
                      if ([] : List (ByteArray × Int)).length + (p0.2.2.take (r3 : Int).toNat).length < room 24 then
                        if (([] : List (ByteArray × Int)) ++ (p0.2.2.take (r3 : Int).toNat)).length + (p0.2.2.drop ((IntKind.i64.wrap (r3 + 1)) : Int).toNat).length < room 24 then
                          some ((p0.1, (p0.2.1, (([] : List (ByteArray × Int)) ++ (p0.2.2.take (r3 : Int).toNat)) ++ (p0.2.2.drop ((IntKind.i64.wrap (r3 + 1)) : Int).toNat))), 0)
                        else
                          none
                      else
                        none
                    else
                      none
                  ) (
                    if (0 : Int) ≤ r3 ∧ (r3 : Int) ≤ p0.2.2.length then
                      if ([] : List (ByteArray × Int)).length + (p0.2.2.take (r3 : Int).toNat).length < room 24 then
                        if (([] : List (ByteArray × Int)) ++ (p0.2.2.take (r3 : Int).toNat)).length + (p0.2.2.drop ((IntKind.i64.wrap (r3 + 1)) : Int).toNat).length < room 24 then
                          some ((p0.1, (p0.2.1, (([] : List (ByteArray × Int)) ++ (p0.2.2.take (r3 : Int).toNat)) ++ (p0.2.2.drop ((IntKind.i64.wrap (r3 + 1)) : Int).toNat))), 0)
                        else
                          none
                      else
                        none
                    else
                      none
                  )
                else
                  none
              )
            )
          ) (
            agree (
              agree (
                agree (
                  if (0 : Int) ≤ r3 ∧ (r3 : Int) ≤ p0.2.2.length then
                    agree (
                      if ([] : List (ByteArray × Int)).length + (p0.2.2.take (r3 : Int).toNat).length < room 24 then
                        if (0 : Int) ≤ (IntKind.i64.wrap (r3 + 1)) ∧ ((IntKind.i64.wrap (r3 + 1)) : Int) ≤ p0.2.2.length then
                          if (([] : List (ByteArray × Int)) ++ (p0.2.2.take (r3 : Int).toNat)).length + (p0.2.2.drop ((IntKind.i64.wrap (r3 + 1)) : Int).toNat).length < room 24 then
                            some ((p0.1, (p0.2.1, (([] : List (ByteArray × Int)) ++ (p0.2.2.take (r3 : Int).toNat)) ++ (p0.2.2.drop ((IntKind.i64.wrap (r3 + 1)) : Int).toNat))), 0)
                          else
                            none
                        else
                          none
                      else
                        none
                    ) (
                      if (0 : Int) ≤ (IntKind.i64.wrap (r3 + 1)) ∧ ((IntKind.i64.wrap (r3 + 1)) : Int) ≤ p0.2.2.length then
                        if ([] : List (ByteArray × Int)).length + (p0.2.2.take (r3 : Int).toNat).length < room 24 then
                          if (([] : List (ByteArray × Int)) ++ (p0.2.2.take (r3 : Int).toNat)).length + (p0.2.2.drop ((IntKind.i64.wrap (r3 + 1)) : Int).toNat).length < room 24 then
                            some ((p0.1, (p0.2.1, (([] : List (ByteArray × Int)) ++ (p0.2.2.take (r3 : Int).toNat)) ++ (p0.2.2.drop ((IntKind.i64.wrap (r3 + 1)) : Int).toNat))), 0)
                          else
                            none
                        else
                          none
                      else
                        none
                    )
                  else
                    none
                ) (
                  if (0 : Int) ≤ (IntKind.i64.wrap (r3 + 1)) ∧ ((IntKind.i64.wrap (r3 + 1)) : Int) ≤ p0.2.2.length then
                    if (0 : Int) ≤ r3 ∧ (r3 : Int) ≤ p0.2.2.length then
                      if ([] : List (ByteArray × Int)).length + (p0.2.2.take (r3 : Int).toNat).length < room 24 then
                        if (([] : List (ByteArray × Int)) ++ (p0.2.2.take (r3 : Int).toNat)).length + (p0.2.2.drop ((IntKind.i64.wrap (r3 + 1)) : Int).toNat).length < room 24 then
                          some ((p0.1, (p0.2.1, (([] : List (ByteArray × Int)) ++ (p0.2.2.take (r3 : Int).toNat)) ++ (p0.2.2.drop ((IntKind.i64.wrap (r3 + 1)) : Int).toNat))), 0)
                        else
                          none
                      else
                        none
                    else
                      none
                  else
                    none
                )
              ) (
                agree (
                  if (0 : Int) ≤ r3 ∧ (r3 : Int) ≤ p0.2.2.length then
                    agree (
                      agree (
                        if ([] : List (ByteArray × Int)).length + (p0.2.2.take (r3 : Int).toNat).length < room 24 then
                          if (0 : Int) ≤ (IntKind.i64.wrap (r3 + 1)) ∧ ((IntKind.i64.wrap (r3 + 1)) : Int) ≤ p0.2.2.length then
                            if (([] : List (ByteArray × Int)) ++ (p0.2.2.take (r3 : Int).toNat)).length + (p0.2.2.drop ((IntKind.i64.wrap (r3 + 1)) : Int).toNat).length < room 24 then
                              some ((p0.1, (p0.2.1, (([] : List (ByteArray × Int)) ++ (p0.2.2.take (r3 : Int).toNat)) ++ (p0.2.2.drop ((IntKind.i64.wrap (r3 + 1)) : Int).toNat))), 0)
                            else
                              none
                          else
                            none
                        else
                          none
                      ) (
                        if (0 : Int) ≤ (IntKind.i64.wrap (r3 + 1)) ∧ ((IntKind.i64.wrap (r3 + 1)) : Int) ≤ p0.2.2.length then
                          if ([] : List (ByteArray × Int)).length + (p0.2.2.take (r3 : Int).toNat).length < room 24 then
                            if (([] : List (ByteArray × Int)) ++ (p0.2.2.take (r3 : Int).toNat)).length + (p0.2.2.drop ((IntKind.i64.wrap (r3 + 1)) : Int).toNat).length < room 24 then
                              some ((p0.1, (p0.2.1, (([] : List (ByteArray × Int)) ++ (p0.2.2.take (r3 : Int).toNat)) ++ (p0.2.2.drop ((IntKind.i64.wrap (r3 + 1)) : Int).toNat))), 0)
                            else
                              none
                          else
                            none
                        else
                          none
                      )
                    ) (
                      agree (
                        if ([] : List (ByteArray × Int)).length + (p0.2.2.take (r3 : Int).toNat).length < room 24 then
                          agree (
                            if (0 : Int) ≤ (IntKind.i64.wrap (r3 + 1)) ∧ ((IntKind.i64.wrap (r3 + 1)) : Int) ≤ p0.2.2.length then
                              if (([] : List (ByteArray × Int)) ++ (p0.2.2.take (r3 : Int).toNat)).length + (p0.2.2.drop ((IntKind.i64.wrap (r3 + 1)) : Int).toNat).length < room 24 then
                                some ((p0.1, (p0.2.1, (([] : List (ByteArray × Int)) ++ (p0.2.2.take (r3 : Int).toNat)) ++ (p0.2.2.drop ((IntKind.i64.wrap (r3 + 1)) : Int).toNat))), 0)
                              else
                                none
                            else
                              none
                          ) (
                            if (0 : Int) ≤ (IntKind.i64.wrap (r3 + 1)) ∧ ((IntKind.i64.wrap (r3 + 1)) : Int) ≤ p0.2.2.length then
                              agree (
                                if (([] : List (ByteArray × Int)) ++ (p0.2.2.take (r3 : Int).toNat)).length + (p0.2.2.drop ((IntKind.i64.wrap (r3 + 1)) : Int).toNat).length < room 24 then
                                  some ((p0.1, (p0.2.1, (([] : List (ByteArray × Int)) ++ (p0.2.2.take (r3 : Int).toNat)) ++ (p0.2.2.drop ((IntKind.i64.wrap (r3 + 1)) : Int).toNat))), 0)
                                else
                                  none
                              ) (
                                if (([] : List (ByteArray × Int)) ++ (p0.2.2.take (r3 : Int).toNat)).length + (p0.2.2.drop ((IntKind.i64.wrap (r3 + 1)) : Int).toNat).length < room 24 then
                                  some ((p0.1, (p0.2.1, (([] : List (ByteArray × Int)) ++ (p0.2.2.take (r3 : Int).toNat)) ++ (p0.2.2.drop ((IntKind.i64.wrap (r3 + 1)) : Int).toNat))), 0)
                                else
                                  none
                              )
                            else
                              none
                          )
                        else
                          none
                      ) (
                        if (0 : Int) ≤ (IntKind.i64.wrap (r3 + 1)) ∧ ((IntKind.i64.wrap (r3 + 1)) : Int) ≤ p0.2.2.length then
                          agree (
                            if ([] : List (ByteArray × Int)).length + (p0.2.2.take (r3 : Int).toNat).length < room 24 then
                              if (([] : List (ByteArray × Int)) ++ (p0.2.2.take (r3 : Int).toNat)).length + (p0.2.2.drop ((IntKind.i64.wrap (r3 + 1)) : Int).toNat).length < room 24 then
                                some ((p0.1, (p0.2.1, (([] : List (ByteArray × Int)) ++ (p0.2.2.take (r3 : Int).toNat)) ++ (p0.2.2.drop ((IntKind.i64.wrap (r3 + 1)) : Int).toNat))), 0)
                              else
                                none
                            else
                              none
                          ) (
                            if ([] : List (ByteArray × Int)).length + (p0.2.2.take (r3 : Int).toNat).length < room 24 then
                              agree (
                                if (([] : List (ByteArray × Int)) ++ (p0.2.2.take (r3 : Int).toNat)).length + (p0.2.2.drop ((IntKind.i64.wrap (r3 + 1)) : Int).toNat).length < room 24 then
                                  some ((p0.1, (p0.2.1, (([] : List (ByteArray × Int)) ++ (p0.2.2.take (r3 : Int).toNat)) ++ (p0.2.2.drop ((IntKind.i64.wrap (r3 + 1)) : Int).toNat))), 0)
                                else
                                  none
                              ) (
                                if (([] : List (ByteArray × Int)) ++ (p0.2.2.take (r3 : Int).toNat)).length + (p0.2.2.drop ((IntKind.i64.wrap (r3 + 1)) : Int).toNat).length < room 24 then
                                  some ((p0.1, (p0.2.1, (([] : List (ByteArray × Int)) ++ (p0.2.2.take (r3 : Int).toNat)) ++ (p0.2.2.drop ((IntKind.i64.wrap (r3 + 1)) : Int).toNat))), 0)
                                else
                                  none
                              )
                            else
                              none
                          )
                        else
                          none
                      )
                    )
                  else
                    none
                ) (
                  if (0 : Int) ≤ (IntKind.i64.wrap (r3 + 1)) ∧ ((IntKind.i64.wrap (r3 + 1)) : Int) ≤ p0.2.2.length then
                    agree (
                      if (0 : Int) ≤ r3 ∧ (r3 : Int) ≤ p0.2.2.length then
                        if ([] : List (ByteArray × Int)).length + (p0.2.2.take (r3 : Int).toNat).length < room 24 then
                          if (([] : List (ByteArray × Int)) ++ (p0.2.2.take (r3 : Int).toNat)).length + (p0.2.2.drop ((IntKind.i64.wrap (r3 + 1)) : Int).toNat).length < room 24 then
                            some ((p0.1, (p0.2.1, (([] : List (ByteArray × Int)) ++ (p0.2.2.take (r3 : Int).toNat)) ++ (p0.2.2.drop ((IntKind.i64.wrap (r3 + 1)) : Int).toNat))), 0)
                          else
                            none
                        else
                          none
                      else
                        none
                    ) (
                      if (0 : Int) ≤ r3 ∧ (r3 : Int) ≤ p0.2.2.length then
                        agree (
                          if ([] : List (ByteArray × Int)).length + (p0.2.2.take (r3 : Int).toNat).length < room 24 then
                            if (([] : List (ByteArray × Int)) ++ (p0.2.2.take (r3 : Int).toNat)).length + (p0.2.2.drop ((IntKind.i64.wrap (r3 + 1)) : Int).toNat).length < room 24 then
                              some ((p0.1, (p0.2.1, (([] : List (ByteArray × Int)) ++ (p0.2.2.take (r3 : Int).toNat)) ++ (p0.2.2.drop ((IntKind.i64.wrap (r3 + 1)) : Int).toNat))), 0)
                            else
                              none
                          else
                            none
                        ) (
                          if ([] : List (ByteArray × Int)).length + (p0.2.2.take (r3 : Int).toNat).length < room 24 then
                            agree (
                              if (([] : List (ByteArray × Int)) ++ (p0.2.2.take (r3 : Int).toNat)).length + (p0.2.2.drop ((IntKind.i64.wrap (r3 + 1)) : Int).toNat).length < room 24 then
                                some ((p0.1, (p0.2.1, (([] : List (ByteArray × Int)) ++ (p0.2.2.take (r3 : Int).toNat)) ++ (p0.2.2.drop ((IntKind.i64.wrap (r3 + 1)) : Int).toNat))), 0)
                              else
                                none
                            ) (
                              if (([] : List (ByteArray × Int)) ++ (p0.2.2.take (r3 : Int).toNat)).length + (p0.2.2.drop ((IntKind.i64.wrap (r3 + 1)) : Int).toNat).length < room 24 then
                                some ((p0.1, (p0.2.1, (([] : List (ByteArray × Int)) ++ (p0.2.2.take (r3 : Int).toNat)) ++ (p0.2.2.drop ((IntKind.i64.wrap (r3 + 1)) : Int).toNat))), 0)
                              else
                                none
                            )
                          else
                            none
                        )
                      else
                        none
                    )
                  else
                    none
                )
              )
            ) (
              agree (
                if (0 : Int) ≤ r3 ∧ (r3 : Int) ≤ p0.2.2.length then
                  agree (
                    agree (
                      agree (
                        if ([] : List (ByteArray × Int)).length + (p0.2.2.take (r3 : Int).toNat).length < room 24 then
                          if (0 : Int) ≤ (IntKind.i64.wrap (r3 + 1)) ∧ ((IntKind.i64.wrap (r3 + 1)) : Int) ≤ p0.2.2.length then
                            if (([] : List (ByteArray × Int)) ++ (p0.2.2.take (r3 : Int).toNat)).length + (p0.2.2.drop ((IntKind.i64.wrap (r3 + 1)) : Int).toNat).length < room 24 then
                              some ((p0.1, (p0.2.1, (([] : List (ByteArray × Int)) ++ (p0.2.2.take (r3 : Int).toNat)) ++ (p0.2.2.drop ((IntKind.i64.wrap (r3 + 1)) : Int).toNat))), 0)
                            else
                              none
                          else
                            none
                        else
                          none
                      ) (
                        if (0 : Int) ≤ (IntKind.i64.wrap (r3 + 1)) ∧ ((IntKind.i64.wrap (r3 + 1)) : Int) ≤ p0.2.2.length then
                          if ([] : List (ByteArray × Int)).length + (p0.2.2.take (r3 : Int).toNat).length < room 24 then
                            if (([] : List (ByteArray × Int)) ++ (p0.2.2.take (r3 : Int).toNat)).length + (p0.2.2.drop ((IntKind.i64.wrap (r3 + 1)) : Int).toNat).length < room 24 then
                              some ((p0.1, (p0.2.1, (([] : List (ByteArray × Int)) ++ (p0.2.2.take (r3 : Int).toNat)) ++ (p0.2.2.drop ((IntKind.i64.wrap (r3 + 1)) : Int).toNat))), 0)
                            else
                              none
                          else
                            none
                        else
                          none
                      )
                    ) (
                      if (0 : Int) ≤ (IntKind.i64.wrap (r3 + 1)) ∧ ((IntKind.i64.wrap (r3 + 1)) : Int) ≤ p0.2.2.length then
                        if ([] : List (ByteArray × Int)).length + (p0.2.2.take (r3 : Int).toNat).length < room 24 then
                          if (([] : List (ByteArray × Int)) ++ (p0.2.2.take (r3 : Int).toNat)).length + (p0.2.2.drop ((IntKind.i64.wrap (r3 + 1)) : Int).toNat).length < room 24 then
                            some ((p0.1, (p0.2.1, (([] : List (ByteArray × Int)) ++ (p0.2.2.take (r3 : Int).toNat)) ++ (p0.2.2.drop ((IntKind.i64.wrap (r3 + 1)) : Int).toNat))), 0)
                          else
                            none
                        else
                          none
                      else
                        none
                    )
                  ) (
                    agree (
                      agree (
                        agree (
                          if ([] : List (ByteArray × Int)).length + (p0.2.2.take (r3 : Int).toNat).length < room 24 then
                            if (0 : Int) ≤ (IntKind.i64.wrap (r3 + 1)) ∧ ((IntKind.i64.wrap (r3 + 1)) : Int) ≤ p0.2.2.length then
                              if (([] : List (ByteArray × Int)) ++ (p0.2.2.take (r3 : Int).toNat)).length + (p0.2.2.drop ((IntKind.i64.wrap (r3 + 1)) : Int).toNat).length < room 24 then
                                some ((p0.1, (p0.2.1, (([] : List (ByteArray × Int)) ++ (p0.2.2.take (r3 : Int).toNat)) ++ (p0.2.2.drop ((IntKind.i64.wrap (r3 + 1)) : Int).toNat))), 0)
                              else
                                none
                            else
                              none
                          else
                            none
                        ) (
                          if (0 : Int) ≤ (IntKind.i64.wrap (r3 + 1)) ∧ ((IntKind.i64.wrap (r3 + 1)) : Int) ≤ p0.2.2.length then
                            if ([] : List (ByteArray × Int)).length + (p0.2.2.take (r3 : Int).toNat).length < room 24 then
                              if (([] : List (ByteArray × Int)) ++ (p0.2.2.take (r3 : Int).toNat)).length + (p0.2.2.drop ((IntKind.i64.wrap (r3 + 1)) : Int).toNat).length < room 24 then
                                some ((p0.1, (p0.2.1, (([] : List (ByteArray × Int)) ++ (p0.2.2.take (r3 : Int).toNat)) ++ (p0.2.2.drop ((IntKind.i64.wrap (r3 + 1)) : Int).toNat))), 0)
                              else
                                none
                            else
                              none
                          else
                            none
                        )
                      ) (
                        agree (
                          if ([] : List (ByteArray × Int)).length + (p0.2.2.take (r3 : Int).toNat).length < room 24 then
                            agree (
                              if (0 : Int) ≤ (IntKind.i64.wrap (r3 + 1)) ∧ ((IntKind.i64.wrap (r3 + 1)) : Int) ≤ p0.2.2.length then
                                if (([] : List (ByteArray × Int)) ++ (p0.2.2.take (r3 : Int).toNat)).length + (p0.2.2.drop ((IntKind.i64.wrap (r3 + 1)) : Int).toNat).length < room 24 then
                                  some ((p0.1, (p0.2.1, (([] : List (ByteArray × Int)) ++ (p0.2.2.take (r3 : Int).toNat)) ++ (p0.2.2.drop ((IntKind.i64.wrap (r3 + 1)) : Int).toNat))), 0)
                                else
                                  none
                              else
                                none
                            ) (
                              if (0 : Int) ≤ (IntKind.i64.wrap (r3 + 1)) ∧ ((IntKind.i64.wrap (r3 + 1)) : Int) ≤ p0.2.2.length then
                                agree (
                                  if (([] : List (ByteArray × Int)) ++ (p0.2.2.take (r3 : Int).toNat)).length + (p0.2.2.drop ((IntKind.i64.wrap (r3 + 1)) : Int).toNat).length < room 24 then
                                    some ((p0.1, (p0.2.1, (([] : List (ByteArray × Int)) ++ (p0.2.2.take (r3 : Int).toNat)) ++ (p0.2.2.drop ((IntKind.i64.wrap (r3 + 1)) : Int).toNat))), 0)
                                  else
                                    none
                                ) (
                                  if (([] : List (ByteArray × Int)) ++ (p0.2.2.take (r3 : Int).toNat)).length + (p0.2.2.drop ((IntKind.i64.wrap (r3 + 1)) : Int).toNat).length < room 24 then
                                    some ((p0.1, (p0.2.1, (([] : List (ByteArray × Int)) ++ (p0.2.2.take (r3 : Int).toNat)) ++ (p0.2.2.drop ((IntKind.i64.wrap (r3 + 1)) : Int).toNat))), 0)
                                  else
                                    none
                                )
                              else
                                none
                            )
                          else
                            none
                        ) (
                          if (0 : Int) ≤ (IntKind.i64.wrap (r3 + 1)) ∧ ((IntKind.i64.wrap (r3 + 1)) : Int) ≤ p0.2.2.length then
                            agree (
                              if ([] : List (ByteArray × Int)).length + (p0.2.2.take (r3 : Int).toNat).length < room 24 then
                                if (([] : List (ByteArray × Int)) ++ (p0.2.2.take (r3 : Int).toNat)).length + (p0.2.2.drop ((IntKind.i64.wrap (r3 + 1)) : Int).toNat).length < room 24 then
                                  some ((p0.1, (p0.2.1, (([] : List (ByteArray × Int)) ++ (p0.2.2.take (r3 : Int).toNat)) ++ (p0.2.2.drop ((IntKind.i64.wrap (r3 + 1)) : Int).toNat))), 0)
                                else
                                  none
                              else
                                none
                            ) (
                              if ([] : List (ByteArray × Int)).length + (p0.2.2.take (r3 : Int).toNat).length < room 24 then
                                agree (
                                  if (([] : List (ByteArray × Int)) ++ (p0.2.2.take (r3 : Int).toNat)).length + (p0.2.2.drop ((IntKind.i64.wrap (r3 + 1)) : Int).toNat).length < room 24 then
                                    some ((p0.1, (p0.2.1, (([] : List (ByteArray × Int)) ++ (p0.2.2.take (r3 : Int).toNat)) ++ (p0.2.2.drop ((IntKind.i64.wrap (r3 + 1)) : Int).toNat))), 0)
                                  else
                                    none
                                ) (
                                  if (([] : List (ByteArray × Int)) ++ (p0.2.2.take (r3 : Int).toNat)).length + (p0.2.2.drop ((IntKind.i64.wrap (r3 + 1)) : Int).toNat).length < room 24 then
                                    some ((p0.1, (p0.2.1, (([] : List (ByteArray × Int)) ++ (p0.2.2.take (r3 : Int).toNat)) ++ (p0.2.2.drop ((IntKind.i64.wrap (r3 + 1)) : Int).toNat))), 0)
                                  else
                                    none
                                )
                              else
                                none
                            )
                          else
                            none
                        )
                      )
                    ) (
                      if (0 : Int) ≤ (IntKind.i64.wrap (r3 + 1)) ∧ ((IntKind.i64.wrap (r3 + 1)) : Int) ≤ p0.2.2.length then
                        agree (
                          if ([] : List (ByteArray × Int)).length + (p0.2.2.take (r3 : Int).toNat).length < room 24 then
                            if (([] : List (ByteArray × Int)) ++ (p0.2.2.take (r3 : Int).toNat)).length + (p0.2.2.drop ((IntKind.i64.wrap (r3 + 1)) : Int).toNat).length < room 24 then
                              some ((p0.1, (p0.2.1, (([] : List (ByteArray × Int)) ++ (p0.2.2.take (r3 : Int).toNat)) ++ (p0.2.2.drop ((IntKind.i64.wrap (r3 + 1)) : Int).toNat))), 0)
                            else
                              none
                          else
                            none
                        ) (
                          agree (
                            if ([] : List (ByteArray × Int)).length + (p0.2.2.take (r3 : Int).toNat).length < room 24 then
                              if (([] : List (ByteArray × Int)) ++ (p0.2.2.take (r3 : Int).toNat)).length + (p0.2.2.drop ((IntKind.i64.wrap (r3 + 1)) : Int).toNat).length < room 24 then
                                some ((p0.1, (p0.2.1, (([] : List (ByteArray × Int)) ++ (p0.2.2.take (r3 : Int).toNat)) ++ (p0.2.2.drop ((IntKind.i64.wrap (r3 + 1)) : Int).toNat))), 0)
                              else
                                none
                            else
                              none
                          ) (
                            if ([] : List (ByteArray × Int)).length + (p0.2.2.take (r3 : Int).toNat).length < room 24 then
                              agree (
                                if (([] : List (ByteArray × Int)) ++ (p0.2.2.take (r3 : Int).toNat)).length + (p0.2.2.drop ((IntKind.i64.wrap (r3 + 1)) : Int).toNat).length < room 24 then
                                  some ((p0.1, (p0.2.1, (([] : List (ByteArray × Int)) ++ (p0.2.2.take (r3 : Int).toNat)) ++ (p0.2.2.drop ((IntKind.i64.wrap (r3 + 1)) : Int).toNat))), 0)
                                else
                                  none
                              ) (
                                if (([] : List (ByteArray × Int)) ++ (p0.2.2.take (r3 : Int).toNat)).length + (p0.2.2.drop ((IntKind.i64.wrap (r3 + 1)) : Int).toNat).length < room 24 then
                                  some ((p0.1, (p0.2.1, (([] : List (ByteArray × Int)) ++ (p0.2.2.take (r3 : Int).toNat)) ++ (p0.2.2.drop ((IntKind.i64.wrap (r3 + 1)) : Int).toNat))), 0)
                                else
                                  none
                              )
                            else
                              none
                          )
                        )
                      else
                        none
                    )
                  )
                else
                  none
              ) (
                if (0 : Int) ≤ (IntKind.i64.wrap (r3 + 1)) ∧ ((IntKind.i64.wrap (r3 + 1)) : Int) ≤ p0.2.2.length then
                  agree (
                    agree (
                      if (0 : Int) ≤ r3 ∧ (r3 : Int) ≤ p0.2.2.length then
                        if ([] : List (ByteArray × Int)).length + (p0.2.2.take (r3 : Int).toNat).length < room 24 then
                          if (([] : List (ByteArray × Int)) ++ (p0.2.2.take (r3 : Int).toNat)).length + (p0.2.2.drop ((IntKind.i64.wrap (r3 + 1)) : Int).toNat).length < room 24 then
                            some ((p0.1, (p0.2.1, (([] : List (ByteArray × Int)) ++ (p0.2.2.take (r3 : Int).toNat)) ++ (p0.2.2.drop ((IntKind.i64.wrap (r3 + 1)) : Int).toNat))), 0)
                          else
                            none
                        else
                          none
                      else
                        none
                    ) (
                      if (0 : Int) ≤ r3 ∧ (r3 : Int) ≤ p0.2.2.length then
                        if ([] : List (ByteArray × Int)).length + (p0.2.2.take (r3 : Int).toNat).length < room 24 then
                          if (([] : List (ByteArray × Int)) ++ (p0.2.2.take (r3 : Int).toNat)).length + (p0.2.2.drop ((IntKind.i64.wrap (r3 + 1)) : Int).toNat).length < room 24 then
                            some ((p0.1, (p0.2.1, (([] : List (ByteArray × Int)) ++ (p0.2.2.take (r3 : Int).toNat)) ++ (p0.2.2.drop ((IntKind.i64.wrap (r3 + 1)) : Int).toNat))), 0)
                          else
                            none
                        else
                          none
                      else
                        none
                    )
                  ) (
                    agree (
                      agree (
                        if (0 : Int) ≤ r3 ∧ (r3 : Int) ≤ p0.2.2.length then
                          if ([] : List (ByteArray × Int)).length + (p0.2.2.take (r3 : Int).toNat).length < room 24 then
                            if (([] : List (ByteArray × Int)) ++ (p0.2.2.take (r3 : Int).toNat)).length + (p0.2.2.drop ((IntKind.i64.wrap (r3 + 1)) : Int).toNat).length < room 24 then
                              some ((p0.1, (p0.2.1, (([] : List (ByteArray × Int)) ++ (p0.2.2.take (r3 : Int).toNat)) ++ (p0.2.2.drop ((IntKind.i64.wrap (r3 + 1)) : Int).toNat))), 0)
                            else
                              none
                          else
                            none
                        else
                          none
                      ) (
                        if (0 : Int) ≤ r3 ∧ (r3 : Int) ≤ p0.2.2.length then
                          agree (
                            if ([] : List (ByteArray × Int)).length + (p0.2.2.take (r3 : Int).toNat).length < room 24 then
                              if (([] : List (ByteArray × Int)) ++ (p0.2.2.take (r3 : Int).toNat)).length + (p0.2.2.drop ((IntKind.i64.wrap (r3 + 1)) : Int).toNat).length < room 24 then
                                some ((p0.1, (p0.2.1, (([] : List (ByteArray × Int)) ++ (p0.2.2.take (r3 : Int).toNat)) ++ (p0.2.2.drop ((IntKind.i64.wrap (r3 + 1)) : Int).toNat))), 0)
                              else
                                none
                            else
                              none
                          ) (
                            if ([] : List (ByteArray × Int)).length + (p0.2.2.take (r3 : Int).toNat).length < room 24 then
                              agree (
                                if (([] : List (ByteArray × Int)) ++ (p0.2.2.take (r3 : Int).toNat)).length + (p0.2.2.drop ((IntKind.i64.wrap (r3 + 1)) : Int).toNat).length < room 24 then
                                  some ((p0.1, (p0.2.1, (([] : List (ByteArray × Int)) ++ (p0.2.2.take (r3 : Int).toNat)) ++ (p0.2.2.drop ((IntKind.i64.wrap (r3 + 1)) : Int).toNat))), 0)
                                else
                                  none
                              ) (
                                if (([] : List (ByteArray × Int)) ++ (p0.2.2.take (r3 : Int).toNat)).length + (p0.2.2.drop ((IntKind.i64.wrap (r3 + 1)) : Int).toNat).length < room 24 then
                                  some ((p0.1, (p0.2.1, (([] : List (ByteArray × Int)) ++ (p0.2.2.take (r3 : Int).toNat)) ++ (p0.2.2.drop ((IntKind.i64.wrap (r3 + 1)) : Int).toNat))), 0)
                                else
                                  none
                              )
                            else
                              none
                          )
                        else
                          none
                      )
                    ) (
                      if (0 : Int) ≤ r3 ∧ (r3 : Int) ≤ p0.2.2.length then
                        agree (
                          if ([] : List (ByteArray × Int)).length + (p0.2.2.take (r3 : Int).toNat).length < room 24 then
                            if (([] : List (ByteArray × Int)) ++ (p0.2.2.take (r3 : Int).toNat)).length + (p0.2.2.drop ((IntKind.i64.wrap (r3 + 1)) : Int).toNat).length < room 24 then
                              some ((p0.1, (p0.2.1, (([] : List (ByteArray × Int)) ++ (p0.2.2.take (r3 : Int).toNat)) ++ (p0.2.2.drop ((IntKind.i64.wrap (r3 + 1)) : Int).toNat))), 0)
                            else
                              none
                          else
                            none
                        ) (
                          agree (
                            if ([] : List (ByteArray × Int)).length + (p0.2.2.take (r3 : Int).toNat).length < room 24 then
                              if (([] : List (ByteArray × Int)) ++ (p0.2.2.take (r3 : Int).toNat)).length + (p0.2.2.drop ((IntKind.i64.wrap (r3 + 1)) : Int).toNat).length < room 24 then
                                some ((p0.1, (p0.2.1, (([] : List (ByteArray × Int)) ++ (p0.2.2.take (r3 : Int).toNat)) ++ (p0.2.2.drop ((IntKind.i64.wrap (r3 + 1)) : Int).toNat))), 0)
                              else
                                none
                            else
                              none
                          ) (
                            if ([] : List (ByteArray × Int)).length + (p0.2.2.take (r3 : Int).toNat).length < room 24 then
                              agree (
                                if (([] : List (ByteArray × Int)) ++ (p0.2.2.take (r3 : Int).toNat)).length + (p0.2.2.drop ((IntKind.i64.wrap (r3 + 1)) : Int).toNat).length < room 24 then
                                  some ((p0.1, (p0.2.1, (([] : List (ByteArray × Int)) ++ (p0.2.2.take (r3 : Int).toNat)) ++ (p0.2.2.drop ((IntKind.i64.wrap (r3 + 1)) : Int).toNat))), 0)
                                else
                                  none
                              ) (
                                if (([] : List (ByteArray × Int)) ++ (p0.2.2.take (r3 : Int).toNat)).length + (p0.2.2.drop ((IntKind.i64.wrap (r3 + 1)) : Int).toNat).length < room 24 then
                                  some ((p0.1, (p0.2.1, (([] : List (ByteArray × Int)) ++ (p0.2.2.take (r3 : Int).toNat)) ++ (p0.2.2.drop ((IntKind.i64.wrap (r3 + 1)) : Int).toNat))), 0)
                                else
                                  none
                              )
                            else
                              none
                          )
                        )
                      else
                        none
                    )
                  )
                else
                  none
              )
            )
          )
        ) (
          agree (
            agree (
              agree (
                agree (
                  if (0 : Int) ≤ r3 ∧ (r3 : Int) ≤ p0.2.2.length then
                    agree (
                      if ([] : List (ByteArray × Int)).length + (p0.2.2.take (r3 : Int).toNat).length < room 24 then
                        if (0 : Int) ≤ (IntKind.i64.wrap (r3 + 1)) ∧ ((IntKind.i64.wrap (r3 + 1)) : Int) ≤ p0.2.2.length then
                          if (([] : List (ByteArray × Int)) ++ (p0.2.2.take (r3 : Int).toNat)).length + (p0.2.2.drop ((IntKind.i64.wrap (r3 + 1)) : Int).toNat).length < room 24 then
                            some ((p0.1, (p0.2.1, (([] : List (ByteArray × Int)) ++ (p0.2.2.take (r3 : Int).toNat)) ++ (p0.2.2.drop ((IntKind.i64.wrap (r3 + 1)) : Int).toNat))), 0)
                          else
                            none
                        else
                          none
                      else
                        none
                    ) (
                      if (0 : Int) ≤ (IntKind.i64.wrap (r3 + 1)) ∧ ((IntKind.i64.wrap (r3 + 1)) : Int) ≤ p0.2.2.length then
                        if ([] : List (ByteArray × Int)).length + (p0.2.2.take (r3 : Int).toNat).length < room 24 then
                          if (([] : List (ByteArray × Int)) ++ (p0.2.2.take (r3 : Int).toNat)).length + (p0.2.2.drop ((IntKind.i64.wrap (r3 + 1)) : Int).toNat).length < room 24 then
                            some ((p0.1, (p0.2.1, (([] : List (ByteArray × Int)) ++ (p0.2.2.take (r3 : Int).toNat)) ++ (p0.2.2.drop ((IntKind.i64.wrap (r3 + 1)) : Int).toNat))), 0)
                          else
                            none
                        else
                          none
                      else
                        none
                    )
                  else
                    none
                ) (
                  if (0 : Int) ≤ (IntKind.i64.wrap (r3 + 1)) ∧ ((IntKind.i64.wrap (r3 + 1)) : Int) ≤ p0.2.2.length then
                    if (0 : Int) ≤ r3 ∧ (r3 : Int) ≤ p0.2.2.length then
                      if ([] : List (ByteArray × Int)).length + (p0.2.2.take (r3 : Int).toNat).length < room 24 then
                        if (([] : List (ByteArray × Int)) ++ (p0.2.2.take (r3 : Int).toNat)).length + (p0.2.2.drop ((IntKind.i64.wrap (r3 + 1)) : Int).toNat).length < room 24 then
                          some ((p0.1, (p0.2.1, (([] : List (ByteArray × Int)) ++ (p0.2.2.take (r3 : Int).toNat)) ++ (p0.2.2.drop ((IntKind.i64.wrap (r3 + 1)) : Int).toNat))), 0)
                        else
                          none
                      else
                        none
                    else
                      none
                  else
                    none
                )
              ) (
                agree (
                  if (0 : Int) ≤ r3 ∧ (r3 : Int) ≤ p0.2.2.length then
                    agree (
                      agree (
                        if ([] : List (ByteArray × Int)).length + (p0.2.2.take (r3 : Int).toNat).length < room 24 then
                          if (0 : Int) ≤ (IntKind.i64.wrap (r3 + 1)) ∧ ((IntKind.i64.wrap (r3 + 1)) : Int) ≤ p0.2.2.length then
                            if (([] : List (ByteArray × Int)) ++ (p0.2.2.take (r3 : Int).toNat)).length + (p0.2.2.drop ((IntKind.i64.wrap (r3 + 1)) : Int).toNat).length < room 24 then
                              some ((p0.1, (p0.2.1, (([] : List (ByteArray × Int)) ++ (p0.2.2.take (r3 : Int).toNat)) ++ (p0.2.2.drop ((IntKind.i64.wrap (r3 + 1)) : Int).toNat))), 0)
                            else
                              none
                          else
                            none
                        else
                          none
                      ) (
                        if (0 : Int) ≤ (IntKind.i64.wrap (r3 + 1)) ∧ ((IntKind.i64.wrap (r3 + 1)) : Int) ≤ p0.2.2.length then
                          if ([] : List (ByteArray × Int)).length + (p0.2.2.take (r3 : Int).toNat).length < room 24 then
                            if (([] : List (ByteArray × Int)) ++ (p0.2.2.take (r3 : Int).toNat)).length + (p0.2.2.drop ((IntKind.i64.wrap (r3 + 1)) : Int).toNat).length < room 24 then
                              some ((p0.1, (p0.2.1, (([] : List (ByteArray × Int)) ++ (p0.2.2.take (r3 : Int).toNat)) ++ (p0.2.2.drop ((IntKind.i64.wrap (r3 + 1)) : Int).toNat))), 0)
                            else
                              none
                          else
                            none
                        else
                          none
                      )
                    ) (
                      if (0 : Int) ≤ (IntKind.i64.wrap (r3 + 1)) ∧ ((IntKind.i64.wrap (r3 + 1)) : Int) ≤ p0.2.2.length then
                        if ([] : List (ByteArray × Int)).length + (p0.2.2.take (r3 : Int).toNat).length < room 24 then
                          if (([] : List (ByteArray × Int)) ++ (p0.2.2.take (r3 : Int).toNat)).length + (p0.2.2.drop ((IntKind.i64.wrap (r3 + 1)) : Int).toNat).length < room 24 then
                            some ((p0.1, (p0.2.1, (([] : List (ByteArray × Int)) ++ (p0.2.2.take (r3 : Int).toNat)) ++ (p0.2.2.drop ((IntKind.i64.wrap (r3 + 1)) : Int).toNat))), 0)
                          else
                            none
                        else
                          none
                      else
                        none
                    )
                  else
                    none
                ) (
                  if (0 : Int) ≤ (IntKind.i64.wrap (r3 + 1)) ∧ ((IntKind.i64.wrap (r3 + 1)) : Int) ≤ p0.2.2.length then
                    agree (
                      if (0 : Int) ≤ r3 ∧ (r3 : Int) ≤ p0.2.2.length then
                        if ([] : List (ByteArray × Int)).length + (p0.2.2.take (r3 : Int).toNat).length < room 24 then
                          if (([] : List (ByteArray × Int)) ++ (p0.2.2.take (r3 : Int).toNat)).length + (p0.2.2.drop ((IntKind.i64.wrap (r3 + 1)) : Int).toNat).length < room 24 then
                            some ((p0.1, (p0.2.1, (([] : List (ByteArray × Int)) ++ (p0.2.2.take (r3 : Int).toNat)) ++ (p0.2.2.drop ((IntKind.i64.wrap (r3 + 1)) : Int).toNat))), 0)
                          else
                            none
                        else
                          none
                      else
                        none
                    ) (
                      if (0 : Int) ≤ r3 ∧ (r3 : Int) ≤ p0.2.2.length then
                        if ([] : List (ByteArray × Int)).length + (p0.2.2.take (r3 : Int).toNat).length < room 24 then
                          if (([] : List (ByteArray × Int)) ++ (p0.2.2.take (r3 : Int).toNat)).length + (p0.2.2.drop ((IntKind.i64.wrap (r3 + 1)) : Int).toNat).length < room 24 then
                            some ((p0.1, (p0.2.1, (([] : List (ByteArray × Int)) ++ (p0.2.2.take (r3 : Int).toNat)) ++ (p0.2.2.drop ((IntKind.i64.wrap (r3 + 1)) : Int).toNat))), 0)
                          else
                            none
                        else
                          none
                      else
                        none
                    )
                  else
                    none
                )
              )
            ) (
              agree (
                agree (
                  agree (
                    if (0 : Int) ≤ r3 ∧ (r3 : Int) ≤ p0.2.2.length then
                      agree (
                        if ([] : List (ByteArray × Int)).length + (p0.2.2.take (r3 : Int).toNat).length < room 24 then
                          if (0 : Int) ≤ (IntKind.i64.wrap (r3 + 1)) ∧ ((IntKind.i64.wrap (r3 + 1)) : Int) ≤ p0.2.2.length then
                            if (([] : List (ByteArray × Int)) ++ (p0.2.2.take (r3 : Int).toNat)).length + (p0.2.2.drop ((IntKind.i64.wrap (r3 + 1)) : Int).toNat).length < room 24 then
                              some ((p0.1, (p0.2.1, (([] : List (ByteArray × Int)) ++ (p0.2.2.take (r3 : Int).toNat)) ++ (p0.2.2.drop ((IntKind.i64.wrap (r3 + 1)) : Int).toNat))), 0)
                            else
                              none
                          else
                            none
                        else
                          none
                      ) (
                        if (0 : Int) ≤ (IntKind.i64.wrap (r3 + 1)) ∧ ((IntKind.i64.wrap (r3 + 1)) : Int) ≤ p0.2.2.length then
                          if ([] : List (ByteArray × Int)).length + (p0.2.2.take (r3 : Int).toNat).length < room 24 then
                            if (([] : List (ByteArray × Int)) ++ (p0.2.2.take (r3 : Int).toNat)).length + (p0.2.2.drop ((IntKind.i64.wrap (r3 + 1)) : Int).toNat).length < room 24 then
                              some ((p0.1, (p0.2.1, (([] : List (ByteArray × Int)) ++ (p0.2.2.take (r3 : Int).toNat)) ++ (p0.2.2.drop ((IntKind.i64.wrap (r3 + 1)) : Int).toNat))), 0)
                            else
                              none
                          else
                            none
                        else
                          none
                      )
                    else
                      none
                  ) (
                    if (0 : Int) ≤ (IntKind.i64.wrap (r3 + 1)) ∧ ((IntKind.i64.wrap (r3 + 1)) : Int) ≤ p0.2.2.length then
                      if (0 : Int) ≤ r3 ∧ (r3 : Int) ≤ p0.2.2.length then
                        if ([] : List (ByteArray × Int)).length + (p0.2.2.take (r3 : Int).toNat).length < room 24 then
                          if (([] : List (ByteArray × Int)) ++ (p0.2.2.take (r3 : Int).toNat)).length + (p0.2.2.drop ((IntKind.i64.wrap (r3 + 1)) : Int).toNat).length < room 24 then
                            some ((p0.1, (p0.2.1, (([] : List (ByteArray × Int)) ++ (p0.2.2.take (r3 : Int).toNat)) ++ (p0.2.2.drop ((IntKind.i64.wrap (r3 + 1)) : Int).toNat))), 0)
                          else
                            none
                        else
                          none
                      else
                        none
                    else
                      none
                  )
                ) (
                  agree (
                    if (0 : Int) ≤ r3 ∧ (r3 : Int) ≤ p0.2.2.length then
                      agree (
                        agree (
                          if ([] : List (ByteArray × Int)).length + (p0.2.2.take (r3 : Int).toNat).length < room 24 then
                            if (0 : Int) ≤ (IntKind.i64.wrap (r3 + 1)) ∧ ((IntKind.i64.wrap (r3 + 1)) : Int) ≤ p0.2.2.length then
                              if (([] : List (ByteArray × Int)) ++ (p0.2.2.take (r3 : Int).toNat)).length + (p0.2.2.drop ((IntKind.i64.wrap (r3 + 1)) : Int).toNat).length < room 24 then
                                some ((p0.1, (p0.2.1, (([] : List (ByteArray × Int)) ++ (p0.2.2.take (r3 : Int).toNat)) ++ (p0.2.2.drop ((IntKind.i64.wrap (r3 + 1)) : Int).toNat))), 0)
                              else
                                none
                            else
                              none
                          else
                            none
                        ) (
                          if (0 : Int) ≤ (IntKind.i64.wrap (r3 + 1)) ∧ ((IntKind.i64.wrap (r3 + 1)) : Int) ≤ p0.2.2.length then
                            if ([] : List (ByteArray × Int)).length + (p0.2.2.take (r3 : Int).toNat).length < room 24 then
                              if (([] : List (ByteArray × Int)) ++ (p0.2.2.take (r3 : Int).toNat)).length + (p0.2.2.drop ((IntKind.i64.wrap (r3 + 1)) : Int).toNat).length < room 24 then
                                some ((p0.1, (p0.2.1, (([] : List (ByteArray × Int)) ++ (p0.2.2.take (r3 : Int).toNat)) ++ (p0.2.2.drop ((IntKind.i64.wrap (r3 + 1)) : Int).toNat))), 0)
                              else
                                none
                            else
                              none
                          else
                            none
                        )
                      ) (
                        agree (
                          if ([] : List (ByteArray × Int)).length + (p0.2.2.take (r3 : Int).toNat).length < room 24 then
                            agree (
                              if (0 : Int) ≤ (IntKind.i64.wrap (r3 + 1)) ∧ ((IntKind.i64.wrap (r3 + 1)) : Int) ≤ p0.2.2.length then
                                if (([] : List (ByteArray × Int)) ++ (p0.2.2.take (r3 : Int).toNat)).length + (p0.2.2.drop ((IntKind.i64.wrap (r3 + 1)) : Int).toNat).length < room 24 then
                                  some ((p0.1, (p0.2.1, (([] : List (ByteArray × Int)) ++ (p0.2.2.take (r3 : Int).toNat)) ++ (p0.2.2.drop ((IntKind.i64.wrap (r3 + 1)) : Int).toNat))), 0)
                                else
                                  none
                              else
                                none
                            ) (
                              if (0 : Int) ≤ (IntKind.i64.wrap (r3 + 1)) ∧ ((IntKind.i64.wrap (r3 + 1)) : Int) ≤ p0.2.2.length then
                                agree (
                                  if (([] : List (ByteArray × Int)) ++ (p0.2.2.take (r3 : Int).toNat)).length + (p0.2.2.drop ((IntKind.i64.wrap (r3 + 1)) : Int).toNat).length < room 24 then
                                    some ((p0.1, (p0.2.1, (([] : List (ByteArray × Int)) ++ (p0.2.2.take (r3 : Int).toNat)) ++ (p0.2.2.drop ((IntKind.i64.wrap (r3 + 1)) : Int).toNat))), 0)
                                  else
                                    none
                                ) (
                                  if (([] : List (ByteArray × Int)) ++ (p0.2.2.take (r3 : Int).toNat)).length + (p0.2.2.drop ((IntKind.i64.wrap (r3 + 1)) : Int).toNat).length < room 24 then
                                    some ((p0.1, (p0.2.1, (([] : List (ByteArray × Int)) ++ (p0.2.2.take (r3 : Int).toNat)) ++ (p0.2.2.drop ((IntKind.i64.wrap (r3 + 1)) : Int).toNat))), 0)
                                  else
                                    none
                                )
                              else
                                none
                            )
                          else
                            none
                        ) (
                          if (0 : Int) ≤ (IntKind.i64.wrap (r3 + 1)) ∧ ((IntKind.i64.wrap (r3 + 1)) : Int) ≤ p0.2.2.length then
                            agree (
                              if ([] : List (ByteArray × Int)).length + (p0.2.2.take (r3 : Int).toNat).length < room 24 then
                                if (([] : List (ByteArray × Int)) ++ (p0.2.2.take (r3 : Int).toNat)).length + (p0.2.2.drop ((IntKind.i64.wrap (r3 + 1)) : Int).toNat).length < room 24 then
                                  some ((p0.1, (p0.2.1, (([] : List (ByteArray × Int)) ++ (p0.2.2.take (r3 : Int).toNat)) ++ (p0.2.2.drop ((IntKind.i64.wrap (r3 + 1)) : Int).toNat))), 0)
                                else
                                  none
                              else
                                none
                            ) (
                              if ([] : List (ByteArray × Int)).length + (p0.2.2.take (r3 : Int).toNat).length < room 24 then
                                agree (
                                  if (([] : List (ByteArray × Int)) ++ (p0.2.2.take (r3 : Int).toNat)).length + (p0.2.2.drop ((IntKind.i64.wrap (r3 + 1)) : Int).toNat).length < room 24 then
                                    some ((p0.1, (p0.2.1, (([] : List (ByteArray × Int)) ++ (p0.2.2.take (r3 : Int).toNat)) ++ (p0.2.2.drop ((IntKind.i64.wrap (r3 + 1)) : Int).toNat))), 0)
                                  else
                                    none
                                ) (
                                  if (([] : List (ByteArray × Int)) ++ (p0.2.2.take (r3 : Int).toNat)).length + (p0.2.2.drop ((IntKind.i64.wrap (r3 + 1)) : Int).toNat).length < room 24 then
                                    some ((p0.1, (p0.2.1, (([] : List (ByteArray × Int)) ++ (p0.2.2.take (r3 : Int).toNat)) ++ (p0.2.2.drop ((IntKind.i64.wrap (r3 + 1)) : Int).toNat))), 0)
                                  else
                                    none
                                )
                              else
                                none
                            )
                          else
                            none
                        )
                      )
                    else
                      none
                  ) (
                    if (0 : Int) ≤ (IntKind.i64.wrap (r3 + 1)) ∧ ((IntKind.i64.wrap (r3 + 1)) : Int) ≤ p0.2.2.length then
                      agree (
                        if (0 : Int) ≤ r3 ∧ (r3 : Int) ≤ p0.2.2.length then
                          if ([] : List (ByteArray × Int)).length + (p0.2.2.take (r3 : Int).toNat).length < room 24 then
                            if (([] : List (ByteArray × Int)) ++ (p0.2.2.take (r3 : Int).toNat)).length + (p0.2.2.drop ((IntKind.i64.wrap (r3 + 1)) : Int).toNat).length < room 24 then
                              some ((p0.1, (p0.2.1, (([] : List (ByteArray × Int)) ++ (p0.2.2.take (r3 : Int).toNat)) ++ (p0.2.2.drop ((IntKind.i64.wrap (r3 + 1)) : Int).toNat))), 0)
                            else
                              none
                          else
                            none
                        else
                          none
                      ) (
                        if (0 : Int) ≤ r3 ∧ (r3 : Int) ≤ p0.2.2.length then
                          agree (
                            if ([] : List (ByteArray × Int)).length + (p0.2.2.take (r3 : Int).toNat).length < room 24 then
                              if (([] : List (ByteArray × Int)) ++ (p0.2.2.take (r3 : Int).toNat)).length + (p0.2.2.drop ((IntKind.i64.wrap (r3 + 1)) : Int).toNat).length < room 24 then
                                some ((p0.1, (p0.2.1, (([] : List (ByteArray × Int)) ++ (p0.2.2.take (r3 : Int).toNat)) ++ (p0.2.2.drop ((IntKind.i64.wrap (r3 + 1)) : Int).toNat))), 0)
                              else
                                none
                            else
                              none
                          ) (
                            if ([] : List (ByteArray × Int)).length + (p0.2.2.take (r3 : Int).toNat).length < room 24 then
                              agree (
                                if (([] : List (ByteArray × Int)) ++ (p0.2.2.take (r3 : Int).toNat)).length + (p0.2.2.drop ((IntKind.i64.wrap (r3 + 1)) : Int).toNat).length < room 24 then
                                  some ((p0.1, (p0.2.1, (([] : List (ByteArray × Int)) ++ (p0.2.2.take (r3 : Int).toNat)) ++ (p0.2.2.drop ((IntKind.i64.wrap (r3 + 1)) : Int).toNat))), 0)
                                else
                                  none
                              ) (
                                if (([] : List (ByteArray × Int)) ++ (p0.2.2.take (r3 : Int).toNat)).length + (p0.2.2.drop ((IntKind.i64.wrap (r3 + 1)) : Int).toNat).length < room 24 then
                                  some ((p0.1, (p0.2.1, (([] : List (ByteArray × Int)) ++ (p0.2.2.take (r3 : Int).toNat)) ++ (p0.2.2.drop ((IntKind.i64.wrap (r3 + 1)) : Int).toNat))), 0)
                                else
                                  none
                              )
                            else
                              none
                          )
                        else
                          none
                      )
                    else
                      none
                  )
                )
              ) (
                agree (
                  if (0 : Int) ≤ r3 ∧ (r3 : Int) ≤ p0.2.2.length then
                    agree (
                      agree (
                        agree (
                          if ([] : List (ByteArray × Int)).length + (p0.2.2.take (r3 : Int).toNat).length < room 24 then
                            if (0 : Int) ≤ (IntKind.i64.wrap (r3 + 1)) ∧ ((IntKind.i64.wrap (r3 + 1)) : Int) ≤ p0.2.2.length then
                              if (([] : List (ByteArray × Int)) ++ (p0.2.2.take (r3 : Int).toNat)).length + (p0.2.2.drop ((IntKind.i64.wrap (r3 + 1)) : Int).toNat).length < room 24 then
                                some ((p0.1, (p0.2.1, (([] : List (ByteArray × Int)) ++ (p0.2.2.take (r3 : Int).toNat)) ++ (p0.2.2.drop ((IntKind.i64.wrap (r3 + 1)) : Int).toNat))), 0)
                              else
                                none
                            else
                              none
                          else
                            none
                        ) (
                          if (0 : Int) ≤ (IntKind.i64.wrap (r3 + 1)) ∧ ((IntKind.i64.wrap (r3 + 1)) : Int) ≤ p0.2.2.length then
                            if ([] : List (ByteArray × Int)).length + (p0.2.2.take (r3 : Int).toNat).length < room 24 then
                              if (([] : List (ByteArray × Int)) ++ (p0.2.2.take (r3 : Int).toNat)).length + (p0.2.2.drop ((IntKind.i64.wrap (r3 + 1)) : Int).toNat).length < room 24 then
                                some ((p0.1, (p0.2.1, (([] : List (ByteArray × Int)) ++ (p0.2.2.take (r3 : Int).toNat)) ++ (p0.2.2.drop ((IntKind.i64.wrap (r3 + 1)) : Int).toNat))), 0)
                              else
                                none
                            else
                              none
                          else
                            none
                        )
                      ) (
                        if (0 : Int) ≤ (IntKind.i64.wrap (r3 + 1)) ∧ ((IntKind.i64.wrap (r3 + 1)) : Int) ≤ p0.2.2.length then
                          if ([] : List (ByteArray × Int)).length + (p0.2.2.take (r3 : Int).toNat).length < room 24 then
                            if (([] : List (ByteArray × Int)) ++ (p0.2.2.take (r3 : Int).toNat)).length + (p0.2.2.drop ((IntKind.i64.wrap (r3 + 1)) : Int).toNat).length < room 24 then
                              some ((p0.1, (p0.2.1, (([] : List (ByteArray × Int)) ++ (p0.2.2.take (r3 : Int).toNat)) ++ (p0.2.2.drop ((IntKind.i64.wrap (r3 + 1)) : Int).toNat))), 0)
                            else
                              none
                          else
                            none
                        else
                          none
                      )
                    ) (
                      agree (
                        agree (
                          agree (
                            if ([] : List (ByteArray × Int)).length + (p0.2.2.take (r3 : Int).toNat).length < room 24 then
                              if (0 : Int) ≤ (IntKind.i64.wrap (r3 + 1)) ∧ ((IntKind.i64.wrap (r3 + 1)) : Int) ≤ p0.2.2.length then
                                if (([] : List (ByteArray × Int)) ++ (p0.2.2.take (r3 : Int).toNat)).length + (p0.2.2.drop ((IntKind.i64.wrap (r3 + 1)) : Int).toNat).length < room 24 then
                                  some ((p0.1, (p0.2.1, (([] : List (ByteArray × Int)) ++ (p0.2.2.take (r3 : Int).toNat)) ++ (p0.2.2.drop ((IntKind.i64.wrap (r3 + 1)) : Int).toNat))), 0)
                                else
                                  none
                              else
                                none
                            else
                              none
                          ) (
                            if (0 : Int) ≤ (IntKind.i64.wrap (r3 + 1)) ∧ ((IntKind.i64.wrap (r3 + 1)) : Int) ≤ p0.2.2.length then
                              if ([] : List (ByteArray × Int)).length + (p0.2.2.take (r3 : Int).toNat).length < room 24 then
                                if (([] : List (ByteArray × Int)) ++ (p0.2.2.take (r3 : Int).toNat)).length + (p0.2.2.drop ((IntKind.i64.wrap (r3 + 1)) : Int).toNat).length < room 24 then
                                  some ((p0.1, (p0.2.1, (([] : List (ByteArray × Int)) ++ (p0.2.2.take (r3 : Int).toNat)) ++ (p0.2.2.drop ((IntKind.i64.wrap (r3 + 1)) : Int).toNat))), 0)
                                else
                                  none
                              else
                                none
                            else
                              none
                          )
                        ) (
                          agree (
                            if ([] : List (ByteArray × Int)).length + (p0.2.2.take (r3 : Int).toNat).length < room 24 then
                              agree (
                                if (0 : Int) ≤ (IntKind.i64.wrap (r3 + 1)) ∧ ((IntKind.i64.wrap (r3 + 1)) : Int) ≤ p0.2.2.length then
                                  if (([] : List (ByteArray × Int)) ++ (p0.2.2.take (r3 : Int).toNat)).length + (p0.2.2.drop ((IntKind.i64.wrap (r3 + 1)) : Int).toNat).length < room 24 then
                                    some ((p0.1, (p0.2.1, (([] : List (ByteArray × Int)) ++ (p0.2.2.take (r3 : Int).toNat)) ++ (p0.2.2.drop ((IntKind.i64.wrap (r3 + 1)) : Int).toNat))), 0)
                                  else
                                    none
                                else
                                  none
                              ) (
                                if (0 : Int) ≤ (IntKind.i64.wrap (r3 + 1)) ∧ ((IntKind.i64.wrap (r3 + 1)) : Int) ≤ p0.2.2.length then
                                  agree (
                                    if (([] : List (ByteArray × Int)) ++ (p0.2.2.take (r3 : Int).toNat)).length + (p0.2.2.drop ((IntKind.i64.wrap (r3 + 1)) : Int).toNat).length < room 24 then
                                      some ((p0.1, (p0.2.1, (([] : List (ByteArray × Int)) ++ (p0.2.2.take (r3 : Int).toNat)) ++ (p0.2.2.drop ((IntKind.i64.wrap (r3 + 1)) : Int).toNat))), 0)
                                    else
                                      none
                                  ) (
                                    if (([] : List (ByteArray × Int)) ++ (p0.2.2.take (r3 : Int).toNat)).length + (p0.2.2.drop ((IntKind.i64.wrap (r3 + 1)) : Int).toNat).length < room 24 then
                                      some ((p0.1, (p0.2.1, (([] : List (ByteArray × Int)) ++ (p0.2.2.take (r3 : Int).toNat)) ++ (p0.2.2.drop ((IntKind.i64.wrap (r3 + 1)) : Int).toNat))), 0)
                                    else
                                      none
                                  )
                                else
                                  none
                              )
                            else
                              none
                          ) (
                            if (0 : Int) ≤ (IntKind.i64.wrap (r3 + 1)) ∧ ((IntKind.i64.wrap (r3 + 1)) : Int) ≤ p0.2.2.length then
                              agree (
                                if ([] : List (ByteArray × Int)).length + (p0.2.2.take (r3 : Int).toNat).length < room 24 then
                                  if (([] : List (ByteArray × Int)) ++ (p0.2.2.take (r3 : Int).toNat)).length + (p0.2.2.drop ((IntKind.i64.wrap (r3 + 1)) : Int).toNat).length < room 24 then
                                    some ((p0.1, (p0.2.1, (([] : List (ByteArray × Int)) ++ (p0.2.2.take (r3 : Int).toNat)) ++ (p0.2.2.drop ((IntKind.i64.wrap (r3 + 1)) : Int).toNat))), 0)
                                  else
                                    none
                                else
                                  none
                              ) (
                                if ([] : List (ByteArray × Int)).length + (p0.2.2.take (r3 : Int).toNat).length < room 24 then
                                  agree (
                                    if (([] : List (ByteArray × Int)) ++ (p0.2.2.take (r3 : Int).toNat)).length + (p0.2.2.drop ((IntKind.i64.wrap (r3 + 1)) : Int).toNat).length < room 24 then
                                      some ((p0.1, (p0.2.1, (([] : List (ByteArray × Int)) ++ (p0.2.2.take (r3 : Int).toNat)) ++ (p0.2.2.drop ((IntKind.i64.wrap (r3 + 1)) : Int).toNat))), 0)
                                    else
                                      none
                                  ) (
                                    if (([] : List (ByteArray × Int)) ++ (p0.2.2.take (r3 : Int).toNat)).length + (p0.2.2.drop ((IntKind.i64.wrap (r3 + 1)) : Int).toNat).length < room 24 then
                                      some ((p0.1, (p0.2.1, (([] : List (ByteArray × Int)) ++ (p0.2.2.take (r3 : Int).toNat)) ++ (p0.2.2.drop ((IntKind.i64.wrap (r3 + 1)) : Int).toNat))), 0)
                                    else
                                      none
                                  )
                                else
                                  none
                              )
                            else
                              none
                          )
                        )
                      ) (
                        if (0 : Int) ≤ (IntKind.i64.wrap (r3 + 1)) ∧ ((IntKind.i64.wrap (r3 + 1)) : Int) ≤ p0.2.2.length then
                          agree (
                            if ([] : List (ByteArray × Int)).length + (p0.2.2.take (r3 : Int).toNat).length < room 24 then
                              if (([] : List (ByteArray × Int)) ++ (p0.2.2.take (r3 : Int).toNat)).length + (p0.2.2.drop ((IntKind.i64.wrap (r3 + 1)) : Int).toNat).length < room 24 then
                                some ((p0.1, (p0.2.1, (([] : List (ByteArray × Int)) ++ (p0.2.2.take (r3 : Int).toNat)) ++ (p0.2.2.drop ((IntKind.i64.wrap (r3 + 1)) : Int).toNat))), 0)
                              else
                                none
                            else
                              none
                          ) (
                            agree (
                              if ([] : List (ByteArray × Int)).length + (p0.2.2.take (r3 : Int).toNat).length < room 24 then
                                if (([] : List (ByteArray × Int)) ++ (p0.2.2.take (r3 : Int).toNat)).length + (p0.2.2.drop ((IntKind.i64.wrap (r3 + 1)) : Int).toNat).length < room 24 then
                                  some ((p0.1, (p0.2.1, (([] : List (ByteArray × Int)) ++ (p0.2.2.take (r3 : Int).toNat)) ++ (p0.2.2.drop ((IntKind.i64.wrap (r3 + 1)) : Int).toNat))), 0)
                                else
                                  none
                              else
                                none
                            ) (
                              if ([] : List (ByteArray × Int)).length + (p0.2.2.take (r3 : Int).toNat).length < room 24 then
                                agree (
                                  if (([] : List (ByteArray × Int)) ++ (p0.2.2.take (r3 : Int).toNat)).length + (p0.2.2.drop ((IntKind.i64.wrap (r3 + 1)) : Int).toNat).length < room 24 then
                                    some ((p0.1, (p0.2.1, (([] : List (ByteArray × Int)) ++ (p0.2.2.take (r3 : Int).toNat)) ++ (p0.2.2.drop ((IntKind.i64.wrap (r3 + 1)) : Int).toNat))), 0)
                                  else
                                    none
                                ) (
                                  if (([] : List (ByteArray × Int)) ++ (p0.2.2.take (r3 : Int).toNat)).length + (p0.2.2.drop ((IntKind.i64.wrap (r3 + 1)) : Int).toNat).length < room 24 then
                                    some ((p0.1, (p0.2.1, (([] : List (ByteArray × Int)) ++ (p0.2.2.take (r3 : Int).toNat)) ++ (p0.2.2.drop ((IntKind.i64.wrap (r3 + 1)) : Int).toNat))), 0)
                                  else
                                    none
                                )
                              else
                                none
                            )
                          )
                        else
                          none
                      )
                    )
                  else
                    none
                ) (
                  if (0 : Int) ≤ (IntKind.i64.wrap (r3 + 1)) ∧ ((IntKind.i64.wrap (r3 + 1)) : Int) ≤ p0.2.2.length then
                    agree (
                      agree (
                        if (0 : Int) ≤ r3 ∧ (r3 : Int) ≤ p0.2.2.length then
                          if ([] : List (ByteArray × Int)).length + (p0.2.2.take (r3 : Int).toNat).length < room 24 then
                            if (([] : List (ByteArray × Int)) ++ (p0.2.2.take (r3 : Int).toNat)).length + (p0.2.2.drop ((IntKind.i64.wrap (r3 + 1)) : Int).toNat).length < room 24 then
                              some ((p0.1, (p0.2.1, (([] : List (ByteArray × Int)) ++ (p0.2.2.take (r3 : Int).toNat)) ++ (p0.2.2.drop ((IntKind.i64.wrap (r3 + 1)) : Int).toNat))), 0)
                            else
                              none
                          else
                            none
                        else
                          none
                      ) (
                        if (0 : Int) ≤ r3 ∧ (r3 : Int) ≤ p0.2.2.length then
                          if ([] : List (ByteArray × Int)).length + (p0.2.2.take (r3 : Int).toNat).length < room 24 then
                            if (([] : List (ByteArray × Int)) ++ (p0.2.2.take (r3 : Int).toNat)).length + (p0.2.2.drop ((IntKind.i64.wrap (r3 + 1)) : Int).toNat).length < room 24 then
                              some ((p0.1, (p0.2.1, (([] : List (ByteArray × Int)) ++ (p0.2.2.take (r3 : Int).toNat)) ++ (p0.2.2.drop ((IntKind.i64.wrap (r3 + 1)) : Int).toNat))), 0)
                            else
                              none
                          else
                            none
                        else
                          none
                      )
                    ) (
                      agree (
                        agree (
                          if (0 : Int) ≤ r3 ∧ (r3 : Int) ≤ p0.2.2.length then
                            if ([] : List (ByteArray × Int)).length + (p0.2.2.take (r3 : Int).toNat).length < room 24 then
                              if (([] : List (ByteArray × Int)) ++ (p0.2.2.take (r3 : Int).toNat)).length + (p0.2.2.drop ((IntKind.i64.wrap (r3 + 1)) : Int).toNat).length < room 24 then
                                some ((p0.1, (p0.2.1, (([] : List (ByteArray × Int)) ++ (p0.2.2.take (r3 : Int).toNat)) ++ (p0.2.2.drop ((IntKind.i64.wrap (r3 + 1)) : Int).toNat))), 0)
                              else
                                none
                            else
                              none
                          else
                            none
                        ) (
                          if (0 : Int) ≤ r3 ∧ (r3 : Int) ≤ p0.2.2.length then
                            agree (
                              if ([] : List (ByteArray × Int)).length + (p0.2.2.take (r3 : Int).toNat).length < room 24 then
                                if (([] : List (ByteArray × Int)) ++ (p0.2.2.take (r3 : Int).toNat)).length + (p0.2.2.drop ((IntKind.i64.wrap (r3 + 1)) : Int).toNat).length < room 24 then
                                  some ((p0.1, (p0.2.1, (([] : List (ByteArray × Int)) ++ (p0.2.2.take (r3 : Int).toNat)) ++ (p0.2.2.drop ((IntKind.i64.wrap (r3 + 1)) : Int).toNat))), 0)
                                else
                                  none
                              else
                                none
                            ) (
                              if ([] : List (ByteArray × Int)).length + (p0.2.2.take (r3 : Int).toNat).length < room 24 then
                                agree (
                                  if (([] : List (ByteArray × Int)) ++ (p0.2.2.take (r3 : Int).toNat)).length + (p0.2.2.drop ((IntKind.i64.wrap (r3 + 1)) : Int).toNat).length < room 24 then
                                    some ((p0.1, (p0.2.1, (([] : List (ByteArray × Int)) ++ (p0.2.2.take (r3 : Int).toNat)) ++ (p0.2.2.drop ((IntKind.i64.wrap (r3 + 1)) : Int).toNat))), 0)
                                  else
                                    none
                                ) (
                                  if (([] : List (ByteArray × Int)) ++ (p0.2.2.take (r3 : Int).toNat)).length + (p0.2.2.drop ((IntKind.i64.wrap (r3 + 1)) : Int).toNat).length < room 24 then
                                    some ((p0.1, (p0.2.1, (([] : List (ByteArray × Int)) ++ (p0.2.2.take (r3 : Int).toNat)) ++ (p0.2.2.drop ((IntKind.i64.wrap (r3 + 1)) : Int).toNat))), 0)
                                  else
                                    none
                                )
                              else
                                none
                            )
                          else
                            none
                        )
                      ) (
                        if (0 : Int) ≤ r3 ∧ (r3 : Int) ≤ p0.2.2.length then
                          agree (
                            if ([] : List (ByteArray × Int)).length + (p0.2.2.take (r3 : Int).toNat).length < room 24 then
                              if (([] : List (ByteArray × Int)) ++ (p0.2.2.take (r3 : Int).toNat)).length + (p0.2.2.drop ((IntKind.i64.wrap (r3 + 1)) : Int).toNat).length < room 24 then
                                some ((p0.1, (p0.2.1, (([] : List (ByteArray × Int)) ++ (p0.2.2.take (r3 : Int).toNat)) ++ (p0.2.2.drop ((IntKind.i64.wrap (r3 + 1)) : Int).toNat))), 0)
                              else
                                none
                            else
                              none
                          ) (
                            agree (
                              if ([] : List (ByteArray × Int)).length + (p0.2.2.take (r3 : Int).toNat).length < room 24 then
                                if (([] : List (ByteArray × Int)) ++ (p0.2.2.take (r3 : Int).toNat)).length + (p0.2.2.drop ((IntKind.i64.wrap (r3 + 1)) : Int).toNat).length < room 24 then
                                  some ((p0.1, (p0.2.1, (([] : List (ByteArray × Int)) ++ (p0.2.2.take (r3 : Int).toNat)) ++ (p0.2.2.drop ((IntKind.i64.wrap (r3 + 1)) : Int).toNat))), 0)
                                else
                                  none
                              else
                                none
                            ) (
                              if ([] : List (ByteArray × Int)).length + (p0.2.2.take (r3 : Int).toNat).length < room 24 then
                                agree (
                                  if (([] : List (ByteArray × Int)) ++ (p0.2.2.take (r3 : Int).toNat)).length + (p0.2.2.drop ((IntKind.i64.wrap (r3 + 1)) : Int).toNat).length < room 24 then
                                    some ((p0.1, (p0.2.1, (([] : List (ByteArray × Int)) ++ (p0.2.2.take (r3 : Int).toNat)) ++ (p0.2.2.drop ((IntKind.i64.wrap (r3 + 1)) : Int).toNat))), 0)
                                  else
                                    none
                                ) (
                                  if (([] : List (ByteArray × Int)) ++ (p0.2.2.take (r3 : Int).toNat)).length + (p0.2.2.drop ((IntKind.i64.wrap (r3 + 1)) : Int).toNat).length < room 24 then
                                    some ((p0.1, (p0.2.1, (([] : List (ByteArray × Int)) ++ (p0.2.2.take (r3 : Int).toNat)) ++ (p0.2.2.drop ((IntKind.i64.wrap (r3 + 1)) : Int).toNat))), 0)
                                  else
                                    none
                                )
                              else
                                none
                            )
                          )
                        else
                          none
                      )
                    )
                  else
                    none
                )
              )
            )
          ) (
            agree (
              agree (
                agree (
                  agree (
                    if (0 : Int) ≤ r3 ∧ (r3 : Int) ≤ p0.2.2.length then
                      agree (
                        if ([] : List (ByteArray × Int)).length + (p0.2.2.take (r3 : Int).toNat).length < room 24 then
                          if (0 : Int) ≤ (IntKind.i64.wrap (r3 + 1)) ∧ ((IntKind.i64.wrap (r3 + 1)) : Int) ≤ p0.2.2.length then
                            if (([] : List (ByteArray × Int)) ++ (p0.2.2.take (r3 : Int).toNat)).length + (p0.2.2.drop ((IntKind.i64.wrap (r3 + 1)) : Int).toNat).length < room 24 then
                              some ((p0.1, (p0.2.1, (([] : List (ByteArray × Int)) ++ (p0.2.2.take (r3 : Int).toNat)) ++ (p0.2.2.drop ((IntKind.i64.wrap (r3 + 1)) : Int).toNat))), 0)
                            else
                              none
                          else
                            none
                        else
                          none
                      ) (
                        if (0 : Int) ≤ (IntKind.i64.wrap (r3 + 1)) ∧ ((IntKind.i64.wrap (r3 + 1)) : Int) ≤ p0.2.2.length then
                          if ([] : List (ByteArray × Int)).length + (p0.2.2.take (r3 : Int).toNat).length < room 24 then
                            if (([] : List (ByteArray × Int)) ++ (p0.2.2.take (r3 : Int).toNat)).length + (p0.2.2.drop ((IntKind.i64.wrap (r3 + 1)) : Int).toNat).length < room 24 then
                              some ((p0.1, (p0.2.1, (([] : List (ByteArray × Int)) ++ (p0.2.2.take (r3 : Int).toNat)) ++ (p0.2.2.drop ((IntKind.i64.wrap (r3 + 1)) : Int).toNat))), 0)
                            else
                              none
                          else
                            none
                        else
                          none
                      )
                    else
                      none
                  ) (
                    if (0 : Int) ≤ (IntKind.i64.wrap (r3 + 1)) ∧ ((IntKind.i64.wrap (r3 + 1)) : Int) ≤ p0.2.2.length then
                      if (0 : Int) ≤ r3 ∧ (r3 : Int) ≤ p0.2.2.length then
                        if ([] : List (ByteArray × Int)).length + (p0.2.2.take (r3 : Int).toNat).length < room 24 then
                          if (([] : List (ByteArray × Int)) ++ (p0.2.2.take (r3 : Int).toNat)).length + (p0.2.2.drop ((IntKind.i64.wrap (r3 + 1)) : Int).toNat).length < room 24 then
                            some ((p0.1, (p0.2.1, (([] : List (ByteArray × Int)) ++ (p0.2.2.take (r3 : Int).toNat)) ++ (p0.2.2.drop ((IntKind.i64.wrap (r3 + 1)) : Int).toNat))), 0)
                          else
                            none
                        else
                          none
                      else
                        none
                    else
                      none
                  )
                ) (
                  agree (
                    if (0 : Int) ≤ r3 ∧ (r3 : Int) ≤ p0.2.2.length then
                      agree (
                        agree (
                          if ([] : List (ByteArray × Int)).length + (p0.2.2.take (r3 : Int).toNat).length < room 24 then
                            if (0 : Int) ≤ (IntKind.i64.wrap (r3 + 1)) ∧ ((IntKind.i64.wrap (r3 + 1)) : Int) ≤ p0.2.2.length then
                              if (([] : List (ByteArray × Int)) ++ (p0.2.2.take (r3 : Int).toNat)).length + (p0.2.2.drop ((IntKind.i64.wrap (r3 + 1)) : Int).toNat).length < room 24 then
                                some ((p0.1, (p0.2.1, (([] : List (ByteArray × Int)) ++ (p0.2.2.take (r3 : Int).toNat)) ++ (p0.2.2.drop ((IntKind.i64.wrap (r3 + 1)) : Int).toNat))), 0)
                              else
                                none
                            else
                              none
                          else
                            none
                        ) (
                          if (0 : Int) ≤ (IntKind.i64.wrap (r3 + 1)) ∧ ((IntKind.i64.wrap (r3 + 1)) : Int) ≤ p0.2.2.length then
                            if ([] : List (ByteArray × Int)).length + (p0.2.2.take (r3 : Int).toNat).length < room 24 then
                              if (([] : List (ByteArray × Int)) ++ (p0.2.2.take (r3 : Int).toNat)).length + (p0.2.2.drop ((IntKind.i64.wrap (r3 + 1)) : Int).toNat).length < room 24 then
                                some ((p0.1, (p0.2.1, (([] : List (ByteArray × Int)) ++ (p0.2.2.take (r3 : Int).toNat)) ++ (p0.2.2.drop ((IntKind.i64.wrap (r3 + 1)) : Int).toNat))), 0)
                              else
                                none
                            else
                              none
                          else
                            none
                        )
                      ) (
                        agree (
                          if ([] : List (ByteArray × Int)).length + (p0.2.2.take (r3 : Int).toNat).length < room 24 then
                            agree (
                              if (0 : Int) ≤ (IntKind.i64.wrap (r3 + 1)) ∧ ((IntKind.i64.wrap (r3 + 1)) : Int) ≤ p0.2.2.length then
                                if (([] : List (ByteArray × Int)) ++ (p0.2.2.take (r3 : Int).toNat)).length + (p0.2.2.drop ((IntKind.i64.wrap (r3 + 1)) : Int).toNat).length < room 24 then
                                  some ((p0.1, (p0.2.1, (([] : List (ByteArray × Int)) ++ (p0.2.2.take (r3 : Int).toNat)) ++ (p0.2.2.drop ((IntKind.i64.wrap (r3 + 1)) : Int).toNat))), 0)
                                else
                                  none
                              else
                                none
                            ) (
                              if (0 : Int) ≤ (IntKind.i64.wrap (r3 + 1)) ∧ ((IntKind.i64.wrap (r3 + 1)) : Int) ≤ p0.2.2.length then
                                agree (
                                  if (([] : List (ByteArray × Int)) ++ (p0.2.2.take (r3 : Int).toNat)).length + (p0.2.2.drop ((IntKind.i64.wrap (r3 + 1)) : Int).toNat).length < room 24 then
                                    some ((p0.1, (p0.2.1, (([] : List (ByteArray × Int)) ++ (p0.2.2.take (r3 : Int).toNat)) ++ (p0.2.2.drop ((IntKind.i64.wrap (r3 + 1)) : Int).toNat))), 0)
                                  else
                                    none
                                ) (
                                  if (([] : List (ByteArray × Int)) ++ (p0.2.2.take (r3 : Int).toNat)).length + (p0.2.2.drop ((IntKind.i64.wrap (r3 + 1)) : Int).toNat).length < room 24 then
                                    some ((p0.1, (p0.2.1, (([] : List (ByteArray × Int)) ++ (p0.2.2.take (r3 : Int).toNat)) ++ (p0.2.2.drop ((IntKind.i64.wrap (r3 + 1)) : Int).toNat))), 0)
                                  else
                                    none
                                )
                              else
                                none
                            )
                          else
                            none
                        ) (
                          if (0 : Int) ≤ (IntKind.i64.wrap (r3 + 1)) ∧ ((IntKind.i64.wrap (r3 + 1)) : Int) ≤ p0.2.2.length then
                            agree (
                              if ([] : List (ByteArray × Int)).length + (p0.2.2.take (r3 : Int).toNat).length < room 24 then
                                if (([] : List (ByteArray × Int)) ++ (p0.2.2.take (r3 : Int).toNat)).length + (p0.2.2.drop ((IntKind.i64.wrap (r3 + 1)) : Int).toNat).length < room 24 then
                                  some ((p0.1, (p0.2.1, (([] : List (ByteArray × Int)) ++ (p0.2.2.take (r3 : Int).toNat)) ++ (p0.2.2.drop ((IntKind.i64.wrap (r3 + 1)) : Int).toNat))), 0)
                                else
                                  none
                              else
                                none
                            ) (
                              if ([] : List (ByteArray × Int)).length + (p0.2.2.take (r3 : Int).toNat).length < room 24 then
                                agree (
                                  if (([] : List (ByteArray × Int)) ++ (p0.2.2.take (r3 : Int).toNat)).length + (p0.2.2.drop ((IntKind.i64.wrap (r3 + 1)) : Int).toNat).length < room 24 then
                                    some ((p0.1, (p0.2.1, (([] : List (ByteArray × Int)) ++ (p0.2.2.take (r3 : Int).toNat)) ++ (p0.2.2.drop ((IntKind.i64.wrap (r3 + 1)) : Int).toNat))), 0)
                                  else
                                    none
                                ) (
                                  if (([] : List (ByteArray × Int)) ++ (p0.2.2.take (r3 : Int).toNat)).length + (p0.2.2.drop ((IntKind.i64.wrap (r3 + 1)) : Int).toNat).length < room 24 then
                                    some ((p0.1, (p0.2.1, (([] : List (ByteArray × Int)) ++ (p0.2.2.take (r3 : Int).toNat)) ++ (p0.2.2.drop ((IntKind.i64.wrap (r3 + 1)) : Int).toNat))), 0)
                                  else
                                    none
                                )
                              else
                                none
                            )
                          else
                            none
                        )
                      )
                    else
                      none
                  ) (
                    if (0 : Int) ≤ (IntKind.i64.wrap (r3 + 1)) ∧ ((IntKind.i64.wrap (r3 + 1)) : Int) ≤ p0.2.2.length then
                      agree (
                        if (0 : Int) ≤ r3 ∧ (r3 : Int) ≤ p0.2.2.length then
                          if ([] : List (ByteArray × Int)).length + (p0.2.2.take (r3 : Int).toNat).length < room 24 then
                            if (([] : List (ByteArray × Int)) ++ (p0.2.2.take (r3 : Int).toNat)).length + (p0.2.2.drop ((IntKind.i64.wrap (r3 + 1)) : Int).toNat).length < room 24 then
                              some ((p0.1, (p0.2.1, (([] : List (ByteArray × Int)) ++ (p0.2.2.take (r3 : Int).toNat)) ++ (p0.2.2.drop ((IntKind.i64.wrap (r3 + 1)) : Int).toNat))), 0)
                            else
                              none
                          else
                            none
                        else
                          none
                      ) (
                        if (0 : Int) ≤ r3 ∧ (r3 : Int) ≤ p0.2.2.length then
                          agree (
                            if ([] : List (ByteArray × Int)).length + (p0.2.2.take (r3 : Int).toNat).length < room 24 then
                              if (([] : List (ByteArray × Int)) ++ (p0.2.2.take (r3 : Int).toNat)).length + (p0.2.2.drop ((IntKind.i64.wrap (r3 + 1)) : Int).toNat).length < room 24 then
                                some ((p0.1, (p0.2.1, (([] : List (ByteArray × Int)) ++ (p0.2.2.take (r3 : Int).toNat)) ++ (p0.2.2.drop ((IntKind.i64.wrap (r3 + 1)) : Int).toNat))), 0)
                              else
                                none
                            else
                              none
                          ) (
                            if ([] : List (ByteArray × Int)).length + (p0.2.2.take (r3 : Int).toNat).length < room 24 then
                              agree (
                                if (([] : List (ByteArray × Int)) ++ (p0.2.2.take (r3 : Int).toNat)).length + (p0.2.2.drop ((IntKind.i64.wrap (r3 + 1)) : Int).toNat).length < room 24 then
                                  some ((p0.1, (p0.2.1, (([] : List (ByteArray × Int)) ++ (p0.2.2.take (r3 : Int).toNat)) ++ (p0.2.2.drop ((IntKind.i64.wrap (r3 + 1)) : Int).toNat))), 0)
                                else
                                  none
                              ) (
                                if (([] : List (ByteArray × Int)) ++ (p0.2.2.take (r3 : Int).toNat)).length + (p0.2.2.drop ((IntKind.i64.wrap (r3 + 1)) : Int).toNat).length < room 24 then
                                  some ((p0.1, (p0.2.1, (([] : List (ByteArray × Int)) ++ (p0.2.2.take (r3 : Int).toNat)) ++ (p0.2.2.drop ((IntKind.i64.wrap (r3 + 1)) : Int).toNat))), 0)
                                else
                                  none
                              )
                            else
                              none
                          )
                        else
                          none
                      )
                    else
                      none
                  )
                )
              ) (
                agree (
                  agree (
                    agree (
                      if (0 : Int) ≤ r3 ∧ (r3 : Int) ≤ p0.2.2.length then
                        agree (
                          if ([] : List (ByteArray × Int)).length + (p0.2.2.take (r3 : Int).toNat).length < room 24 then
                            if (0 : Int) ≤ (IntKind.i64.wrap (r3 + 1)) ∧ ((IntKind.i64.wrap (r3 + 1)) : Int) ≤ p0.2.2.length then
                              if (([] : List (ByteArray × Int)) ++ (p0.2.2.take (r3 : Int).toNat)).length + (p0.2.2.drop ((IntKind.i64.wrap (r3 + 1)) : Int).toNat).length < room 24 then
                                some ((p0.1, (p0.2.1, (([] : List (ByteArray × Int)) ++ (p0.2.2.take (r3 : Int).toNat)) ++ (p0.2.2.drop ((IntKind.i64.wrap (r3 + 1)) : Int).toNat))), 0)
                              else
                                none
                            else
                              none
                          else
                            none
                        ) (
                          if (0 : Int) ≤ (IntKind.i64.wrap (r3 + 1)) ∧ ((IntKind.i64.wrap (r3 + 1)) : Int) ≤ p0.2.2.length then
                            if ([] : List (ByteArray × Int)).length + (p0.2.2.take (r3 : Int).toNat).length < room 24 then
                              if (([] : List (ByteArray × Int)) ++ (p0.2.2.take (r3 : Int).toNat)).length + (p0.2.2.drop ((IntKind.i64.wrap (r3 + 1)) : Int).toNat).length < room 24 then
                                some ((p0.1, (p0.2.1, (([] : List (ByteArray × Int)) ++ (p0.2.2.take (r3 : Int).toNat)) ++ (p0.2.2.drop ((IntKind.i64.wrap (r3 + 1)) : Int).toNat))), 0)
                              else
                                none
                            else
                              none
                          else
                            none
                        )
                      else
                        none
                    ) (
                      if (0 : Int) ≤ (IntKind.i64.wrap (r3 + 1)) ∧ ((IntKind.i64.wrap (r3 + 1)) : Int) ≤ p0.2.2.length then
                        if (0 : Int) ≤ r3 ∧ (r3 : Int) ≤ p0.2.2.length then
                          if ([] : List (ByteArray × Int)).length + (p0.2.2.take (r3 : Int).toNat).length < room 24 then
                            if (([] : List (ByteArray × Int)) ++ (p0.2.2.take (r3 : Int).toNat)).length + (p0.2.2.drop ((IntKind.i64.wrap (r3 + 1)) : Int).toNat).length < room 24 then
                              some ((p0.1, (p0.2.1, (([] : List (ByteArray × Int)) ++ (p0.2.2.take (r3 : Int).toNat)) ++ (p0.2.2.drop ((IntKind.i64.wrap (r3 + 1)) : Int).toNat))), 0)
                            else
                              none
                          else
                            none
                        else
                          none
                      else
                        none
                    )
                  ) (
                    agree (
                      if (0 : Int) ≤ r3 ∧ (r3 : Int) ≤ p0.2.2.length then
                        agree (
                          agree (
                            if ([] : List (ByteArray × Int)).length + (p0.2.2.take (r3 : Int).toNat).length < room 24 then
                              if (0 : Int) ≤ (IntKind.i64.wrap (r3 + 1)) ∧ ((IntKind.i64.wrap (r3 + 1)) : Int) ≤ p0.2.2.length then
                                if (([] : List (ByteArray × Int)) ++ (p0.2.2.take (r3 : Int).toNat)).length + (p0.2.2.drop ((IntKind.i64.wrap (r3 + 1)) : Int).toNat).length < room 24 then
                                  some ((p0.1, (p0.2.1, (([] : List (ByteArray × Int)) ++ (p0.2.2.take (r3 : Int).toNat)) ++ (p0.2.2.drop ((IntKind.i64.wrap (r3 + 1)) : Int).toNat))), 0)
                                else
                                  none
                              else
                                none
                            else
                              none
                          ) (
                            if (0 : Int) ≤ (IntKind.i64.wrap (r3 + 1)) ∧ ((IntKind.i64.wrap (r3 + 1)) : Int) ≤ p0.2.2.length then
                              if ([] : List (ByteArray × Int)).length + (p0.2.2.take (r3 : Int).toNat).length < room 24 then
                                if (([] : List (ByteArray × Int)) ++ (p0.2.2.take (r3 : Int).toNat)).length + (p0.2.2.drop ((IntKind.i64.wrap (r3 + 1)) : Int).toNat).length < room 24 then
                                  some ((p0.1, (p0.2.1, (([] : List (ByteArray × Int)) ++ (p0.2.2.take (r3 : Int).toNat)) ++ (p0.2.2.drop ((IntKind.i64.wrap (r3 + 1)) : Int).toNat))), 0)
                                else
                                  none
                              else
                                none
                            else
                              none
                          )
                        ) (
                          agree (
                            if ([] : List (ByteArray × Int)).length + (p0.2.2.take (r3 : Int).toNat).length < room 24 then
                              agree (
                                if (0 : Int) ≤ (IntKind.i64.wrap (r3 + 1)) ∧ ((IntKind.i64.wrap (r3 + 1)) : Int) ≤ p0.2.2.length then
                                  if (([] : List (ByteArray × Int)) ++ (p0.2.2.take (r3 : Int).toNat)).length + (p0.2.2.drop ((IntKind.i64.wrap (r3 + 1)) : Int).toNat).length < room 24 then
                                    some ((p0.1, (p0.2.1, (([] : List (ByteArray × Int)) ++ (p0.2.2.take (r3 : Int).toNat)) ++ (p0.2.2.drop ((IntKind.i64.wrap (r3 + 1)) : Int).toNat))), 0)
                                  else
                                    none
                                else
                                  none
                              ) (
                                if (0 : Int) ≤ (IntKind.i64.wrap (r3 + 1)) ∧ ((IntKind.i64.wrap (r3 + 1)) : Int) ≤ p0.2.2.length then
                                  agree (
                                    if (([] : List (ByteArray × Int)) ++ (p0.2.2.take (r3 : Int).toNat)).length + (p0.2.2.drop ((IntKind.i64.wrap (r3 + 1)) : Int).toNat).length < room 24 then
                                      some ((p0.1, (p0.2.1, (([] : List (ByteArray × Int)) ++ (p0.2.2.take (r3 : Int).toNat)) ++ (p0.2.2.drop ((IntKind.i64.wrap (r3 + 1)) : Int).toNat))), 0)
                                    else
                                      none
                                  ) (
                                    if (([] : List (ByteArray × Int)) ++ (p0.2.2.take (r3 : Int).toNat)).length + (p0.2.2.drop ((IntKind.i64.wrap (r3 + 1)) : Int).toNat).length < room 24 then
                                      some ((p0.1, (p0.2.1, (([] : List (ByteArray × Int)) ++ (p0.2.2.take (r3 : Int).toNat)) ++ (p0.2.2.drop ((IntKind.i64.wrap (r3 + 1)) : Int).toNat))), 0)
                                    else
                                      none
                                  )
                                else
                                  none
                              )
                            else
                              none
                          ) (
                            if (0 : Int) ≤ (IntKind.i64.wrap (r3 + 1)) ∧ ((IntKind.i64.wrap (r3 + 1)) : Int) ≤ p0.2.2.length then
                              agree (
                                if ([] : List (ByteArray × Int)).length + (p0.2.2.take (r3 : Int).toNat).length < room 24 then
                                  if (([] : List (ByteArray × Int)) ++ (p0.2.2.take (r3 : Int).toNat)).length + (p0.2.2.drop ((IntKind.i64.wrap (r3 + 1)) : Int).toNat).length < room 24 then
                                    some ((p0.1, (p0.2.1, (([] : List (ByteArray × Int)) ++ (p0.2.2.take (r3 : Int).toNat)) ++ (p0.2.2.drop ((IntKind.i64.wrap (r3 + 1)) : Int).toNat))), 0)
                                  else
                                    none
                                else
                                  none
                              ) (
                                if ([] : List (ByteArray × Int)).length + (p0.2.2.take (r3 : Int).toNat).length < room 24 then
                                  agree (
                                    if (([] : List (ByteArray × Int)) ++ (p0.2.2.take (r3 : Int).toNat)).length + (p0.2.2.drop ((IntKind.i64.wrap (r3 + 1)) : Int).toNat).length < room 24 then
                                      some ((p0.1, (p0.2.1, (([] : List (ByteArray × Int)) ++ (p0.2.2.take (r3 : Int).toNat)) ++ (p0.2.2.drop ((IntKind.i64.wrap (r3 + 1)) : Int).toNat))), 0)
                                    else
                                      none
                                  ) (
                                    if (([] : List (ByteArray × Int)) ++ (p0.2.2.take (r3 : Int).toNat)).length + (p0.2.2.drop ((IntKind.i64.wrap (r3 + 1)) : Int).toNat).length < room 24 then
                                      some ((p0.1, (p0.2.1, (([] : List (ByteArray × Int)) ++ (p0.2.2.take (r3 : Int).toNat)) ++ (p0.2.2.drop ((IntKind.i64.wrap (r3 + 1)) : Int).toNat))), 0)
                                    else
                                      none
                                  )
                                else
                                  none
                              )
                            else
                              none
                          )
                        )
                      else
                        none
                    ) (
                      if (0 : Int) ≤ (IntKind.i64.wrap (r3 + 1)) ∧ ((IntKind.i64.wrap (r3 + 1)) : Int) ≤ p0.2.2.length then
                        agree (
                          if (0 : Int) ≤ r3 ∧ (r3 : Int) ≤ p0.2.2.length then
                            if ([] : List (ByteArray × Int)).length + (p0.2.2.take (r3 : Int).toNat).length < room 24 then
                              if (([] : List (ByteArray × Int)) ++ (p0.2.2.take (r3 : Int).toNat)).length + (p0.2.2.drop ((IntKind.i64.wrap (r3 + 1)) : Int).toNat).length < room 24 then
                                some ((p0.1, (p0.2.1, (([] : List (ByteArray × Int)) ++ (p0.2.2.take (r3 : Int).toNat)) ++ (p0.2.2.drop ((IntKind.i64.wrap (r3 + 1)) : Int).toNat))), 0)
                              else
                                none
                            else
                              none
                          else
                            none
                        ) (
                          if (0 : Int) ≤ r3 ∧ (r3 : Int) ≤ p0.2.2.length then
                            agree (
                              if ([] : List (ByteArray × Int)).length + (p0.2.2.take (r3 : Int).toNat).length < room 24 then
                                if (([] : List (ByteArray × Int)) ++ (p0.2.2.take (r3 : Int).toNat)).length + (p0.2.2.drop ((IntKind.i64.wrap (r3 + 1)) : Int).toNat).length < room 24 then
                                  some ((p0.1, (p0.2.1, (([] : List (ByteArray × Int)) ++ (p0.2.2.take (r3 : Int).toNat)) ++ (p0.2.2.drop ((IntKind.i64.wrap (r3 + 1)) : Int).toNat))), 0)
                                else
                                  none
                              else
                                none
                            ) (
                              if ([] : List (ByteArray × Int)).length + (p0.2.2.take (r3 : Int).toNat).length < room 24 then
                                agree (
                                  if (([] : List (ByteArray × Int)) ++ (p0.2.2.take (r3 : Int).toNat)).length + (p0.2.2.drop ((IntKind.i64.wrap (r3 + 1)) : Int).toNat).length < room 24 then
                                    some ((p0.1, (p0.2.1, (([] : List (ByteArray × Int)) ++ (p0.2.2.take (r3 : Int).toNat)) ++ (p0.2.2.drop ((IntKind.i64.wrap (r3 + 1)) : Int).toNat))), 0)
                                  else
                                    none
                                ) (
                                  if (([] : List (ByteArray × Int)) ++ (p0.2.2.take (r3 : Int).toNat)).length + (p0.2.2.drop ((IntKind.i64.wrap (r3 + 1)) : Int).toNat).length < room 24 then
                                    some ((p0.1, (p0.2.1, (([] : List (ByteArray × Int)) ++ (p0.2.2.take (r3 : Int).toNat)) ++ (p0.2.2.drop ((IntKind.i64.wrap (r3 + 1)) : Int).toNat))), 0)
                                  else
                                    none
                                )
                              else
                                none
                            )
                          else
                            none
                        )
                      else
                        none
                    )
                  )
                ) (
                  agree (
                    if (0 : Int) ≤ r3 ∧ (r3 : Int) ≤ p0.2.2.length then
                      agree (
                        agree (
                          agree (
                            if ([] : List (ByteArray × Int)).length + (p0.2.2.take (r3 : Int).toNat).length < room 24 then
                              if (0 : Int) ≤ (IntKind.i64.wrap (r3 + 1)) ∧ ((IntKind.i64.wrap (r3 + 1)) : Int) ≤ p0.2.2.length then
                                if (([] : List (ByteArray × Int)) ++ (p0.2.2.take (r3 : Int).toNat)).length + (p0.2.2.drop ((IntKind.i64.wrap (r3 + 1)) : Int).toNat).length < room 24 then
                                  some ((p0.1, (p0.2.1, (([] : List (ByteArray × Int)) ++ (p0.2.2.take (r3 : Int).toNat)) ++ (p0.2.2.drop ((IntKind.i64.wrap (r3 + 1)) : Int).toNat))), 0)
                                else
                                  none
                              else
                                none
                            else
                              none
                          ) (
                            if (0 : Int) ≤ (IntKind.i64.wrap (r3 + 1)) ∧ ((IntKind.i64.wrap (r3 + 1)) : Int) ≤ p0.2.2.length then
                              if ([] : List (ByteArray × Int)).length + (p0.2.2.take (r3 : Int).toNat).length < room 24 then
                                if (([] : List (ByteArray × Int)) ++ (p0.2.2.take (r3 : Int).toNat)).length + (p0.2.2.drop ((IntKind.i64.wrap (r3 + 1)) : Int).toNat).length < room 24 then
                                  some ((p0.1, (p0.2.1, (([] : List (ByteArray × Int)) ++ (p0.2.2.take (r3 : Int).toNat)) ++ (p0.2.2.drop ((IntKind.i64.wrap (r3 + 1)) : Int).toNat))), 0)
                                else
                                  none
                              else
                                none
                            else
                              none
                          )
                        ) (
                          agree (
                            if ([] : List (ByteArray × Int)).length + (p0.2.2.take (r3 : Int).toNat).length < room 24 then
                              agree (
                                if (0 : Int) ≤ (IntKind.i64.wrap (r3 + 1)) ∧ ((IntKind.i64.wrap (r3 + 1)) : Int) ≤ p0.2.2.length then
                                  if (([] : List (ByteArray × Int)) ++ (p0.2.2.take (r3 : Int).toNat)).length + (p0.2.2.drop ((IntKind.i64.wrap (r3 + 1)) : Int).toNat).length < room 24 then
                                    some ((p0.1, (p0.2.1, (([] : List (ByteArray × Int)) ++ (p0.2.2.take (r3 : Int).toNat)) ++ (p0.2.2.drop ((IntKind.i64.wrap (r3 + 1)) : Int).toNat))), 0)
                                  else
                                    none
                                else
                                  none
                              ) (
                                if (0 : Int) ≤ (IntKind.i64.wrap (r3 + 1)) ∧ ((IntKind.i64.wrap (r3 + 1)) : Int) ≤ p0.2.2.length then
                                  agree (
                                    if (([] : List (ByteArray × Int)) ++ (p0.2.2.take (r3 : Int).toNat)).length + (p0.2.2.drop ((IntKind.i64.wrap (r3 + 1)) : Int).toNat).length < room 24 then
                                      some ((p0.1, (p0.2.1, (([] : List (ByteArray × Int)) ++ (p0.2.2.take (r3 : Int).toNat)) ++ (p0.2.2.drop ((IntKind.i64.wrap (r3 + 1)) : Int).toNat))), 0)
                                    else
                                      none
                                  ) (
                                    if (([] : List (ByteArray × Int)) ++ (p0.2.2.take (r3 : Int).toNat)).length + (p0.2.2.drop ((IntKind.i64.wrap (r3 + 1)) : Int).toNat).length < room 24 then
                                      some ((p0.1, (p0.2.1, (([] : List (ByteArray × Int)) ++ (p0.2.2.take (r3 : Int).toNat)) ++ (p0.2.2.drop ((IntKind.i64.wrap (r3 + 1)) : Int).toNat))), 0)
                                    else
                                      none
                                  )
                                else
                                  none
                              )
                            else
                              none
                          ) (
                            if (0 : Int) ≤ (IntKind.i64.wrap (r3 + 1)) ∧ ((IntKind.i64.wrap (r3 + 1)) : Int) ≤ p0.2.2.length then
                              agree (
                                if ([] : List (ByteArray × Int)).length + (p0.2.2.take (r3 : Int).toNat).length < room 24 then
                                  if (([] : List (ByteArray × Int)) ++ (p0.2.2.take (r3 : Int).toNat)).length + (p0.2.2.drop ((IntKind.i64.wrap (r3 + 1)) : Int).toNat).length < room 24 then
                                    some ((p0.1, (p0.2.1, (([] : List (ByteArray × Int)) ++ (p0.2.2.take (r3 : Int).toNat)) ++ (p0.2.2.drop ((IntKind.i64.wrap (r3 + 1)) : Int).toNat))), 0)
                                  else
                                    none
                                else
                                  none
                              ) (
                                if ([] : List (ByteArray × Int)).length + (p0.2.2.take (r3 : Int).toNat).length < room 24 then
                                  agree (
                                    if (([] : List (ByteArray × Int)) ++ (p0.2.2.take (r3 : Int).toNat)).length + (p0.2.2.drop ((IntKind.i64.wrap (r3 + 1)) : Int).toNat).length < room 24 then
                                      some ((p0.1, (p0.2.1, (([] : List (ByteArray × Int)) ++ (p0.2.2.take (r3 : Int).toNat)) ++ (p0.2.2.drop ((IntKind.i64.wrap (r3 + 1)) : Int).toNat))), 0)
                                    else
                                      none
                                  ) (
                                    if (([] : List (ByteArray × Int)) ++ (p0.2.2.take (r3 : Int).toNat)).length + (p0.2.2.drop ((IntKind.i64.wrap (r3 + 1)) : Int).toNat).length < room 24 then
                                      some ((p0.1, (p0.2.1, (([] : List (ByteArray × Int)) ++ (p0.2.2.take (r3 : Int).toNat)) ++ (p0.2.2.drop ((IntKind.i64.wrap (r3 + 1)) : Int).toNat))), 0)
                                    else
                                      none
                                  )
                                else
                                  none
                              )
                            else
                              none
                          )
                        )
                      ) (
                        agree (
                          agree (
                            agree (
                              if ([] : List (ByteArray × Int)).length + (p0.2.2.take (r3 : Int).toNat).length < room 24 then
                                if (0 : Int) ≤ (IntKind.i64.wrap (r3 + 1)) ∧ ((IntKind.i64.wrap (r3 + 1)) : Int) ≤ p0.2.2.length then
                                  if (([] : List (ByteArray × Int)) ++ (p0.2.2.take (r3 : Int).toNat)).length + (p0.2.2.drop ((IntKind.i64.wrap (r3 + 1)) : Int).toNat).length < room 24 then
                                    some ((p0.1, (p0.2.1, (([] : List (ByteArray × Int)) ++ (p0.2.2.take (r3 : Int).toNat)) ++ (p0.2.2.drop ((IntKind.i64.wrap (r3 + 1)) : Int).toNat))), 0)
                                  else
                                    none
                                else
                                  none
                              else
                                none
                            ) (
                              if (0 : Int) ≤ (IntKind.i64.wrap (r3 + 1)) ∧ ((IntKind.i64.wrap (r3 + 1)) : Int) ≤ p0.2.2.length then
                                if ([] : List (ByteArray × Int)).length + (p0.2.2.take (r3 : Int).toNat).length < room 24 then
                                  if (([] : List (ByteArray × Int)) ++ (p0.2.2.take (r3 : Int).toNat)).length + (p0.2.2.drop ((IntKind.i64.wrap (r3 + 1)) : Int).toNat).length < room 24 then
                                    some ((p0.1, (p0.2.1, (([] : List (ByteArray × Int)) ++ (p0.2.2.take (r3 : Int).toNat)) ++ (p0.2.2.drop ((IntKind.i64.wrap (r3 + 1)) : Int).toNat))), 0)
                                  else
                                    none
                                else
                                  none
                              else
                                none
                            )
                          ) (
                            agree (
                              if ([] : List (ByteArray × Int)).length + (p0.2.2.take (r3 : Int).toNat).length < room 24 then
                                agree (
                                  if (0 : Int) ≤ (IntKind.i64.wrap (r3 + 1)) ∧ ((IntKind.i64.wrap (r3 + 1)) : Int) ≤ p0.2.2.length then
                                    if (([] : List (ByteArray × Int)) ++ (p0.2.2.take (r3 : Int).toNat)).length + (p0.2.2.drop ((IntKind.i64.wrap (r3 + 1)) : Int).toNat).length < room 24 then
                                      some ((p0.1, (p0.2.1, (([] : List (ByteArray × Int)) ++ (p0.2.2.take (r3 : Int).toNat)) ++ (p0.2.2.drop ((IntKind.i64.wrap (r3 + 1)) : Int).toNat))), 0)
                                    else
                                      none
                                  else
                                    none
                                ) (
                                  if (0 : Int) ≤ (IntKind.i64.wrap (r3 + 1)) ∧ ((IntKind.i64.wrap (r3 + 1)) : Int) ≤ p0.2.2.length then
                                    agree (
                                      if (([] : List (ByteArray × Int)) ++ (p0.2.2.take (r3 : Int).toNat)).length + (p0.2.2.drop ((IntKind.i64.wrap (r3 + 1)) : Int).toNat).length < room 24 then
                                        some ((p0.1, (p0.2.1, (([] : List (ByteArray × Int)) ++ (p0.2.2.take (r3 : Int).toNat)) ++ (p0.2.2.drop ((IntKind.i64.wrap (r3 + 1)) : Int).toNat))), 0)
                                      else
                                        none
                                    ) (
                                      if (([] : List (ByteArray × Int)) ++ (p0.2.2.take (r3 : Int).toNat)).length + (p0.2.2.drop ((IntKind.i64.wrap (r3 + 1)) : Int).toNat).length < room 24 then
                                        some ((p0.1, (p0.2.1, (([] : List (ByteArray × Int)) ++ (p0.2.2.take (r3 : Int).toNat)) ++ (p0.2.2.drop ((IntKind.i64.wrap (r3 + 1)) : Int).toNat))), 0)
                                      else
                                        none
                                    )
                                  else
                                    none
                                )
                              else
                                none
                            ) (
                              if (0 : Int) ≤ (IntKind.i64.wrap (r3 + 1)) ∧ ((IntKind.i64.wrap (r3 + 1)) : Int) ≤ p0.2.2.length then
                                agree (
                                  if ([] : List (ByteArray × Int)).length + (p0.2.2.take (r3 : Int).toNat).length < room 24 then
                                    if (([] : List (ByteArray × Int)) ++ (p0.2.2.take (r3 : Int).toNat)).length + (p0.2.2.drop ((IntKind.i64.wrap (r3 + 1)) : Int).toNat).length < room 24 then
                                      some ((p0.1, (p0.2.1, (([] : List (ByteArray × Int)) ++ (p0.2.2.take (r3 : Int).toNat)) ++ (p0.2.2.drop ((IntKind.i64.wrap (r3 + 1)) : Int).toNat))), 0)
                                    else
                                      none
                                  else
                                    none
                                ) (
                                  if ([] : List (ByteArray × Int)).length + (p0.2.2.take (r3 : Int).toNat).length < room 24 then
                                    agree (
                                      if (([] : List (ByteArray × Int)) ++ (p0.2.2.take (r3 : Int).toNat)).length + (p0.2.2.drop ((IntKind.i64.wrap (r3 + 1)) : Int).toNat).length < room 24 then
                                        some ((p0.1, (p0.2.1, (([] : List (ByteArray × Int)) ++ (p0.2.2.take (r3 : Int).toNat)) ++ (p0.2.2.drop ((IntKind.i64.wrap (r3 + 1)) : Int).toNat))), 0)
                                      else
                                        none
                                    ) (
                                      if (([] : List (ByteArray × Int)) ++ (p0.2.2.take (r3 : Int).toNat)).length + (p0.2.2.drop ((IntKind.i64.wrap (r3 + 1)) : Int).toNat).length < room 24 then
                                        some ((p0.1, (p0.2.1, (([] : List (ByteArray × Int)) ++ (p0.2.2.take (r3 : Int).toNat)) ++ (p0.2.2.drop ((IntKind.i64.wrap (r3 + 1)) : Int).toNat))), 0)
                                      else
                                        none
                                    )
                                  else
                                    none
                                )
                              else
                                none
                            )
                          )
                        ) (
                          agree (
                            if ([] : List (ByteArray × Int)).length + (p0.2.2.take (r3 : Int).toNat).length < room 24 then
                              agree (
                                agree (
                                  if (0 : Int) ≤ (IntKind.i64.wrap (r3 + 1)) ∧ ((IntKind.i64.wrap (r3 + 1)) : Int) ≤ p0.2.2.length then
                                    if (([] : List (ByteArray × Int)) ++ (p0.2.2.take (r3 : Int).toNat)).length + (p0.2.2.drop ((IntKind.i64.wrap (r3 + 1)) : Int).toNat).length < room 24 then
                                      some ((p0.1, (p0.2.1, (([] : List (ByteArray × Int)) ++ (p0.2.2.take (r3 : Int).toNat)) ++ (p0.2.2.drop ((IntKind.i64.wrap (r3 + 1)) : Int).toNat))), 0)
                                    else
                                      none
                                  else
                                    none
                                ) (
                                  if (0 : Int) ≤ (IntKind.i64.wrap (r3 + 1)) ∧ ((IntKind.i64.wrap (r3 + 1)) : Int) ≤ p0.2.2.length then
                                    agree (
                                      if (([] : List (ByteArray × Int)) ++ (p0.2.2.take (r3 : Int).toNat)).length + (p0.2.2.drop ((IntKind.i64.wrap (r3 + 1)) : Int).toNat).length < room 24 then
                                        some ((p0.1, (p0.2.1, (([] : List (ByteArray × Int)) ++ (p0.2.2.take (r3 : Int).toNat)) ++ (p0.2.2.drop ((IntKind.i64.wrap (r3 + 1)) : Int).toNat))), 0)
                                      else
                                        none
                                    ) (
                                      if (([] : List (ByteArray × Int)) ++ (p0.2.2.take (r3 : Int).toNat)).length + (p0.2.2.drop ((IntKind.i64.wrap (r3 + 1)) : Int).toNat).length < room 24 then
                                        some ((p0.1, (p0.2.1, (([] : List (ByteArray × Int)) ++ (p0.2.2.take (r3 : Int).toNat)) ++ (p0.2.2.drop ((IntKind.i64.wrap (r3 + 1)) : Int).toNat))), 0)
                                      else
                                        none
                                    )
                                  else
                                    none
                                )
                              ) (
                                agree (
                                  agree (
                                    if (0 : Int) ≤ (IntKind.i64.wrap (r3 + 1)) ∧ ((IntKind.i64.wrap (r3 + 1)) : Int) ≤ p0.2.2.length then
                                      if (([] : List (ByteArray × Int)) ++ (p0.2.2.take (r3 : Int).toNat)).length + (p0.2.2.drop ((IntKind.i64.wrap (r3 + 1)) : Int).toNat).length < room 24 then
                                        some ((p0.1, (p0.2.1, (([] : List (ByteArray × Int)) ++ (p0.2.2.take (r3 : Int).toNat)) ++ (p0.2.2.drop ((IntKind.i64.wrap (r3 + 1)) : Int).toNat))), 0)
                                      else
                                        none
                                    else
                                      none
                                  ) (
                                    if (0 : Int) ≤ (IntKind.i64.wrap (r3 + 1)) ∧ ((IntKind.i64.wrap (r3 + 1)) : Int) ≤ p0.2.2.length then
                                      agree (
                                        if (([] : List (ByteArray × Int)) ++ (p0.2.2.take (r3 : Int).toNat)).length + (p0.2.2.drop ((IntKind.i64.wrap (r3 + 1)) : Int).toNat).length < room 24 then
                                          some ((p0.1, (p0.2.1, (([] : List (ByteArray × Int)) ++ (p0.2.2.take (r3 : Int).toNat)) ++ (p0.2.2.drop ((IntKind.i64.wrap (r3 + 1)) : Int).toNat))), 0)
                                        else
                                          none
                                      ) (
                                        if (([] : List (ByteArray × Int)) ++ (p0.2.2.take (r3 : Int).toNat)).length + (p0.2.2.drop ((IntKind.i64.wrap (r3 + 1)) : Int).toNat).length < room 24 then
                                          some ((p0.1, (p0.2.1, (([] : List (ByteArray × Int)) ++ (p0.2.2.take (r3 : Int).toNat)) ++ (p0.2.2.drop ((IntKind.i64.wrap (r3 + 1)) : Int).toNat))), 0)
                                        else
                                          none
                                      )
                                    else
                                      none
                                  )
                                ) (
                                  if (0 : Int) ≤ (IntKind.i64.wrap (r3 + 1)) ∧ ((IntKind.i64.wrap (r3 + 1)) : Int) ≤ p0.2.2.length then
                                    agree (
                                      agree (
                                        if (([] : List (ByteArray × Int)) ++ (p0.2.2.take (r3 : Int).toNat)).length + (p0.2.2.drop ((IntKind.i64.wrap (r3 + 1)) : Int).toNat).length < room 24 then
                                          some ((p0.1, (p0.2.1, (([] : List (ByteArray × Int)) ++ (p0.2.2.take (r3 : Int).toNat)) ++ (p0.2.2.drop ((IntKind.i64.wrap (r3 + 1)) : Int).toNat))), 0)
                                        else
                                          none
                                      ) (
                                        if (([] : List (ByteArray × Int)) ++ (p0.2.2.take (r3 : Int).toNat)).length + (p0.2.2.drop ((IntKind.i64.wrap (r3 + 1)) : Int).toNat).length < room 24 then
                                          some ((p0.1, (p0.2.1, (([] : List (ByteArray × Int)) ++ (p0.2.2.take (r3 : Int).toNat)) ++ (p0.2.2.drop ((IntKind.i64.wrap (r3 + 1)) : Int).toNat))), 0)
                                        else
                                          none
                                      )
                                    ) (
                                      agree (
                                        agree (
                                          if (([] : List (ByteArray × Int)) ++ (p0.2.2.take (r3 : Int).toNat)).length + (p0.2.2.drop ((IntKind.i64.wrap (r3 + 1)) : Int).toNat).length < room 24 then
                                            some ((p0.1, (p0.2.1, (([] : List (ByteArray × Int)) ++ (p0.2.2.take (r3 : Int).toNat)) ++ (p0.2.2.drop ((IntKind.i64.wrap (r3 + 1)) : Int).toNat))), 0)
                                          else
                                            none
                                        ) (
                                          if (([] : List (ByteArray × Int)) ++ (p0.2.2.take (r3 : Int).toNat)).length + (p0.2.2.drop ((IntKind.i64.wrap (r3 + 1)) : Int).toNat).length < room 24 then
                                            some ((p0.1, (p0.2.1, (([] : List (ByteArray × Int)) ++ (p0.2.2.take (r3 : Int).toNat)) ++ (p0.2.2.drop ((IntKind.i64.wrap (r3 + 1)) : Int).toNat))), 0)
                                          else
                                            none
                                        )
                                      ) (
                                        if (([] : List (ByteArray × Int)) ++ (p0.2.2.take (r3 : Int).toNat)).length + (p0.2.2.drop ((IntKind.i64.wrap (r3 + 1)) : Int).toNat).length < room 24 then
                                          some ((p0.1, (p0.2.1, (([] : List (ByteArray × Int)) ++ (p0.2.2.take (r3 : Int).toNat)) ++ (p0.2.2.drop ((IntKind.i64.wrap (r3 + 1)) : Int).toNat))), 0)
                                        else
                                          none
                                      )
                                    )
                                  else
                                    none
                                )
                              )
                            else
                              none
                          ) (
                            if (0 : Int) ≤ (IntKind.i64.wrap (r3 + 1)) ∧ ((IntKind.i64.wrap (r3 + 1)) : Int) ≤ p0.2.2.length then
                              agree (
                                agree (
                                  if ([] : List (ByteArray × Int)).length + (p0.2.2.take (r3 : Int).toNat).length < room 24 then
                                    if (([] : List (ByteArray × Int)) ++ (p0.2.2.take (r3 : Int).toNat)).length + (p0.2.2.drop ((IntKind.i64.wrap (r3 + 1)) : Int).toNat).length < room 24 then
                                      some ((p0.1, (p0.2.1, (([] : List (ByteArray × Int)) ++ (p0.2.2.take (r3 : Int).toNat)) ++ (p0.2.2.drop ((IntKind.i64.wrap (r3 + 1)) : Int).toNat))), 0)
                                    else
                                      none
                                  else
                                    none
                                ) (
                                  if ([] : List (ByteArray × Int)).length + (p0.2.2.take (r3 : Int).toNat).length < room 24 then
                                    agree (
                                      if (([] : List (ByteArray × Int)) ++ (p0.2.2.take (r3 : Int).toNat)).length + (p0.2.2.drop ((IntKind.i64.wrap (r3 + 1)) : Int).toNat).length < room 24 then
                                        some ((p0.1, (p0.2.1, (([] : List (ByteArray × Int)) ++ (p0.2.2.take (r3 : Int).toNat)) ++ (p0.2.2.drop ((IntKind.i64.wrap (r3 + 1)) : Int).toNat))), 0)
                                      else
                                        none
                                    ) (
                                      if (([] : List (ByteArray × Int)) ++ (p0.2.2.take (r3 : Int).toNat)).length + (p0.2.2.drop ((IntKind.i64.wrap (r3 + 1)) : Int).toNat).length < room 24 then
                                        some ((p0.1, (p0.2.1, (([] : List (ByteArray × Int)) ++ (p0.2.2.take (r3 : Int).toNat)) ++ (p0.2.2.drop ((IntKind.i64.wrap (r3 + 1)) : Int).toNat))), 0)
                                      else
                                        none
                                    )
                                  else
                                    none
                                )
                              ) (
                                agree (
                                  agree (
                                    if ([] : List (ByteArray × Int)).length + (p0.2.2.take (r3 : Int).toNat).length < room 24 then
                                      if (([] : List (ByteArray × Int)) ++ (p0.2.2.take (r3 : Int).toNat)).length + (p0.2.2.drop ((IntKind.i64.wrap (r3 + 1)) : Int).toNat).length < room 24 then
                                        some ((p0.1, (p0.2.1, (([] : List (ByteArray × Int)) ++ (p0.2.2.take (r3 : Int).toNat)) ++ (p0.2.2.drop ((IntKind.i64.wrap (r3 + 1)) : Int).toNat))), 0)
                                      else
                                        none
                                    else
                                      none
                                  ) (
                                    if ([] : List (ByteArray × Int)).length + (p0.2.2.take (r3 : Int).toNat).length < room 24 then
                                      agree (
                                        if (([] : List (ByteArray × Int)) ++ (p0.2.2.take (r3 : Int).toNat)).length + (p0.2.2.drop ((IntKind.i64.wrap (r3 + 1)) : Int).toNat).length < room 24 then
                                          some ((p0.1, (p0.2.1, (([] : List (ByteArray × Int)) ++ (p0.2.2.take (r3 : Int).toNat)) ++ (p0.2.2.drop ((IntKind.i64.wrap (r3 + 1)) : Int).toNat))), 0)
                                        else
                                          none
                                      ) (
                                        if (([] : List (ByteArray × Int)) ++ (p0.2.2.take (r3 : Int).toNat)).length + (p0.2.2.drop ((IntKind.i64.wrap (r3 + 1)) : Int).toNat).length < room 24 then
                                          some ((p0.1, (p0.2.1, (([] : List (ByteArray × Int)) ++ (p0.2.2.take (r3 : Int).toNat)) ++ (p0.2.2.drop ((IntKind.i64.wrap (r3 + 1)) : Int).toNat))), 0)
                                        else
                                          none
                                      )
                                    else
                                      none
                                  )
                                ) (
                                  if ([] : List (ByteArray × Int)).length + (p0.2.2.take (r3 : Int).toNat).length < room 24 then
                                    agree (
                                      agree (
                                        if (([] : List (ByteArray × Int)) ++ (p0.2.2.take (r3 : Int).toNat)).length + (p0.2.2.drop ((IntKind.i64.wrap (r3 + 1)) : Int).toNat).length < room 24 then
                                          some ((p0.1, (p0.2.1, (([] : List (ByteArray × Int)) ++ (p0.2.2.take (r3 : Int).toNat)) ++ (p0.2.2.drop ((IntKind.i64.wrap (r3 + 1)) : Int).toNat))), 0)
                                        else
                                          none
                                      ) (
                                        if (([] : List (ByteArray × Int)) ++ (p0.2.2.take (r3 : Int).toNat)).length + (p0.2.2.drop ((IntKind.i64.wrap (r3 + 1)) : Int).toNat).length < room 24 then
                                          some ((p0.1, (p0.2.1, (([] : List (ByteArray × Int)) ++ (p0.2.2.take (r3 : Int).toNat)) ++ (p0.2.2.drop ((IntKind.i64.wrap (r3 + 1)) : Int).toNat))), 0)
                                        else
                                          none
                                      )
                                    ) (
                                      agree (
                                        agree (
                                          if (([] : List (ByteArray × Int)) ++ (p0.2.2.take (r3 : Int).toNat)).length + (p0.2.2.drop ((IntKind.i64.wrap (r3 + 1)) : Int).toNat).length < room 24 then
                                            some ((p0.1, (p0.2.1, (([] : List (ByteArray × Int)) ++ (p0.2.2.take (r3 : Int).toNat)) ++ (p0.2.2.drop ((IntKind.i64.wrap (r3 + 1)) : Int).toNat))), 0)
                                          else
                                            none
                                        ) (
                                          if (([] : List (ByteArray × Int)) ++ (p0.2.2.take (r3 : Int).toNat)).length + (p0.2.2.drop ((IntKind.i64.wrap (r3 + 1)) : Int).toNat).length < room 24 then
                                            some ((p0.1, (p0.2.1, (([] : List (ByteArray × Int)) ++ (p0.2.2.take (r3 : Int).toNat)) ++ (p0.2.2.drop ((IntKind.i64.wrap (r3 + 1)) : Int).toNat))), 0)
                                          else
                                            none
                                        )
                                      ) (
                                        if (([] : List (ByteArray × Int)) ++ (p0.2.2.take (r3 : Int).toNat)).length + (p0.2.2.drop ((IntKind.i64.wrap (r3 + 1)) : Int).toNat).length < room 24 then
                                          some ((p0.1, (p0.2.1, (([] : List (ByteArray × Int)) ++ (p0.2.2.take (r3 : Int).toNat)) ++ (p0.2.2.drop ((IntKind.i64.wrap (r3 + 1)) : Int).toNat))), 0)
                                        else
                                          none
                                      )
                                    )
                                  else
                                    none
                                )
                              )
                            else
                              none
                          )
                        )
                      )
                    else
                      none
                  ) (
                    if (0 : Int) ≤ (IntKind.i64.wrap (r3 + 1)) ∧ ((IntKind.i64.wrap (r3 + 1)) : Int) ≤ p0.2.2.length then
                      agree (
                        agree (
                          if (0 : Int) ≤ r3 ∧ (r3 : Int) ≤ p0.2.2.length then
                            if ([] : List (ByteArray × Int)).length + (p0.2.2.take (r3 : Int).toNat).length < room 24 then
                              if (([] : List (ByteArray × Int)) ++ (p0.2.2.take (r3 : Int).toNat)).length + (p0.2.2.drop ((IntKind.i64.wrap (r3 + 1)) : Int).toNat).length < room 24 then
                                some ((p0.1, (p0.2.1, (([] : List (ByteArray × Int)) ++ (p0.2.2.take (r3 : Int).toNat)) ++ (p0.2.2.drop ((IntKind.i64.wrap (r3 + 1)) : Int).toNat))), 0)
                              else
                                none
                            else
                              none
                          else
                            none
                        ) (
                          if (0 : Int) ≤ r3 ∧ (r3 : Int) ≤ p0.2.2.length then
                            agree (
                              if ([] : List (ByteArray × Int)).length + (p0.2.2.take (r3 : Int).toNat).length < room 24 then
                                if (([] : List (ByteArray × Int)) ++ (p0.2.2.take (r3 : Int).toNat)).length + (p0.2.2.drop ((IntKind.i64.wrap (r3 + 1)) : Int).toNat).length < room 24 then
                                  some ((p0.1, (p0.2.1, (([] : List (ByteArray × Int)) ++ (p0.2.2.take (r3 : Int).toNat)) ++ (p0.2.2.drop ((IntKind.i64.wrap (r3 + 1)) : Int).toNat))), 0)
                                else
                                  none
                              else
                                none
                            ) (
                              if ([] : List (ByteArray × Int)).length + (p0.2.2.take (r3 : Int).toNat).length < room 24 then
                                agree (
                                  if (([] : List (ByteArray × Int)) ++ (p0.2.2.take (r3 : Int).toNat)).length + (p0.2.2.drop ((IntKind.i64.wrap (r3 + 1)) : Int).toNat).length < room 24 then
                                    some ((p0.1, (p0.2.1, (([] : List (ByteArray × Int)) ++ (p0.2.2.take (r3 : Int).toNat)) ++ (p0.2.2.drop ((IntKind.i64.wrap (r3 + 1)) : Int).toNat))), 0)
                                  else
                                    none
                                ) (
                                  if (([] : List (ByteArray × Int)) ++ (p0.2.2.take (r3 : Int).toNat)).length + (p0.2.2.drop ((IntKind.i64.wrap (r3 + 1)) : Int).toNat).length < room 24 then
                                    some ((p0.1, (p0.2.1, (([] : List (ByteArray × Int)) ++ (p0.2.2.take (r3 : Int).toNat)) ++ (p0.2.2.drop ((IntKind.i64.wrap (r3 + 1)) : Int).toNat))), 0)
                                  else
                                    none
                                )
                              else
                                none
                            )
                          else
                            none
                        )
                      ) (
                        agree (
                          agree (
                            if (0 : Int) ≤ r3 ∧ (r3 : Int) ≤ p0.2.2.length then
                              if ([] : List (ByteArray × Int)).length + (p0.2.2.take (r3 : Int).toNat).length < room 24 then
                                if (([] : List (ByteArray × Int)) ++ (p0.2.2.take (r3 : Int).toNat)).length + (p0.2.2.drop ((IntKind.i64.wrap (r3 + 1)) : Int).toNat).length < room 24 then
                                  some ((p0.1, (p0.2.1, (([] : List (ByteArray × Int)) ++ (p0.2.2.take (r3 : Int).toNat)) ++ (p0.2.2.drop ((IntKind.i64.wrap (r3 + 1)) : Int).toNat))), 0)
                                else
                                  none
                              else
                                none
                            else
                              none
                          ) (
                            if (0 : Int) ≤ r3 ∧ (r3 : Int) ≤ p0.2.2.length then
                              agree (
                                if ([] : List (ByteArray × Int)).length + (p0.2.2.take (r3 : Int).toNat).length < room 24 then
                                  if (([] : List (ByteArray × Int)) ++ (p0.2.2.take (r3 : Int).toNat)).length + (p0.2.2.drop ((IntKind.i64.wrap (r3 + 1)) : Int).toNat).length < room 24 then
                                    some ((p0.1, (p0.2.1, (([] : List (ByteArray × Int)) ++ (p0.2.2.take (r3 : Int).toNat)) ++ (p0.2.2.drop ((IntKind.i64.wrap (r3 + 1)) : Int).toNat))), 0)
                                  else
                                    none
                                else
                                  none
                              ) (
                                if ([] : List (ByteArray × Int)).length + (p0.2.2.take (r3 : Int).toNat).length < room 24 then
                                  agree (
                                    if (([] : List (ByteArray × Int)) ++ (p0.2.2.take (r3 : Int).toNat)).length + (p0.2.2.drop ((IntKind.i64.wrap (r3 + 1)) : Int).toNat).length < room 24 then
                                      some ((p0.1, (p0.2.1, (([] : List (ByteArray × Int)) ++ (p0.2.2.take (r3 : Int).toNat)) ++ (p0.2.2.drop ((IntKind.i64.wrap (r3 + 1)) : Int).toNat))), 0)
                                    else
                                      none
                                  ) (
                                    if (([] : List (ByteArray × Int)) ++ (p0.2.2.take (r3 : Int).toNat)).length + (p0.2.2.drop ((IntKind.i64.wrap (r3 + 1)) : Int).toNat).length < room 24 then
                                      some ((p0.1, (p0.2.1, (([] : List (ByteArray × Int)) ++ (p0.2.2.take (r3 : Int).toNat)) ++ (p0.2.2.drop ((IntKind.i64.wrap (r3 + 1)) : Int).toNat))), 0)
                                    else
                                      none
                                  )
                                else
                                  none
                              )
                            else
                              none
                          )
                        ) (
                          if (0 : Int) ≤ r3 ∧ (r3 : Int) ≤ p0.2.2.length then
                            agree (
                              agree (
                                if ([] : List (ByteArray × Int)).length + (p0.2.2.take (r3 : Int).toNat).length < room 24 then
                                  if (([] : List (ByteArray × Int)) ++ (p0.2.2.take (r3 : Int).toNat)).length + (p0.2.2.drop ((IntKind.i64.wrap (r3 + 1)) : Int).toNat).length < room 24 then
                                    some ((p0.1, (p0.2.1, (([] : List (ByteArray × Int)) ++ (p0.2.2.take (r3 : Int).toNat)) ++ (p0.2.2.drop ((IntKind.i64.wrap (r3 + 1)) : Int).toNat))), 0)
                                  else
                                    none
                                else
                                  none
                              ) (
                                if ([] : List (ByteArray × Int)).length + (p0.2.2.take (r3 : Int).toNat).length < room 24 then
                                  agree (
                                    if (([] : List (ByteArray × Int)) ++ (p0.2.2.take (r3 : Int).toNat)).length + (p0.2.2.drop ((IntKind.i64.wrap (r3 + 1)) : Int).toNat).length < room 24 then
                                      some ((p0.1, (p0.2.1, (([] : List (ByteArray × Int)) ++ (p0.2.2.take (r3 : Int).toNat)) ++ (p0.2.2.drop ((IntKind.i64.wrap (r3 + 1)) : Int).toNat))), 0)
                                    else
                                      none
                                  ) (
                                    if (([] : List (ByteArray × Int)) ++ (p0.2.2.take (r3 : Int).toNat)).length + (p0.2.2.drop ((IntKind.i64.wrap (r3 + 1)) : Int).toNat).length < room 24 then
                                      some ((p0.1, (p0.2.1, (([] : List (ByteArray × Int)) ++ (p0.2.2.take (r3 : Int).toNat)) ++ (p0.2.2.drop ((IntKind.i64.wrap (r3 + 1)) : Int).toNat))), 0)
                                    else
                                      none
                                  )
                                else
                                  none
                              )
                            ) (
                              agree (
                                agree (
                                  if ([] : List (ByteArray × Int)).length + (p0.2.2.take (r3 : Int).toNat).length < room 24 then
                                    if (([] : List (ByteArray × Int)) ++ (p0.2.2.take (r3 : Int).toNat)).length + (p0.2.2.drop ((IntKind.i64.wrap (r3 + 1)) : Int).toNat).length < room 24 then
                                      some ((p0.1, (p0.2.1, (([] : List (ByteArray × Int)) ++ (p0.2.2.take (r3 : Int).toNat)) ++ (p0.2.2.drop ((IntKind.i64.wrap (r3 + 1)) : Int).toNat))), 0)
                                    else
                                      none
                                  else
                                    none
                                ) (
                                  if ([] : List (ByteArray × Int)).length + (p0.2.2.take (r3 : Int).toNat).length < room 24 then
                                    agree (
                                      if (([] : List (ByteArray × Int)) ++ (p0.2.2.take (r3 : Int).toNat)).length + (p0.2.2.drop ((IntKind.i64.wrap (r3 + 1)) : Int).toNat).length < room 24 then
                                        some ((p0.1, (p0.2.1, (([] : List (ByteArray × Int)) ++ (p0.2.2.take (r3 : Int).toNat)) ++ (p0.2.2.drop ((IntKind.i64.wrap (r3 + 1)) : Int).toNat))), 0)
                                      else
                                        none
                                    ) (
                                      if (([] : List (ByteArray × Int)) ++ (p0.2.2.take (r3 : Int).toNat)).length + (p0.2.2.drop ((IntKind.i64.wrap (r3 + 1)) : Int).toNat).length < room 24 then
                                        some ((p0.1, (p0.2.1, (([] : List (ByteArray × Int)) ++ (p0.2.2.take (r3 : Int).toNat)) ++ (p0.2.2.drop ((IntKind.i64.wrap (r3 + 1)) : Int).toNat))), 0)
                                      else
                                        none
                                    )
                                  else
                                    none
                                )
                              ) (
                                if ([] : List (ByteArray × Int)).length + (p0.2.2.take (r3 : Int).toNat).length < room 24 then
                                  agree (
                                    agree (
                                      if (([] : List (ByteArray × Int)) ++ (p0.2.2.take (r3 : Int).toNat)).length + (p0.2.2.drop ((IntKind.i64.wrap (r3 + 1)) : Int).toNat).length < room 24 then
                                        some ((p0.1, (p0.2.1, (([] : List (ByteArray × Int)) ++ (p0.2.2.take (r3 : Int).toNat)) ++ (p0.2.2.drop ((IntKind.i64.wrap (r3 + 1)) : Int).toNat))), 0)
                                      else
                                        none
                                    ) (
                                      if (([] : List (ByteArray × Int)) ++ (p0.2.2.take (r3 : Int).toNat)).length + (p0.2.2.drop ((IntKind.i64.wrap (r3 + 1)) : Int).toNat).length < room 24 then
                                        some ((p0.1, (p0.2.1, (([] : List (ByteArray × Int)) ++ (p0.2.2.take (r3 : Int).toNat)) ++ (p0.2.2.drop ((IntKind.i64.wrap (r3 + 1)) : Int).toNat))), 0)
                                      else
                                        none
                                    )
                                  ) (
                                    agree (
                                      agree (
                                        if (([] : List (ByteArray × Int)) ++ (p0.2.2.take (r3 : Int).toNat)).length + (p0.2.2.drop ((IntKind.i64.wrap (r3 + 1)) : Int).toNat).length < room 24 then
                                          some ((p0.1, (p0.2.1, (([] : List (ByteArray × Int)) ++ (p0.2.2.take (r3 : Int).toNat)) ++ (p0.2.2.drop ((IntKind.i64.wrap (r3 + 1)) : Int).toNat))), 0)
                                        else
                                          none
                                      ) (
                                        if (([] : List (ByteArray × Int)) ++ (p0.2.2.take (r3 : Int).toNat)).length + (p0.2.2.drop ((IntKind.i64.wrap (r3 + 1)) : Int).toNat).length < room 24 then
                                          some ((p0.1, (p0.2.1, (([] : List (ByteArray × Int)) ++ (p0.2.2.take (r3 : Int).toNat)) ++ (p0.2.2.drop ((IntKind.i64.wrap (r3 + 1)) : Int).toNat))), 0)
                                        else
                                          none
                                      )
                                    ) (
                                      if (([] : List (ByteArray × Int)) ++ (p0.2.2.take (r3 : Int).toNat)).length + (p0.2.2.drop ((IntKind.i64.wrap (r3 + 1)) : Int).toNat).length < room 24 then
                                        some ((p0.1, (p0.2.1, (([] : List (ByteArray × Int)) ++ (p0.2.2.take (r3 : Int).toNat)) ++ (p0.2.2.drop ((IntKind.i64.wrap (r3 + 1)) : Int).toNat))), 0)
                                      else
                                        none
                                    )
                                  )
                                else
                                  none
                              )
                            )
                          else
                            none
                        )
                      )
                    else
                      none
                  )
                )
              )
            ) (
              agree (
                if (0 : Int) ≤ r3 ∧ (r3 : Int) ≤ p0.2.2.length then
                  agree (
                    agree (
                      agree (
                        agree (
                          if ([] : List (ByteArray × Int)).length + (p0.2.2.take (r3 : Int).toNat).length < room 24 then
                            if (0 : Int) ≤ (IntKind.i64.wrap (r3 + 1)) ∧ ((IntKind.i64.wrap (r3 + 1)) : Int) ≤ p0.2.2.length then
                              if (([] : List (ByteArray × Int)) ++ (p0.2.2.take (r3 : Int).toNat)).length + (p0.2.2.drop ((IntKind.i64.wrap (r3 + 1)) : Int).toNat).length < room 24 then
                                some ((p0.1, (p0.2.1, (([] : List (ByteArray × Int)) ++ (p0.2.2.take (r3 : Int).toNat)) ++ (p0.2.2.drop ((IntKind.i64.wrap (r3 + 1)) : Int).toNat))), 0)
                              else
                                none
                            else
                              none
                          else
                            none
                        ) (
                          if (0 : Int) ≤ (IntKind.i64.wrap (r3 + 1)) ∧ ((IntKind.i64.wrap (r3 + 1)) : Int) ≤ p0.2.2.length then
                            if ([] : List (ByteArray × Int)).length + (p0.2.2.take (r3 : Int).toNat).length < room 24 then
                              if (([] : List (ByteArray × Int)) ++ (p0.2.2.take (r3 : Int).toNat)).length + (p0.2.2.drop ((IntKind.i64.wrap (r3 + 1)) : Int).toNat).length < room 24 then
                                some ((p0.1, (p0.2.1, (([] : List (ByteArray × Int)) ++ (p0.2.2.take (r3 : Int).toNat)) ++ (p0.2.2.drop ((IntKind.i64.wrap (r3 + 1)) : Int).toNat))), 0)
                              else
                                none
                            else
                              none
                          else
                            none
                        )
                      ) (
                        if (0 : Int) ≤ (IntKind.i64.wrap (r3 + 1)) ∧ ((IntKind.i64.wrap (r3 + 1)) : Int) ≤ p0.2.2.length then
                          if ([] : List (ByteArray × Int)).length + (p0.2.2.take (r3 : Int).toNat).length < room 24 then
                            if (([] : List (ByteArray × Int)) ++ (p0.2.2.take (r3 : Int).toNat)).length + (p0.2.2.drop ((IntKind.i64.wrap (r3 + 1)) : Int).toNat).length < room 24 then
                              some ((p0.1, (p0.2.1, (([] : List (ByteArray × Int)) ++ (p0.2.2.take (r3 : Int).toNat)) ++ (p0.2.2.drop ((IntKind.i64.wrap (r3 + 1)) : Int).toNat))), 0)
                            else
                              none
                          else
                            none
                        else
                          none
                      )
                    ) (
                      agree (
                        agree (
                          agree (
                            if ([] : List (ByteArray × Int)).length + (p0.2.2.take (r3 : Int).toNat).length < room 24 then
                              if (0 : Int) ≤ (IntKind.i64.wrap (r3 + 1)) ∧ ((IntKind.i64.wrap (r3 + 1)) : Int) ≤ p0.2.2.length then
                                if (([] : List (ByteArray × Int)) ++ (p0.2.2.take (r3 : Int).toNat)).length + (p0.2.2.drop ((IntKind.i64.wrap (r3 + 1)) : Int).toNat).length < room 24 then
                                  some ((p0.1, (p0.2.1, (([] : List (ByteArray × Int)) ++ (p0.2.2.take (r3 : Int).toNat)) ++ (p0.2.2.drop ((IntKind.i64.wrap (r3 + 1)) : Int).toNat))), 0)
                                else
                                  none
                              else
                                none
                            else
                              none
                          ) (
                            if (0 : Int) ≤ (IntKind.i64.wrap (r3 + 1)) ∧ ((IntKind.i64.wrap (r3 + 1)) : Int) ≤ p0.2.2.length then
                              if ([] : List (ByteArray × Int)).length + (p0.2.2.take (r3 : Int).toNat).length < room 24 then
                                if (([] : List (ByteArray × Int)) ++ (p0.2.2.take (r3 : Int).toNat)).length + (p0.2.2.drop ((IntKind.i64.wrap (r3 + 1)) : Int).toNat).length < room 24 then
                                  some ((p0.1, (p0.2.1, (([] : List (ByteArray × Int)) ++ (p0.2.2.take (r3 : Int).toNat)) ++ (p0.2.2.drop ((IntKind.i64.wrap (r3 + 1)) : Int).toNat))), 0)
                                else
                                  none
                              else
                                none
                            else
                              none
                          )
                        ) (
                          agree (
                            if ([] : List (ByteArray × Int)).length + (p0.2.2.take (r3 : Int).toNat).length < room 24 then
                              agree (
                                if (0 : Int) ≤ (IntKind.i64.wrap (r3 + 1)) ∧ ((IntKind.i64.wrap (r3 + 1)) : Int) ≤ p0.2.2.length then
                                  if (([] : List (ByteArray × Int)) ++ (p0.2.2.take (r3 : Int).toNat)).length + (p0.2.2.drop ((IntKind.i64.wrap (r3 + 1)) : Int).toNat).length < room 24 then
                                    some ((p0.1, (p0.2.1, (([] : List (ByteArray × Int)) ++ (p0.2.2.take (r3 : Int).toNat)) ++ (p0.2.2.drop ((IntKind.i64.wrap (r3 + 1)) : Int).toNat))), 0)
                                  else
                                    none
                                else
                                  none
                              ) (
                                if (0 : Int) ≤ (IntKind.i64.wrap (r3 + 1)) ∧ ((IntKind.i64.wrap (r3 + 1)) : Int) ≤ p0.2.2.length then
                                  agree (
                                    if (([] : List (ByteArray × Int)) ++ (p0.2.2.take (r3 : Int).toNat)).length + (p0.2.2.drop ((IntKind.i64.wrap (r3 + 1)) : Int).toNat).length < room 24 then
                                      some ((p0.1, (p0.2.1, (([] : List (ByteArray × Int)) ++ (p0.2.2.take (r3 : Int).toNat)) ++ (p0.2.2.drop ((IntKind.i64.wrap (r3 + 1)) : Int).toNat))), 0)
                                    else
                                      none
                                  ) (
                                    if (([] : List (ByteArray × Int)) ++ (p0.2.2.take (r3 : Int).toNat)).length + (p0.2.2.drop ((IntKind.i64.wrap (r3 + 1)) : Int).toNat).length < room 24 then
                                      some ((p0.1, (p0.2.1, (([] : List (ByteArray × Int)) ++ (p0.2.2.take (r3 : Int).toNat)) ++ (p0.2.2.drop ((IntKind.i64.wrap (r3 + 1)) : Int).toNat))), 0)
                                    else
                                      none
                                  )
                                else
                                  none
                              )
                            else
                              none
                          ) (
                            if (0 : Int) ≤ (IntKind.i64.wrap (r3 + 1)) ∧ ((IntKind.i64.wrap (r3 + 1)) : Int) ≤ p0.2.2.length then
                              agree (
                                if ([] : List (ByteArray × Int)).length + (p0.2.2.take (r3 : Int).toNat).length < room 24 then
                                  if (([] : List (ByteArray × Int)) ++ (p0.2.2.take (r3 : Int).toNat)).length + (p0.2.2.drop ((IntKind.i64.wrap (r3 + 1)) : Int).toNat).length < room 24 then
                                    some ((p0.1, (p0.2.1, (([] : List (ByteArray × Int)) ++ (p0.2.2.take (r3 : Int).toNat)) ++ (p0.2.2.drop ((IntKind.i64.wrap (r3 + 1)) : Int).toNat))), 0)
                                  else
                                    none
                                else
                                  none
                              ) (
                                if ([] : List (ByteArray × Int)).length + (p0.2.2.take (r3 : Int).toNat).length < room 24 then
                                  agree (
                                    if (([] : List (ByteArray × Int)) ++ (p0.2.2.take (r3 : Int).toNat)).length + (p0.2.2.drop ((IntKind.i64.wrap (r3 + 1)) : Int).toNat).length < room 24 then
                                      some ((p0.1, (p0.2.1, (([] : List (ByteArray × Int)) ++ (p0.2.2.take (r3 : Int).toNat)) ++ (p0.2.2.drop ((IntKind.i64.wrap (r3 + 1)) : Int).toNat))), 0)
                                    else
                                      none
                                  ) (
                                    if (([] : List (ByteArray × Int)) ++ (p0.2.2.take (r3 : Int).toNat)).length + (p0.2.2.drop ((IntKind.i64.wrap (r3 + 1)) : Int).toNat).length < room 24 then
                                      some ((p0.1, (p0.2.1, (([] : List (ByteArray × Int)) ++ (p0.2.2.take (r3 : Int).toNat)) ++ (p0.2.2.drop ((IntKind.i64.wrap (r3 + 1)) : Int).toNat))), 0)
                                    else
                                      none
                                  )
                                else
                                  none
                              )
                            else
                              none
                          )
                        )
                      ) (
                        if (0 : Int) ≤ (IntKind.i64.wrap (r3 + 1)) ∧ ((IntKind.i64.wrap (r3 + 1)) : Int) ≤ p0.2.2.length then
                          agree (
                            if ([] : List (ByteArray × Int)).length + (p0.2.2.take (r3 : Int).toNat).length < room 24 then
                              if (([] : List (ByteArray × Int)) ++ (p0.2.2.take (r3 : Int).toNat)).length + (p0.2.2.drop ((IntKind.i64.wrap (r3 + 1)) : Int).toNat).length < room 24 then
                                some ((p0.1, (p0.2.1, (([] : List (ByteArray × Int)) ++ (p0.2.2.take (r3 : Int).toNat)) ++ (p0.2.2.drop ((IntKind.i64.wrap (r3 + 1)) : Int).toNat))), 0)
                              else
                                none
                            else
                              none
                          ) (
                            agree (
                              if ([] : List (ByteArray × Int)).length + (p0.2.2.take (r3 : Int).toNat).length < room 24 then
                                if (([] : List (ByteArray × Int)) ++ (p0.2.2.take (r3 : Int).toNat)).length + (p0.2.2.drop ((IntKind.i64.wrap (r3 + 1)) : Int).toNat).length < room 24 then
                                  some ((p0.1, (p0.2.1, (([] : List (ByteArray × Int)) ++ (p0.2.2.take (r3 : Int).toNat)) ++ (p0.2.2.drop ((IntKind.i64.wrap (r3 + 1)) : Int).toNat))), 0)
                                else
                                  none
                              else
                                none
                            ) (
                              if ([] : List (ByteArray × Int)).length + (p0.2.2.take (r3 : Int).toNat).length < room 24 then
                                agree (
                                  if (([] : List (ByteArray × Int)) ++ (p0.2.2.take (r3 : Int).toNat)).length + (p0.2.2.drop ((IntKind.i64.wrap (r3 + 1)) : Int).toNat).length < room 24 then
                                    some ((p0.1, (p0.2.1, (([] : List (ByteArray × Int)) ++ (p0.2.2.take (r3 : Int).toNat)) ++ (p0.2.2.drop ((IntKind.i64.wrap (r3 + 1)) : Int).toNat))), 0)
                                  else
                                    none
                                ) (
                                  if (([] : List (ByteArray × Int)) ++ (p0.2.2.take (r3 : Int).toNat)).length + (p0.2.2.drop ((IntKind.i64.wrap (r3 + 1)) : Int).toNat).length < room 24 then
                                    some ((p0.1, (p0.2.1, (([] : List (ByteArray × Int)) ++ (p0.2.2.take (r3 : Int).toNat)) ++ (p0.2.2.drop ((IntKind.i64.wrap (r3 + 1)) : Int).toNat))), 0)
                                  else
                                    none
                                )
                              else
                                none
                            )
                          )
                        else
                          none
                      )
                    )
                  ) (
                    agree (
                      agree (
                        agree (
                          agree (
                            if ([] : List (ByteArray × Int)).length + (p0.2.2.take (r3 : Int).toNat).length < room 24 then
                              if (0 : Int) ≤ (IntKind.i64.wrap (r3 + 1)) ∧ ((IntKind.i64.wrap (r3 + 1)) : Int) ≤ p0.2.2.length then
                                if (([] : List (ByteArray × Int)) ++ (p0.2.2.take (r3 : Int).toNat)).length + (p0.2.2.drop ((IntKind.i64.wrap (r3 + 1)) : Int).toNat).length < room 24 then
                                  some ((p0.1, (p0.2.1, (([] : List (ByteArray × Int)) ++ (p0.2.2.take (r3 : Int).toNat)) ++ (p0.2.2.drop ((IntKind.i64.wrap (r3 + 1)) : Int).toNat))), 0)
                                else
                                  none
                              else
                                none
                            else
                              none
                          ) (
                            if (0 : Int) ≤ (IntKind.i64.wrap (r3 + 1)) ∧ ((IntKind.i64.wrap (r3 + 1)) : Int) ≤ p0.2.2.length then
                              if ([] : List (ByteArray × Int)).length + (p0.2.2.take (r3 : Int).toNat).length < room 24 then
                                if (([] : List (ByteArray × Int)) ++ (p0.2.2.take (r3 : Int).toNat)).length + (p0.2.2.drop ((IntKind.i64.wrap (r3 + 1)) : Int).toNat).length < room 24 then
                                  some ((p0.1, (p0.2.1, (([] : List (ByteArray × Int)) ++ (p0.2.2.take (r3 : Int).toNat)) ++ (p0.2.2.drop ((IntKind.i64.wrap (r3 + 1)) : Int).toNat))), 0)
                                else
                                  none
                              else
                                none
                            else
                              none
                          )
                        ) (
                          if (0 : Int) ≤ (IntKind.i64.wrap (r3 + 1)) ∧ ((IntKind.i64.wrap (r3 + 1)) : Int) ≤ p0.2.2.length then
                            if ([] : List (ByteArray × Int)).length + (p0.2.2.take (r3 : Int).toNat).length < room 24 then
                              if (([] : List (ByteArray × Int)) ++ (p0.2.2.take (r3 : Int).toNat)).length + (p0.2.2.drop ((IntKind.i64.wrap (r3 + 1)) : Int).toNat).length < room 24 then
                                some ((p0.1, (p0.2.1, (([] : List (ByteArray × Int)) ++ (p0.2.2.take (r3 : Int).toNat)) ++ (p0.2.2.drop ((IntKind.i64.wrap (r3 + 1)) : Int).toNat))), 0)
                              else
                                none
                            else
                              none
                          else
                            none
                        )
                      ) (
                        agree (
                          agree (
                            agree (
                              if ([] : List (ByteArray × Int)).length + (p0.2.2.take (r3 : Int).toNat).length < room 24 then
                                if (0 : Int) ≤ (IntKind.i64.wrap (r3 + 1)) ∧ ((IntKind.i64.wrap (r3 + 1)) : Int) ≤ p0.2.2.length then
                                  if (([] : List (ByteArray × Int)) ++ (p0.2.2.take (r3 : Int).toNat)).length + (p0.2.2.drop ((IntKind.i64.wrap (r3 + 1)) : Int).toNat).length < room 24 then
                                    some ((p0.1, (p0.2.1, (([] : List (ByteArray × Int)) ++ (p0.2.2.take (r3 : Int).toNat)) ++ (p0.2.2.drop ((IntKind.i64.wrap (r3 + 1)) : Int).toNat))), 0)
                                  else
                                    none
                                else
                                  none
                              else
                                none
                            ) (
                              if (0 : Int) ≤ (IntKind.i64.wrap (r3 + 1)) ∧ ((IntKind.i64.wrap (r3 + 1)) : Int) ≤ p0.2.2.length then
                                if ([] : List (ByteArray × Int)).length + (p0.2.2.take (r3 : Int).toNat).length < room 24 then
                                  if (([] : List (ByteArray × Int)) ++ (p0.2.2.take (r3 : Int).toNat)).length + (p0.2.2.drop ((IntKind.i64.wrap (r3 + 1)) : Int).toNat).length < room 24 then
                                    some ((p0.1, (p0.2.1, (([] : List (ByteArray × Int)) ++ (p0.2.2.take (r3 : Int).toNat)) ++ (p0.2.2.drop ((IntKind.i64.wrap (r3 + 1)) : Int).toNat))), 0)
                                  else
                                    none
                                else
                                  none
                              else
                                none
                            )
                          ) (
                            agree (
                              if ([] : List (ByteArray × Int)).length + (p0.2.2.take (r3 : Int).toNat).length < room 24 then
                                agree (
                                  if (0 : Int) ≤ (IntKind.i64.wrap (r3 + 1)) ∧ ((IntKind.i64.wrap (r3 + 1)) : Int) ≤ p0.2.2.length then
                                    if (([] : List (ByteArray × Int)) ++ (p0.2.2.take (r3 : Int).toNat)).length + (p0.2.2.drop ((IntKind.i64.wrap (r3 + 1)) : Int).toNat).length < room 24 then
                                      some ((p0.1, (p0.2.1, (([] : List (ByteArray × Int)) ++ (p0.2.2.take (r3 : Int).toNat)) ++ (p0.2.2.drop ((IntKind.i64.wrap (r3 + 1)) : Int).toNat))), 0)
                                    else
                                      none
                                  else
                                    none
                                ) (
                                  if (0 : Int) ≤ (IntKind.i64.wrap (r3 + 1)) ∧ ((IntKind.i64.wrap (r3 + 1)) : Int) ≤ p0.2.2.length then
                                    agree (
                                      if (([] : List (ByteArray × Int)) ++ (p0.2.2.take (r3 : Int).toNat)).length + (p0.2.2.drop ((IntKind.i64.wrap (r3 + 1)) : Int).toNat).length < room 24 then
                                        some ((p0.1, (p0.2.1, (([] : List (ByteArray × Int)) ++ (p0.2.2.take (r3 : Int).toNat)) ++ (p0.2.2.drop ((IntKind.i64.wrap (r3 + 1)) : Int).toNat))), 0)
                                      else
                                        none
                                    ) (
                                      if (([] : List (ByteArray × Int)) ++ (p0.2.2.take (r3 : Int).toNat)).length + (p0.2.2.drop ((IntKind.i64.wrap (r3 + 1)) : Int).toNat).length < room 24 then
                                        some ((p0.1, (p0.2.1, (([] : List (ByteArray × Int)) ++ (p0.2.2.take (r3 : Int).toNat)) ++ (p0.2.2.drop ((IntKind.i64.wrap (r3 + 1)) : Int).toNat))), 0)
                                      else
                                        none
                                    )
                                  else
                                    none
                                )
                              else
                                none
                            ) (
                              if (0 : Int) ≤ (IntKind.i64.wrap (r3 + 1)) ∧ ((IntKind.i64.wrap (r3 + 1)) : Int) ≤ p0.2.2.length then
                                agree (
                                  if ([] : List (ByteArray × Int)).length + (p0.2.2.take (r3 : Int).toNat).length < room 24 then
                                    if (([] : List (ByteArray × Int)) ++ (p0.2.2.take (r3 : Int).toNat)).length + (p0.2.2.drop ((IntKind.i64.wrap (r3 + 1)) : Int).toNat).length < room 24 then
                                      some ((p0.1, (p0.2.1, (([] : List (ByteArray × Int)) ++ (p0.2.2.take (r3 : Int).toNat)) ++ (p0.2.2.drop ((IntKind.i64.wrap (r3 + 1)) : Int).toNat))), 0)
                                    else
                                      none
                                  else
                                    none
                                ) (
                                  if ([] : List (ByteArray × Int)).length + (p0.2.2.take (r3 : Int).toNat).length < room 24 then
                                    agree (
                                      if (([] : List (ByteArray × Int)) ++ (p0.2.2.take (r3 : Int).toNat)).length + (p0.2.2.drop ((IntKind.i64.wrap (r3 + 1)) : Int).toNat).length < room 24 then
                                        some ((p0.1, (p0.2.1, (([] : List (ByteArray × Int)) ++ (p0.2.2.take (r3 : Int).toNat)) ++ (p0.2.2.drop ((IntKind.i64.wrap (r3 + 1)) : Int).toNat))), 0)
                                      else
                                        none
                                    ) (
                                      if (([] : List (ByteArray × Int)) ++ (p0.2.2.take (r3 : Int).toNat)).length + (p0.2.2.drop ((IntKind.i64.wrap (r3 + 1)) : Int).toNat).length < room 24 then
                                        some ((p0.1, (p0.2.1, (([] : List (ByteArray × Int)) ++ (p0.2.2.take (r3 : Int).toNat)) ++ (p0.2.2.drop ((IntKind.i64.wrap (r3 + 1)) : Int).toNat))), 0)
                                      else
                                        none
                                    )
                                  else
                                    none
                                )
                              else
                                none
                            )
                          )
                        ) (
                          if (0 : Int) ≤ (IntKind.i64.wrap (r3 + 1)) ∧ ((IntKind.i64.wrap (r3 + 1)) : Int) ≤ p0.2.2.length then
                            agree (
                              if ([] : List (ByteArray × Int)).length + (p0.2.2.take (r3 : Int).toNat).length < room 24 then
                                if (([] : List (ByteArray × Int)) ++ (p0.2.2.take (r3 : Int).toNat)).length + (p0.2.2.drop ((IntKind.i64.wrap (r3 + 1)) : Int).toNat).length < room 24 then
                                  some ((p0.1, (p0.2.1, (([] : List (ByteArray × Int)) ++ (p0.2.2.take (r3 : Int).toNat)) ++ (p0.2.2.drop ((IntKind.i64.wrap (r3 + 1)) : Int).toNat))), 0)
                                else
                                  none
                              else
                                none
                            ) (
                              agree (
                                if ([] : List (ByteArray × Int)).length + (p0.2.2.take (r3 : Int).toNat).length < room 24 then
                                  if (([] : List (ByteArray × Int)) ++ (p0.2.2.take (r3 : Int).toNat)).length + (p0.2.2.drop ((IntKind.i64.wrap (r3 + 1)) : Int).toNat).length < room 24 then
                                    some ((p0.1, (p0.2.1, (([] : List (ByteArray × Int)) ++ (p0.2.2.take (r3 : Int).toNat)) ++ (p0.2.2.drop ((IntKind.i64.wrap (r3 + 1)) : Int).toNat))), 0)
                                  else
                                    none
                                else
                                  none
                              ) (
                                if ([] : List (ByteArray × Int)).length + (p0.2.2.take (r3 : Int).toNat).length < room 24 then
                                  agree (
                                    if (([] : List (ByteArray × Int)) ++ (p0.2.2.take (r3 : Int).toNat)).length + (p0.2.2.drop ((IntKind.i64.wrap (r3 + 1)) : Int).toNat).length < room 24 then
                                      some ((p0.1, (p0.2.1, (([] : List (ByteArray × Int)) ++ (p0.2.2.take (r3 : Int).toNat)) ++ (p0.2.2.drop ((IntKind.i64.wrap (r3 + 1)) : Int).toNat))), 0)
                                    else
                                      none
                                  ) (
                                    if (([] : List (ByteArray × Int)) ++ (p0.2.2.take (r3 : Int).toNat)).length + (p0.2.2.drop ((IntKind.i64.wrap (r3 + 1)) : Int).toNat).length < room 24 then
                                      some ((p0.1, (p0.2.1, (([] : List (ByteArray × Int)) ++ (p0.2.2.take (r3 : Int).toNat)) ++ (p0.2.2.drop ((IntKind.i64.wrap (r3 + 1)) : Int).toNat))), 0)
                                    else
                                      none
                                  )
                                else
                                  none
                              )
                            )
                          else
                            none
                        )
                      )
                    ) (
                      agree (
                        agree (
                          agree (
                            agree (
                              if ([] : List (ByteArray × Int)).length + (p0.2.2.take (r3 : Int).toNat).length < room 24 then
                                if (0 : Int) ≤ (IntKind.i64.wrap (r3 + 1)) ∧ ((IntKind.i64.wrap (r3 + 1)) : Int) ≤ p0.2.2.length then
                                  if (([] : List (ByteArray × Int)) ++ (p0.2.2.take (r3 : Int).toNat)).length + (p0.2.2.drop ((IntKind.i64.wrap (r3 + 1)) : Int).toNat).length < room 24 then
                                    some ((p0.1, (p0.2.1, (([] : List (ByteArray × Int)) ++ (p0.2.2.take (r3 : Int).toNat)) ++ (p0.2.2.drop ((IntKind.i64.wrap (r3 + 1)) : Int).toNat))), 0)
                                  else
                                    none
                                else
                                  none
                              else
                                none
                            ) (
                              if (0 : Int) ≤ (IntKind.i64.wrap (r3 + 1)) ∧ ((IntKind.i64.wrap (r3 + 1)) : Int) ≤ p0.2.2.length then
                                if ([] : List (ByteArray × Int)).length + (p0.2.2.take (r3 : Int).toNat).length < room 24 then
                                  if (([] : List (ByteArray × Int)) ++ (p0.2.2.take (r3 : Int).toNat)).length + (p0.2.2.drop ((IntKind.i64.wrap (r3 + 1)) : Int).toNat).length < room 24 then
                                    some ((p0.1, (p0.2.1, (([] : List (ByteArray × Int)) ++ (p0.2.2.take (r3 : Int).toNat)) ++ (p0.2.2.drop ((IntKind.i64.wrap (r3 + 1)) : Int).toNat))), 0)
                                  else
                                    none
                                else
                                  none
                              else
                                none
                            )
                          ) (
                            agree (
                              if ([] : List (ByteArray × Int)).length + (p0.2.2.take (r3 : Int).toNat).length < room 24 then
                                agree (
                                  if (0 : Int) ≤ (IntKind.i64.wrap (r3 + 1)) ∧ ((IntKind.i64.wrap (r3 + 1)) : Int) ≤ p0.2.2.length then
                                    if (([] : List (ByteArray × Int)) ++ (p0.2.2.take (r3 : Int).toNat)).length + (p0.2.2.drop ((IntKind.i64.wrap (r3 + 1)) : Int).toNat).length < room 24 then
                                      some ((p0.1, (p0.2.1, (([] : List (ByteArray × Int)) ++ (p0.2.2.take (r3 : Int).toNat)) ++ (p0.2.2.drop ((IntKind.i64.wrap (r3 + 1)) : Int).toNat))), 0)
                                    else
                                      none
                                  else
                                    none
                                ) (
                                  if (0 : Int) ≤ (IntKind.i64.wrap (r3 + 1)) ∧ ((IntKind.i64.wrap (r3 + 1)) : Int) ≤ p0.2.2.length then
                                    agree (
                                      if (([] : List (ByteArray × Int)) ++ (p0.2.2.take (r3 : Int).toNat)).length + (p0.2.2.drop ((IntKind.i64.wrap (r3 + 1)) : Int).toNat).length < room 24 then
                                        some ((p0.1, (p0.2.1, (([] : List (ByteArray × Int)) ++ (p0.2.2.take (r3 : Int).toNat)) ++ (p0.2.2.drop ((IntKind.i64.wrap (r3 + 1)) : Int).toNat))), 0)
                                      else
                                        none
                                    ) (
                                      if (([] : List (ByteArray × Int)) ++ (p0.2.2.take (r3 : Int).toNat)).length + (p0.2.2.drop ((IntKind.i64.wrap (r3 + 1)) : Int).toNat).length < room 24 then
                                        some ((p0.1, (p0.2.1, (([] : List (ByteArray × Int)) ++ (p0.2.2.take (r3 : Int).toNat)) ++ (p0.2.2.drop ((IntKind.i64.wrap (r3 + 1)) : Int).toNat))), 0)
                                      else
                                        none
                                    )
                                  else
                                    none
                                )
                              else
                                none
                            ) (
                              if (0 : Int) ≤ (IntKind.i64.wrap (r3 + 1)) ∧ ((IntKind.i64.wrap (r3 + 1)) : Int) ≤ p0.2.2.length then
                                agree (
                                  if ([] : List (ByteArray × Int)).length + (p0.2.2.take (r3 : Int).toNat).length < room 24 then
                                    if (([] : List (ByteArray × Int)) ++ (p0.2.2.take (r3 : Int).toNat)).length + (p0.2.2.drop ((IntKind.i64.wrap (r3 + 1)) : Int).toNat).length < room 24 then
                                      some ((p0.1, (p0.2.1, (([] : List (ByteArray × Int)) ++ (p0.2.2.take (r3 : Int).toNat)) ++ (p0.2.2.drop ((IntKind.i64.wrap (r3 + 1)) : Int).toNat))), 0)
                                    else
                                      none
                                  else
                                    none
                                ) (
                                  if ([] : List (ByteArray × Int)).length + (p0.2.2.take (r3 : Int).toNat).length < room 24 then
                                    agree (
                                      if (([] : List (ByteArray × Int)) ++ (p0.2.2.take (r3 : Int).toNat)).length + (p0.2.2.drop ((IntKind.i64.wrap (r3 + 1)) : Int).toNat).length < room 24 then
                                        some ((p0.1, (p0.2.1, (([] : List (ByteArray × Int)) ++ (p0.2.2.take (r3 : Int).toNat)) ++ (p0.2.2.drop ((IntKind.i64.wrap (r3 + 1)) : Int).toNat))), 0)
                                      else
                                        none
                                    ) (
                                      if (([] : List (ByteArray × Int)) ++ (p0.2.2.take (r3 : Int).toNat)).length + (p0.2.2.drop ((IntKind.i64.wrap (r3 + 1)) : Int).toNat).length < room 24 then
                                        some ((p0.1, (p0.2.1, (([] : List (ByteArray × Int)) ++ (p0.2.2.take (r3 : Int).toNat)) ++ (p0.2.2.drop ((IntKind.i64.wrap (r3 + 1)) : Int).toNat))), 0)
                                      else
                                        none
                                    )
                                  else
                                    none
                                )
                              else
                                none
                            )
                          )
                        ) (
                          agree (
                            agree (
                              agree (
                                if ([] : List (ByteArray × Int)).length + (p0.2.2.take (r3 : Int).toNat).length < room 24 then
                                  if (0 : Int) ≤ (IntKind.i64.wrap (r3 + 1)) ∧ ((IntKind.i64.wrap (r3 + 1)) : Int) ≤ p0.2.2.length then
                                    if (([] : List (ByteArray × Int)) ++ (p0.2.2.take (r3 : Int).toNat)).length + (p0.2.2.drop ((IntKind.i64.wrap (r3 + 1)) : Int).toNat).length < room 24 then
                                      some ((p0.1, (p0.2.1, (([] : List (ByteArray × Int)) ++ (p0.2.2.take (r3 : Int).toNat)) ++ (p0.2.2.drop ((IntKind.i64.wrap (r3 + 1)) : Int).toNat))), 0)
                                    else
                                      none
                                  else
                                    none
                                else
                                  none
                              ) (
                                if (0 : Int) ≤ (IntKind.i64.wrap (r3 + 1)) ∧ ((IntKind.i64.wrap (r3 + 1)) : Int) ≤ p0.2.2.length then
                                  if ([] : List (ByteArray × Int)).length + (p0.2.2.take (r3 : Int).toNat).length < room 24 then
                                    if (([] : List (ByteArray × Int)) ++ (p0.2.2.take (r3 : Int).toNat)).length + (p0.2.2.drop ((IntKind.i64.wrap (r3 + 1)) : Int).toNat).length < room 24 then
                                      some ((p0.1, (p0.2.1, (([] : List (ByteArray × Int)) ++ (p0.2.2.take (r3 : Int).toNat)) ++ (p0.2.2.drop ((IntKind.i64.wrap (r3 + 1)) : Int).toNat))), 0)
                                    else
                                      none
                                  else
                                    none
                                else
                                  none
                              )
                            ) (
                              agree (
                                if ([] : List (ByteArray × Int)).length + (p0.2.2.take (r3 : Int).toNat).length < room 24 then
                                  agree (
                                    if (0 : Int) ≤ (IntKind.i64.wrap (r3 + 1)) ∧ ((IntKind.i64.wrap (r3 + 1)) : Int) ≤ p0.2.2.length then
                                      if (([] : List (ByteArray × Int)) ++ (p0.2.2.take (r3 : Int).toNat)).length + (p0.2.2.drop ((IntKind.i64.wrap (r3 + 1)) : Int).toNat).length < room 24 then
                                        some ((p0.1, (p0.2.1, (([] : List (ByteArray × Int)) ++ (p0.2.2.take (r3 : Int).toNat)) ++ (p0.2.2.drop ((IntKind.i64.wrap (r3 + 1)) : Int).toNat))), 0)
                                      else
                                        none
                                    else
                                      none
                                  ) (
                                    if (0 : Int) ≤ (IntKind.i64.wrap (r3 + 1)) ∧ ((IntKind.i64.wrap (r3 + 1)) : Int) ≤ p0.2.2.length then
                                      agree (
                                        if (([] : List (ByteArray × Int)) ++ (p0.2.2.take (r3 : Int).toNat)).length + (p0.2.2.drop ((IntKind.i64.wrap (r3 + 1)) : Int).toNat).length < room 24 then
                                          some ((p0.1, (p0.2.1, (([] : List (ByteArray × Int)) ++ (p0.2.2.take (r3 : Int).toNat)) ++ (p0.2.2.drop ((IntKind.i64.wrap (r3 + 1)) : Int).toNat))), 0)
                                        else
                                          none
                                      ) (
                                        if (([] : List (ByteArray × Int)) ++ (p0.2.2.take (r3 : Int).toNat)).length + (p0.2.2.drop ((IntKind.i64.wrap (r3 + 1)) : Int).toNat).length < room 24 then
                                          some ((p0.1, (p0.2.1, (([] : List (ByteArray × Int)) ++ (p0.2.2.take (r3 : Int).toNat)) ++ (p0.2.2.drop ((IntKind.i64.wrap (r3 + 1)) : Int).toNat))), 0)
                                        else
                                          none
                                      )
                                    else
                                      none
                                  )
                                else
                                  none
                              ) (
                                if (0 : Int) ≤ (IntKind.i64.wrap (r3 + 1)) ∧ ((IntKind.i64.wrap (r3 + 1)) : Int) ≤ p0.2.2.length then
                                  agree (
                                    if ([] : List (ByteArray × Int)).length + (p0.2.2.take (r3 : Int).toNat).length < room 24 then
                                      if (([] : List (ByteArray × Int)) ++ (p0.2.2.take (r3 : Int).toNat)).length + (p0.2.2.drop ((IntKind.i64.wrap (r3 + 1)) : Int).toNat).length < room 24 then
                                        some ((p0.1, (p0.2.1, (([] : List (ByteArray × Int)) ++ (p0.2.2.take (r3 : Int).toNat)) ++ (p0.2.2.drop ((IntKind.i64.wrap (r3 + 1)) : Int).toNat))), 0)
                                      else
                                        none
                                    else
                                      none
                                  ) (
                                    if ([] : List (ByteArray × Int)).length + (p0.2.2.take (r3 : Int).toNat).length < room 24 then
                                      agree (
                                        if (([] : List (ByteArray × Int)) ++ (p0.2.2.take (r3 : Int).toNat)).length + (p0.2.2.drop ((IntKind.i64.wrap (r3 + 1)) : Int).toNat).length < room 24 then
                                          some ((p0.1, (p0.2.1, (([] : List (ByteArray × Int)) ++ (p0.2.2.take (r3 : Int).toNat)) ++ (p0.2.2.drop ((IntKind.i64.wrap (r3 + 1)) : Int).toNat))), 0)
                                        else
                                          none
                                      ) (
                                        if (([] : List (ByteArray × Int)) ++ (p0.2.2.take (r3 : Int).toNat)).length + (p0.2.2.drop ((IntKind.i64.wrap (r3 + 1)) : Int).toNat).length < room 24 then
                                          some ((p0.1, (p0.2.1, (([] : List (ByteArray × Int)) ++ (p0.2.2.take (r3 : Int).toNat)) ++ (p0.2.2.drop ((IntKind.i64.wrap (r3 + 1)) : Int).toNat))), 0)
                                        else
                                          none
                                      )
                                    else
                                      none
                                  )
                                else
                                  none
                              )
                            )
                          ) (
                            agree (
                              if ([] : List (ByteArray × Int)).length + (p0.2.2.take (r3 : Int).toNat).length < room 24 then
                                agree (
                                  agree (
                                    if (0 : Int) ≤ (IntKind.i64.wrap (r3 + 1)) ∧ ((IntKind.i64.wrap (r3 + 1)) : Int) ≤ p0.2.2.length then
                                      if (([] : List (ByteArray × Int)) ++ (p0.2.2.take (r3 : Int).toNat)).length + (p0.2.2.drop ((IntKind.i64.wrap (r3 + 1)) : Int).toNat).length < room 24 then
                                        some ((p0.1, (p0.2.1, (([] : List (ByteArray × Int)) ++ (p0.2.2.take (r3 : Int).toNat)) ++ (p0.2.2.drop ((IntKind.i64.wrap (r3 + 1)) : Int).toNat))), 0)
                                      else
                                        none
                                    else
                                      none
                                  ) (
                                    if (0 : Int) ≤ (IntKind.i64.wrap (r3 + 1)) ∧ ((IntKind.i64.wrap (r3 + 1)) : Int) ≤ p0.2.2.length then
                                      agree (
                                        if (([] : List (ByteArray × Int)) ++ (p0.2.2.take (r3 : Int).toNat)).length + (p0.2.2.drop ((IntKind.i64.wrap (r3 + 1)) : Int).toNat).length < room 24 then
                                          some ((p0.1, (p0.2.1, (([] : List (ByteArray × Int)) ++ (p0.2.2.take (r3 : Int).toNat)) ++ (p0.2.2.drop ((IntKind.i64.wrap (r3 + 1)) : Int).toNat))), 0)
                                        else
                                          none
                                      ) (
                                        if (([] : List (ByteArray × Int)) ++ (p0.2.2.take (r3 : Int).toNat)).length + (p0.2.2.drop ((IntKind.i64.wrap (r3 + 1)) : Int).toNat).length < room 24 then
                                          some ((p0.1, (p0.2.1, (([] : List (ByteArray × Int)) ++ (p0.2.2.take (r3 : Int).toNat)) ++ (p0.2.2.drop ((IntKind.i64.wrap (r3 + 1)) : Int).toNat))), 0)
                                        else
                                          none
                                      )
                                    else
                                      none
                                  )
                                ) (
                                  agree (
                                    agree (
                                      if (0 : Int) ≤ (IntKind.i64.wrap (r3 + 1)) ∧ ((IntKind.i64.wrap (r3 + 1)) : Int) ≤ p0.2.2.length then
                                        if (([] : List (ByteArray × Int)) ++ (p0.2.2.take (r3 : Int).toNat)).length + (p0.2.2.drop ((IntKind.i64.wrap (r3 + 1)) : Int).toNat).length < room 24 then
                                          some ((p0.1, (p0.2.1, (([] : List (ByteArray × Int)) ++ (p0.2.2.take (r3 : Int).toNat)) ++ (p0.2.2.drop ((IntKind.i64.wrap (r3 + 1)) : Int).toNat))), 0)
                                        else
                                          none
                                      else
                                        none
                                    ) (
                                      if (0 : Int) ≤ (IntKind.i64.wrap (r3 + 1)) ∧ ((IntKind.i64.wrap (r3 + 1)) : Int) ≤ p0.2.2.length then
                                        agree (
                                          if (([] : List (ByteArray × Int)) ++ (p0.2.2.take (r3 : Int).toNat)).length + (p0.2.2.drop ((IntKind.i64.wrap (r3 + 1)) : Int).toNat).length < room 24 then
                                            some ((p0.1, (p0.2.1, (([] : List (ByteArray × Int)) ++ (p0.2.2.take (r3 : Int).toNat)) ++ (p0.2.2.drop ((IntKind.i64.wrap (r3 + 1)) : Int).toNat))), 0)
                                          else
                                            none
                                        ) (
                                          if (([] : List (ByteArray × Int)) ++ (p0.2.2.take (r3 : Int).toNat)).length + (p0.2.2.drop ((IntKind.i64.wrap (r3 + 1)) : Int).toNat).length < room 24 then
                                            some ((p0.1, (p0.2.1, (([] : List (ByteArray × Int)) ++ (p0.2.2.take (r3 : Int).toNat)) ++ (p0.2.2.drop ((IntKind.i64.wrap (r3 + 1)) : Int).toNat))), 0)
                                          else
                                            none
                                        )
                                      else
                                        none
                                    )
                                  ) (
                                    if (0 : Int) ≤ (IntKind.i64.wrap (r3 + 1)) ∧ ((IntKind.i64.wrap (r3 + 1)) : Int) ≤ p0.2.2.length then
                                      agree (
                                        agree (
                                          if (([] : List (ByteArray × Int)) ++ (p0.2.2.take (r3 : Int).toNat)).length + (p0.2.2.drop ((IntKind.i64.wrap (r3 + 1)) : Int).toNat).length < room 24 then
                                            some ((p0.1, (p0.2.1, (([] : List (ByteArray × Int)) ++ (p0.2.2.take (r3 : Int).toNat)) ++ (p0.2.2.drop ((IntKind.i64.wrap (r3 + 1)) : Int).toNat))), 0)
                                          else
                                            none
                                        ) (
                                          if (([] : List (ByteArray × Int)) ++ (p0.2.2.take (r3 : Int).toNat)).length + (p0.2.2.drop ((IntKind.i64.wrap (r3 + 1)) : Int).toNat).length < room 24 then
                                            some ((p0.1, (p0.2.1, (([] : List (ByteArray × Int)) ++ (p0.2.2.take (r3 : Int).toNat)) ++ (p0.2.2.drop ((IntKind.i64.wrap (r3 + 1)) : Int).toNat))), 0)
                                          else
                                            none
                                        )
                                      ) (
                                        agree (
                                          agree (
                                            if (([] : List (ByteArray × Int)) ++ (p0.2.2.take (r3 : Int).toNat)).length + (p0.2.2.drop ((IntKind.i64.wrap (r3 + 1)) : Int).toNat).length < room 24 then
                                              some ((p0.1, (p0.2.1, (([] : List (ByteArray × Int)) ++ (p0.2.2.take (r3 : Int).toNat)) ++ (p0.2.2.drop ((IntKind.i64.wrap (r3 + 1)) : Int).toNat))), 0)
                                            else
                                              none
                                          ) (
                                            if (([] : List (ByteArray × Int)) ++ (p0.2.2.take (r3 : Int).toNat)).length + (p0.2.2.drop ((IntKind.i64.wrap (r3 + 1)) : Int).toNat).length < room 24 then
                                              some ((p0.1, (p0.2.1, (([] : List (ByteArray × Int)) ++ (p0.2.2.take (r3 : Int).toNat)) ++ (p0.2.2.drop ((IntKind.i64.wrap (r3 + 1)) : Int).toNat))), 0)
                                            else
                                              none
                                          )
                                        ) (
                                          if (([] : List (ByteArray × Int)) ++ (p0.2.2.take (r3 : Int).toNat)).length + (p0.2.2.drop ((IntKind.i64.wrap (r3 + 1)) : Int).toNat).length < room 24 then
                                            some ((p0.1, (p0.2.1, (([] : List (ByteArray × Int)) ++ (p0.2.2.take (r3 : Int).toNat)) ++ (p0.2.2.drop ((IntKind.i64.wrap (r3 + 1)) : Int).toNat))), 0)
                                          else
                                            none
                                        )
                                      )
                                    else
                                      none
                                  )
                                )
                              else
                                none
                            ) (
                              if (0 : Int) ≤ (IntKind.i64.wrap (r3 + 1)) ∧ ((IntKind.i64.wrap (r3 + 1)) : Int) ≤ p0.2.2.length then
                                agree (
                                  agree (
                                    if ([] : List (ByteArray × Int)).length + (p0.2.2.take (r3 : Int).toNat).length < room 24 then
                                      if (([] : List (ByteArray × Int)) ++ (p0.2.2.take (r3 : Int).toNat)).length + (p0.2.2.drop ((IntKind.i64.wrap (r3 + 1)) : Int).toNat).length < room 24 then
                                        some ((p0.1, (p0.2.1, (([] : List (ByteArray × Int)) ++ (p0.2.2.take (r3 : Int).toNat)) ++ (p0.2.2.drop ((IntKind.i64.wrap (r3 + 1)) : Int).toNat))), 0)
                                      else
                                        none
                                    else
                                      none
                                  ) (
                                    if ([] : List (ByteArray × Int)).length + (p0.2.2.take (r3 : Int).toNat).length < room 24 then
                                      agree (
                                        if (([] : List (ByteArray × Int)) ++ (p0.2.2.take (r3 : Int).toNat)).length + (p0.2.2.drop ((IntKind.i64.wrap (r3 + 1)) : Int).toNat).length < room 24 then
                                          some ((p0.1, (p0.2.1, (([] : List (ByteArray × Int)) ++ (p0.2.2.take (r3 : Int).toNat)) ++ (p0.2.2.drop ((IntKind.i64.wrap (r3 + 1)) : Int).toNat))), 0)
                                        else
                                          none
                                      ) (
                                        if (([] : List (ByteArray × Int)) ++ (p0.2.2.take (r3 : Int).toNat)).length + (p0.2.2.drop ((IntKind.i64.wrap (r3 + 1)) : Int).toNat).length < room 24 then
                                          some ((p0.1, (p0.2.1, (([] : List (ByteArray × Int)) ++ (p0.2.2.take (r3 : Int).toNat)) ++ (p0.2.2.drop ((IntKind.i64.wrap (r3 + 1)) : Int).toNat))), 0)
                                        else
                                          none
                                      )
                                    else
                                      none
                                  )
                                ) (
                                  agree (
                                    agree (
                                      if ([] : List (ByteArray × Int)).length + (p0.2.2.take (r3 : Int).toNat).length < room 24 then
                                        if (([] : List (ByteArray × Int)) ++ (p0.2.2.take (r3 : Int).toNat)).length + (p0.2.2.drop ((IntKind.i64.wrap (r3 + 1)) : Int).toNat).length < room 24 then
                                          some ((p0.1, (p0.2.1, (([] : List (ByteArray × Int)) ++ (p0.2.2.take (r3 : Int).toNat)) ++ (p0.2.2.drop ((IntKind.i64.wrap (r3 + 1)) : Int).toNat))), 0)
                                        else
                                          none
                                      else
                                        none
                                    ) (
                                      if ([] : List (ByteArray × Int)).length + (p0.2.2.take (r3 : Int).toNat).length < room 24 then
                                        agree (
                                          if (([] : List (ByteArray × Int)) ++ (p0.2.2.take (r3 : Int).toNat)).length + (p0.2.2.drop ((IntKind.i64.wrap (r3 + 1)) : Int).toNat).length < room 24 then
                                            some ((p0.1, (p0.2.1, (([] : List (ByteArray × Int)) ++ (p0.2.2.take (r3 : Int).toNat)) ++ (p0.2.2.drop ((IntKind.i64.wrap (r3 + 1)) : Int).toNat))), 0)
                                          else
                                            none
                                        ) (
                                          if (([] : List (ByteArray × Int)) ++ (p0.2.2.take (r3 : Int).toNat)).length + (p0.2.2.drop ((IntKind.i64.wrap (r3 + 1)) : Int).toNat).length < room 24 then
                                            some ((p0.1, (p0.2.1, (([] : List (ByteArray × Int)) ++ (p0.2.2.take (r3 : Int).toNat)) ++ (p0.2.2.drop ((IntKind.i64.wrap (r3 + 1)) : Int).toNat))), 0)
                                          else
                                            none
                                        )
                                      else
                                        none
                                    )
                                  ) (
                                    if ([] : List (ByteArray × Int)).length + (p0.2.2.take (r3 : Int).toNat).length < room 24 then
                                      agree (
                                        agree (
                                          if (([] : List (ByteArray × Int)) ++ (p0.2.2.take (r3 : Int).toNat)).length + (p0.2.2.drop ((IntKind.i64.wrap (r3 + 1)) : Int).toNat).length < room 24 then
                                            some ((p0.1, (p0.2.1, (([] : List (ByteArray × Int)) ++ (p0.2.2.take (r3 : Int).toNat)) ++ (p0.2.2.drop ((IntKind.i64.wrap (r3 + 1)) : Int).toNat))), 0)
                                          else
                                            none
                                        ) (
                                          if (([] : List (ByteArray × Int)) ++ (p0.2.2.take (r3 : Int).toNat)).length + (p0.2.2.drop ((IntKind.i64.wrap (r3 + 1)) : Int).toNat).length < room 24 then
                                            some ((p0.1, (p0.2.1, (([] : List (ByteArray × Int)) ++ (p0.2.2.take (r3 : Int).toNat)) ++ (p0.2.2.drop ((IntKind.i64.wrap (r3 + 1)) : Int).toNat))), 0)
                                          else
                                            none
                                        )
                                      ) (
                                        agree (
                                          agree (
                                            if (([] : List (ByteArray × Int)) ++ (p0.2.2.take (r3 : Int).toNat)).length + (p0.2.2.drop ((IntKind.i64.wrap (r3 + 1)) : Int).toNat).length < room 24 then
                                              some ((p0.1, (p0.2.1, (([] : List (ByteArray × Int)) ++ (p0.2.2.take (r3 : Int).toNat)) ++ (p0.2.2.drop ((IntKind.i64.wrap (r3 + 1)) : Int).toNat))), 0)
                                            else
                                              none
                                          ) (
                                            if (([] : List (ByteArray × Int)) ++ (p0.2.2.take (r3 : Int).toNat)).length + (p0.2.2.drop ((IntKind.i64.wrap (r3 + 1)) : Int).toNat).length < room 24 then
                                              some ((p0.1, (p0.2.1, (([] : List (ByteArray × Int)) ++ (p0.2.2.take (r3 : Int).toNat)) ++ (p0.2.2.drop ((IntKind.i64.wrap (r3 + 1)) : Int).toNat))), 0)
                                            else
                                              none
                                          )
                                        ) (
                                          if (([] : List (ByteArray × Int)) ++ (p0.2.2.take (r3 : Int).toNat)).length + (p0.2.2.drop ((IntKind.i64.wrap (r3 + 1)) : Int).toNat).length < room 24 then
                                            some ((p0.1, (p0.2.1, (([] : List (ByteArray × Int)) ++ (p0.2.2.take (r3 : Int).toNat)) ++ (p0.2.2.drop ((IntKind.i64.wrap (r3 + 1)) : Int).toNat))), 0)
                                          else
                                            none
                                        )
                                      )
                                    else
                                      none
                                  )
                                )
                              else
                                none
                            )
                          )
                        )
                      ) (
                        if (0 : Int) ≤ (IntKind.i64.wrap (r3 + 1)) ∧ ((IntKind.i64.wrap (r3 + 1)) : Int) ≤ p0.2.2.length then
                          agree (
                            agree (
                              if ([] : List (ByteArray × Int)).length + (p0.2.2.take (r3 : Int).toNat).length < room 24 then
                                if (([] : List (ByteArray × Int)) ++ (p0.2.2.take (r3 : Int).toNat)).length + (p0.2.2.drop ((IntKind.i64.wrap (r3 + 1)) : Int).toNat).length < room 24 then
                                  some ((p0.1, (p0.2.1, (([] : List (ByteArray × Int)) ++ (p0.2.2.take (r3 : Int).toNat)) ++ (p0.2.2.drop ((IntKind.i64.wrap (r3 + 1)) : Int).toNat))), 0)
                                else
                                  none
                              else
                                none
                            ) (
                              agree (
                                if ([] : List (ByteArray × Int)).length + (p0.2.2.take (r3 : Int).toNat).length < room 24 then
                                  if (([] : List (ByteArray × Int)) ++ (p0.2.2.take (r3 : Int).toNat)).length + (p0.2.2.drop ((IntKind.i64.wrap (r3 + 1)) : Int).toNat).length < room 24 then
                                    some ((p0.1, (p0.2.1, (([] : List (ByteArray × Int)) ++ (p0.2.2.take (r3 : Int).toNat)) ++ (p0.2.2.drop ((IntKind.i64.wrap (r3 + 1)) : Int).toNat))), 0)
                                  else
                                    none
                                else
                                  none
                              ) (
                                if ([] : List (ByteArray × Int)).length + (p0.2.2.take (r3 : Int).toNat).length < room 24 then
                                  agree (
                                    if (([] : List (ByteArray × Int)) ++ (p0.2.2.take (r3 : Int).toNat)).length + (p0.2.2.drop ((IntKind.i64.wrap (r3 + 1)) : Int).toNat).length < room 24 then
                                      some ((p0.1, (p0.2.1, (([] : List (ByteArray × Int)) ++ (p0.2.2.take (r3 : Int).toNat)) ++ (p0.2.2.drop ((IntKind.i64.wrap (r3 + 1)) : Int).toNat))), 0)
                                    else
                                      none
                                  ) (
                                    if (([] : List (ByteArray × Int)) ++ (p0.2.2.take (r3 : Int).toNat)).length + (p0.2.2.drop ((IntKind.i64.wrap (r3 + 1)) : Int).toNat).length < room 24 then
                                      some ((p0.1, (p0.2.1, (([] : List (ByteArray × Int)) ++ (p0.2.2.take (r3 : Int).toNat)) ++ (p0.2.2.drop ((IntKind.i64.wrap (r3 + 1)) : Int).toNat))), 0)
                                    else
                                      none
                                  )
                                else
                                  none
                              )
                            )
                          ) (
                            agree (
                              agree (
                                if ([] : List (ByteArray × Int)).length + (p0.2.2.take (r3 : Int).toNat).length < room 24 then
                                  if (([] : List (ByteArray × Int)) ++ (p0.2.2.take (r3 : Int).toNat)).length + (p0.2.2.drop ((IntKind.i64.wrap (r3 + 1)) : Int).toNat).length < room 24 then
                                    some ((p0.1, (p0.2.1, (([] : List (ByteArray × Int)) ++ (p0.2.2.take (r3 : Int).toNat)) ++ (p0.2.2.drop ((IntKind.i64.wrap (r3 + 1)) : Int).toNat))), 0)
                                  else
                                    none
                                else
                                  none
                              ) (
                                agree (
                                  if ([] : List (ByteArray × Int)).length + (p0.2.2.take (r3 : Int).toNat).length < room 24 then
                                    if (([] : List (ByteArray × Int)) ++ (p0.2.2.take (r3 : Int).toNat)).length + (p0.2.2.drop ((IntKind.i64.wrap (r3 + 1)) : Int).toNat).length < room 24 then
                                      some ((p0.1, (p0.2.1, (([] : List (ByteArray × Int)) ++ (p0.2.2.take (r3 : Int).toNat)) ++ (p0.2.2.drop ((IntKind.i64.wrap (r3 + 1)) : Int).toNat))), 0)
                                    else
                                      none
                                  else
                                    none
                                ) (
                                  if ([] : List (ByteArray × Int)).length + (p0.2.2.take (r3 : Int).toNat).length < room 24 then
                                    agree (
                                      if (([] : List (ByteArray × Int)) ++ (p0.2.2.take (r3 : Int).toNat)).length + (p0.2.2.drop ((IntKind.i64.wrap (r3 + 1)) : Int).toNat).length < room 24 then
                                        some ((p0.1, (p0.2.1, (([] : List (ByteArray × Int)) ++ (p0.2.2.take (r3 : Int).toNat)) ++ (p0.2.2.drop ((IntKind.i64.wrap (r3 + 1)) : Int).toNat))), 0)
                                      else
                                        none
                                    ) (
                                      if (([] : List (ByteArray × Int)) ++ (p0.2.2.take (r3 : Int).toNat)).length + (p0.2.2.drop ((IntKind.i64.wrap (r3 + 1)) : Int).toNat).length < room 24 then
                                        some ((p0.1, (p0.2.1, (([] : List (ByteArray × Int)) ++ (p0.2.2.take (r3 : Int).toNat)) ++ (p0.2.2.drop ((IntKind.i64.wrap (r3 + 1)) : Int).toNat))), 0)
                                      else
                                        none
                                    )
                                  else
                                    none
                                )
                              )
                            ) (
                              agree (
                                agree (
                                  if ([] : List (ByteArray × Int)).length + (p0.2.2.take (r3 : Int).toNat).length < room 24 then
                                    if (([] : List (ByteArray × Int)) ++ (p0.2.2.take (r3 : Int).toNat)).length + (p0.2.2.drop ((IntKind.i64.wrap (r3 + 1)) : Int).toNat).length < room 24 then
                                      some ((p0.1, (p0.2.1, (([] : List (ByteArray × Int)) ++ (p0.2.2.take (r3 : Int).toNat)) ++ (p0.2.2.drop ((IntKind.i64.wrap (r3 + 1)) : Int).toNat))), 0)
                                    else
                                      none
                                  else
                                    none
                                ) (
                                  if ([] : List (ByteArray × Int)).length + (p0.2.2.take (r3 : Int).toNat).length < room 24 then
                                    agree (
                                      if (([] : List (ByteArray × Int)) ++ (p0.2.2.take (r3 : Int).toNat)).length + (p0.2.2.drop ((IntKind.i64.wrap (r3 + 1)) : Int).toNat).length < room 24 then
                                        some ((p0.1, (p0.2.1, (([] : List (ByteArray × Int)) ++ (p0.2.2.take (r3 : Int).toNat)) ++ (p0.2.2.drop ((IntKind.i64.wrap (r3 + 1)) : Int).toNat))), 0)
                                      else
                                        none
                                    ) (
                                      if (([] : List (ByteArray × Int)) ++ (p0.2.2.take (r3 : Int).toNat)).length + (p0.2.2.drop ((IntKind.i64.wrap (r3 + 1)) : Int).toNat).length < room 24 then
                                        some ((p0.1, (p0.2.1, (([] : List (ByteArray × Int)) ++ (p0.2.2.take (r3 : Int).toNat)) ++ (p0.2.2.drop ((IntKind.i64.wrap (r3 + 1)) : Int).toNat))), 0)
                                      else
                                        none
                                    )
                                  else
                                    none
                                )
                              ) (
                                agree (
                                  agree (
                                    if ([] : List (ByteArray × Int)).length + (p0.2.2.take (r3 : Int).toNat).length < room 24 then
                                      if (([] : List (ByteArray × Int)) ++ (p0.2.2.take (r3 : Int).toNat)).length + (p0.2.2.drop ((IntKind.i64.wrap (r3 + 1)) : Int).toNat).length < room 24 then
                                        some ((p0.1, (p0.2.1, (([] : List (ByteArray × Int)) ++ (p0.2.2.take (r3 : Int).toNat)) ++ (p0.2.2.drop ((IntKind.i64.wrap (r3 + 1)) : Int).toNat))), 0)
                                      else
                                        none
                                    else
                                      none
                                  ) (
                                    if ([] : List (ByteArray × Int)).length + (p0.2.2.take (r3 : Int).toNat).length < room 24 then
                                      agree (
                                        if (([] : List (ByteArray × Int)) ++ (p0.2.2.take (r3 : Int).toNat)).length + (p0.2.2.drop ((IntKind.i64.wrap (r3 + 1)) : Int).toNat).length < room 24 then
                                          some ((p0.1, (p0.2.1, (([] : List (ByteArray × Int)) ++ (p0.2.2.take (r3 : Int).toNat)) ++ (p0.2.2.drop ((IntKind.i64.wrap (r3 + 1)) : Int).toNat))), 0)
                                        else
                                          none
                                      ) (
                                        if (([] : List (ByteArray × Int)) ++ (p0.2.2.take (r3 : Int).toNat)).length + (p0.2.2.drop ((IntKind.i64.wrap (r3 + 1)) : Int).toNat).length < room 24 then
                                          some ((p0.1, (p0.2.1, (([] : List (ByteArray × Int)) ++ (p0.2.2.take (r3 : Int).toNat)) ++ (p0.2.2.drop ((IntKind.i64.wrap (r3 + 1)) : Int).toNat))), 0)
                                        else
                                          none
                                      )
                                    else
                                      none
                                  )
                                ) (
                                  if ([] : List (ByteArray × Int)).length + (p0.2.2.take (r3 : Int).toNat).length < room 24 then
                                    agree (
                                      agree (
                                        if (([] : List (ByteArray × Int)) ++ (p0.2.2.take (r3 : Int).toNat)).length + (p0.2.2.drop ((IntKind.i64.wrap (r3 + 1)) : Int).toNat).length < room 24 then
                                          some ((p0.1, (p0.2.1, (([] : List (ByteArray × Int)) ++ (p0.2.2.take (r3 : Int).toNat)) ++ (p0.2.2.drop ((IntKind.i64.wrap (r3 + 1)) : Int).toNat))), 0)
                                        else
                                          none
                                      ) (
                                        if (([] : List (ByteArray × Int)) ++ (p0.2.2.take (r3 : Int).toNat)).length + (p0.2.2.drop ((IntKind.i64.wrap (r3 + 1)) : Int).toNat).length < room 24 then
                                          some ((p0.1, (p0.2.1, (([] : List (ByteArray × Int)) ++ (p0.2.2.take (r3 : Int).toNat)) ++ (p0.2.2.drop ((IntKind.i64.wrap (r3 + 1)) : Int).toNat))), 0)
                                        else
                                          none
                                      )
                                    ) (
                                      agree (
                                        agree (
                                          if (([] : List (ByteArray × Int)) ++ (p0.2.2.take (r3 : Int).toNat)).length + (p0.2.2.drop ((IntKind.i64.wrap (r3 + 1)) : Int).toNat).length < room 24 then
                                            some ((p0.1, (p0.2.1, (([] : List (ByteArray × Int)) ++ (p0.2.2.take (r3 : Int).toNat)) ++ (p0.2.2.drop ((IntKind.i64.wrap (r3 + 1)) : Int).toNat))), 0)
                                          else
                                            none
                                        ) (
                                          if (([] : List (ByteArray × Int)) ++ (p0.2.2.take (r3 : Int).toNat)).length + (p0.2.2.drop ((IntKind.i64.wrap (r3 + 1)) : Int).toNat).length < room 24 then
                                            some ((p0.1, (p0.2.1, (([] : List (ByteArray × Int)) ++ (p0.2.2.take (r3 : Int).toNat)) ++ (p0.2.2.drop ((IntKind.i64.wrap (r3 + 1)) : Int).toNat))), 0)
                                          else
                                            none
                                        )
                                      ) (
                                        if (([] : List (ByteArray × Int)) ++ (p0.2.2.take (r3 : Int).toNat)).length + (p0.2.2.drop ((IntKind.i64.wrap (r3 + 1)) : Int).toNat).length < room 24 then
                                          some ((p0.1, (p0.2.1, (([] : List (ByteArray × Int)) ++ (p0.2.2.take (r3 : Int).toNat)) ++ (p0.2.2.drop ((IntKind.i64.wrap (r3 + 1)) : Int).toNat))), 0)
                                        else
                                          none
                                      )
                                    )
                                  else
                                    none
                                )
                              )
                            )
                          )
                        else
                          none
                      )
                    )
                  )
                else
                  none
              ) (
                if (0 : Int) ≤ (IntKind.i64.wrap (r3 + 1)) ∧ ((IntKind.i64.wrap (r3 + 1)) : Int) ≤ p0.2.2.length then
                  agree (
                    agree (
                      agree (
                        if (0 : Int) ≤ r3 ∧ (r3 : Int) ≤ p0.2.2.length then
                          if ([] : List (ByteArray × Int)).length + (p0.2.2.take (r3 : Int).toNat).length < room 24 then
                            if (([] : List (ByteArray × Int)) ++ (p0.2.2.take (r3 : Int).toNat)).length + (p0.2.2.drop ((IntKind.i64.wrap (r3 + 1)) : Int).toNat).length < room 24 then
                              some ((p0.1, (p0.2.1, (([] : List (ByteArray × Int)) ++ (p0.2.2.take (r3 : Int).toNat)) ++ (p0.2.2.drop ((IntKind.i64.wrap (r3 + 1)) : Int).toNat))), 0)
                            else
                              none
                          else
                            none
                        else
                          none
                      ) (
                        if (0 : Int) ≤ r3 ∧ (r3 : Int) ≤ p0.2.2.length then
                          if ([] : List (ByteArray × Int)).length + (p0.2.2.take (r3 : Int).toNat).length < room 24 then
                            if (([] : List (ByteArray × Int)) ++ (p0.2.2.take (r3 : Int).toNat)).length + (p0.2.2.drop ((IntKind.i64.wrap (r3 + 1)) : Int).toNat).length < room 24 then
                              some ((p0.1, (p0.2.1, (([] : List (ByteArray × Int)) ++ (p0.2.2.take (r3 : Int).toNat)) ++ (p0.2.2.drop ((IntKind.i64.wrap (r3 + 1)) : Int).toNat))), 0)
                            else
                              none
                          else
                            none
                        else
                          none
                      )
                    ) (
                      agree (
                        agree (
                          if (0 : Int) ≤ r3 ∧ (r3 : Int) ≤ p0.2.2.length then
                            if ([] : List (ByteArray × Int)).length + (p0.2.2.take (r3 : Int).toNat).length < room 24 then
                              if (([] : List (ByteArray × Int)) ++ (p0.2.2.take (r3 : Int).toNat)).length + (p0.2.2.drop ((IntKind.i64.wrap (r3 + 1)) : Int).toNat).length < room 24 then
                                some ((p0.1, (p0.2.1, (([] : List (ByteArray × Int)) ++ (p0.2.2.take (r3 : Int).toNat)) ++ (p0.2.2.drop ((IntKind.i64.wrap (r3 + 1)) : Int).toNat))), 0)
                              else
                                none
                            else
                              none
                          else
                            none
                        ) (
                          if (0 : Int) ≤ r3 ∧ (r3 : Int) ≤ p0.2.2.length then
                            agree (
                              if ([] : List (ByteArray × Int)).length + (p0.2.2.take (r3 : Int).toNat).length < room 24 then
                                if (([] : List (ByteArray × Int)) ++ (p0.2.2.take (r3 : Int).toNat)).length + (p0.2.2.drop ((IntKind.i64.wrap (r3 + 1)) : Int).toNat).length < room 24 then
                                  some ((p0.1, (p0.2.1, (([] : List (ByteArray × Int)) ++ (p0.2.2.take (r3 : Int).toNat)) ++ (p0.2.2.drop ((IntKind.i64.wrap (r3 + 1)) : Int).toNat))), 0)
                                else
                                  none
                              else
                                none
                            ) (
                              if ([] : List (ByteArray × Int)).length + (p0.2.2.take (r3 : Int).toNat).length < room 24 then
                                agree (
                                  if (([] : List (ByteArray × Int)) ++ (p0.2.2.take (r3 : Int).toNat)).length + (p0.2.2.drop ((IntKind.i64.wrap (r3 + 1)) : Int).toNat).length < room 24 then
                                    some ((p0.1, (p0.2.1, (([] : List (ByteArray × Int)) ++ (p0.2.2.take (r3 : Int).toNat)) ++ (p0.2.2.drop ((IntKind.i64.wrap (r3 + 1)) : Int).toNat))), 0)
                                  else
                                    none
                                ) (
                                  if (([] : List (ByteArray × Int)) ++ (p0.2.2.take (r3 : Int).toNat)).length + (p0.2.2.drop ((IntKind.i64.wrap (r3 + 1)) : Int).toNat).length < room 24 then
                                    some ((p0.1, (p0.2.1, (([] : List (ByteArray × Int)) ++ (p0.2.2.take (r3 : Int).toNat)) ++ (p0.2.2.drop ((IntKind.i64.wrap (r3 + 1)) : Int).toNat))), 0)
                                  else
                                    none
                                )
                              else
                                none
                            )
                          else
                            none
                        )
                      ) (
                        if (0 : Int) ≤ r3 ∧ (r3 : Int) ≤ p0.2.2.length then
                          agree (
                            if ([] : List (ByteArray × Int)).length + (p0.2.2.take (r3 : Int).toNat).length < room 24 then
                              if (([] : List (ByteArray × Int)) ++ (p0.2.2.take (r3 : Int).toNat)).length + (p0.2.2.drop ((IntKind.i64.wrap (r3 + 1)) : Int).toNat).length < room 24 then
                                some ((p0.1, (p0.2.1, (([] : List (ByteArray × Int)) ++ (p0.2.2.take (r3 : Int).toNat)) ++ (p0.2.2.drop ((IntKind.i64.wrap (r3 + 1)) : Int).toNat))), 0)
                              else
                                none
                            else
                              none
                          ) (
                            agree (
                              if ([] : List (ByteArray × Int)).length + (p0.2.2.take (r3 : Int).toNat).length < room 24 then
                                if (([] : List (ByteArray × Int)) ++ (p0.2.2.take (r3 : Int).toNat)).length + (p0.2.2.drop ((IntKind.i64.wrap (r3 + 1)) : Int).toNat).length < room 24 then
                                  some ((p0.1, (p0.2.1, (([] : List (ByteArray × Int)) ++ (p0.2.2.take (r3 : Int).toNat)) ++ (p0.2.2.drop ((IntKind.i64.wrap (r3 + 1)) : Int).toNat))), 0)
                                else
                                  none
                              else
                                none
                            ) (
                              if ([] : List (ByteArray × Int)).length + (p0.2.2.take (r3 : Int).toNat).length < room 24 then
                                agree (
                                  if (([] : List (ByteArray × Int)) ++ (p0.2.2.take (r3 : Int).toNat)).length + (p0.2.2.drop ((IntKind.i64.wrap (r3 + 1)) : Int).toNat).length < room 24 then
                                    some ((p0.1, (p0.2.1, (([] : List (ByteArray × Int)) ++ (p0.2.2.take (r3 : Int).toNat)) ++ (p0.2.2.drop ((IntKind.i64.wrap (r3 + 1)) : Int).toNat))), 0)
                                  else
                                    none
                                ) (
                                  if (([] : List (ByteArray × Int)) ++ (p0.2.2.take (r3 : Int).toNat)).length + (p0.2.2.drop ((IntKind.i64.wrap (r3 + 1)) : Int).toNat).length < room 24 then
                                    some ((p0.1, (p0.2.1, (([] : List (ByteArray × Int)) ++ (p0.2.2.take (r3 : Int).toNat)) ++ (p0.2.2.drop ((IntKind.i64.wrap (r3 + 1)) : Int).toNat))), 0)
                                  else
                                    none
                                )
                              else
                                none
                            )
                          )
                        else
                          none
                      )
                    )
                  ) (
                    agree (
                      agree (
                        agree (
                          if (0 : Int) ≤ r3 ∧ (r3 : Int) ≤ p0.2.2.length then
                            if ([] : List (ByteArray × Int)).length + (p0.2.2.take (r3 : Int).toNat).length < room 24 then
                              if (([] : List (ByteArray × Int)) ++ (p0.2.2.take (r3 : Int).toNat)).length + (p0.2.2.drop ((IntKind.i64.wrap (r3 + 1)) : Int).toNat).length < room 24 then
                                some ((p0.1, (p0.2.1, (([] : List (ByteArray × Int)) ++ (p0.2.2.take (r3 : Int).toNat)) ++ (p0.2.2.drop ((IntKind.i64.wrap (r3 + 1)) : Int).toNat))), 0)
                              else
                                none
                            else
                              none
                          else
                            none
                        ) (
                          if (0 : Int) ≤ r3 ∧ (r3 : Int) ≤ p0.2.2.length then
                            if ([] : List (ByteArray × Int)).length + (p0.2.2.take (r3 : Int).toNat).length < room 24 then
                              if (([] : List (ByteArray × Int)) ++ (p0.2.2.take (r3 : Int).toNat)).length + (p0.2.2.drop ((IntKind.i64.wrap (r3 + 1)) : Int).toNat).length < room 24 then
                                some ((p0.1, (p0.2.1, (([] : List (ByteArray × Int)) ++ (p0.2.2.take (r3 : Int).toNat)) ++ (p0.2.2.drop ((IntKind.i64.wrap (r3 + 1)) : Int).toNat))), 0)
                              else
                                none
                            else
                              none
                          else
                            none
                        )
                      ) (
                        agree (
                          agree (
                            if (0 : Int) ≤ r3 ∧ (r3 : Int) ≤ p0.2.2.length then
                              if ([] : List (ByteArray × Int)).length + (p0.2.2.take (r3 : Int).toNat).length < room 24 then
                                if (([] : List (ByteArray × Int)) ++ (p0.2.2.take (r3 : Int).toNat)).length + (p0.2.2.drop ((IntKind.i64.wrap (r3 + 1)) : Int).toNat).length < room 24 then
                                  some ((p0.1, (p0.2.1, (([] : List (ByteArray × Int)) ++ (p0.2.2.take (r3 : Int).toNat)) ++ (p0.2.2.drop ((IntKind.i64.wrap (r3 + 1)) : Int).toNat))), 0)
                                else
                                  none
                              else
                                none
                            else
                              none
                          ) (
                            if (0 : Int) ≤ r3 ∧ (r3 : Int) ≤ p0.2.2.length then
                              agree (
                                if ([] : List (ByteArray × Int)).length + (p0.2.2.take (r3 : Int).toNat).length < room 24 then
                                  if (([] : List (ByteArray × Int)) ++ (p0.2.2.take (r3 : Int).toNat)).length + (p0.2.2.drop ((IntKind.i64.wrap (r3 + 1)) : Int).toNat).length < room 24 then
                                    some ((p0.1, (p0.2.1, (([] : List (ByteArray × Int)) ++ (p0.2.2.take (r3 : Int).toNat)) ++ (p0.2.2.drop ((IntKind.i64.wrap (r3 + 1)) : Int).toNat))), 0)
                                  else
                                    none
                                else
                                  none
                              ) (
                                if ([] : List (ByteArray × Int)).length + (p0.2.2.take (r3 : Int).toNat).length < room 24 then
                                  agree (
                                    if (([] : List (ByteArray × Int)) ++ (p0.2.2.take (r3 : Int).toNat)).length + (p0.2.2.drop ((IntKind.i64.wrap (r3 + 1)) : Int).toNat).length < room 24 then
                                      some ((p0.1, (p0.2.1, (([] : List (ByteArray × Int)) ++ (p0.2.2.take (r3 : Int).toNat)) ++ (p0.2.2.drop ((IntKind.i64.wrap (r3 + 1)) : Int).toNat))), 0)
                                    else
                                      none
                                  ) (
                                    if (([] : List (ByteArray × Int)) ++ (p0.2.2.take (r3 : Int).toNat)).length + (p0.2.2.drop ((IntKind.i64.wrap (r3 + 1)) : Int).toNat).length < room 24 then
                                      some ((p0.1, (p0.2.1, (([] : List (ByteArray × Int)) ++ (p0.2.2.take (r3 : Int).toNat)) ++ (p0.2.2.drop ((IntKind.i64.wrap (r3 + 1)) : Int).toNat))), 0)
                                    else
                                      none
                                  )
                                else
                                  none
                              )
                            else
                              none
                          )
                        ) (
                          if (0 : Int) ≤ r3 ∧ (r3 : Int) ≤ p0.2.2.length then
                            agree (
                              if ([] : List (ByteArray × Int)).length + (p0.2.2.take (r3 : Int).toNat).length < room 24 then
                                if (([] : List (ByteArray × Int)) ++ (p0.2.2.take (r3 : Int).toNat)).length + (p0.2.2.drop ((IntKind.i64.wrap (r3 + 1)) : Int).toNat).length < room 24 then
                                  some ((p0.1, (p0.2.1, (([] : List (ByteArray × Int)) ++ (p0.2.2.take (r3 : Int).toNat)) ++ (p0.2.2.drop ((IntKind.i64.wrap (r3 + 1)) : Int).toNat))), 0)
                                else
                                  none
                              else
                                none
                            ) (
                              agree (
                                if ([] : List (ByteArray × Int)).length + (p0.2.2.take (r3 : Int).toNat).length < room 24 then
                                  if (([] : List (ByteArray × Int)) ++ (p0.2.2.take (r3 : Int).toNat)).length + (p0.2.2.drop ((IntKind.i64.wrap (r3 + 1)) : Int).toNat).length < room 24 then
                                    some ((p0.1, (p0.2.1, (([] : List (ByteArray × Int)) ++ (p0.2.2.take (r3 : Int).toNat)) ++ (p0.2.2.drop ((IntKind.i64.wrap (r3 + 1)) : Int).toNat))), 0)
                                  else
                                    none
                                else
                                  none
                              ) (
                                if ([] : List (ByteArray × Int)).length + (p0.2.2.take (r3 : Int).toNat).length < room 24 then
                                  agree (
                                    if (([] : List (ByteArray × Int)) ++ (p0.2.2.take (r3 : Int).toNat)).length + (p0.2.2.drop ((IntKind.i64.wrap (r3 + 1)) : Int).toNat).length < room 24 then
                                      some ((p0.1, (p0.2.1, (([] : List (ByteArray × Int)) ++ (p0.2.2.take (r3 : Int).toNat)) ++ (p0.2.2.drop ((IntKind.i64.wrap (r3 + 1)) : Int).toNat))), 0)
                                    else
                                      none
                                  ) (
                                    if (([] : List (ByteArray × Int)) ++ (p0.2.2.take (r3 : Int).toNat)).length + (p0.2.2.drop ((IntKind.i64.wrap (r3 + 1)) : Int).toNat).length < room 24 then
                                      some ((p0.1, (p0.2.1, (([] : List (ByteArray × Int)) ++ (p0.2.2.take (r3 : Int).toNat)) ++ (p0.2.2.drop ((IntKind.i64.wrap (r3 + 1)) : Int).toNat))), 0)
                                    else
                                      none
                                  )
                                else
                                  none
                              )
                            )
                          else
                            none
                        )
                      )
                    ) (
                      agree (
                        agree (
                          agree (
                            if (0 : Int) ≤ r3 ∧ (r3 : Int) ≤ p0.2.2.length then
                              if ([] : List (ByteArray × Int)).length + (p0.2.2.take (r3 : Int).toNat).length < room 24 then
                                if (([] : List (ByteArray × Int)) ++ (p0.2.2.take (r3 : Int).toNat)).length + (p0.2.2.drop ((IntKind.i64.wrap (r3 + 1)) : Int).toNat).length < room 24 then
                                  some ((p0.1, (p0.2.1, (([] : List (ByteArray × Int)) ++ (p0.2.2.take (r3 : Int).toNat)) ++ (p0.2.2.drop ((IntKind.i64.wrap (r3 + 1)) : Int).toNat))), 0)
                                else
                                  none
                              else
                                none
                            else
                              none
                          ) (
                            if (0 : Int) ≤ r3 ∧ (r3 : Int) ≤ p0.2.2.length then
                              agree (
                                if ([] : List (ByteArray × Int)).length + (p0.2.2.take (r3 : Int).toNat).length < room 24 then
                                  if (([] : List (ByteArray × Int)) ++ (p0.2.2.take (r3 : Int).toNat)).length + (p0.2.2.drop ((IntKind.i64.wrap (r3 + 1)) : Int).toNat).length < room 24 then
                                    some ((p0.1, (p0.2.1, (([] : List (ByteArray × Int)) ++ (p0.2.2.take (r3 : Int).toNat)) ++ (p0.2.2.drop ((IntKind.i64.wrap (r3 + 1)) : Int).toNat))), 0)
                                  else
                                    none
                                else
                                  none
                              ) (
                                if ([] : List (ByteArray × Int)).length + (p0.2.2.take (r3 : Int).toNat).length < room 24 then
                                  agree (
                                    if (([] : List (ByteArray × Int)) ++ (p0.2.2.take (r3 : Int).toNat)).length + (p0.2.2.drop ((IntKind.i64.wrap (r3 + 1)) : Int).toNat).length < room 24 then
                                      some ((p0.1, (p0.2.1, (([] : List (ByteArray × Int)) ++ (p0.2.2.take (r3 : Int).toNat)) ++ (p0.2.2.drop ((IntKind.i64.wrap (r3 + 1)) : Int).toNat))), 0)
                                    else
                                      none
                                  ) (
                                    if (([] : List (ByteArray × Int)) ++ (p0.2.2.take (r3 : Int).toNat)).length + (p0.2.2.drop ((IntKind.i64.wrap (r3 + 1)) : Int).toNat).length < room 24 then
                                      some ((p0.1, (p0.2.1, (([] : List (ByteArray × Int)) ++ (p0.2.2.take (r3 : Int).toNat)) ++ (p0.2.2.drop ((IntKind.i64.wrap (r3 + 1)) : Int).toNat))), 0)
                                    else
                                      none
                                  )
                                else
                                  none
                              )
                            else
                              none
                          )
                        ) (
                          agree (
                            agree (
                              if (0 : Int) ≤ r3 ∧ (r3 : Int) ≤ p0.2.2.length then
                                if ([] : List (ByteArray × Int)).length + (p0.2.2.take (r3 : Int).toNat).length < room 24 then
                                  if (([] : List (ByteArray × Int)) ++ (p0.2.2.take (r3 : Int).toNat)).length + (p0.2.2.drop ((IntKind.i64.wrap (r3 + 1)) : Int).toNat).length < room 24 then
                                    some ((p0.1, (p0.2.1, (([] : List (ByteArray × Int)) ++ (p0.2.2.take (r3 : Int).toNat)) ++ (p0.2.2.drop ((IntKind.i64.wrap (r3 + 1)) : Int).toNat))), 0)
                                  else
                                    none
                                else
                                  none
                              else
                                none
                            ) (
                              if (0 : Int) ≤ r3 ∧ (r3 : Int) ≤ p0.2.2.length then
                                agree (
                                  if ([] : List (ByteArray × Int)).length + (p0.2.2.take (r3 : Int).toNat).length < room 24 then
                                    if (([] : List (ByteArray × Int)) ++ (p0.2.2.take (r3 : Int).toNat)).length + (p0.2.2.drop ((IntKind.i64.wrap (r3 + 1)) : Int).toNat).length < room 24 then
                                      some ((p0.1, (p0.2.1, (([] : List (ByteArray × Int)) ++ (p0.2.2.take (r3 : Int).toNat)) ++ (p0.2.2.drop ((IntKind.i64.wrap (r3 + 1)) : Int).toNat))), 0)
                                    else
                                      none
                                  else
                                    none
                                ) (
                                  if ([] : List (ByteArray × Int)).length + (p0.2.2.take (r3 : Int).toNat).length < room 24 then
                                    agree (
                                      if (([] : List (ByteArray × Int)) ++ (p0.2.2.take (r3 : Int).toNat)).length + (p0.2.2.drop ((IntKind.i64.wrap (r3 + 1)) : Int).toNat).length < room 24 then
                                        some ((p0.1, (p0.2.1, (([] : List (ByteArray × Int)) ++ (p0.2.2.take (r3 : Int).toNat)) ++ (p0.2.2.drop ((IntKind.i64.wrap (r3 + 1)) : Int).toNat))), 0)
                                      else
                                        none
                                    ) (
                                      if (([] : List (ByteArray × Int)) ++ (p0.2.2.take (r3 : Int).toNat)).length + (p0.2.2.drop ((IntKind.i64.wrap (r3 + 1)) : Int).toNat).length < room 24 then
                                        some ((p0.1, (p0.2.1, (([] : List (ByteArray × Int)) ++ (p0.2.2.take (r3 : Int).toNat)) ++ (p0.2.2.drop ((IntKind.i64.wrap (r3 + 1)) : Int).toNat))), 0)
                                      else
                                        none
                                    )
                                  else
                                    none
                                )
                              else
                                none
                            )
                          ) (
                            if (0 : Int) ≤ r3 ∧ (r3 : Int) ≤ p0.2.2.length then
                              agree (
                                agree (
                                  if ([] : List (ByteArray × Int)).length + (p0.2.2.take (r3 : Int).toNat).length < room 24 then
                                    if (([] : List (ByteArray × Int)) ++ (p0.2.2.take (r3 : Int).toNat)).length + (p0.2.2.drop ((IntKind.i64.wrap (r3 + 1)) : Int).toNat).length < room 24 then
                                      some ((p0.1, (p0.2.1, (([] : List (ByteArray × Int)) ++ (p0.2.2.take (r3 : Int).toNat)) ++ (p0.2.2.drop ((IntKind.i64.wrap (r3 + 1)) : Int).toNat))), 0)
                                    else
                                      none
                                  else
                                    none
                                ) (
                                  if ([] : List (ByteArray × Int)).length + (p0.2.2.take (r3 : Int).toNat).length < room 24 then
                                    agree (
                                      if (([] : List (ByteArray × Int)) ++ (p0.2.2.take (r3 : Int).toNat)).length + (p0.2.2.drop ((IntKind.i64.wrap (r3 + 1)) : Int).toNat).length < room 24 then
                                        some ((p0.1, (p0.2.1, (([] : List (ByteArray × Int)) ++ (p0.2.2.take (r3 : Int).toNat)) ++ (p0.2.2.drop ((IntKind.i64.wrap (r3 + 1)) : Int).toNat))), 0)
                                      else
                                        none
                                    ) (
                                      if (([] : List (ByteArray × Int)) ++ (p0.2.2.take (r3 : Int).toNat)).length + (p0.2.2.drop ((IntKind.i64.wrap (r3 + 1)) : Int).toNat).length < room 24 then
                                        some ((p0.1, (p0.2.1, (([] : List (ByteArray × Int)) ++ (p0.2.2.take (r3 : Int).toNat)) ++ (p0.2.2.drop ((IntKind.i64.wrap (r3 + 1)) : Int).toNat))), 0)
                                      else
                                        none
                                    )
                                  else
                                    none
                                )
                              ) (
                                agree (
                                  agree (
                                    if ([] : List (ByteArray × Int)).length + (p0.2.2.take (r3 : Int).toNat).length < room 24 then
                                      if (([] : List (ByteArray × Int)) ++ (p0.2.2.take (r3 : Int).toNat)).length + (p0.2.2.drop ((IntKind.i64.wrap (r3 + 1)) : Int).toNat).length < room 24 then
                                        some ((p0.1, (p0.2.1, (([] : List (ByteArray × Int)) ++ (p0.2.2.take (r3 : Int).toNat)) ++ (p0.2.2.drop ((IntKind.i64.wrap (r3 + 1)) : Int).toNat))), 0)
                                      else
                                        none
                                    else
                                      none
                                  ) (
                                    if ([] : List (ByteArray × Int)).length + (p0.2.2.take (r3 : Int).toNat).length < room 24 then
                                      agree (
                                        if (([] : List (ByteArray × Int)) ++ (p0.2.2.take (r3 : Int).toNat)).length + (p0.2.2.drop ((IntKind.i64.wrap (r3 + 1)) : Int).toNat).length < room 24 then
                                          some ((p0.1, (p0.2.1, (([] : List (ByteArray × Int)) ++ (p0.2.2.take (r3 : Int).toNat)) ++ (p0.2.2.drop ((IntKind.i64.wrap (r3 + 1)) : Int).toNat))), 0)
                                        else
                                          none
                                      ) (
                                        if (([] : List (ByteArray × Int)) ++ (p0.2.2.take (r3 : Int).toNat)).length + (p0.2.2.drop ((IntKind.i64.wrap (r3 + 1)) : Int).toNat).length < room 24 then
                                          some ((p0.1, (p0.2.1, (([] : List (ByteArray × Int)) ++ (p0.2.2.take (r3 : Int).toNat)) ++ (p0.2.2.drop ((IntKind.i64.wrap (r3 + 1)) : Int).toNat))), 0)
                                        else
                                          none
                                      )
                                    else
                                      none
                                  )
                                ) (
                                  if ([] : List (ByteArray × Int)).length + (p0.2.2.take (r3 : Int).toNat).length < room 24 then
                                    agree (
                                      agree (
                                        if (([] : List (ByteArray × Int)) ++ (p0.2.2.take (r3 : Int).toNat)).length + (p0.2.2.drop ((IntKind.i64.wrap (r3 + 1)) : Int).toNat).length < room 24 then
                                          some ((p0.1, (p0.2.1, (([] : List (ByteArray × Int)) ++ (p0.2.2.take (r3 : Int).toNat)) ++ (p0.2.2.drop ((IntKind.i64.wrap (r3 + 1)) : Int).toNat))), 0)
                                        else
                                          none
                                      ) (
                                        if (([] : List (ByteArray × Int)) ++ (p0.2.2.take (r3 : Int).toNat)).length + (p0.2.2.drop ((IntKind.i64.wrap (r3 + 1)) : Int).toNat).length < room 24 then
                                          some ((p0.1, (p0.2.1, (([] : List (ByteArray × Int)) ++ (p0.2.2.take (r3 : Int).toNat)) ++ (p0.2.2.drop ((IntKind.i64.wrap (r3 + 1)) : Int).toNat))), 0)
                                        else
                                          none
                                      )
                                    ) (
                                      agree (
                                        agree (
                                          if (([] : List (ByteArray × Int)) ++ (p0.2.2.take (r3 : Int).toNat)).length + (p0.2.2.drop ((IntKind.i64.wrap (r3 + 1)) : Int).toNat).length < room 24 then
                                            some ((p0.1, (p0.2.1, (([] : List (ByteArray × Int)) ++ (p0.2.2.take (r3 : Int).toNat)) ++ (p0.2.2.drop ((IntKind.i64.wrap (r3 + 1)) : Int).toNat))), 0)
                                          else
                                            none
                                        ) (
                                          if (([] : List (ByteArray × Int)) ++ (p0.2.2.take (r3 : Int).toNat)).length + (p0.2.2.drop ((IntKind.i64.wrap (r3 + 1)) : Int).toNat).length < room 24 then
                                            some ((p0.1, (p0.2.1, (([] : List (ByteArray × Int)) ++ (p0.2.2.take (r3 : Int).toNat)) ++ (p0.2.2.drop ((IntKind.i64.wrap (r3 + 1)) : Int).toNat))), 0)
                                          else
                                            none
                                        )
                                      ) (
                                        if (([] : List (ByteArray × Int)) ++ (p0.2.2.take (r3 : Int).toNat)).length + (p0.2.2.drop ((IntKind.i64.wrap (r3 + 1)) : Int).toNat).length < room 24 then
                                          some ((p0.1, (p0.2.1, (([] : List (ByteArray × Int)) ++ (p0.2.2.take (r3 : Int).toNat)) ++ (p0.2.2.drop ((IntKind.i64.wrap (r3 + 1)) : Int).toNat))), 0)
                                        else
                                          none
                                      )
                                    )
                                  else
                                    none
                                )
                              )
                            else
                              none
                          )
                        )
                      ) (
                        if (0 : Int) ≤ r3 ∧ (r3 : Int) ≤ p0.2.2.length then
                          agree (
                            agree (
                              if ([] : List (ByteArray × Int)).length + (p0.2.2.take (r3 : Int).toNat).length < room 24 then
                                if (([] : List (ByteArray × Int)) ++ (p0.2.2.take (r3 : Int).toNat)).length + (p0.2.2.drop ((IntKind.i64.wrap (r3 + 1)) : Int).toNat).length < room 24 then
                                  some ((p0.1, (p0.2.1, (([] : List (ByteArray × Int)) ++ (p0.2.2.take (r3 : Int).toNat)) ++ (p0.2.2.drop ((IntKind.i64.wrap (r3 + 1)) : Int).toNat))), 0)
                                else
                                  none
                              else
                                none
                            ) (
                              agree (
                                if ([] : List (ByteArray × Int)).length + (p0.2.2.take (r3 : Int).toNat).length < room 24 then
                                  if (([] : List (ByteArray × Int)) ++ (p0.2.2.take (r3 : Int).toNat)).length + (p0.2.2.drop ((IntKind.i64.wrap (r3 + 1)) : Int).toNat).length < room 24 then
                                    some ((p0.1, (p0.2.1, (([] : List (ByteArray × Int)) ++ (p0.2.2.take (r3 : Int).toNat)) ++ (p0.2.2.drop ((IntKind.i64.wrap (r3 + 1)) : Int).toNat))), 0)
                                  else
                                    none
                                else
                                  none
                              ) (
                                if ([] : List (ByteArray × Int)).length + (p0.2.2.take (r3 : Int).toNat).length < room 24 then
                                  agree (
                                    if (([] : List (ByteArray × Int)) ++ (p0.2.2.take (r3 : Int).toNat)).length + (p0.2.2.drop ((IntKind.i64.wrap (r3 + 1)) : Int).toNat).length < room 24 then
                                      some ((p0.1, (p0.2.1, (([] : List (ByteArray × Int)) ++ (p0.2.2.take (r3 : Int).toNat)) ++ (p0.2.2.drop ((IntKind.i64.wrap (r3 + 1)) : Int).toNat))), 0)
                                    else
                                      none
                                  ) (
                                    if (([] : List (ByteArray × Int)) ++ (p0.2.2.take (r3 : Int).toNat)).length + (p0.2.2.drop ((IntKind.i64.wrap (r3 + 1)) : Int).toNat).length < room 24 then
                                      some ((p0.1, (p0.2.1, (([] : List (ByteArray × Int)) ++ (p0.2.2.take (r3 : Int).toNat)) ++ (p0.2.2.drop ((IntKind.i64.wrap (r3 + 1)) : Int).toNat))), 0)
                                    else
                                      none
                                  )
                                else
                                  none
                              )
                            )
                          ) (
                            agree (
                              agree (
                                if ([] : List (ByteArray × Int)).length + (p0.2.2.take (r3 : Int).toNat).length < room 24 then
                                  if (([] : List (ByteArray × Int)) ++ (p0.2.2.take (r3 : Int).toNat)).length + (p0.2.2.drop ((IntKind.i64.wrap (r3 + 1)) : Int).toNat).length < room 24 then
                                    some ((p0.1, (p0.2.1, (([] : List (ByteArray × Int)) ++ (p0.2.2.take (r3 : Int).toNat)) ++ (p0.2.2.drop ((IntKind.i64.wrap (r3 + 1)) : Int).toNat))), 0)
                                  else
                                    none
                                else
                                  none
                              ) (
                                agree (
                                  if ([] : List (ByteArray × Int)).length + (p0.2.2.take (r3 : Int).toNat).length < room 24 then
                                    if (([] : List (ByteArray × Int)) ++ (p0.2.2.take (r3 : Int).toNat)).length + (p0.2.2.drop ((IntKind.i64.wrap (r3 + 1)) : Int).toNat).length < room 24 then
                                      some ((p0.1, (p0.2.1, (([] : List (ByteArray × Int)) ++ (p0.2.2.take (r3 : Int).toNat)) ++ (p0.2.2.drop ((IntKind.i64.wrap (r3 + 1)) : Int).toNat))), 0)
                                    else
                                      none
                                  else
                                    none
                                ) (
                                  if ([] : List (ByteArray × Int)).length + (p0.2.2.take (r3 : Int).toNat).length < room 24 then
                                    agree (
                                      if (([] : List (ByteArray × Int)) ++ (p0.2.2.take (r3 : Int).toNat)).length + (p0.2.2.drop ((IntKind.i64.wrap (r3 + 1)) : Int).toNat).length < room 24 then
                                        some ((p0.1, (p0.2.1, (([] : List (ByteArray × Int)) ++ (p0.2.2.take (r3 : Int).toNat)) ++ (p0.2.2.drop ((IntKind.i64.wrap (r3 + 1)) : Int).toNat))), 0)
                                      else
                                        none
                                    ) (
                                      if (([] : List (ByteArray × Int)) ++ (p0.2.2.take (r3 : Int).toNat)).length + (p0.2.2.drop ((IntKind.i64.wrap (r3 + 1)) : Int).toNat).length < room 24 then
                                        some ((p0.1, (p0.2.1, (([] : List (ByteArray × Int)) ++ (p0.2.2.take (r3 : Int).toNat)) ++ (p0.2.2.drop ((IntKind.i64.wrap (r3 + 1)) : Int).toNat))), 0)
                                      else
                                        none
                                    )
                                  else
                                    none
                                )
                              )
                            ) (
                              agree (
                                agree (
                                  if ([] : List (ByteArray × Int)).length + (p0.2.2.take (r3 : Int).toNat).length < room 24 then
                                    if (([] : List (ByteArray × Int)) ++ (p0.2.2.take (r3 : Int).toNat)).length + (p0.2.2.drop ((IntKind.i64.wrap (r3 + 1)) : Int).toNat).length < room 24 then
                                      some ((p0.1, (p0.2.1, (([] : List (ByteArray × Int)) ++ (p0.2.2.take (r3 : Int).toNat)) ++ (p0.2.2.drop ((IntKind.i64.wrap (r3 + 1)) : Int).toNat))), 0)
                                    else
                                      none
                                  else
                                    none
                                ) (
                                  if ([] : List (ByteArray × Int)).length + (p0.2.2.take (r3 : Int).toNat).length < room 24 then
                                    agree (
                                      if (([] : List (ByteArray × Int)) ++ (p0.2.2.take (r3 : Int).toNat)).length + (p0.2.2.drop ((IntKind.i64.wrap (r3 + 1)) : Int).toNat).length < room 24 then
                                        some ((p0.1, (p0.2.1, (([] : List (ByteArray × Int)) ++ (p0.2.2.take (r3 : Int).toNat)) ++ (p0.2.2.drop ((IntKind.i64.wrap (r3 + 1)) : Int).toNat))), 0)
                                      else
                                        none
                                    ) (
                                      if (([] : List (ByteArray × Int)) ++ (p0.2.2.take (r3 : Int).toNat)).length + (p0.2.2.drop ((IntKind.i64.wrap (r3 + 1)) : Int).toNat).length < room 24 then
                                        some ((p0.1, (p0.2.1, (([] : List (ByteArray × Int)) ++ (p0.2.2.take (r3 : Int).toNat)) ++ (p0.2.2.drop ((IntKind.i64.wrap (r3 + 1)) : Int).toNat))), 0)
                                      else
                                        none
                                    )
                                  else
                                    none
                                )
                              ) (
                                agree (
                                  agree (
                                    if ([] : List (ByteArray × Int)).length + (p0.2.2.take (r3 : Int).toNat).length < room 24 then
                                      if (([] : List (ByteArray × Int)) ++ (p0.2.2.take (r3 : Int).toNat)).length + (p0.2.2.drop ((IntKind.i64.wrap (r3 + 1)) : Int).toNat).length < room 24 then
                                        some ((p0.1, (p0.2.1, (([] : List (ByteArray × Int)) ++ (p0.2.2.take (r3 : Int).toNat)) ++ (p0.2.2.drop ((IntKind.i64.wrap (r3 + 1)) : Int).toNat))), 0)
                                      else
                                        none
                                    else
                                      none
                                  ) (
                                    if ([] : List (ByteArray × Int)).length + (p0.2.2.take (r3 : Int).toNat).length < room 24 then
                                      agree (
                                        if (([] : List (ByteArray × Int)) ++ (p0.2.2.take (r3 : Int).toNat)).length + (p0.2.2.drop ((IntKind.i64.wrap (r3 + 1)) : Int).toNat).length < room 24 then
                                          some ((p0.1, (p0.2.1, (([] : List (ByteArray × Int)) ++ (p0.2.2.take (r3 : Int).toNat)) ++ (p0.2.2.drop ((IntKind.i64.wrap (r3 + 1)) : Int).toNat))), 0)
                                        else
                                          none
                                      ) (
                                        if (([] : List (ByteArray × Int)) ++ (p0.2.2.take (r3 : Int).toNat)).length + (p0.2.2.drop ((IntKind.i64.wrap (r3 + 1)) : Int).toNat).length < room 24 then
                                          some ((p0.1, (p0.2.1, (([] : List (ByteArray × Int)) ++ (p0.2.2.take (r3 : Int).toNat)) ++ (p0.2.2.drop ((IntKind.i64.wrap (r3 + 1)) : Int).toNat))), 0)
                                        else
                                          none
                                      )
                                    else
                                      none
                                  )
                                ) (
                                  if ([] : List (ByteArray × Int)).length + (p0.2.2.take (r3 : Int).toNat).length < room 24 then
                                    agree (
                                      agree (
                                        if (([] : List (ByteArray × Int)) ++ (p0.2.2.take (r3 : Int).toNat)).length + (p0.2.2.drop ((IntKind.i64.wrap (r3 + 1)) : Int).toNat).length < room 24 then
                                          some ((p0.1, (p0.2.1, (([] : List (ByteArray × Int)) ++ (p0.2.2.take (r3 : Int).toNat)) ++ (p0.2.2.drop ((IntKind.i64.wrap (r3 + 1)) : Int).toNat))), 0)
                                        else
                                          none
                                      ) (
                                        if (([] : List (ByteArray × Int)) ++ (p0.2.2.take (r3 : Int).toNat)).length + (p0.2.2.drop ((IntKind.i64.wrap (r3 + 1)) : Int).toNat).length < room 24 then
                                          some ((p0.1, (p0.2.1, (([] : List (ByteArray × Int)) ++ (p0.2.2.take (r3 : Int).toNat)) ++ (p0.2.2.drop ((IntKind.i64.wrap (r3 + 1)) : Int).toNat))), 0)
                                        else
                                          none
                                      )
                                    ) (
                                      agree (
                                        agree (
                                          if (([] : List (ByteArray × Int)) ++ (p0.2.2.take (r3 : Int).toNat)).length + (p0.2.2.drop ((IntKind.i64.wrap (r3 + 1)) : Int).toNat).length < room 24 then
                                            some ((p0.1, (p0.2.1, (([] : List (ByteArray × Int)) ++ (p0.2.2.take (r3 : Int).toNat)) ++ (p0.2.2.drop ((IntKind.i64.wrap (r3 + 1)) : Int).toNat))), 0)
                                          else
                                            none
                                        ) (
                                          if (([] : List (ByteArray × Int)) ++ (p0.2.2.take (r3 : Int).toNat)).length + (p0.2.2.drop ((IntKind.i64.wrap (r3 + 1)) : Int).toNat).length < room 24 then
                                            some ((p0.1, (p0.2.1, (([] : List (ByteArray × Int)) ++ (p0.2.2.take (r3 : Int).toNat)) ++ (p0.2.2.drop ((IntKind.i64.wrap (r3 + 1)) : Int).toNat))), 0)
                                          else
                                            none
                                        )
                                      ) (
                                        if (([] : List (ByteArray × Int)) ++ (p0.2.2.take (r3 : Int).toNat)).length + (p0.2.2.drop ((IntKind.i64.wrap (r3 + 1)) : Int).toNat).length < room 24 then
                                          some ((p0.1, (p0.2.1, (([] : List (ByteArray × Int)) ++ (p0.2.2.take (r3 : Int).toNat)) ++ (p0.2.2.drop ((IntKind.i64.wrap (r3 + 1)) : Int).toNat))), 0)
                                        else
                                          none
                                      )
                                    )
                                  else
                                    none
                                )
                              )
                            )
                          )
                        else
                          none
                      )
                    )
                  )
                else
                  none
              )
            )
          )
        )
  else
    some ((ByteArray.empty, (0, [])), 1)
theorem spec_CutLine.topraw_eq (p0 : ByteArray × Int × List (ByteArray × Int)) (article1 : ByteArray) : spec_CutLine.topraw p0 article1 = spec_CutLine.top p0 article1 := by
  unfold spec_CutLine.topraw spec_CutLine.top
  simp only [agree_self]
def spec_CutLine.con : Con := { ps := [(.val, (.pair .str (.pair (.int .i64) (.sl 82 (.pair .str (.int .i64)))))), (.val, .str)], rs := [(.own, (.pair .str (.pair (.int .i64) (.sl 82 (.pair .str (.int .i64)))))), (.own, (.int .i64))], F := fun x => spec_CutLine.f x.1 x.2 }
def spec_CutLine.cs : List (FuncId × Con) := [(103, spec_IsPaper.con), (105, spec_l29Find.con), (108, spec_IsWord.con)]
def spec_CutLine.E : Env := envOf tab spec_CutLine.cs 0 false
def spec_CutLine.keep (i : Nat) : List Nat := []
set_option maxRecDepth 100000 in
theorem spec_CutLine.body (n : Nat) (x : (ByteArray × Int × List (ByteArray × Int)) × ByteArray) : bodyF spec_CutLine.E spec_CutLine.keep n Try.f44 spec_CutLine.con x = spec_CutLine.fn n x.1 x.2 := by
  have h : bodyF spec_CutLine.E spec_CutLine.keep n Try.f44 spec_CutLine.con x = spec_CutLine.topraw x.1 x.2 := by kernel_rfl
  rw [spec_CutLine.topraw_eq] at h
  exact h
set_option maxRecDepth 100000 in
theorem spec_CutLine.good : Good Try.prog 44 spec_CutLine.con :=
  good_of tabok (cs := spec_CutLine.cs) ⟨spec_IsPaper.good, spec_l29Find.good, spec_IsWord.good, trivial⟩ 0 false (fn := Try.f44) Try.func44 rfl (by decide) (by simp [spec_CutLine.con]) spec_CutLine.keep NN (fun _ => rfl) (fun x => spec_CutLine.body NN x)
end
end Go.Ev.Try

namespace Go.Ev.Try
open Go.Proofs Go.Pl
set_option linter.unusedVariables false
noncomputable section
def laws_roomBehind.con : Con := { ps := [(.val, (.int .i64))], rs := [(.val, (.int .i64))], F := fun x => laws_roomBehind.f x }
def laws_roomBehind.cs : List (FuncId × Con) := []
def laws_roomBehind.E : Env := envOf tab laws_roomBehind.cs 0 false
def laws_roomBehind.keep (i : Nat) : List Nat := []
set_option maxRecDepth 100000 in
theorem laws_roomBehind.body (n : Nat) (x : Int) : bodyF laws_roomBehind.E laws_roomBehind.keep n Try.f81 laws_roomBehind.con x = laws_roomBehind.fn n x := by
  have h : bodyF laws_roomBehind.E laws_roomBehind.keep n Try.f81 laws_roomBehind.con x = laws_roomBehind.top x := by kernel_rfl
  exact h
set_option maxRecDepth 100000 in
theorem laws_roomBehind.good : Good Try.prog 81 laws_roomBehind.con :=
  good_of tabok (cs := laws_roomBehind.cs) trivial 0 false (fn := Try.f81) Try.func81 rfl (by decide) (by simp [laws_roomBehind.con]) laws_roomBehind.keep NN (fun _ => rfl) (fun x => laws_roomBehind.body NN x)
end
end Go.Ev.Try

namespace Go.Ev.Try
open Go.Proofs Go.Pl
set_option linter.unusedVariables false
noncomputable section
def laws_toLine.con : Con := { ps := [(.val, (.pair .str (.int .i64)))], rs := [(.own, (.pair .str (.int .i64)))], F := fun x => laws_toLine.f x }
def laws_toLine.cs : List (FuncId × Con) := []
def laws_toLine.E : Env := envOf tab laws_toLine.cs 0 true
def laws_toLine.keep (i : Nat) : List Nat := []
set_option maxRecDepth 100000 in
theorem laws_toLine.body (n : Nat) (x : ByteArray × Int) : bodyF laws_toLine.E laws_toLine.keep n Try.f142 laws_toLine.con x = laws_toLine.fn n x := by
  have h : bodyF laws_toLine.E laws_toLine.keep n Try.f142 laws_toLine.con x = laws_toLine.top x := by kernel_rfl
  exact h
set_option maxRecDepth 100000 in
theorem laws_toLine.good : Good Try.prog 142 laws_toLine.con :=
  good_of tabok (cs := laws_toLine.cs) trivial 0 true (fn := Try.f142) Try.func142 rfl (by decide) (by simp [laws_toLine.con]) laws_toLine.keep NN (fun _ => rfl) (fun x => laws_toLine.body NN x)
end
end Go.Ev.Try

namespace Go.Ev.Try
open Go.Proofs Go.Pl
set_option linter.unusedVariables false
noncomputable section
def laws_fillerLine.con : Con := { ps := [], rs := [(.val, (.pair .str (.int .i64)))], F := fun x => laws_fillerLine.f  }
def laws_fillerLine.cs : List (FuncId × Con) := []
def laws_fillerLine.E : Env := envOf tab laws_fillerLine.cs 0 false
def laws_fillerLine.keep (i : Nat) : List Nat := []
set_option maxRecDepth 100000 in
theorem laws_fillerLine.body (n : Nat) (x : Unit) : bodyF laws_fillerLine.E laws_fillerLine.keep n Try.f143 laws_fillerLine.con x = laws_fillerLine.fn n  := by
  have h : bodyF laws_fillerLine.E laws_fillerLine.keep n Try.f143 laws_fillerLine.con x = laws_fillerLine.top  := by kernel_rfl
  exact h
set_option maxRecDepth 100000 in
theorem laws_fillerLine.good : Good Try.prog 143 laws_fillerLine.con :=
  good_of tabok (cs := laws_fillerLine.cs) trivial 0 false (fn := Try.f143) Try.func143 rfl (by decide) (by simp [laws_fillerLine.con]) laws_fillerLine.keep NN (fun _ => rfl) (fun x => laws_fillerLine.body NN x)
end
end Go.Ev.Try

namespace Go.Ev.Try
open Go.Proofs Go.Pl
set_option linter.unusedVariables false
noncomputable section
def laws_toLineS.st9 (a0 : List (ByteArray × Int)) (i7 : Int) (out5 : List (ByteArray × Int)) : St := ⟨[.dat (.sl 161 (.pair .str (.int .i64))) a0, .gone, .gone, .gone, .gone, .ref 0, .gone, .dat (.int .i64) i7, .gone, .gone, .gone, .gone, .gone, .gone, .gone, .gone, .gone, .gone, .gone, .gone, .gone, .gone, .gone, .gone, .gone, .gone, .gone, .gone, .gone, .gone, .gone, .gone, .gone, .gone, .gone, .gone, .gone, .gone, .gone, .gone, .gone, .gone, .gone, .gone, .gone, .gone, .gone, .gone, .gone, .gone, .gone], [.row 82 (.pair .str (.int .i64)) out5 none]⟩
def laws_toLineS.st5 (a0 : List (ByteArray × Int)) (i6 : Int) (out5 : List (ByteArray × Int)) : St := ⟨[.dat (.sl 161 (.pair .str (.int .i64))) a0, .gone, .gone, .gone, .gone, .ref 0, .dat (.int .i64) i6, .gone, .gone, .gone, .gone, .gone, .gone, .gone, .gone, .gone, .gone, .gone, .gone, .gone, .gone, .gone, .gone, .gone, .gone, .gone, .gone, .gone, .gone, .gone, .gone, .gone, .gone, .gone, .gone, .gone, .gone, .gone, .gone, .gone, .gone, .gone, .gone, .gone, .gone, .gone, .gone, .gone, .gone, .gone, .gone], [.row 82 (.pair .str (.int .i64)) out5 none]⟩
def laws_toLineS.con : Con := { ps := [(.val, (.sl 161 (.pair .str (.int .i64)))), (.val, .bool)], rs := [(.own, (.slb 82 (.pair .str (.int .i64))))], F := fun x => laws_toLineS.f x.1 x.2 }
def laws_toLineS.cs : List (FuncId × Con) := [(81, laws_roomBehind.con), (142, laws_toLine.con), (143, laws_fillerLine.con)]
def laws_toLineS.E : Env := envOf tab laws_toLineS.cs 0 true
def laws_toLineS.keep (i : Nat) : List Nat := if i = 9 then [0, 5, 7] else if i = 5 then [0, 5, 6] else []
def laws_toLineS.at9 (n : Nat) (x : (List (ByteArray × Int)) × Bool) : Code × (Ex → St → Option ((List (ByteArray × Int) × List (ByteArray × Int)))) := ctx laws_toLineS.E laws_toLineS.keep n [.snd, .snd, .snd, .snd, .fst, .snd, .blk] (codeOf Try.f109) (kEnd laws_toLineS.E Try.f109 laws_toLineS.con x)
def laws_toLineS.LN9 (n : Nat) (x : (List (ByteArray × Int)) × Bool) : Nat → St → Option ((List (ByteArray × Int) × List (ByteArray × Int))) := loopN (exec laws_toLineS.E laws_toLineS.keep n (bodyOf (laws_toLineS.at9 n x).1)) (St.norm 0 (laws_toLineS.keep 9)) (laws_toLineS.at9 n x).2
def laws_toLineS.at5 (n : Nat) (x : (List (ByteArray × Int)) × Bool) : Code × (Ex → St → Option ((List (ByteArray × Int) × List (ByteArray × Int)))) := ctx laws_toLineS.E laws_toLineS.keep n [.snd, .snd, .snd, .fst, .snd, .blk] (codeOf Try.f109) (kEnd laws_toLineS.E Try.f109 laws_toLineS.con x)
def laws_toLineS.LN5 (n : Nat) (x : (List (ByteArray × Int)) × Bool) : Nat → St → Option ((List (ByteArray × Int) × List (ByteArray × Int))) := loopN (exec laws_toLineS.E laws_toLineS.keep n (bodyOf (laws_toLineS.at5 n x).1)) (St.norm 0 (laws_toLineS.keep 5)) (laws_toLineS.at5 n x).2
set_option maxRecDepth 100000 in
theorem laws_toLineS.lem9 (n : Nat) (x : (List (ByteArray × Int)) × Bool) : ∀ (k : Nat) (a0 : List (ByteArray × Int)) (i7 : Int) (out5 : List (ByteArray × Int)), laws_toLineS.LN9 n x k (laws_toLineS.st9 a0 i7 out5) = laws_toLineS.l9 n k a0 i7 out5 := by
  intro k
  induction k with
  | zero => intro a0 i7 out5; rfl
  | succ k ih =>
    intro a0 i7 out5
    have h : laws_toLineS.LN9 n x (k + 1) (laws_toLineS.st9 a0 i7 out5) = laws_toLineS.g9 (fun a0 i7 out5 => laws_toLineS.LN9 n x k (laws_toLineS.st9 a0 i7 out5)) a0 i7 out5 := by kernel_rfl
    rw [h]
    simp only [ih]
    rfl
set_option maxRecDepth 100000 in
theorem laws_toLineS.lem5 (n : Nat) (x : (List (ByteArray × Int)) × Bool) : ∀ (k : Nat) (a0 : List (ByteArray × Int)) (i6 : Int) (out5 : List (ByteArray × Int)), laws_toLineS.LN5 n x k (laws_toLineS.st5 a0 i6 out5) = laws_toLineS.l5 n k a0 i6 out5 := by
  intro k
  induction k with
  | zero => intro a0 i6 out5; rfl
  | succ k ih =>
    intro a0 i6 out5
    have h : laws_toLineS.LN5 n x (k + 1) (laws_toLineS.st5 a0 i6 out5) = laws_toLineS.g5 (fun a0 i7 out5 => laws_toLineS.LN9 n x n (laws_toLineS.st9 a0 i7 out5)) (fun a0 i6 out5 => laws_toLineS.LN5 n x k (laws_toLineS.st5 a0 i6 out5)) a0 i6 out5 := by kernel_rfl
    rw [h]
    simp only [ih, laws_toLineS.lem9]
    rfl
set_option maxRecDepth 100000 in
theorem laws_toLineS.body (n : Nat) (x : (List (ByteArray × Int)) × Bool) : bodyF laws_toLineS.E laws_toLineS.keep n Try.f109 laws_toLineS.con x = laws_toLineS.fn n x.1 x.2 := by
  have h : bodyF laws_toLineS.E laws_toLineS.keep n Try.f109 laws_toLineS.con x = laws_toLineS.top (fun a0 i6 out5 => laws_toLineS.LN5 n x n (laws_toLineS.st5 a0 i6 out5)) x.1 x.2 := by kernel_rfl
  rw [h]
  simp only [laws_toLineS.lem5]
  rfl
set_option maxRecDepth 100000 in
theorem laws_toLineS.good : Good Try.prog 109 laws_toLineS.con :=
  good_of tabok (cs := laws_toLineS.cs) ⟨laws_roomBehind.good, laws_toLine.good, laws_fillerLine.good, trivial⟩ 0 true (fn := Try.f109) Try.func109 rfl (by decide) (by simp [laws_toLineS.con]) laws_toLineS.keep NN (fun _ => rfl) (fun x => laws_toLineS.body NN x)
end
end Go.Ev.Try

namespace Go.Ev.Try
open Go.Proofs Go.Pl
set_option linter.unusedVariables false
noncomputable section
def laws_toPaper.con : Con := { ps := [(.val, (.pair .str (.pair (.int .i64) (.sl 161 (.pair .str (.int .i64)))))), (.val, .bool)], rs := [(.own, (.pair .str (.pair (.int .i64) (.slb 82 (.pair .str (.int .i64))))))], F := fun x => laws_toPaper.f x.1 x.2 }
def laws_toPaper.cs : List (FuncId × Con) := [(109, laws_toLineS.con)]
def laws_toPaper.E : Env := envOf tab laws_toPaper.cs 0 true
def laws_toPaper.keep (i : Nat) : List Nat := []
set_option maxRecDepth 100000 in
theorem laws_toPaper.body (n : Nat) (x : (ByteArray × Int × List (ByteArray × Int)) × Bool) : bodyF laws_toPaper.E laws_toPaper.keep n Try.f45 laws_toPaper.con x = laws_toPaper.fn n x.1 x.2 := by
  have h : bodyF laws_toPaper.E laws_toPaper.keep n Try.f45 laws_toPaper.con x = laws_toPaper.top x.1 x.2 := by kernel_rfl
  exact h
set_option maxRecDepth 100000 in
theorem laws_toPaper.good : Good Try.prog 45 laws_toPaper.con :=
  good_of tabok (cs := laws_toPaper.cs) ⟨laws_toLineS.good, trivial⟩ 0 true (fn := Try.f45) Try.func45 rfl (by decide) (by simp [laws_toPaper.con]) laws_toPaper.keep NN (fun _ => rfl) (fun x => laws_toPaper.body NN x)
end
end Go.Ev.Try

namespace Go.Ev.Try
open Go.Proofs Go.Pl
set_option linter.unusedVariables false
noncomputable section
def impl_IsWord.st4 (s0 : ByteArray) (i3 : Int) : St := ⟨[.dat .str s0, .gone, .gone, .dat (.int .i64) i3, .gone, .gone, .gone, .gone, .gone, .gone, .gone, .gone, .gone, .gone, .gone, .gone, .gone, .gone, .gone, .gone, .gone, .gone, .gone, .gone, .gone, .gone, .gone, .gone], []⟩
def impl_IsWord.con : Con := { ps := [(.val, .str)], rs := [(.val, .bool)], F := fun x => impl_IsWord.f x }
def impl_IsWord.cs : List (FuncId × Con) := []
def impl_IsWord.E : Env := envOf tab impl_IsWord.cs 0 false
def impl_IsWord.keep (i : Nat) : List Nat := if i = 4 then [0, 3] else []
def impl_IsWord.at4 (n : Nat) (x : ByteArray) : Code × (Ex → St → Option (Bool)) := ctx impl_IsWord.E impl_IsWord.keep n [.snd, .snd, .fst, .snd, .blk] (codeOf Try.f97) (kEnd impl_IsWord.E Try.f97 impl_IsWord.con x)
def impl_IsWord.LN4 (n : Nat) (x : ByteArray) : Nat → St → Option (Bool) := loopN (exec impl_IsWord.E impl_IsWord.keep n (bodyOf (impl_IsWord.at4 n x).1)) (St.norm 0 (impl_IsWord.keep 4)) (impl_IsWord.at4 n x).2
set_option maxRecDepth 100000 in
theorem impl_IsWord.lem4 (n : Nat) (x : ByteArray) : ∀ (k : Nat) (s0 : ByteArray) (i3 : Int), impl_IsWord.LN4 n x k (impl_IsWord.st4 s0 i3) = impl_IsWord.l4 n k s0 i3 := by
  intro k
  induction k with
  | zero => intro s0 i3; rfl
  | succ k ih =>
    intro s0 i3
    have h : impl_IsWord.LN4 n x (k + 1) (impl_IsWord.st4 s0 i3) = impl_IsWord.g4 (fun s0 i3 => impl_IsWord.LN4 n x k (impl_IsWord.st4 s0 i3)) s0 i3 := by kernel_rfl
    rw [h]
    simp only [ih]
    rfl
set_option maxRecDepth 100000 in
theorem impl_IsWord.body (n : Nat) (x : ByteArray) : bodyF impl_IsWord.E impl_IsWord.keep n Try.f97 impl_IsWord.con x = impl_IsWord.fn n x := by
  have h : bodyF impl_IsWord.E impl_IsWord.keep n Try.f97 impl_IsWord.con x = impl_IsWord.top (fun s0 i3 => impl_IsWord.LN4 n x n (impl_IsWord.st4 s0 i3)) x := by kernel_rfl
  rw [h]
  simp only [impl_IsWord.lem4]
  rfl
set_option maxRecDepth 100000 in
theorem impl_IsWord.good : Good Try.prog 97 impl_IsWord.con :=
  good_of tabok (cs := impl_IsWord.cs) trivial 0 false (fn := Try.f97) Try.func97 rfl (by decide) (by simp [impl_IsWord.con]) impl_IsWord.keep NN (fun _ => rfl) (fun x => impl_IsWord.body NN x)
end
end Go.Ev.Try

namespace Go.Ev.Try
open Go.Proofs Go.Pl
set_option linter.unusedVariables false
noncomputable section
def impl_within.con : Con := { ps := [(.val, (.int .i64)), (.val, (.int .i64)), (.val, (.int .i64))], rs := [(.val, .bool)], F := fun x => impl_within.f x.1 x.2.1 x.2.2 }
def impl_within.cs : List (FuncId × Con) := []
def impl_within.E : Env := envOf tab impl_within.cs 0 false
def impl_within.keep (i : Nat) : List Nat := []
set_option maxRecDepth 100000 in
theorem impl_within.body (n : Nat) (x : Int × Int × Int) : bodyF impl_within.E impl_within.keep n Try.f90 impl_within.con x = impl_within.fn n x.1 x.2.1 x.2.2 := by
  have h : bodyF impl_within.E impl_within.keep n Try.f90 impl_within.con x = impl_within.top x.1 x.2.1 x.2.2 := by kernel_rfl
  exact h
set_option maxRecDepth 100000 in
theorem impl_within.good : Good Try.prog 90 impl_within.con :=
  good_of tabok (cs := impl_within.cs) trivial 0 false (fn := Try.f90) Try.func90 rfl (by decide) (by simp [impl_within.con]) impl_within.keep NN (fun _ => rfl) (fun x => impl_within.body NN x)
end
end Go.Ev.Try

namespace Go.Ev.Try
open Go.Proofs Go.Pl
set_option linter.unusedVariables false
noncomputable section
def impl_areLines.st4 (lines0 : List (ByteArray × Int)) (v8 : List (ByteArray × Int)) (v9 : Int) (v10 : Int) : St := ⟨[.dat (.sl 82 (.pair .str (.int .i64))) lines0, .gone, .gone, .gone, .gone, .gone, .gone, .gone, .dat (.sl 82 (.pair .str (.int .i64))) v8, .dat (.int .i64) v9, .dat (.int .i64) v10, .gone, .gone, .gone, .gone, .gone, .gone, .gone, .gone, .gone, .gone, .gone, .gone, .gone, .gone, .gone, .gone, .gone, .gone, .gone, .gone, .gone, .gone, .gone, .gone, .gone, .gone, .gone, .gone, .gone, .gone], []⟩
def impl_areLines.con : Con := { ps := [(.val, (.sl 82 (.pair .str (.int .i64))))], rs := [(.val, .bool)], F := fun x => impl_areLines.f x }
def impl_areLines.cs : List (FuncId × Con) := [(90, impl_within.con), (97, impl_IsWord.con)]
def impl_areLines.E : Env := envOf tab impl_areLines.cs 0 false
def impl_areLines.keep (i : Nat) : List Nat := if i = 4 then [0, 8, 9, 10] else []
def impl_areLines.at4 (n : Nat) (x : List (ByteArray × Int)) : Code × (Ex → St → Option (Bool)) := ctx impl_areLines.E impl_areLines.keep n [.snd, .snd, .fst, .snd, .blk] (codeOf Try.f101) (kEnd impl_areLines.E Try.f101 impl_areLines.con x)
def impl_areLines.LN4 (n : Nat) (x : List (ByteArray × Int)) : Nat → St → Option (Bool) := loopN (exec impl_areLines.E impl_areLines.keep n (bodyOf (impl_areLines.at4 n x).1)) (St.norm 0 (impl_areLines.keep 4)) (impl_areLines.at4 n x).2
set_option maxRecDepth 100000 in
theorem impl_areLines.lem4 (n : Nat) (x : List (ByteArray × Int)) : ∀ (k : Nat) (lines0 : List (ByteArray × Int)) (v8 : List (ByteArray × Int)) (v9 : Int) (v10 : Int), impl_areLines.LN4 n x k (impl_areLines.st4 lines0 v8 v9 v10) = impl_areLines.l4 n k lines0 v8 v9 v10 := by
  intro k
  induction k with
  | zero => intro lines0 v8 v9 v10; rfl
  | succ k ih =>
    intro lines0 v8 v9 v10
    have h : impl_areLines.LN4 n x (k + 1) (impl_areLines.st4 lines0 v8 v9 v10) = impl_areLines.g4 (fun lines0 v8 v9 v10 => impl_areLines.LN4 n x k (impl_areLines.st4 lines0 v8 v9 v10)) lines0 v8 v9 v10 := by kernel_rfl
    rw [h]
    simp only [ih]
    rfl
set_option maxRecDepth 100000 in
theorem impl_areLines.body (n : Nat) (x : List (ByteArray × Int)) : bodyF impl_areLines.E impl_areLines.keep n Try.f101 impl_areLines.con x = impl_areLines.fn n x := by
  have h : bodyF impl_areLines.E impl_areLines.keep n Try.f101 impl_areLines.con x = impl_areLines.top (fun lines0 v8 v9 v10 => impl_areLines.LN4 n x n (impl_areLines.st4 lines0 v8 v9 v10)) x := by kernel_rfl
  rw [h]
  simp only [impl_areLines.lem4]
  rfl
set_option maxRecDepth 100000 in
theorem impl_areLines.good : Good Try.prog 101 impl_areLines.con :=
  good_of tabok (cs := impl_areLines.cs) ⟨impl_within.good, impl_IsWord.good, trivial⟩ 0 false (fn := Try.f101) Try.func101 rfl (by decide) (by simp [impl_areLines.con]) impl_areLines.keep NN (fun _ => rfl) (fun x => impl_areLines.body NN x)
end
end Go.Ev.Try

namespace Go.Ev.Try
open Go.Proofs Go.Pl
set_option linter.unusedVariables false
noncomputable section
def impl_isDay.con : Con := { ps := [(.val, (.int .i64))], rs := [(.val, .bool)], F := fun x => impl_isDay.f x }
def impl_isDay.cs : List (FuncId × Con) := [(90, impl_within.con)]
def impl_isDay.E : Env := envOf tab impl_isDay.cs 0 false
def impl_isDay.keep (i : Nat) : List Nat := []
set_option maxRecDepth 100000 in
theorem impl_isDay.body (n : Nat) (x : Int) : bodyF impl_isDay.E impl_isDay.keep n Try.f106 impl_isDay.con x = impl_isDay.fn n x := by
  have h : bodyF impl_isDay.E impl_isDay.keep n Try.f106 impl_isDay.con x = impl_isDay.top x := by kernel_rfl
  exact h
set_option maxRecDepth 100000 in
theorem impl_isDay.good : Good Try.prog 106 impl_isDay.con :=
  good_of tabok (cs := impl_isDay.cs) ⟨impl_within.good, trivial⟩ 0 false (fn := Try.f106) Try.func106 rfl (by decide) (by simp [impl_isDay.con]) impl_isDay.keep NN (fun _ => rfl) (fun x => impl_isDay.body NN x)
end
end Go.Ev.Try

namespace Go.Ev.Try
open Go.Proofs Go.Pl
set_option linter.unusedVariables false
noncomputable section
def impl_IsPaper.con : Con := { ps := [(.val, (.pair .str (.pair (.int .i64) (.sl 82 (.pair .str (.int .i64))))))], rs := [(.val, .bool)], F := fun x => impl_IsPaper.f x }
def impl_IsPaper.cs : List (FuncId × Con) := [(97, impl_IsWord.con), (101, impl_areLines.con), (106, impl_isDay.con)]
def impl_IsPaper.E : Env := envOf tab impl_IsPaper.cs 0 false
def impl_IsPaper.keep (i : Nat) : List Nat := []
set_option maxRecDepth 100000 in
theorem impl_IsPaper.body (n : Nat) (x : ByteArray × Int × List (ByteArray × Int)) : bodyF impl_IsPaper.E impl_IsPaper.keep n Try.f42 impl_IsPaper.con x = impl_IsPaper.fn n x := by
  have h : bodyF impl_IsPaper.E impl_IsPaper.keep n Try.f42 impl_IsPaper.con x = impl_IsPaper.top x := by kernel_rfl
  exact h
set_option maxRecDepth 100000 in
theorem impl_IsPaper.good : Good Try.prog 42 impl_IsPaper.con :=
  good_of tabok (cs := impl_IsPaper.cs) ⟨impl_IsWord.good, impl_areLines.good, impl_isDay.good, trivial⟩ 0 false (fn := Try.f42) Try.func42 rfl (by decide) (by simp [impl_IsPaper.con]) impl_IsPaper.keep NN (fun _ => rfl) (fun x => impl_IsPaper.body NN x)
end
end Go.Ev.Try

namespace Go.Ev.Try
open Go.Proofs Go.Pl
set_option linter.unusedVariables false
noncomputable section
def impl_putLine.st4 (article1 : ByteArray) (count2 : Int) (placed8 : Bool) (v13 : List (ByteArray × Int)) (v14 : Int) (v15 : Int) (out7 : List (ByteArray × Int)) : St := ⟨[.gone, .dat .str article1, .dat (.int .i64) count2, .gone, .gone, .gone, .gone, .ref 0, .dat .bool placed8, .gone, .gone, .gone, .gone, .dat (.sl 82 (.pair .str (.int .i64))) v13, .dat (.int .i64) v14, .dat (.int .i64) v15, .gone, .gone, .gone, .gone, .gone, .gone, .gone, .gone, .gone, .gone, .gone, .gone, .gone, .gone, .gone, .gone, .gone, .gone, .gone, .gone, .gone, .gone, .gone, .gone, .gone, .gone, .gone, .gone, .gone, .gone, .gone, .gone, .gone, .gone, .gone], [.row 82 (.pair .str (.int .i64)) out7 none]⟩
def impl_putLine.con : Con := { ps := [(.val, (.sl 82 (.pair .str (.int .i64)))), (.val, .str), (.val, (.int .i64))], rs := [(.own, (.sl 82 (.pair .str (.int .i64))))], F := fun x => impl_putLine.f x.1 x.2.1 x.2.2 }
def impl_putLine.cs : List (FuncId × Con) := []
def impl_putLine.E : Env := envOf tab impl_putLine.cs 0 false
def impl_putLine.keep (i : Nat) : List Nat := if i = 4 then [1, 2, 7, 8, 13, 14, 15] else []
def impl_putLine.at4 (n : Nat) (x : (List (ByteArray × Int)) × ByteArray × Int) : Code × (Ex → St → Option ((List (ByteArray × Int)))) := ctx impl_putLine.E impl_putLine.keep n [.snd, .snd, .snd, .fst, .snd, .blk] (codeOf Try.f99) (kEnd impl_putLine.E Try.f99 impl_putLine.con x)
def impl_putLine.LN4 (n : Nat) (x : (List (ByteArray × Int)) × ByteArray × Int) : Nat → St → Option ((List (ByteArray × Int))) := loopN (exec impl_putLine.E impl_putLine.keep n (bodyOf (impl_putLine.at4 n x).1)) (St.norm 0 (impl_putLine.keep 4)) (impl_putLine.at4 n x).2
set_option maxRecDepth 100000 in
theorem impl_putLine.lem4 (n : Nat) (x : (List (ByteArray × Int)) × ByteArray × Int) : ∀ (k : Nat) (article1 : ByteArray) (count2 : Int) (placed8 : Bool) (v13 : List (ByteArray × Int)) (v14 : Int) (v15 : Int) (out7 : List (ByteArray × Int)), impl_putLine.LN4 n x k (impl_putLine.st4 article1 count2 placed8 v13 v14 v15 out7) = impl_putLine.l4 n k article1 count2 placed8 v13 v14 v15 out7 := by
  intro k
  induction k with
  | zero => intro article1 count2 placed8 v13 v14 v15 out7; rfl
  | succ k ih =>
    intro article1 count2 placed8 v13 v14 v15 out7
    have h : impl_putLine.LN4 n x (k + 1) (impl_putLine.st4 article1 count2 placed8 v13 v14 v15 out7) = impl_putLine.g4 (fun article1 count2 placed8 v13 v14 v15 out7 => impl_putLine.LN4 n x k (impl_putLine.st4 article1 count2 placed8 v13 v14 v15 out7)) article1 count2 placed8 v13 v14 v15 out7 := by kernel_rfl
    rw [h]
    simp only [ih]
    rfl
set_option maxRecDepth 100000 in
theorem impl_putLine.body (n : Nat) (x : (List (ByteArray × Int)) × ByteArray × Int) : bodyF impl_putLine.E impl_putLine.keep n Try.f99 impl_putLine.con x = impl_putLine.fn n x.1 x.2.1 x.2.2 := by
  have h : bodyF impl_putLine.E impl_putLine.keep n Try.f99 impl_putLine.con x = impl_putLine.top (fun article1 count2 placed8 v13 v14 v15 out7 => impl_putLine.LN4 n x n (impl_putLine.st4 article1 count2 placed8 v13 v14 v15 out7)) x.1 x.2.1 x.2.2 := by kernel_rfl
  rw [h]
  simp only [impl_putLine.lem4]
  rfl
set_option maxRecDepth 100000 in
theorem impl_putLine.good : Good Try.prog 99 impl_putLine.con :=
  good_of tabok (cs := impl_putLine.cs) trivial 0 false (fn := Try.f99) Try.func99 rfl (by decide) (by simp [impl_putLine.con]) impl_putLine.keep NN (fun _ => rfl) (fun x => impl_putLine.body NN x)
end
end Go.Ev.Try
