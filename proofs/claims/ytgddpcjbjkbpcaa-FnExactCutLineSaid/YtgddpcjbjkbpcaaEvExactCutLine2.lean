/- Part 2 of what the law FnExactCutLine stands on: an evaluator of the model's code, proved sound; the functions as plain texts; their contracts. -/
import Derived.Test.YtgddpcjbjkbpcaaChecked
import Derived.Test.YtgddpcjbjkbpcaaProg
import Derived.Test.YtgddpcjbjkbpcaaRows
import Derived.Below
import Derived.Calls
import Derived.Carry
import Derived.ChangeArms
import Derived.ChangeKeysEq
import Derived.ChangeOld
import Derived.Deep.Quiet
import Derived.KernelRfl
import Derived.Laws.Append
import Derived.Laws.BytesString
import Derived.Laws.MakeOwn
import Derived.Laws.Strings
import Derived.Laws.StructEq
import Derived.OpenShut
import Derived.OrdersHeld
import Derived.ProofKit
import Derived.ShutString
import Derived.SizedLaws
import Derived.Tactics
import Derived.WalkKit
import Derived.WideShapes
import Derived.Test.YtgddpcjbjkbpcaaEvExactCutLine1
namespace Go.Pl
open Go.Ev
set_option linter.unusedVariables false
noncomputable section
def spec_CutLine.top (p0 : ByteArray × Int × List (ByteArray × Int)) (article1 : ByteArray) : Option ((ByteArray × Int × List (ByteArray × Int)) × Int) :=
  (spec_IsPaper.f p0).bind fun r1 =>
  if (!r1) = false then
    (spec_IsWord.f article1).bind fun r2 =>
    if (!r2) = true then
      some ((ByteArray.empty, (0, [])), 1)
    else
      (spec_l29Find.f p0 article1).bind fun r3 =>
      if (decide ((r3 : Int) < 0)) = true then
        some ((ByteArray.empty, (0, [])), 4)
      else
        agree (
          agree (
            agree (
              agree (
                if (0 : Int) ≤ r3 ∧ (r3 : Int) ≤ p0.2.2.length then
                  agree (
                    if ([] : List (ByteArray × Int)).length + (p0.2.2.take (r3 : Int).toNat).length < room 24 then
                      if (0 : Int) ≤ (IntKind.i64.wrap (r3 + 1)) ∧ ((IntKind.i64.wrap (r3 + 1)) : Int) ≤ p0.2.2.length then
                        if (([] : List (ByteArray × Int)) ++ (p0.2.2.take (r3 : Int).toNat)).length + (p0.2.2.drop ((IntKind.i64.wrap (r3 + 1)) : Int).toNat).length < room 24 then
                          some ((p0.1, (p0.2.1, (([] : List (ByteArray × Int)) ++ (p0.2.2.take (r3 : Int).toNat)) ++ (p0.2.2.drop ((IntKind.i64.wrap (r3 + 1)) : Int).toNat))), 0)
                        else
                          none
                      else
                        none
                    else
                      none
                  ) (
                    if (0 : Int) ≤ (IntKind.i64.wrap (r3 + 1)) ∧ ((IntKind.i64.wrap (r3 + 1)) : Int) ≤ p0.2.2.length then
                      if ([] : List (ByteArray × Int)).length + (p0.2.2.take (r3 : Int).toNat).length < room 24 then
                        if (([] : List (ByteArray × Int)) ++ (p0.2.2.take (r3 : Int).toNat)).length + (p0.2.2.drop ((IntKind.i64.wrap (r3 + 1)) : Int).toNat).length < room 24 then
                          some ((p0.1, (p0.2.1, (([] : List (ByteArray × Int)) ++ (p0.2.2.take (r3 : Int).toNat)) ++ (p0.2.2.drop ((IntKind.i64.wrap (r3 + 1)) : Int).toNat))), 0)
                        else
                          none
                      else
                        none
                    else
                      none
                  )
                else
                  none
              ) (
                if (0 : Int) ≤ (IntKind.i64.wrap (r3 + 1)) ∧ ((IntKind.i64.wrap (r3 + 1)) : Int) ≤ p0.2.2.length then
                  if (0 : Int) ≤ r3 ∧ (r3 : Int) ≤ p0.2.2.length then
                    if ([] : List (ByteArray × Int)).length + (p0.2.2.take (r3 : Int).toNat).length < room 24 then
                      if (([] : List (ByteArray × Int)) ++ (p0.2.2.take (r3 : Int).toNat)).length + (p0.2.2.drop ((IntKind.i64.wrap (r3 + 1)) : Int).toNat).length < room 24 then
                        some ((p0.1, (p0.2.1, (([] : List (ByteArray × Int)) ++ (p0.2.2.take (r3 : Int).toNat)) ++ (p0.2.2.drop ((IntKind.i64.wrap (r3 + 1)) : Int).toNat))), 0)
                      else
                        none
                    else
                      none
                  else
                    none
                else
                  none
              )
            ) (
              agree (
                if (0 : Int) ≤ r3 ∧ (r3 : Int) ≤ p0.2.2.length then
                  agree (
                    agree (
                      if ([] : List (ByteArray × Int)).length + (p0.2.2.take (r3 : Int).toNat).length < room 24 then
                        if (0 : Int) ≤ (IntKind.i64.wrap (r3 + 1)) ∧ ((IntKind.i64.wrap (r3 + 1)) : Int) ≤ p0.2.2.length then
                          if (([] : List (ByteArray × Int)) ++ (p0.2.2.take (r3 : Int).toNat)).length + (p0.2.2.drop ((IntKind.i64.wrap (r3 + 1)) : Int).toNat).length < room 24 then
                            some ((p0.1, (p0.2.1, (([] : List (ByteArray × Int)) ++ (p0.2.2.take (r3 : Int).toNat)) ++ (p0.2.2.drop ((IntKind.i64.wrap (r3 + 1)) : Int).toNat))), 0)
                          else
                            none
                        else
                          none
                      else
                        none
                    ) (
                      if (0 : Int) ≤ (IntKind.i64.wrap (r3 + 1)) ∧ ((IntKind.i64.wrap (r3 + 1)) : Int) ≤ p0.2.2.length then
                        if ([] : List (ByteArray × Int)).length + (p0.2.2.take (r3 : Int).toNat).length < room 24 then
                          if (([] : List (ByteArray × Int)) ++ (p0.2.2.take (r3 : Int).toNat)).length + (p0.2.2.drop ((IntKind.i64.wrap (r3 + 1)) : Int).toNat).length < room 24 then
                            some ((p0.1, (p0.2.1, (([] : List (ByteArray × Int)) ++ (p0.2.2.take (r3 : Int).toNat)) ++ (p0.2.2.drop ((IntKind.i64.wrap (r3 + 1)) : Int).toNat))), 0)
                          else
                            none
                        else
                          none
                      else
                        none
                    )
                  ) (
                    if (0 : Int) ≤ (IntKind.i64.wrap (r3 + 1)) ∧ ((IntKind.i64.wrap (r3 + 1)) : Int) ≤ p0.2.2.length then
                      if ([] : List (ByteArray × Int)).length + (p0.2.2.take (r3 : Int).toNat).length < room 24 then
                        if (([] : List (ByteArray × Int)) ++ (p0.2.2.take (r3 : Int).toNat)).length + (p0.2.2.drop ((IntKind.i64.wrap (r3 + 1)) : Int).toNat).length < room 24 then
                          some ((p0.1, (p0.2.1, (([] : List (ByteArray × Int)) ++ (p0.2.2.take (r3 : Int).toNat)) ++ (p0.2.2.drop ((IntKind.i64.wrap (r3 + 1)) : Int).toNat))), 0)
                        else
                          none
                      else
                        none
                    else
                      none
                  )
                else
                  none
              ) (
                if (0 : Int) ≤ (IntKind.i64.wrap (r3 + 1)) ∧ ((IntKind.i64.wrap (r3 + 1)) : Int) ≤ p0.2.2.length then
                  if (0 : Int) ≤ r3 ∧ (r3 : Int) ≤ p0.2.2.length then
                    if ([] : List (ByteArray × Int)).length + (p0.2.2.take (r3 : Int).toNat).length < room 24 then
                      if (([] : List (ByteArray × Int)) ++ (p0.2.2.take (r3 : Int).toNat)).length + (p0.2.2.drop ((IntKind.i64.wrap (r3 + 1)) : Int).toNat).length < room 24 then
                        some ((p0.1, (p0.2.1, (([] : List (ByteArray × Int)) ++ (p0.2.2.take (r3 : Int).toNat)) ++ (p0.2.2.drop ((IntKind.i64.wrap (r3 + 1)) : Int).toNat))), 0)
                      else
                        none
                    else
                      none
                  else
                    none
                else
                  none
              )
            )
          ) (
            agree (
              agree (
                agree (
                  if (0 : Int) ≤ r3 ∧ (r3 : Int) ≤ p0.2.2.length then
                    agree (
                      if ([] : List (ByteArray × Int)).length + (p0.2.2.take (r3 : Int).toNat).length < room 24 then
                        if (0 : Int) ≤ (IntKind.i64.wrap (r3 + 1)) ∧ ((IntKind.i64.wrap (r3 + 1)) : Int) ≤ p0.2.2.length then
                          if (([] : List (ByteArray × Int)) ++ (p0.2.2.take (r3 : Int).toNat)).length + (p0.2.2.drop ((IntKind.i64.wrap (r3 + 1)) : Int).toNat).length < room 24 then
                            some ((p0.1, (p0.2.1, (([] : List (ByteArray × Int)) ++ (p0.2.2.take (r3 : Int).toNat)) ++ (p0.2.2.drop ((IntKind.i64.wrap (r3 + 1)) : Int).toNat))), 0)
                          else
                            none
                        else
                          none
                      else
                        none
                    ) (
                      if (0 : Int) ≤ (IntKind.i64.wrap (r3 + 1)) ∧ ((IntKind.i64.wrap (r3 + 1)) : Int) ≤ p0.2.2.length then
                        if ([] : List (ByteArray × Int)).length + (p0.2.2.take (r3 : Int).toNat).length < room 24 then
                          if (([] : List (ByteArray × Int)) ++ (p0.2.2.take (r3 : Int).toNat)).length + (p0.2.2.drop ((IntKind.i64.wrap (r3 + 1)) : Int).toNat).length < room 24 then
                            some ((p0.1, (p0.2.1, (([] : List (ByteArray × Int)) ++ (p0.2.2.take (r3 : Int).toNat)) ++ (p0.2.2.drop ((IntKind.i64.wrap (r3 + 1)) : Int).toNat))), 0)
                          else
                            none
                        else
                          none
                      else
                        none
                    )
                  else
                    none
                ) (
                  if (0 : Int) ≤ (IntKind.i64.wrap (r3 + 1)) ∧ ((IntKind.i64.wrap (r3 + 1)) : Int) ≤ p0.2.2.length then
                    if (0 : Int) ≤ r3 ∧ (r3 : Int) ≤ p0.2.2.length then
                      if ([] : List (ByteArray × Int)).length + (p0.2.2.take (r3 : Int).toNat).length < room 24 then
                        if (([] : List (ByteArray × Int)) ++ (p0.2.2.take (r3 : Int).toNat)).length + (p0.2.2.drop ((IntKind.i64.wrap (r3 + 1)) : Int).toNat).length < room 24 then
                          some ((p0.1, (p0.2.1, (([] : List (ByteArray × Int)) ++ (p0.2.2.take (r3 : Int).toNat)) ++ (p0.2.2.drop ((IntKind.i64.wrap (r3 + 1)) : Int).toNat))), 0)
                        else
                          none
                      else
                        none
                    else
                      none
                  else
                    none
                )
              ) (
                agree (
                  if (0 : Int) ≤ r3 ∧ (r3 : Int) ≤ p0.2.2.length then
                    agree (
                      agree (
                        if ([] : List (ByteArray × Int)).length + (p0.2.2.take (r3 : Int).toNat).length < room 24 then
                          if (0 : Int) ≤ (IntKind.i64.wrap (r3 + 1)) ∧ ((IntKind.i64.wrap (r3 + 1)) : Int) ≤ p0.2.2.length then
                            if (([] : List (ByteArray × Int)) ++ (p0.2.2.take (r3 : Int).toNat)).length + (p0.2.2.drop ((IntKind.i64.wrap (r3 + 1)) : Int).toNat).length < room 24 then
                              some ((p0.1, (p0.2.1, (([] : List (ByteArray × Int)) ++ (p0.2.2.take (r3 : Int).toNat)) ++ (p0.2.2.drop ((IntKind.i64.wrap (r3 + 1)) : Int).toNat))), 0)
                            else
                              none
                          else
                            none
                        else
                          none
                      ) (
                        if (0 : Int) ≤ (IntKind.i64.wrap (r3 + 1)) ∧ ((IntKind.i64.wrap (r3 + 1)) : Int) ≤ p0.2.2.length then
                          if ([] : List (ByteArray × Int)).length + (p0.2.2.take (r3 : Int).toNat).length < room 24 then
                            if (([] : List (ByteArray × Int)) ++ (p0.2.2.take (r3 : Int).toNat)).length + (p0.2.2.drop ((IntKind.i64.wrap (r3 + 1)) : Int).toNat).length < room 24 then
                              some ((p0.1, (p0.2.1, (([] : List (ByteArray × Int)) ++ (p0.2.2.take (r3 : Int).toNat)) ++ (p0.2.2.drop ((IntKind.i64.wrap (r3 + 1)) : Int).toNat))), 0)
                            else
                              none
                          else
                            none
                        else
                          none
                      )
                    ) (
                      agree (
                        if ([] : List (ByteArray × Int)).length + (p0.2.2.take (r3 : Int).toNat).length < room 24 then
                          if (0 : Int) ≤ (IntKind.i64.wrap (r3 + 1)) ∧ ((IntKind.i64.wrap (r3 + 1)) : Int) ≤ p0.2.2.length then
                            if (([] : List (ByteArray × Int)) ++ (p0.2.2.take (r3 : Int).toNat)).length + (p0.2.2.drop ((IntKind.i64.wrap (r3 + 1)) : Int).toNat).length < room 24 then
                              some ((p0.1, (p0.2.1, (([] : List (ByteArray × Int)) ++ (p0.2.2.take (r3 : Int).toNat)) ++ (p0.2.2.drop ((IntKind.i64.wrap (r3 + 1)) : Int).toNat))), 0)
                            else
                              none
                          else
                            none
                        else
                          none
                      ) (
                        if (0 : Int) ≤ (IntKind.i64.wrap (r3 + 1)) ∧ ((IntKind.i64.wrap (r3 + 1)) : Int) ≤ p0.2.2.length then
                          if ([] : List (ByteArray × Int)).length + (p0.2.2.take (r3 : Int).toNat).length < room 24 then
                            if (([] : List (ByteArray × Int)) ++ (p0.2.2.take (r3 : Int).toNat)).length + (p0.2.2.drop ((IntKind.i64.wrap (r3 + 1)) : Int).toNat).length < room 24 then
                              some ((p0.1, (p0.2.1, (([] : List (ByteArray × Int)) ++ (p0.2.2.take (r3 : Int).toNat)) ++ (p0.2.2.drop ((IntKind.i64.wrap (r3 + 1)) : Int).toNat))), 0)
                            else
                              none
                          else
                            none
                        else
                          none
                      )
                    )
                  else
                    none
                ) (
                  if (0 : Int) ≤ (IntKind.i64.wrap (r3 + 1)) ∧ ((IntKind.i64.wrap (r3 + 1)) : Int) ≤ p0.2.2.length then
                    if (0 : Int) ≤ r3 ∧ (r3 : Int) ≤ p0.2.2.length then
                      if ([] : List (ByteArray × Int)).length + (p0.2.2.take (r3 : Int).toNat).length < room 24 then
                        if (([] : List (ByteArray × Int)) ++ (p0.2.2.take (r3 : Int).toNat)).length + (p0.2.2.drop ((IntKind.i64.wrap (r3 + 1)) : Int).toNat).length < room 24 then
                          some ((p0.1, (p0.2.1, (([] : List (ByteArray × Int)) ++ (p0.2.2.take (r3 : Int).toNat)) ++ (p0.2.2.drop ((IntKind.i64.wrap (r3 + 1)) : Int).toNat))), 0)
                        else
                          none
                      else
                        none
                    else
                      none
                  else
                    none
                )
              )
            ) (
              agree (
                if (0 : Int) ≤ r3 ∧ (r3 : Int) ≤ p0.2.2.length then
                  agree (
                    agree (
                      agree (
                        if ([] : List (ByteArray × Int)).length + (p0.2.2.take (r3 : Int).toNat).length < room 24 then
                          if (0 : Int) ≤ (IntKind.i64.wrap (r3 + 1)) ∧ ((IntKind.i64.wrap (r3 + 1)) : Int) ≤ p0.2.2.length then
                            if (([] : List (ByteArray × Int)) ++ (p0.2.2.take (r3 : Int).toNat)).length + (p0.2.2.drop ((IntKind.i64.wrap (r3 + 1)) : Int).toNat).length < room 24 then
                              some ((p0.1, (p0.2.1, (([] : List (ByteArray × Int)) ++ (p0.2.2.take (r3 : Int).toNat)) ++ (p0.2.2.drop ((IntKind.i64.wrap (r3 + 1)) : Int).toNat))), 0)
                            else
                              none
                          else
                            none
                        else
                          none
                      ) (
                        if (0 : Int) ≤ (IntKind.i64.wrap (r3 + 1)) ∧ ((IntKind.i64.wrap (r3 + 1)) : Int) ≤ p0.2.2.length then
                          if ([] : List (ByteArray × Int)).length + (p0.2.2.take (r3 : Int).toNat).length < room 24 then
                            if (([] : List (ByteArray × Int)) ++ (p0.2.2.take (r3 : Int).toNat)).length + (p0.2.2.drop ((IntKind.i64.wrap (r3 + 1)) : Int).toNat).length < room 24 then
                              some ((p0.1, (p0.2.1, (([] : List (ByteArray × Int)) ++ (p0.2.2.take (r3 : Int).toNat)) ++ (p0.2.2.drop ((IntKind.i64.wrap (r3 + 1)) : Int).toNat))), 0)
                            else
                              none
                          else
                            none
                        else
                          none
                      )
                    ) (
                      if (0 : Int) ≤ (IntKind.i64.wrap (r3 + 1)) ∧ ((IntKind.i64.wrap (r3 + 1)) : Int) ≤ p0.2.2.length then
                        if ([] : List (ByteArray × Int)).length + (p0.2.2.take (r3 : Int).toNat).length < room 24 then
                          if (([] : List (ByteArray × Int)) ++ (p0.2.2.take (r3 : Int).toNat)).length + (p0.2.2.drop ((IntKind.i64.wrap (r3 + 1)) : Int).toNat).length < room 24 then
                            some ((p0.1, (p0.2.1, (([] : List (ByteArray × Int)) ++ (p0.2.2.take (r3 : Int).toNat)) ++ (p0.2.2.drop ((IntKind.i64.wrap (r3 + 1)) : Int).toNat))), 0)
                          else
                            none
                        else
                          none
                      else
                        none
                    )
                  ) (
                    agree (
                      agree (
                        agree (
                          if ([] : List (ByteArray × Int)).length + (p0.2.2.take (r3 : Int).toNat).length < room 24 then
                            if (0 : Int) ≤ (IntKind.i64.wrap (r3 + 1)) ∧ ((IntKind.i64.wrap (r3 + 1)) : Int) ≤ p0.2.2.length then
                              if (([] : List (ByteArray × Int)) ++ (p0.2.2.take (r3 : Int).toNat)).length + (p0.2.2.drop ((IntKind.i64.wrap (r3 + 1)) : Int).toNat).length < room 24 then
                                some ((p0.1, (p0.2.1, (([] : List (ByteArray × Int)) ++ (p0.2.2.take (r3 : Int).toNat)) ++ (p0.2.2.drop ((IntKind.i64.wrap (r3 + 1)) : Int).toNat))), 0)
                              else
                                none
                            else
                              none
                          else
                            none
                        ) (
                          if (0 : Int) ≤ (IntKind.i64.wrap (r3 + 1)) ∧ ((IntKind.i64.wrap (r3 + 1)) : Int) ≤ p0.2.2.length then
                            if ([] : List (ByteArray × Int)).length + (p0.2.2.take (r3 : Int).toNat).length < room 24 then
                              if (([] : List (ByteArray × Int)) ++ (p0.2.2.take (r3 : Int).toNat)).length + (p0.2.2.drop ((IntKind.i64.wrap (r3 + 1)) : Int).toNat).length < room 24 then
                                some ((p0.1, (p0.2.1, (([] : List (ByteArray × Int)) ++ (p0.2.2.take (r3 : Int).toNat)) ++ (p0.2.2.drop ((IntKind.i64.wrap (r3 + 1)) : Int).toNat))), 0)
                              else
                                none
                            else
                              none
                          else
                            none
                        )
                      ) (
                        agree (
                          if ([] : List (ByteArray × Int)).length + (p0.2.2.take (r3 : Int).toNat).length < room 24 then
                            if (0 : Int) ≤ (IntKind.i64.wrap (r3 + 1)) ∧ ((IntKind.i64.wrap (r3 + 1)) : Int) ≤ p0.2.2.length then
                              if (([] : List (ByteArray × Int)) ++ (p0.2.2.take (r3 : Int).toNat)).length + (p0.2.2.drop ((IntKind.i64.wrap (r3 + 1)) : Int).toNat).length < room 24 then
                                some ((p0.1, (p0.2.1, (([] : List (ByteArray × Int)) ++ (p0.2.2.take (r3 : Int).toNat)) ++ (p0.2.2.drop ((IntKind.i64.wrap (r3 + 1)) : Int).toNat))), 0)
                              else
                                none
                            else
                              none
                          else
                            none
                        ) (
                          if (0 : Int) ≤ (IntKind.i64.wrap (r3 + 1)) ∧ ((IntKind.i64.wrap (r3 + 1)) : Int) ≤ p0.2.2.length then
                            if ([] : List (ByteArray × Int)).length + (p0.2.2.take (r3 : Int).toNat).length < room 24 then
                              if (([] : List (ByteArray × Int)) ++ (p0.2.2.take (r3 : Int).toNat)).length + (p0.2.2.drop ((IntKind.i64.wrap (r3 + 1)) : Int).toNat).length < room 24 then
                                some ((p0.1, (p0.2.1, (([] : List (ByteArray × Int)) ++ (p0.2.2.take (r3 : Int).toNat)) ++ (p0.2.2.drop ((IntKind.i64.wrap (r3 + 1)) : Int).toNat))), 0)
                              else
                                none
                            else
                              none
                          else
                            none
                        )
                      )
                    ) (
                      if (0 : Int) ≤ (IntKind.i64.wrap (r3 + 1)) ∧ ((IntKind.i64.wrap (r3 + 1)) : Int) ≤ p0.2.2.length then
                        if ([] : List (ByteArray × Int)).length + (p0.2.2.take (r3 : Int).toNat).length < room 24 then
                          if (([] : List (ByteArray × Int)) ++ (p0.2.2.take (r3 : Int).toNat)).length + (p0.2.2.drop ((IntKind.i64.wrap (r3 + 1)) : Int).toNat).length < room 24 then
                            some ((p0.1, (p0.2.1, (([] : List (ByteArray × Int)) ++ (p0.2.2.take (r3 : Int).toNat)) ++ (p0.2.2.drop ((IntKind.i64.wrap (r3 + 1)) : Int).toNat))), 0)
                          else
                            none
                        else
                          none
                      else
                        none
                    )
                  )
                else
                  none
              ) (
                if (0 : Int) ≤ (IntKind.i64.wrap (r3 + 1)) ∧ ((IntKind.i64.wrap (r3 + 1)) : Int) ≤ p0.2.2.length then
                  if (0 : Int) ≤ r3 ∧ (r3 : Int) ≤ p0.2.2.length then
                    if ([] : List (ByteArray × Int)).length + (p0.2.2.take (r3 : Int).toNat).length < room 24 then
                      if (([] : List (ByteArray × Int)) ++ (p0.2.2.take (r3 : Int).toNat)).length + (p0.2.2.drop ((IntKind.i64.wrap (r3 + 1)) : Int).toNat).length < room 24 then
                        some ((p0.1, (p0.2.1, (([] : List (ByteArray × Int)) ++ (p0.2.2.take (r3 : Int).toNat)) ++ (p0.2.2.drop ((IntKind.i64.wrap (r3 + 1)) : Int).toNat))), 0)
                      else
                        none
                    else
                      none
                  else
                    none
                else
                  none
              )
            )
          )
        ) (
          agree (
            agree (
              agree (
                agree (
                  if (0 : Int) ≤ r3 ∧ (r3 : Int) ≤ p0.2.2.length then
                    agree (
                      if ([] : List (ByteArray × Int)).length + (p0.2.2.take (r3 : Int).toNat).length < room 24 then
                        if (0 : Int) ≤ (IntKind.i64.wrap (r3 + 1)) ∧ ((IntKind.i64.wrap (r3 + 1)) : Int) ≤ p0.2.2.length then
                          if (([] : List (ByteArray × Int)) ++ (p0.2.2.take (r3 : Int).toNat)).length + (p0.2.2.drop ((IntKind.i64.wrap (r3 + 1)) : Int).toNat).length < room 24 then
                            some ((p0.1, (p0.2.1, (([] : List (ByteArray × Int)) ++ (p0.2.2.take (r3 : Int).toNat)) ++ (p0.2.2.drop ((IntKind.i64.wrap (r3 + 1)) : Int).toNat))), 0)
                          else
                            none
                        else
                          none
                      else
                        none
                    ) (
                      if (0 : Int) ≤ (IntKind.i64.wrap (r3 + 1)) ∧ ((IntKind.i64.wrap (r3 + 1)) : Int) ≤ p0.2.2.length then
                        if ([] : List (ByteArray × Int)).length + (p0.2.2.take (r3 : Int).toNat).length < room 24 then
                          if (([] : List (ByteArray × Int)) ++ (p0.2.2.take (r3 : Int).toNat)).length + (p0.2.2.drop ((IntKind.i64.wrap (r3 + 1)) : Int).toNat).length < room 24 then
                            some ((p0.1, (p0.2.1, (([] : List (ByteArray × Int)) ++ (p0.2.2.take (r3 : Int).toNat)) ++ (p0.2.2.drop ((IntKind.i64.wrap (r3 + 1)) : Int).toNat))), 0)
                          else
                            none
                        else
                          none
                      else
                        none
                    )
                  else
                    none
                ) (
                  if (0 : Int) ≤ (IntKind.i64.wrap (r3 + 1)) ∧ ((IntKind.i64.wrap (r3 + 1)) : Int) ≤ p0.2.2.length then
                    if (0 : Int) ≤ r3 ∧ (r3 : Int) ≤ p0.2.2.length then
                      if ([] : List (ByteArray × Int)).length + (p0.2.2.take (r3 : Int).toNat).length < room 24 then
                        if (([] : List (ByteArray × Int)) ++ (p0.2.2.take (r3 : Int).toNat)).length + (p0.2.2.drop ((IntKind.i64.wrap (r3 + 1)) : Int).toNat).length < room 24 then
                          some ((p0.1, (p0.2.1, (([] : List (ByteArray × Int)) ++ (p0.2.2.take (r3 : Int).toNat)) ++ (p0.2.2.drop ((IntKind.i64.wrap (r3 + 1)) : Int).toNat))), 0)
                        else
                          none
                      else
                        none
                    else
                      none
                  else
                    none
                )
              ) (
                agree (
                  if (0 : Int) ≤ r3 ∧ (r3 : Int) ≤ p0.2.2.length then
                    agree (
                      agree (
                        if ([] : List (ByteArray × Int)).length + (p0.2.2.take (r3 : Int).toNat).length < room 24 then
                          if (0 : Int) ≤ (IntKind.i64.wrap (r3 + 1)) ∧ ((IntKind.i64.wrap (r3 + 1)) : Int) ≤ p0.2.2.length then
                            if (([] : List (ByteArray × Int)) ++ (p0.2.2.take (r3 : Int).toNat)).length + (p0.2.2.drop ((IntKind.i64.wrap (r3 + 1)) : Int).toNat).length < room 24 then
                              some ((p0.1, (p0.2.1, (([] : List (ByteArray × Int)) ++ (p0.2.2.take (r3 : Int).toNat)) ++ (p0.2.2.drop ((IntKind.i64.wrap (r3 + 1)) : Int).toNat))), 0)
                            else
                              none
                          else
                            none
                        else
                          none
                      ) (
                        if (0 : Int) ≤ (IntKind.i64.wrap (r3 + 1)) ∧ ((IntKind.i64.wrap (r3 + 1)) : Int) ≤ p0.2.2.length then
                          if ([] : List (ByteArray × Int)).length + (p0.2.2.take (r3 : Int).toNat).length < room 24 then
                            if (([] : List (ByteArray × Int)) ++ (p0.2.2.take (r3 : Int).toNat)).length + (p0.2.2.drop ((IntKind.i64.wrap (r3 + 1)) : Int).toNat).length < room 24 then
                              some ((p0.1, (p0.2.1, (([] : List (ByteArray × Int)) ++ (p0.2.2.take (r3 : Int).toNat)) ++ (p0.2.2.drop ((IntKind.i64.wrap (r3 + 1)) : Int).toNat))), 0)
                            else
                              none
                          else
                            none
                        else
                          none
                      )
                    ) (
                      if (0 : Int) ≤ (IntKind.i64.wrap (r3 + 1)) ∧ ((IntKind.i64.wrap (r3 + 1)) : Int) ≤ p0.2.2.length then
                        if ([] : List (ByteArray × Int)).length + (p0.2.2.take (r3 : Int).toNat).length < room 24 then
                          if (([] : List (ByteArray × Int)) ++ (p0.2.2.take (r3 : Int).toNat)).length + (p0.2.2.drop ((IntKind.i64.wrap (r3 + 1)) : Int).toNat).length < room 24 then
                            some ((p0.1, (p0.2.1, (([] : List (ByteArray × Int)) ++ (p0.2.2.take (r3 : Int).toNat)) ++ (p0.2.2.drop ((IntKind.i64.wrap (r3 + 1)) : Int).toNat))), 0)
                          else
                            none
                        else
                          none
                      else
                        none
                    )
                  else
                    none
                ) (
                  if (0 : Int) ≤ (IntKind.i64.wrap (r3 + 1)) ∧ ((IntKind.i64.wrap (r3 + 1)) : Int) ≤ p0.2.2.length then
                    if (0 : Int) ≤ r3 ∧ (r3 : Int) ≤ p0.2.2.length then
                      if ([] : List (ByteArray × Int)).length + (p0.2.2.take (r3 : Int).toNat).length < room 24 then
                        if (([] : List (ByteArray × Int)) ++ (p0.2.2.take (r3 : Int).toNat)).length + (p0.2.2.drop ((IntKind.i64.wrap (r3 + 1)) : Int).toNat).length < room 24 then
                          some ((p0.1, (p0.2.1, (([] : List (ByteArray × Int)) ++ (p0.2.2.take (r3 : Int).toNat)) ++ (p0.2.2.drop ((IntKind.i64.wrap (r3 + 1)) : Int).toNat))), 0)
                        else
                          none
                      else
                        none
                    else
                      none
                  else
                    none
                )
              )
            ) (
              agree (
                agree (
                  agree (
                    if (0 : Int) ≤ r3 ∧ (r3 : Int) ≤ p0.2.2.length then
                      agree (
                        if ([] : List (ByteArray × Int)).length + (p0.2.2.take (r3 : Int).toNat).length < room 24 then
                          if (0 : Int) ≤ (IntKind.i64.wrap (r3 + 1)) ∧ ((IntKind.i64.wrap (r3 + 1)) : Int) ≤ p0.2.2.length then
                            if (([] : List (ByteArray × Int)) ++ (p0.2.2.take (r3 : Int).toNat)).length + (p0.2.2.drop ((IntKind.i64.wrap (r3 + 1)) : Int).toNat).length < room 24 then
                              some ((p0.1, (p0.2.1, (([] : List (ByteArray × Int)) ++ (p0.2.2.take (r3 : Int).toNat)) ++ (p0.2.2.drop ((IntKind.i64.wrap (r3 + 1)) : Int).toNat))), 0)
                            else
                              none
                          else
                            none
                        else
                          none
                      ) (
                        if (0 : Int) ≤ (IntKind.i64.wrap (r3 + 1)) ∧ ((IntKind.i64.wrap (r3 + 1)) : Int) ≤ p0.2.2.length then
                          if ([] : List (ByteArray × Int)).length + (p0.2.2.take (r3 : Int).toNat).length < room 24 then
                            if (([] : List (ByteArray × Int)) ++ (p0.2.2.take (r3 : Int).toNat)).length + (p0.2.2.drop ((IntKind.i64.wrap (r3 + 1)) : Int).toNat).length < room 24 then
                              some ((p0.1, (p0.2.1, (([] : List (ByteArray × Int)) ++ (p0.2.2.take (r3 : Int).toNat)) ++ (p0.2.2.drop ((IntKind.i64.wrap (r3 + 1)) : Int).toNat))), 0)
                            else
                              none
                          else
                            none
                        else
                          none
                      )
                    else
                      none
                  ) (
                    if (0 : Int) ≤ (IntKind.i64.wrap (r3 + 1)) ∧ ((IntKind.i64.wrap (r3 + 1)) : Int) ≤ p0.2.2.length then
                      if (0 : Int) ≤ r3 ∧ (r3 : Int) ≤ p0.2.2.length then
                        if ([] : List (ByteArray × Int)).length + (p0.2.2.take (r3 : Int).toNat).length < room 24 then
                          if (([] : List (ByteArray × Int)) ++ (p0.2.2.take (r3 : Int).toNat)).length + (p0.2.2.drop ((IntKind.i64.wrap (r3 + 1)) : Int).toNat).length < room 24 then
                            some ((p0.1, (p0.2.1, (([] : List (ByteArray × Int)) ++ (p0.2.2.take (r3 : Int).toNat)) ++ (p0.2.2.drop ((IntKind.i64.wrap (r3 + 1)) : Int).toNat))), 0)
                          else
                            none
                        else
                          none
                      else
                        none
                    else
                      none
                  )
                ) (
                  agree (
                    if (0 : Int) ≤ r3 ∧ (r3 : Int) ≤ p0.2.2.length then
                      agree (
                        agree (
                          if ([] : List (ByteArray × Int)).length + (p0.2.2.take (r3 : Int).toNat).length < room 24 then
                            if (0 : Int) ≤ (IntKind.i64.wrap (r3 + 1)) ∧ ((IntKind.i64.wrap (r3 + 1)) : Int) ≤ p0.2.2.length then
                              if (([] : List (ByteArray × Int)) ++ (p0.2.2.take (r3 : Int).toNat)).length + (p0.2.2.drop ((IntKind.i64.wrap (r3 + 1)) : Int).toNat).length < room 24 then
                                some ((p0.1, (p0.2.1, (([] : List (ByteArray × Int)) ++ (p0.2.2.take (r3 : Int).toNat)) ++ (p0.2.2.drop ((IntKind.i64.wrap (r3 + 1)) : Int).toNat))), 0)
                              else
                                none
                            else
                              none
                          else
                            none
                        ) (
                          if (0 : Int) ≤ (IntKind.i64.wrap (r3 + 1)) ∧ ((IntKind.i64.wrap (r3 + 1)) : Int) ≤ p0.2.2.length then
                            if ([] : List (ByteArray × Int)).length + (p0.2.2.take (r3 : Int).toNat).length < room 24 then
                              if (([] : List (ByteArray × Int)) ++ (p0.2.2.take (r3 : Int).toNat)).length + (p0.2.2.drop ((IntKind.i64.wrap (r3 + 1)) : Int).toNat).length < room 24 then
                                some ((p0.1, (p0.2.1, (([] : List (ByteArray × Int)) ++ (p0.2.2.take (r3 : Int).toNat)) ++ (p0.2.2.drop ((IntKind.i64.wrap (r3 + 1)) : Int).toNat))), 0)
                              else
                                none
                            else
                              none
                          else
                            none
                        )
                      ) (
                        agree (
                          if ([] : List (ByteArray × Int)).length + (p0.2.2.take (r3 : Int).toNat).length < room 24 then
                            if (0 : Int) ≤ (IntKind.i64.wrap (r3 + 1)) ∧ ((IntKind.i64.wrap (r3 + 1)) : Int) ≤ p0.2.2.length then
                              if (([] : List (ByteArray × Int)) ++ (p0.2.2.take (r3 : Int).toNat)).length + (p0.2.2.drop ((IntKind.i64.wrap (r3 + 1)) : Int).toNat).length < room 24 then
                                some ((p0.1, (p0.2.1, (([] : List (ByteArray × Int)) ++ (p0.2.2.take (r3 : Int).toNat)) ++ (p0.2.2.drop ((IntKind.i64.wrap (r3 + 1)) : Int).toNat))), 0)
                              else
                                none
                            else
                              none
                          else
                            none
                        ) (
                          if (0 : Int) ≤ (IntKind.i64.wrap (r3 + 1)) ∧ ((IntKind.i64.wrap (r3 + 1)) : Int) ≤ p0.2.2.length then
                            if ([] : List (ByteArray × Int)).length + (p0.2.2.take (r3 : Int).toNat).length < room 24 then
                              if (([] : List (ByteArray × Int)) ++ (p0.2.2.take (r3 : Int).toNat)).length + (p0.2.2.drop ((IntKind.i64.wrap (r3 + 1)) : Int).toNat).length < room 24 then
                                some ((p0.1, (p0.2.1, (([] : List (ByteArray × Int)) ++ (p0.2.2.take (r3 : Int).toNat)) ++ (p0.2.2.drop ((IntKind.i64.wrap (r3 + 1)) : Int).toNat))), 0)
                              else
                                none
                            else
                              none
                          else
                            none
                        )
                      )
                    else
                      none
                  ) (
                    if (0 : Int) ≤ (IntKind.i64.wrap (r3 + 1)) ∧ ((IntKind.i64.wrap (r3 + 1)) : Int) ≤ p0.2.2.length then
                      if (0 : Int) ≤ r3 ∧ (r3 : Int) ≤ p0.2.2.length then
                        if ([] : List (ByteArray × Int)).length + (p0.2.2.take (r3 : Int).toNat).length < room 24 then
                          if (([] : List (ByteArray × Int)) ++ (p0.2.2.take (r3 : Int).toNat)).length + (p0.2.2.drop ((IntKind.i64.wrap (r3 + 1)) : Int).toNat).length < room 24 then
                            some ((p0.1, (p0.2.1, (([] : List (ByteArray × Int)) ++ (p0.2.2.take (r3 : Int).toNat)) ++ (p0.2.2.drop ((IntKind.i64.wrap (r3 + 1)) : Int).toNat))), 0)
                          else
                            none
                        else
                          none
                      else
                        none
                    else
                      none
                  )
                )
              ) (
                agree (
                  if (0 : Int) ≤ r3 ∧ (r3 : Int) ≤ p0.2.2.length then
                    agree (
                      agree (
                        agree (
                          if ([] : List (ByteArray × Int)).length + (p0.2.2.take (r3 : Int).toNat).length < room 24 then
                            if (0 : Int) ≤ (IntKind.i64.wrap (r3 + 1)) ∧ ((IntKind.i64.wrap (r3 + 1)) : Int) ≤ p0.2.2.length then
                              if (([] : List (ByteArray × Int)) ++ (p0.2.2.take (r3 : Int).toNat)).length + (p0.2.2.drop ((IntKind.i64.wrap (r3 + 1)) : Int).toNat).length < room 24 then
                                some ((p0.1, (p0.2.1, (([] : List (ByteArray × Int)) ++ (p0.2.2.take (r3 : Int).toNat)) ++ (p0.2.2.drop ((IntKind.i64.wrap (r3 + 1)) : Int).toNat))), 0)
                              else
                                none
                            else
                              none
                          else
                            none
                        ) (
                          if (0 : Int) ≤ (IntKind.i64.wrap (r3 + 1)) ∧ ((IntKind.i64.wrap (r3 + 1)) : Int) ≤ p0.2.2.length then
                            if ([] : List (ByteArray × Int)).length + (p0.2.2.take (r3 : Int).toNat).length < room 24 then
                              if (([] : List (ByteArray × Int)) ++ (p0.2.2.take (r3 : Int).toNat)).length + (p0.2.2.drop ((IntKind.i64.wrap (r3 + 1)) : Int).toNat).length < room 24 then
                                some ((p0.1, (p0.2.1, (([] : List (ByteArray × Int)) ++ (p0.2.2.take (r3 : Int).toNat)) ++ (p0.2.2.drop ((IntKind.i64.wrap (r3 + 1)) : Int).toNat))), 0)
                              else
                                none
                            else
                              none
                          else
                            none
                        )
                      ) (
                        if (0 : Int) ≤ (IntKind.i64.wrap (r3 + 1)) ∧ ((IntKind.i64.wrap (r3 + 1)) : Int) ≤ p0.2.2.length then
                          if ([] : List (ByteArray × Int)).length + (p0.2.2.take (r3 : Int).toNat).length < room 24 then
                            if (([] : List (ByteArray × Int)) ++ (p0.2.2.take (r3 : Int).toNat)).length + (p0.2.2.drop ((IntKind.i64.wrap (r3 + 1)) : Int).toNat).length < room 24 then
                              some ((p0.1, (p0.2.1, (([] : List (ByteArray × Int)) ++ (p0.2.2.take (r3 : Int).toNat)) ++ (p0.2.2.drop ((IntKind.i64.wrap (r3 + 1)) : Int).toNat))), 0)
                            else
                              none
                          else
                            none
                        else
                          none
                      )
                    ) (
                      agree (
                        agree (
                          agree (
                            if ([] : List (ByteArray × Int)).length + (p0.2.2.take (r3 : Int).toNat).length < room 24 then
                              if (0 : Int) ≤ (IntKind.i64.wrap (r3 + 1)) ∧ ((IntKind.i64.wrap (r3 + 1)) : Int) ≤ p0.2.2.length then
                                if (([] : List (ByteArray × Int)) ++ (p0.2.2.take (r3 : Int).toNat)).length + (p0.2.2.drop ((IntKind.i64.wrap (r3 + 1)) : Int).toNat).length < room 24 then
                                  some ((p0.1, (p0.2.1, (([] : List (ByteArray × Int)) ++ (p0.2.2.take (r3 : Int).toNat)) ++ (p0.2.2.drop ((IntKind.i64.wrap (r3 + 1)) : Int).toNat))), 0)
                                else
                                  none
                              else
                                none
                            else
                              none
                          ) (
                            if (0 : Int) ≤ (IntKind.i64.wrap (r3 + 1)) ∧ ((IntKind.i64.wrap (r3 + 1)) : Int) ≤ p0.2.2.length then
                              if ([] : List (ByteArray × Int)).length + (p0.2.2.take (r3 : Int).toNat).length < room 24 then
                                if (([] : List (ByteArray × Int)) ++ (p0.2.2.take (r3 : Int).toNat)).length + (p0.2.2.drop ((IntKind.i64.wrap (r3 + 1)) : Int).toNat).length < room 24 then
                                  some ((p0.1, (p0.2.1, (([] : List (ByteArray × Int)) ++ (p0.2.2.take (r3 : Int).toNat)) ++ (p0.2.2.drop ((IntKind.i64.wrap (r3 + 1)) : Int).toNat))), 0)
                                else
                                  none
                              else
                                none
                            else
                              none
                          )
                        ) (
                          agree (
                            if ([] : List (ByteArray × Int)).length + (p0.2.2.take (r3 : Int).toNat).length < room 24 then
                              if (0 : Int) ≤ (IntKind.i64.wrap (r3 + 1)) ∧ ((IntKind.i64.wrap (r3 + 1)) : Int) ≤ p0.2.2.length then
                                if (([] : List (ByteArray × Int)) ++ (p0.2.2.take (r3 : Int).toNat)).length + (p0.2.2.drop ((IntKind.i64.wrap (r3 + 1)) : Int).toNat).length < room 24 then
                                  some ((p0.1, (p0.2.1, (([] : List (ByteArray × Int)) ++ (p0.2.2.take (r3 : Int).toNat)) ++ (p0.2.2.drop ((IntKind.i64.wrap (r3 + 1)) : Int).toNat))), 0)
                                else
                                  none
                              else
                                none
                            else
                              none
                          ) (
                            if (0 : Int) ≤ (IntKind.i64.wrap (r3 + 1)) ∧ ((IntKind.i64.wrap (r3 + 1)) : Int) ≤ p0.2.2.length then
                              if ([] : List (ByteArray × Int)).length + (p0.2.2.take (r3 : Int).toNat).length < room 24 then
                                if (([] : List (ByteArray × Int)) ++ (p0.2.2.take (r3 : Int).toNat)).length + (p0.2.2.drop ((IntKind.i64.wrap (r3 + 1)) : Int).toNat).length < room 24 then
                                  some ((p0.1, (p0.2.1, (([] : List (ByteArray × Int)) ++ (p0.2.2.take (r3 : Int).toNat)) ++ (p0.2.2.drop ((IntKind.i64.wrap (r3 + 1)) : Int).toNat))), 0)
                                else
                                  none
                              else
                                none
                            else
                              none
                          )
                        )
                      ) (
                        if (0 : Int) ≤ (IntKind.i64.wrap (r3 + 1)) ∧ ((IntKind.i64.wrap (r3 + 1)) : Int) ≤ p0.2.2.length then
                          if ([] : List (ByteArray × Int)).length + (p0.2.2.take (r3 : Int).toNat).length < room 24 then
                            if (([] : List (ByteArray × Int)) ++ (p0.2.2.take (r3 : Int).toNat)).length + (p0.2.2.drop ((IntKind.i64.wrap (r3 + 1)) : Int).toNat).length < room 24 then
                              some ((p0.1, (p0.2.1, (([] : List (ByteArray × Int)) ++ (p0.2.2.take (r3 : Int).toNat)) ++ (p0.2.2.drop ((IntKind.i64.wrap (r3 + 1)) : Int).toNat))), 0)
                            else
                              none
                          else
                            none
                        else
                          none
                      )
                    )
                  else
                    none
                ) (
                  if (0 : Int) ≤ (IntKind.i64.wrap (r3 + 1)) ∧ ((IntKind.i64.wrap (r3 + 1)) : Int) ≤ p0.2.2.length then
                    if (0 : Int) ≤ r3 ∧ (r3 : Int) ≤ p0.2.2.length then
                      if ([] : List (ByteArray × Int)).length + (p0.2.2.take (r3 : Int).toNat).length < room 24 then
                        if (([] : List (ByteArray × Int)) ++ (p0.2.2.take (r3 : Int).toNat)).length + (p0.2.2.drop ((IntKind.i64.wrap (r3 + 1)) : Int).toNat).length < room 24 then
                          some ((p0.1, (p0.2.1, (([] : List (ByteArray × Int)) ++ (p0.2.2.take (r3 : Int).toNat)) ++ (p0.2.2.drop ((IntKind.i64.wrap (r3 + 1)) : Int).toNat))), 0)
                        else
                          none
                      else
                        none
                    else
                      none
                  else
                    none
                )
              )
            )
          ) (
            agree (
              agree (
                agree (
                  agree (
                    if (0 : Int) ≤ r3 ∧ (r3 : Int) ≤ p0.2.2.length then
                      agree (
                        if ([] : List (ByteArray × Int)).length + (p0.2.2.take (r3 : Int).toNat).length < room 24 then
                          if (0 : Int) ≤ (IntKind.i64.wrap (r3 + 1)) ∧ ((IntKind.i64.wrap (r3 + 1)) : Int) ≤ p0.2.2.length then
                            if (([] : List (ByteArray × Int)) ++ (p0.2.2.take (r3 : Int).toNat)).length + (p0.2.2.drop ((IntKind.i64.wrap (r3 + 1)) : Int).toNat).length < room 24 then
                              some ((p0.1, (p0.2.1, (([] : List (ByteArray × Int)) ++ (p0.2.2.take (r3 : Int).toNat)) ++ (p0.2.2.drop ((IntKind.i64.wrap (r3 + 1)) : Int).toNat))), 0)
                            else
                              none
                          else
                            none
                        else
                          none
                      ) (
                        if (0 : Int) ≤ (IntKind.i64.wrap (r3 + 1)) ∧ ((IntKind.i64.wrap (r3 + 1)) : Int) ≤ p0.2.2.length then
                          if ([] : List (ByteArray × Int)).length + (p0.2.2.take (r3 : Int).toNat).length < room 24 then
                            if (([] : List (ByteArray × Int)) ++ (p0.2.2.take (r3 : Int).toNat)).length + (p0.2.2.drop ((IntKind.i64.wrap (r3 + 1)) : Int).toNat).length < room 24 then
                              some ((p0.1, (p0.2.1, (([] : List (ByteArray × Int)) ++ (p0.2.2.take (r3 : Int).toNat)) ++ (p0.2.2.drop ((IntKind.i64.wrap (r3 + 1)) : Int).toNat))), 0)
                            else
                              none
                          else
                            none
                        else
                          none
                      )
                    else
                      none
                  ) (
                    if (0 : Int) ≤ (IntKind.i64.wrap (r3 + 1)) ∧ ((IntKind.i64.wrap (r3 + 1)) : Int) ≤ p0.2.2.length then
                      if (0 : Int) ≤ r3 ∧ (r3 : Int) ≤ p0.2.2.length then
                        if ([] : List (ByteArray × Int)).length + (p0.2.2.take (r3 : Int).toNat).length < room 24 then
                          if (([] : List (ByteArray × Int)) ++ (p0.2.2.take (r3 : Int).toNat)).length + (p0.2.2.drop ((IntKind.i64.wrap (r3 + 1)) : Int).toNat).length < room 24 then
                            some ((p0.1, (p0.2.1, (([] : List (ByteArray × Int)) ++ (p0.2.2.take (r3 : Int).toNat)) ++ (p0.2.2.drop ((IntKind.i64.wrap (r3 + 1)) : Int).toNat))), 0)
                          else
                            none
                        else
                          none
                      else
                        none
                    else
                      none
                  )
                ) (
                  agree (
                    if (0 : Int) ≤ r3 ∧ (r3 : Int) ≤ p0.2.2.length then
                      agree (
                        agree (
                          if ([] : List (ByteArray × Int)).length + (p0.2.2.take (r3 : Int).toNat).length < room 24 then
                            if (0 : Int) ≤ (IntKind.i64.wrap (r3 + 1)) ∧ ((IntKind.i64.wrap (r3 + 1)) : Int) ≤ p0.2.2.length then
                              if (([] : List (ByteArray × Int)) ++ (p0.2.2.take (r3 : Int).toNat)).length + (p0.2.2.drop ((IntKind.i64.wrap (r3 + 1)) : Int).toNat).length < room 24 then
                                some ((p0.1, (p0.2.1, (([] : List (ByteArray × Int)) ++ (p0.2.2.take (r3 : Int).toNat)) ++ (p0.2.2.drop ((IntKind.i64.wrap (r3 + 1)) : Int).toNat))), 0)
                              else
                                none
                            else
                              none
                          else
                            none
                        ) (
                          if (0 : Int) ≤ (IntKind.i64.wrap (r3 + 1)) ∧ ((IntKind.i64.wrap (r3 + 1)) : Int) ≤ p0.2.2.length then
                            if ([] : List (ByteArray × Int)).length + (p0.2.2.take (r3 : Int).toNat).length < room 24 then
                              if (([] : List (ByteArray × Int)) ++ (p0.2.2.take (r3 : Int).toNat)).length + (p0.2.2.drop ((IntKind.i64.wrap (r3 + 1)) : Int).toNat).length < room 24 then
                                some ((p0.1, (p0.2.1, (([] : List (ByteArray × Int)) ++ (p0.2.2.take (r3 : Int).toNat)) ++ (p0.2.2.drop ((IntKind.i64.wrap (r3 + 1)) : Int).toNat))), 0)
                              else
                                none
                            else
                              none
                          else
                            none
                        )
                      ) (
                        agree (
                          if ([] : List (ByteArray × Int)).length + (p0.2.2.take (r3 : Int).toNat).length < room 24 then
                            if (0 : Int) ≤ (IntKind.i64.wrap (r3 + 1)) ∧ ((IntKind.i64.wrap (r3 + 1)) : Int) ≤ p0.2.2.length then
                              if (([] : List (ByteArray × Int)) ++ (p0.2.2.take (r3 : Int).toNat)).length + (p0.2.2.drop ((IntKind.i64.wrap (r3 + 1)) : Int).toNat).length < room 24 then
                                some ((p0.1, (p0.2.1, (([] : List (ByteArray × Int)) ++ (p0.2.2.take (r3 : Int).toNat)) ++ (p0.2.2.drop ((IntKind.i64.wrap (r3 + 1)) : Int).toNat))), 0)
                              else
                                none
                            else
                              none
                          else
                            none
                        ) (
                          if (0 : Int) ≤ (IntKind.i64.wrap (r3 + 1)) ∧ ((IntKind.i64.wrap (r3 + 1)) : Int) ≤ p0.2.2.length then
                            if ([] : List (ByteArray × Int)).length + (p0.2.2.take (r3 : Int).toNat).length < room 24 then
                              if (([] : List (ByteArray × Int)) ++ (p0.2.2.take (r3 : Int).toNat)).length + (p0.2.2.drop ((IntKind.i64.wrap (r3 + 1)) : Int).toNat).length < room 24 then
                                some ((p0.1, (p0.2.1, (([] : List (ByteArray × Int)) ++ (p0.2.2.take (r3 : Int).toNat)) ++ (p0.2.2.drop ((IntKind.i64.wrap (r3 + 1)) : Int).toNat))), 0)
                              else
                                none
                            else
                              none
                          else
                            none
                        )
                      )
                    else
                      none
                  ) (
                    if (0 : Int) ≤ (IntKind.i64.wrap (r3 + 1)) ∧ ((IntKind.i64.wrap (r3 + 1)) : Int) ≤ p0.2.2.length then
                      if (0 : Int) ≤ r3 ∧ (r3 : Int) ≤ p0.2.2.length then
                        if ([] : List (ByteArray × Int)).length + (p0.2.2.take (r3 : Int).toNat).length < room 24 then
                          if (([] : List (ByteArray × Int)) ++ (p0.2.2.take (r3 : Int).toNat)).length + (p0.2.2.drop ((IntKind.i64.wrap (r3 + 1)) : Int).toNat).length < room 24 then
                            some ((p0.1, (p0.2.1, (([] : List (ByteArray × Int)) ++ (p0.2.2.take (r3 : Int).toNat)) ++ (p0.2.2.drop ((IntKind.i64.wrap (r3 + 1)) : Int).toNat))), 0)
                          else
                            none
                        else
                          none
                      else
                        none
                    else
                      none
                  )
                )
              ) (
                agree (
                  agree (
                    agree (
                      if (0 : Int) ≤ r3 ∧ (r3 : Int) ≤ p0.2.2.length then
                        agree (
                          if ([] : List (ByteArray × Int)).length + (p0.2.2.take (r3 : Int).toNat).length < room 24 then
                            if (0 : Int) ≤ (IntKind.i64.wrap (r3 + 1)) ∧ ((IntKind.i64.wrap (r3 + 1)) : Int) ≤ p0.2.2.length then
                              if (([] : List (ByteArray × Int)) ++ (p0.2.2.take (r3 : Int).toNat)).length + (p0.2.2.drop ((IntKind.i64.wrap (r3 + 1)) : Int).toNat).length < room 24 then
                                some ((p0.1, (p0.2.1, (([] : List (ByteArray × Int)) ++ (p0.2.2.take (r3 : Int).toNat)) ++ (p0.2.2.drop ((IntKind.i64.wrap (r3 + 1)) : Int).toNat))), 0)
                              else
                                none
                            else
                              none
                          else
                            none
                        ) (
                          if (0 : Int) ≤ (IntKind.i64.wrap (r3 + 1)) ∧ ((IntKind.i64.wrap (r3 + 1)) : Int) ≤ p0.2.2.length then
                            if ([] : List (ByteArray × Int)).length + (p0.2.2.take (r3 : Int).toNat).length < room 24 then
                              if (([] : List (ByteArray × Int)) ++ (p0.2.2.take (r3 : Int).toNat)).length + (p0.2.2.drop ((IntKind.i64.wrap (r3 + 1)) : Int).toNat).length < room 24 then
                                some ((p0.1, (p0.2.1, (([] : List (ByteArray × Int)) ++ (p0.2.2.take (r3 : Int).toNat)) ++ (p0.2.2.drop ((IntKind.i64.wrap (r3 + 1)) : Int).toNat))), 0)
                              else
                                none
                            else
                              none
                          else
                            none
                        )
                      else
                        none
                    ) (
                      if (0 : Int) ≤ (IntKind.i64.wrap (r3 + 1)) ∧ ((IntKind.i64.wrap (r3 + 1)) : Int) ≤ p0.2.2.length then
                        if (0 : Int) ≤ r3 ∧ (r3 : Int) ≤ p0.2.2.length then
                          if ([] : List (ByteArray × Int)).length + (p0.2.2.take (r3 : Int).toNat).length < room 24 then
                            if (([] : List (ByteArray × Int)) ++ (p0.2.2.take (r3 : Int).toNat)).length + (p0.2.2.drop ((IntKind.i64.wrap (r3 + 1)) : Int).toNat).length < room 24 then
                              some ((p0.1, (p0.2.1, (([] : List (ByteArray × Int)) ++ (p0.2.2.take (r3 : Int).toNat)) ++ (p0.2.2.drop ((IntKind.i64.wrap (r3 + 1)) : Int).toNat))), 0)
                            else
                              none
                          else
                            none
                        else
                          none
                      else
                        none
                    )
                  ) (
                    agree (
                      if (0 : Int) ≤ r3 ∧ (r3 : Int) ≤ p0.2.2.length then
                        agree (
                          agree (
                            if ([] : List (ByteArray × Int)).length + (p0.2.2.take (r3 : Int).toNat).length < room 24 then
                              if (0 : Int) ≤ (IntKind.i64.wrap (r3 + 1)) ∧ ((IntKind.i64.wrap (r3 + 1)) : Int) ≤ p0.2.2.length then
                                if (([] : List (ByteArray × Int)) ++ (p0.2.2.take (r3 : Int).toNat)).length + (p0.2.2.drop ((IntKind.i64.wrap (r3 + 1)) : Int).toNat).length < room 24 then
                                  some ((p0.1, (p0.2.1, (([] : List (ByteArray × Int)) ++ (p0.2.2.take (r3 : Int).toNat)) ++ (p0.2.2.drop ((IntKind.i64.wrap (r3 + 1)) : Int).toNat))), 0)
                                else
                                  none
                              else
                                none
                            else
                              none
                          ) (
                            if (0 : Int) ≤ (IntKind.i64.wrap (r3 + 1)) ∧ ((IntKind.i64.wrap (r3 + 1)) : Int) ≤ p0.2.2.length then
                              if ([] : List (ByteArray × Int)).length + (p0.2.2.take (r3 : Int).toNat).length < room 24 then
                                if (([] : List (ByteArray × Int)) ++ (p0.2.2.take (r3 : Int).toNat)).length + (p0.2.2.drop ((IntKind.i64.wrap (r3 + 1)) : Int).toNat).length < room 24 then
                                  some ((p0.1, (p0.2.1, (([] : List (ByteArray × Int)) ++ (p0.2.2.take (r3 : Int).toNat)) ++ (p0.2.2.drop ((IntKind.i64.wrap (r3 + 1)) : Int).toNat))), 0)
                                else
                                  none
                              else
                                none
                            else
                              none
                          )
                        ) (
                          agree (
                            if ([] : List (ByteArray × Int)).length + (p0.2.2.take (r3 : Int).toNat).length < room 24 then
                              if (0 : Int) ≤ (IntKind.i64.wrap (r3 + 1)) ∧ ((IntKind.i64.wrap (r3 + 1)) : Int) ≤ p0.2.2.length then
                                if (([] : List (ByteArray × Int)) ++ (p0.2.2.take (r3 : Int).toNat)).length + (p0.2.2.drop ((IntKind.i64.wrap (r3 + 1)) : Int).toNat).length < room 24 then
                                  some ((p0.1, (p0.2.1, (([] : List (ByteArray × Int)) ++ (p0.2.2.take (r3 : Int).toNat)) ++ (p0.2.2.drop ((IntKind.i64.wrap (r3 + 1)) : Int).toNat))), 0)
                                else
                                  none
                              else
                                none
                            else
                              none
                          ) (
                            if (0 : Int) ≤ (IntKind.i64.wrap (r3 + 1)) ∧ ((IntKind.i64.wrap (r3 + 1)) : Int) ≤ p0.2.2.length then
                              if ([] : List (ByteArray × Int)).length + (p0.2.2.take (r3 : Int).toNat).length < room 24 then
                                if (([] : List (ByteArray × Int)) ++ (p0.2.2.take (r3 : Int).toNat)).length + (p0.2.2.drop ((IntKind.i64.wrap (r3 + 1)) : Int).toNat).length < room 24 then
                                  some ((p0.1, (p0.2.1, (([] : List (ByteArray × Int)) ++ (p0.2.2.take (r3 : Int).toNat)) ++ (p0.2.2.drop ((IntKind.i64.wrap (r3 + 1)) : Int).toNat))), 0)
                                else
                                  none
                              else
                                none
                            else
                              none
                          )
                        )
                      else
                        none
                    ) (
                      if (0 : Int) ≤ (IntKind.i64.wrap (r3 + 1)) ∧ ((IntKind.i64.wrap (r3 + 1)) : Int) ≤ p0.2.2.length then
                        if (0 : Int) ≤ r3 ∧ (r3 : Int) ≤ p0.2.2.length then
                          if ([] : List (ByteArray × Int)).length + (p0.2.2.take (r3 : Int).toNat).length < room 24 then
                            if (([] : List (ByteArray × Int)) ++ (p0.2.2.take (r3 : Int).toNat)).length + (p0.2.2.drop ((IntKind.i64.wrap (r3 + 1)) : Int).toNat).length < room 24 then
                              some ((p0.1, (p0.2.1, (([] : List (ByteArray × Int)) ++ (p0.2.2.take (r3 : Int).toNat)) ++ (p0.2.2.drop ((IntKind.i64.wrap (r3 + 1)) : Int).toNat))), 0)
                            else
                              none
                          else
                            none
                        else
                          none
                      else
                        none
                    )
                  )
                ) (
                  agree (
                    if (0 : Int) ≤ r3 ∧ (r3 : Int) ≤ p0.2.2.length then
                      agree (
                        agree (
                          agree (
                            if ([] : List (ByteArray × Int)).length + (p0.2.2.take (r3 : Int).toNat).length < room 24 then
                              if (0 : Int) ≤ (IntKind.i64.wrap (r3 + 1)) ∧ ((IntKind.i64.wrap (r3 + 1)) : Int) ≤ p0.2.2.length then
                                if (([] : List (ByteArray × Int)) ++ (p0.2.2.take (r3 : Int).toNat)).length + (p0.2.2.drop ((IntKind.i64.wrap (r3 + 1)) : Int).toNat).length < room 24 then
                                  some ((p0.1, (p0.2.1, (([] : List (ByteArray × Int)) ++ (p0.2.2.take (r3 : Int).toNat)) ++ (p0.2.2.drop ((IntKind.i64.wrap (r3 + 1)) : Int).toNat))), 0)
                                else
                                  none
                              else
                                none
                            else
                              none
                          ) (
                            if (0 : Int) ≤ (IntKind.i64.wrap (r3 + 1)) ∧ ((IntKind.i64.wrap (r3 + 1)) : Int) ≤ p0.2.2.length then
                              if ([] : List (ByteArray × Int)).length + (p0.2.2.take (r3 : Int).toNat).length < room 24 then
                                if (([] : List (ByteArray × Int)) ++ (p0.2.2.take (r3 : Int).toNat)).length + (p0.2.2.drop ((IntKind.i64.wrap (r3 + 1)) : Int).toNat).length < room 24 then
                                  some ((p0.1, (p0.2.1, (([] : List (ByteArray × Int)) ++ (p0.2.2.take (r3 : Int).toNat)) ++ (p0.2.2.drop ((IntKind.i64.wrap (r3 + 1)) : Int).toNat))), 0)
                                else
                                  none
                              else
                                none
                            else
                              none
                          )
                        ) (
                          agree (
                            if ([] : List (ByteArray × Int)).length + (p0.2.2.take (r3 : Int).toNat).length < room 24 then
                              if (0 : Int) ≤ (IntKind.i64.wrap (r3 + 1)) ∧ ((IntKind.i64.wrap (r3 + 1)) : Int) ≤ p0.2.2.length then
                                if (([] : List (ByteArray × Int)) ++ (p0.2.2.take (r3 : Int).toNat)).length + (p0.2.2.drop ((IntKind.i64.wrap (r3 + 1)) : Int).toNat).length < room 24 then
                                  some ((p0.1, (p0.2.1, (([] : List (ByteArray × Int)) ++ (p0.2.2.take (r3 : Int).toNat)) ++ (p0.2.2.drop ((IntKind.i64.wrap (r3 + 1)) : Int).toNat))), 0)
                                else
                                  none
                              else
                                none
                            else
                              none
                          ) (
                            if (0 : Int) ≤ (IntKind.i64.wrap (r3 + 1)) ∧ ((IntKind.i64.wrap (r3 + 1)) : Int) ≤ p0.2.2.length then
                              if ([] : List (ByteArray × Int)).length + (p0.2.2.take (r3 : Int).toNat).length < room 24 then
                                if (([] : List (ByteArray × Int)) ++ (p0.2.2.take (r3 : Int).toNat)).length + (p0.2.2.drop ((IntKind.i64.wrap (r3 + 1)) : Int).toNat).length < room 24 then
                                  some ((p0.1, (p0.2.1, (([] : List (ByteArray × Int)) ++ (p0.2.2.take (r3 : Int).toNat)) ++ (p0.2.2.drop ((IntKind.i64.wrap (r3 + 1)) : Int).toNat))), 0)
                                else
                                  none
                              else
                                none
                            else
                              none
                          )
                        )
                      ) (
                        agree (
                          agree (
                            agree (
                              if ([] : List (ByteArray × Int)).length + (p0.2.2.take (r3 : Int).toNat).length < room 24 then
                                if (0 : Int) ≤ (IntKind.i64.wrap (r3 + 1)) ∧ ((IntKind.i64.wrap (r3 + 1)) : Int) ≤ p0.2.2.length then
                                  if (([] : List (ByteArray × Int)) ++ (p0.2.2.take (r3 : Int).toNat)).length + (p0.2.2.drop ((IntKind.i64.wrap (r3 + 1)) : Int).toNat).length < room 24 then
                                    some ((p0.1, (p0.2.1, (([] : List (ByteArray × Int)) ++ (p0.2.2.take (r3 : Int).toNat)) ++ (p0.2.2.drop ((IntKind.i64.wrap (r3 + 1)) : Int).toNat))), 0)
                                  else
                                    none
                                else
                                  none
                              else
                                none
                            ) (
                              if (0 : Int) ≤ (IntKind.i64.wrap (r3 + 1)) ∧ ((IntKind.i64.wrap (r3 + 1)) : Int) ≤ p0.2.2.length then
                                if ([] : List (ByteArray × Int)).length + (p0.2.2.take (r3 : Int).toNat).length < room 24 then
                                  if (([] : List (ByteArray × Int)) ++ (p0.2.2.take (r3 : Int).toNat)).length + (p0.2.2.drop ((IntKind.i64.wrap (r3 + 1)) : Int).toNat).length < room 24 then
                                    some ((p0.1, (p0.2.1, (([] : List (ByteArray × Int)) ++ (p0.2.2.take (r3 : Int).toNat)) ++ (p0.2.2.drop ((IntKind.i64.wrap (r3 + 1)) : Int).toNat))), 0)
                                  else
                                    none
                                else
                                  none
                              else
                                none
                            )
                          ) (
                            agree (
                              if ([] : List (ByteArray × Int)).length + (p0.2.2.take (r3 : Int).toNat).length < room 24 then
                                if (0 : Int) ≤ (IntKind.i64.wrap (r3 + 1)) ∧ ((IntKind.i64.wrap (r3 + 1)) : Int) ≤ p0.2.2.length then
                                  if (([] : List (ByteArray × Int)) ++ (p0.2.2.take (r3 : Int).toNat)).length + (p0.2.2.drop ((IntKind.i64.wrap (r3 + 1)) : Int).toNat).length < room 24 then
                                    some ((p0.1, (p0.2.1, (([] : List (ByteArray × Int)) ++ (p0.2.2.take (r3 : Int).toNat)) ++ (p0.2.2.drop ((IntKind.i64.wrap (r3 + 1)) : Int).toNat))), 0)
                                  else
                                    none
                                else
                                  none
                              else
                                none
                            ) (
                              if (0 : Int) ≤ (IntKind.i64.wrap (r3 + 1)) ∧ ((IntKind.i64.wrap (r3 + 1)) : Int) ≤ p0.2.2.length then
                                if ([] : List (ByteArray × Int)).length + (p0.2.2.take (r3 : Int).toNat).length < room 24 then
                                  if (([] : List (ByteArray × Int)) ++ (p0.2.2.take (r3 : Int).toNat)).length + (p0.2.2.drop ((IntKind.i64.wrap (r3 + 1)) : Int).toNat).length < room 24 then
                                    some ((p0.1, (p0.2.1, (([] : List (ByteArray × Int)) ++ (p0.2.2.take (r3 : Int).toNat)) ++ (p0.2.2.drop ((IntKind.i64.wrap (r3 + 1)) : Int).toNat))), 0)
                                  else
                                    none
                                else
                                  none
                              else
                                none
                            )
                          )
                        ) (
                          agree (
                            if ([] : List (ByteArray × Int)).length + (p0.2.2.take (r3 : Int).toNat).length < room 24 then
                              if (0 : Int) ≤ (IntKind.i64.wrap (r3 + 1)) ∧ ((IntKind.i64.wrap (r3 + 1)) : Int) ≤ p0.2.2.length then
                                if (([] : List (ByteArray × Int)) ++ (p0.2.2.take (r3 : Int).toNat)).length + (p0.2.2.drop ((IntKind.i64.wrap (r3 + 1)) : Int).toNat).length < room 24 then
                                  some ((p0.1, (p0.2.1, (([] : List (ByteArray × Int)) ++ (p0.2.2.take (r3 : Int).toNat)) ++ (p0.2.2.drop ((IntKind.i64.wrap (r3 + 1)) : Int).toNat))), 0)
                                else
                                  none
                              else
                                none
                            else
                              none
                          ) (
                            if (0 : Int) ≤ (IntKind.i64.wrap (r3 + 1)) ∧ ((IntKind.i64.wrap (r3 + 1)) : Int) ≤ p0.2.2.length then
                              if ([] : List (ByteArray × Int)).length + (p0.2.2.take (r3 : Int).toNat).length < room 24 then
                                if (([] : List (ByteArray × Int)) ++ (p0.2.2.take (r3 : Int).toNat)).length + (p0.2.2.drop ((IntKind.i64.wrap (r3 + 1)) : Int).toNat).length < room 24 then
                                  some ((p0.1, (p0.2.1, (([] : List (ByteArray × Int)) ++ (p0.2.2.take (r3 : Int).toNat)) ++ (p0.2.2.drop ((IntKind.i64.wrap (r3 + 1)) : Int).toNat))), 0)
                                else
                                  none
                              else
                                none
                            else
                              none
                          )
                        )
                      )
                    else
                      none
                  ) (
                    if (0 : Int) ≤ (IntKind.i64.wrap (r3 + 1)) ∧ ((IntKind.i64.wrap (r3 + 1)) : Int) ≤ p0.2.2.length then
                      if (0 : Int) ≤ r3 ∧ (r3 : Int) ≤ p0.2.2.length then
                        if ([] : List (ByteArray × Int)).length + (p0.2.2.take (r3 : Int).toNat).length < room 24 then
                          if (([] : List (ByteArray × Int)) ++ (p0.2.2.take (r3 : Int).toNat)).length + (p0.2.2.drop ((IntKind.i64.wrap (r3 + 1)) : Int).toNat).length < room 24 then
                            some ((p0.1, (p0.2.1, (([] : List (ByteArray × Int)) ++ (p0.2.2.take (r3 : Int).toNat)) ++ (p0.2.2.drop ((IntKind.i64.wrap (r3 + 1)) : Int).toNat))), 0)
                          else
                            none
                        else
                          none
                      else
                        none
                    else
                      none
                  )
                )
              )
            ) (
              agree (
                if (0 : Int) ≤ r3 ∧ (r3 : Int) ≤ p0.2.2.length then
                  agree (
                    agree (
                      agree (
                        agree (
                          if ([] : List (ByteArray × Int)).length + (p0.2.2.take (r3 : Int).toNat).length < room 24 then
                            if (0 : Int) ≤ (IntKind.i64.wrap (r3 + 1)) ∧ ((IntKind.i64.wrap (r3 + 1)) : Int) ≤ p0.2.2.length then
                              if (([] : List (ByteArray × Int)) ++ (p0.2.2.take (r3 : Int).toNat)).length + (p0.2.2.drop ((IntKind.i64.wrap (r3 + 1)) : Int).toNat).length < room 24 then
                                some ((p0.1, (p0.2.1, (([] : List (ByteArray × Int)) ++ (p0.2.2.take (r3 : Int).toNat)) ++ (p0.2.2.drop ((IntKind.i64.wrap (r3 + 1)) : Int).toNat))), 0)
                              else
                                none
                            else
                              none
                          else
                            none
                        ) (
                          if (0 : Int) ≤ (IntKind.i64.wrap (r3 + 1)) ∧ ((IntKind.i64.wrap (r3 + 1)) : Int) ≤ p0.2.2.length then
                            if ([] : List (ByteArray × Int)).length + (p0.2.2.take (r3 : Int).toNat).length < room 24 then
                              if (([] : List (ByteArray × Int)) ++ (p0.2.2.take (r3 : Int).toNat)).length + (p0.2.2.drop ((IntKind.i64.wrap (r3 + 1)) : Int).toNat).length < room 24 then
                                some ((p0.1, (p0.2.1, (([] : List (ByteArray × Int)) ++ (p0.2.2.take (r3 : Int).toNat)) ++ (p0.2.2.drop ((IntKind.i64.wrap (r3 + 1)) : Int).toNat))), 0)
                              else
                                none
                            else
                              none
                          else
                            none
                        )
                      ) (
                        if (0 : Int) ≤ (IntKind.i64.wrap (r3 + 1)) ∧ ((IntKind.i64.wrap (r3 + 1)) : Int) ≤ p0.2.2.length then
                          if ([] : List (ByteArray × Int)).length + (p0.2.2.take (r3 : Int).toNat).length < room 24 then
                            if (([] : List (ByteArray × Int)) ++ (p0.2.2.take (r3 : Int).toNat)).length + (p0.2.2.drop ((IntKind.i64.wrap (r3 + 1)) : Int).toNat).length < room 24 then
                              some ((p0.1, (p0.2.1, (([] : List (ByteArray × Int)) ++ (p0.2.2.take (r3 : Int).toNat)) ++ (p0.2.2.drop ((IntKind.i64.wrap (r3 + 1)) : Int).toNat))), 0)
                            else
                              none
                          else
                            none
                        else
                          none
                      )
                    ) (
                      agree (
                        agree (
                          agree (
                            if ([] : List (ByteArray × Int)).length + (p0.2.2.take (r3 : Int).toNat).length < room 24 then
                              if (0 : Int) ≤ (IntKind.i64.wrap (r3 + 1)) ∧ ((IntKind.i64.wrap (r3 + 1)) : Int) ≤ p0.2.2.length then
                                if (([] : List (ByteArray × Int)) ++ (p0.2.2.take (r3 : Int).toNat)).length + (p0.2.2.drop ((IntKind.i64.wrap (r3 + 1)) : Int).toNat).length < room 24 then
                                  some ((p0.1, (p0.2.1, (([] : List (ByteArray × Int)) ++ (p0.2.2.take (r3 : Int).toNat)) ++ (p0.2.2.drop ((IntKind.i64.wrap (r3 + 1)) : Int).toNat))), 0)
                                else
                                  none
                              else
                                none
                            else
                              none
                          ) (
                            if (0 : Int) ≤ (IntKind.i64.wrap (r3 + 1)) ∧ ((IntKind.i64.wrap (r3 + 1)) : Int) ≤ p0.2.2.length then
                              if ([] : List (ByteArray × Int)).length + (p0.2.2.take (r3 : Int).toNat).length < room 24 then
                                if (([] : List (ByteArray × Int)) ++ (p0.2.2.take (r3 : Int).toNat)).length + (p0.2.2.drop ((IntKind.i64.wrap (r3 + 1)) : Int).toNat).length < room 24 then
                                  some ((p0.1, (p0.2.1, (([] : List (ByteArray × Int)) ++ (p0.2.2.take (r3 : Int).toNat)) ++ (p0.2.2.drop ((IntKind.i64.wrap (r3 + 1)) : Int).toNat))), 0)
                                else
                                  none
                              else
                                none
                            else
                              none
                          )
                        ) (
                          agree (
                            if ([] : List (ByteArray × Int)).length + (p0.2.2.take (r3 : Int).toNat).length < room 24 then
                              if (0 : Int) ≤ (IntKind.i64.wrap (r3 + 1)) ∧ ((IntKind.i64.wrap (r3 + 1)) : Int) ≤ p0.2.2.length then
                                if (([] : List (ByteArray × Int)) ++ (p0.2.2.take (r3 : Int).toNat)).length + (p0.2.2.drop ((IntKind.i64.wrap (r3 + 1)) : Int).toNat).length < room 24 then
                                  some ((p0.1, (p0.2.1, (([] : List (ByteArray × Int)) ++ (p0.2.2.take (r3 : Int).toNat)) ++ (p0.2.2.drop ((IntKind.i64.wrap (r3 + 1)) : Int).toNat))), 0)
                                else
                                  none
                              else
                                none
                            else
                              none
                          ) (
                            if (0 : Int) ≤ (IntKind.i64.wrap (r3 + 1)) ∧ ((IntKind.i64.wrap (r3 + 1)) : Int) ≤ p0.2.2.length then
                              if ([] : List (ByteArray × Int)).length + (p0.2.2.take (r3 : Int).toNat).length < room 24 then
                                if (([] : List (ByteArray × Int)) ++ (p0.2.2.take (r3 : Int).toNat)).length + (p0.2.2.drop ((IntKind.i64.wrap (r3 + 1)) : Int).toNat).length < room 24 then
                                  some ((p0.1, (p0.2.1, (([] : List (ByteArray × Int)) ++ (p0.2.2.take (r3 : Int).toNat)) ++ (p0.2.2.drop ((IntKind.i64.wrap (r3 + 1)) : Int).toNat))), 0)
                                else
                                  none
                              else
                                none
                            else
                              none
                          )
                        )
                      ) (
                        if (0 : Int) ≤ (IntKind.i64.wrap (r3 + 1)) ∧ ((IntKind.i64.wrap (r3 + 1)) : Int) ≤ p0.2.2.length then
                          if ([] : List (ByteArray × Int)).length + (p0.2.2.take (r3 : Int).toNat).length < room 24 then
                            if (([] : List (ByteArray × Int)) ++ (p0.2.2.take (r3 : Int).toNat)).length + (p0.2.2.drop ((IntKind.i64.wrap (r3 + 1)) : Int).toNat).length < room 24 then
                              some ((p0.1, (p0.2.1, (([] : List (ByteArray × Int)) ++ (p0.2.2.take (r3 : Int).toNat)) ++ (p0.2.2.drop ((IntKind.i64.wrap (r3 + 1)) : Int).toNat))), 0)
                            else
                              none
                          else
                            none
                        else
                          none
                      )
                    )
                  ) (
                    agree (
                      agree (
                        agree (
                          agree (
                            if ([] : List (ByteArray × Int)).length + (p0.2.2.take (r3 : Int).toNat).length < room 24 then
                              if (0 : Int) ≤ (IntKind.i64.wrap (r3 + 1)) ∧ ((IntKind.i64.wrap (r3 + 1)) : Int) ≤ p0.2.2.length then
                                if (([] : List (ByteArray × Int)) ++ (p0.2.2.take (r3 : Int).toNat)).length + (p0.2.2.drop ((IntKind.i64.wrap (r3 + 1)) : Int).toNat).length < room 24 then
                                  some ((p0.1, (p0.2.1, (([] : List (ByteArray × Int)) ++ (p0.2.2.take (r3 : Int).toNat)) ++ (p0.2.2.drop ((IntKind.i64.wrap (r3 + 1)) : Int).toNat))), 0)
                                else
                                  none
                              else
                                none
                            else
                              none
                          ) (
                            if (0 : Int) ≤ (IntKind.i64.wrap (r3 + 1)) ∧ ((IntKind.i64.wrap (r3 + 1)) : Int) ≤ p0.2.2.length then
                              if ([] : List (ByteArray × Int)).length + (p0.2.2.take (r3 : Int).toNat).length < room 24 then
                                if (([] : List (ByteArray × Int)) ++ (p0.2.2.take (r3 : Int).toNat)).length + (p0.2.2.drop ((IntKind.i64.wrap (r3 + 1)) : Int).toNat).length < room 24 then
                                  some ((p0.1, (p0.2.1, (([] : List (ByteArray × Int)) ++ (p0.2.2.take (r3 : Int).toNat)) ++ (p0.2.2.drop ((IntKind.i64.wrap (r3 + 1)) : Int).toNat))), 0)
                                else
                                  none
                              else
                                none
                            else
                              none
                          )
                        ) (
                          if (0 : Int) ≤ (IntKind.i64.wrap (r3 + 1)) ∧ ((IntKind.i64.wrap (r3 + 1)) : Int) ≤ p0.2.2.length then
                            if ([] : List (ByteArray × Int)).length + (p0.2.2.take (r3 : Int).toNat).length < room 24 then
                              if (([] : List (ByteArray × Int)) ++ (p0.2.2.take (r3 : Int).toNat)).length + (p0.2.2.drop ((IntKind.i64.wrap (r3 + 1)) : Int).toNat).length < room 24 then
                                some ((p0.1, (p0.2.1, (([] : List (ByteArray × Int)) ++ (p0.2.2.take (r3 : Int).toNat)) ++ (p0.2.2.drop ((IntKind.i64.wrap (r3 + 1)) : Int).toNat))), 0)
                              else
                                none
                            else
                              none
                          else
                            none
                        )
                      ) (
                        agree (
                          agree (
                            agree (
                              if ([] : List (ByteArray × Int)).length + (p0.2.2.take (r3 : Int).toNat).length < room 24 then
                                if (0 : Int) ≤ (IntKind.i64.wrap (r3 + 1)) ∧ ((IntKind.i64.wrap (r3 + 1)) : Int) ≤ p0.2.2.length then
                                  if (([] : List (ByteArray × Int)) ++ (p0.2.2.take (r3 : Int).toNat)).length + (p0.2.2.drop ((IntKind.i64.wrap (r3 + 1)) : Int).toNat).length < room 24 then
                                    some ((p0.1, (p0.2.1, (([] : List (ByteArray × Int)) ++ (p0.2.2.take (r3 : Int).toNat)) ++ (p0.2.2.drop ((IntKind.i64.wrap (r3 + 1)) : Int).toNat))), 0)
                                  else
                                    none
                                else
                                  none
                              else
                                none
                            ) (
                              if (0 : Int) ≤ (IntKind.i64.wrap (r3 + 1)) ∧ ((IntKind.i64.wrap (r3 + 1)) : Int) ≤ p0.2.2.length then
                                if ([] : List (ByteArray × Int)).length + (p0.2.2.take (r3 : Int).toNat).length < room 24 then
                                  if (([] : List (ByteArray × Int)) ++ (p0.2.2.take (r3 : Int).toNat)).length + (p0.2.2.drop ((IntKind.i64.wrap (r3 + 1)) : Int).toNat).length < room 24 then
                                    some ((p0.1, (p0.2.1, (([] : List (ByteArray × Int)) ++ (p0.2.2.take (r3 : Int).toNat)) ++ (p0.2.2.drop ((IntKind.i64.wrap (r3 + 1)) : Int).toNat))), 0)
                                  else
                                    none
                                else
                                  none
                              else
                                none
                            )
                          ) (
                            agree (
                              if ([] : List (ByteArray × Int)).length + (p0.2.2.take (r3 : Int).toNat).length < room 24 then
                                if (0 : Int) ≤ (IntKind.i64.wrap (r3 + 1)) ∧ ((IntKind.i64.wrap (r3 + 1)) : Int) ≤ p0.2.2.length then
                                  if (([] : List (ByteArray × Int)) ++ (p0.2.2.take (r3 : Int).toNat)).length + (p0.2.2.drop ((IntKind.i64.wrap (r3 + 1)) : Int).toNat).length < room 24 then
                                    some ((p0.1, (p0.2.1, (([] : List (ByteArray × Int)) ++ (p0.2.2.take (r3 : Int).toNat)) ++ (p0.2.2.drop ((IntKind.i64.wrap (r3 + 1)) : Int).toNat))), 0)
                                  else
                                    none
                                else
                                  none
                              else
                                none
                            ) (
                              if (0 : Int) ≤ (IntKind.i64.wrap (r3 + 1)) ∧ ((IntKind.i64.wrap (r3 + 1)) : Int) ≤ p0.2.2.length then
                                if ([] : List (ByteArray × Int)).length + (p0.2.2.take (r3 : Int).toNat).length < room 24 then
                                  if (([] : List (ByteArray × Int)) ++ (p0.2.2.take (r3 : Int).toNat)).length + (p0.2.2.drop ((IntKind.i64.wrap (r3 + 1)) : Int).toNat).length < room 24 then
                                    some ((p0.1, (p0.2.1, (([] : List (ByteArray × Int)) ++ (p0.2.2.take (r3 : Int).toNat)) ++ (p0.2.2.drop ((IntKind.i64.wrap (r3 + 1)) : Int).toNat))), 0)
                                  else
                                    none
                                else
                                  none
                              else
                                none
                            )
                          )
                        ) (
                          if (0 : Int) ≤ (IntKind.i64.wrap (r3 + 1)) ∧ ((IntKind.i64.wrap (r3 + 1)) : Int) ≤ p0.2.2.length then
                            if ([] : List (ByteArray × Int)).length + (p0.2.2.take (r3 : Int).toNat).length < room 24 then
                              if (([] : List (ByteArray × Int)) ++ (p0.2.2.take (r3 : Int).toNat)).length + (p0.2.2.drop ((IntKind.i64.wrap (r3 + 1)) : Int).toNat).length < room 24 then
                                some ((p0.1, (p0.2.1, (([] : List (ByteArray × Int)) ++ (p0.2.2.take (r3 : Int).toNat)) ++ (p0.2.2.drop ((IntKind.i64.wrap (r3 + 1)) : Int).toNat))), 0)
                              else
                                none
                            else
                              none
                          else
                            none
                        )
                      )
                    ) (
                      agree (
                        agree (
                          agree (
                            agree (
                              if ([] : List (ByteArray × Int)).length + (p0.2.2.take (r3 : Int).toNat).length < room 24 then
                                if (0 : Int) ≤ (IntKind.i64.wrap (r3 + 1)) ∧ ((IntKind.i64.wrap (r3 + 1)) : Int) ≤ p0.2.2.length then
                                  if (([] : List (ByteArray × Int)) ++ (p0.2.2.take (r3 : Int).toNat)).length + (p0.2.2.drop ((IntKind.i64.wrap (r3 + 1)) : Int).toNat).length < room 24 then
                                    some ((p0.1, (p0.2.1, (([] : List (ByteArray × Int)) ++ (p0.2.2.take (r3 : Int).toNat)) ++ (p0.2.2.drop ((IntKind.i64.wrap (r3 + 1)) : Int).toNat))), 0)
                                  else
                                    none
                                else
                                  none
                              else
                                none
                            ) (
                              if (0 : Int) ≤ (IntKind.i64.wrap (r3 + 1)) ∧ ((IntKind.i64.wrap (r3 + 1)) : Int) ≤ p0.2.2.length then
                                if ([] : List (ByteArray × Int)).length + (p0.2.2.take (r3 : Int).toNat).length < room 24 then
                                  if (([] : List (ByteArray × Int)) ++ (p0.2.2.take (r3 : Int).toNat)).length + (p0.2.2.drop ((IntKind.i64.wrap (r3 + 1)) : Int).toNat).length < room 24 then
                                    some ((p0.1, (p0.2.1, (([] : List (ByteArray × Int)) ++ (p0.2.2.take (r3 : Int).toNat)) ++ (p0.2.2.drop ((IntKind.i64.wrap (r3 + 1)) : Int).toNat))), 0)
                                  else
                                    none
                                else
                                  none
                              else
                                none
                            )
                          ) (
                            agree (
                              if ([] : List (ByteArray × Int)).length + (p0.2.2.take (r3 : Int).toNat).length < room 24 then
                                if (0 : Int) ≤ (IntKind.i64.wrap (r3 + 1)) ∧ ((IntKind.i64.wrap (r3 + 1)) : Int) ≤ p0.2.2.length then
                                  if (([] : List (ByteArray × Int)) ++ (p0.2.2.take (r3 : Int).toNat)).length + (p0.2.2.drop ((IntKind.i64.wrap (r3 + 1)) : Int).toNat).length < room 24 then
                                    some ((p0.1, (p0.2.1, (([] : List (ByteArray × Int)) ++ (p0.2.2.take (r3 : Int).toNat)) ++ (p0.2.2.drop ((IntKind.i64.wrap (r3 + 1)) : Int).toNat))), 0)
                                  else
                                    none
                                else
                                  none
                              else
                                none
                            ) (
                              if (0 : Int) ≤ (IntKind.i64.wrap (r3 + 1)) ∧ ((IntKind.i64.wrap (r3 + 1)) : Int) ≤ p0.2.2.length then
                                if ([] : List (ByteArray × Int)).length + (p0.2.2.take (r3 : Int).toNat).length < room 24 then
                                  if (([] : List (ByteArray × Int)) ++ (p0.2.2.take (r3 : Int).toNat)).length + (p0.2.2.drop ((IntKind.i64.wrap (r3 + 1)) : Int).toNat).length < room 24 then
                                    some ((p0.1, (p0.2.1, (([] : List (ByteArray × Int)) ++ (p0.2.2.take (r3 : Int).toNat)) ++ (p0.2.2.drop ((IntKind.i64.wrap (r3 + 1)) : Int).toNat))), 0)
                                  else
                                    none
                                else
                                  none
                              else
                                none
                            )
                          )
                        ) (
                          agree (
                            agree (
                              agree (
                                if ([] : List (ByteArray × Int)).length + (p0.2.2.take (r3 : Int).toNat).length < room 24 then
                                  if (0 : Int) ≤ (IntKind.i64.wrap (r3 + 1)) ∧ ((IntKind.i64.wrap (r3 + 1)) : Int) ≤ p0.2.2.length then
                                    if (([] : List (ByteArray × Int)) ++ (p0.2.2.take (r3 : Int).toNat)).length + (p0.2.2.drop ((IntKind.i64.wrap (r3 + 1)) : Int).toNat).length < room 24 then
                                      some ((p0.1, (p0.2.1, (([] : List (ByteArray × Int)) ++ (p0.2.2.take (r3 : Int).toNat)) ++ (p0.2.2.drop ((IntKind.i64.wrap (r3 + 1)) : Int).toNat))), 0)
                                    else
                                      none
                                  else
                                    none
                                else
                                  none
                              ) (
                                if (0 : Int) ≤ (IntKind.i64.wrap (r3 + 1)) ∧ ((IntKind.i64.wrap (r3 + 1)) : Int) ≤ p0.2.2.length then
                                  if ([] : List (ByteArray × Int)).length + (p0.2.2.take (r3 : Int).toNat).length < room 24 then
                                    if (([] : List (ByteArray × Int)) ++ (p0.2.2.take (r3 : Int).toNat)).length + (p0.2.2.drop ((IntKind.i64.wrap (r3 + 1)) : Int).toNat).length < room 24 then
                                      some ((p0.1, (p0.2.1, (([] : List (ByteArray × Int)) ++ (p0.2.2.take (r3 : Int).toNat)) ++ (p0.2.2.drop ((IntKind.i64.wrap (r3 + 1)) : Int).toNat))), 0)
                                    else
                                      none
                                  else
                                    none
                                else
                                  none
                              )
                            ) (
                              agree (
                                if ([] : List (ByteArray × Int)).length + (p0.2.2.take (r3 : Int).toNat).length < room 24 then
                                  if (0 : Int) ≤ (IntKind.i64.wrap (r3 + 1)) ∧ ((IntKind.i64.wrap (r3 + 1)) : Int) ≤ p0.2.2.length then
                                    if (([] : List (ByteArray × Int)) ++ (p0.2.2.take (r3 : Int).toNat)).length + (p0.2.2.drop ((IntKind.i64.wrap (r3 + 1)) : Int).toNat).length < room 24 then
                                      some ((p0.1, (p0.2.1, (([] : List (ByteArray × Int)) ++ (p0.2.2.take (r3 : Int).toNat)) ++ (p0.2.2.drop ((IntKind.i64.wrap (r3 + 1)) : Int).toNat))), 0)
                                    else
                                      none
                                  else
                                    none
                                else
                                  none
                              ) (
                                if (0 : Int) ≤ (IntKind.i64.wrap (r3 + 1)) ∧ ((IntKind.i64.wrap (r3 + 1)) : Int) ≤ p0.2.2.length then
                                  if ([] : List (ByteArray × Int)).length + (p0.2.2.take (r3 : Int).toNat).length < room 24 then
                                    if (([] : List (ByteArray × Int)) ++ (p0.2.2.take (r3 : Int).toNat)).length + (p0.2.2.drop ((IntKind.i64.wrap (r3 + 1)) : Int).toNat).length < room 24 then
                                      some ((p0.1, (p0.2.1, (([] : List (ByteArray × Int)) ++ (p0.2.2.take (r3 : Int).toNat)) ++ (p0.2.2.drop ((IntKind.i64.wrap (r3 + 1)) : Int).toNat))), 0)
                                    else
                                      none
                                  else
                                    none
                                else
                                  none
                              )
                            )
                          ) (
                            agree (
                              if ([] : List (ByteArray × Int)).length + (p0.2.2.take (r3 : Int).toNat).length < room 24 then
                                if (0 : Int) ≤ (IntKind.i64.wrap (r3 + 1)) ∧ ((IntKind.i64.wrap (r3 + 1)) : Int) ≤ p0.2.2.length then
                                  if (([] : List (ByteArray × Int)) ++ (p0.2.2.take (r3 : Int).toNat)).length + (p0.2.2.drop ((IntKind.i64.wrap (r3 + 1)) : Int).toNat).length < room 24 then
                                    some ((p0.1, (p0.2.1, (([] : List (ByteArray × Int)) ++ (p0.2.2.take (r3 : Int).toNat)) ++ (p0.2.2.drop ((IntKind.i64.wrap (r3 + 1)) : Int).toNat))), 0)
                                  else
                                    none
                                else
                                  none
                              else
                                none
                            ) (
                              if (0 : Int) ≤ (IntKind.i64.wrap (r3 + 1)) ∧ ((IntKind.i64.wrap (r3 + 1)) : Int) ≤ p0.2.2.length then
                                if ([] : List (ByteArray × Int)).length + (p0.2.2.take (r3 : Int).toNat).length < room 24 then
                                  if (([] : List (ByteArray × Int)) ++ (p0.2.2.take (r3 : Int).toNat)).length + (p0.2.2.drop ((IntKind.i64.wrap (r3 + 1)) : Int).toNat).length < room 24 then
                                    some ((p0.1, (p0.2.1, (([] : List (ByteArray × Int)) ++ (p0.2.2.take (r3 : Int).toNat)) ++ (p0.2.2.drop ((IntKind.i64.wrap (r3 + 1)) : Int).toNat))), 0)
                                  else
                                    none
                                else
                                  none
                              else
                                none
                            )
                          )
                        )
                      ) (
                        if (0 : Int) ≤ (IntKind.i64.wrap (r3 + 1)) ∧ ((IntKind.i64.wrap (r3 + 1)) : Int) ≤ p0.2.2.length then
                          if ([] : List (ByteArray × Int)).length + (p0.2.2.take (r3 : Int).toNat).length < room 24 then
                            if (([] : List (ByteArray × Int)) ++ (p0.2.2.take (r3 : Int).toNat)).length + (p0.2.2.drop ((IntKind.i64.wrap (r3 + 1)) : Int).toNat).length < room 24 then
                              some ((p0.1, (p0.2.1, (([] : List (ByteArray × Int)) ++ (p0.2.2.take (r3 : Int).toNat)) ++ (p0.2.2.drop ((IntKind.i64.wrap (r3 + 1)) : Int).toNat))), 0)
                            else
                              none
                          else
                            none
                        else
                          none
                      )
                    )
                  )
                else
                  none
              ) (
                if (0 : Int) ≤ (IntKind.i64.wrap (r3 + 1)) ∧ ((IntKind.i64.wrap (r3 + 1)) : Int) ≤ p0.2.2.length then
                  if (0 : Int) ≤ r3 ∧ (r3 : Int) ≤ p0.2.2.length then
                    if ([] : List (ByteArray × Int)).length + (p0.2.2.take (r3 : Int).toNat).length < room 24 then
                      if (([] : List (ByteArray × Int)) ++ (p0.2.2.take (r3 : Int).toNat)).length + (p0.2.2.drop ((IntKind.i64.wrap (r3 + 1)) : Int).toNat).length < room 24 then
                        some ((p0.1, (p0.2.1, (([] : List (ByteArray × Int)) ++ (p0.2.2.take (r3 : Int).toNat)) ++ (p0.2.2.drop ((IntKind.i64.wrap (r3 + 1)) : Int).toNat))), 0)
                      else
                        none
                    else
                      none
                  else
                    none
                else
                  none
              )
            )
          )
        )
  else
    some ((ByteArray.empty, (0, [])), 1)
def spec_CutLine.fn (n : Nat) (p0 : ByteArray × Int × List (ByteArray × Int)) (article1 : ByteArray) : Option ((ByteArray × Int × List (ByteArray × Int)) × Int) := spec_CutLine.top p0 article1
def spec_CutLine.f (p0 : ByteArray × Int × List (ByteArray × Int)) (article1 : ByteArray) : Option ((ByteArray × Int × List (ByteArray × Int)) × Int) := spec_CutLine.fn NN p0 article1
end
end Go.Pl

namespace Go.Pl
open Go.Ev
set_option linter.unusedVariables false
noncomputable section
def laws_FnExactCutLine.top (aP0 : ByteArray × Int × List (ByteArray × Int)) (aArticle1 : ByteArray) : Option Bool :=
  (laws_szPaper.f aP0 (IntKind.i64.wrap (1000000 - (aArticle1.size : Int)))).bind fun r1 =>
  if (decide ((r1 : Int) < 0)) = true then
    some true
  else
    (laws_toPaper.f aP0 false).bind fun r2 =>
    (spec_CutLine.f (r2.1, (r2.2.1, r2.2.2.1)) aArticle1).bind fun r3 =>
    (laws_toPaper.f aP0 false).bind fun r4 =>
    (impl_CutLine.f (r4.1, (r4.2.1, r4.2.2.1)) aArticle1).bind fun r5 =>
    (laws_eqPaper.f (r5.1.1, (r5.1.2.1, r5.1.2.2)) (r3.1.1, (r3.1.2.1, r3.1.2.2))).bind fun r6 =>
    if (!r6) = false then
      if ((r5.2 : Int) != r3.2) = true then
        some false
      else
        (laws_toPaper.f aP0 false).bind fun r7 =>
        (laws_intactPaper.f (r4.1, (r4.2.1, (r4.2.2.1, r4.2.2.2))) (r7.1, (r7.2.1, (r7.2.2.1, r7.2.2.2)))).bind fun r8 =>
        if (!r8) = true then
          some false
        else
          (laws_markPaper.f (r4.1, (r4.2.1, r4.2.2.1)) 101).bind fun r9 =>
          if (decide ((r9.1 : Int) < 0)) = false then
            (laws_eqPaper.f (r5.1.1, (r5.1.2.1, r5.1.2.2)) (r3.1.1, (r3.1.2.1, r3.1.2.2))).bind fun r10 =>
            if (!r10) = false then
              if ((r5.2 : Int) != r3.2) = true then
                some false
              else
                (laws_markPaper.f (r5.1.1, (r5.1.2.1, r5.1.2.2)) 101).bind fun r11 =>
                (laws_heldPaper.f (r5.1.1, (r5.1.2.1, r11.2.2.2)) 101).bind fun r12 =>
                if (decide ((r12 : Int) < 0)) = true then
                  some false
                else if ((r12 : Int) != r11.1) = true then
                  some false
                else
                  (laws_toPaper.f aP0 true).bind fun r13 =>
                  (impl_CutLine.f (r13.1, (r13.2.1, r13.2.2.1)) aArticle1).bind fun r14 =>
                  (laws_eqPaper.f (r14.1.1, (r14.1.2.1, r14.1.2.2)) (r3.1.1, (r3.1.2.1, r3.1.2.2))).bind fun r15 =>
                  if (!r15) = false then
                    if ((r14.2 : Int) != r3.2) = true then
                      some false
                    else
                      (laws_heldPaper.f (r5.1.1, (r5.1.2.1, r11.2.2.2)) 101).bind fun r16 =>
                      if (decide ((r16 : Int) < 0)) = true then
                        some false
                      else if ((r16 : Int) != r11.1) = true then
                        some false
                      else
                        some true
                  else
                    some false
            else
              some false
          else
            some false
    else
      some false
def laws_FnExactCutLine.fn (n : Nat) (aP0 : ByteArray × Int × List (ByteArray × Int)) (aArticle1 : ByteArray) : Option Bool := laws_FnExactCutLine.top aP0 aArticle1
def laws_FnExactCutLine.f (aP0 : ByteArray × Int × List (ByteArray × Int)) (aArticle1 : ByteArray) : Option Bool := laws_FnExactCutLine.fn NN aP0 aArticle1
end
end Go.Pl

namespace Go.Ev.Try
open Go.Proofs Go.Pl
set_option linter.unusedVariables false
noncomputable section
def laws_szLine.con : Con := { ps := [(.val, (.pair .str (.int .i64))), (.val, (.int .i64))], rs := [(.val, (.int .i64))], F := fun x => laws_szLine.f x.1 x.2 }
def laws_szLine.cs : List (FuncId × Con) := []
def laws_szLine.E : Env := envOf tab laws_szLine.cs 0 false
def laws_szLine.keep (i : Nat) : List Nat := []
set_option maxRecDepth 100000 in
theorem laws_szLine.body (n : Nat) (x : (ByteArray × Int) × Int) : bodyF laws_szLine.E laws_szLine.keep n Try.f141 laws_szLine.con x = laws_szLine.fn n x.1 x.2 := by
  have h : bodyF laws_szLine.E laws_szLine.keep n Try.f141 laws_szLine.con x = laws_szLine.top x.1 x.2 := by kernel_rfl
  exact h
set_option maxRecDepth 100000 in
theorem laws_szLine.good : Good Try.prog 141 laws_szLine.con :=
  good_of tabok (cs := laws_szLine.cs) trivial 0 false (fn := Try.f141) Try.func141 rfl (by decide) (by simp [laws_szLine.con]) laws_szLine.keep NN (fun _ => rfl) (fun x => laws_szLine.body NN x)
end
end Go.Ev.Try

namespace Go.Ev.Try
open Go.Proofs Go.Pl
set_option linter.unusedVariables false
noncomputable section
def laws_szLineS.st5 (a0 : List (ByteArray × Int)) (left1 : Int) (i5 : Int) : St := ⟨[.dat (.sl 161 (.pair .str (.int .i64))) a0, .dat (.int .i64) left1, .gone, .gone, .gone, .dat (.int .i64) i5, .gone, .gone, .gone, .gone, .gone, .gone, .gone, .gone, .gone, .gone, .gone, .gone, .gone, .gone, .gone, .gone, .gone, .gone, .gone, .gone, .gone], []⟩
def laws_szLineS.con : Con := { ps := [(.val, (.sl 161 (.pair .str (.int .i64)))), (.val, (.int .i64))], rs := [(.val, (.int .i64))], F := fun x => laws_szLineS.f x.1 x.2 }
def laws_szLineS.cs : List (FuncId × Con) := [(141, laws_szLine.con)]
def laws_szLineS.E : Env := envOf tab laws_szLineS.cs 0 false
def laws_szLineS.keep (i : Nat) : List Nat := if i = 5 then [0, 1, 5] else []
def laws_szLineS.at5 (n : Nat) (x : (List (ByteArray × Int)) × Int) : Code × (Ex → St → Option (Int)) := ctx laws_szLineS.E laws_szLineS.keep n [.snd, .snd, .snd, .fst, .snd, .blk] (codeOf Try.f107) (kEnd laws_szLineS.E Try.f107 laws_szLineS.con x)
def laws_szLineS.LN5 (n : Nat) (x : (List (ByteArray × Int)) × Int) : Nat → St → Option (Int) := loopN (exec laws_szLineS.E laws_szLineS.keep n (bodyOf (laws_szLineS.at5 n x).1)) (St.norm 0 (laws_szLineS.keep 5)) (laws_szLineS.at5 n x).2
set_option maxRecDepth 100000 in
theorem laws_szLineS.lem5 (n : Nat) (x : (List (ByteArray × Int)) × Int) : ∀ (k : Nat) (a0 : List (ByteArray × Int)) (left1 : Int) (i5 : Int), laws_szLineS.LN5 n x k (laws_szLineS.st5 a0 left1 i5) = laws_szLineS.l5 n k a0 left1 i5 := by
  intro k
  induction k with
  | zero => intro a0 left1 i5; rfl
  | succ k ih =>
    intro a0 left1 i5
    have h : laws_szLineS.LN5 n x (k + 1) (laws_szLineS.st5 a0 left1 i5) = laws_szLineS.g5 (fun a0 left1 i5 => laws_szLineS.LN5 n x k (laws_szLineS.st5 a0 left1 i5)) a0 left1 i5 := by kernel_rfl
    rw [h]
    simp only [ih]
    rfl
set_option maxRecDepth 100000 in
theorem laws_szLineS.body (n : Nat) (x : (List (ByteArray × Int)) × Int) : bodyF laws_szLineS.E laws_szLineS.keep n Try.f107 laws_szLineS.con x = laws_szLineS.fn n x.1 x.2 := by
  have h : bodyF laws_szLineS.E laws_szLineS.keep n Try.f107 laws_szLineS.con x = laws_szLineS.top (fun a0 left1 i5 => laws_szLineS.LN5 n x n (laws_szLineS.st5 a0 left1 i5)) x.1 x.2 := by kernel_rfl
  rw [h]
  simp only [laws_szLineS.lem5]
  rfl
set_option maxRecDepth 100000 in
theorem laws_szLineS.good : Good Try.prog 107 laws_szLineS.con :=
  good_of tabok (cs := laws_szLineS.cs) ⟨laws_szLine.good, trivial⟩ 0 false (fn := Try.f107) Try.func107 rfl (by decide) (by simp [laws_szLineS.con]) laws_szLineS.keep NN (fun _ => rfl) (fun x => laws_szLineS.body NN x)
end
end Go.Ev.Try

namespace Go.Ev.Try
open Go.Proofs Go.Pl
set_option linter.unusedVariables false
noncomputable section
def laws_szPaper.con : Con := { ps := [(.val, (.pair .str (.pair (.int .i64) (.sl 161 (.pair .str (.int .i64)))))), (.val, (.int .i64))], rs := [(.val, (.int .i64))], F := fun x => laws_szPaper.f x.1 x.2 }
def laws_szPaper.cs : List (FuncId × Con) := [(107, laws_szLineS.con)]
def laws_szPaper.E : Env := envOf tab laws_szPaper.cs 0 false
def laws_szPaper.keep (i : Nat) : List Nat := []
set_option maxRecDepth 100000 in
theorem laws_szPaper.body (n : Nat) (x : (ByteArray × Int × List (ByteArray × Int)) × Int) : bodyF laws_szPaper.E laws_szPaper.keep n Try.f43 laws_szPaper.con x = laws_szPaper.fn n x.1 x.2 := by
  have h : bodyF laws_szPaper.E laws_szPaper.keep n Try.f43 laws_szPaper.con x = laws_szPaper.top x.1 x.2 := by kernel_rfl
  exact h
set_option maxRecDepth 100000 in
theorem laws_szPaper.good : Good Try.prog 43 laws_szPaper.con :=
  good_of tabok (cs := laws_szPaper.cs) ⟨laws_szLineS.good, trivial⟩ 0 false (fn := Try.f43) Try.func43 rfl (by decide) (by simp [laws_szPaper.con]) laws_szPaper.keep NN (fun _ => rfl) (fun x => laws_szPaper.body NN x)
end
end Go.Ev.Try

namespace Go.Ev.Try
open Go.Proofs Go.Pl
set_option linter.unusedVariables false
noncomputable section
def spec_l01In.con : Con := { ps := [(.val, (.int .i64)), (.val, (.int .i64)), (.val, (.int .i64))], rs := [(.val, .bool)], F := fun x => spec_l01In.f x.1 x.2.1 x.2.2 }
def spec_l01In.cs : List (FuncId × Con) := []
def spec_l01In.E : Env := envOf tab spec_l01In.cs 0 false
def spec_l01In.keep (i : Nat) : List Nat := []
set_option maxRecDepth 100000 in
theorem spec_l01In.body (n : Nat) (x : Int × Int × Int) : bodyF spec_l01In.E spec_l01In.keep n Try.f87 spec_l01In.con x = spec_l01In.fn n x.1 x.2.1 x.2.2 := by
  have h : bodyF spec_l01In.E spec_l01In.keep n Try.f87 spec_l01In.con x = spec_l01In.top x.1 x.2.1 x.2.2 := by kernel_rfl
  exact h
set_option maxRecDepth 100000 in
theorem spec_l01In.good : Good Try.prog 87 spec_l01In.con :=
  good_of tabok (cs := spec_l01In.cs) trivial 0 false (fn := Try.f87) Try.func87 rfl (by decide) (by simp [spec_l01In.con]) spec_l01In.keep NN (fun _ => rfl) (fun x => spec_l01In.body NN x)
end
end Go.Ev.Try

namespace Go.Ev.Try
open Go.Proofs Go.Pl
set_option linter.unusedVariables false
noncomputable section
def spec_IsWord.st2 (s0 : ByteArray) (i3 : Int) : St := ⟨[.dat .str s0, .gone, .gone, .dat (.int .i64) i3, .gone, .gone, .gone, .gone, .gone, .gone, .gone, .gone, .gone, .gone, .gone, .gone, .gone, .gone, .gone, .gone, .gone, .gone, .gone], []⟩
def spec_IsWord.con : Con := { ps := [(.val, .str)], rs := [(.val, .bool)], F := fun x => spec_IsWord.f x }
def spec_IsWord.cs : List (FuncId × Con) := [(87, spec_l01In.con)]
def spec_IsWord.E : Env := envOf tab spec_IsWord.cs 0 false
def spec_IsWord.keep (i : Nat) : List Nat := if i = 2 then [0, 3] else []
def spec_IsWord.at2 (n : Nat) (x : ByteArray) : Code × (Ex → St → Option (Bool)) := ctx spec_IsWord.E spec_IsWord.keep n [.snd, .fst, .snd, .blk] (codeOf Try.f108) (kEnd spec_IsWord.E Try.f108 spec_IsWord.con x)
def spec_IsWord.LN2 (n : Nat) (x : ByteArray) : Nat → St → Option (Bool) := loopN (exec spec_IsWord.E spec_IsWord.keep n (bodyOf (spec_IsWord.at2 n x).1)) (St.norm 0 (spec_IsWord.keep 2)) (spec_IsWord.at2 n x).2
set_option maxRecDepth 100000 in
theorem spec_IsWord.lem2 (n : Nat) (x : ByteArray) : ∀ (k : Nat) (s0 : ByteArray) (i3 : Int), spec_IsWord.LN2 n x k (spec_IsWord.st2 s0 i3) = spec_IsWord.l2 n k s0 i3 := by
  intro k
  induction k with
  | zero => intro s0 i3; rfl
  | succ k ih =>
    intro s0 i3
    have h : spec_IsWord.LN2 n x (k + 1) (spec_IsWord.st2 s0 i3) = spec_IsWord.g2 (fun s0 i3 => spec_IsWord.LN2 n x k (spec_IsWord.st2 s0 i3)) s0 i3 := by kernel_rfl
    rw [h]
    simp only [ih]
    rfl
set_option maxRecDepth 100000 in
theorem spec_IsWord.body (n : Nat) (x : ByteArray) : bodyF spec_IsWord.E spec_IsWord.keep n Try.f108 spec_IsWord.con x = spec_IsWord.fn n x := by
  have h : bodyF spec_IsWord.E spec_IsWord.keep n Try.f108 spec_IsWord.con x = spec_IsWord.top (fun s0 i3 => spec_IsWord.LN2 n x n (spec_IsWord.st2 s0 i3)) x := by kernel_rfl
  rw [h]
  simp only [spec_IsWord.lem2]
  rfl
set_option maxRecDepth 100000 in
theorem spec_IsWord.good : Good Try.prog 108 spec_IsWord.con :=
  good_of tabok (cs := spec_IsWord.cs) ⟨spec_l01In.good, trivial⟩ 0 false (fn := Try.f108) Try.func108 rfl (by decide) (by simp [spec_IsWord.con]) spec_IsWord.keep NN (fun _ => rfl) (fun x => spec_IsWord.body NN x)
end
end Go.Ev.Try

namespace Go.Ev.Try
open Go.Proofs Go.Pl
set_option linter.unusedVariables false
noncomputable section
def spec_IsPaper.st2 (i3 : Int) (p1 : ByteArray × Int × List (ByteArray × Int)) : St := ⟨[.gone, .ptr 0 [], .gone, .dat (.int .i64) i3, .gone, .gone, .gone, .gone, .gone, .gone, .gone, .gone, .gone, .gone, .gone, .gone, .gone, .gone, .gone, .gone, .gone, .gone, .gone, .gone, .gone, .gone, .gone, .gone, .gone, .gone, .gone, .gone, .gone, .gone, .gone, .gone, .gone, .gone, .gone, .gone, .gone, .gone, .gone, .gone, .gone, .gone, .gone, .gone, .gone, .gone, .gone, .gone, .gone, .gone, .gone, .gone, .gone, .gone, .gone, .gone, .gone, .gone, .gone], [.box 47 (.pair .str (.pair (.int .i64) (.sl 82 (.pair .str (.int .i64))))) (.dat (.pair .str (.pair (.int .i64) (.sl 82 (.pair .str (.int .i64))))) p1)]⟩
def spec_IsPaper.con : Con := { ps := [(.val, (.pair .str (.pair (.int .i64) (.sl 82 (.pair .str (.int .i64))))))], rs := [(.val, .bool)], F := fun x => spec_IsPaper.f x }
def spec_IsPaper.cs : List (FuncId × Con) := [(87, spec_l01In.con), (108, spec_IsWord.con)]
def spec_IsPaper.E : Env := envOf tab spec_IsPaper.cs 0 false
def spec_IsPaper.keep (i : Nat) : List Nat := if i = 2 then [1, 3] else []
def spec_IsPaper.at2 (n : Nat) (x : ByteArray × Int × List (ByteArray × Int)) : Code × (Ex → St → Option (Bool)) := ctx spec_IsPaper.E spec_IsPaper.keep n [.snd, .fst, .snd, .blk] (codeOf Try.f103) (kEnd spec_IsPaper.E Try.f103 spec_IsPaper.con x)
def spec_IsPaper.LN2 (n : Nat) (x : ByteArray × Int × List (ByteArray × Int)) : Nat → St → Option (Bool) := loopN (exec spec_IsPaper.E spec_IsPaper.keep n (bodyOf (spec_IsPaper.at2 n x).1)) (St.norm 0 (spec_IsPaper.keep 2)) (spec_IsPaper.at2 n x).2
set_option maxRecDepth 100000 in
theorem spec_IsPaper.lem2 (n : Nat) (x : ByteArray × Int × List (ByteArray × Int)) : ∀ (k : Nat) (i3 : Int) (p1 : ByteArray × Int × List (ByteArray × Int)), spec_IsPaper.LN2 n x k (spec_IsPaper.st2 i3 p1) = spec_IsPaper.l2 n k i3 p1 := by
  intro k
  induction k with
  | zero => intro i3 p1; rfl
  | succ k ih =>
    intro i3 p1
    have h : spec_IsPaper.LN2 n x (k + 1) (spec_IsPaper.st2 i3 p1) = spec_IsPaper.g2 (fun i3 p1 => spec_IsPaper.LN2 n x k (spec_IsPaper.st2 i3 p1)) i3 p1 := by kernel_rfl
    rw [h]
    simp only [ih]
    rfl
set_option maxRecDepth 100000 in
theorem spec_IsPaper.body (n : Nat) (x : ByteArray × Int × List (ByteArray × Int)) : bodyF spec_IsPaper.E spec_IsPaper.keep n Try.f103 spec_IsPaper.con x = spec_IsPaper.fn n x := by
  have h : bodyF spec_IsPaper.E spec_IsPaper.keep n Try.f103 spec_IsPaper.con x = spec_IsPaper.top (fun i3 p1 => spec_IsPaper.LN2 n x n (spec_IsPaper.st2 i3 p1)) x := by kernel_rfl
  rw [h]
  simp only [spec_IsPaper.lem2]
  rfl
set_option maxRecDepth 100000 in
theorem spec_IsPaper.good : Good Try.prog 103 spec_IsPaper.con :=
  good_of tabok (cs := spec_IsPaper.cs) ⟨spec_l01In.good, spec_IsWord.good, trivial⟩ 0 false (fn := Try.f103) Try.func103 rfl (by decide) (by simp [spec_IsPaper.con]) spec_IsPaper.keep NN (fun _ => rfl) (fun x => spec_IsPaper.body NN x)
end
end Go.Ev.Try

namespace Go.Ev.Try
open Go.Proofs Go.Pl
set_option linter.unusedVariables false
noncomputable section
def spec_l29Find.st2 (article1 : ByteArray) (i5 : Int) (p2 : ByteArray × Int × List (ByteArray × Int)) : St := ⟨[.gone, .dat .str article1, .ptr 0 [], .gone, .gone, .dat (.int .i64) i5, .gone, .gone, .gone, .gone, .gone, .gone, .gone, .gone, .gone, .gone, .gone, .gone, .gone, .gone, .gone, .gone], [.box 47 (.pair .str (.pair (.int .i64) (.sl 82 (.pair .str (.int .i64))))) (.dat (.pair .str (.pair (.int .i64) (.sl 82 (.pair .str (.int .i64))))) p2)]⟩
def spec_l29Find.con : Con := { ps := [(.val, (.pair .str (.pair (.int .i64) (.sl 82 (.pair .str (.int .i64)))))), (.val, .str)], rs := [(.val, (.int .i64))], F := fun x => spec_l29Find.f x.1 x.2 }
def spec_l29Find.cs : List (FuncId × Con) := []
def spec_l29Find.E : Env := envOf tab spec_l29Find.cs 0 false
def spec_l29Find.keep (i : Nat) : List Nat := if i = 2 then [1, 2, 5] else []
def spec_l29Find.at2 (n : Nat) (x : (ByteArray × Int × List (ByteArray × Int)) × ByteArray) : Code × (Ex → St → Option (Int)) := ctx spec_l29Find.E spec_l29Find.keep n [.snd, .fst, .snd, .blk] (codeOf Try.f105) (kEnd spec_l29Find.E Try.f105 spec_l29Find.con x)
def spec_l29Find.LN2 (n : Nat) (x : (ByteArray × Int × List (ByteArray × Int)) × ByteArray) : Nat → St → Option (Int) := loopN (exec spec_l29Find.E spec_l29Find.keep n (bodyOf (spec_l29Find.at2 n x).1)) (St.norm 0 (spec_l29Find.keep 2)) (spec_l29Find.at2 n x).2
set_option maxRecDepth 100000 in
theorem spec_l29Find.lem2 (n : Nat) (x : (ByteArray × Int × List (ByteArray × Int)) × ByteArray) : ∀ (k : Nat) (article1 : ByteArray) (i5 : Int) (p2 : ByteArray × Int × List (ByteArray × Int)), spec_l29Find.LN2 n x k (spec_l29Find.st2 article1 i5 p2) = spec_l29Find.l2 n k article1 i5 p2 := by
  intro k
  induction k with
  | zero => intro article1 i5 p2; rfl
  | succ k ih =>
    intro article1 i5 p2
    have h : spec_l29Find.LN2 n x (k + 1) (spec_l29Find.st2 article1 i5 p2) = spec_l29Find.g2 (fun article1 i5 p2 => spec_l29Find.LN2 n x k (spec_l29Find.st2 article1 i5 p2)) article1 i5 p2 := by kernel_rfl
    rw [h]
    simp only [ih]
    rfl
set_option maxRecDepth 100000 in
theorem spec_l29Find.body (n : Nat) (x : (ByteArray × Int × List (ByteArray × Int)) × ByteArray) : bodyF spec_l29Find.E spec_l29Find.keep n Try.f105 spec_l29Find.con x = spec_l29Find.fn n x.1 x.2 := by
  have h : bodyF spec_l29Find.E spec_l29Find.keep n Try.f105 spec_l29Find.con x = spec_l29Find.top (fun article1 i5 p2 => spec_l29Find.LN2 n x n (spec_l29Find.st2 article1 i5 p2)) x.1 x.2 := by kernel_rfl
  rw [h]
  simp only [spec_l29Find.lem2]
  rfl
set_option maxRecDepth 100000 in
theorem spec_l29Find.good : Good Try.prog 105 spec_l29Find.con :=
  good_of tabok (cs := spec_l29Find.cs) trivial 0 false (fn := Try.f105) Try.func105 rfl (by decide) (by simp [spec_l29Find.con]) spec_l29Find.keep NN (fun _ => rfl) (fun x => spec_l29Find.body NN x)
end
end Go.Ev.Try
