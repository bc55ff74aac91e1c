/- Part 2 of what the law FnPapers stands on: an evaluator of the model's code, proved sound; the functions as plain texts; their contracts. -/
import Derived.Test.YtgddpcjbjkbpcaaChecked
import Derived.Test.YtgddpcjbjkbpcaaProg
import Derived.Test.YtgddpcjbjkbpcaaRows
import Derived.Below
import Derived.Calls
import Derived.Carry
import Derived.ChangeArms
import Derived.ChangeKeysEq
import Derived.ChangeOld
import Derived.Deep.Quiet
import Derived.KernelRfl
import Derived.Laws.Append
import Derived.Laws.BytesString
import Derived.Laws.MakeOwn
import Derived.Laws.Strings
import Derived.Laws.StructEq
import Derived.OpenShut
import Derived.OrdersHeld
import Derived.ProofKit
import Derived.ShutString
import Derived.SizedLaws
import Derived.Tactics
import Derived.WalkKit
import Derived.WideShapes
import Derived.Test.YtgddpcjbjkbpcaaEvPapers1
namespace Go.Pl
open Go.Ev
set_option linter.unusedVariables false
noncomputable section
def spec_CutLine.top (p0 : ByteArray × Int × List (ByteArray × Int)) (article1 : ByteArray) : Option ((ByteArray × Int × List (ByteArray × Int)) × Int) :=
  (spec_IsPaper.f p0).bind fun r1 =>
  if (!r1) = false then
    (spec_IsWord.f article1).bind fun r2 =>
    if (!r2) = true then
      some ((ByteArray.empty, (0, [])), 1)
    else
      (spec_l29Find.f p0 article1).bind fun r3 =>
      if (decide ((r3 : Int) < 0)) = true then
        some ((ByteArray.empty, (0, [])), 4)
      else
        agree (
          agree (
            agree (
              agree (
                if (0 : Int) ≤ r3 ∧ (r3 : Int) ≤ p0.2.2.length then
                  agree (
                    if ([] : List (ByteArray × Int)).length + (p0.2.2.take (r3 : Int).toNat).length < room 24 then
                      if (0 : Int) ≤ (IntKind.i64.wrap (r3 + 1)) ∧ ((IntKind.i64.wrap (r3 + 1)) : Int) ≤ p0.2.2.length then
                        if (([] : List (ByteArray × Int)) ++ (p0.2.2.take (r3 : Int).toNat)).length + (p0.2.2.drop ((IntKind.i64.wrap (r3 + 1)) : Int).toNat).length < room 24 then
                          some ((p0.1, (p0.2.1, (([] : List (ByteArray × Int)) ++ (p0.2.2.take (r3 : Int).toNat)) ++ (p0.2.2.drop ((IntKind.i64.wrap (r3 + 1)) : Int).toNat))), 0)
                        else
                          none
                      else
                        none
                    else
                      none
                  ) (
                    if (0 : Int) ≤ (IntKind.i64.wrap (r3 + 1)) ∧ ((IntKind.i64.wrap (r3 + 1)) : Int) ≤ p0.2.2.length then
                      if ([] : List (ByteArray × Int)).length + (p0.2.2.take (r3 : Int).toNat).length < room 24 then
                        if (([] : List (ByteArray × Int)) ++ (p0.2.2.take (r3 : Int).toNat)).length + (p0.2.2.drop ((IntKind.i64.wrap (r3 + 1)) : Int).toNat).length < room 24 then
                          some ((p0.1, (p0.2.1, (([] : List (ByteArray × Int)) ++ (p0.2.2.take (r3 : Int).toNat)) ++ (p0.2.2.drop ((IntKind.i64.wrap (r3 + 1)) : Int).toNat))), 0)
                        else
                          none
                      else
                        none
                    else
                      none
                  )
                else
                  none
              ) (
                if (0 : Int) ≤ (IntKind.i64.wrap (r3 + 1)) ∧ ((IntKind.i64.wrap (r3 + 1)) : Int) ≤ p0.2.2.length then
                  if (0 : Int) ≤ r3 ∧ (r3 : Int) ≤ p0.2.2.length then
                    if ([] : List (ByteArray × Int)).length + (p0.2.2.take (r3 : Int).toNat).length < room 24 then
                      if (([] : List (ByteArray × Int)) ++ (p0.2.2.take (r3 : Int).toNat)).length + (p0.2.2.drop ((IntKind.i64.wrap (r3 + 1)) : Int).toNat).length < room 24 then
                        some ((p0.1, (p0.2.1, (([] : List (ByteArray × Int)) ++ (p0.2.2.take (r3 : Int).toNat)) ++ (p0.2.2.drop ((IntKind.i64.wrap (r3 + 1)) : Int).toNat))), 0)
                      else
                        none
                    else
                      none
                  else
                    none
                else
                  none
              )
            ) (
              agree (
                if (0 : Int) ≤ r3 ∧ (r3 : Int) ≤ p0.2.2.length then
                  agree (
                    agree (
                      if ([] : List (ByteArray × Int)).length + (p0.2.2.take (r3 : Int).toNat).length < room 24 then
                        if (0 : Int) ≤ (IntKind.i64.wrap (r3 + 1)) ∧ ((IntKind.i64.wrap (r3 + 1)) : Int) ≤ p0.2.2.length then
                          if (([] : List (ByteArray × Int)) ++ (p0.2.2.take (r3 : Int).toNat)).length + (p0.2.2.drop ((IntKind.i64.wrap (r3 + 1)) : Int).toNat).length < room 24 then
                            some ((p0.1, (p0.2.1, (([] : List (ByteArray × Int)) ++ (p0.2.2.take (r3 : Int).toNat)) ++ (p0.2.2.drop ((IntKind.i64.wrap (r3 + 1)) : Int).toNat))), 0)
                          else
                            none
                        else
                          none
                      else
                        none
                    ) (
                      if (0 : Int) ≤ (IntKind.i64.wrap (r3 + 1)) ∧ ((IntKind.i64.wrap (r3 + 1)) : Int) ≤ p0.2.2.length then
                        if ([] : List (ByteArray × Int)).length + (p0.2.2.take (r3 : Int).toNat).length < room 24 then
                          if (([] : List (ByteArray × Int)) ++ (p0.2.2.take (r3 : Int).toNat)).length + (p0.2.2.drop ((IntKind.i64.wrap (r3 + 1)) : Int).toNat).length < room 24 then
                            some ((p0.1, (p0.2.1, (([] : List (ByteArray × Int)) ++ (p0.2.2.take (r3 : Int).toNat)) ++ (p0.2.2.drop ((IntKind.i64.wrap (r3 + 1)) : Int).toNat))), 0)
                          else
                            none
                        else
                          none
                      else
                        none
                    )
                  ) (
                    if (0 : Int) ≤ (IntKind.i64.wrap (r3 + 1)) ∧ ((IntKind.i64.wrap (r3 + 1)) : Int) ≤ p0.2.2.length then
                      if ([] : List (ByteArray × Int)).length + (p0.2.2.take (r3 : Int).toNat).length < room 24 then
                        if (([] : List (ByteArray × Int)) ++ (p0.2.2.take (r3 : Int).toNat)).length + (p0.2.2.drop ((IntKind.i64.wrap (r3 + 1)) : Int).toNat).length < room 24 then
                          some ((p0.1, (p0.2.1, (([] : List (ByteArray × Int)) ++ (p0.2.2.take (r3 : Int).toNat)) ++ (p0.2.2.drop ((IntKind.i64.wrap (r3 + 1)) : Int).toNat))), 0)
                        else
                          none
                      else
                        none
                    else
                      none
                  )
                else
                  none
              ) (
                if (0 : Int) ≤ (IntKind.i64.wrap (r3 + 1)) ∧ ((IntKind.i64.wrap (r3 + 1)) : Int) ≤ p0.2.2.length then
                  if (0 : Int) ≤ r3 ∧ (r3 : Int) ≤ p0.2.2.length then
                    if ([] : List (ByteArray × Int)).length + (p0.2.2.take (r3 : Int).toNat).length < room 24 then
                      if (([] : List (ByteArray × Int)) ++ (p0.2.2.take (r3 : Int).toNat)).length + (p0.2.2.drop ((IntKind.i64.wrap (r3 + 1)) : Int).toNat).length < room 24 then
                        some ((p0.1, (p0.2.1, (([] : List (ByteArray × Int)) ++ (p0.2.2.take (r3 : Int).toNat)) ++ (p0.2.2.drop ((IntKind.i64.wrap (r3 + 1)) : Int).toNat))), 0)
                      else
                        none
                    else
                      none
                  else
                    none
                else
                  none
              )
            )
          ) (
            agree (
              agree (
                agree (
                  if (0 : Int) ≤ r3 ∧ (r3 : Int) ≤ p0.2.2.length then
                    agree (
                      if ([] : List (ByteArray × Int)).length + (p0.2.2.take (r3 : Int).toNat).length < room 24 then
                        if (0 : Int) ≤ (IntKind.i64.wrap (r3 + 1)) ∧ ((IntKind.i64.wrap (r3 + 1)) : Int) ≤ p0.2.2.length then
                          if (([] : List (ByteArray × Int)) ++ (p0.2.2.take (r3 : Int).toNat)).length + (p0.2.2.drop ((IntKind.i64.wrap (r3 + 1)) : Int).toNat).length < room 24 then
                            some ((p0.1, (p0.2.1, (([] : List (ByteArray × Int)) ++ (p0.2.2.take (r3 : Int).toNat)) ++ (p0.2.2.drop ((IntKind.i64.wrap (r3 + 1)) : Int).toNat))), 0)
                          else
                            none
                        else
                          none
                      else
                        none
                    ) (
                      if (0 : Int) ≤ (IntKind.i64.wrap (r3 + 1)) ∧ ((IntKind.i64.wrap (r3 + 1)) : Int) ≤ p0.2.2.length then
                        if ([] : List (ByteArray × Int)).length + (p0.2.2.take (r3 : Int).toNat).length < room 24 then
                          if (([] : List (ByteArray × Int)) ++ (p0.2.2.take (r3 : Int).toNat)).length + (p0.2.2.drop ((IntKind.i64.wrap (r3 + 1)) : Int).toNat).length < room 24 then
                            some ((p0.1, (p0.2.1, (([] : List (ByteArray × Int)) ++ (p0.2.2.take (r3 : Int).toNat)) ++ (p0.2.2.drop ((IntKind.i64.wrap (r3 + 1)) : Int).toNat))), 0)
                          else
                            none
                        else
                          none
                      else
                        none
                    )
                  else
                    none
                ) (
                  if (0 : Int) ≤ (IntKind.i64.wrap (r3 + 1)) ∧ ((IntKind.i64.wrap (r3 + 1)) : Int) ≤ p0.2.2.length then
                    if (0 : Int) ≤ r3 ∧ (r3 : Int) ≤ p0.2.2.length then
                      if ([] : List (ByteArray × Int)).length + (p0.2.2.take (r3 : Int).toNat).length < room 24 then
                        if (([] : List (ByteArray × Int)) ++ (p0.2.2.take (r3 : Int).toNat)).length + (p0.2.2.drop ((IntKind.i64.wrap (r3 + 1)) : Int).toNat).length < room 24 then
                          some ((p0.1, (p0.2.1, (([] : List (ByteArray × Int)) ++ (p0.2.2.take (r3 : Int).toNat)) ++ (p0.2.2.drop ((IntKind.i64.wrap (r3 + 1)) : Int).toNat))), 0)
                        else
                          none
                      else
                        none
                    else
                      none
                  else
                    none
                )
              ) (
                agree (
                  if (0 : Int) ≤ r3 ∧ (r3 : Int) ≤ p0.2.2.length then
                    agree (
                      agree (
                        if ([] : List (ByteArray × Int)).length + (p0.2.2.take (r3 : Int).toNat).length < room 24 then
                          if (0 : Int) ≤ (IntKind.i64.wrap (r3 + 1)) ∧ ((IntKind.i64.wrap (r3 + 1)) : Int) ≤ p0.2.2.length then
                            if (([] : List (ByteArray × Int)) ++ (p0.2.2.take (r3 : Int).toNat)).length + (p0.2.2.drop ((IntKind.i64.wrap (r3 + 1)) : Int).toNat).length < room 24 then
                              some ((p0.1, (p0.2.1, (([] : List (ByteArray × Int)) ++ (p0.2.2.take (r3 : Int).toNat)) ++ (p0.2.2.drop ((IntKind.i64.wrap (r3 + 1)) : Int).toNat))), 0)
                            else
                              none
                          else
                            none
                        else
                          none
                      ) (
                        if (0 : Int) ≤ (IntKind.i64.wrap (r3 + 1)) ∧ ((IntKind.i64.wrap (r3 + 1)) : Int) ≤ p0.2.2.length then
                          if ([] : List (ByteArray × Int)).length + (p0.2.2.take (r3 : Int).toNat).length < room 24 then
                            if (([] : List (ByteArray × Int)) ++ (p0.2.2.take (r3 : Int).toNat)).length + (p0.2.2.drop ((IntKind.i64.wrap (r3 + 1)) : Int).toNat).length < room 24 then
                              some ((p0.1, (p0.2.1, (([] : List (ByteArray × Int)) ++ (p0.2.2.take (r3 : Int).toNat)) ++ (p0.2.2.drop ((IntKind.i64.wrap (r3 + 1)) : Int).toNat))), 0)
                            else
                              none
                          else
                            none
                        else
                          none
                      )
                    ) (
                      agree (
                        if ([] : List (ByteArray × Int)).length + (p0.2.2.take (r3 : Int).toNat).length < room 24 then
                          if (0 : Int) ≤ (IntKind.i64.wrap (r3 + 1)) ∧ ((IntKind.i64.wrap (r3 + 1)) : Int) ≤ p0.2.2.length then
                            if (([] : List (ByteArray × Int)) ++ (p0.2.2.take (r3 : Int).toNat)).length + (p0.2.2.drop ((IntKind.i64.wrap (r3 + 1)) : Int).toNat).length < room 24 then
                              some ((p0.1, (p0.2.1, (([] : List (ByteArray × Int)) ++ (p0.2.2.take (r3 : Int).toNat)) ++ (p0.2.2.drop ((IntKind.i64.wrap (r3 + 1)) : Int).toNat))), 0)
                            else
                              none
                          else
                            none
                        else
                          none
                      ) (
                        if (0 : Int) ≤ (IntKind.i64.wrap (r3 + 1)) ∧ ((IntKind.i64.wrap (r3 + 1)) : Int) ≤ p0.2.2.length then
                          if ([] : List (ByteArray × Int)).length + (p0.2.2.take (r3 : Int).toNat).length < room 24 then
                            if (([] : List (ByteArray × Int)) ++ (p0.2.2.take (r3 : Int).toNat)).length + (p0.2.2.drop ((IntKind.i64.wrap (r3 + 1)) : Int).toNat).length < room 24 then
                              some ((p0.1, (p0.2.1, (([] : List (ByteArray × Int)) ++ (p0.2.2.take (r3 : Int).toNat)) ++ (p0.2.2.drop ((IntKind.i64.wrap (r3 + 1)) : Int).toNat))), 0)
                            else
                              none
                          else
                            none
                        else
                          none
                      )
                    )
                  else
                    none
                ) (
                  if (0 : Int) ≤ (IntKind.i64.wrap (r3 + 1)) ∧ ((IntKind.i64.wrap (r3 + 1)) : Int) ≤ p0.2.2.length then
                    if (0 : Int) ≤ r3 ∧ (r3 : Int) ≤ p0.2.2.length then
                      if ([] : List (ByteArray × Int)).length + (p0.2.2.take (r3 : Int).toNat).length < room 24 then
                        if (([] : List (ByteArray × Int)) ++ (p0.2.2.take (r3 : Int).toNat)).length + (p0.2.2.drop ((IntKind.i64.wrap (r3 + 1)) : Int).toNat).length < room 24 then
                          some ((p0.1, (p0.2.1, (([] : List (ByteArray × Int)) ++ (p0.2.2.take (r3 : Int).toNat)) ++ (p0.2.2.drop ((IntKind.i64.wrap (r3 + 1)) : Int).toNat))), 0)
                        else
                          none
                      else
                        none
                    else
                      none
                  else
                    none
                )
              )
            ) (
              agree (
                if (0 : Int) ≤ r3 ∧ (r3 : Int) ≤ p0.2.2.length then
                  agree (
                    agree (
                      agree (
                        if ([] : List (ByteArray × Int)).length + (p0.2.2.take (r3 : Int).toNat).length < room 24 then
                          if (0 : Int) ≤ (IntKind.i64.wrap (r3 + 1)) ∧ ((IntKind.i64.wrap (r3 + 1)) : Int) ≤ p0.2.2.length then
                            if (([] : List (ByteArray × Int)) ++ (p0.2.2.take (r3 : Int).toNat)).length + (p0.2.2.drop ((IntKind.i64.wrap (r3 + 1)) : Int).toNat).length < room 24 then
                              some ((p0.1, (p0.2.1, (([] : List (ByteArray × Int)) ++ (p0.2.2.take (r3 : Int).toNat)) ++ (p0.2.2.drop ((IntKind.i64.wrap (r3 + 1)) : Int).toNat))), 0)
                            else
                              none
                          else
                            none
                        else
                          none
                      ) (
                        if (0 : Int) ≤ (IntKind.i64.wrap (r3 + 1)) ∧ ((IntKind.i64.wrap (r3 + 1)) : Int) ≤ p0.2.2.length then
                          if ([] : List (ByteArray × Int)).length + (p0.2.2.take (r3 : Int).toNat).length < room 24 then
                            if (([] : List (ByteArray × Int)) ++ (p0.2.2.take (r3 : Int).toNat)).length + (p0.2.2.drop ((IntKind.i64.wrap (r3 + 1)) : Int).toNat).length < room 24 then
                              some ((p0.1, (p0.2.1, (([] : List (ByteArray × Int)) ++ (p0.2.2.take (r3 : Int).toNat)) ++ (p0.2.2.drop ((IntKind.i64.wrap (r3 + 1)) : Int).toNat))), 0)
                            else
                              none
                          else
                            none
                        else
                          none
                      )
                    ) (
                      if (0 : Int) ≤ (IntKind.i64.wrap (r3 + 1)) ∧ ((IntKind.i64.wrap (r3 + 1)) : Int) ≤ p0.2.2.length then
                        if ([] : List (ByteArray × Int)).length + (p0.2.2.take (r3 : Int).toNat).length < room 24 then
                          if (([] : List (ByteArray × Int)) ++ (p0.2.2.take (r3 : Int).toNat)).length + (p0.2.2.drop ((IntKind.i64.wrap (r3 + 1)) : Int).toNat).length < room 24 then
                            some ((p0.1, (p0.2.1, (([] : List (ByteArray × Int)) ++ (p0.2.2.take (r3 : Int).toNat)) ++ (p0.2.2.drop ((IntKind.i64.wrap (r3 + 1)) : Int).toNat))), 0)
                          else
                            none
                        else
                          none
                      else
                        none
                    )
                  ) (
                    agree (
                      agree (
                        agree (
                          if ([] : List (ByteArray × Int)).length + (p0.2.2.take (r3 : Int).toNat).length < room 24 then
                            if (0 : Int) ≤ (IntKind.i64.wrap (r3 + 1)) ∧ ((IntKind.i64.wrap (r3 + 1)) : Int) ≤ p0.2.2.length then
                              if (([] : List (ByteArray × Int)) ++ (p0.2.2.take (r3 : Int).toNat)).length + (p0.2.2.drop ((IntKind.i64.wrap (r3 + 1)) : Int).toNat).length < room 24 then
                                some ((p0.1, (p0.2.1, (([] : List (ByteArray × Int)) ++ (p0.2.2.take (r3 : Int).toNat)) ++ (p0.2.2.drop ((IntKind.i64.wrap (r3 + 1)) : Int).toNat))), 0)
                              else
                                none
                            else
                              none
                          else
                            none
                        ) (
                          if (0 : Int) ≤ (IntKind.i64.wrap (r3 + 1)) ∧ ((IntKind.i64.wrap (r3 + 1)) : Int) ≤ p0.2.2.length then
                            if ([] : List (ByteArray × Int)).length + (p0.2.2.take (r3 : Int).toNat).length < room 24 then
                              if (([] : List (ByteArray × Int)) ++ (p0.2.2.take (r3 : Int).toNat)).length + (p0.2.2.drop ((IntKind.i64.wrap (r3 + 1)) : Int).toNat).length < room 24 then
                                some ((p0.1, (p0.2.1, (([] : List (ByteArray × Int)) ++ (p0.2.2.take (r3 : Int).toNat)) ++ (p0.2.2.drop ((IntKind.i64.wrap (r3 + 1)) : Int).toNat))), 0)
                              else
                                none
                            else
                              none
                          else
                            none
                        )
                      ) (
                        agree (
                          if ([] : List (ByteArray × Int)).length + (p0.2.2.take (r3 : Int).toNat).length < room 24 then
                            if (0 : Int) ≤ (IntKind.i64.wrap (r3 + 1)) ∧ ((IntKind.i64.wrap (r3 + 1)) : Int) ≤ p0.2.2.length then
                              if (([] : List (ByteArray × Int)) ++ (p0.2.2.take (r3 : Int).toNat)).length + (p0.2.2.drop ((IntKind.i64.wrap (r3 + 1)) : Int).toNat).length < room 24 then
                                some ((p0.1, (p0.2.1, (([] : List (ByteArray × Int)) ++ (p0.2.2.take (r3 : Int).toNat)) ++ (p0.2.2.drop ((IntKind.i64.wrap (r3 + 1)) : Int).toNat))), 0)
                              else
                                none
                            else
                              none
                          else
                            none
                        ) (
                          if (0 : Int) ≤ (IntKind.i64.wrap (r3 + 1)) ∧ ((IntKind.i64.wrap (r3 + 1)) : Int) ≤ p0.2.2.length then
                            if ([] : List (ByteArray × Int)).length + (p0.2.2.take (r3 : Int).toNat).length < room 24 then
                              if (([] : List (ByteArray × Int)) ++ (p0.2.2.take (r3 : Int).toNat)).length + (p0.2.2.drop ((IntKind.i64.wrap (r3 + 1)) : Int).toNat).length < room 24 then
                                some ((p0.1, (p0.2.1, (([] : List (ByteArray × Int)) ++ (p0.2.2.take (r3 : Int).toNat)) ++ (p0.2.2.drop ((IntKind.i64.wrap (r3 + 1)) : Int).toNat))), 0)
                              else
                                none
                            else
                              none
                          else
                            none
                        )
                      )
                    ) (
                      if (0 : Int) ≤ (IntKind.i64.wrap (r3 + 1)) ∧ ((IntKind.i64.wrap (r3 + 1)) : Int) ≤ p0.2.2.length then
                        if ([] : List (ByteArray × Int)).length + (p0.2.2.take (r3 : Int).toNat).length < room 24 then
                          if (([] : List (ByteArray × Int)) ++ (p0.2.2.take (r3 : Int).toNat)).length + (p0.2.2.drop ((IntKind.i64.wrap (r3 + 1)) : Int).toNat).length < room 24 then
                            some ((p0.1, (p0.2.1, (([] : List (ByteArray × Int)) ++ (p0.2.2.take (r3 : Int).toNat)) ++ (p0.2.2.drop ((IntKind.i64.wrap (r3 + 1)) : Int).toNat))), 0)
                          else
                            none
                        else
                          none
                      else
                        none
                    )
                  )
                else
                  none
              ) (
                if (0 : Int) ≤ (IntKind.i64.wrap (r3 + 1)) ∧ ((IntKind.i64.wrap (r3 + 1)) : Int) ≤ p0.2.2.length then
                  if (0 : Int) ≤ r3 ∧ (r3 : Int) ≤ p0.2.2.length then
                    if ([] : List (ByteArray × Int)).length + (p0.2.2.take (r3 : Int).toNat).length < room 24 then
                      if (([] : List (ByteArray × Int)) ++ (p0.2.2.take (r3 : Int).toNat)).length + (p0.2.2.drop ((IntKind.i64.wrap (r3 + 1)) : Int).toNat).length < room 24 then
                        some ((p0.1, (p0.2.1, (([] : List (ByteArray × Int)) ++ (p0.2.2.take (r3 : Int).toNat)) ++ (p0.2.2.drop ((IntKind.i64.wrap (r3 + 1)) : Int).toNat))), 0)
                      else
                        none
                    else
                      none
                  else
                    none
                else
                  none
              )
            )
          )
        ) (
          agree (
            agree (
              agree (
                agree (
                  if (0 : Int) ≤ r3 ∧ (r3 : Int) ≤ p0.2.2.length then
                    agree (
                      if ([] : List (ByteArray × Int)).length + (p0.2.2.take (r3 : Int).toNat).length < room 24 then
                        if (0 : Int) ≤ (IntKind.i64.wrap (r3 + 1)) ∧ ((IntKind.i64.wrap (r3 + 1)) : Int) ≤ p0.2.2.length then
                          if (([] : List (ByteArray × Int)) ++ (p0.2.2.take (r3 : Int).toNat)).length + (p0.2.2.drop ((IntKind.i64.wrap (r3 + 1)) : Int).toNat).length < room 24 then
                            some ((p0.1, (p0.2.1, (([] : List (ByteArray × Int)) ++ (p0.2.2.take (r3 : Int).toNat)) ++ (p0.2.2.drop ((IntKind.i64.wrap (r3 + 1)) : Int).toNat))), 0)
                          else
                            none
                        else
                          none
                      else
                        none
                    ) (
                      if (0 : Int) ≤ (IntKind.i64.wrap (r3 + 1)) ∧ ((IntKind.i64.wrap (r3 + 1)) : Int) ≤ p0.2.2.length then
                        if ([] : List (ByteArray × Int)).length + (p0.2.2.take (r3 : Int).toNat).length < room 24 then
                          if (([] : List (ByteArray × Int)) ++ (p0.2.2.take (r3 : Int).toNat)).length + (p0.2.2.drop ((IntKind.i64.wrap (r3 + 1)) : Int).toNat).length < room 24 then
                            some ((p0.1, (p0.2.1, (([] : List (ByteArray × Int)) ++ (p0.2.2.take (r3 : Int).toNat)) ++ (p0.2.2.drop ((IntKind.i64.wrap (r3 + 1)) : Int).toNat))), 0)
                          else
                            none
                        else
                          none
                      else
                        none
                    )
                  else
                    none
                ) (
                  if (0 : Int) ≤ (IntKind.i64.wrap (r3 + 1)) ∧ ((IntKind.i64.wrap (r3 + 1)) : Int) ≤ p0.2.2.length then
                    if (0 : Int) ≤ r3 ∧ (r3 : Int) ≤ p0.2.2.length then
                      if ([] : List (ByteArray × Int)).length + (p0.2.2.take (r3 : Int).toNat).length < room 24 then
                        if (([] : List (ByteArray × Int)) ++ (p0.2.2.take (r3 : Int).toNat)).length + (p0.2.2.drop ((IntKind.i64.wrap (r3 + 1)) : Int).toNat).length < room 24 then
                          some ((p0.1, (p0.2.1, (([] : List (ByteArray × Int)) ++ (p0.2.2.take (r3 : Int).toNat)) ++ (p0.2.2.drop ((IntKind.i64.wrap (r3 + 1)) : Int).toNat))), 0)
                        else
                          none
                      else
                        none
                    else
                      none
                  else
                    none
                )
              ) (
                agree (
                  if (0 : Int) ≤ r3 ∧ (r3 : Int) ≤ p0.2.2.length then
                    agree (
                      agree (
                        if ([] : List (ByteArray × Int)).length + (p0.2.2.take (r3 : Int).toNat).length < room 24 then
                          if (0 : Int) ≤ (IntKind.i64.wrap (r3 + 1)) ∧ ((IntKind.i64.wrap (r3 + 1)) : Int) ≤ p0.2.2.length then
                            if (([] : List (ByteArray × Int)) ++ (p0.2.2.take (r3 : Int).toNat)).length + (p0.2.2.drop ((IntKind.i64.wrap (r3 + 1)) : Int).toNat).length < room 24 then
                              some ((p0.1, (p0.2.1, (([] : List (ByteArray × Int)) ++ (p0.2.2.take (r3 : Int).toNat)) ++ (p0.2.2.drop ((IntKind.i64.wrap (r3 + 1)) : Int).toNat))), 0)
                            else
                              none
                          else
                            none
                        else
                          none
                      ) (
                        if (0 : Int) ≤ (IntKind.i64.wrap (r3 + 1)) ∧ ((IntKind.i64.wrap (r3 + 1)) : Int) ≤ p0.2.2.length then
                          if ([] : List (ByteArray × Int)).length + (p0.2.2.take (r3 : Int).toNat).length < room 24 then
                            if (([] : List (ByteArray × Int)) ++ (p0.2.2.take (r3 : Int).toNat)).length + (p0.2.2.drop ((IntKind.i64.wrap (r3 + 1)) : Int).toNat).length < room 24 then
                              some ((p0.1, (p0.2.1, (([] : List (ByteArray × Int)) ++ (p0.2.2.take (r3 : Int).toNat)) ++ (p0.2.2.drop ((IntKind.i64.wrap (r3 + 1)) : Int).toNat))), 0)
                            else
                              none
                          else
                            none
                        else
                          none
                      )
                    ) (
                      if (0 : Int) ≤ (IntKind.i64.wrap (r3 + 1)) ∧ ((IntKind.i64.wrap (r3 + 1)) : Int) ≤ p0.2.2.length then
                        if ([] : List (ByteArray × Int)).length + (p0.2.2.take (r3 : Int).toNat).length < room 24 then
                          if (([] : List (ByteArray × Int)) ++ (p0.2.2.take (r3 : Int).toNat)).length + (p0.2.2.drop ((IntKind.i64.wrap (r3 + 1)) : Int).toNat).length < room 24 then
                            some ((p0.1, (p0.2.1, (([] : List (ByteArray × Int)) ++ (p0.2.2.take (r3 : Int).toNat)) ++ (p0.2.2.drop ((IntKind.i64.wrap (r3 + 1)) : Int).toNat))), 0)
                          else
                            none
                        else
                          none
                      else
                        none
                    )
                  else
                    none
                ) (
                  if (0 : Int) ≤ (IntKind.i64.wrap (r3 + 1)) ∧ ((IntKind.i64.wrap (r3 + 1)) : Int) ≤ p0.2.2.length then
                    if (0 : Int) ≤ r3 ∧ (r3 : Int) ≤ p0.2.2.length then
                      if ([] : List (ByteArray × Int)).length + (p0.2.2.take (r3 : Int).toNat).length < room 24 then
                        if (([] : List (ByteArray × Int)) ++ (p0.2.2.take (r3 : Int).toNat)).length + (p0.2.2.drop ((IntKind.i64.wrap (r3 + 1)) : Int).toNat).length < room 24 then
                          some ((p0.1, (p0.2.1, (([] : List (ByteArray × Int)) ++ (p0.2.2.take (r3 : Int).toNat)) ++ (p0.2.2.drop ((IntKind.i64.wrap (r3 + 1)) : Int).toNat))), 0)
                        else
                          none
                      else
                        none
                    else
                      none
                  else
                    none
                )
              )
            ) (
              agree (
                agree (
                  agree (
                    if (0 : Int) ≤ r3 ∧ (r3 : Int) ≤ p0.2.2.length then
                      agree (
                        if ([] : List (ByteArray × Int)).length + (p0.2.2.take (r3 : Int).toNat).length < room 24 then
                          if (0 : Int) ≤ (IntKind.i64.wrap (r3 + 1)) ∧ ((IntKind.i64.wrap (r3 + 1)) : Int) ≤ p0.2.2.length then
                            if (([] : List (ByteArray × Int)) ++ (p0.2.2.take (r3 : Int).toNat)).length + (p0.2.2.drop ((IntKind.i64.wrap (r3 + 1)) : Int).toNat).length < room 24 then
                              some ((p0.1, (p0.2.1, (([] : List (ByteArray × Int)) ++ (p0.2.2.take (r3 : Int).toNat)) ++ (p0.2.2.drop ((IntKind.i64.wrap (r3 + 1)) : Int).toNat))), 0)
                            else
                              none
                          else
                            none
                        else
                          none
                      ) (
                        if (0 : Int) ≤ (IntKind.i64.wrap (r3 + 1)) ∧ ((IntKind.i64.wrap (r3 + 1)) : Int) ≤ p0.2.2.length then
                          if ([] : List (ByteArray × Int)).length + (p0.2.2.take (r3 : Int).toNat).length < room 24 then
                            if (([] : List (ByteArray × Int)) ++ (p0.2.2.take (r3 : Int).toNat)).length + (p0.2.2.drop ((IntKind.i64.wrap (r3 + 1)) : Int).toNat).length < room 24 then
                              some ((p0.1, (p0.2.1, (([] : List (ByteArray × Int)) ++ (p0.2.2.take (r3 : Int).toNat)) ++ (p0.2.2.drop ((IntKind.i64.wrap (r3 + 1)) : Int).toNat))), 0)
                            else
                              none
                          else
                            none
                        else
                          none
                      )
                    else
                      none
                  ) (
                    if (0 : Int) ≤ (IntKind.i64.wrap (r3 + 1)) ∧ ((IntKind.i64.wrap (r3 + 1)) : Int) ≤ p0.2.2.length then
                      if (0 : Int) ≤ r3 ∧ (r3 : Int) ≤ p0.2.2.length then
                        if ([] : List (ByteArray × Int)).length + (p0.2.2.take (r3 : Int).toNat).length < room 24 then
                          if (([] : List (ByteArray × Int)) ++ (p0.2.2.take (r3 : Int).toNat)).length + (p0.2.2.drop ((IntKind.i64.wrap (r3 + 1)) : Int).toNat).length < room 24 then
                            some ((p0.1, (p0.2.1, (([] : List (ByteArray × Int)) ++ (p0.2.2.take (r3 : Int).toNat)) ++ (p0.2.2.drop ((IntKind.i64.wrap (r3 + 1)) : Int).toNat))), 0)
                          else
                            none
                        else
                          none
                      else
                        none
                    else
                      none
                  )
                ) (
                  agree (
                    if (0 : Int) ≤ r3 ∧ (r3 : Int) ≤ p0.2.2.length then
                      agree (
                        agree (
                          if ([] : List (ByteArray × Int)).length + (p0.2.2.take (r3 : Int).toNat).length < room 24 then
                            if (0 : Int) ≤ (IntKind.i64.wrap (r3 + 1)) ∧ ((IntKind.i64.wrap (r3 + 1)) : Int) ≤ p0.2.2.length then
                              if (([] : List (ByteArray × Int)) ++ (p0.2.2.take (r3 : Int).toNat)).length + (p0.2.2.drop ((IntKind.i64.wrap (r3 + 1)) : Int).toNat).length < room 24 then
                                some ((p0.1, (p0.2.1, (([] : List (ByteArray × Int)) ++ (p0.2.2.take (r3 : Int).toNat)) ++ (p0.2.2.drop ((IntKind.i64.wrap (r3 + 1)) : Int).toNat))), 0)
                              else
                                none
                            else
                              none
                          else
                            none
                        ) (
                          if (0 : Int) ≤ (IntKind.i64.wrap (r3 + 1)) ∧ ((IntKind.i64.wrap (r3 + 1)) : Int) ≤ p0.2.2.length then
                            if ([] : List (ByteArray × Int)).length + (p0.2.2.take (r3 : Int).toNat).length < room 24 then
                              if (([] : List (ByteArray × Int)) ++ (p0.2.2.take (r3 : Int).toNat)).length + (p0.2.2.drop ((IntKind.i64.wrap (r3 + 1)) : Int).toNat).length < room 24 then
                                some ((p0.1, (p0.2.1, (([] : List (ByteArray × Int)) ++ (p0.2.2.take (r3 : Int).toNat)) ++ (p0.2.2.drop ((IntKind.i64.wrap (r3 + 1)) : Int).toNat))), 0)
                              else
                                none
                            else
                              none
                          else
                            none
                        )
                      ) (
                        agree (
                          if ([] : List (ByteArray × Int)).length + (p0.2.2.take (r3 : Int).toNat).length < room 24 then
                            if (0 : Int) ≤ (IntKind.i64.wrap (r3 + 1)) ∧ ((IntKind.i64.wrap (r3 + 1)) : Int) ≤ p0.2.2.length then
                              if (([] : List (ByteArray × Int)) ++ (p0.2.2.take (r3 : Int).toNat)).length + (p0.2.2.drop ((IntKind.i64.wrap (r3 + 1)) : Int).toNat).length < room 24 then
                                some ((p0.1, (p0.2.1, (([] : List (ByteArray × Int)) ++ (p0.2.2.take (r3 : Int).toNat)) ++ (p0.2.2.drop ((IntKind.i64.wrap (r3 + 1)) : Int).toNat))), 0)
                              else
                                none
                            else
                              none
                          else
                            none
                        ) (
                          if (0 : Int) ≤ (IntKind.i64.wrap (r3 + 1)) ∧ ((IntKind.i64.wrap (r3 + 1)) : Int) ≤ p0.2.2.length then
                            if ([] : List (ByteArray × Int)).length + (p0.2.2.take (r3 : Int).toNat).length < room 24 then
                              if (([] : List (ByteArray × Int)) ++ (p0.2.2.take (r3 : Int).toNat)).length + (p0.2.2.drop ((IntKind.i64.wrap (r3 + 1)) : Int).toNat).length < room 24 then
                                some ((p0.1, (p0.2.1, (([] : List (ByteArray × Int)) ++ (p0.2.2.take (r3 : Int).toNat)) ++ (p0.2.2.drop ((IntKind.i64.wrap (r3 + 1)) : Int).toNat))), 0)
                              else
                                none
                            else
                              none
                          else
                            none
                        )
                      )
                    else
                      none
                  ) (
                    if (0 : Int) ≤ (IntKind.i64.wrap (r3 + 1)) ∧ ((IntKind.i64.wrap (r3 + 1)) : Int) ≤ p0.2.2.length then
                      if (0 : Int) ≤ r3 ∧ (r3 : Int) ≤ p0.2.2.length then
                        if ([] : List (ByteArray × Int)).length + (p0.2.2.take (r3 : Int).toNat).length < room 24 then
                          if (([] : List (ByteArray × Int)) ++ (p0.2.2.take (r3 : Int).toNat)).length + (p0.2.2.drop ((IntKind.i64.wrap (r3 + 1)) : Int).toNat).length < room 24 then
                            some ((p0.1, (p0.2.1, (([] : List (ByteArray × Int)) ++ (p0.2.2.take (r3 : Int).toNat)) ++ (p0.2.2.drop ((IntKind.i64.wrap (r3 + 1)) : Int).toNat))), 0)
                          else
                            none
                        else
                          none
                      else
                        none
                    else
                      none
                  )
                )
              ) (
                agree (
                  if (0 : Int) ≤ r3 ∧ (r3 : Int) ≤ p0.2.2.length then
                    agree (
                      agree (
                        agree (
                          if ([] : List (ByteArray × Int)).length + (p0.2.2.take (r3 : Int).toNat).length < room 24 then
                            if (0 : Int) ≤ (IntKind.i64.wrap (r3 + 1)) ∧ ((IntKind.i64.wrap (r3 + 1)) : Int) ≤ p0.2.2.length then
                              if (([] : List (ByteArray × Int)) ++ (p0.2.2.take (r3 : Int).toNat)).length + (p0.2.2.drop ((IntKind.i64.wrap (r3 + 1)) : Int).toNat).length < room 24 then
                                some ((p0.1, (p0.2.1, (([] : List (ByteArray × Int)) ++ (p0.2.2.take (r3 : Int).toNat)) ++ (p0.2.2.drop ((IntKind.i64.wrap (r3 + 1)) : Int).toNat))), 0)
                              else
                                none
                            else
                              none
                          else
                            none
                        ) (
                          if (0 : Int) ≤ (IntKind.i64.wrap (r3 + 1)) ∧ ((IntKind.i64.wrap (r3 + 1)) : Int) ≤ p0.2.2.length then
                            if ([] : List (ByteArray × Int)).length + (p0.2.2.take (r3 : Int).toNat).length < room 24 then
                              if (([] : List (ByteArray × Int)) ++ (p0.2.2.take (r3 : Int).toNat)).length + (p0.2.2.drop ((IntKind.i64.wrap (r3 + 1)) : Int).toNat).length < room 24 then
                                some ((p0.1, (p0.2.1, (([] : List (ByteArray × Int)) ++ (p0.2.2.take (r3 : Int).toNat)) ++ (p0.2.2.drop ((IntKind.i64.wrap (r3 + 1)) : Int).toNat))), 0)
                              else
                                none
                            else
                              none
                          else
                            none
                        )
                      ) (
                        if (0 : Int) ≤ (IntKind.i64.wrap (r3 + 1)) ∧ ((IntKind.i64.wrap (r3 + 1)) : Int) ≤ p0.2.2.length then
                          if ([] : List (ByteArray × Int)).length + (p0.2.2.take (r3 : Int).toNat).length < room 24 then
                            if (([] : List (ByteArray × Int)) ++ (p0.2.2.take (r3 : Int).toNat)).length + (p0.2.2.drop ((IntKind.i64.wrap (r3 + 1)) : Int).toNat).length < room 24 then
                              some ((p0.1, (p0.2.1, (([] : List (ByteArray × Int)) ++ (p0.2.2.take (r3 : Int).toNat)) ++ (p0.2.2.drop ((IntKind.i64.wrap (r3 + 1)) : Int).toNat))), 0)
                            else
                              none
                          else
                            none
                        else
                          none
                      )
                    ) (
                      agree (
                        agree (
                          agree (
                            if ([] : List (ByteArray × Int)).length + (p0.2.2.take (r3 : Int).toNat).length < room 24 then
                              if (0 : Int) ≤ (IntKind.i64.wrap (r3 + 1)) ∧ ((IntKind.i64.wrap (r3 + 1)) : Int) ≤ p0.2.2.length then
                                if (([] : List (ByteArray × Int)) ++ (p0.2.2.take (r3 : Int).toNat)).length + (p0.2.2.drop ((IntKind.i64.wrap (r3 + 1)) : Int).toNat).length < room 24 then
                                  some ((p0.1, (p0.2.1, (([] : List (ByteArray × Int)) ++ (p0.2.2.take (r3 : Int).toNat)) ++ (p0.2.2.drop ((IntKind.i64.wrap (r3 + 1)) : Int).toNat))), 0)
                                else
                                  none
                              else
                                none
                            else
                              none
                          ) (
                            if (0 : Int) ≤ (IntKind.i64.wrap (r3 + 1)) ∧ ((IntKind.i64.wrap (r3 + 1)) : Int) ≤ p0.2.2.length then
                              if ([] : List (ByteArray × Int)).length + (p0.2.2.take (r3 : Int).toNat).length < room 24 then
                                if (([] : List (ByteArray × Int)) ++ (p0.2.2.take (r3 : Int).toNat)).length + (p0.2.2.drop ((IntKind.i64.wrap (r3 + 1)) : Int).toNat).length < room 24 then
                                  some ((p0.1, (p0.2.1, (([] : List (ByteArray × Int)) ++ (p0.2.2.take (r3 : Int).toNat)) ++ (p0.2.2.drop ((IntKind.i64.wrap (r3 + 1)) : Int).toNat))), 0)
                                else
                                  none
                              else
                                none
                            else
                              none
                          )
                        ) (
                          agree (
                            if ([] : List (ByteArray × Int)).length + (p0.2.2.take (r3 : Int).toNat).length < room 24 then
                              if (0 : Int) ≤ (IntKind.i64.wrap (r3 + 1)) ∧ ((IntKind.i64.wrap (r3 + 1)) : Int) ≤ p0.2.2.length then
                                if (([] : List (ByteArray × Int)) ++ (p0.2.2.take (r3 : Int).toNat)).length + (p0.2.2.drop ((IntKind.i64.wrap (r3 + 1)) : Int).toNat).length < room 24 then
                                  some ((p0.1, (p0.2.1, (([] : List (ByteArray × Int)) ++ (p0.2.2.take (r3 : Int).toNat)) ++ (p0.2.2.drop ((IntKind.i64.wrap (r3 + 1)) : Int).toNat))), 0)
                                else
                                  none
                              else
                                none
                            else
                              none
                          ) (
                            if (0 : Int) ≤ (IntKind.i64.wrap (r3 + 1)) ∧ ((IntKind.i64.wrap (r3 + 1)) : Int) ≤ p0.2.2.length then
                              if ([] : List (ByteArray × Int)).length + (p0.2.2.take (r3 : Int).toNat).length < room 24 then
                                if (([] : List (ByteArray × Int)) ++ (p0.2.2.take (r3 : Int).toNat)).length + (p0.2.2.drop ((IntKind.i64.wrap (r3 + 1)) : Int).toNat).length < room 24 then
                                  some ((p0.1, (p0.2.1, (([] : List (ByteArray × Int)) ++ (p0.2.2.take (r3 : Int).toNat)) ++ (p0.2.2.drop ((IntKind.i64.wrap (r3 + 1)) : Int).toNat))), 0)
                                else
                                  none
                              else
                                none
                            else
                              none
                          )
                        )
                      ) (
                        if (0 : Int) ≤ (IntKind.i64.wrap (r3 + 1)) ∧ ((IntKind.i64.wrap (r3 + 1)) : Int) ≤ p0.2.2.length then
                          if ([] : List (ByteArray × Int)).length + (p0.2.2.take (r3 : Int).toNat).length < room 24 then
                            if (([] : List (ByteArray × Int)) ++ (p0.2.2.take (r3 : Int).toNat)).length + (p0.2.2.drop ((IntKind.i64.wrap (r3 + 1)) : Int).toNat).length < room 24 then
                              some ((p0.1, (p0.2.1, (([] : List (ByteArray × Int)) ++ (p0.2.2.take (r3 : Int).toNat)) ++ (p0.2.2.drop ((IntKind.i64.wrap (r3 + 1)) : Int).toNat))), 0)
                            else
                              none
                          else
                            none
                        else
                          none
                      )
                    )
                  else
                    none
                ) (
                  if (0 : Int) ≤ (IntKind.i64.wrap (r3 + 1)) ∧ ((IntKind.i64.wrap (r3 + 1)) : Int) ≤ p0.2.2.length then
                    if (0 : Int) ≤ r3 ∧ (r3 : Int) ≤ p0.2.2.length then
                      if ([] : List (ByteArray × Int)).length + (p0.2.2.take (r3 : Int).toNat).length < room 24 then
                        if (([] : List (ByteArray × Int)) ++ (p0.2.2.take (r3 : Int).toNat)).length + (p0.2.2.drop ((IntKind.i64.wrap (r3 + 1)) : Int).toNat).length < room 24 then
                          some ((p0.1, (p0.2.1, (([] : List (ByteArray × Int)) ++ (p0.2.2.take (r3 : Int).toNat)) ++ (p0.2.2.drop ((IntKind.i64.wrap (r3 + 1)) : Int).toNat))), 0)
                        else
                          none
                      else
                        none
                    else
                      none
                  else
                    none
                )
              )
            )
          ) (
            agree (
              agree (
                agree (
                  agree (
                    if (0 : Int) ≤ r3 ∧ (r3 : Int) ≤ p0.2.2.length then
                      agree (
                        if ([] : List (ByteArray × Int)).length + (p0.2.2.take (r3 : Int).toNat).length < room 24 then
                          if (0 : Int) ≤ (IntKind.i64.wrap (r3 + 1)) ∧ ((IntKind.i64.wrap (r3 + 1)) : Int) ≤ p0.2.2.length then
                            if (([] : List (ByteArray × Int)) ++ (p0.2.2.take (r3 : Int).toNat)).length + (p0.2.2.drop ((IntKind.i64.wrap (r3 + 1)) : Int).toNat).length < room 24 then
                              some ((p0.1, (p0.2.1, (([] : List (ByteArray × Int)) ++ (p0.2.2.take (r3 : Int).toNat)) ++ (p0.2.2.drop ((IntKind.i64.wrap (r3 + 1)) : Int).toNat))), 0)
                            else
                              none
                          else
                            none
                        else
                          none
                      ) (
                        if (0 : Int) ≤ (IntKind.i64.wrap (r3 + 1)) ∧ ((IntKind.i64.wrap (r3 + 1)) : Int) ≤ p0.2.2.length then
                          if ([] : List (ByteArray × Int)).length + (p0.2.2.take (r3 : Int).toNat).length < room 24 then
                            if (([] : List (ByteArray × Int)) ++ (p0.2.2.take (r3 : Int).toNat)).length + (p0.2.2.drop ((IntKind.i64.wrap (r3 + 1)) : Int).toNat).length < room 24 then
                              some ((p0.1, (p0.2.1, (([] : List (ByteArray × Int)) ++ (p0.2.2.take (r3 : Int).toNat)) ++ (p0.2.2.drop ((IntKind.i64.wrap (r3 + 1)) : Int).toNat))), 0)
                            else
                              none
                          else
                            none
                        else
                          none
                      )
                    else
                      none
                  ) (
                    if (0 : Int) ≤ (IntKind.i64.wrap (r3 + 1)) ∧ ((IntKind.i64.wrap (r3 + 1)) : Int) ≤ p0.2.2.length then
                      if (0 : Int) ≤ r3 ∧ (r3 : Int) ≤ p0.2.2.length then
                        if ([] : List (ByteArray × Int)).length + (p0.2.2.take (r3 : Int).toNat).length < room 24 then
                          if (([] : List (ByteArray × Int)) ++ (p0.2.2.take (r3 : Int).toNat)).length + (p0.2.2.drop ((IntKind.i64.wrap (r3 + 1)) : Int).toNat).length < room 24 then
                            some ((p0.1, (p0.2.1, (([] : List (ByteArray × Int)) ++ (p0.2.2.take (r3 : Int).toNat)) ++ (p0.2.2.drop ((IntKind.i64.wrap (r3 + 1)) : Int).toNat))), 0)
                          else
                            none
                        else
                          none
                      else
                        none
                    else
                      none
                  )
                ) (
                  agree (
                    if (0 : Int) ≤ r3 ∧ (r3 : Int) ≤ p0.2.2.length then
                      agree (
                        agree (
                          if ([] : List (ByteArray × Int)).length + (p0.2.2.take (r3 : Int).toNat).length < room 24 then
                            if (0 : Int) ≤ (IntKind.i64.wrap (r3 + 1)) ∧ ((IntKind.i64.wrap (r3 + 1)) : Int) ≤ p0.2.2.length then
                              if (([] : List (ByteArray × Int)) ++ (p0.2.2.take (r3 : Int).toNat)).length + (p0.2.2.drop ((IntKind.i64.wrap (r3 + 1)) : Int).toNat).length < room 24 then
                                some ((p0.1, (p0.2.1, (([] : List (ByteArray × Int)) ++ (p0.2.2.take (r3 : Int).toNat)) ++ (p0.2.2.drop ((IntKind.i64.wrap (r3 + 1)) : Int).toNat))), 0)
                              else
                                none
                            else
                              none
                          else
                            none
                        ) (
                          if (0 : Int) ≤ (IntKind.i64.wrap (r3 + 1)) ∧ ((IntKind.i64.wrap (r3 + 1)) : Int) ≤ p0.2.2.length then
                            if ([] : List (ByteArray × Int)).length + (p0.2.2.take (r3 : Int).toNat).length < room 24 then
                              if (([] : List (ByteArray × Int)) ++ (p0.2.2.take (r3 : Int).toNat)).length + (p0.2.2.drop ((IntKind.i64.wrap (r3 + 1)) : Int).toNat).length < room 24 then
                                some ((p0.1, (p0.2.1, (([] : List (ByteArray × Int)) ++ (p0.2.2.take (r3 : Int).toNat)) ++ (p0.2.2.drop ((IntKind.i64.wrap (r3 + 1)) : Int).toNat))), 0)
                              else
                                none
                            else
                              none
                          else
                            none
                        )
                      ) (
                        agree (
                          if ([] : List (ByteArray × Int)).length + (p0.2.2.take (r3 : Int).toNat).length < room 24 then
                            if (0 : Int) ≤ (IntKind.i64.wrap (r3 + 1)) ∧ ((IntKind.i64.wrap (r3 + 1)) : Int) ≤ p0.2.2.length then
                              if (([] : List (ByteArray × Int)) ++ (p0.2.2.take (r3 : Int).toNat)).length + (p0.2.2.drop ((IntKind.i64.wrap (r3 + 1)) : Int).toNat).length < room 24 then
                                some ((p0.1, (p0.2.1, (([] : List (ByteArray × Int)) ++ (p0.2.2.take (r3 : Int).toNat)) ++ (p0.2.2.drop ((IntKind.i64.wrap (r3 + 1)) : Int).toNat))), 0)
                              else
                                none
                            else
                              none
                          else
                            none
                        ) (
                          if (0 : Int) ≤ (IntKind.i64.wrap (r3 + 1)) ∧ ((IntKind.i64.wrap (r3 + 1)) : Int) ≤ p0.2.2.length then
                            if ([] : List (ByteArray × Int)).length + (p0.2.2.take (r3 : Int).toNat).length < room 24 then
                              if (([] : List (ByteArray × Int)) ++ (p0.2.2.take (r3 : Int).toNat)).length + (p0.2.2.drop ((IntKind.i64.wrap (r3 + 1)) : Int).toNat).length < room 24 then
                                some ((p0.1, (p0.2.1, (([] : List (ByteArray × Int)) ++ (p0.2.2.take (r3 : Int).toNat)) ++ (p0.2.2.drop ((IntKind.i64.wrap (r3 + 1)) : Int).toNat))), 0)
                              else
                                none
                            else
                              none
                          else
                            none
                        )
                      )
                    else
                      none
                  ) (
                    if (0 : Int) ≤ (IntKind.i64.wrap (r3 + 1)) ∧ ((IntKind.i64.wrap (r3 + 1)) : Int) ≤ p0.2.2.length then
                      if (0 : Int) ≤ r3 ∧ (r3 : Int) ≤ p0.2.2.length then
                        if ([] : List (ByteArray × Int)).length + (p0.2.2.take (r3 : Int).toNat).length < room 24 then
                          if (([] : List (ByteArray × Int)) ++ (p0.2.2.take (r3 : Int).toNat)).length + (p0.2.2.drop ((IntKind.i64.wrap (r3 + 1)) : Int).toNat).length < room 24 then
                            some ((p0.1, (p0.2.1, (([] : List (ByteArray × Int)) ++ (p0.2.2.take (r3 : Int).toNat)) ++ (p0.2.2.drop ((IntKind.i64.wrap (r3 + 1)) : Int).toNat))), 0)
                          else
                            none
                        else
                          none
                      else
                        none
                    else
                      none
                  )
                )
              ) (
                agree (
                  agree (
                    agree (
                      if (0 : Int) ≤ r3 ∧ (r3 : Int) ≤ p0.2.2.length then
                        agree (
                          if ([] : List (ByteArray × Int)).length + (p0.2.2.take (r3 : Int).toNat).length < room 24 then
                            if (0 : Int) ≤ (IntKind.i64.wrap (r3 + 1)) ∧ ((IntKind.i64.wrap (r3 + 1)) : Int) ≤ p0.2.2.length then
                              if (([] : List (ByteArray × Int)) ++ (p0.2.2.take (r3 : Int).toNat)).length + (p0.2.2.drop ((IntKind.i64.wrap (r3 + 1)) : Int).toNat).length < room 24 then
                                some ((p0.1, (p0.2.1, (([] : List (ByteArray × Int)) ++ (p0.2.2.take (r3 : Int).toNat)) ++ (p0.2.2.drop ((IntKind.i64.wrap (r3 + 1)) : Int).toNat))), 0)
                              else
                                none
                            else
                              none
                          else
                            none
                        ) (
                          if (0 : Int) ≤ (IntKind.i64.wrap (r3 + 1)) ∧ ((IntKind.i64.wrap (r3 + 1)) : Int) ≤ p0.2.2.length then
                            if ([] : List (ByteArray × Int)).length + (p0.2.2.take (r3 : Int).toNat).length < room 24 then
                              if (([] : List (ByteArray × Int)) ++ (p0.2.2.take (r3 : Int).toNat)).length + (p0.2.2.drop ((IntKind.i64.wrap (r3 + 1)) : Int).toNat).length < room 24 then
                                some ((p0.1, (p0.2.1, (([] : List (ByteArray × Int)) ++ (p0.2.2.take (r3 : Int).toNat)) ++ (p0.2.2.drop ((IntKind.i64.wrap (r3 + 1)) : Int).toNat))), 0)
                              else
                                none
                            else
                              none
                          else
                            none
                        )
                      else
                        none
                    ) (
                      if (0 : Int) ≤ (IntKind.i64.wrap (r3 + 1)) ∧ ((IntKind.i64.wrap (r3 + 1)) : Int) ≤ p0.2.2.length then
                        if (0 : Int) ≤ r3 ∧ (r3 : Int) ≤ p0.2.2.length then
                          if ([] : List (ByteArray × Int)).length + (p0.2.2.take (r3 : Int).toNat).length < room 24 then
                            if (([] : List (ByteArray × Int)) ++ (p0.2.2.take (r3 : Int).toNat)).length + (p0.2.2.drop ((IntKind.i64.wrap (r3 + 1)) : Int).toNat).length < room 24 then
                              some ((p0.1, (p0.2.1, (([] : List (ByteArray × Int)) ++ (p0.2.2.take (r3 : Int).toNat)) ++ (p0.2.2.drop ((IntKind.i64.wrap (r3 + 1)) : Int).toNat))), 0)
                            else
                              none
                          else
                            none
                        else
                          none
                      else
                        none
                    )
                  ) (
                    agree (
                      if (0 : Int) ≤ r3 ∧ (r3 : Int) ≤ p0.2.2.length then
                        agree (
                          agree (
                            if ([] : List (ByteArray × Int)).length + (p0.2.2.take (r3 : Int).toNat).length < room 24 then
                              if (0 : Int) ≤ (IntKind.i64.wrap (r3 + 1)) ∧ ((IntKind.i64.wrap (r3 + 1)) : Int) ≤ p0.2.2.length then
                                if (([] : List (ByteArray × Int)) ++ (p0.2.2.take (r3 : Int).toNat)).length + (p0.2.2.drop ((IntKind.i64.wrap (r3 + 1)) : Int).toNat).length < room 24 then
                                  some ((p0.1, (p0.2.1, (([] : List (ByteArray × Int)) ++ (p0.2.2.take (r3 : Int).toNat)) ++ (p0.2.2.drop ((IntKind.i64.wrap (r3 + 1)) : Int).toNat))), 0)
                                else
                                  none
                              else
                                none
                            else
                              none
                          ) (
                            if (0 : Int) ≤ (IntKind.i64.wrap (r3 + 1)) ∧ ((IntKind.i64.wrap (r3 + 1)) : Int) ≤ p0.2.2.length then
                              if ([] : List (ByteArray × Int)).length + (p0.2.2.take (r3 : Int).toNat).length < room 24 then
                                if (([] : List (ByteArray × Int)) ++ (p0.2.2.take (r3 : Int).toNat)).length + (p0.2.2.drop ((IntKind.i64.wrap (r3 + 1)) : Int).toNat).length < room 24 then
                                  some ((p0.1, (p0.2.1, (([] : List (ByteArray × Int)) ++ (p0.2.2.take (r3 : Int).toNat)) ++ (p0.2.2.drop ((IntKind.i64.wrap (r3 + 1)) : Int).toNat))), 0)
                                else
                                  none
                              else
                                none
                            else
                              none
                          )
                        ) (
                          agree (
                            if ([] : List (ByteArray × Int)).length + (p0.2.2.take (r3 : Int).toNat).length < room 24 then
                              if (0 : Int) ≤ (IntKind.i64.wrap (r3 + 1)) ∧ ((IntKind.i64.wrap (r3 + 1)) : Int) ≤ p0.2.2.length then
                                if (([] : List (ByteArray × Int)) ++ (p0.2.2.take (r3 : Int).toNat)).length + (p0.2.2.drop ((IntKind.i64.wrap (r3 + 1)) : Int).toNat).length < room 24 then
                                  some ((p0.1, (p0.2.1, (([] : List (ByteArray × Int)) ++ (p0.2.2.take (r3 : Int).toNat)) ++ (p0.2.2.drop ((IntKind.i64.wrap (r3 + 1)) : Int).toNat))), 0)
                                else
                                  none
                              else
                                none
                            else
                              none
                          ) (
                            if (0 : Int) ≤ (IntKind.i64.wrap (r3 + 1)) ∧ ((IntKind.i64.wrap (r3 + 1)) : Int) ≤ p0.2.2.length then
                              if ([] : List (ByteArray × Int)).length + (p0.2.2.take (r3 : Int).toNat).length < room 24 then
                                if (([] : List (ByteArray × Int)) ++ (p0.2.2.take (r3 : Int).toNat)).length + (p0.2.2.drop ((IntKind.i64.wrap (r3 + 1)) : Int).toNat).length < room 24 then
                                  some ((p0.1, (p0.2.1, (([] : List (ByteArray × Int)) ++ (p0.2.2.take (r3 : Int).toNat)) ++ (p0.2.2.drop ((IntKind.i64.wrap (r3 + 1)) : Int).toNat))), 0)
                                else
                                  none
                              else
                                none
                            else
                              none
                          )
                        )
                      else
                        none
                    ) (
                      if (0 : Int) ≤ (IntKind.i64.wrap (r3 + 1)) ∧ ((IntKind.i64.wrap (r3 + 1)) : Int) ≤ p0.2.2.length then
                        if (0 : Int) ≤ r3 ∧ (r3 : Int) ≤ p0.2.2.length then
                          if ([] : List (ByteArray × Int)).length + (p0.2.2.take (r3 : Int).toNat).length < room 24 then
                            if (([] : List (ByteArray × Int)) ++ (p0.2.2.take (r3 : Int).toNat)).length + (p0.2.2.drop ((IntKind.i64.wrap (r3 + 1)) : Int).toNat).length < room 24 then
                              some ((p0.1, (p0.2.1, (([] : List (ByteArray × Int)) ++ (p0.2.2.take (r3 : Int).toNat)) ++ (p0.2.2.drop ((IntKind.i64.wrap (r3 + 1)) : Int).toNat))), 0)
                            else
                              none
                          else
                            none
                        else
                          none
                      else
                        none
                    )
                  )
                ) (
                  agree (
                    if (0 : Int) ≤ r3 ∧ (r3 : Int) ≤ p0.2.2.length then
                      agree (
                        agree (
                          agree (
                            if ([] : List (ByteArray × Int)).length + (p0.2.2.take (r3 : Int).toNat).length < room 24 then
                              if (0 : Int) ≤ (IntKind.i64.wrap (r3 + 1)) ∧ ((IntKind.i64.wrap (r3 + 1)) : Int) ≤ p0.2.2.length then
                                if (([] : List (ByteArray × Int)) ++ (p0.2.2.take (r3 : Int).toNat)).length + (p0.2.2.drop ((IntKind.i64.wrap (r3 + 1)) : Int).toNat).length < room 24 then
                                  some ((p0.1, (p0.2.1, (([] : List (ByteArray × Int)) ++ (p0.2.2.take (r3 : Int).toNat)) ++ (p0.2.2.drop ((IntKind.i64.wrap (r3 + 1)) : Int).toNat))), 0)
                                else
                                  none
                              else
                                none
                            else
                              none
                          ) (
                            if (0 : Int) ≤ (IntKind.i64.wrap (r3 + 1)) ∧ ((IntKind.i64.wrap (r3 + 1)) : Int) ≤ p0.2.2.length then
                              if ([] : List (ByteArray × Int)).length + (p0.2.2.take (r3 : Int).toNat).length < room 24 then
                                if (([] : List (ByteArray × Int)) ++ (p0.2.2.take (r3 : Int).toNat)).length + (p0.2.2.drop ((IntKind.i64.wrap (r3 + 1)) : Int).toNat).length < room 24 then
                                  some ((p0.1, (p0.2.1, (([] : List (ByteArray × Int)) ++ (p0.2.2.take (r3 : Int).toNat)) ++ (p0.2.2.drop ((IntKind.i64.wrap (r3 + 1)) : Int).toNat))), 0)
                                else
                                  none
                              else
                                none
                            else
                              none
                          )
                        ) (
                          agree (
                            if ([] : List (ByteArray × Int)).length + (p0.2.2.take (r3 : Int).toNat).length < room 24 then
                              if (0 : Int) ≤ (IntKind.i64.wrap (r3 + 1)) ∧ ((IntKind.i64.wrap (r3 + 1)) : Int) ≤ p0.2.2.length then
                                if (([] : List (ByteArray × Int)) ++ (p0.2.2.take (r3 : Int).toNat)).length + (p0.2.2.drop ((IntKind.i64.wrap (r3 + 1)) : Int).toNat).length < room 24 then
                                  some ((p0.1, (p0.2.1, (([] : List (ByteArray × Int)) ++ (p0.2.2.take (r3 : Int).toNat)) ++ (p0.2.2.drop ((IntKind.i64.wrap (r3 + 1)) : Int).toNat))), 0)
                                else
                                  none
                              else
                                none
                            else
                              none
                          ) (
                            if (0 : Int) ≤ (IntKind.i64.wrap (r3 + 1)) ∧ ((IntKind.i64.wrap (r3 + 1)) : Int) ≤ p0.2.2.length then
                              if ([] : List (ByteArray × Int)).length + (p0.2.2.take (r3 : Int).toNat).length < room 24 then
                                if (([] : List (ByteArray × Int)) ++ (p0.2.2.take (r3 : Int).toNat)).length + (p0.2.2.drop ((IntKind.i64.wrap (r3 + 1)) : Int).toNat).length < room 24 then
                                  some ((p0.1, (p0.2.1, (([] : List (ByteArray × Int)) ++ (p0.2.2.take (r3 : Int).toNat)) ++ (p0.2.2.drop ((IntKind.i64.wrap (r3 + 1)) : Int).toNat))), 0)
                                else
                                  none
                              else
                                none
                            else
                              none
                          )
                        )
                      ) (
                        agree (
                          agree (
                            agree (
                              if ([] : List (ByteArray × Int)).length + (p0.2.2.take (r3 : Int).toNat).length < room 24 then
                                if (0 : Int) ≤ (IntKind.i64.wrap (r3 + 1)) ∧ ((IntKind.i64.wrap (r3 + 1)) : Int) ≤ p0.2.2.length then
                                  if (([] : List (ByteArray × Int)) ++ (p0.2.2.take (r3 : Int).toNat)).length + (p0.2.2.drop ((IntKind.i64.wrap (r3 + 1)) : Int).toNat).length < room 24 then
                                    some ((p0.1, (p0.2.1, (([] : List (ByteArray × Int)) ++ (p0.2.2.take (r3 : Int).toNat)) ++ (p0.2.2.drop ((IntKind.i64.wrap (r3 + 1)) : Int).toNat))), 0)
                                  else
                                    none
                                else
                                  none
                              else
                                none
                            ) (
                              if (0 : Int) ≤ (IntKind.i64.wrap (r3 + 1)) ∧ ((IntKind.i64.wrap (r3 + 1)) : Int) ≤ p0.2.2.length then
                                if ([] : List (ByteArray × Int)).length + (p0.2.2.take (r3 : Int).toNat).length < room 24 then
                                  if (([] : List (ByteArray × Int)) ++ (p0.2.2.take (r3 : Int).toNat)).length + (p0.2.2.drop ((IntKind.i64.wrap (r3 + 1)) : Int).toNat).length < room 24 then
                                    some ((p0.1, (p0.2.1, (([] : List (ByteArray × Int)) ++ (p0.2.2.take (r3 : Int).toNat)) ++ (p0.2.2.drop ((IntKind.i64.wrap (r3 + 1)) : Int).toNat))), 0)
                                  else
                                    none
                                else
                                  none
                              else
                                none
                            )
                          ) (
                            agree (
                              if ([] : List (ByteArray × Int)).length + (p0.2.2.take (r3 : Int).toNat).length < room 24 then
                                if (0 : Int) ≤ (IntKind.i64.wrap (r3 + 1)) ∧ ((IntKind.i64.wrap (r3 + 1)) : Int) ≤ p0.2.2.length then
                                  if (([] : List (ByteArray × Int)) ++ (p0.2.2.take (r3 : Int).toNat)).length + (p0.2.2.drop ((IntKind.i64.wrap (r3 + 1)) : Int).toNat).length < room 24 then
                                    some ((p0.1, (p0.2.1, (([] : List (ByteArray × Int)) ++ (p0.2.2.take (r3 : Int).toNat)) ++ (p0.2.2.drop ((IntKind.i64.wrap (r3 + 1)) : Int).toNat))), 0)
                                  else
                                    none
                                else
                                  none
                              else
                                none
                            ) (
                              if (0 : Int) ≤ (IntKind.i64.wrap (r3 + 1)) ∧ ((IntKind.i64.wrap (r3 + 1)) : Int) ≤ p0.2.2.length then
                                if ([] : List (ByteArray × Int)).length + (p0.2.2.take (r3 : Int).toNat).length < room 24 then
                                  if (([] : List (ByteArray × Int)) ++ (p0.2.2.take (r3 : Int).toNat)).length + (p0.2.2.drop ((IntKind.i64.wrap (r3 + 1)) : Int).toNat).length < room 24 then
                                    some ((p0.1, (p0.2.1, (([] : List (ByteArray × Int)) ++ (p0.2.2.take (r3 : Int).toNat)) ++ (p0.2.2.drop ((IntKind.i64.wrap (r3 + 1)) : Int).toNat))), 0)
                                  else
                                    none
                                else
                                  none
                              else
                                none
                            )
                          )
                        ) (
                          agree (
                            if ([] : List (ByteArray × Int)).length + (p0.2.2.take (r3 : Int).toNat).length < room 24 then
                              if (0 : Int) ≤ (IntKind.i64.wrap (r3 + 1)) ∧ ((IntKind.i64.wrap (r3 + 1)) : Int) ≤ p0.2.2.length then
                                if (([] : List (ByteArray × Int)) ++ (p0.2.2.take (r3 : Int).toNat)).length + (p0.2.2.drop ((IntKind.i64.wrap (r3 + 1)) : Int).toNat).length < room 24 then
                                  some ((p0.1, (p0.2.1, (([] : List (ByteArray × Int)) ++ (p0.2.2.take (r3 : Int).toNat)) ++ (p0.2.2.drop ((IntKind.i64.wrap (r3 + 1)) : Int).toNat))), 0)
                                else
                                  none
                              else
                                none
                            else
                              none
                          ) (
                            if (0 : Int) ≤ (IntKind.i64.wrap (r3 + 1)) ∧ ((IntKind.i64.wrap (r3 + 1)) : Int) ≤ p0.2.2.length then
                              if ([] : List (ByteArray × Int)).length + (p0.2.2.take (r3 : Int).toNat).length < room 24 then
                                if (([] : List (ByteArray × Int)) ++ (p0.2.2.take (r3 : Int).toNat)).length + (p0.2.2.drop ((IntKind.i64.wrap (r3 + 1)) : Int).toNat).length < room 24 then
                                  some ((p0.1, (p0.2.1, (([] : List (ByteArray × Int)) ++ (p0.2.2.take (r3 : Int).toNat)) ++ (p0.2.2.drop ((IntKind.i64.wrap (r3 + 1)) : Int).toNat))), 0)
                                else
                                  none
                              else
                                none
                            else
                              none
                          )
                        )
                      )
                    else
                      none
                  ) (
                    if (0 : Int) ≤ (IntKind.i64.wrap (r3 + 1)) ∧ ((IntKind.i64.wrap (r3 + 1)) : Int) ≤ p0.2.2.length then
                      if (0 : Int) ≤ r3 ∧ (r3 : Int) ≤ p0.2.2.length then
                        if ([] : List (ByteArray × Int)).length + (p0.2.2.take (r3 : Int).toNat).length < room 24 then
                          if (([] : List (ByteArray × Int)) ++ (p0.2.2.take (r3 : Int).toNat)).length + (p0.2.2.drop ((IntKind.i64.wrap (r3 + 1)) : Int).toNat).length < room 24 then
                            some ((p0.1, (p0.2.1, (([] : List (ByteArray × Int)) ++ (p0.2.2.take (r3 : Int).toNat)) ++ (p0.2.2.drop ((IntKind.i64.wrap (r3 + 1)) : Int).toNat))), 0)
                          else
                            none
                        else
                          none
                      else
                        none
                    else
                      none
                  )
                )
              )
            ) (
              agree (
                if (0 : Int) ≤ r3 ∧ (r3 : Int) ≤ p0.2.2.length then
                  agree (
                    agree (
                      agree (
                        agree (
                          if ([] : List (ByteArray × Int)).length + (p0.2.2.take (r3 : Int).toNat).length < room 24 then
                            if (0 : Int) ≤ (IntKind.i64.wrap (r3 + 1)) ∧ ((IntKind.i64.wrap (r3 + 1)) : Int) ≤ p0.2.2.length then
                              if (([] : List (ByteArray × Int)) ++ (p0.2.2.take (r3 : Int).toNat)).length + (p0.2.2.drop ((IntKind.i64.wrap (r3 + 1)) : Int).toNat).length < room 24 then
                                some ((p0.1, (p0.2.1, (([] : List (ByteArray × Int)) ++ (p0.2.2.take (r3 : Int).toNat)) ++ (p0.2.2.drop ((IntKind.i64.wrap (r3 + 1)) : Int).toNat))), 0)
                              else
                                none
                            else
                              none
                          else
                            none
                        ) (
                          if (0 : Int) ≤ (IntKind.i64.wrap (r3 + 1)) ∧ ((IntKind.i64.wrap (r3 + 1)) : Int) ≤ p0.2.2.length then
                            if ([] : List (ByteArray × Int)).length + (p0.2.2.take (r3 : Int).toNat).length < room 24 then
                              if (([] : List (ByteArray × Int)) ++ (p0.2.2.take (r3 : Int).toNat)).length + (p0.2.2.drop ((IntKind.i64.wrap (r3 + 1)) : Int).toNat).length < room 24 then
                                some ((p0.1, (p0.2.1, (([] : List (ByteArray × Int)) ++ (p0.2.2.take (r3 : Int).toNat)) ++ (p0.2.2.drop ((IntKind.i64.wrap (r3 + 1)) : Int).toNat))), 0)
                              else
                                none
                            else
                              none
                          else
                            none
                        )
                      ) (
                        if (0 : Int) ≤ (IntKind.i64.wrap (r3 + 1)) ∧ ((IntKind.i64.wrap (r3 + 1)) : Int) ≤ p0.2.2.length then
                          if ([] : List (ByteArray × Int)).length + (p0.2.2.take (r3 : Int).toNat).length < room 24 then
                            if (([] : List (ByteArray × Int)) ++ (p0.2.2.take (r3 : Int).toNat)).length + (p0.2.2.drop ((IntKind.i64.wrap (r3 + 1)) : Int).toNat).length < room 24 then
                              some ((p0.1, (p0.2.1, (([] : List (ByteArray × Int)) ++ (p0.2.2.take (r3 : Int).toNat)) ++ (p0.2.2.drop ((IntKind.i64.wrap (r3 + 1)) : Int).toNat))), 0)
                            else
                              none
                          else
                            none
                        else
                          none
                      )
                    ) (
                      agree (
                        agree (
                          agree (
                            if ([] : List (ByteArray × Int)).length + (p0.2.2.take (r3 : Int).toNat).length < room 24 then
                              if (0 : Int) ≤ (IntKind.i64.wrap (r3 + 1)) ∧ ((IntKind.i64.wrap (r3 + 1)) : Int) ≤ p0.2.2.length then
                                if (([] : List (ByteArray × Int)) ++ (p0.2.2.take (r3 : Int).toNat)).length + (p0.2.2.drop ((IntKind.i64.wrap (r3 + 1)) : Int).toNat).length < room 24 then
                                  some ((p0.1, (p0.2.1, (([] : List (ByteArray × Int)) ++ (p0.2.2.take (r3 : Int).toNat)) ++ (p0.2.2.drop ((IntKind.i64.wrap (r3 + 1)) : Int).toNat))), 0)
                                else
                                  none
                              else
                                none
                            else
                              none
                          ) (
                            if (0 : Int) ≤ (IntKind.i64.wrap (r3 + 1)) ∧ ((IntKind.i64.wrap (r3 + 1)) : Int) ≤ p0.2.2.length then
                              if ([] : List (ByteArray × Int)).length + (p0.2.2.take (r3 : Int).toNat).length < room 24 then
                                if (([] : List (ByteArray × Int)) ++ (p0.2.2.take (r3 : Int).toNat)).length + (p0.2.2.drop ((IntKind.i64.wrap (r3 + 1)) : Int).toNat).length < room 24 then
                                  some ((p0.1, (p0.2.1, (([] : List (ByteArray × Int)) ++ (p0.2.2.take (r3 : Int).toNat)) ++ (p0.2.2.drop ((IntKind.i64.wrap (r3 + 1)) : Int).toNat))), 0)
                                else
                                  none
                              else
                                none
                            else
                              none
                          )
                        ) (
                          agree (
                            if ([] : List (ByteArray × Int)).length + (p0.2.2.take (r3 : Int).toNat).length < room 24 then
                              if (0 : Int) ≤ (IntKind.i64.wrap (r3 + 1)) ∧ ((IntKind.i64.wrap (r3 + 1)) : Int) ≤ p0.2.2.length then
                                if (([] : List (ByteArray × Int)) ++ (p0.2.2.take (r3 : Int).toNat)).length + (p0.2.2.drop ((IntKind.i64.wrap (r3 + 1)) : Int).toNat).length < room 24 then
                                  some ((p0.1, (p0.2.1, (([] : List (ByteArray × Int)) ++ (p0.2.2.take (r3 : Int).toNat)) ++ (p0.2.2.drop ((IntKind.i64.wrap (r3 + 1)) : Int).toNat))), 0)
                                else
                                  none
                              else
                                none
                            else
                              none
                          ) (
                            if (0 : Int) ≤ (IntKind.i64.wrap (r3 + 1)) ∧ ((IntKind.i64.wrap (r3 + 1)) : Int) ≤ p0.2.2.length then
                              if ([] : List (ByteArray × Int)).length + (p0.2.2.take (r3 : Int).toNat).length < room 24 then
                                if (([] : List (ByteArray × Int)) ++ (p0.2.2.take (r3 : Int).toNat)).length + (p0.2.2.drop ((IntKind.i64.wrap (r3 + 1)) : Int).toNat).length < room 24 then
                                  some ((p0.1, (p0.2.1, (([] : List (ByteArray × Int)) ++ (p0.2.2.take (r3 : Int).toNat)) ++ (p0.2.2.drop ((IntKind.i64.wrap (r3 + 1)) : Int).toNat))), 0)
                                else
                                  none
                              else
                                none
                            else
                              none
                          )
                        )
                      ) (
                        if (0 : Int) ≤ (IntKind.i64.wrap (r3 + 1)) ∧ ((IntKind.i64.wrap (r3 + 1)) : Int) ≤ p0.2.2.length then
                          if ([] : List (ByteArray × Int)).length + (p0.2.2.take (r3 : Int).toNat).length < room 24 then
                            if (([] : List (ByteArray × Int)) ++ (p0.2.2.take (r3 : Int).toNat)).length + (p0.2.2.drop ((IntKind.i64.wrap (r3 + 1)) : Int).toNat).length < room 24 then
                              some ((p0.1, (p0.2.1, (([] : List (ByteArray × Int)) ++ (p0.2.2.take (r3 : Int).toNat)) ++ (p0.2.2.drop ((IntKind.i64.wrap (r3 + 1)) : Int).toNat))), 0)
                            else
                              none
                          else
                            none
                        else
                          none
                      )
                    )
                  ) (
                    agree (
                      agree (
                        agree (
                          agree (
                            if ([] : List (ByteArray × Int)).length + (p0.2.2.take (r3 : Int).toNat).length < room 24 then
                              if (0 : Int) ≤ (IntKind.i64.wrap (r3 + 1)) ∧ ((IntKind.i64.wrap (r3 + 1)) : Int) ≤ p0.2.2.length then
                                if (([] : List (ByteArray × Int)) ++ (p0.2.2.take (r3 : Int).toNat)).length + (p0.2.2.drop ((IntKind.i64.wrap (r3 + 1)) : Int).toNat).length < room 24 then
                                  some ((p0.1, (p0.2.1, (([] : List (ByteArray × Int)) ++ (p0.2.2.take (r3 : Int).toNat)) ++ (p0.2.2.drop ((IntKind.i64.wrap (r3 + 1)) : Int).toNat))), 0)
                                else
                                  none
                              else
                                none
                            else
                              none
                          ) (
                            if (0 : Int) ≤ (IntKind.i64.wrap (r3 + 1)) ∧ ((IntKind.i64.wrap (r3 + 1)) : Int) ≤ p0.2.2.length then
                              if ([] : List (ByteArray × Int)).length + (p0.2.2.take (r3 : Int).toNat).length < room 24 then
                                if (([] : List (ByteArray × Int)) ++ (p0.2.2.take (r3 : Int).toNat)).length + (p0.2.2.drop ((IntKind.i64.wrap (r3 + 1)) : Int).toNat).length < room 24 then
                                  some ((p0.1, (p0.2.1, (([] : List (ByteArray × Int)) ++ (p0.2.2.take (r3 : Int).toNat)) ++ (p0.2.2.drop ((IntKind.i64.wrap (r3 + 1)) : Int).toNat))), 0)
                                else
                                  none
                              else
                                none
                            else
                              none
                          )
                        ) (
                          if (0 : Int) ≤ (IntKind.i64.wrap (r3 + 1)) ∧ ((IntKind.i64.wrap (r3 + 1)) : Int) ≤ p0.2.2.length then
                            if ([] : List (ByteArray × Int)).length + (p0.2.2.take (r3 : Int).toNat).length < room 24 then
                              if (([] : List (ByteArray × Int)) ++ (p0.2.2.take (r3 : Int).toNat)).length + (p0.2.2.drop ((IntKind.i64.wrap (r3 + 1)) : Int).toNat).length < room 24 then
                                some ((p0.1, (p0.2.1, (([] : List (ByteArray × Int)) ++ (p0.2.2.take (r3 : Int).toNat)) ++ (p0.2.2.drop ((IntKind.i64.wrap (r3 + 1)) : Int).toNat))), 0)
                              else
                                none
                            else
                              none
                          else
                            none
                        )
                      ) (
                        agree (
                          agree (
                            agree (
                              if ([] : List (ByteArray × Int)).length + (p0.2.2.take (r3 : Int).toNat).length < room 24 then
                                if (0 : Int) ≤ (IntKind.i64.wrap (r3 + 1)) ∧ ((IntKind.i64.wrap (r3 + 1)) : Int) ≤ p0.2.2.length then
                                  if (([] : List (ByteArray × Int)) ++ (p0.2.2.take (r3 : Int).toNat)).length + (p0.2.2.drop ((IntKind.i64.wrap (r3 + 1)) : Int).toNat).length < room 24 then
                                    some ((p0.1, (p0.2.1, (([] : List (ByteArray × Int)) ++ (p0.2.2.take (r3 : Int).toNat)) ++ (p0.2.2.drop ((IntKind.i64.wrap (r3 + 1)) : Int).toNat))), 0)
                                  else
                                    none
                                else
                                  none
                              else
                                none
                            ) (
                              if (0 : Int) ≤ (IntKind.i64.wrap (r3 + 1)) ∧ ((IntKind.i64.wrap (r3 + 1)) : Int) ≤ p0.2.2.length then
                                if ([] : List (ByteArray × Int)).length + (p0.2.2.take (r3 : Int).toNat).length < room 24 then
                                  if (([] : List (ByteArray × Int)) ++ (p0.2.2.take (r3 : Int).toNat)).length + (p0.2.2.drop ((IntKind.i64.wrap (r3 + 1)) : Int).toNat).length < room 24 then
                                    some ((p0.1, (p0.2.1, (([] : List (ByteArray × Int)) ++ (p0.2.2.take (r3 : Int).toNat)) ++ (p0.2.2.drop ((IntKind.i64.wrap (r3 + 1)) : Int).toNat))), 0)
                                  else
                                    none
                                else
                                  none
                              else
                                none
                            )
                          ) (
                            agree (
                              if ([] : List (ByteArray × Int)).length + (p0.2.2.take (r3 : Int).toNat).length < room 24 then
                                if (0 : Int) ≤ (IntKind.i64.wrap (r3 + 1)) ∧ ((IntKind.i64.wrap (r3 + 1)) : Int) ≤ p0.2.2.length then
                                  if (([] : List (ByteArray × Int)) ++ (p0.2.2.take (r3 : Int).toNat)).length + (p0.2.2.drop ((IntKind.i64.wrap (r3 + 1)) : Int).toNat).length < room 24 then
                                    some ((p0.1, (p0.2.1, (([] : List (ByteArray × Int)) ++ (p0.2.2.take (r3 : Int).toNat)) ++ (p0.2.2.drop ((IntKind.i64.wrap (r3 + 1)) : Int).toNat))), 0)
                                  else
                                    none
                                else
                                  none
                              else
                                none
                            ) (
                              if (0 : Int) ≤ (IntKind.i64.wrap (r3 + 1)) ∧ ((IntKind.i64.wrap (r3 + 1)) : Int) ≤ p0.2.2.length then
                                if ([] : List (ByteArray × Int)).length + (p0.2.2.take (r3 : Int).toNat).length < room 24 then
                                  if (([] : List (ByteArray × Int)) ++ (p0.2.2.take (r3 : Int).toNat)).length + (p0.2.2.drop ((IntKind.i64.wrap (r3 + 1)) : Int).toNat).length < room 24 then
                                    some ((p0.1, (p0.2.1, (([] : List (ByteArray × Int)) ++ (p0.2.2.take (r3 : Int).toNat)) ++ (p0.2.2.drop ((IntKind.i64.wrap (r3 + 1)) : Int).toNat))), 0)
                                  else
                                    none
                                else
                                  none
                              else
                                none
                            )
                          )
                        ) (
                          if (0 : Int) ≤ (IntKind.i64.wrap (r3 + 1)) ∧ ((IntKind.i64.wrap (r3 + 1)) : Int) ≤ p0.2.2.length then
                            if ([] : List (ByteArray × Int)).length + (p0.2.2.take (r3 : Int).toNat).length < room 24 then
                              if (([] : List (ByteArray × Int)) ++ (p0.2.2.take (r3 : Int).toNat)).length + (p0.2.2.drop ((IntKind.i64.wrap (r3 + 1)) : Int).toNat).length < room 24 then
                                some ((p0.1, (p0.2.1, (([] : List (ByteArray × Int)) ++ (p0.2.2.take (r3 : Int).toNat)) ++ (p0.2.2.drop ((IntKind.i64.wrap (r3 + 1)) : Int).toNat))), 0)
                              else
                                none
                            else
                              none
                          else
                            none
                        )
                      )
                    ) (
                      agree (
                        agree (
                          agree (
                            agree (
                              if ([] : List (ByteArray × Int)).length + (p0.2.2.take (r3 : Int).toNat).length < room 24 then
                                if (0 : Int) ≤ (IntKind.i64.wrap (r3 + 1)) ∧ ((IntKind.i64.wrap (r3 + 1)) : Int) ≤ p0.2.2.length then
                                  if (([] : List (ByteArray × Int)) ++ (p0.2.2.take (r3 : Int).toNat)).length + (p0.2.2.drop ((IntKind.i64.wrap (r3 + 1)) : Int).toNat).length < room 24 then
                                    some ((p0.1, (p0.2.1, (([] : List (ByteArray × Int)) ++ (p0.2.2.take (r3 : Int).toNat)) ++ (p0.2.2.drop ((IntKind.i64.wrap (r3 + 1)) : Int).toNat))), 0)
                                  else
                                    none
                                else
                                  none
                              else
                                none
                            ) (
                              if (0 : Int) ≤ (IntKind.i64.wrap (r3 + 1)) ∧ ((IntKind.i64.wrap (r3 + 1)) : Int) ≤ p0.2.2.length then
                                if ([] : List (ByteArray × Int)).length + (p0.2.2.take (r3 : Int).toNat).length < room 24 then
                                  if (([] : List (ByteArray × Int)) ++ (p0.2.2.take (r3 : Int).toNat)).length + (p0.2.2.drop ((IntKind.i64.wrap (r3 + 1)) : Int).toNat).length < room 24 then
                                    some ((p0.1, (p0.2.1, (([] : List (ByteArray × Int)) ++ (p0.2.2.take (r3 : Int).toNat)) ++ (p0.2.2.drop ((IntKind.i64.wrap (r3 + 1)) : Int).toNat))), 0)
                                  else
                                    none
                                else
                                  none
                              else
                                none
                            )
                          ) (
                            agree (
                              if ([] : List (ByteArray × Int)).length + (p0.2.2.take (r3 : Int).toNat).length < room 24 then
                                if (0 : Int) ≤ (IntKind.i64.wrap (r3 + 1)) ∧ ((IntKind.i64.wrap (r3 + 1)) : Int) ≤ p0.2.2.length then
                                  if (([] : List (ByteArray × Int)) ++ (p0.2.2.take (r3 : Int).toNat)).length + (p0.2.2.drop ((IntKind.i64.wrap (r3 + 1)) : Int).toNat).length < room 24 then
                                    some ((p0.1, (p0.2.1, (([] : List (ByteArray × Int)) ++ (p0.2.2.take (r3 : Int).toNat)) ++ (p0.2.2.drop ((IntKind.i64.wrap (r3 + 1)) : Int).toNat))), 0)
                                  else
                                    none
                                else
                                  none
                              else
                                none
                            ) (
                              if (0 : Int) ≤ (IntKind.i64.wrap (r3 + 1)) ∧ ((IntKind.i64.wrap (r3 + 1)) : Int) ≤ p0.2.2.length then
                                if ([] : List (ByteArray × Int)).length + (p0.2.2.take (r3 : Int).toNat).length < room 24 then
                                  if (([] : List (ByteArray × Int)) ++ (p0.2.2.take (r3 : Int).toNat)).length + (p0.2.2.drop ((IntKind.i64.wrap (r3 + 1)) : Int).toNat).length < room 24 then
                                    some ((p0.1, (p0.2.1, (([] : List (ByteArray × Int)) ++ (p0.2.2.take (r3 : Int).toNat)) ++ (p0.2.2.drop ((IntKind.i64.wrap (r3 + 1)) : Int).toNat))), 0)
                                  else
                                    none
                                else
                                  none
                              else
                                none
                            )
                          )
                        ) (
                          agree (
                            agree (
                              agree (
                                if ([] : List (ByteArray × Int)).length + (p0.2.2.take (r3 : Int).toNat).length < room 24 then
                                  if (0 : Int) ≤ (IntKind.i64.wrap (r3 + 1)) ∧ ((IntKind.i64.wrap (r3 + 1)) : Int) ≤ p0.2.2.length then
                                    if (([] : List (ByteArray × Int)) ++ (p0.2.2.take (r3 : Int).toNat)).length + (p0.2.2.drop ((IntKind.i64.wrap (r3 + 1)) : Int).toNat).length < room 24 then
                                      some ((p0.1, (p0.2.1, (([] : List (ByteArray × Int)) ++ (p0.2.2.take (r3 : Int).toNat)) ++ (p0.2.2.drop ((IntKind.i64.wrap (r3 + 1)) : Int).toNat))), 0)
                                    else
                                      none
                                  else
                                    none
                                else
                                  none
                              ) (
                                if (0 : Int) ≤ (IntKind.i64.wrap (r3 + 1)) ∧ ((IntKind.i64.wrap (r3 + 1)) : Int) ≤ p0.2.2.length then
                                  if ([] : List (ByteArray × Int)).length + (p0.2.2.take (r3 : Int).toNat).length < room 24 then
                                    if (([] : List (ByteArray × Int)) ++ (p0.2.2.take (r3 : Int).toNat)).length + (p0.2.2.drop ((IntKind.i64.wrap (r3 + 1)) : Int).toNat).length < room 24 then
                                      some ((p0.1, (p0.2.1, (([] : List (ByteArray × Int)) ++ (p0.2.2.take (r3 : Int).toNat)) ++ (p0.2.2.drop ((IntKind.i64.wrap (r3 + 1)) : Int).toNat))), 0)
                                    else
                                      none
                                  else
                                    none
                                else
                                  none
                              )
                            ) (
                              agree (
                                if ([] : List (ByteArray × Int)).length + (p0.2.2.take (r3 : Int).toNat).length < room 24 then
                                  if (0 : Int) ≤ (IntKind.i64.wrap (r3 + 1)) ∧ ((IntKind.i64.wrap (r3 + 1)) : Int) ≤ p0.2.2.length then
                                    if (([] : List (ByteArray × Int)) ++ (p0.2.2.take (r3 : Int).toNat)).length + (p0.2.2.drop ((IntKind.i64.wrap (r3 + 1)) : Int).toNat).length < room 24 then
                                      some ((p0.1, (p0.2.1, (([] : List (ByteArray × Int)) ++ (p0.2.2.take (r3 : Int).toNat)) ++ (p0.2.2.drop ((IntKind.i64.wrap (r3 + 1)) : Int).toNat))), 0)
                                    else
                                      none
                                  else
                                    none
                                else
                                  none
                              ) (
                                if (0 : Int) ≤ (IntKind.i64.wrap (r3 + 1)) ∧ ((IntKind.i64.wrap (r3 + 1)) : Int) ≤ p0.2.2.length then
                                  if ([] : List (ByteArray × Int)).length + (p0.2.2.take (r3 : Int).toNat).length < room 24 then
                                    if (([] : List (ByteArray × Int)) ++ (p0.2.2.take (r3 : Int).toNat)).length + (p0.2.2.drop ((IntKind.i64.wrap (r3 + 1)) : Int).toNat).length < room 24 then
                                      some ((p0.1, (p0.2.1, (([] : List (ByteArray × Int)) ++ (p0.2.2.take (r3 : Int).toNat)) ++ (p0.2.2.drop ((IntKind.i64.wrap (r3 + 1)) : Int).toNat))), 0)
                                    else
                                      none
                                  else
                                    none
                                else
                                  none
                              )
                            )
                          ) (
                            agree (
                              if ([] : List (ByteArray × Int)).length + (p0.2.2.take (r3 : Int).toNat).length < room 24 then
                                if (0 : Int) ≤ (IntKind.i64.wrap (r3 + 1)) ∧ ((IntKind.i64.wrap (r3 + 1)) : Int) ≤ p0.2.2.length then
                                  if (([] : List (ByteArray × Int)) ++ (p0.2.2.take (r3 : Int).toNat)).length + (p0.2.2.drop ((IntKind.i64.wrap (r3 + 1)) : Int).toNat).length < room 24 then
                                    some ((p0.1, (p0.2.1, (([] : List (ByteArray × Int)) ++ (p0.2.2.take (r3 : Int).toNat)) ++ (p0.2.2.drop ((IntKind.i64.wrap (r3 + 1)) : Int).toNat))), 0)
                                  else
                                    none
                                else
                                  none
                              else
                                none
                            ) (
                              if (0 : Int) ≤ (IntKind.i64.wrap (r3 + 1)) ∧ ((IntKind.i64.wrap (r3 + 1)) : Int) ≤ p0.2.2.length then
                                if ([] : List (ByteArray × Int)).length + (p0.2.2.take (r3 : Int).toNat).length < room 24 then
                                  if (([] : List (ByteArray × Int)) ++ (p0.2.2.take (r3 : Int).toNat)).length + (p0.2.2.drop ((IntKind.i64.wrap (r3 + 1)) : Int).toNat).length < room 24 then
                                    some ((p0.1, (p0.2.1, (([] : List (ByteArray × Int)) ++ (p0.2.2.take (r3 : Int).toNat)) ++ (p0.2.2.drop ((IntKind.i64.wrap (r3 + 1)) : Int).toNat))), 0)
                                  else
                                    none
                                else
                                  none
                              else
                                none
                            )
                          )
                        )
                      ) (
                        if (0 : Int) ≤ (IntKind.i64.wrap (r3 + 1)) ∧ ((IntKind.i64.wrap (r3 + 1)) : Int) ≤ p0.2.2.length then
                          if ([] : List (ByteArray × Int)).length + (p0.2.2.take (r3 : Int).toNat).length < room 24 then
                            if (([] : List (ByteArray × Int)) ++ (p0.2.2.take (r3 : Int).toNat)).length + (p0.2.2.drop ((IntKind.i64.wrap (r3 + 1)) : Int).toNat).length < room 24 then
                              some ((p0.1, (p0.2.1, (([] : List (ByteArray × Int)) ++ (p0.2.2.take (r3 : Int).toNat)) ++ (p0.2.2.drop ((IntKind.i64.wrap (r3 + 1)) : Int).toNat))), 0)
                            else
                              none
                          else
                            none
                        else
                          none
                      )
                    )
                  )
                else
                  none
              ) (
                if (0 : Int) ≤ (IntKind.i64.wrap (r3 + 1)) ∧ ((IntKind.i64.wrap (r3 + 1)) : Int) ≤ p0.2.2.length then
                  if (0 : Int) ≤ r3 ∧ (r3 : Int) ≤ p0.2.2.length then
                    if ([] : List (ByteArray × Int)).length + (p0.2.2.take (r3 : Int).toNat).length < room 24 then
                      if (([] : List (ByteArray × Int)) ++ (p0.2.2.take (r3 : Int).toNat)).length + (p0.2.2.drop ((IntKind.i64.wrap (r3 + 1)) : Int).toNat).length < room 24 then
                        some ((p0.1, (p0.2.1, (([] : List (ByteArray × Int)) ++ (p0.2.2.take (r3 : Int).toNat)) ++ (p0.2.2.drop ((IntKind.i64.wrap (r3 + 1)) : Int).toNat))), 0)
                      else
                        none
                    else
                      none
                  else
                    none
                else
                  none
              )
            )
          )
        )
  else
    some ((ByteArray.empty, (0, [])), 1)
def spec_CutLine.fn (n : Nat) (p0 : ByteArray × Int × List (ByteArray × Int)) (article1 : ByteArray) : Option ((ByteArray × Int × List (ByteArray × Int)) × Int) := spec_CutLine.top p0 article1
def spec_CutLine.f (p0 : ByteArray × Int × List (ByteArray × Int)) (article1 : ByteArray) : Option ((ByteArray × Int × List (ByteArray × Int)) × Int) := spec_CutLine.fn NN p0 article1
end
end Go.Pl

namespace Go.Pl
open Go.Ev
set_option linter.unusedVariables false
noncomputable section
def spec_l01From.g3 (L3 : List Int → Int → List Int → Int → Int → Option (List Int × Int × Int)) (code0 : List Int) (i4 : Int) (s3a : List Int) (s3ba : Int) (s3bb : Int) : Option (List Int × Int × Int) :=
  if (decide ((i4 : Int) < (code0.length : Int))) = true then
    if (decide ((i4 : Int) < 64)) = true then
      if (0 : Int) ≤ i4 ∧ (i4 : Int) < code0.length then
        L3 code0 (IntKind.i64.wrap (i4 + 1)) s3a s3ba (Int.tmod (IntKind.i64.wrap ((IntKind.i64.wrap (s3bb * 83)) + (IntKind.i64.wrap (code0.getD (i4 : Int).toNat 0)))) 2147483647)
      else
        none
    else
      some (s3a, (s3ba, s3bb))
  else
    some (s3a, (s3ba, s3bb))
def spec_l01From.l3 (n : Nat) : Nat → List Int → Int → List Int → Int → Int → Option (List Int × Int × Int)
  | 0 => fun _ _ _ _ _ => none
  | k + 1 => spec_l01From.g3 (spec_l01From.l3 n k)
def spec_l01From.top (I3 : List Int → Int → List Int → Int → Int → Option (List Int × Int × Int)) (code0 : List Int) : Option (List Int × Int × Int) :=
  I3 code0 0 code0 0 61043
def spec_l01From.fn (n : Nat) (code0 : List Int) : Option (List Int × Int × Int) := spec_l01From.top (spec_l01From.l3 n n) code0
def spec_l01From.f (code0 : List Int) : Option (List Int × Int × Int) := spec_l01From.fn NN code0
end
end Go.Pl

namespace Go.Pl
open Go.Ev
set_option linter.unusedVariables false
noncomputable section
def spec_l01Next.top (s0 : List Int × Int × Int) (n1 : Int) : Option (Int × List Int × Int × Int) :=
  if (decide ((n1 : Int) ≤ 1)) = true then
    some (0, s0)
  else if (decide ((s0.2.1 : Int) < (s0.1.length : Int))) = true then
    if (0 : Int) ≤ s0.2.1 ∧ (s0.2.1 : Int) < s0.1.length then
      if (decide ((n1 : Int) ≤ 256)) = true then
        if (((Int.tmod (IntKind.i64.wrap (s0.2.1 + 1)) 2) : Int) == 0) = true then
          if (0 : Int) ≤ (IntKind.i64.wrap ((IntKind.i64.wrap (s0.2.1 + 1)) - 1)) ∧ ((IntKind.i64.wrap ((IntKind.i64.wrap (s0.2.1 + 1)) - 1)) : Int) < s0.1.length then
            if n1 = 0 then
              none
            else
              some (Int.tmod (IntKind.i64.wrap (s0.1.getD ((IntKind.i64.wrap ((IntKind.i64.wrap (s0.2.1 + 1)) - 1)) : Int).toNat 0)) n1, (s0.1, (IntKind.i64.wrap (s0.2.1 + 1), Int.tmod (IntKind.i64.wrap ((IntKind.i64.wrap (s0.2.2 * 48271)) + 29)) 2147483647)))
          else
            none
        else if n1 = 0 then
          none
        else
          some (Int.tmod (IntKind.i64.wrap ((IntKind.i64.wrap (Int.tdiv (Int.tmod (IntKind.i64.wrap ((IntKind.i64.wrap (s0.2.2 * 48271)) + 29)) 2147483647) 31)) + (IntKind.i64.wrap (s0.1.getD (s0.2.1 : Int).toNat 0)))) n1, (s0.1, (IntKind.i64.wrap (s0.2.1 + 1), Int.tmod (IntKind.i64.wrap ((IntKind.i64.wrap (s0.2.2 * 48271)) + 29)) 2147483647)))
      else if n1 = 0 then
        none
      else
        some (Int.tmod (IntKind.i64.wrap ((IntKind.i64.wrap (Int.tdiv (Int.tmod (IntKind.i64.wrap ((IntKind.i64.wrap (s0.2.2 * 48271)) + 29)) 2147483647) 31)) + (IntKind.i64.wrap (s0.1.getD (s0.2.1 : Int).toNat 0)))) n1, (s0.1, (IntKind.i64.wrap (s0.2.1 + 1), Int.tmod (IntKind.i64.wrap ((IntKind.i64.wrap (s0.2.2 * 48271)) + 29)) 2147483647)))
    else
      none
  else if n1 = 0 then
    none
  else
    some (Int.tmod (IntKind.i64.wrap (Int.tdiv (Int.tmod (IntKind.i64.wrap ((IntKind.i64.wrap (s0.2.2 * 48271)) + 29)) 2147483647) 31)) n1, (s0.1, (s0.2.1, Int.tmod (IntKind.i64.wrap ((IntKind.i64.wrap (s0.2.2 * 48271)) + 29)) 2147483647)))
def spec_l01Next.fn (n : Nat) (s0 : List Int × Int × Int) (n1 : Int) : Option (Int × List Int × Int × Int) := spec_l01Next.top s0 n1
def spec_l01Next.f (s0 : List Int × Int × Int) (n1 : Int) : Option (Int × List Int × Int × Int) := spec_l01Next.fn NN s0 n1
end
end Go.Pl

namespace Go.Pl
open Go.Ev
set_option linter.unusedVariables false
noncomputable section
def spec_l01Good.top (s0 : List Int × Int × Int) : Option (ByteArray × List Int × Int × Int) :=
  (spec_l01Next.f s0 12).bind fun r1 =>
  if (0 : Int) ≤ r1.1 ∧ (r1.1 : Int) < ([(⟨#[97, 100, 97]⟩ : ByteArray), (⟨#[98, 114, 117, 110, 111]⟩ : ByteArray), (⟨#[99, 108, 97, 114, 97]⟩ : ByteArray), (⟨#[100, 111, 114, 97]⟩ : ByteArray), (⟨#[101, 109, 105, 108]⟩ : ByteArray), (⟨#[102, 114, 105, 100, 97]⟩ : ByteArray), (⟨#[103, 117, 115, 116, 97, 118]⟩ : ByteArray), (⟨#[104, 97, 110, 110, 97]⟩ : ByteArray), (⟨#[105, 118, 97, 110]⟩ : ByteArray), (⟨#[106, 97, 110, 97]⟩ : ByteArray), (⟨#[107, 97, 114, 108]⟩ : ByteArray), (⟨#[108, 101, 110, 97]⟩ : ByteArray)]).length then
    some (([(⟨#[97, 100, 97]⟩ : ByteArray), (⟨#[98, 114, 117, 110, 111]⟩ : ByteArray), (⟨#[99, 108, 97, 114, 97]⟩ : ByteArray), (⟨#[100, 111, 114, 97]⟩ : ByteArray), (⟨#[101, 109, 105, 108]⟩ : ByteArray), (⟨#[102, 114, 105, 100, 97]⟩ : ByteArray), (⟨#[103, 117, 115, 116, 97, 118]⟩ : ByteArray), (⟨#[104, 97, 110, 110, 97]⟩ : ByteArray), (⟨#[105, 118, 97, 110]⟩ : ByteArray), (⟨#[106, 97, 110, 97]⟩ : ByteArray), (⟨#[107, 97, 114, 108]⟩ : ByteArray), (⟨#[108, 101, 110, 97]⟩ : ByteArray)]).getD (r1.1 : Int).toNat ByteArray.empty, r1.2)
  else
    none
def spec_l01Good.fn (n : Nat) (s0 : List Int × Int × Int) : Option (ByteArray × List Int × Int × Int) := spec_l01Good.top s0
def spec_l01Good.f (s0 : List Int × Int × Int) : Option (ByteArray × List Int × Int × Int) := spec_l01Good.fn NN s0
end
end Go.Pl

namespace Go.Pl
open Go.Ev
set_option linter.unusedVariables false
noncomputable section
def spec_l01DrawWord.top (s0 : List Int × Int × Int) : Option (ByteArray × List Int × Int × Int) :=
  (spec_l01Next.f s0 24).bind fun r1 =>
  if ((r1.1 : Int) == 0) = true then
    (spec_l01Next.f r1.2 6).bind fun r2 =>
    if (0 : Int) ≤ r2.1 ∧ (r2.1 : Int) < ([(⟨#[]⟩ : ByteArray), (⟨#[65, 100, 97]⟩ : ByteArray), (⟨#[97, 49]⟩ : ByteArray), (⟨#[97, 98, 99, 100, 101, 102, 103, 104, 105, 106, 107, 108, 109, 110, 111, 112]⟩ : ByteArray), (⟨#[97, 98, 99, 100, 101, 102, 103, 104, 105, 106, 107, 108, 109, 110, 111, 112, 113]⟩ : ByteArray), (⟨#[97, 32, 98]⟩ : ByteArray)]).length then
      some (([(⟨#[]⟩ : ByteArray), (⟨#[65, 100, 97]⟩ : ByteArray), (⟨#[97, 49]⟩ : ByteArray), (⟨#[97, 98, 99, 100, 101, 102, 103, 104, 105, 106, 107, 108, 109, 110, 111, 112]⟩ : ByteArray), (⟨#[97, 98, 99, 100, 101, 102, 103, 104, 105, 106, 107, 108, 109, 110, 111, 112, 113]⟩ : ByteArray), (⟨#[97, 32, 98]⟩ : ByteArray)]).getD (r2.1 : Int).toNat ByteArray.empty, r2.2)
    else
      none
  else
    (spec_l01Good.f r1.2).bind fun r3 =>
    some (r3.1, r3.2)
def spec_l01DrawWord.fn (n : Nat) (s0 : List Int × Int × Int) : Option (ByteArray × List Int × Int × Int) := spec_l01DrawWord.top s0
def spec_l01DrawWord.f (s0 : List Int × Int × Int) : Option (ByteArray × List Int × Int × Int) := spec_l01DrawWord.fn NN s0
end
end Go.Pl

namespace Go.Pl
open Go.Ev
set_option linter.unusedVariables false
noncomputable section
def spec_l01Pick.top (s0 : List Int × Int × Int) (list1 : List Int) : Option (Int × List Int × Int × Int) :=
  (spec_l01Next.f s0 (list1.length : Int)).bind fun r1 =>
  if (0 : Int) ≤ r1.1 ∧ (r1.1 : Int) < list1.length then
    some (list1.getD (r1.1 : Int).toNat 0, r1.2)
  else
    none
def spec_l01Pick.fn (n : Nat) (s0 : List Int × Int × Int) (list1 : List Int) : Option (Int × List Int × Int × Int) := spec_l01Pick.top s0 list1
def spec_l01Pick.f (s0 : List Int × Int × Int) (list1 : List Int) : Option (Int × List Int × Int × Int) := spec_l01Pick.fn NN s0 list1
end
end Go.Pl

namespace Go.Pl
open Go.Ev
set_option linter.unusedVariables false
noncomputable section
def spec_l03Good.top (s0 : List Int × Int × Int) (name1 : ByteArray) : Option ((ByteArray × Int × Int × Int × Int × Int × Int × Int × Int) × List Int × Int × Int) :=
  (spec_l01Next.f s0 4).bind fun r1 =>
  (spec_l01Next.f r1.2 281).bind fun r2 =>
  (spec_l01Pick.f r2.2 ([50, 75, 100, 150, IntKind.i64.wrap (20 + r2.1)])).bind fun r3 =>
  (spec_l01Next.f r3.2 5000).bind fun r4 =>
  (spec_l01Next.f r4.2 300).bind fun r5 =>
  (spec_l01Next.f r5.2 2000).bind fun r6 =>
  (spec_l01Next.f r6.2 4).bind fun r7 =>
  if ((r1.1 : Int) == 1) = true then
    (spec_l01Next.f r7.2 8).bind fun r8 =>
    (spec_l01Next.f r8.2 2000).bind fun r9 =>
    if ((r1.1 : Int) == 2) = true then
      some ((name1, (r1.1, (r3.1, (0, (0, (IntKind.i64.wrap (1 + r8.1), (IntKind.i64.wrap (500 + r9.1), (IntKind.i64.wrap (50 + r6.1), r7.1)))))))), r9.2)
    else
      some ((name1, (r1.1, (r3.1, (IntKind.i64.wrap (1000 + r4.1), (r5.1, (IntKind.i64.wrap (1 + r8.1), (IntKind.i64.wrap (500 + r9.1), (IntKind.i64.wrap (50 + r6.1), r7.1)))))))), r9.2)
  else if ((r1.1 : Int) == 2) = true then
    some ((name1, (r1.1, (r3.1, (0, (0, (1, (0, (IntKind.i64.wrap (50 + r6.1), r7.1)))))))), r7.2)
  else
    some ((name1, (r1.1, (r3.1, (IntKind.i64.wrap (1000 + r4.1), (r5.1, (1, (0, (IntKind.i64.wrap (50 + r6.1), r7.1)))))))), r7.2)
def spec_l03Good.fn (n : Nat) (s0 : List Int × Int × Int) (name1 : ByteArray) : Option ((ByteArray × Int × Int × Int × Int × Int × Int × Int × Int) × List Int × Int × Int) := spec_l03Good.top s0 name1
def spec_l03Good.f (s0 : List Int × Int × Int) (name1 : ByteArray) : Option ((ByteArray × Int × Int × Int × Int × Int × Int × Int × Int) × List Int × Int × Int) := spec_l03Good.fn NN s0 name1
end
end Go.Pl

namespace Go.Pl
open Go.Ev
set_option linter.unusedVariables false
noncomputable section
def spec_l03Draw.top (s0 : List Int × Int × Int) (name1 : ByteArray) : Option ((ByteArray × Int × Int × Int × Int × Int × Int × Int × Int) × List Int × Int × Int) :=
  (spec_l03Good.f s0 name1).bind fun r1 =>
  (spec_l01Next.f r1.2 60).bind fun r2 =>
  if ((r2.1 : Int) == 0) = true then
    (spec_l01Pick.f r2.2 ([19, 20, 300, 301])).bind fun r3 =>
    some ((r1.1.1, (r1.1.2.1, (r3.1, r1.1.2.2.2))), r3.2)
  else if ((r2.1 : Int) == 1) = true then
    (spec_l01Pick.f r2.2 ([r1.1.2.2.2.1, IntKind.i64.wrap (r1.1.2.2.2.1 + 1), (-1)])).bind fun r4 =>
    some ((r1.1.1, (r1.1.2.1, (r1.1.2.2.1, (r1.1.2.2.2.1, (r4.1, r1.1.2.2.2.2.2))))), r4.2)
  else if ((r2.1 : Int) == 2) = true then
    (spec_l01Pick.f r2.2 ([0, 50, 51])).bind fun r5 =>
    some ((r1.1.1, (r1.1.2.1, (r1.1.2.2.1, (r1.1.2.2.2.1, (r1.1.2.2.2.2.1, (r5.1, r1.1.2.2.2.2.2.2)))))), r5.2)
  else if ((r2.1 : Int) == 3) = true then
    (spec_l01DrawWord.f r2.2).bind fun r6 =>
    some ((r6.1, r1.1.2), r6.2)
  else if ((r2.1 : Int) == 4) = true then
    (spec_l01Pick.f r2.2 ([0, 100000, 100001])).bind fun r7 =>
    some ((r1.1.1, (r1.1.2.1, (r1.1.2.2.1, (r1.1.2.2.2.1, (r1.1.2.2.2.2.1, (r1.1.2.2.2.2.2.1, (r1.1.2.2.2.2.2.2.1, (r7.1, r1.1.2.2.2.2.2.2.2.2)))))))), r7.2)
  else
    some (r1.1, r2.2)
def spec_l03Draw.fn (n : Nat) (s0 : List Int × Int × Int) (name1 : ByteArray) : Option ((ByteArray × Int × Int × Int × Int × Int × Int × Int × Int) × List Int × Int × Int) := spec_l03Draw.top s0 name1
def spec_l03Draw.f (s0 : List Int × Int × Int) (name1 : ByteArray) : Option ((ByteArray × Int × Int × Int × Int × Int × Int × Int × Int) × List Int × Int × Int) := spec_l03Draw.fn NN s0 name1
end
end Go.Pl

namespace Go.Pl
open Go.Ev
set_option linter.unusedVariables false
noncomputable section
def spec_l03Names.top  : Option (List ByteArray) :=
  some ([(⟨#[97, 115, 116, 101, 114]⟩ : ByteArray), (⟨#[99, 111, 109, 101, 116]⟩ : ByteArray), (⟨#[100, 97, 104, 108, 105, 97]⟩ : ByteArray), (⟨#[112, 97, 108, 109]⟩ : ByteArray), (⟨#[112, 101, 111, 110, 121]⟩ : ByteArray), (⟨#[119, 105, 108, 108, 111, 119]⟩ : ByteArray)])
def spec_l03Names.fn (n : Nat)  : Option (List ByteArray) := spec_l03Names.top 
def spec_l03Names.f  : Option (List ByteArray) := spec_l03Names.fn NN 
end
end Go.Pl

namespace Go.Pl
open Go.Ev
set_option linter.unusedVariables false
noncomputable section
def spec_l03List.g13 (L13 : Int → (List Int × Int × Int) → (List (ByteArray × Int × Int × Int × Int × Int × Int × Int × Int)) → Option ((List (ByteArray × Int × Int × Int × Int × Int × Int × Int × Int)) × List Int × Int × Int)) (k6 : Int) (s0 : List Int × Int × Int) (out3 : List (ByteArray × Int × Int × Int × Int × Int × Int × Int × Int)) : Option ((List (ByteArray × Int × Int × Int × Int × Int × Int × Int × Int)) × List Int × Int × Int) :=
  (spec_l01Next.f s0 2).bind fun r6 =>
  if (decide (((out3.length : Int) : Int) < (IntKind.i64.wrap (12 + r6.1)))) = true then
    if (decide ((k6 : Int) < 14)) = true then
      if (0 : Int) ≤ k6 ∧ (k6 : Int) ≤ (IntKind.i64.wrap (k6 + 1)) ∧ ((IntKind.i64.wrap (k6 + 1)) : Int) ≤ (⟨#[97, 98, 99, 100, 101, 102, 103, 104, 105, 106, 107, 108, 109, 110]⟩ : ByteArray).size then
        if (⟨#[120]⟩ : ByteArray).size + ((⟨#[97, 98, 99, 100, 101, 102, 103, 104, 105, 106, 107, 108, 109, 110]⟩ : ByteArray).extract (k6 : Int).toNat ((IntKind.i64.wrap (k6 + 1)) : Int).toNat).size ≤ 9223372036854775807 then
          (spec_l03Good.f r6.2 ((⟨#[120]⟩ : ByteArray) ++ ((⟨#[97, 98, 99, 100, 101, 102, 103, 104, 105, 106, 107, 108, 109, 110]⟩ : ByteArray).extract (k6 : Int).toNat ((IntKind.i64.wrap (k6 + 1)) : Int).toNat))).bind fun r7 =>
          if out3.length + ([r7.1]).length < room 80 then
            L13 (IntKind.i64.wrap (k6 + 1)) r7.2 (out3 ++ ([r7.1]))
          else
            none
        else
          none
      else
        none
    else
      some (out3, r6.2)
  else
    some (out3, r6.2)
def spec_l03List.l13 (n : Nat) : Nat → Int → (List Int × Int × Int) → (List (ByteArray × Int × Int × Int × Int × Int × Int × Int × Int)) → Option ((List (ByteArray × Int × Int × Int × Int × Int × Int × Int × Int)) × List Int × Int × Int)
  | 0 => fun _ _ _ => none
  | k + 1 => spec_l03List.g13 (spec_l03List.l13 n k)
def spec_l03List.g4 (I13 : Int → (List Int × Int × Int) → (List (ByteArray × Int × Int × Int × Int × Int × Int × Int × Int)) → Option ((List (ByteArray × Int × Int × Int × Int × Int × Int × Int × Int)) × List Int × Int × Int)) (L4 : Int → (List Int × Int × Int) → (List (ByteArray × Int × Int × Int × Int × Int × Int × Int × Int)) → List ByteArray → Option ((List (ByteArray × Int × Int × Int × Int × Int × Int × Int × Int)) × List Int × Int × Int)) (i5 : Int) (s0 : List Int × Int × Int) (out3 : List (ByteArray × Int × Int × Int × Int × Int × Int × Int × Int)) (names4 : List ByteArray) : Option ((List (ByteArray × Int × Int × Int × Int × Int × Int × Int × Int)) × List Int × Int × Int) :=
  if (decide ((i5 : Int) < (names4.length : Int))) = true then
    (spec_l01Next.f s0 3).bind fun r2 =>
    if (decide ((0 : Int) < r2.1)) = true then
      if (0 : Int) ≤ i5 ∧ (i5 : Int) < names4.length then
        (spec_l03Draw.f r2.2 (names4.getD (i5 : Int).toNat ByteArray.empty)).bind fun r3 =>
        if out3.length + ([r3.1]).length < room 80 then
          L4 (IntKind.i64.wrap (i5 + 1)) r3.2 (out3 ++ ([r3.1])) names4
        else
          none
      else
        none
    else
      L4 (IntKind.i64.wrap (i5 + 1)) r2.2 out3 names4
  else
    (spec_l01Next.f s0 30).bind fun r4 =>
    if ((r4.1 : Int) == 0) = true then
      (spec_l03Good.f r4.2 (⟨#[97, 115, 116, 101, 114]⟩ : ByteArray)).bind fun r5 =>
      if out3.length + ([r5.1]).length < room 80 then
        some (out3 ++ ([r5.1]), r5.2)
      else
        none
    else if ((r4.1 : Int) == 1) = true then
      I13 0 r4.2 out3
    else
      some (out3, r4.2)
def spec_l03List.l4 (n : Nat) : Nat → Int → (List Int × Int × Int) → (List (ByteArray × Int × Int × Int × Int × Int × Int × Int × Int)) → List ByteArray → Option ((List (ByteArray × Int × Int × Int × Int × Int × Int × Int × Int)) × List Int × Int × Int)
  | 0 => fun _ _ _ _ => none
  | k + 1 => spec_l03List.g4 (spec_l03List.l13 n n) (spec_l03List.l4 n k)
def spec_l03List.top (I4 : Int → (List Int × Int × Int) → (List (ByteArray × Int × Int × Int × Int × Int × Int × Int × Int)) → List ByteArray → Option ((List (ByteArray × Int × Int × Int × Int × Int × Int × Int × Int)) × List Int × Int × Int)) (s0 : List Int × Int × Int) : Option ((List (ByteArray × Int × Int × Int × Int × Int × Int × Int × Int)) × List Int × Int × Int) :=
  (spec_l03Names.f).bind fun r1 =>
  I4 0 s0 [] r1
def spec_l03List.fn (n : Nat) (s0 : List Int × Int × Int) : Option ((List (ByteArray × Int × Int × Int × Int × Int × Int × Int × Int)) × List Int × Int × Int) := spec_l03List.top (spec_l03List.l4 n n) s0
def spec_l03List.f (s0 : List Int × Int × Int) : Option ((List (ByteArray × Int × Int × Int × Int × Int × Int × Int × Int)) × List Int × Int × Int) := spec_l03List.fn NN s0
end
end Go.Pl

namespace Go.Pl
open Go.Ev
set_option linter.unusedVariables false
noncomputable section
def spec_l29Good.g4 (L4 : Int → (List Int × Int × Int) → ByteArray → Int → ByteArray → Int → List ByteArray → (List (ByteArray × Int)) → (List (ByteArray × Int)) → Option ((ByteArray × Int × List (ByteArray × Int)) × List Int × Int × Int)) (i5 : Int) (s0 : List Int × Int × Int) (v2a : ByteArray) (v2ba : Int) (p3a : ByteArray) (p3ba : Int) (names4 : List ByteArray) (w4 : List (ByteArray × Int)) (w5 : List (ByteArray × Int)) : Option ((ByteArray × Int × List (ByteArray × Int)) × List Int × Int × Int) :=
  if (decide ((i5 : Int) < (names4.length : Int))) = true then
    (spec_l01Next.f s0 2).bind fun r4 =>
    if ((r4.1 : Int) == 0) = true then
      if (0 : Int) ≤ i5 ∧ (i5 : Int) < names4.length then
        (spec_l01Next.f r4.2 20).bind fun r5 =>
        if w5.length + ([(names4.getD (i5 : Int).toNat ByteArray.empty, IntKind.i64.wrap (1 + r5.1))]).length < room 24 then
          L4 (IntKind.i64.wrap (i5 + 1)) r5.2 v2a v2ba p3a p3ba names4 w4 (w5 ++ ([(names4.getD (i5 : Int).toNat ByteArray.empty, IntKind.i64.wrap (1 + r5.1))]))
        else
          none
      else
        none
    else
      L4 (IntKind.i64.wrap (i5 + 1)) r4.2 v2a v2ba p3a p3ba names4 w4 w5
  else
    some ((p3a, (p3ba, w5)), s0)
def spec_l29Good.l4 (n : Nat) : Nat → Int → (List Int × Int × Int) → ByteArray → Int → ByteArray → Int → List ByteArray → (List (ByteArray × Int)) → (List (ByteArray × Int)) → Option ((ByteArray × Int × List (ByteArray × Int)) × List Int × Int × Int)
  | 0 => fun _ _ _ _ _ _ _ _ _ => none
  | k + 1 => spec_l29Good.g4 (spec_l29Good.l4 n k)
def spec_l29Good.top (I4 : Int → (List Int × Int × Int) → ByteArray → Int → ByteArray → Int → List ByteArray → (List (ByteArray × Int)) → (List (ByteArray × Int)) → Option ((ByteArray × Int × List (ByteArray × Int)) × List Int × Int × Int)) (s0 : List Int × Int × Int) : Option ((ByteArray × Int × List (ByteArray × Int)) × List Int × Int × Int) :=
  agree (
    (spec_l01Next.f s0 2).bind fun r1 =>
    if (0 : Int) ≤ r1.1 ∧ (r1.1 : Int) < ([(⟨#[118, 97, 110]⟩ : ByteArray), (⟨#[116, 114, 117, 99, 107]⟩ : ByteArray)]).length then
      (spec_l01Next.f r1.2 1000).bind fun r2 =>
      (spec_l03Names.f).bind fun r3 =>
      I4 0 r2.2 ByteArray.empty 0 (([(⟨#[118, 97, 110]⟩ : ByteArray), (⟨#[116, 114, 117, 99, 107]⟩ : ByteArray)]).getD (r1.1 : Int).toNat ByteArray.empty) r2.1 r3 [] []
    else
      none
  ) (
    agree (
      (spec_l01Next.f s0 2).bind fun r1 =>
      agree (
        if (0 : Int) ≤ r1.1 ∧ (r1.1 : Int) < ([(⟨#[118, 97, 110]⟩ : ByteArray), (⟨#[116, 114, 117, 99, 107]⟩ : ByteArray)]).length then
          (spec_l01Next.f r1.2 1000).bind fun r2 =>
          (spec_l03Names.f).bind fun r3 =>
          I4 0 r2.2 ByteArray.empty 0 (([(⟨#[118, 97, 110]⟩ : ByteArray), (⟨#[116, 114, 117, 99, 107]⟩ : ByteArray)]).getD (r1.1 : Int).toNat ByteArray.empty) r2.1 r3 [] []
        else
          none
      ) (
        agree (
          (spec_l01Next.f r1.2 1000).bind fun r2 =>
          if (0 : Int) ≤ r1.1 ∧ (r1.1 : Int) < ([(⟨#[118, 97, 110]⟩ : ByteArray), (⟨#[116, 114, 117, 99, 107]⟩ : ByteArray)]).length then
            (spec_l03Names.f).bind fun r3 =>
            I4 0 r2.2 ByteArray.empty 0 (([(⟨#[118, 97, 110]⟩ : ByteArray), (⟨#[116, 114, 117, 99, 107]⟩ : ByteArray)]).getD (r1.1 : Int).toNat ByteArray.empty) r2.1 r3 [] []
          else
            none
        ) (
          agree (
            agree (
              if (0 : Int) ≤ r1.1 ∧ (r1.1 : Int) < ([(⟨#[118, 97, 110]⟩ : ByteArray), (⟨#[116, 114, 117, 99, 107]⟩ : ByteArray)]).length then
                (spec_l01Next.f r1.2 1000).bind fun r2 =>
                (spec_l03Names.f).bind fun r3 =>
                I4 0 r2.2 ByteArray.empty 0 (([(⟨#[118, 97, 110]⟩ : ByteArray), (⟨#[116, 114, 117, 99, 107]⟩ : ByteArray)]).getD (r1.1 : Int).toNat ByteArray.empty) r2.1 r3 [] []
              else
                none
            ) (
              agree (
                (spec_l01Next.f r1.2 1000).bind fun r2 =>
                if (0 : Int) ≤ r1.1 ∧ (r1.1 : Int) < ([(⟨#[118, 97, 110]⟩ : ByteArray), (⟨#[116, 114, 117, 99, 107]⟩ : ByteArray)]).length then
                  (spec_l03Names.f).bind fun r3 =>
                  I4 0 r2.2 ByteArray.empty 0 (([(⟨#[118, 97, 110]⟩ : ByteArray), (⟨#[116, 114, 117, 99, 107]⟩ : ByteArray)]).getD (r1.1 : Int).toNat ByteArray.empty) r2.1 r3 [] []
                else
                  none
              ) (
                agree (
                  if (0 : Int) ≤ r1.1 ∧ (r1.1 : Int) < ([(⟨#[118, 97, 110]⟩ : ByteArray), (⟨#[116, 114, 117, 99, 107]⟩ : ByteArray)]).length then
                    (spec_l01Next.f r1.2 1000).bind fun r2 =>
                    (spec_l03Names.f).bind fun r3 =>
                    I4 0 r2.2 ByteArray.empty 0 (([(⟨#[118, 97, 110]⟩ : ByteArray), (⟨#[116, 114, 117, 99, 107]⟩ : ByteArray)]).getD (r1.1 : Int).toNat ByteArray.empty) r2.1 r3 [] []
                  else
                    none
                ) (
                  (spec_l01Next.f r1.2 1000).bind fun r2 =>
                  if (0 : Int) ≤ r1.1 ∧ (r1.1 : Int) < ([(⟨#[118, 97, 110]⟩ : ByteArray), (⟨#[116, 114, 117, 99, 107]⟩ : ByteArray)]).length then
                    (spec_l03Names.f).bind fun r3 =>
                    I4 0 r2.2 ByteArray.empty 0 (([(⟨#[118, 97, 110]⟩ : ByteArray), (⟨#[116, 114, 117, 99, 107]⟩ : ByteArray)]).getD (r1.1 : Int).toNat ByteArray.empty) r2.1 r3 [] []
                  else
                    none
                )
              )
            )
          ) (
            agree (
              if (0 : Int) ≤ r1.1 ∧ (r1.1 : Int) < ([(⟨#[118, 97, 110]⟩ : ByteArray), (⟨#[116, 114, 117, 99, 107]⟩ : ByteArray)]).length then
                (spec_l01Next.f r1.2 1000).bind fun r2 =>
                (spec_l03Names.f).bind fun r3 =>
                I4 0 r2.2 ByteArray.empty 0 (([(⟨#[118, 97, 110]⟩ : ByteArray), (⟨#[116, 114, 117, 99, 107]⟩ : ByteArray)]).getD (r1.1 : Int).toNat ByteArray.empty) r2.1 r3 [] []
              else
                none
            ) (
              agree (
                (spec_l01Next.f r1.2 1000).bind fun r2 =>
                if (0 : Int) ≤ r1.1 ∧ (r1.1 : Int) < ([(⟨#[118, 97, 110]⟩ : ByteArray), (⟨#[116, 114, 117, 99, 107]⟩ : ByteArray)]).length then
                  (spec_l03Names.f).bind fun r3 =>
                  I4 0 r2.2 ByteArray.empty 0 (([(⟨#[118, 97, 110]⟩ : ByteArray), (⟨#[116, 114, 117, 99, 107]⟩ : ByteArray)]).getD (r1.1 : Int).toNat ByteArray.empty) r2.1 r3 [] []
                else
                  none
              ) (
                agree (
                  if (0 : Int) ≤ r1.1 ∧ (r1.1 : Int) < ([(⟨#[118, 97, 110]⟩ : ByteArray), (⟨#[116, 114, 117, 99, 107]⟩ : ByteArray)]).length then
                    (spec_l01Next.f r1.2 1000).bind fun r2 =>
                    (spec_l03Names.f).bind fun r3 =>
                    I4 0 r2.2 ByteArray.empty 0 (([(⟨#[118, 97, 110]⟩ : ByteArray), (⟨#[116, 114, 117, 99, 107]⟩ : ByteArray)]).getD (r1.1 : Int).toNat ByteArray.empty) r2.1 r3 [] []
                  else
                    none
                ) (
                  (spec_l01Next.f r1.2 1000).bind fun r2 =>
                  if (0 : Int) ≤ r1.1 ∧ (r1.1 : Int) < ([(⟨#[118, 97, 110]⟩ : ByteArray), (⟨#[116, 114, 117, 99, 107]⟩ : ByteArray)]).length then
                    (spec_l03Names.f).bind fun r3 =>
                    I4 0 r2.2 ByteArray.empty 0 (([(⟨#[118, 97, 110]⟩ : ByteArray), (⟨#[116, 114, 117, 99, 107]⟩ : ByteArray)]).getD (r1.1 : Int).toNat ByteArray.empty) r2.1 r3 [] []
                  else
                    none
                )
              )
            )
          )
        )
      )
    ) (
      agree (
        agree (
          (spec_l01Next.f s0 2).bind fun r1 =>
          if (0 : Int) ≤ r1.1 ∧ (r1.1 : Int) < ([(⟨#[118, 97, 110]⟩ : ByteArray), (⟨#[116, 114, 117, 99, 107]⟩ : ByteArray)]).length then
            (spec_l01Next.f r1.2 1000).bind fun r2 =>
            (spec_l03Names.f).bind fun r3 =>
            I4 0 r2.2 ByteArray.empty 0 (([(⟨#[118, 97, 110]⟩ : ByteArray), (⟨#[116, 114, 117, 99, 107]⟩ : ByteArray)]).getD (r1.1 : Int).toNat ByteArray.empty) r2.1 r3 [] []
          else
            none
        ) (
          agree (
            (spec_l01Next.f s0 2).bind fun r1 =>
            agree (
              if (0 : Int) ≤ r1.1 ∧ (r1.1 : Int) < ([(⟨#[118, 97, 110]⟩ : ByteArray), (⟨#[116, 114, 117, 99, 107]⟩ : ByteArray)]).length then
                (spec_l01Next.f r1.2 1000).bind fun r2 =>
                (spec_l03Names.f).bind fun r3 =>
                I4 0 r2.2 ByteArray.empty 0 (([(⟨#[118, 97, 110]⟩ : ByteArray), (⟨#[116, 114, 117, 99, 107]⟩ : ByteArray)]).getD (r1.1 : Int).toNat ByteArray.empty) r2.1 r3 [] []
              else
                none
            ) (
              agree (
                (spec_l01Next.f r1.2 1000).bind fun r2 =>
                if (0 : Int) ≤ r1.1 ∧ (r1.1 : Int) < ([(⟨#[118, 97, 110]⟩ : ByteArray), (⟨#[116, 114, 117, 99, 107]⟩ : ByteArray)]).length then
                  (spec_l03Names.f).bind fun r3 =>
                  I4 0 r2.2 ByteArray.empty 0 (([(⟨#[118, 97, 110]⟩ : ByteArray), (⟨#[116, 114, 117, 99, 107]⟩ : ByteArray)]).getD (r1.1 : Int).toNat ByteArray.empty) r2.1 r3 [] []
                else
                  none
              ) (
                agree (
                  if (0 : Int) ≤ r1.1 ∧ (r1.1 : Int) < ([(⟨#[118, 97, 110]⟩ : ByteArray), (⟨#[116, 114, 117, 99, 107]⟩ : ByteArray)]).length then
                    (spec_l01Next.f r1.2 1000).bind fun r2 =>
                    (spec_l03Names.f).bind fun r3 =>
                    I4 0 r2.2 ByteArray.empty 0 (([(⟨#[118, 97, 110]⟩ : ByteArray), (⟨#[116, 114, 117, 99, 107]⟩ : ByteArray)]).getD (r1.1 : Int).toNat ByteArray.empty) r2.1 r3 [] []
                  else
                    none
                ) (
                  (spec_l01Next.f r1.2 1000).bind fun r2 =>
                  if (0 : Int) ≤ r1.1 ∧ (r1.1 : Int) < ([(⟨#[118, 97, 110]⟩ : ByteArray), (⟨#[116, 114, 117, 99, 107]⟩ : ByteArray)]).length then
                    (spec_l03Names.f).bind fun r3 =>
                    I4 0 r2.2 ByteArray.empty 0 (([(⟨#[118, 97, 110]⟩ : ByteArray), (⟨#[116, 114, 117, 99, 107]⟩ : ByteArray)]).getD (r1.1 : Int).toNat ByteArray.empty) r2.1 r3 [] []
                  else
                    none
                )
              )
            )
          ) (
            agree (
              (spec_l01Next.f s0 2).bind fun r1 =>
              if (0 : Int) ≤ r1.1 ∧ (r1.1 : Int) < ([(⟨#[118, 97, 110]⟩ : ByteArray), (⟨#[116, 114, 117, 99, 107]⟩ : ByteArray)]).length then
                (spec_l01Next.f r1.2 1000).bind fun r2 =>
                (spec_l03Names.f).bind fun r3 =>
                I4 0 r2.2 ByteArray.empty 0 (([(⟨#[118, 97, 110]⟩ : ByteArray), (⟨#[116, 114, 117, 99, 107]⟩ : ByteArray)]).getD (r1.1 : Int).toNat ByteArray.empty) r2.1 r3 [] []
              else
                none
            ) (
              (spec_l01Next.f s0 2).bind fun r1 =>
              agree (
                if (0 : Int) ≤ r1.1 ∧ (r1.1 : Int) < ([(⟨#[118, 97, 110]⟩ : ByteArray), (⟨#[116, 114, 117, 99, 107]⟩ : ByteArray)]).length then
                  (spec_l01Next.f r1.2 1000).bind fun r2 =>
                  (spec_l03Names.f).bind fun r3 =>
                  I4 0 r2.2 ByteArray.empty 0 (([(⟨#[118, 97, 110]⟩ : ByteArray), (⟨#[116, 114, 117, 99, 107]⟩ : ByteArray)]).getD (r1.1 : Int).toNat ByteArray.empty) r2.1 r3 [] []
                else
                  none
              ) (
                (spec_l01Next.f r1.2 1000).bind fun r2 =>
                if (0 : Int) ≤ r1.1 ∧ (r1.1 : Int) < ([(⟨#[118, 97, 110]⟩ : ByteArray), (⟨#[116, 114, 117, 99, 107]⟩ : ByteArray)]).length then
                  (spec_l03Names.f).bind fun r3 =>
                  I4 0 r2.2 ByteArray.empty 0 (([(⟨#[118, 97, 110]⟩ : ByteArray), (⟨#[116, 114, 117, 99, 107]⟩ : ByteArray)]).getD (r1.1 : Int).toNat ByteArray.empty) r2.1 r3 [] []
                else
                  none
              )
            )
          )
        )
      ) (
        agree (
          (spec_l01Next.f s0 2).bind fun r1 =>
          if (0 : Int) ≤ r1.1 ∧ (r1.1 : Int) < ([(⟨#[118, 97, 110]⟩ : ByteArray), (⟨#[116, 114, 117, 99, 107]⟩ : ByteArray)]).length then
            (spec_l01Next.f r1.2 1000).bind fun r2 =>
            (spec_l03Names.f).bind fun r3 =>
            I4 0 r2.2 ByteArray.empty 0 (([(⟨#[118, 97, 110]⟩ : ByteArray), (⟨#[116, 114, 117, 99, 107]⟩ : ByteArray)]).getD (r1.1 : Int).toNat ByteArray.empty) r2.1 r3 [] []
          else
            none
        ) (
          agree (
            (spec_l01Next.f s0 2).bind fun r1 =>
            agree (
              if (0 : Int) ≤ r1.1 ∧ (r1.1 : Int) < ([(⟨#[118, 97, 110]⟩ : ByteArray), (⟨#[116, 114, 117, 99, 107]⟩ : ByteArray)]).length then
                (spec_l01Next.f r1.2 1000).bind fun r2 =>
                (spec_l03Names.f).bind fun r3 =>
                I4 0 r2.2 ByteArray.empty 0 (([(⟨#[118, 97, 110]⟩ : ByteArray), (⟨#[116, 114, 117, 99, 107]⟩ : ByteArray)]).getD (r1.1 : Int).toNat ByteArray.empty) r2.1 r3 [] []
              else
                none
            ) (
              agree (
                (spec_l01Next.f r1.2 1000).bind fun r2 =>
                if (0 : Int) ≤ r1.1 ∧ (r1.1 : Int) < ([(⟨#[118, 97, 110]⟩ : ByteArray), (⟨#[116, 114, 117, 99, 107]⟩ : ByteArray)]).length then
                  (spec_l03Names.f).bind fun r3 =>
                  I4 0 r2.2 ByteArray.empty 0 (([(⟨#[118, 97, 110]⟩ : ByteArray), (⟨#[116, 114, 117, 99, 107]⟩ : ByteArray)]).getD (r1.1 : Int).toNat ByteArray.empty) r2.1 r3 [] []
                else
                  none
              ) (
                agree (
                  if (0 : Int) ≤ r1.1 ∧ (r1.1 : Int) < ([(⟨#[118, 97, 110]⟩ : ByteArray), (⟨#[116, 114, 117, 99, 107]⟩ : ByteArray)]).length then
                    (spec_l01Next.f r1.2 1000).bind fun r2 =>
                    (spec_l03Names.f).bind fun r3 =>
                    I4 0 r2.2 ByteArray.empty 0 (([(⟨#[118, 97, 110]⟩ : ByteArray), (⟨#[116, 114, 117, 99, 107]⟩ : ByteArray)]).getD (r1.1 : Int).toNat ByteArray.empty) r2.1 r3 [] []
                  else
                    none
                ) (
                  (spec_l01Next.f r1.2 1000).bind fun r2 =>
                  if (0 : Int) ≤ r1.1 ∧ (r1.1 : Int) < ([(⟨#[118, 97, 110]⟩ : ByteArray), (⟨#[116, 114, 117, 99, 107]⟩ : ByteArray)]).length then
                    (spec_l03Names.f).bind fun r3 =>
                    I4 0 r2.2 ByteArray.empty 0 (([(⟨#[118, 97, 110]⟩ : ByteArray), (⟨#[116, 114, 117, 99, 107]⟩ : ByteArray)]).getD (r1.1 : Int).toNat ByteArray.empty) r2.1 r3 [] []
                  else
                    none
                )
              )
            )
          ) (
            agree (
              (spec_l01Next.f s0 2).bind fun r1 =>
              if (0 : Int) ≤ r1.1 ∧ (r1.1 : Int) < ([(⟨#[118, 97, 110]⟩ : ByteArray), (⟨#[116, 114, 117, 99, 107]⟩ : ByteArray)]).length then
                (spec_l01Next.f r1.2 1000).bind fun r2 =>
                (spec_l03Names.f).bind fun r3 =>
                I4 0 r2.2 ByteArray.empty 0 (([(⟨#[118, 97, 110]⟩ : ByteArray), (⟨#[116, 114, 117, 99, 107]⟩ : ByteArray)]).getD (r1.1 : Int).toNat ByteArray.empty) r2.1 r3 [] []
              else
                none
            ) (
              (spec_l01Next.f s0 2).bind fun r1 =>
              agree (
                if (0 : Int) ≤ r1.1 ∧ (r1.1 : Int) < ([(⟨#[118, 97, 110]⟩ : ByteArray), (⟨#[116, 114, 117, 99, 107]⟩ : ByteArray)]).length then
                  (spec_l01Next.f r1.2 1000).bind fun r2 =>
                  (spec_l03Names.f).bind fun r3 =>
                  I4 0 r2.2 ByteArray.empty 0 (([(⟨#[118, 97, 110]⟩ : ByteArray), (⟨#[116, 114, 117, 99, 107]⟩ : ByteArray)]).getD (r1.1 : Int).toNat ByteArray.empty) r2.1 r3 [] []
                else
                  none
              ) (
                (spec_l01Next.f r1.2 1000).bind fun r2 =>
                if (0 : Int) ≤ r1.1 ∧ (r1.1 : Int) < ([(⟨#[118, 97, 110]⟩ : ByteArray), (⟨#[116, 114, 117, 99, 107]⟩ : ByteArray)]).length then
                  (spec_l03Names.f).bind fun r3 =>
                  I4 0 r2.2 ByteArray.empty 0 (([(⟨#[118, 97, 110]⟩ : ByteArray), (⟨#[116, 114, 117, 99, 107]⟩ : ByteArray)]).getD (r1.1 : Int).toNat ByteArray.empty) r2.1 r3 [] []
                else
                  none
              )
            )
          )
        )
      )
    )
  )
def spec_l29Good.fn (n : Nat) (s0 : List Int × Int × Int) : Option ((ByteArray × Int × List (ByteArray × Int)) × List Int × Int × Int) := spec_l29Good.top (spec_l29Good.l4 n n) s0
def spec_l29Good.f (s0 : List Int × Int × Int) : Option ((ByteArray × Int × List (ByteArray × Int)) × List Int × Int × Int) := spec_l29Good.fn NN s0
end
end Go.Pl

namespace Go.Pl
open Go.Ev
set_option linter.unusedVariables false
noncomputable section
def spec_l29Draw.g9 (L9 : Int → (List Int × Int × Int) → ByteArray → Int → ByteArray → Int → (List (ByteArray × Int)) → (List (ByteArray × Int)) → Option ((ByteArray × Int × List (ByteArray × Int)) × List Int × Int × Int)) (k4 : Int) (s0 : List Int × Int × Int) (v2a : ByteArray) (v2ba : Int) (p3a : ByteArray) (p3ba : Int) (w3 : List (ByteArray × Int)) (w4 : List (ByteArray × Int)) : Option ((ByteArray × Int × List (ByteArray × Int)) × List Int × Int × Int) :=
  (spec_l01Next.f s0 2).bind fun r6 =>
  if (decide (((w4.length : Int) : Int) < (IntKind.i64.wrap (12 + r6.1)))) = true then
    if (decide ((k4 : Int) < 14)) = true then
      if (0 : Int) ≤ k4 ∧ (k4 : Int) ≤ (IntKind.i64.wrap (k4 + 1)) ∧ ((IntKind.i64.wrap (k4 + 1)) : Int) ≤ (⟨#[97, 98, 99, 100, 101, 102, 103, 104, 105, 106, 107, 108, 109, 110]⟩ : ByteArray).size then
        if (⟨#[120]⟩ : ByteArray).size + ((⟨#[97, 98, 99, 100, 101, 102, 103, 104, 105, 106, 107, 108, 109, 110]⟩ : ByteArray).extract (k4 : Int).toNat ((IntKind.i64.wrap (k4 + 1)) : Int).toNat).size ≤ 9223372036854775807 then
          if w4.length + ([((⟨#[120]⟩ : ByteArray) ++ ((⟨#[97, 98, 99, 100, 101, 102, 103, 104, 105, 106, 107, 108, 109, 110]⟩ : ByteArray).extract (k4 : Int).toNat ((IntKind.i64.wrap (k4 + 1)) : Int).toNat), 1)]).length < room 24 then
            L9 (IntKind.i64.wrap (k4 + 1)) r6.2 v2a v2ba p3a p3ba w3 (w4 ++ ([((⟨#[120]⟩ : ByteArray) ++ ((⟨#[97, 98, 99, 100, 101, 102, 103, 104, 105, 106, 107, 108, 109, 110]⟩ : ByteArray).extract (k4 : Int).toNat ((IntKind.i64.wrap (k4 + 1)) : Int).toNat), 1)]))
          else
            none
        else
          none
      else
        none
    else
      some ((p3a, (p3ba, w4)), r6.2)
  else
    some ((p3a, (p3ba, w4)), r6.2)
def spec_l29Draw.l9 (n : Nat) : Nat → Int → (List Int × Int × Int) → ByteArray → Int → ByteArray → Int → (List (ByteArray × Int)) → (List (ByteArray × Int)) → Option ((ByteArray × Int × List (ByteArray × Int)) × List Int × Int × Int)
  | 0 => fun _ _ _ _ _ _ _ _ => none
  | k + 1 => spec_l29Draw.g9 (spec_l29Draw.l9 n k)
def spec_l29Draw.top (I9 : Int → (List Int × Int × Int) → ByteArray → Int → ByteArray → Int → (List (ByteArray × Int)) → (List (ByteArray × Int)) → Option ((ByteArray × Int × List (ByteArray × Int)) × List Int × Int × Int)) (s0 : List Int × Int × Int) : Option ((ByteArray × Int × List (ByteArray × Int)) × List Int × Int × Int) :=
  (spec_l29Good.f s0).bind fun r1 =>
  (spec_l01Next.f r1.2 30).bind fun r2 =>
  if ((r2.1 : Int) == 0) = true then
    (spec_l01Pick.f r2.2 ([(-1), 0, 100000, 100001])).bind fun r3 =>
    some ((r1.1.1, (r3.1, r1.1.2.2)), r3.2)
  else if ((r2.1 : Int) == 1) = true then
    (spec_l01DrawWord.f r2.2).bind fun r4 =>
    (spec_l01Pick.f r4.2 ([0, 1, 1000, 1001])).bind fun r5 =>
    if r1.1.2.2.length + ([(r4.1, r5.1)]).length < room 24 then
      some ((r1.1.1, (r1.1.2.1, r1.1.2.2 ++ ([(r4.1, r5.1)]))), r5.2)
    else
      none
  else if ((r2.1 : Int) == 2) = true then
    I9 0 r2.2 ByteArray.empty 0 r1.1.1 r1.1.2.1 [] r1.1.2.2
  else
    some ((r1.1.1, (r1.1.2.1, r1.1.2.2)), r2.2)
def spec_l29Draw.fn (n : Nat) (s0 : List Int × Int × Int) : Option ((ByteArray × Int × List (ByteArray × Int)) × List Int × Int × Int) := spec_l29Draw.top (spec_l29Draw.l9 n n) s0
def spec_l29Draw.f (s0 : List Int × Int × Int) : Option ((ByteArray × Int × List (ByteArray × Int)) × List Int × Int × Int) := spec_l29Draw.fn NN s0
end
end Go.Pl

namespace Go.Pl
open Go.Ev
set_option linter.unusedVariables false
noncomputable section
def spec_l29For.g6 (L6 : Int → (List Int × Int × Int) → ByteArray → Int → (List (ByteArray × Int × Int × Int × Int × Int × Int × Int × Int)) → ByteArray → Int → (List (ByteArray × Int)) → (List (ByteArray × Int)) → (List (ByteArray × Int)) → Option ((List (ByteArray × Int × Int × Int × Int × Int × Int × Int × Int)) × (ByteArray × Int × List (ByteArray × Int)) × List Int × Int × Int)) (i7 : Int) (w0 : List Int × Int × Int) (v3a : ByteArray) (v3ba : Int) (list4 : List (ByteArray × Int × Int × Int × Int × Int × Int × Int × Int)) (p5a : ByteArray) (p5ba : Int) (lines6 : List (ByteArray × Int)) (w5 : List (ByteArray × Int)) (w6 : List (ByteArray × Int)) : Option ((List (ByteArray × Int × Int × Int × Int × Int × Int × Int × Int)) × (ByteArray × Int × List (ByteArray × Int)) × List Int × Int × Int) :=
  if (decide ((i7 : Int) < (w6.length : Int))) = true then
    if (0 : Int) ≤ i7 ∧ (i7 : Int) < w6.length then
      (spec_l03Find.f list4 ((w6.getD (i7 : Int).toNat (ByteArray.empty, 0)).1)).bind fun r4 =>
      if (decide ((0 : Int) ≤ r4)) = true then
        if (0 : Int) ≤ i7 ∧ (i7 : Int) < w6.length then
          if lines6.length + ([w6.getD (i7 : Int).toNat (ByteArray.empty, 0)]).length < room 24 then
            L6 (IntKind.i64.wrap (i7 + 1)) w0 v3a v3ba list4 p5a p5ba (lines6 ++ ([w6.getD (i7 : Int).toNat (ByteArray.empty, 0)])) w5 w6
          else
            none
        else
          none
      else
        L6 (IntKind.i64.wrap (i7 + 1)) w0 v3a v3ba list4 p5a p5ba lines6 w5 w6
    else
      none
  else
    some (list4, (p5a, (p5ba, lines6)), w0)
def spec_l29For.l6 (n : Nat) : Nat → Int → (List Int × Int × Int) → ByteArray → Int → (List (ByteArray × Int × Int × Int × Int × Int × Int × Int × Int)) → ByteArray → Int → (List (ByteArray × Int)) → (List (ByteArray × Int)) → (List (ByteArray × Int)) → Option ((List (ByteArray × Int × Int × Int × Int × Int × Int × Int × Int)) × (ByteArray × Int × List (ByteArray × Int)) × List Int × Int × Int)
  | 0 => fun _ _ _ _ _ _ _ _ _ _ => none
  | k + 1 => spec_l29For.g6 (spec_l29For.l6 n k)
def spec_l29For.top (I6 : Int → (List Int × Int × Int) → ByteArray → Int → (List (ByteArray × Int × Int × Int × Int × Int × Int × Int × Int)) → ByteArray → Int → (List (ByteArray × Int)) → (List (ByteArray × Int)) → (List (ByteArray × Int)) → Option ((List (ByteArray × Int × Int × Int × Int × Int × Int × Int × Int)) × (ByteArray × Int × List (ByteArray × Int)) × List Int × Int × Int)) (s0 : List Int × Int × Int) : Option ((List (ByteArray × Int × Int × Int × Int × Int × Int × Int × Int)) × (ByteArray × Int × List (ByteArray × Int)) × List Int × Int × Int) :=
  (spec_l03List.f s0).bind fun r1 =>
  (spec_l29Draw.f r1.2).bind fun r2 =>
  (spec_l01Next.f r2.2 4).bind fun r3 =>
  if (decide ((0 : Int) < r3.1)) = true then
    I6 0 r3.2 ByteArray.empty 0 r1.1 r2.1.1 r2.1.2.1 [] [] r2.1.2.2
  else
    some (r1.1, (r2.1.1, (r2.1.2.1, r2.1.2.2)), r3.2)
def spec_l29For.fn (n : Nat) (s0 : List Int × Int × Int) : Option ((List (ByteArray × Int × Int × Int × Int × Int × Int × Int × Int)) × (ByteArray × Int × List (ByteArray × Int)) × List Int × Int × Int) := spec_l29For.top (spec_l29For.l6 n n) s0
def spec_l29For.f (s0 : List Int × Int × Int) : Option ((List (ByteArray × Int × Int × Int × Int × Int × Int × Int × Int)) × (ByteArray × Int × List (ByteArray × Int)) × List Int × Int × Int) := spec_l29For.fn NN s0
end
end Go.Pl

namespace Go.Pl
open Go.Ev
set_option linter.unusedVariables false
noncomputable section
def spec_DrawNetOfPaper.top (code0 : List Int) : Option ((List (ByteArray × Int × Int × Int × Int × Int × Int × Int × Int)) × ByteArray × Int × List (ByteArray × Int)) :=
  (spec_l01From.f code0).bind fun r1 =>
  (spec_l29For.f r1).bind fun r2 =>
  some (r2.1, (r2.2.1.1, (r2.2.1.2.1, r2.2.1.2.2)))
def spec_DrawNetOfPaper.fn (n : Nat) (code0 : List Int) : Option ((List (ByteArray × Int × Int × Int × Int × Int × Int × Int × Int)) × ByteArray × Int × List (ByteArray × Int)) := spec_DrawNetOfPaper.top code0
def spec_DrawNetOfPaper.f (code0 : List Int) : Option ((List (ByteArray × Int × Int × Int × Int × Int × Int × Int × Int)) × ByteArray × Int × List (ByteArray × Int)) := spec_DrawNetOfPaper.fn NN code0
end
end Go.Pl

namespace Go.Pl
open Go.Ev
set_option linter.unusedVariables false
noncomputable section
def spec_DrawPutLine.top (code0 : List Int) : Option ((ByteArray × Int × List (ByteArray × Int)) × ByteArray × Int) :=
  (spec_l01From.f code0).bind fun r1 =>
  (spec_l29Draw.f r1).bind fun r2 =>
  agree (
    agree (
      (spec_l01Next.f r2.2 5).bind fun r3 =>
      if (0 : Int) ≤ r3.1 ∧ (r3.1 : Int) < ([(⟨#[99, 111, 109, 101, 116]⟩ : ByteArray), (⟨#[112, 101, 111, 110, 121]⟩ : ByteArray), (⟨#[122, 105, 110, 110, 105, 97]⟩ : ByteArray), (⟨#[65, 115, 116, 101, 114]⟩ : ByteArray), (⟨#[119, 105, 108, 108, 111, 119]⟩ : ByteArray)]).length then
        (spec_l01Next.f r3.2 20).bind fun r4 =>
        (spec_l01Pick.f r4.2 ([IntKind.i64.wrap (1 + r4.1), 1, 1000, 1001, 0])).bind fun r5 =>
        some ((r2.1.1, (r2.1.2.1, r2.1.2.2)), ([(⟨#[99, 111, 109, 101, 116]⟩ : ByteArray), (⟨#[112, 101, 111, 110, 121]⟩ : ByteArray), (⟨#[122, 105, 110, 110, 105, 97]⟩ : ByteArray), (⟨#[65, 115, 116, 101, 114]⟩ : ByteArray), (⟨#[119, 105, 108, 108, 111, 119]⟩ : ByteArray)]).getD (r3.1 : Int).toNat ByteArray.empty, r5.1)
      else
        none
    ) (
      (spec_l01Next.f r2.2 5).bind fun r3 =>
      agree (
        if (0 : Int) ≤ r3.1 ∧ (r3.1 : Int) < ([(⟨#[99, 111, 109, 101, 116]⟩ : ByteArray), (⟨#[112, 101, 111, 110, 121]⟩ : ByteArray), (⟨#[122, 105, 110, 110, 105, 97]⟩ : ByteArray), (⟨#[65, 115, 116, 101, 114]⟩ : ByteArray), (⟨#[119, 105, 108, 108, 111, 119]⟩ : ByteArray)]).length then
          (spec_l01Next.f r3.2 20).bind fun r4 =>
          (spec_l01Pick.f r4.2 ([IntKind.i64.wrap (1 + r4.1), 1, 1000, 1001, 0])).bind fun r5 =>
          some ((r2.1.1, (r2.1.2.1, r2.1.2.2)), ([(⟨#[99, 111, 109, 101, 116]⟩ : ByteArray), (⟨#[112, 101, 111, 110, 121]⟩ : ByteArray), (⟨#[122, 105, 110, 110, 105, 97]⟩ : ByteArray), (⟨#[65, 115, 116, 101, 114]⟩ : ByteArray), (⟨#[119, 105, 108, 108, 111, 119]⟩ : ByteArray)]).getD (r3.1 : Int).toNat ByteArray.empty, r5.1)
        else
          none
      ) (
        (spec_l01Next.f r3.2 20).bind fun r4 =>
        agree (
          if (0 : Int) ≤ r3.1 ∧ (r3.1 : Int) < ([(⟨#[99, 111, 109, 101, 116]⟩ : ByteArray), (⟨#[112, 101, 111, 110, 121]⟩ : ByteArray), (⟨#[122, 105, 110, 110, 105, 97]⟩ : ByteArray), (⟨#[65, 115, 116, 101, 114]⟩ : ByteArray), (⟨#[119, 105, 108, 108, 111, 119]⟩ : ByteArray)]).length then
            (spec_l01Pick.f r4.2 ([IntKind.i64.wrap (1 + r4.1), 1, 1000, 1001, 0])).bind fun r5 =>
            some ((r2.1.1, (r2.1.2.1, r2.1.2.2)), ([(⟨#[99, 111, 109, 101, 116]⟩ : ByteArray), (⟨#[112, 101, 111, 110, 121]⟩ : ByteArray), (⟨#[122, 105, 110, 110, 105, 97]⟩ : ByteArray), (⟨#[65, 115, 116, 101, 114]⟩ : ByteArray), (⟨#[119, 105, 108, 108, 111, 119]⟩ : ByteArray)]).getD (r3.1 : Int).toNat ByteArray.empty, r5.1)
          else
            none
        ) (
          agree (
            if (0 : Int) ≤ r3.1 ∧ (r3.1 : Int) < ([(⟨#[99, 111, 109, 101, 116]⟩ : ByteArray), (⟨#[112, 101, 111, 110, 121]⟩ : ByteArray), (⟨#[122, 105, 110, 110, 105, 97]⟩ : ByteArray), (⟨#[65, 115, 116, 101, 114]⟩ : ByteArray), (⟨#[119, 105, 108, 108, 111, 119]⟩ : ByteArray)]).length then
              (spec_l01Pick.f r4.2 ([IntKind.i64.wrap (1 + r4.1), 1, 1000, 1001, 0])).bind fun r5 =>
              some ((r2.1.1, (r2.1.2.1, r2.1.2.2)), ([(⟨#[99, 111, 109, 101, 116]⟩ : ByteArray), (⟨#[112, 101, 111, 110, 121]⟩ : ByteArray), (⟨#[122, 105, 110, 110, 105, 97]⟩ : ByteArray), (⟨#[65, 115, 116, 101, 114]⟩ : ByteArray), (⟨#[119, 105, 108, 108, 111, 119]⟩ : ByteArray)]).getD (r3.1 : Int).toNat ByteArray.empty, r5.1)
            else
              none
          ) (
            (spec_l01Pick.f r4.2 ([IntKind.i64.wrap (1 + r4.1), 1, 1000, 1001, 0])).bind fun r5 =>
            if (0 : Int) ≤ r3.1 ∧ (r3.1 : Int) < ([(⟨#[99, 111, 109, 101, 116]⟩ : ByteArray), (⟨#[112, 101, 111, 110, 121]⟩ : ByteArray), (⟨#[122, 105, 110, 110, 105, 97]⟩ : ByteArray), (⟨#[65, 115, 116, 101, 114]⟩ : ByteArray), (⟨#[119, 105, 108, 108, 111, 119]⟩ : ByteArray)]).length then
              some ((r2.1.1, (r2.1.2.1, r2.1.2.2)), ([(⟨#[99, 111, 109, 101, 116]⟩ : ByteArray), (⟨#[112, 101, 111, 110, 121]⟩ : ByteArray), (⟨#[122, 105, 110, 110, 105, 97]⟩ : ByteArray), (⟨#[65, 115, 116, 101, 114]⟩ : ByteArray), (⟨#[119, 105, 108, 108, 111, 119]⟩ : ByteArray)]).getD (r3.1 : Int).toNat ByteArray.empty, r5.1)
            else
              none
          )
        )
      )
    )
  ) (
    agree (
      (spec_l01Next.f r2.2 5).bind fun r3 =>
      if (0 : Int) ≤ r3.1 ∧ (r3.1 : Int) < ([(⟨#[99, 111, 109, 101, 116]⟩ : ByteArray), (⟨#[112, 101, 111, 110, 121]⟩ : ByteArray), (⟨#[122, 105, 110, 110, 105, 97]⟩ : ByteArray), (⟨#[65, 115, 116, 101, 114]⟩ : ByteArray), (⟨#[119, 105, 108, 108, 111, 119]⟩ : ByteArray)]).length then
        (spec_l01Next.f r3.2 20).bind fun r4 =>
        (spec_l01Pick.f r4.2 ([IntKind.i64.wrap (1 + r4.1), 1, 1000, 1001, 0])).bind fun r5 =>
        some ((r2.1.1, (r2.1.2.1, r2.1.2.2)), ([(⟨#[99, 111, 109, 101, 116]⟩ : ByteArray), (⟨#[112, 101, 111, 110, 121]⟩ : ByteArray), (⟨#[122, 105, 110, 110, 105, 97]⟩ : ByteArray), (⟨#[65, 115, 116, 101, 114]⟩ : ByteArray), (⟨#[119, 105, 108, 108, 111, 119]⟩ : ByteArray)]).getD (r3.1 : Int).toNat ByteArray.empty, r5.1)
      else
        none
    ) (
      (spec_l01Next.f r2.2 5).bind fun r3 =>
      agree (
        agree (
          if (0 : Int) ≤ r3.1 ∧ (r3.1 : Int) < ([(⟨#[99, 111, 109, 101, 116]⟩ : ByteArray), (⟨#[112, 101, 111, 110, 121]⟩ : ByteArray), (⟨#[122, 105, 110, 110, 105, 97]⟩ : ByteArray), (⟨#[65, 115, 116, 101, 114]⟩ : ByteArray), (⟨#[119, 105, 108, 108, 111, 119]⟩ : ByteArray)]).length then
            (spec_l01Next.f r3.2 20).bind fun r4 =>
            (spec_l01Pick.f r4.2 ([IntKind.i64.wrap (1 + r4.1), 1, 1000, 1001, 0])).bind fun r5 =>
            some ((r2.1.1, (r2.1.2.1, r2.1.2.2)), ([(⟨#[99, 111, 109, 101, 116]⟩ : ByteArray), (⟨#[112, 101, 111, 110, 121]⟩ : ByteArray), (⟨#[122, 105, 110, 110, 105, 97]⟩ : ByteArray), (⟨#[65, 115, 116, 101, 114]⟩ : ByteArray), (⟨#[119, 105, 108, 108, 111, 119]⟩ : ByteArray)]).getD (r3.1 : Int).toNat ByteArray.empty, r5.1)
          else
            none
        ) (
          (spec_l01Next.f r3.2 20).bind fun r4 =>
          agree (
            if (0 : Int) ≤ r3.1 ∧ (r3.1 : Int) < ([(⟨#[99, 111, 109, 101, 116]⟩ : ByteArray), (⟨#[112, 101, 111, 110, 121]⟩ : ByteArray), (⟨#[122, 105, 110, 110, 105, 97]⟩ : ByteArray), (⟨#[65, 115, 116, 101, 114]⟩ : ByteArray), (⟨#[119, 105, 108, 108, 111, 119]⟩ : ByteArray)]).length then
              (spec_l01Pick.f r4.2 ([IntKind.i64.wrap (1 + r4.1), 1, 1000, 1001, 0])).bind fun r5 =>
              some ((r2.1.1, (r2.1.2.1, r2.1.2.2)), ([(⟨#[99, 111, 109, 101, 116]⟩ : ByteArray), (⟨#[112, 101, 111, 110, 121]⟩ : ByteArray), (⟨#[122, 105, 110, 110, 105, 97]⟩ : ByteArray), (⟨#[65, 115, 116, 101, 114]⟩ : ByteArray), (⟨#[119, 105, 108, 108, 111, 119]⟩ : ByteArray)]).getD (r3.1 : Int).toNat ByteArray.empty, r5.1)
            else
              none
          ) (
            agree (
              if (0 : Int) ≤ r3.1 ∧ (r3.1 : Int) < ([(⟨#[99, 111, 109, 101, 116]⟩ : ByteArray), (⟨#[112, 101, 111, 110, 121]⟩ : ByteArray), (⟨#[122, 105, 110, 110, 105, 97]⟩ : ByteArray), (⟨#[65, 115, 116, 101, 114]⟩ : ByteArray), (⟨#[119, 105, 108, 108, 111, 119]⟩ : ByteArray)]).length then
                (spec_l01Pick.f r4.2 ([IntKind.i64.wrap (1 + r4.1), 1, 1000, 1001, 0])).bind fun r5 =>
                some ((r2.1.1, (r2.1.2.1, r2.1.2.2)), ([(⟨#[99, 111, 109, 101, 116]⟩ : ByteArray), (⟨#[112, 101, 111, 110, 121]⟩ : ByteArray), (⟨#[122, 105, 110, 110, 105, 97]⟩ : ByteArray), (⟨#[65, 115, 116, 101, 114]⟩ : ByteArray), (⟨#[119, 105, 108, 108, 111, 119]⟩ : ByteArray)]).getD (r3.1 : Int).toNat ByteArray.empty, r5.1)
              else
                none
            ) (
              (spec_l01Pick.f r4.2 ([IntKind.i64.wrap (1 + r4.1), 1, 1000, 1001, 0])).bind fun r5 =>
              if (0 : Int) ≤ r3.1 ∧ (r3.1 : Int) < ([(⟨#[99, 111, 109, 101, 116]⟩ : ByteArray), (⟨#[112, 101, 111, 110, 121]⟩ : ByteArray), (⟨#[122, 105, 110, 110, 105, 97]⟩ : ByteArray), (⟨#[65, 115, 116, 101, 114]⟩ : ByteArray), (⟨#[119, 105, 108, 108, 111, 119]⟩ : ByteArray)]).length then
                some ((r2.1.1, (r2.1.2.1, r2.1.2.2)), ([(⟨#[99, 111, 109, 101, 116]⟩ : ByteArray), (⟨#[112, 101, 111, 110, 121]⟩ : ByteArray), (⟨#[122, 105, 110, 110, 105, 97]⟩ : ByteArray), (⟨#[65, 115, 116, 101, 114]⟩ : ByteArray), (⟨#[119, 105, 108, 108, 111, 119]⟩ : ByteArray)]).getD (r3.1 : Int).toNat ByteArray.empty, r5.1)
              else
                none
            )
          )
        )
      ) (
        agree (
          if (0 : Int) ≤ r3.1 ∧ (r3.1 : Int) < ([(⟨#[99, 111, 109, 101, 116]⟩ : ByteArray), (⟨#[112, 101, 111, 110, 121]⟩ : ByteArray), (⟨#[122, 105, 110, 110, 105, 97]⟩ : ByteArray), (⟨#[65, 115, 116, 101, 114]⟩ : ByteArray), (⟨#[119, 105, 108, 108, 111, 119]⟩ : ByteArray)]).length then
            (spec_l01Next.f r3.2 20).bind fun r4 =>
            (spec_l01Pick.f r4.2 ([IntKind.i64.wrap (1 + r4.1), 1, 1000, 1001, 0])).bind fun r5 =>
            some ((r2.1.1, (r2.1.2.1, r2.1.2.2)), ([(⟨#[99, 111, 109, 101, 116]⟩ : ByteArray), (⟨#[112, 101, 111, 110, 121]⟩ : ByteArray), (⟨#[122, 105, 110, 110, 105, 97]⟩ : ByteArray), (⟨#[65, 115, 116, 101, 114]⟩ : ByteArray), (⟨#[119, 105, 108, 108, 111, 119]⟩ : ByteArray)]).getD (r3.1 : Int).toNat ByteArray.empty, r5.1)
          else
            none
        ) (
          (spec_l01Next.f r3.2 20).bind fun r4 =>
          agree (
            agree (
              if (0 : Int) ≤ r3.1 ∧ (r3.1 : Int) < ([(⟨#[99, 111, 109, 101, 116]⟩ : ByteArray), (⟨#[112, 101, 111, 110, 121]⟩ : ByteArray), (⟨#[122, 105, 110, 110, 105, 97]⟩ : ByteArray), (⟨#[65, 115, 116, 101, 114]⟩ : ByteArray), (⟨#[119, 105, 108, 108, 111, 119]⟩ : ByteArray)]).length then
                (spec_l01Pick.f r4.2 ([IntKind.i64.wrap (1 + r4.1), 1, 1000, 1001, 0])).bind fun r5 =>
                some ((r2.1.1, (r2.1.2.1, r2.1.2.2)), ([(⟨#[99, 111, 109, 101, 116]⟩ : ByteArray), (⟨#[112, 101, 111, 110, 121]⟩ : ByteArray), (⟨#[122, 105, 110, 110, 105, 97]⟩ : ByteArray), (⟨#[65, 115, 116, 101, 114]⟩ : ByteArray), (⟨#[119, 105, 108, 108, 111, 119]⟩ : ByteArray)]).getD (r3.1 : Int).toNat ByteArray.empty, r5.1)
              else
                none
            ) (
              agree (
                if (0 : Int) ≤ r3.1 ∧ (r3.1 : Int) < ([(⟨#[99, 111, 109, 101, 116]⟩ : ByteArray), (⟨#[112, 101, 111, 110, 121]⟩ : ByteArray), (⟨#[122, 105, 110, 110, 105, 97]⟩ : ByteArray), (⟨#[65, 115, 116, 101, 114]⟩ : ByteArray), (⟨#[119, 105, 108, 108, 111, 119]⟩ : ByteArray)]).length then
                  (spec_l01Pick.f r4.2 ([IntKind.i64.wrap (1 + r4.1), 1, 1000, 1001, 0])).bind fun r5 =>
                  some ((r2.1.1, (r2.1.2.1, r2.1.2.2)), ([(⟨#[99, 111, 109, 101, 116]⟩ : ByteArray), (⟨#[112, 101, 111, 110, 121]⟩ : ByteArray), (⟨#[122, 105, 110, 110, 105, 97]⟩ : ByteArray), (⟨#[65, 115, 116, 101, 114]⟩ : ByteArray), (⟨#[119, 105, 108, 108, 111, 119]⟩ : ByteArray)]).getD (r3.1 : Int).toNat ByteArray.empty, r5.1)
                else
                  none
              ) (
                (spec_l01Pick.f r4.2 ([IntKind.i64.wrap (1 + r4.1), 1, 1000, 1001, 0])).bind fun r5 =>
                if (0 : Int) ≤ r3.1 ∧ (r3.1 : Int) < ([(⟨#[99, 111, 109, 101, 116]⟩ : ByteArray), (⟨#[112, 101, 111, 110, 121]⟩ : ByteArray), (⟨#[122, 105, 110, 110, 105, 97]⟩ : ByteArray), (⟨#[65, 115, 116, 101, 114]⟩ : ByteArray), (⟨#[119, 105, 108, 108, 111, 119]⟩ : ByteArray)]).length then
                  some ((r2.1.1, (r2.1.2.1, r2.1.2.2)), ([(⟨#[99, 111, 109, 101, 116]⟩ : ByteArray), (⟨#[112, 101, 111, 110, 121]⟩ : ByteArray), (⟨#[122, 105, 110, 110, 105, 97]⟩ : ByteArray), (⟨#[65, 115, 116, 101, 114]⟩ : ByteArray), (⟨#[119, 105, 108, 108, 111, 119]⟩ : ByteArray)]).getD (r3.1 : Int).toNat ByteArray.empty, r5.1)
                else
                  none
              )
            )
          ) (
            agree (
              if (0 : Int) ≤ r3.1 ∧ (r3.1 : Int) < ([(⟨#[99, 111, 109, 101, 116]⟩ : ByteArray), (⟨#[112, 101, 111, 110, 121]⟩ : ByteArray), (⟨#[122, 105, 110, 110, 105, 97]⟩ : ByteArray), (⟨#[65, 115, 116, 101, 114]⟩ : ByteArray), (⟨#[119, 105, 108, 108, 111, 119]⟩ : ByteArray)]).length then
                (spec_l01Pick.f r4.2 ([IntKind.i64.wrap (1 + r4.1), 1, 1000, 1001, 0])).bind fun r5 =>
                some ((r2.1.1, (r2.1.2.1, r2.1.2.2)), ([(⟨#[99, 111, 109, 101, 116]⟩ : ByteArray), (⟨#[112, 101, 111, 110, 121]⟩ : ByteArray), (⟨#[122, 105, 110, 110, 105, 97]⟩ : ByteArray), (⟨#[65, 115, 116, 101, 114]⟩ : ByteArray), (⟨#[119, 105, 108, 108, 111, 119]⟩ : ByteArray)]).getD (r3.1 : Int).toNat ByteArray.empty, r5.1)
              else
                none
            ) (
              agree (
                agree (
                  if (0 : Int) ≤ r3.1 ∧ (r3.1 : Int) < ([(⟨#[99, 111, 109, 101, 116]⟩ : ByteArray), (⟨#[112, 101, 111, 110, 121]⟩ : ByteArray), (⟨#[122, 105, 110, 110, 105, 97]⟩ : ByteArray), (⟨#[65, 115, 116, 101, 114]⟩ : ByteArray), (⟨#[119, 105, 108, 108, 111, 119]⟩ : ByteArray)]).length then
                    (spec_l01Pick.f r4.2 ([IntKind.i64.wrap (1 + r4.1), 1, 1000, 1001, 0])).bind fun r5 =>
                    some ((r2.1.1, (r2.1.2.1, r2.1.2.2)), ([(⟨#[99, 111, 109, 101, 116]⟩ : ByteArray), (⟨#[112, 101, 111, 110, 121]⟩ : ByteArray), (⟨#[122, 105, 110, 110, 105, 97]⟩ : ByteArray), (⟨#[65, 115, 116, 101, 114]⟩ : ByteArray), (⟨#[119, 105, 108, 108, 111, 119]⟩ : ByteArray)]).getD (r3.1 : Int).toNat ByteArray.empty, r5.1)
                  else
                    none
                ) (
                  (spec_l01Pick.f r4.2 ([IntKind.i64.wrap (1 + r4.1), 1, 1000, 1001, 0])).bind fun r5 =>
                  if (0 : Int) ≤ r3.1 ∧ (r3.1 : Int) < ([(⟨#[99, 111, 109, 101, 116]⟩ : ByteArray), (⟨#[112, 101, 111, 110, 121]⟩ : ByteArray), (⟨#[122, 105, 110, 110, 105, 97]⟩ : ByteArray), (⟨#[65, 115, 116, 101, 114]⟩ : ByteArray), (⟨#[119, 105, 108, 108, 111, 119]⟩ : ByteArray)]).length then
                    some ((r2.1.1, (r2.1.2.1, r2.1.2.2)), ([(⟨#[99, 111, 109, 101, 116]⟩ : ByteArray), (⟨#[112, 101, 111, 110, 121]⟩ : ByteArray), (⟨#[122, 105, 110, 110, 105, 97]⟩ : ByteArray), (⟨#[65, 115, 116, 101, 114]⟩ : ByteArray), (⟨#[119, 105, 108, 108, 111, 119]⟩ : ByteArray)]).getD (r3.1 : Int).toNat ByteArray.empty, r5.1)
                  else
                    none
                )
              ) (
                agree (
                  if (0 : Int) ≤ r3.1 ∧ (r3.1 : Int) < ([(⟨#[99, 111, 109, 101, 116]⟩ : ByteArray), (⟨#[112, 101, 111, 110, 121]⟩ : ByteArray), (⟨#[122, 105, 110, 110, 105, 97]⟩ : ByteArray), (⟨#[65, 115, 116, 101, 114]⟩ : ByteArray), (⟨#[119, 105, 108, 108, 111, 119]⟩ : ByteArray)]).length then
                    (spec_l01Pick.f r4.2 ([IntKind.i64.wrap (1 + r4.1), 1, 1000, 1001, 0])).bind fun r5 =>
                    some ((r2.1.1, (r2.1.2.1, r2.1.2.2)), ([(⟨#[99, 111, 109, 101, 116]⟩ : ByteArray), (⟨#[112, 101, 111, 110, 121]⟩ : ByteArray), (⟨#[122, 105, 110, 110, 105, 97]⟩ : ByteArray), (⟨#[65, 115, 116, 101, 114]⟩ : ByteArray), (⟨#[119, 105, 108, 108, 111, 119]⟩ : ByteArray)]).getD (r3.1 : Int).toNat ByteArray.empty, r5.1)
                  else
                    none
                ) (
                  (spec_l01Pick.f r4.2 ([IntKind.i64.wrap (1 + r4.1), 1, 1000, 1001, 0])).bind fun r5 =>
                  if (0 : Int) ≤ r3.1 ∧ (r3.1 : Int) < ([(⟨#[99, 111, 109, 101, 116]⟩ : ByteArray), (⟨#[112, 101, 111, 110, 121]⟩ : ByteArray), (⟨#[122, 105, 110, 110, 105, 97]⟩ : ByteArray), (⟨#[65, 115, 116, 101, 114]⟩ : ByteArray), (⟨#[119, 105, 108, 108, 111, 119]⟩ : ByteArray)]).length then
                    some ((r2.1.1, (r2.1.2.1, r2.1.2.2)), ([(⟨#[99, 111, 109, 101, 116]⟩ : ByteArray), (⟨#[112, 101, 111, 110, 121]⟩ : ByteArray), (⟨#[122, 105, 110, 110, 105, 97]⟩ : ByteArray), (⟨#[65, 115, 116, 101, 114]⟩ : ByteArray), (⟨#[119, 105, 108, 108, 111, 119]⟩ : ByteArray)]).getD (r3.1 : Int).toNat ByteArray.empty, r5.1)
                  else
                    none
                )
              )
            )
          )
        )
      )
    )
  )
def spec_DrawPutLine.fn (n : Nat) (code0 : List Int) : Option ((ByteArray × Int × List (ByteArray × Int)) × ByteArray × Int) := spec_DrawPutLine.top code0
def spec_DrawPutLine.f (code0 : List Int) : Option ((ByteArray × Int × List (ByteArray × Int)) × ByteArray × Int) := spec_DrawPutLine.fn NN code0
end
end Go.Pl

namespace Go.Pl
open Go.Ev
set_option linter.unusedVariables false
noncomputable section
def spec_NetOfPaper.g6 (L6 : (List (ByteArray × Int × Int × Int × Int × Int × Int × Int × Int)) → Int → Int → (ByteArray × Int × List (ByteArray × Int)) → Option (Int × Int)) (list0 : List (ByteArray × Int × Int × Int × Int × Int × Int × Int × Int)) (n7 : Int) (i8 : Int) (p3 : ByteArray × Int × List (ByteArray × Int)) : Option (Int × Int) :=
  if (decide ((i8 : Int) < (p3.2.2.length : Int))) = true then
    if (0 : Int) ≤ i8 ∧ (i8 : Int) < p3.2.2.length then
      if (0 : Int) ≤ i8 ∧ (i8 : Int) < p3.2.2.length then
        (spec_l03Find.f list0 ((p3.2.2.getD (i8 : Int).toNat (ByteArray.empty, 0)).1)).bind fun r2 =>
        if (0 : Int) ≤ r2 ∧ (r2 : Int) < list0.length then
          L6 list0 (IntKind.i64.wrap (n7 + (IntKind.i64.wrap ((((((((((list0.getD (r2 : Int).toNat (ByteArray.empty, (0, (0, (0, (0, (0, (0, (0, 0))))))))).2).2).2).2).2).2).2).1) * ((p3.2.2.getD (i8 : Int).toNat (ByteArray.empty, 0)).2))))) (IntKind.i64.wrap (i8 + 1)) p3
        else
          none
      else
        none
    else
      none
  else
    some (n7, 0)
def spec_NetOfPaper.l6 (n : Nat) : Nat → (List (ByteArray × Int × Int × Int × Int × Int × Int × Int × Int)) → Int → Int → (ByteArray × Int × List (ByteArray × Int)) → Option (Int × Int)
  | 0 => fun _ _ _ _ => none
  | k + 1 => spec_NetOfPaper.g6 (spec_NetOfPaper.l6 n k)
def spec_NetOfPaper.top (I6 : (List (ByteArray × Int × Int × Int × Int × Int × Int × Int × Int)) → Int → Int → (ByteArray × Int × List (ByteArray × Int)) → Option (Int × Int)) (list0 : List (ByteArray × Int × Int × Int × Int × Int × Int × Int × Int)) (p1 : ByteArray × Int × List (ByteArray × Int)) : Option (Int × Int) :=
  (spec_l29True.f list0 p1).bind fun r1 =>
  if ((r1 : Int) != 0) = true then
    some (0, r1)
  else
    I6 list0 0 0 p1
def spec_NetOfPaper.fn (n : Nat) (list0 : List (ByteArray × Int × Int × Int × Int × Int × Int × Int × Int)) (p1 : ByteArray × Int × List (ByteArray × Int)) : Option (Int × Int) := spec_NetOfPaper.top (spec_NetOfPaper.l6 n n) list0 p1
def spec_NetOfPaper.f (list0 : List (ByteArray × Int × Int × Int × Int × Int × Int × Int × Int)) (p1 : ByteArray × Int × List (ByteArray × Int)) : Option (Int × Int) := spec_NetOfPaper.fn NN list0 p1
end
end Go.Pl

namespace Go.Pl
open Go.Ev
set_option linter.unusedVariables false
noncomputable section
def spec_l29Put.g2 (L2 : (List (ByteArray × Int)) → ByteArray → Int → Int → Option (List (ByteArray × Int))) (lines0 : List (ByteArray × Int)) (article1 : ByteArray) (count2 : Int) (at7 : Int) : Option (List (ByteArray × Int)) :=
  if (decide ((at7 : Int) < (lines0.length : Int))) = true then
    if (0 : Int) ≤ at7 ∧ (at7 : Int) < lines0.length then
      if (Op.bytesLess ((lines0.getD (at7 : Int).toNat (ByteArray.empty, 0)).1).toList article1.toList) = true then
        L2 lines0 article1 count2 (IntKind.i64.wrap (at7 + 1))
      else if (decide ((at7 : Int) < (lines0.length : Int))) = true then
        if (0 : Int) ≤ at7 ∧ (at7 : Int) < lines0.length then
          if (((lines0.getD (at7 : Int).toNat (ByteArray.empty, 0)).1).toList == article1.toList) = true then
            if (0 : Int) ≤ at7 ∧ (at7 : Int) < lines0.length then
              if (0 : Int) ≤ at7 ∧ (at7 : Int) ≤ lines0.length then
                if (0 : Int) ≤ (IntKind.i64.wrap (at7 + 1)) ∧ ((IntKind.i64.wrap (at7 + 1)) : Int) ≤ lines0.length then
                  if ([] : List (ByteArray × Int)).length + (lines0.take (at7 : Int).toNat).length < room 24 then
                    if (([] : List (ByteArray × Int)) ++ (lines0.take (at7 : Int).toNat)).length + ([(article1, IntKind.i64.wrap (count2 + ((lines0.getD (at7 : Int).toNat (ByteArray.empty, 0)).2)))]).length < room 24 then
                      if ((([] : List (ByteArray × Int)) ++ (lines0.take (at7 : Int).toNat)) ++ ([(article1, IntKind.i64.wrap (count2 + ((lines0.getD (at7 : Int).toNat (ByteArray.empty, 0)).2)))])).length + (lines0.drop ((IntKind.i64.wrap (at7 + 1)) : Int).toNat).length < room 24 then
                        some (((([] : List (ByteArray × Int)) ++ (lines0.take (at7 : Int).toNat)) ++ ([(article1, IntKind.i64.wrap (count2 + ((lines0.getD (at7 : Int).toNat (ByteArray.empty, 0)).2)))])) ++ (lines0.drop ((IntKind.i64.wrap (at7 + 1)) : Int).toNat))
                      else
                        none
                    else
                      none
                  else
                    none
                else
                  none
              else
                none
            else
              none
          else if (0 : Int) ≤ at7 ∧ (at7 : Int) ≤ lines0.length then
            if (0 : Int) ≤ at7 ∧ (at7 : Int) ≤ lines0.length then
              if ([] : List (ByteArray × Int)).length + (lines0.take (at7 : Int).toNat).length < room 24 then
                if (([] : List (ByteArray × Int)) ++ (lines0.take (at7 : Int).toNat)).length + ([(article1, count2)]).length < room 24 then
                  if ((([] : List (ByteArray × Int)) ++ (lines0.take (at7 : Int).toNat)) ++ ([(article1, count2)])).length + (lines0.drop (at7 : Int).toNat).length < room 24 then
                    some (((([] : List (ByteArray × Int)) ++ (lines0.take (at7 : Int).toNat)) ++ ([(article1, count2)])) ++ (lines0.drop (at7 : Int).toNat))
                  else
                    none
                else
                  none
              else
                none
            else
              none
          else
            none
        else
          none
      else if (0 : Int) ≤ at7 ∧ (at7 : Int) ≤ lines0.length then
        if (0 : Int) ≤ at7 ∧ (at7 : Int) ≤ lines0.length then
          if ([] : List (ByteArray × Int)).length + (lines0.take (at7 : Int).toNat).length < room 24 then
            if (([] : List (ByteArray × Int)) ++ (lines0.take (at7 : Int).toNat)).length + ([(article1, count2)]).length < room 24 then
              if ((([] : List (ByteArray × Int)) ++ (lines0.take (at7 : Int).toNat)) ++ ([(article1, count2)])).length + (lines0.drop (at7 : Int).toNat).length < room 24 then
                some (((([] : List (ByteArray × Int)) ++ (lines0.take (at7 : Int).toNat)) ++ ([(article1, count2)])) ++ (lines0.drop (at7 : Int).toNat))
              else
                none
            else
              none
          else
            none
        else
          none
      else
        none
    else
      none
  else if (decide ((at7 : Int) < (lines0.length : Int))) = true then
    if (0 : Int) ≤ at7 ∧ (at7 : Int) < lines0.length then
      if (((lines0.getD (at7 : Int).toNat (ByteArray.empty, 0)).1).toList == article1.toList) = true then
        if (0 : Int) ≤ at7 ∧ (at7 : Int) < lines0.length then
          if (0 : Int) ≤ at7 ∧ (at7 : Int) ≤ lines0.length then
            if (0 : Int) ≤ (IntKind.i64.wrap (at7 + 1)) ∧ ((IntKind.i64.wrap (at7 + 1)) : Int) ≤ lines0.length then
              if ([] : List (ByteArray × Int)).length + (lines0.take (at7 : Int).toNat).length < room 24 then
                if (([] : List (ByteArray × Int)) ++ (lines0.take (at7 : Int).toNat)).length + ([(article1, IntKind.i64.wrap (count2 + ((lines0.getD (at7 : Int).toNat (ByteArray.empty, 0)).2)))]).length < room 24 then
                  if ((([] : List (ByteArray × Int)) ++ (lines0.take (at7 : Int).toNat)) ++ ([(article1, IntKind.i64.wrap (count2 + ((lines0.getD (at7 : Int).toNat (ByteArray.empty, 0)).2)))])).length + (lines0.drop ((IntKind.i64.wrap (at7 + 1)) : Int).toNat).length < room 24 then
                    some (((([] : List (ByteArray × Int)) ++ (lines0.take (at7 : Int).toNat)) ++ ([(article1, IntKind.i64.wrap (count2 + ((lines0.getD (at7 : Int).toNat (ByteArray.empty, 0)).2)))])) ++ (lines0.drop ((IntKind.i64.wrap (at7 + 1)) : Int).toNat))
                  else
                    none
                else
                  none
              else
                none
            else
              none
          else
            none
        else
          none
      else if (0 : Int) ≤ at7 ∧ (at7 : Int) ≤ lines0.length then
        if (0 : Int) ≤ at7 ∧ (at7 : Int) ≤ lines0.length then
          if ([] : List (ByteArray × Int)).length + (lines0.take (at7 : Int).toNat).length < room 24 then
            if (([] : List (ByteArray × Int)) ++ (lines0.take (at7 : Int).toNat)).length + ([(article1, count2)]).length < room 24 then
              if ((([] : List (ByteArray × Int)) ++ (lines0.take (at7 : Int).toNat)) ++ ([(article1, count2)])).length + (lines0.drop (at7 : Int).toNat).length < room 24 then
                some (((([] : List (ByteArray × Int)) ++ (lines0.take (at7 : Int).toNat)) ++ ([(article1, count2)])) ++ (lines0.drop (at7 : Int).toNat))
              else
                none
            else
              none
          else
            none
        else
          none
      else
        none
    else
      none
  else if (0 : Int) ≤ at7 ∧ (at7 : Int) ≤ lines0.length then
    if (0 : Int) ≤ at7 ∧ (at7 : Int) ≤ lines0.length then
      if ([] : List (ByteArray × Int)).length + (lines0.take (at7 : Int).toNat).length < room 24 then
        if (([] : List (ByteArray × Int)) ++ (lines0.take (at7 : Int).toNat)).length + ([(article1, count2)]).length < room 24 then
          if ((([] : List (ByteArray × Int)) ++ (lines0.take (at7 : Int).toNat)) ++ ([(article1, count2)])).length + (lines0.drop (at7 : Int).toNat).length < room 24 then
            some (((([] : List (ByteArray × Int)) ++ (lines0.take (at7 : Int).toNat)) ++ ([(article1, count2)])) ++ (lines0.drop (at7 : Int).toNat))
          else
            none
        else
          none
      else
        none
    else
      none
  else
    none
def spec_l29Put.l2 (n : Nat) : Nat → (List (ByteArray × Int)) → ByteArray → Int → Int → Option (List (ByteArray × Int))
  | 0 => fun _ _ _ _ => none
  | k + 1 => spec_l29Put.g2 (spec_l29Put.l2 n k)
def spec_l29Put.top (I2 : (List (ByteArray × Int)) → ByteArray → Int → Int → Option (List (ByteArray × Int))) (lines0 : List (ByteArray × Int)) (article1 : ByteArray) (count2 : Int) : Option (List (ByteArray × Int)) :=
  I2 lines0 article1 count2 0
def spec_l29Put.fn (n : Nat) (lines0 : List (ByteArray × Int)) (article1 : ByteArray) (count2 : Int) : Option (List (ByteArray × Int)) := spec_l29Put.top (spec_l29Put.l2 n n) lines0 article1 count2
def spec_l29Put.f (lines0 : List (ByteArray × Int)) (article1 : ByteArray) (count2 : Int) : Option (List (ByteArray × Int)) := spec_l29Put.fn NN lines0 article1 count2
end
end Go.Pl

namespace Go.Pl
open Go.Ev
set_option linter.unusedVariables false
noncomputable section
def spec_PutLine.top (p0 : ByteArray × Int × List (ByteArray × Int)) (article1 : ByteArray) (count2 : Int) : Option ((ByteArray × Int × List (ByteArray × Int)) × Int) :=
  (spec_IsPaper.f p0).bind fun r1 =>
  if (!r1) = false then
    (spec_IsWord.f article1).bind fun r2 =>
    if (!r2) = true then
      some ((ByteArray.empty, (0, [])), 1)
    else
      (spec_l01In.f count2 1 1000).bind fun r3 =>
      if (!r3) = true then
        some ((ByteArray.empty, (0, [])), 2)
      else
        (spec_l29Find.f p0 article1).bind fun r4 =>
        if ([] : List (ByteArray × Int)).length + p0.2.2.length < room 24 then
          if (decide ((0 : Int) ≤ r4)) = true then
            if (0 : Int) ≤ r4 ∧ (r4 : Int) < (([] : List (ByteArray × Int)) ++ p0.2.2).length then
              (some ((([] : List (ByteArray × Int)) ++ p0.2.2).set (r4 : Int).toNat (((([] : List (ByteArray × Int)) ++ p0.2.2).getD (r4 : Int).toNat (ByteArray.empty, 0)).1, count2))).bind fun r5 =>
              some ((p0.1, (p0.2.1, r5)), 0)
            else
              none
          else
            (spec_l29Put.f (([] : List (ByteArray × Int)) ++ p0.2.2) article1 count2).bind fun r6 =>
            (spec_IsPaper.f (p0.1, (p0.2.1, r6))).bind fun r7 =>
            if (!r7) = true then
              some ((ByteArray.empty, (0, [])), 3)
            else
              some ((p0.1, (p0.2.1, r6)), 0)
        else
          none
  else
    some ((ByteArray.empty, (0, [])), 1)
def spec_PutLine.fn (n : Nat) (p0 : ByteArray × Int × List (ByteArray × Int)) (article1 : ByteArray) (count2 : Int) : Option ((ByteArray × Int × List (ByteArray × Int)) × Int) := spec_PutLine.top p0 article1 count2
def spec_PutLine.f (p0 : ByteArray × Int × List (ByteArray × Int)) (article1 : ByteArray) (count2 : Int) : Option ((ByteArray × Int × List (ByteArray × Int)) × Int) := spec_PutLine.fn NN p0 article1 count2
end
end Go.Pl

namespace Go.Pl
open Go.Ev
set_option linter.unusedVariables false
noncomputable section
def laws_FnPapers.g31 (L31 : ByteArray → Int → Bool → Int → ByteArray → Int → (List (ByteArray × Int)) → Option Bool) (name4 : ByteArray) (count5 : Int) (found28 : Bool) (i29 : Int) (a6a : ByteArray) (a6ba : Int) (w1 : List (ByteArray × Int)) : Option Bool :=
  if (decide ((i29 : Int) < (w1.length : Int))) = true then
    if found28 = false then
      if (0 : Int) ≤ i29 ∧ (i29 : Int) < w1.length then
        if (((w1.getD (i29 : Int).toNat (ByteArray.empty, 0)).1).toList == name4.toList) = true then
          if (0 : Int) ≤ i29 ∧ (i29 : Int) < w1.length then
            L31 name4 count5 ((((w1.getD (i29 : Int).toNat (ByteArray.empty, 0)).2) : Int) == count5) (IntKind.i64.wrap (i29 + 1)) a6a a6ba w1
          else
            none
        else
          L31 name4 count5 false (IntKind.i64.wrap (i29 + 1)) a6a a6ba w1
      else
        none
    else
      L31 name4 count5 true (IntKind.i64.wrap (i29 + 1)) a6a a6ba w1
  else
    (impl_PutLine.f (a6a, (a6ba, w1)) name4 count5).bind fun r20 =>
    if found28 = true then
      (impl_IsPaper.f (a6a, (a6ba, w1))).bind fun r21 =>
      if r21 = true then
        if ((r20.2 : Int) == 0) = true then
          (laws_likePaper.f (r20.1.1, (r20.1.2.1, r20.1.2.2)) (a6a, (a6ba, w1))).bind fun r22 =>
          some r22
        else
          some false
      else
        some false
    else
      some false
def laws_FnPapers.l31 (n : Nat) : Nat → ByteArray → Int → Bool → Int → ByteArray → Int → (List (ByteArray × Int)) → Option Bool
  | 0 => fun _ _ _ _ _ _ _ => none
  | k + 1 => laws_FnPapers.g31 (laws_FnPapers.l31 n k)
def laws_FnPapers.g18 (I31 : ByteArray → Int → Bool → Int → ByteArray → Int → (List (ByteArray × Int)) → Option Bool) (L18 : ByteArray → Int → Int → Int → Int → Int → Int → Int → ByteArray → Int → ByteArray → Int → ByteArray → Int → ByteArray → Int → (List (Int × Int)) → (List (ByteArray × Int)) → (List (ByteArray × Int)) → (List (ByteArray × Int)) → (List (ByteArray × Int)) → Option Bool) (name4 : ByteArray) (count5 : Int) (bad7 : Int) (one11 : Int) (n16 : Int) (three17 : Int) (total24 : Int) (i25 : Int) (p3a : ByteArray) (p3ba : Int) (a6a : ByteArray) (a6ba : Int) (c10a : ByteArray) (c10ba : Int) (q15a : ByteArray) (q15ba : Int) (b20 : List (Int × Int)) (w5 : List (ByteArray × Int)) (w6 : List (ByteArray × Int)) (w7 : List (ByteArray × Int)) (w8 : List (ByteArray × Int)) : Option Bool :=
  if (decide ((i25 : Int) < (b20.length : Int))) = true then
    if (0 : Int) ≤ i25 ∧ (i25 : Int) < b20.length then
      L18 name4 count5 bad7 one11 n16 three17 (IntKind.i64.wrap (total24 + ((b20.getD (i25 : Int).toNat (0, 0)).1))) (IntKind.i64.wrap (i25 + 1)) p3a p3ba a6a a6ba c10a c10ba q15a q15ba b20 w5 w6 w7 w8
    else
      none
  else if ((three17 : Int) != 0) = false then
    if ((total24 : Int) != n16) = false then
      if (((b20.length : Int) : Int) != (w8.length : Int)) = false then
        (impl_AreBoxes.f b20).bind fun r17 =>
        if (!r17) = true then
          some false
        else if ((one11 : Int) == 0) = true then
          (impl_CutLine.f (c10a, (c10ba, w7)) name4).bind fun r18 =>
          if ((r18.2 : Int) != 4) = false then
            if (((w7.length : Int) : Int) != (IntKind.i64.wrap ((w5.length : Int) - 1))) = false then
              (impl_IsPaper.f (c10a, (c10ba, w7))).bind fun r19 =>
              if (!r19) = true then
                some false
              else if ((bad7 : Int) != 0) = true then
                some true
              else
                I31 name4 count5 false 0 a6a a6ba w6
            else
              some false
          else
            some false
        else if ((bad7 : Int) != 0) = true then
          some true
        else
          I31 name4 count5 false 0 a6a a6ba w6
      else
        some false
    else
      some false
  else
    some false
def laws_FnPapers.l18 (n : Nat) : Nat → ByteArray → Int → Int → Int → Int → Int → Int → Int → ByteArray → Int → ByteArray → Int → ByteArray → Int → ByteArray → Int → (List (Int × Int)) → (List (ByteArray × Int)) → (List (ByteArray × Int)) → (List (ByteArray × Int)) → (List (ByteArray × Int)) → Option Bool
  | 0 => fun _ _ _ _ _ _ _ _ _ _ _ _ _ _ _ _ _ _ _ _ _ => none
  | k + 1 => laws_FnPapers.g18 (laws_FnPapers.l31 n n) (laws_FnPapers.l18 n k)
def laws_FnPapers.top (I18 : ByteArray → Int → Int → Int → Int → Int → Int → Int → ByteArray → Int → ByteArray → Int → ByteArray → Int → ByteArray → Int → (List (Int × Int)) → (List (ByteArray × Int)) → (List (ByteArray × Int)) → (List (ByteArray × Int)) → (List (ByteArray × Int)) → Option Bool) (I31 : ByteArray → Int → Bool → Int → ByteArray → Int → (List (ByteArray × Int)) → Option Bool) (code0 : List Int) : Option Bool :=
  (laws_big.f code0).bind fun r1 =>
  if r1 = true then
    some true
  else
    (spec_DrawPutLine.f code0).bind fun r2 =>
    (impl_PutLine.f (r2.1.1, (r2.1.2.1, r2.1.2.2)) r2.2.1 r2.2.2).bind fun r3 =>
    (spec_PutLine.f (r2.1.1, (r2.1.2.1, r2.1.2.2)) r2.2.1 r2.2.2).bind fun r4 =>
    (impl_CutLine.f (r2.1.1, (r2.1.2.1, r2.1.2.2)) r2.2.1).bind fun r5 =>
    (spec_CutLine.f (r2.1.1, (r2.1.2.1, r2.1.2.2)) r2.2.1).bind fun r6 =>
    (spec_DrawNetOfPaper.f code0).bind fun r7 =>
    (impl_NetOfPaper.f r7.1 (r7.2.1, (r7.2.2.1, r7.2.2.2))).bind fun r8 =>
    (spec_NetOfPaper.f r7.1 (r7.2.1, (r7.2.2.1, r7.2.2.2))).bind fun r9 =>
    (impl_BoxesOf.f r7.1 (r7.2.1, (r7.2.2.1, r7.2.2.2))).bind fun r10 =>
    (spec_BoxesOf.f r7.1 (r7.2.1, (r7.2.2.1, r7.2.2.2))).bind fun r11 =>
    if ((r3.2 : Int) != r4.2) = false then
      (laws_likePaper.f (r3.1.1, (r3.1.2.1, r3.1.2.2)) (r4.1.1, (r4.1.2.1, r4.1.2.2))).bind fun r12 =>
      if (!r12) = false then
        if ((r5.2 : Int) != r6.2) = false then
          (laws_likePaper.f (r5.1.1, (r5.1.2.1, r5.1.2.2)) (r6.1.1, (r6.1.2.1, r6.1.2.2))).bind fun r13 =>
          if (!r13) = false then
            if ((r8.2 : Int) != r9.2) = false then
              if ((r8.1 : Int) != r9.1) = false then
                if ((r10.2 : Int) != r11.2) = false then
                  (laws_likeBoxes.f r10.1 r11.1).bind fun r14 =>
                  if (!r14) = true then
                    some false
                  else if ((r10.2 : Int) == 0) = true then
                    I18 r2.2.1 r2.2.2 r3.2 r5.2 r8.1 r8.2 0 0 r2.1.1 r2.1.2.1 r3.1.1 r3.1.2.1 r5.1.1 r5.1.2.1 r7.2.1 r7.2.2.1 r10.1 r2.1.2.2 r3.1.2.2 r5.1.2.2 r7.2.2.2
                  else if ((r5.2 : Int) == 0) = true then
                    (impl_CutLine.f (r5.1.1, (r5.1.2.1, r5.1.2.2)) r2.2.1).bind fun r15 =>
                    if ((r15.2 : Int) != 4) = false then
                      if (((r5.1.2.2.length : Int) : Int) != (IntKind.i64.wrap ((r2.1.2.2.length : Int) - 1))) = false then
                        (impl_IsPaper.f (r5.1.1, (r5.1.2.1, r5.1.2.2))).bind fun r16 =>
                        if (!r16) = true then
                          some false
                        else if ((r3.2 : Int) != 0) = true then
                          some true
                        else
                          I31 r2.2.1 r2.2.2 false 0 r3.1.1 r3.1.2.1 r3.1.2.2
                      else
                        some false
                    else
                      some false
                  else if ((r3.2 : Int) != 0) = true then
                    some true
                  else
                    I31 r2.2.1 r2.2.2 false 0 r3.1.1 r3.1.2.1 r3.1.2.2
                else
                  some false
              else
                some false
            else
              some false
          else
            some false
        else
          some false
      else
        some false
    else
      some false
def laws_FnPapers.fn (n : Nat) (code0 : List Int) : Option Bool := laws_FnPapers.top (laws_FnPapers.l18 n n) (laws_FnPapers.l31 n n) code0
def laws_FnPapers.f (code0 : List Int) : Option Bool := laws_FnPapers.fn NN code0
end
end Go.Pl

namespace Go.Ev.Try
open Go.Proofs Go.Pl
set_option linter.unusedVariables false
noncomputable section
def laws_big.con : Con := { ps := [(.val, (.sl 5 (.int .u8)))], rs := [(.val, .bool)], F := fun x => laws_big.f x }
def laws_big.cs : List (FuncId × Con) := []
def laws_big.E : Env := envOf tab laws_big.cs 0 false
def laws_big.keep (i : Nat) : List Nat := []
set_option maxRecDepth 100000 in
theorem laws_big.body (n : Nat) (x : List Int) : bodyF laws_big.E laws_big.keep n Try.f29 laws_big.con x = laws_big.fn n x := by
  have h : bodyF laws_big.E laws_big.keep n Try.f29 laws_big.con x = laws_big.top x := by kernel_rfl
  exact h
set_option maxRecDepth 100000 in
theorem laws_big.good : Good Try.prog 29 laws_big.con :=
  good_of tabok (cs := laws_big.cs) trivial 0 false (fn := Try.f29) Try.func29 rfl (by decide) (by simp [laws_big.con]) laws_big.keep NN (fun _ => rfl) (fun x => laws_big.body NN x)
end
end Go.Ev.Try

namespace Go.Ev.Try
open Go.Proofs Go.Pl
set_option linter.unusedVariables false
noncomputable section
def laws_likeLines.st4 (a0 : List (ByteArray × Int)) (b1 : List (ByteArray × Int)) (i5 : Int) : St := ⟨[.dat (.sl 82 (.pair .str (.int .i64))) a0, .dat (.sl 82 (.pair .str (.int .i64))) b1, .gone, .gone, .gone, .dat (.int .i64) i5, .gone, .gone, .gone, .gone, .gone, .gone, .gone, .gone, .gone, .gone, .gone, .gone, .gone, .gone, .gone, .gone, .gone, .gone, .gone, .gone], []⟩
def laws_likeLines.con : Con := { ps := [(.val, (.sl 82 (.pair .str (.int .i64)))), (.val, (.sl 82 (.pair .str (.int .i64))))], rs := [(.val, .bool)], F := fun x => laws_likeLines.f x.1 x.2 }
def laws_likeLines.cs : List (FuncId × Con) := []
def laws_likeLines.E : Env := envOf tab laws_likeLines.cs 0 false
def laws_likeLines.keep (i : Nat) : List Nat := if i = 4 then [0, 1, 5] else []
def laws_likeLines.at4 (n : Nat) (x : (List (ByteArray × Int)) × List (ByteArray × Int)) : Code × (Ex → St → Option (Bool)) := ctx laws_likeLines.E laws_likeLines.keep n [.snd, .snd, .fst, .snd, .blk] (codeOf Try.f41) (kEnd laws_likeLines.E Try.f41 laws_likeLines.con x)
def laws_likeLines.LN4 (n : Nat) (x : (List (ByteArray × Int)) × List (ByteArray × Int)) : Nat → St → Option (Bool) := loopN (exec laws_likeLines.E laws_likeLines.keep n (bodyOf (laws_likeLines.at4 n x).1)) (St.norm 0 (laws_likeLines.keep 4)) (laws_likeLines.at4 n x).2
set_option maxRecDepth 100000 in
theorem laws_likeLines.lem4 (n : Nat) (x : (List (ByteArray × Int)) × List (ByteArray × Int)) : ∀ (k : Nat) (a0 : List (ByteArray × Int)) (b1 : List (ByteArray × Int)) (i5 : Int), laws_likeLines.LN4 n x k (laws_likeLines.st4 a0 b1 i5) = laws_likeLines.l4 n k a0 b1 i5 := by
  intro k
  induction k with
  | zero => intro a0 b1 i5; rfl
  | succ k ih =>
    intro a0 b1 i5
    have h : laws_likeLines.LN4 n x (k + 1) (laws_likeLines.st4 a0 b1 i5) = laws_likeLines.g4 (fun a0 b1 i5 => laws_likeLines.LN4 n x k (laws_likeLines.st4 a0 b1 i5)) a0 b1 i5 := by kernel_rfl
    rw [h]
    simp only [ih]
    rfl
set_option maxRecDepth 100000 in
theorem laws_likeLines.body (n : Nat) (x : (List (ByteArray × Int)) × List (ByteArray × Int)) : bodyF laws_likeLines.E laws_likeLines.keep n Try.f41 laws_likeLines.con x = laws_likeLines.fn n x.1 x.2 := by
  have h : bodyF laws_likeLines.E laws_likeLines.keep n Try.f41 laws_likeLines.con x = laws_likeLines.top (fun a0 b1 i5 => laws_likeLines.LN4 n x n (laws_likeLines.st4 a0 b1 i5)) x.1 x.2 := by kernel_rfl
  rw [h]
  simp only [laws_likeLines.lem4]
  rfl
set_option maxRecDepth 100000 in
theorem laws_likeLines.good : Good Try.prog 41 laws_likeLines.con :=
  good_of tabok (cs := laws_likeLines.cs) trivial 0 false (fn := Try.f41) Try.func41 rfl (by decide) (by simp [laws_likeLines.con]) laws_likeLines.keep NN (fun _ => rfl) (fun x => laws_likeLines.body NN x)
end
end Go.Ev.Try

namespace Go.Ev.Try
open Go.Proofs Go.Pl
set_option linter.unusedVariables false
noncomputable section
def laws_likePaper.con : Con := { ps := [(.val, (.pair .str (.pair (.int .i64) (.sl 82 (.pair .str (.int .i64)))))), (.val, (.pair .str (.pair (.int .i64) (.sl 82 (.pair .str (.int .i64))))))], rs := [(.val, .bool)], F := fun x => laws_likePaper.f x.1 x.2 }
def laws_likePaper.cs : List (FuncId × Con) := [(41, laws_likeLines.con)]
def laws_likePaper.E : Env := envOf tab laws_likePaper.cs 0 false
def laws_likePaper.keep (i : Nat) : List Nat := []
set_option maxRecDepth 100000 in
theorem laws_likePaper.body (n : Nat) (x : (ByteArray × Int × List (ByteArray × Int)) × ByteArray × Int × List (ByteArray × Int)) : bodyF laws_likePaper.E laws_likePaper.keep n Try.f40 laws_likePaper.con x = laws_likePaper.fn n x.1 x.2 := by
  have h : bodyF laws_likePaper.E laws_likePaper.keep n Try.f40 laws_likePaper.con x = laws_likePaper.top x.1 x.2 := by kernel_rfl
  exact h
set_option maxRecDepth 100000 in
theorem laws_likePaper.good : Good Try.prog 40 laws_likePaper.con :=
  good_of tabok (cs := laws_likePaper.cs) ⟨laws_likeLines.good, trivial⟩ 0 false (fn := Try.f40) Try.func40 rfl (by decide) (by simp [laws_likePaper.con]) laws_likePaper.keep NN (fun _ => rfl) (fun x => laws_likePaper.body NN x)
end
end Go.Ev.Try

namespace Go.Ev.Try
open Go.Proofs Go.Pl
set_option linter.unusedVariables false
noncomputable section
def impl_IsWord.st4 (s0 : ByteArray) (i3 : Int) : St := ⟨[.dat .str s0, .gone, .gone, .dat (.int .i64) i3, .gone, .gone, .gone, .gone, .gone, .gone, .gone, .gone, .gone, .gone, .gone, .gone, .gone, .gone, .gone, .gone, .gone, .gone, .gone, .gone, .gone, .gone, .gone, .gone], []⟩
def impl_IsWord.con : Con := { ps := [(.val, .str)], rs := [(.val, .bool)], F := fun x => impl_IsWord.f x }
def impl_IsWord.cs : List (FuncId × Con) := []
def impl_IsWord.E : Env := envOf tab impl_IsWord.cs 0 false
def impl_IsWord.keep (i : Nat) : List Nat := if i = 4 then [0, 3] else []
def impl_IsWord.at4 (n : Nat) (x : ByteArray) : Code × (Ex → St → Option (Bool)) := ctx impl_IsWord.E impl_IsWord.keep n [.snd, .snd, .fst, .snd, .blk] (codeOf Try.f97) (kEnd impl_IsWord.E Try.f97 impl_IsWord.con x)
def impl_IsWord.LN4 (n : Nat) (x : ByteArray) : Nat → St → Option (Bool) := loopN (exec impl_IsWord.E impl_IsWord.keep n (bodyOf (impl_IsWord.at4 n x).1)) (St.norm 0 (impl_IsWord.keep 4)) (impl_IsWord.at4 n x).2
set_option maxRecDepth 100000 in
theorem impl_IsWord.lem4 (n : Nat) (x : ByteArray) : ∀ (k : Nat) (s0 : ByteArray) (i3 : Int), impl_IsWord.LN4 n x k (impl_IsWord.st4 s0 i3) = impl_IsWord.l4 n k s0 i3 := by
  intro k
  induction k with
  | zero => intro s0 i3; rfl
  | succ k ih =>
    intro s0 i3
    have h : impl_IsWord.LN4 n x (k + 1) (impl_IsWord.st4 s0 i3) = impl_IsWord.g4 (fun s0 i3 => impl_IsWord.LN4 n x k (impl_IsWord.st4 s0 i3)) s0 i3 := by kernel_rfl
    rw [h]
    simp only [ih]
    rfl
set_option maxRecDepth 100000 in
theorem impl_IsWord.body (n : Nat) (x : ByteArray) : bodyF impl_IsWord.E impl_IsWord.keep n Try.f97 impl_IsWord.con x = impl_IsWord.fn n x := by
  have h : bodyF impl_IsWord.E impl_IsWord.keep n Try.f97 impl_IsWord.con x = impl_IsWord.top (fun s0 i3 => impl_IsWord.LN4 n x n (impl_IsWord.st4 s0 i3)) x := by kernel_rfl
  rw [h]
  simp only [impl_IsWord.lem4]
  rfl
set_option maxRecDepth 100000 in
theorem impl_IsWord.good : Good Try.prog 97 impl_IsWord.con :=
  good_of tabok (cs := impl_IsWord.cs) trivial 0 false (fn := Try.f97) Try.func97 rfl (by decide) (by simp [impl_IsWord.con]) impl_IsWord.keep NN (fun _ => rfl) (fun x => impl_IsWord.body NN x)
end
end Go.Ev.Try

namespace Go.Ev.Try
open Go.Proofs Go.Pl
set_option linter.unusedVariables false
noncomputable section
def impl_within.con : Con := { ps := [(.val, (.int .i64)), (.val, (.int .i64)), (.val, (.int .i64))], rs := [(.val, .bool)], F := fun x => impl_within.f x.1 x.2.1 x.2.2 }
def impl_within.cs : List (FuncId × Con) := []
def impl_within.E : Env := envOf tab impl_within.cs 0 false
def impl_within.keep (i : Nat) : List Nat := []
set_option maxRecDepth 100000 in
theorem impl_within.body (n : Nat) (x : Int × Int × Int) : bodyF impl_within.E impl_within.keep n Try.f90 impl_within.con x = impl_within.fn n x.1 x.2.1 x.2.2 := by
  have h : bodyF impl_within.E impl_within.keep n Try.f90 impl_within.con x = impl_within.top x.1 x.2.1 x.2.2 := by kernel_rfl
  exact h
set_option maxRecDepth 100000 in
theorem impl_within.good : Good Try.prog 90 impl_within.con :=
  good_of tabok (cs := impl_within.cs) trivial 0 false (fn := Try.f90) Try.func90 rfl (by decide) (by simp [impl_within.con]) impl_within.keep NN (fun _ => rfl) (fun x => impl_within.body NN x)
end
end Go.Ev.Try

namespace Go.Ev.Try
open Go.Proofs Go.Pl
set_option linter.unusedVariables false
noncomputable section
def impl_areLines.st4 (lines0 : List (ByteArray × Int)) (v8 : List (ByteArray × Int)) (v9 : Int) (v10 : Int) : St := ⟨[.dat (.sl 82 (.pair .str (.int .i64))) lines0, .gone, .gone, .gone, .gone, .gone, .gone, .gone, .dat (.sl 82 (.pair .str (.int .i64))) v8, .dat (.int .i64) v9, .dat (.int .i64) v10, .gone, .gone, .gone, .gone, .gone, .gone, .gone, .gone, .gone, .gone, .gone, .gone, .gone, .gone, .gone, .gone, .gone, .gone, .gone, .gone, .gone, .gone, .gone, .gone, .gone, .gone, .gone, .gone, .gone, .gone], []⟩
def impl_areLines.con : Con := { ps := [(.val, (.sl 82 (.pair .str (.int .i64))))], rs := [(.val, .bool)], F := fun x => impl_areLines.f x }
def impl_areLines.cs : List (FuncId × Con) := [(90, impl_within.con), (97, impl_IsWord.con)]
def impl_areLines.E : Env := envOf tab impl_areLines.cs 0 false
def impl_areLines.keep (i : Nat) : List Nat := if i = 4 then [0, 8, 9, 10] else []
def impl_areLines.at4 (n : Nat) (x : List (ByteArray × Int)) : Code × (Ex → St → Option (Bool)) := ctx impl_areLines.E impl_areLines.keep n [.snd, .snd, .fst, .snd, .blk] (codeOf Try.f101) (kEnd impl_areLines.E Try.f101 impl_areLines.con x)
def impl_areLines.LN4 (n : Nat) (x : List (ByteArray × Int)) : Nat → St → Option (Bool) := loopN (exec impl_areLines.E impl_areLines.keep n (bodyOf (impl_areLines.at4 n x).1)) (St.norm 0 (impl_areLines.keep 4)) (impl_areLines.at4 n x).2
set_option maxRecDepth 100000 in
theorem impl_areLines.lem4 (n : Nat) (x : List (ByteArray × Int)) : ∀ (k : Nat) (lines0 : List (ByteArray × Int)) (v8 : List (ByteArray × Int)) (v9 : Int) (v10 : Int), impl_areLines.LN4 n x k (impl_areLines.st4 lines0 v8 v9 v10) = impl_areLines.l4 n k lines0 v8 v9 v10 := by
  intro k
  induction k with
  | zero => intro lines0 v8 v9 v10; rfl
  | succ k ih =>
    intro lines0 v8 v9 v10
    have h : impl_areLines.LN4 n x (k + 1) (impl_areLines.st4 lines0 v8 v9 v10) = impl_areLines.g4 (fun lines0 v8 v9 v10 => impl_areLines.LN4 n x k (impl_areLines.st4 lines0 v8 v9 v10)) lines0 v8 v9 v10 := by kernel_rfl
    rw [h]
    simp only [ih]
    rfl
set_option maxRecDepth 100000 in
theorem impl_areLines.body (n : Nat) (x : List (ByteArray × Int)) : bodyF impl_areLines.E impl_areLines.keep n Try.f101 impl_areLines.con x = impl_areLines.fn n x := by
  have h : bodyF impl_areLines.E impl_areLines.keep n Try.f101 impl_areLines.con x = impl_areLines.top (fun lines0 v8 v9 v10 => impl_areLines.LN4 n x n (impl_areLines.st4 lines0 v8 v9 v10)) x := by kernel_rfl
  rw [h]
  simp only [impl_areLines.lem4]
  rfl
set_option maxRecDepth 100000 in
theorem impl_areLines.good : Good Try.prog 101 impl_areLines.con :=
  good_of tabok (cs := impl_areLines.cs) ⟨impl_within.good, impl_IsWord.good, trivial⟩ 0 false (fn := Try.f101) Try.func101 rfl (by decide) (by simp [impl_areLines.con]) impl_areLines.keep NN (fun _ => rfl) (fun x => impl_areLines.body NN x)
end
end Go.Ev.Try

namespace Go.Ev.Try
open Go.Proofs Go.Pl
set_option linter.unusedVariables false
noncomputable section
def impl_isDay.con : Con := { ps := [(.val, (.int .i64))], rs := [(.val, .bool)], F := fun x => impl_isDay.f x }
def impl_isDay.cs : List (FuncId × Con) := [(90, impl_within.con)]
def impl_isDay.E : Env := envOf tab impl_isDay.cs 0 false
def impl_isDay.keep (i : Nat) : List Nat := []
set_option maxRecDepth 100000 in
theorem impl_isDay.body (n : Nat) (x : Int) : bodyF impl_isDay.E impl_isDay.keep n Try.f106 impl_isDay.con x = impl_isDay.fn n x := by
  have h : bodyF impl_isDay.E impl_isDay.keep n Try.f106 impl_isDay.con x = impl_isDay.top x := by kernel_rfl
  exact h
set_option maxRecDepth 100000 in
theorem impl_isDay.good : Good Try.prog 106 impl_isDay.con :=
  good_of tabok (cs := impl_isDay.cs) ⟨impl_within.good, trivial⟩ 0 false (fn := Try.f106) Try.func106 rfl (by decide) (by simp [impl_isDay.con]) impl_isDay.keep NN (fun _ => rfl) (fun x => impl_isDay.body NN x)
end
end Go.Ev.Try

namespace Go.Ev.Try
open Go.Proofs Go.Pl
set_option linter.unusedVariables false
noncomputable section
def impl_IsPaper.con : Con := { ps := [(.val, (.pair .str (.pair (.int .i64) (.sl 82 (.pair .str (.int .i64))))))], rs := [(.val, .bool)], F := fun x => impl_IsPaper.f x }
def impl_IsPaper.cs : List (FuncId × Con) := [(97, impl_IsWord.con), (101, impl_areLines.con), (106, impl_isDay.con)]
def impl_IsPaper.E : Env := envOf tab impl_IsPaper.cs 0 false
def impl_IsPaper.keep (i : Nat) : List Nat := []
set_option maxRecDepth 100000 in
theorem impl_IsPaper.body (n : Nat) (x : ByteArray × Int × List (ByteArray × Int)) : bodyF impl_IsPaper.E impl_IsPaper.keep n Try.f42 impl_IsPaper.con x = impl_IsPaper.fn n x := by
  have h : bodyF impl_IsPaper.E impl_IsPaper.keep n Try.f42 impl_IsPaper.con x = impl_IsPaper.top x := by kernel_rfl
  exact h
set_option maxRecDepth 100000 in
theorem impl_IsPaper.good : Good Try.prog 42 impl_IsPaper.con :=
  good_of tabok (cs := impl_IsPaper.cs) ⟨impl_IsWord.good, impl_areLines.good, impl_isDay.good, trivial⟩ 0 false (fn := Try.f42) Try.func42 rfl (by decide) (by simp [impl_IsPaper.con]) impl_IsPaper.keep NN (fun _ => rfl) (fun x => impl_IsPaper.body NN x)
end
end Go.Ev.Try

namespace Go.Ev.Try
open Go.Proofs Go.Pl
set_option linter.unusedVariables false
noncomputable section
def spec_l01In.con : Con := { ps := [(.val, (.int .i64)), (.val, (.int .i64)), (.val, (.int .i64))], rs := [(.val, .bool)], F := fun x => spec_l01In.f x.1 x.2.1 x.2.2 }
def spec_l01In.cs : List (FuncId × Con) := []
def spec_l01In.E : Env := envOf tab spec_l01In.cs 0 false
def spec_l01In.keep (i : Nat) : List Nat := []
set_option maxRecDepth 100000 in
theorem spec_l01In.body (n : Nat) (x : Int × Int × Int) : bodyF spec_l01In.E spec_l01In.keep n Try.f87 spec_l01In.con x = spec_l01In.fn n x.1 x.2.1 x.2.2 := by
  have h : bodyF spec_l01In.E spec_l01In.keep n Try.f87 spec_l01In.con x = spec_l01In.top x.1 x.2.1 x.2.2 := by kernel_rfl
  exact h
set_option maxRecDepth 100000 in
theorem spec_l01In.good : Good Try.prog 87 spec_l01In.con :=
  good_of tabok (cs := spec_l01In.cs) trivial 0 false (fn := Try.f87) Try.func87 rfl (by decide) (by simp [spec_l01In.con]) spec_l01In.keep NN (fun _ => rfl) (fun x => spec_l01In.body NN x)
end
end Go.Ev.Try

namespace Go.Ev.Try
open Go.Proofs Go.Pl
set_option linter.unusedVariables false
noncomputable section
def spec_IsWord.st2 (s0 : ByteArray) (i3 : Int) : St := ⟨[.dat .str s0, .gone, .gone, .dat (.int .i64) i3, .gone, .gone, .gone, .gone, .gone, .gone, .gone, .gone, .gone, .gone, .gone, .gone, .gone, .gone, .gone, .gone, .gone, .gone, .gone], []⟩
def spec_IsWord.con : Con := { ps := [(.val, .str)], rs := [(.val, .bool)], F := fun x => spec_IsWord.f x }
def spec_IsWord.cs : List (FuncId × Con) := [(87, spec_l01In.con)]
def spec_IsWord.E : Env := envOf tab spec_IsWord.cs 0 false
def spec_IsWord.keep (i : Nat) : List Nat := if i = 2 then [0, 3] else []
def spec_IsWord.at2 (n : Nat) (x : ByteArray) : Code × (Ex → St → Option (Bool)) := ctx spec_IsWord.E spec_IsWord.keep n [.snd, .fst, .snd, .blk] (codeOf Try.f108) (kEnd spec_IsWord.E Try.f108 spec_IsWord.con x)
def spec_IsWord.LN2 (n : Nat) (x : ByteArray) : Nat → St → Option (Bool) := loopN (exec spec_IsWord.E spec_IsWord.keep n (bodyOf (spec_IsWord.at2 n x).1)) (St.norm 0 (spec_IsWord.keep 2)) (spec_IsWord.at2 n x).2
set_option maxRecDepth 100000 in
theorem spec_IsWord.lem2 (n : Nat) (x : ByteArray) : ∀ (k : Nat) (s0 : ByteArray) (i3 : Int), spec_IsWord.LN2 n x k (spec_IsWord.st2 s0 i3) = spec_IsWord.l2 n k s0 i3 := by
  intro k
  induction k with
  | zero => intro s0 i3; rfl
  | succ k ih =>
    intro s0 i3
    have h : spec_IsWord.LN2 n x (k + 1) (spec_IsWord.st2 s0 i3) = spec_IsWord.g2 (fun s0 i3 => spec_IsWord.LN2 n x k (spec_IsWord.st2 s0 i3)) s0 i3 := by kernel_rfl
    rw [h]
    simp only [ih]
    rfl
set_option maxRecDepth 100000 in
theorem spec_IsWord.body (n : Nat) (x : ByteArray) : bodyF spec_IsWord.E spec_IsWord.keep n Try.f108 spec_IsWord.con x = spec_IsWord.fn n x := by
  have h : bodyF spec_IsWord.E spec_IsWord.keep n Try.f108 spec_IsWord.con x = spec_IsWord.top (fun s0 i3 => spec_IsWord.LN2 n x n (spec_IsWord.st2 s0 i3)) x := by kernel_rfl
  rw [h]
  simp only [spec_IsWord.lem2]
  rfl
set_option maxRecDepth 100000 in
theorem spec_IsWord.good : Good Try.prog 108 spec_IsWord.con :=
  good_of tabok (cs := spec_IsWord.cs) ⟨spec_l01In.good, trivial⟩ 0 false (fn := Try.f108) Try.func108 rfl (by decide) (by simp [spec_IsWord.con]) spec_IsWord.keep NN (fun _ => rfl) (fun x => spec_IsWord.body NN x)
end
end Go.Ev.Try

namespace Go.Ev.Try
open Go.Proofs Go.Pl
set_option linter.unusedVariables false
noncomputable section
def spec_IsPaper.st2 (i3 : Int) (p1 : ByteArray × Int × List (ByteArray × Int)) : St := ⟨[.gone, .ptr 0 [], .gone, .dat (.int .i64) i3, .gone, .gone, .gone, .gone, .gone, .gone, .gone, .gone, .gone, .gone, .gone, .gone, .gone, .gone, .gone, .gone, .gone, .gone, .gone, .gone, .gone, .gone, .gone, .gone, .gone, .gone, .gone, .gone, .gone, .gone, .gone, .gone, .gone, .gone, .gone, .gone, .gone, .gone, .gone, .gone, .gone, .gone, .gone, .gone, .gone, .gone, .gone, .gone, .gone, .gone, .gone, .gone, .gone, .gone, .gone, .gone, .gone, .gone, .gone], [.box 47 (.pair .str (.pair (.int .i64) (.sl 82 (.pair .str (.int .i64))))) (.dat (.pair .str (.pair (.int .i64) (.sl 82 (.pair .str (.int .i64))))) p1)]⟩
def spec_IsPaper.con : Con := { ps := [(.val, (.pair .str (.pair (.int .i64) (.sl 82 (.pair .str (.int .i64))))))], rs := [(.val, .bool)], F := fun x => spec_IsPaper.f x }
def spec_IsPaper.cs : List (FuncId × Con) := [(87, spec_l01In.con), (108, spec_IsWord.con)]
def spec_IsPaper.E : Env := envOf tab spec_IsPaper.cs 0 false
def spec_IsPaper.keep (i : Nat) : List Nat := if i = 2 then [1, 3] else []
def spec_IsPaper.at2 (n : Nat) (x : ByteArray × Int × List (ByteArray × Int)) : Code × (Ex → St → Option (Bool)) := ctx spec_IsPaper.E spec_IsPaper.keep n [.snd, .fst, .snd, .blk] (codeOf Try.f103) (kEnd spec_IsPaper.E Try.f103 spec_IsPaper.con x)
def spec_IsPaper.LN2 (n : Nat) (x : ByteArray × Int × List (ByteArray × Int)) : Nat → St → Option (Bool) := loopN (exec spec_IsPaper.E spec_IsPaper.keep n (bodyOf (spec_IsPaper.at2 n x).1)) (St.norm 0 (spec_IsPaper.keep 2)) (spec_IsPaper.at2 n x).2
set_option maxRecDepth 100000 in
theorem spec_IsPaper.lem2 (n : Nat) (x : ByteArray × Int × List (ByteArray × Int)) : ∀ (k : Nat) (i3 : Int) (p1 : ByteArray × Int × List (ByteArray × Int)), spec_IsPaper.LN2 n x k (spec_IsPaper.st2 i3 p1) = spec_IsPaper.l2 n k i3 p1 := by
  intro k
  induction k with
  | zero => intro i3 p1; rfl
  | succ k ih =>
    intro i3 p1
    have h : spec_IsPaper.LN2 n x (k + 1) (spec_IsPaper.st2 i3 p1) = spec_IsPaper.g2 (fun i3 p1 => spec_IsPaper.LN2 n x k (spec_IsPaper.st2 i3 p1)) i3 p1 := by kernel_rfl
    rw [h]
    simp only [ih]
    rfl
set_option maxRecDepth 100000 in
theorem spec_IsPaper.body (n : Nat) (x : ByteArray × Int × List (ByteArray × Int)) : bodyF spec_IsPaper.E spec_IsPaper.keep n Try.f103 spec_IsPaper.con x = spec_IsPaper.fn n x := by
  have h : bodyF spec_IsPaper.E spec_IsPaper.keep n Try.f103 spec_IsPaper.con x = spec_IsPaper.top (fun i3 p1 => spec_IsPaper.LN2 n x n (spec_IsPaper.st2 i3 p1)) x := by kernel_rfl
  rw [h]
  simp only [spec_IsPaper.lem2]
  rfl
set_option maxRecDepth 100000 in
theorem spec_IsPaper.good : Good Try.prog 103 spec_IsPaper.con :=
  good_of tabok (cs := spec_IsPaper.cs) ⟨spec_l01In.good, spec_IsWord.good, trivial⟩ 0 false (fn := Try.f103) Try.func103 rfl (by decide) (by simp [spec_IsPaper.con]) spec_IsPaper.keep NN (fun _ => rfl) (fun x => spec_IsPaper.body NN x)
end
end Go.Ev.Try

namespace Go.Ev.Try
open Go.Proofs Go.Pl
set_option linter.unusedVariables false
noncomputable section
def spec_l29Find.st2 (article1 : ByteArray) (i5 : Int) (p2 : ByteArray × Int × List (ByteArray × Int)) : St := ⟨[.gone, .dat .str article1, .ptr 0 [], .gone, .gone, .dat (.int .i64) i5, .gone, .gone, .gone, .gone, .gone, .gone, .gone, .gone, .gone, .gone, .gone, .gone, .gone, .gone, .gone, .gone], [.box 47 (.pair .str (.pair (.int .i64) (.sl 82 (.pair .str (.int .i64))))) (.dat (.pair .str (.pair (.int .i64) (.sl 82 (.pair .str (.int .i64))))) p2)]⟩
def spec_l29Find.con : Con := { ps := [(.val, (.pair .str (.pair (.int .i64) (.sl 82 (.pair .str (.int .i64)))))), (.val, .str)], rs := [(.val, (.int .i64))], F := fun x => spec_l29Find.f x.1 x.2 }
def spec_l29Find.cs : List (FuncId × Con) := []
def spec_l29Find.E : Env := envOf tab spec_l29Find.cs 0 false
def spec_l29Find.keep (i : Nat) : List Nat := if i = 2 then [1, 2, 5] else []
def spec_l29Find.at2 (n : Nat) (x : (ByteArray × Int × List (ByteArray × Int)) × ByteArray) : Code × (Ex → St → Option (Int)) := ctx spec_l29Find.E spec_l29Find.keep n [.snd, .fst, .snd, .blk] (codeOf Try.f105) (kEnd spec_l29Find.E Try.f105 spec_l29Find.con x)
def spec_l29Find.LN2 (n : Nat) (x : (ByteArray × Int × List (ByteArray × Int)) × ByteArray) : Nat → St → Option (Int) := loopN (exec spec_l29Find.E spec_l29Find.keep n (bodyOf (spec_l29Find.at2 n x).1)) (St.norm 0 (spec_l29Find.keep 2)) (spec_l29Find.at2 n x).2
set_option maxRecDepth 100000 in
theorem spec_l29Find.lem2 (n : Nat) (x : (ByteArray × Int × List (ByteArray × Int)) × ByteArray) : ∀ (k : Nat) (article1 : ByteArray) (i5 : Int) (p2 : ByteArray × Int × List (ByteArray × Int)), spec_l29Find.LN2 n x k (spec_l29Find.st2 article1 i5 p2) = spec_l29Find.l2 n k article1 i5 p2 := by
  intro k
  induction k with
  | zero => intro article1 i5 p2; rfl
  | succ k ih =>
    intro article1 i5 p2
    have h : spec_l29Find.LN2 n x (k + 1) (spec_l29Find.st2 article1 i5 p2) = spec_l29Find.g2 (fun article1 i5 p2 => spec_l29Find.LN2 n x k (spec_l29Find.st2 article1 i5 p2)) article1 i5 p2 := by kernel_rfl
    rw [h]
    simp only [ih]
    rfl
set_option maxRecDepth 100000 in
theorem spec_l29Find.body (n : Nat) (x : (ByteArray × Int × List (ByteArray × Int)) × ByteArray) : bodyF spec_l29Find.E spec_l29Find.keep n Try.f105 spec_l29Find.con x = spec_l29Find.fn n x.1 x.2 := by
  have h : bodyF spec_l29Find.E spec_l29Find.keep n Try.f105 spec_l29Find.con x = spec_l29Find.top (fun article1 i5 p2 => spec_l29Find.LN2 n x n (spec_l29Find.st2 article1 i5 p2)) x.1 x.2 := by kernel_rfl
  rw [h]
  simp only [spec_l29Find.lem2]
  rfl
set_option maxRecDepth 100000 in
theorem spec_l29Find.good : Good Try.prog 105 spec_l29Find.con :=
  good_of tabok (cs := spec_l29Find.cs) trivial 0 false (fn := Try.f105) Try.func105 rfl (by decide) (by simp [spec_l29Find.con]) spec_l29Find.keep NN (fun _ => rfl) (fun x => spec_l29Find.body NN x)
end
end Go.Ev.Try

namespace Go.Ev.Try
open Go.Proofs Go.Pl
set_option linter.unusedVariables false
noncomputable section
def spec_CutLine.tr0 (p0 : ByteArray × Int × List (ByteArray × Int)) (r3 : Int) : Option ((ByteArray × Int × List (ByteArray × Int)) × Int) :=
  if (([] : List (ByteArray × Int)) ++ (p0.2.2.take (r3 : Int).toNat)).length + (p0.2.2.drop ((IntKind.i64.wrap (r3 + 1)) : Int).toNat).length < room 24 then
    some ((p0.1, (p0.2.1, (([] : List (ByteArray × Int)) ++ (p0.2.2.take (r3 : Int).toNat)) ++ (p0.2.2.drop ((IntKind.i64.wrap (r3 + 1)) : Int).toNat))), 0)
  else
    none
def spec_CutLine.tr1 (p0 : ByteArray × Int × List (ByteArray × Int)) (r3 : Int) : Option ((ByteArray × Int × List (ByteArray × Int)) × Int) :=
  if (0 : Int) ≤ (IntKind.i64.wrap (r3 + 1)) ∧ ((IntKind.i64.wrap (r3 + 1)) : Int) ≤ p0.2.2.length then
    spec_CutLine.tr0 p0 r3
  else
    none
def spec_CutLine.tr2 (p0 : ByteArray × Int × List (ByteArray × Int)) (r3 : Int) : Option ((ByteArray × Int × List (ByteArray × Int)) × Int) :=
  if ([] : List (ByteArray × Int)).length + (p0.2.2.take (r3 : Int).toNat).length < room 24 then
    spec_CutLine.tr0 p0 r3
  else
    none
def spec_CutLine.tr3 (p0 : ByteArray × Int × List (ByteArray × Int)) (r3 : Int) : Option ((ByteArray × Int × List (ByteArray × Int)) × Int) :=
  if (0 : Int) ≤ (IntKind.i64.wrap (r3 + 1)) ∧ ((IntKind.i64.wrap (r3 + 1)) : Int) ≤ p0.2.2.length then
    spec_CutLine.tr2 p0 r3
  else
    none
def spec_CutLine.tr4 (p0 : ByteArray × Int × List (ByteArray × Int)) (r3 : Int) : Option ((ByteArray × Int × List (ByteArray × Int)) × Int) :=
  agree (
    if ([] : List (ByteArray × Int)).length + (p0.2.2.take (r3 : Int).toNat).length < room 24 then
      spec_CutLine.tr1 p0 r3
    else
      none
  ) (
    spec_CutLine.tr3 p0 r3
  )
def spec_CutLine.tr5 (p0 : ByteArray × Int × List (ByteArray × Int)) (r3 : Int) : Option ((ByteArray × Int × List (ByteArray × Int)) × Int) :=
  if (0 : Int) ≤ r3 ∧ (r3 : Int) ≤ p0.2.2.length then
    spec_CutLine.tr2 p0 r3
  else
    none
def spec_CutLine.tr6 (p0 : ByteArray × Int × List (ByteArray × Int)) (r3 : Int) : Option ((ByteArray × Int × List (ByteArray × Int)) × Int) :=
  agree (
    if (0 : Int) ≤ r3 ∧ (r3 : Int) ≤ p0.2.2.length then
      spec_CutLine.tr4 p0 r3
    else
      none
  ) (
    if (0 : Int) ≤ (IntKind.i64.wrap (r3 + 1)) ∧ ((IntKind.i64.wrap (r3 + 1)) : Int) ≤ p0.2.2.length then
      spec_CutLine.tr5 p0 r3
    else
      none
  )
def spec_CutLine.tr7 (p0 : ByteArray × Int × List (ByteArray × Int)) (r3 : Int) : Option ((ByteArray × Int × List (ByteArray × Int)) × Int) :=
  agree (
    spec_CutLine.tr4 p0 r3
  ) (
    spec_CutLine.tr3 p0 r3
  )
def spec_CutLine.tr8 (p0 : ByteArray × Int × List (ByteArray × Int)) (r3 : Int) : Option ((ByteArray × Int × List (ByteArray × Int)) × Int) :=
  agree (
    spec_CutLine.tr5 p0 r3
  ) (
    spec_CutLine.tr5 p0 r3
  )
def spec_CutLine.tr9 (p0 : ByteArray × Int × List (ByteArray × Int)) (r3 : Int) : Option ((ByteArray × Int × List (ByteArray × Int)) × Int) :=
  agree (
    spec_CutLine.tr0 p0 r3
  ) (
    spec_CutLine.tr0 p0 r3
  )
def spec_CutLine.tr10 (p0 : ByteArray × Int × List (ByteArray × Int)) (r3 : Int) : Option ((ByteArray × Int × List (ByteArray × Int)) × Int) :=
  agree (
    spec_CutLine.tr1 p0 r3
  ) (
    if (0 : Int) ≤ (IntKind.i64.wrap (r3 + 1)) ∧ ((IntKind.i64.wrap (r3 + 1)) : Int) ≤ p0.2.2.length then
      spec_CutLine.tr9 p0 r3
    else
      none
  )
def spec_CutLine.tr11 (p0 : ByteArray × Int × List (ByteArray × Int)) (r3 : Int) : Option ((ByteArray × Int × List (ByteArray × Int)) × Int) :=
  agree (
    spec_CutLine.tr2 p0 r3
  ) (
    if ([] : List (ByteArray × Int)).length + (p0.2.2.take (r3 : Int).toNat).length < room 24 then
      spec_CutLine.tr9 p0 r3
    else
      none
  )
def spec_CutLine.tr12 (p0 : ByteArray × Int × List (ByteArray × Int)) (r3 : Int) : Option ((ByteArray × Int × List (ByteArray × Int)) × Int) :=
  agree (
    spec_CutLine.tr4 p0 r3
  ) (
    agree (
      if ([] : List (ByteArray × Int)).length + (p0.2.2.take (r3 : Int).toNat).length < room 24 then
        spec_CutLine.tr10 p0 r3
      else
        none
    ) (
      if (0 : Int) ≤ (IntKind.i64.wrap (r3 + 1)) ∧ ((IntKind.i64.wrap (r3 + 1)) : Int) ≤ p0.2.2.length then
        spec_CutLine.tr11 p0 r3
      else
        none
    )
  )
def spec_CutLine.tr13 (p0 : ByteArray × Int × List (ByteArray × Int)) (r3 : Int) : Option ((ByteArray × Int × List (ByteArray × Int)) × Int) :=
  agree (
    spec_CutLine.tr5 p0 r3
  ) (
    if (0 : Int) ≤ r3 ∧ (r3 : Int) ≤ p0.2.2.length then
      spec_CutLine.tr11 p0 r3
    else
      none
  )
def spec_CutLine.tr14 (p0 : ByteArray × Int × List (ByteArray × Int)) (r3 : Int) : Option ((ByteArray × Int × List (ByteArray × Int)) × Int) :=
  agree (
    spec_CutLine.tr6 p0 r3
  ) (
    agree (
      if (0 : Int) ≤ r3 ∧ (r3 : Int) ≤ p0.2.2.length then
        spec_CutLine.tr12 p0 r3
      else
        none
    ) (
      if (0 : Int) ≤ (IntKind.i64.wrap (r3 + 1)) ∧ ((IntKind.i64.wrap (r3 + 1)) : Int) ≤ p0.2.2.length then
        spec_CutLine.tr13 p0 r3
      else
        none
    )
  )
def spec_CutLine.tr15 (p0 : ByteArray × Int × List (ByteArray × Int)) (r3 : Int) : Option ((ByteArray × Int × List (ByteArray × Int)) × Int) :=
  agree (
    spec_CutLine.tr2 p0 r3
  ) (
    spec_CutLine.tr11 p0 r3
  )
def spec_CutLine.tr16 (p0 : ByteArray × Int × List (ByteArray × Int)) (r3 : Int) : Option ((ByteArray × Int × List (ByteArray × Int)) × Int) :=
  agree (
    spec_CutLine.tr7 p0 r3
  ) (
    agree (
      spec_CutLine.tr12 p0 r3
    ) (
      if (0 : Int) ≤ (IntKind.i64.wrap (r3 + 1)) ∧ ((IntKind.i64.wrap (r3 + 1)) : Int) ≤ p0.2.2.length then
        spec_CutLine.tr15 p0 r3
      else
        none
    )
  )
def spec_CutLine.tr17 (p0 : ByteArray × Int × List (ByteArray × Int)) (r3 : Int) : Option ((ByteArray × Int × List (ByteArray × Int)) × Int) :=
  agree (
    spec_CutLine.tr8 p0 r3
  ) (
    agree (
      spec_CutLine.tr13 p0 r3
    ) (
      if (0 : Int) ≤ r3 ∧ (r3 : Int) ≤ p0.2.2.length then
        spec_CutLine.tr15 p0 r3
      else
        none
    )
  )
def spec_CutLine.tr18 (p0 : ByteArray × Int × List (ByteArray × Int)) (r3 : Int) : Option ((ByteArray × Int × List (ByteArray × Int)) × Int) :=
  agree (
    agree (
      spec_CutLine.tr6 p0 r3
    ) (
      agree (
        if (0 : Int) ≤ r3 ∧ (r3 : Int) ≤ p0.2.2.length then
          spec_CutLine.tr7 p0 r3
        else
          none
      ) (
        if (0 : Int) ≤ (IntKind.i64.wrap (r3 + 1)) ∧ ((IntKind.i64.wrap (r3 + 1)) : Int) ≤ p0.2.2.length then
          spec_CutLine.tr8 p0 r3
        else
          none
      )
    )
  ) (
    agree (
      spec_CutLine.tr14 p0 r3
    ) (
      agree (
        if (0 : Int) ≤ r3 ∧ (r3 : Int) ≤ p0.2.2.length then
          spec_CutLine.tr16 p0 r3
        else
          none
      ) (
        if (0 : Int) ≤ (IntKind.i64.wrap (r3 + 1)) ∧ ((IntKind.i64.wrap (r3 + 1)) : Int) ≤ p0.2.2.length then
          spec_CutLine.tr17 p0 r3
        else
          none
      )
    )
  )
def spec_CutLine.tr19 (p0 : ByteArray × Int × List (ByteArray × Int)) (r3 : Int) : Option ((ByteArray × Int × List (ByteArray × Int)) × Int) :=
  agree (
    spec_CutLine.tr9 p0 r3
  ) (
    agree (
      spec_CutLine.tr9 p0 r3
    ) (
      spec_CutLine.tr0 p0 r3
    )
  )
def spec_CutLine.tr20 (p0 : ByteArray × Int × List (ByteArray × Int)) (r3 : Int) : Option ((ByteArray × Int × List (ByteArray × Int)) × Int) :=
  agree (
    spec_CutLine.tr11 p0 r3
  ) (
    agree (
      spec_CutLine.tr11 p0 r3
    ) (
      if ([] : List (ByteArray × Int)).length + (p0.2.2.take (r3 : Int).toNat).length < room 24 then
        spec_CutLine.tr19 p0 r3
      else
        none
    )
  )
def spec_CutLine.tr21 (p0 : ByteArray × Int × List (ByteArray × Int)) (r3 : Int) : Option ((ByteArray × Int × List (ByteArray × Int)) × Int) :=
  agree (
    spec_CutLine.tr12 p0 r3
  ) (
    agree (
      spec_CutLine.tr12 p0 r3
    ) (
      agree (
        if ([] : List (ByteArray × Int)).length + (p0.2.2.take (r3 : Int).toNat).length < room 24 then
          agree (
            spec_CutLine.tr10 p0 r3
          ) (
            agree (
              spec_CutLine.tr10 p0 r3
            ) (
              if (0 : Int) ≤ (IntKind.i64.wrap (r3 + 1)) ∧ ((IntKind.i64.wrap (r3 + 1)) : Int) ≤ p0.2.2.length then
                spec_CutLine.tr19 p0 r3
              else
                none
            )
          )
        else
          none
      ) (
        if (0 : Int) ≤ (IntKind.i64.wrap (r3 + 1)) ∧ ((IntKind.i64.wrap (r3 + 1)) : Int) ≤ p0.2.2.length then
          spec_CutLine.tr20 p0 r3
        else
          none
      )
    )
  )
def spec_CutLine.tr22 (p0 : ByteArray × Int × List (ByteArray × Int)) (r3 : Int) : Option ((ByteArray × Int × List (ByteArray × Int)) × Int) :=
  agree (
    spec_CutLine.tr13 p0 r3
  ) (
    agree (
      spec_CutLine.tr13 p0 r3
    ) (
      if (0 : Int) ≤ r3 ∧ (r3 : Int) ≤ p0.2.2.length then
        spec_CutLine.tr20 p0 r3
      else
        none
    )
  )
def spec_CutLine.tr23 (p0 : ByteArray × Int × List (ByteArray × Int)) (r3 : Int) : Option ((ByteArray × Int × List (ByteArray × Int)) × Int) :=
  agree (
    spec_CutLine.tr15 p0 r3
  ) (
    agree (
      spec_CutLine.tr15 p0 r3
    ) (
      spec_CutLine.tr20 p0 r3
    )
  )
def spec_CutLine.topraw (p0 : ByteArray × Int × List (ByteArray × Int)) (article1 : ByteArray) : Option ((ByteArray × Int × List (ByteArray × Int)) × Int) :=
  (spec_IsPaper.f p0).bind fun r1 =>
  if (!r1) = false then
    (spec_IsWord.f article1).bind fun r2 =>
    if (!r2) = true then
      some ((ByteArray.empty, (0, [])), 1)
    else
      (spec_l29Find.f p0 article1).bind fun r3 =>
      if (decide ((r3 : Int) < 0)) = true then
        some ((ByteArray.empty, (0, [])), 4)
      else
        agree (
          spec_CutLine.tr18 p0 r3
        ) (
          agree (
            spec_CutLine.tr18 p0 r3
          ) (
            agree (
              agree (
                spec_CutLine.tr14 p0 r3
              ) (
                agree (
                  spec_CutLine.tr14 p0 r3
                ) (
                  agree (
                    if (0 : Int) ≤ r3 ∧ (r3 : Int) ≤ p0.2.2.length then
                      spec_CutLine.tr21 p0 r3
                    else
                      none
                  ) (
                    if (0 : Int) ≤ (IntKind.i64.wrap (r3 + 1)) ∧ ((IntKind.i64.wrap (r3 + 1)) : Int) ≤ p0.2.2.length then
                      spec_CutLine.tr22 p0 r3
                    else
                      none
                  )
                )
              )
            ) (
              agree (
                if (0 : Int) ≤ r3 ∧ (r3 : Int) ≤ p0.2.2.length then
                  agree (
                    spec_CutLine.tr16 p0 r3
                  ) (
                    agree (
                      spec_CutLine.tr16 p0 r3
                    ) (
                      agree (
                        spec_CutLine.tr21 p0 r3
                      ) (
                        if (0 : Int) ≤ (IntKind.i64.wrap (r3 + 1)) ∧ ((IntKind.i64.wrap (r3 + 1)) : Int) ≤ p0.2.2.length then
                          spec_CutLine.tr23 p0 r3
                        else
                          none
                      )
                    )
                  )
                else
                  none
              ) (
                if (0 : Int) ≤ (IntKind.i64.wrap (r3 + 1)) ∧ ((IntKind.i64.wrap (r3 + 1)) : Int) ≤ p0.2.2.length then
                  agree (
                    spec_CutLine.tr17 p0 r3
                  ) (
                    agree (
                      spec_CutLine.tr17 p0 r3
                    ) (
                      agree (
                        spec_CutLine.tr22 p0 r3
                      ) (
                        if (0 : Int) ≤ r3 ∧ (r3 : Int) ≤ p0.2.2.length then
                          spec_CutLine.tr23 p0 r3
                        else
                          none
                      )
                    )
                  )
                else
                  none
              )
            )
          )
        )
  else
    some ((ByteArray.empty, (0, [])), 1)
theorem spec_CutLine.topraw_eq (p0 : ByteArray × Int × List (ByteArray × Int)) (article1 : ByteArray) : spec_CutLine.topraw p0 article1 = spec_CutLine.top p0 article1 := by
  unfold spec_CutLine.topraw spec_CutLine.top
  simp only [agree_self, spec_CutLine.tr0, spec_CutLine.tr1, spec_CutLine.tr2, spec_CutLine.tr3, spec_CutLine.tr4, spec_CutLine.tr5, spec_CutLine.tr6, spec_CutLine.tr7, spec_CutLine.tr8, spec_CutLine.tr9, spec_CutLine.tr10, spec_CutLine.tr11, spec_CutLine.tr12, spec_CutLine.tr13, spec_CutLine.tr14, spec_CutLine.tr15, spec_CutLine.tr16, spec_CutLine.tr17, spec_CutLine.tr18, spec_CutLine.tr19, spec_CutLine.tr20, spec_CutLine.tr21, spec_CutLine.tr22, spec_CutLine.tr23]
def spec_CutLine.con : Con := { ps := [(.val, (.pair .str (.pair (.int .i64) (.sl 82 (.pair .str (.int .i64)))))), (.val, .str)], rs := [(.own, (.pair .str (.pair (.int .i64) (.sl 82 (.pair .str (.int .i64)))))), (.own, (.int .i64))], F := fun x => spec_CutLine.f x.1 x.2 }
def spec_CutLine.cs : List (FuncId × Con) := [(103, spec_IsPaper.con), (105, spec_l29Find.con), (108, spec_IsWord.con)]
def spec_CutLine.E : Env := envOf tab spec_CutLine.cs 0 false
def spec_CutLine.keep (i : Nat) : List Nat := []
set_option maxRecDepth 100000 in
theorem spec_CutLine.body (n : Nat) (x : (ByteArray × Int × List (ByteArray × Int)) × ByteArray) : bodyF spec_CutLine.E spec_CutLine.keep n Try.f44 spec_CutLine.con x = spec_CutLine.fn n x.1 x.2 := by
  have h : bodyF spec_CutLine.E spec_CutLine.keep n Try.f44 spec_CutLine.con x = spec_CutLine.topraw x.1 x.2 := by kernel_rfl
  rw [spec_CutLine.topraw_eq] at h
  exact h
set_option maxRecDepth 100000 in
theorem spec_CutLine.good : Good Try.prog 44 spec_CutLine.con :=
  good_of tabok (cs := spec_CutLine.cs) ⟨spec_IsPaper.good, spec_l29Find.good, spec_IsWord.good, trivial⟩ 0 false (fn := Try.f44) Try.func44 rfl (by decide) (by simp [spec_CutLine.con]) spec_CutLine.keep NN (fun _ => rfl) (fun x => spec_CutLine.body NN x)
end
end Go.Ev.Try

namespace Go.Ev.Try
open Go.Proofs Go.Pl
set_option linter.unusedVariables false
noncomputable section
def impl_putLine.st4 (article1 : ByteArray) (count2 : Int) (placed8 : Bool) (v13 : List (ByteArray × Int)) (v14 : Int) (v15 : Int) (out7 : List (ByteArray × Int)) : St := ⟨[.gone, .dat .str article1, .dat (.int .i64) count2, .gone, .gone, .gone, .gone, .ref 0, .dat .bool placed8, .gone, .gone, .gone, .gone, .dat (.sl 82 (.pair .str (.int .i64))) v13, .dat (.int .i64) v14, .dat (.int .i64) v15, .gone, .gone, .gone, .gone, .gone, .gone, .gone, .gone, .gone, .gone, .gone, .gone, .gone, .gone, .gone, .gone, .gone, .gone, .gone, .gone, .gone, .gone, .gone, .gone, .gone, .gone, .gone, .gone, .gone, .gone, .gone, .gone, .gone, .gone, .gone], [.row 82 (.pair .str (.int .i64)) out7 none]⟩
def impl_putLine.con : Con := { ps := [(.val, (.sl 82 (.pair .str (.int .i64)))), (.val, .str), (.val, (.int .i64))], rs := [(.own, (.sl 82 (.pair .str (.int .i64))))], F := fun x => impl_putLine.f x.1 x.2.1 x.2.2 }
def impl_putLine.cs : List (FuncId × Con) := []
def impl_putLine.E : Env := envOf tab impl_putLine.cs 0 false
def impl_putLine.keep (i : Nat) : List Nat := if i = 4 then [1, 2, 7, 8, 13, 14, 15] else []
def impl_putLine.at4 (n : Nat) (x : (List (ByteArray × Int)) × ByteArray × Int) : Code × (Ex → St → Option ((List (ByteArray × Int)))) := ctx impl_putLine.E impl_putLine.keep n [.snd, .snd, .snd, .fst, .snd, .blk] (codeOf Try.f99) (kEnd impl_putLine.E Try.f99 impl_putLine.con x)
def impl_putLine.LN4 (n : Nat) (x : (List (ByteArray × Int)) × ByteArray × Int) : Nat → St → Option ((List (ByteArray × Int))) := loopN (exec impl_putLine.E impl_putLine.keep n (bodyOf (impl_putLine.at4 n x).1)) (St.norm 0 (impl_putLine.keep 4)) (impl_putLine.at4 n x).2
set_option maxRecDepth 100000 in
theorem impl_putLine.lem4 (n : Nat) (x : (List (ByteArray × Int)) × ByteArray × Int) : ∀ (k : Nat) (article1 : ByteArray) (count2 : Int) (placed8 : Bool) (v13 : List (ByteArray × Int)) (v14 : Int) (v15 : Int) (out7 : List (ByteArray × Int)), impl_putLine.LN4 n x k (impl_putLine.st4 article1 count2 placed8 v13 v14 v15 out7) = impl_putLine.l4 n k article1 count2 placed8 v13 v14 v15 out7 := by
  intro k
  induction k with
  | zero => intro article1 count2 placed8 v13 v14 v15 out7; rfl
  | succ k ih =>
    intro article1 count2 placed8 v13 v14 v15 out7
    have h : impl_putLine.LN4 n x (k + 1) (impl_putLine.st4 article1 count2 placed8 v13 v14 v15 out7) = impl_putLine.g4 (fun article1 count2 placed8 v13 v14 v15 out7 => impl_putLine.LN4 n x k (impl_putLine.st4 article1 count2 placed8 v13 v14 v15 out7)) article1 count2 placed8 v13 v14 v15 out7 := by kernel_rfl
    rw [h]
    simp only [ih]
    rfl
set_option maxRecDepth 100000 in
theorem impl_putLine.body (n : Nat) (x : (List (ByteArray × Int)) × ByteArray × Int) : bodyF impl_putLine.E impl_putLine.keep n Try.f99 impl_putLine.con x = impl_putLine.fn n x.1 x.2.1 x.2.2 := by
  have h : bodyF impl_putLine.E impl_putLine.keep n Try.f99 impl_putLine.con x = impl_putLine.top (fun article1 count2 placed8 v13 v14 v15 out7 => impl_putLine.LN4 n x n (impl_putLine.st4 article1 count2 placed8 v13 v14 v15 out7)) x.1 x.2.1 x.2.2 := by kernel_rfl
  rw [h]
  simp only [impl_putLine.lem4]
  rfl
set_option maxRecDepth 100000 in
theorem impl_putLine.good : Good Try.prog 99 impl_putLine.con :=
  good_of tabok (cs := impl_putLine.cs) trivial 0 false (fn := Try.f99) Try.func99 rfl (by decide) (by simp [impl_putLine.con]) impl_putLine.keep NN (fun _ => rfl) (fun x => impl_putLine.body NN x)
end
end Go.Ev.Try

namespace Go.Ev.Try
open Go.Proofs Go.Pl
set_option linter.unusedVariables false
noncomputable section
def impl_countIn.st2 (article1 : ByteArray) (v7 : List (ByteArray × Int)) (v8 : Int) (v9 : Int) : St := ⟨[.gone, .dat .str article1, .gone, .gone, .gone, .gone, .gone, .dat (.sl 82 (.pair .str (.int .i64))) v7, .dat (.int .i64) v8, .dat (.int .i64) v9, .gone, .gone, .gone, .gone, .gone, .gone, .gone, .gone, .gone, .gone], []⟩
def impl_countIn.con : Con := { ps := [(.val, (.sl 82 (.pair .str (.int .i64)))), (.val, .str)], rs := [(.val, (.int .i64))], F := fun x => impl_countIn.f x.1 x.2 }
def impl_countIn.cs : List (FuncId × Con) := []
def impl_countIn.E : Env := envOf tab impl_countIn.cs 0 false
def impl_countIn.keep (i : Nat) : List Nat := if i = 2 then [1, 7, 8, 9] else []
def impl_countIn.at2 (n : Nat) (x : (List (ByteArray × Int)) × ByteArray) : Code × (Ex → St → Option (Int)) := ctx impl_countIn.E impl_countIn.keep n [.snd, .fst, .snd, .blk] (codeOf Try.f100) (kEnd impl_countIn.E Try.f100 impl_countIn.con x)
def impl_countIn.LN2 (n : Nat) (x : (List (ByteArray × Int)) × ByteArray) : Nat → St → Option (Int) := loopN (exec impl_countIn.E impl_countIn.keep n (bodyOf (impl_countIn.at2 n x).1)) (St.norm 0 (impl_countIn.keep 2)) (impl_countIn.at2 n x).2
set_option maxRecDepth 100000 in
theorem impl_countIn.lem2 (n : Nat) (x : (List (ByteArray × Int)) × ByteArray) : ∀ (k : Nat) (article1 : ByteArray) (v7 : List (ByteArray × Int)) (v8 : Int) (v9 : Int), impl_countIn.LN2 n x k (impl_countIn.st2 article1 v7 v8 v9) = impl_countIn.l2 n k article1 v7 v8 v9 := by
  intro k
  induction k with
  | zero => intro article1 v7 v8 v9; rfl
  | succ k ih =>
    intro article1 v7 v8 v9
    have h : impl_countIn.LN2 n x (k + 1) (impl_countIn.st2 article1 v7 v8 v9) = impl_countIn.g2 (fun article1 v7 v8 v9 => impl_countIn.LN2 n x k (impl_countIn.st2 article1 v7 v8 v9)) article1 v7 v8 v9 := by kernel_rfl
    rw [h]
    simp only [ih]
    rfl
set_option maxRecDepth 100000 in
theorem impl_countIn.body (n : Nat) (x : (List (ByteArray × Int)) × ByteArray) : bodyF impl_countIn.E impl_countIn.keep n Try.f100 impl_countIn.con x = impl_countIn.fn n x.1 x.2 := by
  have h : bodyF impl_countIn.E impl_countIn.keep n Try.f100 impl_countIn.con x = impl_countIn.top (fun article1 v7 v8 v9 => impl_countIn.LN2 n x n (impl_countIn.st2 article1 v7 v8 v9)) x.1 x.2 := by kernel_rfl
  rw [h]
  simp only [impl_countIn.lem2]
  rfl
set_option maxRecDepth 100000 in
theorem impl_countIn.good : Good Try.prog 100 impl_countIn.con :=
  good_of tabok (cs := impl_countIn.cs) trivial 0 false (fn := Try.f100) Try.func100 rfl (by decide) (by simp [impl_countIn.con]) impl_countIn.keep NN (fun _ => rfl) (fun x => impl_countIn.body NN x)
end
end Go.Ev.Try

namespace Go.Ev.Try
open Go.Proofs Go.Pl
set_option linter.unusedVariables false
noncomputable section
def impl_withLines.con : Con := { ps := [(.val, (.pair .str (.pair (.int .i64) (.sl 82 (.pair .str (.int .i64)))))), (.own, (.sl 82 (.pair .str (.int .i64))))], rs := [(.own, (.pair .str (.pair (.int .i64) (.sl 82 (.pair .str (.int .i64))))))], gv := true, F := fun x => impl_withLines.f x.1 x.2 }
def impl_withLines.cs : List (FuncId × Con) := []
def impl_withLines.E : Env := envOf tab impl_withLines.cs 0 false
def impl_withLines.keep (i : Nat) : List Nat := []
set_option maxRecDepth 100000 in
theorem impl_withLines.body (n : Nat) (x : (ByteArray × Int × List (ByteArray × Int)) × List (ByteArray × Int)) : bodyF impl_withLines.E impl_withLines.keep n Try.f102 impl_withLines.con x = impl_withLines.fn n x.1 x.2 := by
  have h : bodyF impl_withLines.E impl_withLines.keep n Try.f102 impl_withLines.con x = impl_withLines.top x.1 x.2 := by kernel_rfl
  exact h
set_option maxRecDepth 100000 in
theorem impl_withLines.good : Good Try.prog 102 impl_withLines.con :=
  good_of tabok (cs := impl_withLines.cs) trivial 0 false (fn := Try.f102) Try.func102 rfl (by decide) (by simp [impl_withLines.con]) impl_withLines.keep NN (fun _ => rfl) (fun x => impl_withLines.body NN x)
end
end Go.Ev.Try

namespace Go.Ev.Try
open Go.Proofs Go.Pl
set_option linter.unusedVariables false
noncomputable section
def impl_CutLine.con : Con := { ps := [(.val, (.pair .str (.pair (.int .i64) (.sl 82 (.pair .str (.int .i64)))))), (.val, .str)], rs := [(.own, (.pair .str (.pair (.int .i64) (.sl 82 (.pair .str (.int .i64)))))), (.own, (.int .i64))], F := fun x => impl_CutLine.f x.1 x.2 }
def impl_CutLine.cs : List (FuncId × Con) := [(42, impl_IsPaper.con), (97, impl_IsWord.con), (99, impl_putLine.con), (100, impl_countIn.con), (102, impl_withLines.con)]
def impl_CutLine.E : Env := envOf tab impl_CutLine.cs 0 false
def impl_CutLine.keep (i : Nat) : List Nat := []
set_option maxRecDepth 100000 in
theorem impl_CutLine.body (n : Nat) (x : (ByteArray × Int × List (ByteArray × Int)) × ByteArray) : bodyF impl_CutLine.E impl_CutLine.keep n Try.f46 impl_CutLine.con x = impl_CutLine.fn n x.1 x.2 := by
  have h : bodyF impl_CutLine.E impl_CutLine.keep n Try.f46 impl_CutLine.con x = impl_CutLine.top x.1 x.2 := by kernel_rfl
  exact h
set_option maxRecDepth 100000 in
theorem impl_CutLine.good : Good Try.prog 46 impl_CutLine.con :=
  good_of tabok (cs := impl_CutLine.cs) ⟨impl_IsPaper.good, impl_IsWord.good, impl_putLine.good, impl_countIn.good, impl_withLines.good, trivial⟩ 0 false (fn := Try.f46) Try.func46 rfl (by decide) (by simp [impl_CutLine.con]) impl_CutLine.keep NN (fun _ => rfl) (fun x => impl_CutLine.body NN x)
end
end Go.Ev.Try

namespace Go.Ev.Try
open Go.Proofs Go.Pl
set_option linter.unusedVariables false
noncomputable section
def spec_l29Put.st2 (lines0 : List (ByteArray × Int)) (article1 : ByteArray) (count2 : Int) (at7 : Int) : St := ⟨[.dat (.sl 82 (.pair .str (.int .i64))) lines0, .dat .str article1, .dat (.int .i64) count2, .gone, .gone, .gone, .gone, .dat (.int .i64) at7, .gone, .gone, .gone, .gone, .gone, .gone, .gone, .gone, .gone, .gone, .gone, .gone, .gone, .gone, .gone, .gone, .gone, .gone, .gone, .gone, .gone, .gone, .gone, .gone, .gone, .gone, .gone, .gone, .gone, .gone, .gone, .gone, .gone, .gone, .gone, .gone, .gone, .gone, .gone, .gone, .gone, .gone, .gone, .gone, .gone, .gone, .gone, .gone, .gone, .gone, .gone, .gone, .gone], []⟩
def spec_l29Put.tr0 (lines0 : List (ByteArray × Int)) (article1 : ByteArray) (count2 : Int) (at7 : Int) : Option (List (ByteArray × Int)) :=
  if ([] : List (ByteArray × Int)).length + (lines0.take (at7 : Int).toNat).length < room 24 then
    if (([] : List (ByteArray × Int)) ++ (lines0.take (at7 : Int).toNat)).length + ([(article1, IntKind.i64.wrap (count2 + ((lines0.getD (at7 : Int).toNat (ByteArray.empty, 0)).2)))]).length < room 24 then
      if ((([] : List (ByteArray × Int)) ++ (lines0.take (at7 : Int).toNat)) ++ ([(article1, IntKind.i64.wrap (count2 + ((lines0.getD (at7 : Int).toNat (ByteArray.empty, 0)).2)))])).length + (lines0.drop ((IntKind.i64.wrap (at7 + 1)) : Int).toNat).length < room 24 then
        some (((([] : List (ByteArray × Int)) ++ (lines0.take (at7 : Int).toNat)) ++ ([(article1, IntKind.i64.wrap (count2 + ((lines0.getD (at7 : Int).toNat (ByteArray.empty, 0)).2)))])) ++ (lines0.drop ((IntKind.i64.wrap (at7 + 1)) : Int).toNat))
      else
        none
    else
      none
  else
    none
def spec_l29Put.tr1 (lines0 : List (ByteArray × Int)) (article1 : ByteArray) (count2 : Int) (at7 : Int) : Option (List (ByteArray × Int)) :=
  if ([] : List (ByteArray × Int)).length + (lines0.take (at7 : Int).toNat).length < room 24 then
    if (([] : List (ByteArray × Int)) ++ (lines0.take (at7 : Int).toNat)).length + ([(article1, count2)]).length < room 24 then
      if ((([] : List (ByteArray × Int)) ++ (lines0.take (at7 : Int).toNat)) ++ ([(article1, count2)])).length + (lines0.drop (at7 : Int).toNat).length < room 24 then
        some (((([] : List (ByteArray × Int)) ++ (lines0.take (at7 : Int).toNat)) ++ ([(article1, count2)])) ++ (lines0.drop (at7 : Int).toNat))
      else
        none
    else
      none
  else
    none
def spec_l29Put.tr2 (lines0 : List (ByteArray × Int)) (article1 : ByteArray) (count2 : Int) (at7 : Int) : Option (List (ByteArray × Int)) :=
  if (0 : Int) ≤ at7 ∧ (at7 : Int) ≤ lines0.length then
    if (0 : Int) ≤ at7 ∧ (at7 : Int) ≤ lines0.length then
      agree (
        agree (
          spec_l29Put.tr1 lines0 article1 count2 at7
        ) (
          spec_l29Put.tr1 lines0 article1 count2 at7
        )
      ) (
        spec_l29Put.tr1 lines0 article1 count2 at7
      )
    else
      none
  else
    none
def spec_l29Put.tr3 (lines0 : List (ByteArray × Int)) (article1 : ByteArray) (count2 : Int) (at7 : Int) : Option (List (ByteArray × Int)) :=
  if (decide ((at7 : Int) < (lines0.length : Int))) = true then
    if (0 : Int) ≤ at7 ∧ (at7 : Int) < lines0.length then
      if (((lines0.getD (at7 : Int).toNat (ByteArray.empty, 0)).1).toList == article1.toList) = true then
        if (0 : Int) ≤ at7 ∧ (at7 : Int) < lines0.length then
          if (0 : Int) ≤ at7 ∧ (at7 : Int) ≤ lines0.length then
            if (0 : Int) ≤ (IntKind.i64.wrap (at7 + 1)) ∧ ((IntKind.i64.wrap (at7 + 1)) : Int) ≤ lines0.length then
              agree (
                agree (
                  spec_l29Put.tr0 lines0 article1 count2 at7
                ) (
                  spec_l29Put.tr0 lines0 article1 count2 at7
                )
              ) (
                spec_l29Put.tr0 lines0 article1 count2 at7
              )
            else
              none
          else
            none
        else
          none
      else
        spec_l29Put.tr2 lines0 article1 count2 at7
    else
      none
  else
    spec_l29Put.tr2 lines0 article1 count2 at7
def spec_l29Put.g2raw (L2 : (List (ByteArray × Int)) → ByteArray → Int → Int → Option (List (ByteArray × Int))) (lines0 : List (ByteArray × Int)) (article1 : ByteArray) (count2 : Int) (at7 : Int) : Option (List (ByteArray × Int)) :=
  if (decide ((at7 : Int) < (lines0.length : Int))) = true then
    if (0 : Int) ≤ at7 ∧ (at7 : Int) < lines0.length then
      if (Op.bytesLess ((lines0.getD (at7 : Int).toNat (ByteArray.empty, 0)).1).toList article1.toList) = true then
        L2 lines0 article1 count2 (IntKind.i64.wrap (at7 + 1))
      else
        spec_l29Put.tr3 lines0 article1 count2 at7
    else
      none
  else
    spec_l29Put.tr3 lines0 article1 count2 at7
theorem spec_l29Put.g2raw_eq (L2 : (List (ByteArray × Int)) → ByteArray → Int → Int → Option (List (ByteArray × Int))) (lines0 : List (ByteArray × Int)) (article1 : ByteArray) (count2 : Int) (at7 : Int) : spec_l29Put.g2raw L2 lines0 article1 count2 at7 = spec_l29Put.g2 L2 lines0 article1 count2 at7 := by
  unfold spec_l29Put.g2raw spec_l29Put.g2
  simp only [agree_self, spec_l29Put.tr0, spec_l29Put.tr1, spec_l29Put.tr2, spec_l29Put.tr3]
def spec_l29Put.con : Con := { ps := [(.val, (.sl 82 (.pair .str (.int .i64)))), (.val, .str), (.val, (.int .i64))], rs := [(.own, (.sl 82 (.pair .str (.int .i64))))], F := fun x => spec_l29Put.f x.1 x.2.1 x.2.2 }
def spec_l29Put.cs : List (FuncId × Con) := []
def spec_l29Put.E : Env := envOf tab spec_l29Put.cs 0 false
def spec_l29Put.keep (i : Nat) : List Nat := if i = 2 then [0, 1, 2, 7] else []
def spec_l29Put.at2 (n : Nat) (x : (List (ByteArray × Int)) × ByteArray × Int) : Code × (Ex → St → Option ((List (ByteArray × Int)))) := ctx spec_l29Put.E spec_l29Put.keep n [.snd, .snd, .fst, .blk] (codeOf Try.f104) (kEnd spec_l29Put.E Try.f104 spec_l29Put.con x)
def spec_l29Put.LN2 (n : Nat) (x : (List (ByteArray × Int)) × ByteArray × Int) : Nat → St → Option ((List (ByteArray × Int))) := loopN (exec spec_l29Put.E spec_l29Put.keep n (bodyOf (spec_l29Put.at2 n x).1)) (St.norm 0 (spec_l29Put.keep 2)) (spec_l29Put.at2 n x).2
set_option maxRecDepth 100000 in
theorem spec_l29Put.lem2 (n : Nat) (x : (List (ByteArray × Int)) × ByteArray × Int) : ∀ (k : Nat) (lines0 : List (ByteArray × Int)) (article1 : ByteArray) (count2 : Int) (at7 : Int), spec_l29Put.LN2 n x k (spec_l29Put.st2 lines0 article1 count2 at7) = spec_l29Put.l2 n k lines0 article1 count2 at7 := by
  intro k
  induction k with
  | zero => intro lines0 article1 count2 at7; rfl
  | succ k ih =>
    intro lines0 article1 count2 at7
    have h : spec_l29Put.LN2 n x (k + 1) (spec_l29Put.st2 lines0 article1 count2 at7) = spec_l29Put.g2raw (fun lines0 article1 count2 at7 => spec_l29Put.LN2 n x k (spec_l29Put.st2 lines0 article1 count2 at7)) lines0 article1 count2 at7 := by kernel_rfl
    rw [spec_l29Put.g2raw_eq] at h
    rw [h]
    simp only [ih]
    rfl
set_option maxRecDepth 100000 in
theorem spec_l29Put.body (n : Nat) (x : (List (ByteArray × Int)) × ByteArray × Int) : bodyF spec_l29Put.E spec_l29Put.keep n Try.f104 spec_l29Put.con x = spec_l29Put.fn n x.1 x.2.1 x.2.2 := by
  have h : bodyF spec_l29Put.E spec_l29Put.keep n Try.f104 spec_l29Put.con x = spec_l29Put.top (fun lines0 article1 count2 at7 => spec_l29Put.LN2 n x n (spec_l29Put.st2 lines0 article1 count2 at7)) x.1 x.2.1 x.2.2 := by kernel_rfl
  rw [h]
  simp only [spec_l29Put.lem2]
  rfl
set_option maxRecDepth 100000 in
theorem spec_l29Put.good : Good Try.prog 104 spec_l29Put.con :=
  good_of tabok (cs := spec_l29Put.cs) trivial 0 false (fn := Try.f104) Try.func104 rfl (by decide) (by simp [spec_l29Put.con]) spec_l29Put.keep NN (fun _ => rfl) (fun x => spec_l29Put.body NN x)
end
end Go.Ev.Try

namespace Go.Ev.Try
open Go.Proofs Go.Pl
set_option linter.unusedVariables false
noncomputable section
def spec_PutLine.tr0 (p0 : ByteArray × Int × List (ByteArray × Int)) (article1 : ByteArray) (count2 : Int) (r4 : Int) : Option ((ByteArray × Int × List (ByteArray × Int)) × Int) :=
  if ([] : List (ByteArray × Int)).length + p0.2.2.length < room 24 then
    if (decide ((0 : Int) ≤ r4)) = true then
      if (0 : Int) ≤ r4 ∧ (r4 : Int) < (([] : List (ByteArray × Int)) ++ p0.2.2).length then
        (some ((([] : List (ByteArray × Int)) ++ p0.2.2).set (r4 : Int).toNat (((([] : List (ByteArray × Int)) ++ p0.2.2).getD (r4 : Int).toNat (ByteArray.empty, 0)).1, count2))).bind fun r5 =>
        some ((p0.1, (p0.2.1, r5)), 0)
      else
        none
    else
      (spec_l29Put.f (([] : List (ByteArray × Int)) ++ p0.2.2) article1 count2).bind fun r6 =>
      (spec_IsPaper.f (p0.1, (p0.2.1, r6))).bind fun r7 =>
      if (!r7) = true then
        some ((ByteArray.empty, (0, [])), 3)
      else
        some ((p0.1, (p0.2.1, r6)), 0)
  else
    none
def spec_PutLine.tr1 (p0 : ByteArray × Int × List (ByteArray × Int)) (article1 : ByteArray) (count2 : Int) (r4 : Int) : Option ((ByteArray × Int × List (ByteArray × Int)) × Int) :=
  agree (
    spec_PutLine.tr0 p0 article1 count2 r4
  ) (
    spec_PutLine.tr0 p0 article1 count2 r4
  )
def spec_PutLine.tr2 (p0 : ByteArray × Int × List (ByteArray × Int)) (article1 : ByteArray) (count2 : Int) (r4 : Int) : Option ((ByteArray × Int × List (ByteArray × Int)) × Int) :=
  agree (
    spec_PutLine.tr1 p0 article1 count2 r4
  ) (
    spec_PutLine.tr0 p0 article1 count2 r4
  )
def spec_PutLine.tr3 (p0 : ByteArray × Int × List (ByteArray × Int)) (article1 : ByteArray) (count2 : Int) (r4 : Int) : Option ((ByteArray × Int × List (ByteArray × Int)) × Int) :=
  agree (
    spec_PutLine.tr0 p0 article1 count2 r4
  ) (
    spec_PutLine.tr1 p0 article1 count2 r4
  )
def spec_PutLine.tr4 (p0 : ByteArray × Int × List (ByteArray × Int)) (article1 : ByteArray) (count2 : Int) (r4 : Int) : Option ((ByteArray × Int × List (ByteArray × Int)) × Int) :=
  agree (
    spec_PutLine.tr1 p0 article1 count2 r4
  ) (
    spec_PutLine.tr3 p0 article1 count2 r4
  )
def spec_PutLine.tr5 (p0 : ByteArray × Int × List (ByteArray × Int)) (article1 : ByteArray) (count2 : Int) (r4 : Int) : Option ((ByteArray × Int × List (ByteArray × Int)) × Int) :=
  agree (
    spec_PutLine.tr2 p0 article1 count2 r4
  ) (
    agree (
      spec_PutLine.tr4 p0 article1 count2 r4
    ) (
      spec_PutLine.tr3 p0 article1 count2 r4
    )
  )
def spec_PutLine.tr6 (p0 : ByteArray × Int × List (ByteArray × Int)) (article1 : ByteArray) (count2 : Int) (r4 : Int) : Option ((ByteArray × Int × List (ByteArray × Int)) × Int) :=
  agree (
    spec_PutLine.tr1 p0 article1 count2 r4
  ) (
    agree (
      spec_PutLine.tr3 p0 article1 count2 r4
    ) (
      spec_PutLine.tr3 p0 article1 count2 r4
    )
  )
def spec_PutLine.tr7 (p0 : ByteArray × Int × List (ByteArray × Int)) (article1 : ByteArray) (count2 : Int) (r4 : Int) : Option ((ByteArray × Int × List (ByteArray × Int)) × Int) :=
  agree (
    agree (
      spec_PutLine.tr2 p0 article1 count2 r4
    ) (
      agree (
        spec_PutLine.tr2 p0 article1 count2 r4
      ) (
        spec_PutLine.tr1 p0 article1 count2 r4
      )
    )
  ) (
    agree (
      spec_PutLine.tr5 p0 article1 count2 r4
    ) (
      agree (
        spec_PutLine.tr5 p0 article1 count2 r4
      ) (
        spec_PutLine.tr6 p0 article1 count2 r4
      )
    )
  )
def spec_PutLine.tr8 (p0 : ByteArray × Int × List (ByteArray × Int)) (article1 : ByteArray) (count2 : Int) (r4 : Int) : Option ((ByteArray × Int × List (ByteArray × Int)) × Int) :=
  agree (
    spec_PutLine.tr1 p0 article1 count2 r4
  ) (
    spec_PutLine.tr2 p0 article1 count2 r4
  )
def spec_PutLine.tr9 (p0 : ByteArray × Int × List (ByteArray × Int)) (article1 : ByteArray) (count2 : Int) (r4 : Int) : Option ((ByteArray × Int × List (ByteArray × Int)) × Int) :=
  agree (
    spec_PutLine.tr3 p0 article1 count2 r4
  ) (
    agree (
      spec_PutLine.tr3 p0 article1 count2 r4
    ) (
      spec_PutLine.tr8 p0 article1 count2 r4
    )
  )
def spec_PutLine.tr10 (p0 : ByteArray × Int × List (ByteArray × Int)) (article1 : ByteArray) (count2 : Int) (r4 : Int) : Option ((ByteArray × Int × List (ByteArray × Int)) × Int) :=
  agree (
    spec_PutLine.tr5 p0 article1 count2 r4
  ) (
    agree (
      spec_PutLine.tr5 p0 article1 count2 r4
    ) (
      agree (
        agree (
          spec_PutLine.tr4 p0 article1 count2 r4
        ) (
          agree (
            spec_PutLine.tr4 p0 article1 count2 r4
          ) (
            agree (
              spec_PutLine.tr0 p0 article1 count2 r4
            ) (
              spec_PutLine.tr8 p0 article1 count2 r4
            )
          )
        )
      ) (
        spec_PutLine.tr9 p0 article1 count2 r4
      )
    )
  )
def spec_PutLine.topraw (p0 : ByteArray × Int × List (ByteArray × Int)) (article1 : ByteArray) (count2 : Int) : Option ((ByteArray × Int × List (ByteArray × Int)) × Int) :=
  (spec_IsPaper.f p0).bind fun r1 =>
  if (!r1) = false then
    (spec_IsWord.f article1).bind fun r2 =>
    if (!r2) = true then
      some ((ByteArray.empty, (0, [])), 1)
    else
      (spec_l01In.f count2 1 1000).bind fun r3 =>
      if (!r3) = true then
        some ((ByteArray.empty, (0, [])), 2)
      else
        (spec_l29Find.f p0 article1).bind fun r4 =>
        agree (
          spec_PutLine.tr7 p0 article1 count2 r4
        ) (
          agree (
            spec_PutLine.tr7 p0 article1 count2 r4
          ) (
            agree (
              spec_PutLine.tr10 p0 article1 count2 r4
            ) (
              agree (
                spec_PutLine.tr10 p0 article1 count2 r4
              ) (
                agree (
                  spec_PutLine.tr6 p0 article1 count2 r4
                ) (
                  agree (
                    spec_PutLine.tr6 p0 article1 count2 r4
                  ) (
                    agree (
                      spec_PutLine.tr9 p0 article1 count2 r4
                    ) (
                      spec_PutLine.tr9 p0 article1 count2 r4
                    )
                  )
                )
              )
            )
          )
        )
  else
    some ((ByteArray.empty, (0, [])), 1)
theorem spec_PutLine.topraw_eq (p0 : ByteArray × Int × List (ByteArray × Int)) (article1 : ByteArray) (count2 : Int) : spec_PutLine.topraw p0 article1 count2 = spec_PutLine.top p0 article1 count2 := by
  unfold spec_PutLine.topraw spec_PutLine.top
  simp only [agree_self, spec_PutLine.tr0, spec_PutLine.tr1, spec_PutLine.tr2, spec_PutLine.tr3, spec_PutLine.tr4, spec_PutLine.tr5, spec_PutLine.tr6, spec_PutLine.tr7, spec_PutLine.tr8, spec_PutLine.tr9, spec_PutLine.tr10]
def spec_PutLine.con : Con := { ps := [(.val, (.pair .str (.pair (.int .i64) (.sl 82 (.pair .str (.int .i64)))))), (.val, .str), (.val, (.int .i64))], rs := [(.own, (.pair .str (.pair (.int .i64) (.sl 82 (.pair .str (.int .i64)))))), (.own, (.int .i64))], F := fun x => spec_PutLine.f x.1 x.2.1 x.2.2 }
def spec_PutLine.cs : List (FuncId × Con) := [(87, spec_l01In.con), (103, spec_IsPaper.con), (104, spec_l29Put.con), (105, spec_l29Find.con), (108, spec_IsWord.con)]
def spec_PutLine.E : Env := envOf tab spec_PutLine.cs 0 false
def spec_PutLine.keep (i : Nat) : List Nat := []
set_option maxRecDepth 100000 in
theorem spec_PutLine.body (n : Nat) (x : (ByteArray × Int × List (ByteArray × Int)) × ByteArray × Int) : bodyF spec_PutLine.E spec_PutLine.keep n Try.f51 spec_PutLine.con x = spec_PutLine.fn n x.1 x.2.1 x.2.2 := by
  have h : bodyF spec_PutLine.E spec_PutLine.keep n Try.f51 spec_PutLine.con x = spec_PutLine.topraw x.1 x.2.1 x.2.2 := by kernel_rfl
  rw [spec_PutLine.topraw_eq] at h
  exact h
set_option maxRecDepth 100000 in
theorem spec_PutLine.good : Good Try.prog 51 spec_PutLine.con :=
  good_of tabok (cs := spec_PutLine.cs) ⟨spec_l01In.good, spec_IsPaper.good, spec_l29Put.good, spec_l29Find.good, spec_IsWord.good, trivial⟩ 0 false (fn := Try.f51) Try.func51 rfl (by decide) (by simp [spec_PutLine.con]) spec_PutLine.keep NN (fun _ => rfl) (fun x => spec_PutLine.body NN x)
end
end Go.Ev.Try

namespace Go.Ev.Try
open Go.Proofs Go.Pl
set_option linter.unusedVariables false
noncomputable section
def impl_PutLine.con : Con := { ps := [(.val, (.pair .str (.pair (.int .i64) (.sl 82 (.pair .str (.int .i64)))))), (.val, .str), (.val, (.int .i64))], rs := [(.own, (.pair .str (.pair (.int .i64) (.sl 82 (.pair .str (.int .i64)))))), (.own, (.int .i64))], F := fun x => impl_PutLine.f x.1 x.2.1 x.2.2 }
def impl_PutLine.cs : List (FuncId × Con) := [(42, impl_IsPaper.con), (90, impl_within.con), (97, impl_IsWord.con), (99, impl_putLine.con), (102, impl_withLines.con)]
def impl_PutLine.E : Env := envOf tab impl_PutLine.cs 0 false
def impl_PutLine.keep (i : Nat) : List Nat := []
set_option maxRecDepth 100000 in
theorem impl_PutLine.body (n : Nat) (x : (ByteArray × Int × List (ByteArray × Int)) × ByteArray × Int) : bodyF impl_PutLine.E impl_PutLine.keep n Try.f52 impl_PutLine.con x = impl_PutLine.fn n x.1 x.2.1 x.2.2 := by
  have h : bodyF impl_PutLine.E impl_PutLine.keep n Try.f52 impl_PutLine.con x = impl_PutLine.top x.1 x.2.1 x.2.2 := by kernel_rfl
  exact h
set_option maxRecDepth 100000 in
theorem impl_PutLine.good : Good Try.prog 52 impl_PutLine.con :=
  good_of tabok (cs := impl_PutLine.cs) ⟨impl_IsPaper.good, impl_within.good, impl_IsWord.good, impl_putLine.good, impl_withLines.good, trivial⟩ 0 false (fn := Try.f52) Try.func52 rfl (by decide) (by simp [impl_PutLine.con]) impl_PutLine.keep NN (fun _ => rfl) (fun x => impl_PutLine.body NN x)
end
end Go.Ev.Try

namespace Go.Ev.Try
open Go.Proofs Go.Pl
set_option linter.unusedVariables false
noncomputable section
def spec_l01From.st3 (code0 : List Int) (i4 : Int) (s3a : List Int) (s3ba : Int) (s3bb : Int) : St := ⟨[.dat (.sl 5 (.int .u8)) code0, .gone, .gone, .ptr 0 [], .dat (.int .i64) i4, .gone, .gone, .gone, .gone, .gone, .gone, .gone, .gone, .gone, .gone, .gone, .gone, .gone, .gone, .gone, .gone, .gone, .gone, .gone, .gone, .gone, .gone, .gone, .gone, .gone, .gone, .gone, .gone, .gone], [.box 158 (.pair (.sl 5 (.int .u8)) (.pair (.int .i64) (.int .i64))) (.pr (.dat (.sl 5 (.int .u8)) s3a) (.pr (.dat (.int .i64) s3ba) (.dat (.int .i64) s3bb)))]⟩
def spec_l01From.con : Con := { ps := [(.val, (.sl 5 (.int .u8)))], rs := [(.bx 158, (.pair (.sl 5 (.int .u8)) (.pair (.int .i64) (.int .i64))))], F := fun x => spec_l01From.f x }
def spec_l01From.cs : List (FuncId × Con) := []
def spec_l01From.E : Env := envOf tab spec_l01From.cs 0 false
def spec_l01From.keep (i : Nat) : List Nat := if i = 3 then [0, 3, 4] else []
def spec_l01From.at3 (n : Nat) (x : List Int) : Code × (Ex → St → Option ((List Int × Int × Int))) := ctx spec_l01From.E spec_l01From.keep n [.snd, .snd, .fst, .snd, .blk] (codeOf Try.f93) (kEnd spec_l01From.E Try.f93 spec_l01From.con x)
def spec_l01From.LN3 (n : Nat) (x : List Int) : Nat → St → Option ((List Int × Int × Int)) := loopN (exec spec_l01From.E spec_l01From.keep n (bodyOf (spec_l01From.at3 n x).1)) (St.norm 0 (spec_l01From.keep 3)) (spec_l01From.at3 n x).2
set_option maxRecDepth 100000 in
theorem spec_l01From.lem3 (n : Nat) (x : List Int) : ∀ (k : Nat) (code0 : List Int) (i4 : Int) (s3a : List Int) (s3ba : Int) (s3bb : Int), spec_l01From.LN3 n x k (spec_l01From.st3 code0 i4 s3a s3ba s3bb) = spec_l01From.l3 n k code0 i4 s3a s3ba s3bb := by
  intro k
  induction k with
  | zero => intro code0 i4 s3a s3ba s3bb; rfl
  | succ k ih =>
    intro code0 i4 s3a s3ba s3bb
    have h : spec_l01From.LN3 n x (k + 1) (spec_l01From.st3 code0 i4 s3a s3ba s3bb) = spec_l01From.g3 (fun code0 i4 s3a s3ba s3bb => spec_l01From.LN3 n x k (spec_l01From.st3 code0 i4 s3a s3ba s3bb)) code0 i4 s3a s3ba s3bb := by kernel_rfl
    rw [h]
    simp only [ih]
    rfl
set_option maxRecDepth 100000 in
theorem spec_l01From.body (n : Nat) (x : List Int) : bodyF spec_l01From.E spec_l01From.keep n Try.f93 spec_l01From.con x = spec_l01From.fn n x := by
  have h : bodyF spec_l01From.E spec_l01From.keep n Try.f93 spec_l01From.con x = spec_l01From.top (fun code0 i4 s3a s3ba s3bb => spec_l01From.LN3 n x n (spec_l01From.st3 code0 i4 s3a s3ba s3bb)) x := by kernel_rfl
  rw [h]
  simp only [spec_l01From.lem3]
  rfl
set_option maxRecDepth 100000 in
theorem spec_l01From.good : Good Try.prog 93 spec_l01From.con :=
  good_of tabok (cs := spec_l01From.cs) trivial 0 false (fn := Try.f93) Try.func93 rfl (by decide) (by simp [spec_l01From.con]) spec_l01From.keep NN (fun _ => rfl) (fun x => spec_l01From.body NN x)
end
end Go.Ev.Try

namespace Go.Ev.Try
open Go.Proofs Go.Pl
set_option linter.unusedVariables false
noncomputable section
def spec_l01Next.con : Con := { ps := [(.bx 158, (.pair (.sl 5 (.int .u8)) (.pair (.int .i64) (.int .i64)))), (.val, (.int .i64))], rs := [(.val, (.int .i64))], F := fun x => spec_l01Next.f x.1 x.2 }
def spec_l01Next.cs : List (FuncId × Con) := []
def spec_l01Next.E : Env := envOf tab spec_l01Next.cs 1 false
def spec_l01Next.keep (i : Nat) : List Nat := []
set_option maxRecDepth 100000 in
theorem spec_l01Next.body (n : Nat) (x : (List Int × Int × Int) × Int) : bodyF spec_l01Next.E spec_l01Next.keep n Try.f96 spec_l01Next.con x = spec_l01Next.fn n x.1 x.2 := by
  have h : bodyF spec_l01Next.E spec_l01Next.keep n Try.f96 spec_l01Next.con x = spec_l01Next.top x.1 x.2 := by kernel_rfl
  exact h
set_option maxRecDepth 100000 in
theorem spec_l01Next.good : Good Try.prog 96 spec_l01Next.con :=
  good_of tabok (cs := spec_l01Next.cs) trivial 1 false (fn := Try.f96) Try.func96 rfl (by decide) (by simp [spec_l01Next.con]) spec_l01Next.keep NN (fun _ => rfl) (fun x => spec_l01Next.body NN x)
end
end Go.Ev.Try

namespace Go.Ev.Try
open Go.Proofs Go.Pl
set_option linter.unusedVariables false
noncomputable section
def spec_l01Pick.con : Con := { ps := [(.bx 158, (.pair (.sl 5 (.int .u8)) (.pair (.int .i64) (.int .i64)))), (.val, (.sl 2 (.int .i64)))], rs := [(.val, (.int .i64))], F := fun x => spec_l01Pick.f x.1 x.2 }
def spec_l01Pick.cs : List (FuncId × Con) := [(96, spec_l01Next.con)]
def spec_l01Pick.E : Env := envOf tab spec_l01Pick.cs 1 false
def spec_l01Pick.keep (i : Nat) : List Nat := []
set_option maxRecDepth 100000 in
theorem spec_l01Pick.body (n : Nat) (x : (List Int × Int × Int) × List Int) : bodyF spec_l01Pick.E spec_l01Pick.keep n Try.f95 spec_l01Pick.con x = spec_l01Pick.fn n x.1 x.2 := by
  have h : bodyF spec_l01Pick.E spec_l01Pick.keep n Try.f95 spec_l01Pick.con x = spec_l01Pick.top x.1 x.2 := by kernel_rfl
  exact h
set_option maxRecDepth 100000 in
theorem spec_l01Pick.good : Good Try.prog 95 spec_l01Pick.con :=
  good_of tabok (cs := spec_l01Pick.cs) ⟨spec_l01Next.good, trivial⟩ 1 false (fn := Try.f95) Try.func95 rfl (by decide) (by simp [spec_l01Pick.con]) spec_l01Pick.keep NN (fun _ => rfl) (fun x => spec_l01Pick.body NN x)
end
end Go.Ev.Try

namespace Go.Ev.Try
open Go.Proofs Go.Pl
set_option linter.unusedVariables false
noncomputable section
def spec_l01Good.con : Con := { ps := [(.bx 158, (.pair (.sl 5 (.int .u8)) (.pair (.int .i64) (.int .i64))))], rs := [(.val, .str)], F := fun x => spec_l01Good.f x }
def spec_l01Good.cs : List (FuncId × Con) := [(96, spec_l01Next.con)]
def spec_l01Good.E : Env := envOf tab spec_l01Good.cs 1 false
def spec_l01Good.keep (i : Nat) : List Nat := []
set_option maxRecDepth 100000 in
theorem spec_l01Good.body (n : Nat) (x : List Int × Int × Int) : bodyF spec_l01Good.E spec_l01Good.keep n Try.f160 spec_l01Good.con x = spec_l01Good.fn n x := by
  have h : bodyF spec_l01Good.E spec_l01Good.keep n Try.f160 spec_l01Good.con x = spec_l01Good.top x := by kernel_rfl
  exact h
set_option maxRecDepth 100000 in
theorem spec_l01Good.good : Good Try.prog 160 spec_l01Good.con :=
  good_of tabok (cs := spec_l01Good.cs) ⟨spec_l01Next.good, trivial⟩ 1 false (fn := Try.f160) Try.func160 rfl (by decide) (by simp [spec_l01Good.con]) spec_l01Good.keep NN (fun _ => rfl) (fun x => spec_l01Good.body NN x)
end
end Go.Ev.Try

namespace Go.Ev.Try
open Go.Proofs Go.Pl
set_option linter.unusedVariables false
noncomputable section
def spec_l01DrawWord.con : Con := { ps := [(.bx 158, (.pair (.sl 5 (.int .u8)) (.pair (.int .i64) (.int .i64))))], rs := [(.val, .str)], F := fun x => spec_l01DrawWord.f x }
def spec_l01DrawWord.cs : List (FuncId × Con) := [(96, spec_l01Next.con), (160, spec_l01Good.con)]
def spec_l01DrawWord.E : Env := envOf tab spec_l01DrawWord.cs 1 false
def spec_l01DrawWord.keep (i : Nat) : List Nat := []
set_option maxRecDepth 100000 in
theorem spec_l01DrawWord.body (n : Nat) (x : List Int × Int × Int) : bodyF spec_l01DrawWord.E spec_l01DrawWord.keep n Try.f139 spec_l01DrawWord.con x = spec_l01DrawWord.fn n x := by
  have h : bodyF spec_l01DrawWord.E spec_l01DrawWord.keep n Try.f139 spec_l01DrawWord.con x = spec_l01DrawWord.top x := by kernel_rfl
  exact h
set_option maxRecDepth 100000 in
theorem spec_l01DrawWord.good : Good Try.prog 139 spec_l01DrawWord.con :=
  good_of tabok (cs := spec_l01DrawWord.cs) ⟨spec_l01Next.good, spec_l01Good.good, trivial⟩ 1 false (fn := Try.f139) Try.func139 rfl (by decide) (by simp [spec_l01DrawWord.con]) spec_l01DrawWord.keep NN (fun _ => rfl) (fun x => spec_l01DrawWord.body NN x)
end
end Go.Ev.Try

namespace Go.Ev.Try
open Go.Proofs Go.Pl
set_option linter.unusedVariables false
noncomputable section
def spec_l03Names.con : Con := { ps := [], rs := [(.own, (.sl 9 .str))], F := fun x => spec_l03Names.f  }
def spec_l03Names.cs : List (FuncId × Con) := []
def spec_l03Names.E : Env := envOf tab spec_l03Names.cs 0 false
def spec_l03Names.keep (i : Nat) : List Nat := []
set_option maxRecDepth 100000 in
theorem spec_l03Names.body (n : Nat) (x : Unit) : bodyF spec_l03Names.E spec_l03Names.keep n Try.f158 spec_l03Names.con x = spec_l03Names.fn n  := by
  have h : bodyF spec_l03Names.E spec_l03Names.keep n Try.f158 spec_l03Names.con x = spec_l03Names.top  := by kernel_rfl
  exact h
set_option maxRecDepth 100000 in
theorem spec_l03Names.good : Good Try.prog 158 spec_l03Names.con :=
  good_of tabok (cs := spec_l03Names.cs) trivial 0 false (fn := Try.f158) Try.func158 rfl (by decide) (by simp [spec_l03Names.con]) spec_l03Names.keep NN (fun _ => rfl) (fun x => spec_l03Names.body NN x)
end
end Go.Ev.Try

namespace Go.Ev.Try
open Go.Proofs Go.Pl
set_option linter.unusedVariables false
noncomputable section
def spec_l29Good.st4 (i5 : Int) (s0 : List Int × Int × Int) (v2a : ByteArray) (v2ba : Int) (p3a : ByteArray) (p3ba : Int) (names4 : List ByteArray) (w4 : List (ByteArray × Int)) (w5 : List (ByteArray × Int)) : St := ⟨[.ptr 0 [], .gone, .ptr 1 [], .ptr 2 [], .ref 3, .dat (.int .i64) i5, .gone, .gone, .gone, .gone, .gone, .gone, .gone, .gone, .gone, .gone, .gone, .gone, .gone, .gone, .gone, .gone, .gone, .gone, .gone, .gone, .gone, .gone, .gone, .gone, .gone, .gone, .gone, .gone, .gone, .gone, .gone, .gone, .gone], [.box 158 (.pair (.sl 5 (.int .u8)) (.pair (.int .i64) (.int .i64))) (.dat (.pair (.sl 5 (.int .u8)) (.pair (.int .i64) (.int .i64))) s0), .box 47 (.pair .str (.pair (.int .i64) (.sl 82 (.pair .str (.int .i64))))) (.pr (.dat .str v2a) (.pr (.dat (.int .i64) v2ba) (.ref 4))), .box 47 (.pair .str (.pair (.int .i64) (.sl 82 (.pair .str (.int .i64))))) (.pr (.dat .str p3a) (.pr (.dat (.int .i64) p3ba) (.ref 5))), .row 9 .str names4 none, .row 82 (.pair .str (.int .i64)) w4 none, .row 82 (.pair .str (.int .i64)) w5 none]⟩
def spec_l29Good.tr0 (L4 : Int → (List Int × Int × Int) → ByteArray → Int → ByteArray → Int → List ByteArray → (List (ByteArray × Int)) → (List (ByteArray × Int)) → Option ((ByteArray × Int × List (ByteArray × Int)) × List Int × Int × Int)) (i5 : Int) (v2a : ByteArray) (v2ba : Int) (p3a : ByteArray) (p3ba : Int) (names4 : List ByteArray) (w4 : List (ByteArray × Int)) (w5 : List (ByteArray × Int)) (r4 : (Int × List Int × Int × Int)) : Option ((ByteArray × Int × List (ByteArray × Int)) × List Int × Int × Int) :=
  (spec_l01Next.f r4.2 20).bind fun r5 =>
  if w5.length + ([(names4.getD (i5 : Int).toNat ByteArray.empty, IntKind.i64.wrap (1 + r5.1))]).length < room 24 then
    L4 (IntKind.i64.wrap (i5 + 1)) r5.2 v2a v2ba p3a p3ba names4 w4 (w5 ++ ([(names4.getD (i5 : Int).toNat ByteArray.empty, IntKind.i64.wrap (1 + r5.1))]))
  else
    none
def spec_l29Good.tr1 (L4 : Int → (List Int × Int × Int) → ByteArray → Int → ByteArray → Int → List ByteArray → (List (ByteArray × Int)) → (List (ByteArray × Int)) → Option ((ByteArray × Int × List (ByteArray × Int)) × List Int × Int × Int)) (i5 : Int) (v2a : ByteArray) (v2ba : Int) (p3a : ByteArray) (p3ba : Int) (names4 : List ByteArray) (w4 : List (ByteArray × Int)) (w5 : List (ByteArray × Int)) (r4 : (Int × List Int × Int × Int)) : Option ((ByteArray × Int × List (ByteArray × Int)) × List Int × Int × Int) :=
  agree (
    spec_l29Good.tr0 L4 i5 v2a v2ba p3a p3ba names4 w4 w5 r4
  ) (
    spec_l29Good.tr0 L4 i5 v2a v2ba p3a p3ba names4 w4 w5 r4
  )
def spec_l29Good.g4raw (L4 : Int → (List Int × Int × Int) → ByteArray → Int → ByteArray → Int → List ByteArray → (List (ByteArray × Int)) → (List (ByteArray × Int)) → Option ((ByteArray × Int × List (ByteArray × Int)) × List Int × Int × Int)) (i5 : Int) (s0 : List Int × Int × Int) (v2a : ByteArray) (v2ba : Int) (p3a : ByteArray) (p3ba : Int) (names4 : List ByteArray) (w4 : List (ByteArray × Int)) (w5 : List (ByteArray × Int)) : Option ((ByteArray × Int × List (ByteArray × Int)) × List Int × Int × Int) :=
  if (decide ((i5 : Int) < (names4.length : Int))) = true then
    (spec_l01Next.f s0 2).bind fun r4 =>
    if ((r4.1 : Int) == 0) = true then
      if (0 : Int) ≤ i5 ∧ (i5 : Int) < names4.length then
        agree (
          spec_l29Good.tr1 L4 i5 v2a v2ba p3a p3ba names4 w4 w5 r4
        ) (
          agree (
            spec_l29Good.tr1 L4 i5 v2a v2ba p3a p3ba names4 w4 w5 r4
          ) (
            spec_l29Good.tr0 L4 i5 v2a v2ba p3a p3ba names4 w4 w5 r4
          )
        )
      else
        none
    else
      L4 (IntKind.i64.wrap (i5 + 1)) r4.2 v2a v2ba p3a p3ba names4 w4 w5
  else
    some ((p3a, (p3ba, w5)), s0)
theorem spec_l29Good.g4raw_eq (L4 : Int → (List Int × Int × Int) → ByteArray → Int → ByteArray → Int → List ByteArray → (List (ByteArray × Int)) → (List (ByteArray × Int)) → Option ((ByteArray × Int × List (ByteArray × Int)) × List Int × Int × Int)) (i5 : Int) (s0 : List Int × Int × Int) (v2a : ByteArray) (v2ba : Int) (p3a : ByteArray) (p3ba : Int) (names4 : List ByteArray) (w4 : List (ByteArray × Int)) (w5 : List (ByteArray × Int)) : spec_l29Good.g4raw L4 i5 s0 v2a v2ba p3a p3ba names4 w4 w5 = spec_l29Good.g4 L4 i5 s0 v2a v2ba p3a p3ba names4 w4 w5 := by
  unfold spec_l29Good.g4raw spec_l29Good.g4
  simp only [agree_self, spec_l29Good.tr0, spec_l29Good.tr1]
def spec_l29Good.tr2 (I4 : Int → (List Int × Int × Int) → ByteArray → Int → ByteArray → Int → List ByteArray → (List (ByteArray × Int)) → (List (ByteArray × Int)) → Option ((ByteArray × Int × List (ByteArray × Int)) × List Int × Int × Int)) (r1 : (Int × List Int × Int × Int)) (r2 : (Int × List Int × Int × Int)) : Option ((ByteArray × Int × List (ByteArray × Int)) × List Int × Int × Int) :=
  (spec_l03Names.f).bind fun r3 =>
  I4 0 r2.2 ByteArray.empty 0 (([(⟨#[118, 97, 110]⟩ : ByteArray), (⟨#[116, 114, 117, 99, 107]⟩ : ByteArray)]).getD (r1.1 : Int).toNat ByteArray.empty) r2.1 r3 [] []
def spec_l29Good.tr3 (I4 : Int → (List Int × Int × Int) → ByteArray → Int → ByteArray → Int → List ByteArray → (List (ByteArray × Int)) → (List (ByteArray × Int)) → Option ((ByteArray × Int × List (ByteArray × Int)) × List Int × Int × Int)) (r1 : (Int × List Int × Int × Int)) (r2 : (Int × List Int × Int × Int)) : Option ((ByteArray × Int × List (ByteArray × Int)) × List Int × Int × Int) :=
  agree (
    spec_l29Good.tr2 I4 r1 r2
  ) (
    spec_l29Good.tr2 I4 r1 r2
  )
def spec_l29Good.tr4 (I4 : Int → (List Int × Int × Int) → ByteArray → Int → ByteArray → Int → List ByteArray → (List (ByteArray × Int)) → (List (ByteArray × Int)) → Option ((ByteArray × Int × List (ByteArray × Int)) × List Int × Int × Int)) (r1 : (Int × List Int × Int × Int)) : Option ((ByteArray × Int × List (ByteArray × Int)) × List Int × Int × Int) :=
  (spec_l01Next.f r1.2 1000).bind fun r2 =>
  spec_l29Good.tr3 I4 r1 r2
def spec_l29Good.tr5 (I4 : Int → (List Int × Int × Int) → ByteArray → Int → ByteArray → Int → List ByteArray → (List (ByteArray × Int)) → (List (ByteArray × Int)) → Option ((ByteArray × Int × List (ByteArray × Int)) × List Int × Int × Int)) (r1 : (Int × List Int × Int × Int)) : Option ((ByteArray × Int × List (ByteArray × Int)) × List Int × Int × Int) :=
  (spec_l01Next.f r1.2 1000).bind fun r2 =>
  spec_l29Good.tr2 I4 r1 r2
def spec_l29Good.tr6 (I4 : Int → (List Int × Int × Int) → ByteArray → Int → ByteArray → Int → List ByteArray → (List (ByteArray × Int)) → (List (ByteArray × Int)) → Option ((ByteArray × Int × List (ByteArray × Int)) × List Int × Int × Int)) (r1 : (Int × List Int × Int × Int)) : Option ((ByteArray × Int × List (ByteArray × Int)) × List Int × Int × Int) :=
  agree (
    spec_l29Good.tr5 I4 r1
  ) (
    spec_l29Good.tr5 I4 r1
  )
def spec_l29Good.tr7 (I4 : Int → (List Int × Int × Int) → ByteArray → Int → ByteArray → Int → List ByteArray → (List (ByteArray × Int)) → (List (ByteArray × Int)) → Option ((ByteArray × Int × List (ByteArray × Int)) × List Int × Int × Int)) (r1 : (Int × List Int × Int × Int)) : Option ((ByteArray × Int × List (ByteArray × Int)) × List Int × Int × Int) :=
  agree (
    spec_l29Good.tr6 I4 r1
  ) (
    agree (
      spec_l29Good.tr5 I4 r1
    ) (
      spec_l29Good.tr6 I4 r1
    )
  )
def spec_l29Good.tr8 (I4 : Int → (List Int × Int × Int) → ByteArray → Int → ByteArray → Int → List ByteArray → (List (ByteArray × Int)) → (List (ByteArray × Int)) → Option ((ByteArray × Int × List (ByteArray × Int)) × List Int × Int × Int)) (r1 : (Int × List Int × Int × Int)) : Option ((ByteArray × Int × List (ByteArray × Int)) × List Int × Int × Int) :=
  if (0 : Int) ≤ r1.1 ∧ (r1.1 : Int) < ([(⟨#[118, 97, 110]⟩ : ByteArray), (⟨#[116, 114, 117, 99, 107]⟩ : ByteArray)]).length then
    agree (
      agree (
        spec_l29Good.tr4 I4 r1
      ) (
        agree (
          spec_l29Good.tr6 I4 r1
        ) (
          spec_l29Good.tr6 I4 r1
        )
      )
    ) (
      agree (
        spec_l29Good.tr4 I4 r1
      ) (
        agree (
          spec_l29Good.tr7 I4 r1
        ) (
          spec_l29Good.tr7 I4 r1
        )
      )
    )
  else
    none
def spec_l29Good.tr9 (I4 : Int → (List Int × Int × Int) → ByteArray → Int → ByteArray → Int → List ByteArray → (List (ByteArray × Int)) → (List (ByteArray × Int)) → Option ((ByteArray × Int × List (ByteArray × Int)) × List Int × Int × Int)) (r1 : (Int × List Int × Int × Int)) : Option ((ByteArray × Int × List (ByteArray × Int)) × List Int × Int × Int) :=
  if (0 : Int) ≤ r1.1 ∧ (r1.1 : Int) < ([(⟨#[118, 97, 110]⟩ : ByteArray), (⟨#[116, 114, 117, 99, 107]⟩ : ByteArray)]).length then
    spec_l29Good.tr7 I4 r1
  else
    none
def spec_l29Good.tr10 (I4 : Int → (List Int × Int × Int) → ByteArray → Int → ByteArray → Int → List ByteArray → (List (ByteArray × Int)) → (List (ByteArray × Int)) → Option ((ByteArray × Int × List (ByteArray × Int)) × List Int × Int × Int)) (r1 : (Int × List Int × Int × Int)) : Option ((ByteArray × Int × List (ByteArray × Int)) × List Int × Int × Int) :=
  if (0 : Int) ≤ r1.1 ∧ (r1.1 : Int) < ([(⟨#[118, 97, 110]⟩ : ByteArray), (⟨#[116, 114, 117, 99, 107]⟩ : ByteArray)]).length then
    spec_l29Good.tr6 I4 r1
  else
    none
def spec_l29Good.tr11 (I4 : Int → (List Int × Int × Int) → ByteArray → Int → ByteArray → Int → List ByteArray → (List (ByteArray × Int)) → (List (ByteArray × Int)) → Option ((ByteArray × Int × List (ByteArray × Int)) × List Int × Int × Int)) (s0 : List Int × Int × Int) : Option ((ByteArray × Int × List (ByteArray × Int)) × List Int × Int × Int) :=
  (spec_l01Next.f s0 2).bind fun r1 =>
  spec_l29Good.tr10 I4 r1
def spec_l29Good.tr12 (I4 : Int → (List Int × Int × Int) → ByteArray → Int → ByteArray → Int → List ByteArray → (List (ByteArray × Int)) → (List (ByteArray × Int)) → Option ((ByteArray × Int × List (ByteArray × Int)) × List Int × Int × Int)) (s0 : List Int × Int × Int) : Option ((ByteArray × Int × List (ByteArray × Int)) × List Int × Int × Int) :=
  agree (
    (spec_l01Next.f s0 2).bind fun r1 =>
    spec_l29Good.tr9 I4 r1
  ) (
    spec_l29Good.tr11 I4 s0
  )
def spec_l29Good.tr13 (I4 : Int → (List Int × Int × Int) → ByteArray → Int → ByteArray → Int → List ByteArray → (List (ByteArray × Int)) → (List (ByteArray × Int)) → Option ((ByteArray × Int × List (ByteArray × Int)) × List Int × Int × Int)) (r1 : (Int × List Int × Int × Int)) (r2 : (Int × List Int × Int × Int)) : Option ((ByteArray × Int × List (ByteArray × Int)) × List Int × Int × Int) :=
  if (0 : Int) ≤ r1.1 ∧ (r1.1 : Int) < ([(⟨#[118, 97, 110]⟩ : ByteArray), (⟨#[116, 114, 117, 99, 107]⟩ : ByteArray)]).length then
    spec_l29Good.tr2 I4 r1 r2
  else
    none
def spec_l29Good.tr14 (I4 : Int → (List Int × Int × Int) → ByteArray → Int → ByteArray → Int → List ByteArray → (List (ByteArray × Int)) → (List (ByteArray × Int)) → Option ((ByteArray × Int × List (ByteArray × Int)) × List Int × Int × Int)) (r1 : (Int × List Int × Int × Int)) (r2 : (Int × List Int × Int × Int)) : Option ((ByteArray × Int × List (ByteArray × Int)) × List Int × Int × Int) :=
  agree (
    spec_l29Good.tr13 I4 r1 r2
  ) (
    spec_l29Good.tr13 I4 r1 r2
  )
def spec_l29Good.tr15 (I4 : Int → (List Int × Int × Int) → ByteArray → Int → ByteArray → Int → List ByteArray → (List (ByteArray × Int)) → (List (ByteArray × Int)) → Option ((ByteArray × Int × List (ByteArray × Int)) × List Int × Int × Int)) (r1 : (Int × List Int × Int × Int)) : Option ((ByteArray × Int × List (ByteArray × Int)) × List Int × Int × Int) :=
  agree (
    spec_l29Good.tr10 I4 r1
  ) (
    (spec_l01Next.f r1.2 1000).bind fun r2 =>
    spec_l29Good.tr13 I4 r1 r2
  )
def spec_l29Good.tr16 (I4 : Int → (List Int × Int × Int) → ByteArray → Int → ByteArray → Int → List ByteArray → (List (ByteArray × Int)) → (List (ByteArray × Int)) → Option ((ByteArray × Int × List (ByteArray × Int)) × List Int × Int × Int)) (r1 : (Int × List Int × Int × Int)) : Option ((ByteArray × Int × List (ByteArray × Int)) × List Int × Int × Int) :=
  agree (
    spec_l29Good.tr9 I4 r1
  ) (
    agree (
      (spec_l01Next.f r1.2 1000).bind fun r2 =>
      spec_l29Good.tr14 I4 r1 r2
    ) (
      spec_l29Good.tr15 I4 r1
    )
  )
def spec_l29Good.tr17 (I4 : Int → (List Int × Int × Int) → ByteArray → Int → ByteArray → Int → List ByteArray → (List (ByteArray × Int)) → (List (ByteArray × Int)) → Option ((ByteArray × Int × List (ByteArray × Int)) × List Int × Int × Int)) (s0 : List Int × Int × Int) : Option ((ByteArray × Int × List (ByteArray × Int)) × List Int × Int × Int) :=
  agree (
    spec_l29Good.tr12 I4 s0
  ) (
    agree (
      (spec_l01Next.f s0 2).bind fun r1 =>
      spec_l29Good.tr16 I4 r1
    ) (
      agree (
        spec_l29Good.tr11 I4 s0
      ) (
        (spec_l01Next.f s0 2).bind fun r1 =>
        spec_l29Good.tr15 I4 r1
      )
    )
  )
def spec_l29Good.topraw (I4 : Int → (List Int × Int × Int) → ByteArray → Int → ByteArray → Int → List ByteArray → (List (ByteArray × Int)) → (List (ByteArray × Int)) → Option ((ByteArray × Int × List (ByteArray × Int)) × List Int × Int × Int)) (s0 : List Int × Int × Int) : Option ((ByteArray × Int × List (ByteArray × Int)) × List Int × Int × Int) :=
  agree (
    agree (
      (spec_l01Next.f s0 2).bind fun r1 =>
      spec_l29Good.tr8 I4 r1
    ) (
      agree (
        spec_l29Good.tr12 I4 s0
      ) (
        spec_l29Good.tr12 I4 s0
      )
    )
  ) (
    agree (
      (spec_l01Next.f s0 2).bind fun r1 =>
      agree (
        spec_l29Good.tr8 I4 r1
      ) (
        agree (
          (spec_l01Next.f r1.2 1000).bind fun r2 =>
          agree (
            if (0 : Int) ≤ r1.1 ∧ (r1.1 : Int) < ([(⟨#[118, 97, 110]⟩ : ByteArray), (⟨#[116, 114, 117, 99, 107]⟩ : ByteArray)]).length then
              spec_l29Good.tr3 I4 r1 r2
            else
              none
          ) (
            agree (
              spec_l29Good.tr14 I4 r1 r2
            ) (
              spec_l29Good.tr14 I4 r1 r2
            )
          )
        ) (
          agree (
            spec_l29Good.tr16 I4 r1
          ) (
            spec_l29Good.tr16 I4 r1
          )
        )
      )
    ) (
      agree (
        spec_l29Good.tr17 I4 s0
      ) (
        spec_l29Good.tr17 I4 s0
      )
    )
  )
theorem spec_l29Good.topraw_eq (I4 : Int → (List Int × Int × Int) → ByteArray → Int → ByteArray → Int → List ByteArray → (List (ByteArray × Int)) → (List (ByteArray × Int)) → Option ((ByteArray × Int × List (ByteArray × Int)) × List Int × Int × Int)) (s0 : List Int × Int × Int) : spec_l29Good.topraw I4 s0 = spec_l29Good.top I4 s0 := by
  unfold spec_l29Good.topraw spec_l29Good.top
  simp only [agree_self, spec_l29Good.tr2, spec_l29Good.tr3, spec_l29Good.tr4, spec_l29Good.tr5, spec_l29Good.tr6, spec_l29Good.tr7, spec_l29Good.tr8, spec_l29Good.tr9, spec_l29Good.tr10, spec_l29Good.tr11, spec_l29Good.tr12, spec_l29Good.tr13, spec_l29Good.tr14, spec_l29Good.tr15, spec_l29Good.tr16, spec_l29Good.tr17]
def spec_l29Good.con : Con := { ps := [(.bx 158, (.pair (.sl 5 (.int .u8)) (.pair (.int .i64) (.int .i64))))], rs := [(.own, (.pair .str (.pair (.int .i64) (.sl 82 (.pair .str (.int .i64))))))], F := fun x => spec_l29Good.f x }
def spec_l29Good.cs : List (FuncId × Con) := [(96, spec_l01Next.con), (158, spec_l03Names.con)]
def spec_l29Good.E : Env := envOf tab spec_l29Good.cs 1 false
def spec_l29Good.keep (i : Nat) : List Nat := if i = 4 then [0, 2, 3, 4, 5] else []
def spec_l29Good.at4 (n : Nat) (x : List Int × Int × Int) : Code × (Ex → St → Option (((ByteArray × Int × List (ByteArray × Int)) × List Int × Int × Int))) := ctx spec_l29Good.E spec_l29Good.keep n [.snd, .snd, .snd, .fst, .snd, .blk] (codeOf Try.f140) (kEnd spec_l29Good.E Try.f140 spec_l29Good.con x)
def spec_l29Good.LN4 (n : Nat) (x : List Int × Int × Int) : Nat → St → Option (((ByteArray × Int × List (ByteArray × Int)) × List Int × Int × Int)) := loopN (exec spec_l29Good.E spec_l29Good.keep n (bodyOf (spec_l29Good.at4 n x).1)) (St.norm 1 (spec_l29Good.keep 4)) (spec_l29Good.at4 n x).2
set_option maxRecDepth 100000 in
theorem spec_l29Good.lem4 (n : Nat) (x : List Int × Int × Int) : ∀ (k : Nat) (i5 : Int) (s0 : List Int × Int × Int) (v2a : ByteArray) (v2ba : Int) (p3a : ByteArray) (p3ba : Int) (names4 : List ByteArray) (w4 : List (ByteArray × Int)) (w5 : List (ByteArray × Int)), spec_l29Good.LN4 n x k (spec_l29Good.st4 i5 s0 v2a v2ba p3a p3ba names4 w4 w5) = spec_l29Good.l4 n k i5 s0 v2a v2ba p3a p3ba names4 w4 w5 := by
  intro k
  induction k with
  | zero => intro i5 s0 v2a v2ba p3a p3ba names4 w4 w5; rfl
  | succ k ih =>
    intro i5 s0 v2a v2ba p3a p3ba names4 w4 w5
    have h : spec_l29Good.LN4 n x (k + 1) (spec_l29Good.st4 i5 s0 v2a v2ba p3a p3ba names4 w4 w5) = spec_l29Good.g4raw (fun i5 s0 v2a v2ba p3a p3ba names4 w4 w5 => spec_l29Good.LN4 n x k (spec_l29Good.st4 i5 s0 v2a v2ba p3a p3ba names4 w4 w5)) i5 s0 v2a v2ba p3a p3ba names4 w4 w5 := by kernel_rfl
    rw [spec_l29Good.g4raw_eq] at h
    rw [h]
    simp only [ih]
    rfl
set_option maxRecDepth 100000 in
theorem spec_l29Good.body (n : Nat) (x : List Int × Int × Int) : bodyF spec_l29Good.E spec_l29Good.keep n Try.f140 spec_l29Good.con x = spec_l29Good.fn n x := by
  have h : bodyF spec_l29Good.E spec_l29Good.keep n Try.f140 spec_l29Good.con x = spec_l29Good.topraw (fun i5 s0 v2a v2ba p3a p3ba names4 w4 w5 => spec_l29Good.LN4 n x n (spec_l29Good.st4 i5 s0 v2a v2ba p3a p3ba names4 w4 w5)) x := by kernel_rfl
  rw [spec_l29Good.topraw_eq] at h
  rw [h]
  simp only [spec_l29Good.lem4]
  rfl
set_option maxRecDepth 100000 in
theorem spec_l29Good.good : Good Try.prog 140 spec_l29Good.con :=
  good_of tabok (cs := spec_l29Good.cs) ⟨spec_l01Next.good, spec_l03Names.good, trivial⟩ 1 false (fn := Try.f140) Try.func140 rfl (by decide) (by simp [spec_l29Good.con]) spec_l29Good.keep NN (fun _ => rfl) (fun x => spec_l29Good.body NN x)
end
end Go.Ev.Try

namespace Go.Ev.Try
open Go.Proofs Go.Pl
set_option linter.unusedVariables false
noncomputable section
def spec_l29Draw.st9 (k4 : Int) (s0 : List Int × Int × Int) (v2a : ByteArray) (v2ba : Int) (p3a : ByteArray) (p3ba : Int) (w3 : List (ByteArray × Int)) (w4 : List (ByteArray × Int)) : St := ⟨[.ptr 0 [], .gone, .ptr 1 [], .ptr 2 [], .dat (.int .i64) k4, .gone, .gone, .gone, .gone, .gone, .gone, .gone, .gone, .gone, .gone, .gone, .gone, .gone, .gone, .gone, .gone, .gone, .gone, .gone, .gone, .gone, .gone, .gone, .gone, .gone, .gone, .gone, .gone, .gone, .gone, .gone, .gone, .gone, .gone, .gone, .gone, .gone, .gone, .gone, .gone, .gone, .gone, .gone, .gone, .gone, .gone, .gone, .gone, .gone, .gone], [.box 158 (.pair (.sl 5 (.int .u8)) (.pair (.int .i64) (.int .i64))) (.dat (.pair (.sl 5 (.int .u8)) (.pair (.int .i64) (.int .i64))) s0), .box 47 (.pair .str (.pair (.int .i64) (.sl 82 (.pair .str (.int .i64))))) (.pr (.dat .str v2a) (.pr (.dat (.int .i64) v2ba) (.ref 3))), .box 47 (.pair .str (.pair (.int .i64) (.sl 82 (.pair .str (.int .i64))))) (.pr (.dat .str p3a) (.pr (.dat (.int .i64) p3ba) (.ref 4))), .row 82 (.pair .str (.int .i64)) w3 none, .row 82 (.pair .str (.int .i64)) w4 none]⟩
def spec_l29Draw.tr0 (L9 : Int → (List Int × Int × Int) → ByteArray → Int → ByteArray → Int → (List (ByteArray × Int)) → (List (ByteArray × Int)) → Option ((ByteArray × Int × List (ByteArray × Int)) × List Int × Int × Int)) (k4 : Int) (s0 : List Int × Int × Int) (v2a : ByteArray) (v2ba : Int) (p3a : ByteArray) (p3ba : Int) (w3 : List (ByteArray × Int)) (w4 : List (ByteArray × Int)) : Option ((ByteArray × Int × List (ByteArray × Int)) × List Int × Int × Int) :=
  (spec_l01Next.f s0 2).bind fun r6 =>
  if (decide (((w4.length : Int) : Int) < (IntKind.i64.wrap (12 + r6.1)))) = true then
    if (decide ((k4 : Int) < 14)) = true then
      if (0 : Int) ≤ k4 ∧ (k4 : Int) ≤ (IntKind.i64.wrap (k4 + 1)) ∧ ((IntKind.i64.wrap (k4 + 1)) : Int) ≤ (⟨#[97, 98, 99, 100, 101, 102, 103, 104, 105, 106, 107, 108, 109, 110]⟩ : ByteArray).size then
        if (⟨#[120]⟩ : ByteArray).size + ((⟨#[97, 98, 99, 100, 101, 102, 103, 104, 105, 106, 107, 108, 109, 110]⟩ : ByteArray).extract (k4 : Int).toNat ((IntKind.i64.wrap (k4 + 1)) : Int).toNat).size ≤ 9223372036854775807 then
          if w4.length + ([((⟨#[120]⟩ : ByteArray) ++ ((⟨#[97, 98, 99, 100, 101, 102, 103, 104, 105, 106, 107, 108, 109, 110]⟩ : ByteArray).extract (k4 : Int).toNat ((IntKind.i64.wrap (k4 + 1)) : Int).toNat), 1)]).length < room 24 then
            L9 (IntKind.i64.wrap (k4 + 1)) r6.2 v2a v2ba p3a p3ba w3 (w4 ++ ([((⟨#[120]⟩ : ByteArray) ++ ((⟨#[97, 98, 99, 100, 101, 102, 103, 104, 105, 106, 107, 108, 109, 110]⟩ : ByteArray).extract (k4 : Int).toNat ((IntKind.i64.wrap (k4 + 1)) : Int).toNat), 1)]))
          else
            none
        else
          none
      else
        none
    else
      some ((p3a, (p3ba, w4)), r6.2)
  else
    some ((p3a, (p3ba, w4)), r6.2)
def spec_l29Draw.g9raw (L9 : Int → (List Int × Int × Int) → ByteArray → Int → ByteArray → Int → (List (ByteArray × Int)) → (List (ByteArray × Int)) → Option ((ByteArray × Int × List (ByteArray × Int)) × List Int × Int × Int)) (k4 : Int) (s0 : List Int × Int × Int) (v2a : ByteArray) (v2ba : Int) (p3a : ByteArray) (p3ba : Int) (w3 : List (ByteArray × Int)) (w4 : List (ByteArray × Int)) : Option ((ByteArray × Int × List (ByteArray × Int)) × List Int × Int × Int) :=
  agree (
    spec_l29Draw.tr0 L9 k4 s0 v2a v2ba p3a p3ba w3 w4
  ) (
    spec_l29Draw.tr0 L9 k4 s0 v2a v2ba p3a p3ba w3 w4
  )
theorem spec_l29Draw.g9raw_eq (L9 : Int → (List Int × Int × Int) → ByteArray → Int → ByteArray → Int → (List (ByteArray × Int)) → (List (ByteArray × Int)) → Option ((ByteArray × Int × List (ByteArray × Int)) × List Int × Int × Int)) (k4 : Int) (s0 : List Int × Int × Int) (v2a : ByteArray) (v2ba : Int) (p3a : ByteArray) (p3ba : Int) (w3 : List (ByteArray × Int)) (w4 : List (ByteArray × Int)) : spec_l29Draw.g9raw L9 k4 s0 v2a v2ba p3a p3ba w3 w4 = spec_l29Draw.g9 L9 k4 s0 v2a v2ba p3a p3ba w3 w4 := by
  unfold spec_l29Draw.g9raw spec_l29Draw.g9
  simp only [agree_self, spec_l29Draw.tr0]
def spec_l29Draw.tr1 (r1 : ((ByteArray × Int × List (ByteArray × Int)) × List Int × Int × Int)) (r4 : (ByteArray × List Int × Int × Int)) : Option ((ByteArray × Int × List (ByteArray × Int)) × List Int × Int × Int) :=
  (spec_l01Pick.f r4.2 ([0, 1, 1000, 1001])).bind fun r5 =>
  if r1.1.2.2.length + ([(r4.1, r5.1)]).length < room 24 then
    some ((r1.1.1, (r1.1.2.1, r1.1.2.2 ++ ([(r4.1, r5.1)]))), r5.2)
  else
    none
def spec_l29Draw.tr2 (r1 : ((ByteArray × Int × List (ByteArray × Int)) × List Int × Int × Int)) (r2 : (Int × List Int × Int × Int)) : Option ((ByteArray × Int × List (ByteArray × Int)) × List Int × Int × Int) :=
  (spec_l01DrawWord.f r2.2).bind fun r4 =>
  spec_l29Draw.tr1 r1 r4
def spec_l29Draw.tr3 (r1 : ((ByteArray × Int × List (ByteArray × Int)) × List Int × Int × Int)) (r4 : (ByteArray × List Int × Int × Int)) : Option ((ByteArray × Int × List (ByteArray × Int)) × List Int × Int × Int) :=
  agree (
    spec_l29Draw.tr1 r1 r4
  ) (
    spec_l29Draw.tr1 r1 r4
  )
def spec_l29Draw.topraw (I9 : Int → (List Int × Int × Int) → ByteArray → Int → ByteArray → Int → (List (ByteArray × Int)) → (List (ByteArray × Int)) → Option ((ByteArray × Int × List (ByteArray × Int)) × List Int × Int × Int)) (s0 : List Int × Int × Int) : Option ((ByteArray × Int × List (ByteArray × Int)) × List Int × Int × Int) :=
  (spec_l29Good.f s0).bind fun r1 =>
  (spec_l01Next.f r1.2 30).bind fun r2 =>
  if ((r2.1 : Int) == 0) = true then
    (spec_l01Pick.f r2.2 ([(-1), 0, 100000, 100001])).bind fun r3 =>
    some ((r1.1.1, (r3.1, r1.1.2.2)), r3.2)
  else if ((r2.1 : Int) == 1) = true then
    agree (
      agree (
        spec_l29Draw.tr2 r1 r2
      ) (
        spec_l29Draw.tr2 r1 r2
      )
    ) (
      agree (
        (spec_l01DrawWord.f r2.2).bind fun r4 =>
        agree (
          spec_l29Draw.tr1 r1 r4
        ) (
          spec_l29Draw.tr3 r1 r4
        )
      ) (
        agree (
          spec_l29Draw.tr2 r1 r2
        ) (
          (spec_l01DrawWord.f r2.2).bind fun r4 =>
          spec_l29Draw.tr3 r1 r4
        )
      )
    )
  else if ((r2.1 : Int) == 2) = true then
    I9 0 r2.2 ByteArray.empty 0 r1.1.1 r1.1.2.1 [] r1.1.2.2
  else
    some ((r1.1.1, (r1.1.2.1, r1.1.2.2)), r2.2)
theorem spec_l29Draw.topraw_eq (I9 : Int → (List Int × Int × Int) → ByteArray → Int → ByteArray → Int → (List (ByteArray × Int)) → (List (ByteArray × Int)) → Option ((ByteArray × Int × List (ByteArray × Int)) × List Int × Int × Int)) (s0 : List Int × Int × Int) : spec_l29Draw.topraw I9 s0 = spec_l29Draw.top I9 s0 := by
  unfold spec_l29Draw.topraw spec_l29Draw.top
  simp only [agree_self, spec_l29Draw.tr1, spec_l29Draw.tr2, spec_l29Draw.tr3]
def spec_l29Draw.con : Con := { ps := [(.bx 158, (.pair (.sl 5 (.int .u8)) (.pair (.int .i64) (.int .i64))))], rs := [(.own, (.pair .str (.pair (.int .i64) (.sl 82 (.pair .str (.int .i64))))))], F := fun x => spec_l29Draw.f x }
def spec_l29Draw.cs : List (FuncId × Con) := [(95, spec_l01Pick.con), (96, spec_l01Next.con), (139, spec_l01DrawWord.con), (140, spec_l29Good.con)]
def spec_l29Draw.E : Env := envOf tab spec_l29Draw.cs 1 false
def spec_l29Draw.keep (i : Nat) : List Nat := if i = 9 then [0, 2, 3, 4] else []
def spec_l29Draw.at9 (n : Nat) (x : List Int × Int × Int) : Code × (Ex → St → Option (((ByteArray × Int × List (ByteArray × Int)) × List Int × Int × Int))) := ctx spec_l29Draw.E spec_l29Draw.keep n [.snd, .snd, .fst, .snd, .blk, .snd, .no, .snd, .no, .snd, .yes, .snd, .blk] (codeOf Try.f98) (kEnd spec_l29Draw.E Try.f98 spec_l29Draw.con x)
def spec_l29Draw.LN9 (n : Nat) (x : List Int × Int × Int) : Nat → St → Option (((ByteArray × Int × List (ByteArray × Int)) × List Int × Int × Int)) := loopN (exec spec_l29Draw.E spec_l29Draw.keep n (bodyOf (spec_l29Draw.at9 n x).1)) (St.norm 1 (spec_l29Draw.keep 9)) (spec_l29Draw.at9 n x).2
set_option maxRecDepth 100000 in
theorem spec_l29Draw.lem9 (n : Nat) (x : List Int × Int × Int) : ∀ (k : Nat) (k4 : Int) (s0 : List Int × Int × Int) (v2a : ByteArray) (v2ba : Int) (p3a : ByteArray) (p3ba : Int) (w3 : List (ByteArray × Int)) (w4 : List (ByteArray × Int)), spec_l29Draw.LN9 n x k (spec_l29Draw.st9 k4 s0 v2a v2ba p3a p3ba w3 w4) = spec_l29Draw.l9 n k k4 s0 v2a v2ba p3a p3ba w3 w4 := by
  intro k
  induction k with
  | zero => intro k4 s0 v2a v2ba p3a p3ba w3 w4; rfl
  | succ k ih =>
    intro k4 s0 v2a v2ba p3a p3ba w3 w4
    have h : spec_l29Draw.LN9 n x (k + 1) (spec_l29Draw.st9 k4 s0 v2a v2ba p3a p3ba w3 w4) = spec_l29Draw.g9raw (fun k4 s0 v2a v2ba p3a p3ba w3 w4 => spec_l29Draw.LN9 n x k (spec_l29Draw.st9 k4 s0 v2a v2ba p3a p3ba w3 w4)) k4 s0 v2a v2ba p3a p3ba w3 w4 := by kernel_rfl
    rw [spec_l29Draw.g9raw_eq] at h
    rw [h]
    simp only [ih]
    rfl
set_option maxRecDepth 100000 in
theorem spec_l29Draw.body (n : Nat) (x : List Int × Int × Int) : bodyF spec_l29Draw.E spec_l29Draw.keep n Try.f98 spec_l29Draw.con x = spec_l29Draw.fn n x := by
  have h : bodyF spec_l29Draw.E spec_l29Draw.keep n Try.f98 spec_l29Draw.con x = spec_l29Draw.topraw (fun k4 s0 v2a v2ba p3a p3ba w3 w4 => spec_l29Draw.LN9 n x n (spec_l29Draw.st9 k4 s0 v2a v2ba p3a p3ba w3 w4)) x := by kernel_rfl
  rw [spec_l29Draw.topraw_eq] at h
  rw [h]
  simp only [spec_l29Draw.lem9]
  rfl
set_option maxRecDepth 100000 in
theorem spec_l29Draw.good : Good Try.prog 98 spec_l29Draw.con :=
  good_of tabok (cs := spec_l29Draw.cs) ⟨spec_l01Pick.good, spec_l01Next.good, spec_l01DrawWord.good, spec_l29Good.good, trivial⟩ 1 false (fn := Try.f98) Try.func98 rfl (by decide) (by simp [spec_l29Draw.con]) spec_l29Draw.keep NN (fun _ => rfl) (fun x => spec_l29Draw.body NN x)
end
end Go.Ev.Try
