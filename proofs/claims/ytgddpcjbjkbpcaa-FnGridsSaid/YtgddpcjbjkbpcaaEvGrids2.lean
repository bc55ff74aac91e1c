/- Part 2 of what the law FnGrids stands on: an evaluator of the model's code, proved sound; the functions as plain texts; their contracts. -/
import Derived.Test.YtgddpcjbjkbpcaaChecked
import Derived.Test.YtgddpcjbjkbpcaaProg
import Derived.Test.YtgddpcjbjkbpcaaRows
import Derived.Below
import Derived.Calls
import Derived.Carry
import Derived.ChangeArms
import Derived.ChangeKeysEq
import Derived.ChangeOld
import Derived.Deep.Quiet
import Derived.KernelRfl
import Derived.Laws.Append
import Derived.Laws.BytesString
import Derived.Laws.MakeOwn
import Derived.Laws.Strings
import Derived.Laws.StructEq
import Derived.OpenShut
import Derived.OrdersHeld
import Derived.ProofKit
import Derived.ShutString
import Derived.SizedLaws
import Derived.Tactics
import Derived.WalkKit
import Derived.WideShapes
import Derived.Test.YtgddpcjbjkbpcaaEvGrids1
namespace Go.Ev.Try
open Go.Proofs Go.Pl
set_option linter.unusedVariables false
noncomputable section
def spec_DrawSearchCell.topraw (code0 : List Int) : Option ((Int × Int × List Bool) × Int × Int) :=
  (spec_l01From.f code0).bind fun r1 =>
  (spec_l31Draw.f r1).bind fun r2 =>
  agree (
    agree (
      agree (
        (spec_l01Next.f r2.2 12).bind fun r3 =>
        agree (
          (spec_l01Next.f r3.2 (IntKind.i64.wrap (r2.1.1 + (IntKind.i64.wrap (Int.tdiv r3.1 11))))).bind fun r4 =>
          agree (
            (spec_l01Next.f r4.2 12).bind fun r5 =>
            (spec_l01Next.f r5.2 (IntKind.i64.wrap (r2.1.2.1 + (IntKind.i64.wrap (Int.tdiv r5.1 11))))).bind fun r6 =>
            some ((r2.1.1, (r2.1.2.1, r2.1.2.2)), r4.1, r6.1)
          ) (
            (spec_l01Next.f r4.2 12).bind fun r5 =>
            (spec_l01Next.f r5.2 (IntKind.i64.wrap (r2.1.2.1 + (IntKind.i64.wrap (Int.tdiv r5.1 11))))).bind fun r6 =>
            some ((r2.1.1, (r2.1.2.1, r2.1.2.2)), r4.1, r6.1)
          )
        ) (
          (spec_l01Next.f r3.2 (IntKind.i64.wrap (r2.1.1 + (IntKind.i64.wrap (Int.tdiv r3.1 11))))).bind fun r4 =>
          (spec_l01Next.f r4.2 12).bind fun r5 =>
          (spec_l01Next.f r5.2 (IntKind.i64.wrap (r2.1.2.1 + (IntKind.i64.wrap (Int.tdiv r5.1 11))))).bind fun r6 =>
          some ((r2.1.1, (r2.1.2.1, r2.1.2.2)), r4.1, r6.1)
        )
      ) (
        (spec_l01Next.f r2.2 12).bind fun r3 =>
        (spec_l01Next.f r3.2 (IntKind.i64.wrap (r2.1.1 + (IntKind.i64.wrap (Int.tdiv r3.1 11))))).bind fun r4 =>
        (spec_l01Next.f r4.2 12).bind fun r5 =>
        (spec_l01Next.f r5.2 (IntKind.i64.wrap (r2.1.2.1 + (IntKind.i64.wrap (Int.tdiv r5.1 11))))).bind fun r6 =>
        some ((r2.1.1, (r2.1.2.1, r2.1.2.2)), r4.1, r6.1)
      )
    ) (
      agree (
        (spec_l01Next.f r2.2 12).bind fun r3 =>
        agree (
          agree (
            (spec_l01Next.f r3.2 (IntKind.i64.wrap (r2.1.1 + (IntKind.i64.wrap (Int.tdiv r3.1 11))))).bind fun r4 =>
            agree (
              (spec_l01Next.f r4.2 12).bind fun r5 =>
              (spec_l01Next.f r5.2 (IntKind.i64.wrap (r2.1.2.1 + (IntKind.i64.wrap (Int.tdiv r5.1 11))))).bind fun r6 =>
              some ((r2.1.1, (r2.1.2.1, r2.1.2.2)), r4.1, r6.1)
            ) (
              (spec_l01Next.f r4.2 12).bind fun r5 =>
              (spec_l01Next.f r5.2 (IntKind.i64.wrap (r2.1.2.1 + (IntKind.i64.wrap (Int.tdiv r5.1 11))))).bind fun r6 =>
              some ((r2.1.1, (r2.1.2.1, r2.1.2.2)), r4.1, r6.1)
            )
          ) (
            (spec_l01Next.f r3.2 (IntKind.i64.wrap (r2.1.1 + (IntKind.i64.wrap (Int.tdiv r3.1 11))))).bind fun r4 =>
            (spec_l01Next.f r4.2 12).bind fun r5 =>
            (spec_l01Next.f r5.2 (IntKind.i64.wrap (r2.1.2.1 + (IntKind.i64.wrap (Int.tdiv r5.1 11))))).bind fun r6 =>
            some ((r2.1.1, (r2.1.2.1, r2.1.2.2)), r4.1, r6.1)
          )
        ) (
          (spec_l01Next.f r3.2 (IntKind.i64.wrap (r2.1.1 + (IntKind.i64.wrap (Int.tdiv r3.1 11))))).bind fun r4 =>
          (spec_l01Next.f r4.2 12).bind fun r5 =>
          (spec_l01Next.f r5.2 (IntKind.i64.wrap (r2.1.2.1 + (IntKind.i64.wrap (Int.tdiv r5.1 11))))).bind fun r6 =>
          some ((r2.1.1, (r2.1.2.1, r2.1.2.2)), r4.1, r6.1)
        )
      ) (
        agree (
          (spec_l01Next.f r2.2 12).bind fun r3 =>
          (spec_l01Next.f r3.2 (IntKind.i64.wrap (r2.1.1 + (IntKind.i64.wrap (Int.tdiv r3.1 11))))).bind fun r4 =>
          (spec_l01Next.f r4.2 12).bind fun r5 =>
          (spec_l01Next.f r5.2 (IntKind.i64.wrap (r2.1.2.1 + (IntKind.i64.wrap (Int.tdiv r5.1 11))))).bind fun r6 =>
          some ((r2.1.1, (r2.1.2.1, r2.1.2.2)), r4.1, r6.1)
        ) (
          (spec_l01Next.f r2.2 12).bind fun r3 =>
          (spec_l01Next.f r3.2 (IntKind.i64.wrap (r2.1.1 + (IntKind.i64.wrap (Int.tdiv r3.1 11))))).bind fun r4 =>
          (spec_l01Next.f r4.2 12).bind fun r5 =>
          (spec_l01Next.f r5.2 (IntKind.i64.wrap (r2.1.2.1 + (IntKind.i64.wrap (Int.tdiv r5.1 11))))).bind fun r6 =>
          some ((r2.1.1, (r2.1.2.1, r2.1.2.2)), r4.1, r6.1)
        )
      )
    )
  ) (
    agree (
      agree (
        agree (
          (spec_l01Next.f r2.2 12).bind fun r3 =>
          agree (
            (spec_l01Next.f r3.2 (IntKind.i64.wrap (r2.1.1 + (IntKind.i64.wrap (Int.tdiv r3.1 11))))).bind fun r4 =>
            agree (
              (spec_l01Next.f r4.2 12).bind fun r5 =>
              (spec_l01Next.f r5.2 (IntKind.i64.wrap (r2.1.2.1 + (IntKind.i64.wrap (Int.tdiv r5.1 11))))).bind fun r6 =>
              some ((r2.1.1, (r2.1.2.1, r2.1.2.2)), r4.1, r6.1)
            ) (
              (spec_l01Next.f r4.2 12).bind fun r5 =>
              (spec_l01Next.f r5.2 (IntKind.i64.wrap (r2.1.2.1 + (IntKind.i64.wrap (Int.tdiv r5.1 11))))).bind fun r6 =>
              some ((r2.1.1, (r2.1.2.1, r2.1.2.2)), r4.1, r6.1)
            )
          ) (
            (spec_l01Next.f r3.2 (IntKind.i64.wrap (r2.1.1 + (IntKind.i64.wrap (Int.tdiv r3.1 11))))).bind fun r4 =>
            (spec_l01Next.f r4.2 12).bind fun r5 =>
            (spec_l01Next.f r5.2 (IntKind.i64.wrap (r2.1.2.1 + (IntKind.i64.wrap (Int.tdiv r5.1 11))))).bind fun r6 =>
            some ((r2.1.1, (r2.1.2.1, r2.1.2.2)), r4.1, r6.1)
          )
        ) (
          (spec_l01Next.f r2.2 12).bind fun r3 =>
          (spec_l01Next.f r3.2 (IntKind.i64.wrap (r2.1.1 + (IntKind.i64.wrap (Int.tdiv r3.1 11))))).bind fun r4 =>
          (spec_l01Next.f r4.2 12).bind fun r5 =>
          (spec_l01Next.f r5.2 (IntKind.i64.wrap (r2.1.2.1 + (IntKind.i64.wrap (Int.tdiv r5.1 11))))).bind fun r6 =>
          some ((r2.1.1, (r2.1.2.1, r2.1.2.2)), r4.1, r6.1)
        )
      ) (
        agree (
          (spec_l01Next.f r2.2 12).bind fun r3 =>
          agree (
            agree (
              (spec_l01Next.f r3.2 (IntKind.i64.wrap (r2.1.1 + (IntKind.i64.wrap (Int.tdiv r3.1 11))))).bind fun r4 =>
              agree (
                (spec_l01Next.f r4.2 12).bind fun r5 =>
                (spec_l01Next.f r5.2 (IntKind.i64.wrap (r2.1.2.1 + (IntKind.i64.wrap (Int.tdiv r5.1 11))))).bind fun r6 =>
                some ((r2.1.1, (r2.1.2.1, r2.1.2.2)), r4.1, r6.1)
              ) (
                (spec_l01Next.f r4.2 12).bind fun r5 =>
                (spec_l01Next.f r5.2 (IntKind.i64.wrap (r2.1.2.1 + (IntKind.i64.wrap (Int.tdiv r5.1 11))))).bind fun r6 =>
                some ((r2.1.1, (r2.1.2.1, r2.1.2.2)), r4.1, r6.1)
              )
            ) (
              (spec_l01Next.f r3.2 (IntKind.i64.wrap (r2.1.1 + (IntKind.i64.wrap (Int.tdiv r3.1 11))))).bind fun r4 =>
              (spec_l01Next.f r4.2 12).bind fun r5 =>
              (spec_l01Next.f r5.2 (IntKind.i64.wrap (r2.1.2.1 + (IntKind.i64.wrap (Int.tdiv r5.1 11))))).bind fun r6 =>
              some ((r2.1.1, (r2.1.2.1, r2.1.2.2)), r4.1, r6.1)
            )
          ) (
            agree (
              (spec_l01Next.f r3.2 (IntKind.i64.wrap (r2.1.1 + (IntKind.i64.wrap (Int.tdiv r3.1 11))))).bind fun r4 =>
              agree (
                agree (
                  (spec_l01Next.f r4.2 12).bind fun r5 =>
                  (spec_l01Next.f r5.2 (IntKind.i64.wrap (r2.1.2.1 + (IntKind.i64.wrap (Int.tdiv r5.1 11))))).bind fun r6 =>
                  some ((r2.1.1, (r2.1.2.1, r2.1.2.2)), r4.1, r6.1)
                ) (
                  (spec_l01Next.f r4.2 12).bind fun r5 =>
                  (spec_l01Next.f r5.2 (IntKind.i64.wrap (r2.1.2.1 + (IntKind.i64.wrap (Int.tdiv r5.1 11))))).bind fun r6 =>
                  some ((r2.1.1, (r2.1.2.1, r2.1.2.2)), r4.1, r6.1)
                )
              ) (
                agree (
                  agree (
                    (spec_l01Next.f r4.2 12).bind fun r5 =>
                    (spec_l01Next.f r5.2 (IntKind.i64.wrap (r2.1.2.1 + (IntKind.i64.wrap (Int.tdiv r5.1 11))))).bind fun r6 =>
                    some ((r2.1.1, (r2.1.2.1, r2.1.2.2)), r4.1, r6.1)
                  ) (
                    (spec_l01Next.f r4.2 12).bind fun r5 =>
                    agree (
                      (spec_l01Next.f r5.2 (IntKind.i64.wrap (r2.1.2.1 + (IntKind.i64.wrap (Int.tdiv r5.1 11))))).bind fun r6 =>
                      some ((r2.1.1, (r2.1.2.1, r2.1.2.2)), r4.1, r6.1)
                    ) (
                      (spec_l01Next.f r5.2 (IntKind.i64.wrap (r2.1.2.1 + (IntKind.i64.wrap (Int.tdiv r5.1 11))))).bind fun r6 =>
                      some ((r2.1.1, (r2.1.2.1, r2.1.2.2)), r4.1, r6.1)
                    )
                  )
                ) (
                  (spec_l01Next.f r4.2 12).bind fun r5 =>
                  agree (
                    (spec_l01Next.f r5.2 (IntKind.i64.wrap (r2.1.2.1 + (IntKind.i64.wrap (Int.tdiv r5.1 11))))).bind fun r6 =>
                    some ((r2.1.1, (r2.1.2.1, r2.1.2.2)), r4.1, r6.1)
                  ) (
                    agree (
                      (spec_l01Next.f r5.2 (IntKind.i64.wrap (r2.1.2.1 + (IntKind.i64.wrap (Int.tdiv r5.1 11))))).bind fun r6 =>
                      some ((r2.1.1, (r2.1.2.1, r2.1.2.2)), r4.1, r6.1)
                    ) (
                      (spec_l01Next.f r5.2 (IntKind.i64.wrap (r2.1.2.1 + (IntKind.i64.wrap (Int.tdiv r5.1 11))))).bind fun r6 =>
                      some ((r2.1.1, (r2.1.2.1, r2.1.2.2)), r4.1, r6.1)
                    )
                  )
                )
              )
            ) (
              agree (
                (spec_l01Next.f r3.2 (IntKind.i64.wrap (r2.1.1 + (IntKind.i64.wrap (Int.tdiv r3.1 11))))).bind fun r4 =>
                (spec_l01Next.f r4.2 12).bind fun r5 =>
                (spec_l01Next.f r5.2 (IntKind.i64.wrap (r2.1.2.1 + (IntKind.i64.wrap (Int.tdiv r5.1 11))))).bind fun r6 =>
                some ((r2.1.1, (r2.1.2.1, r2.1.2.2)), r4.1, r6.1)
              ) (
                (spec_l01Next.f r3.2 (IntKind.i64.wrap (r2.1.1 + (IntKind.i64.wrap (Int.tdiv r3.1 11))))).bind fun r4 =>
                agree (
                  (spec_l01Next.f r4.2 12).bind fun r5 =>
                  (spec_l01Next.f r5.2 (IntKind.i64.wrap (r2.1.2.1 + (IntKind.i64.wrap (Int.tdiv r5.1 11))))).bind fun r6 =>
                  some ((r2.1.1, (r2.1.2.1, r2.1.2.2)), r4.1, r6.1)
                ) (
                  (spec_l01Next.f r4.2 12).bind fun r5 =>
                  agree (
                    (spec_l01Next.f r5.2 (IntKind.i64.wrap (r2.1.2.1 + (IntKind.i64.wrap (Int.tdiv r5.1 11))))).bind fun r6 =>
                    some ((r2.1.1, (r2.1.2.1, r2.1.2.2)), r4.1, r6.1)
                  ) (
                    (spec_l01Next.f r5.2 (IntKind.i64.wrap (r2.1.2.1 + (IntKind.i64.wrap (Int.tdiv r5.1 11))))).bind fun r6 =>
                    some ((r2.1.1, (r2.1.2.1, r2.1.2.2)), r4.1, r6.1)
                  )
                )
              )
            )
          )
        ) (
          agree (
            (spec_l01Next.f r2.2 12).bind fun r3 =>
            (spec_l01Next.f r3.2 (IntKind.i64.wrap (r2.1.1 + (IntKind.i64.wrap (Int.tdiv r3.1 11))))).bind fun r4 =>
            (spec_l01Next.f r4.2 12).bind fun r5 =>
            (spec_l01Next.f r5.2 (IntKind.i64.wrap (r2.1.2.1 + (IntKind.i64.wrap (Int.tdiv r5.1 11))))).bind fun r6 =>
            some ((r2.1.1, (r2.1.2.1, r2.1.2.2)), r4.1, r6.1)
          ) (
            (spec_l01Next.f r2.2 12).bind fun r3 =>
            agree (
              (spec_l01Next.f r3.2 (IntKind.i64.wrap (r2.1.1 + (IntKind.i64.wrap (Int.tdiv r3.1 11))))).bind fun r4 =>
              (spec_l01Next.f r4.2 12).bind fun r5 =>
              (spec_l01Next.f r5.2 (IntKind.i64.wrap (r2.1.2.1 + (IntKind.i64.wrap (Int.tdiv r5.1 11))))).bind fun r6 =>
              some ((r2.1.1, (r2.1.2.1, r2.1.2.2)), r4.1, r6.1)
            ) (
              (spec_l01Next.f r3.2 (IntKind.i64.wrap (r2.1.1 + (IntKind.i64.wrap (Int.tdiv r3.1 11))))).bind fun r4 =>
              agree (
                (spec_l01Next.f r4.2 12).bind fun r5 =>
                (spec_l01Next.f r5.2 (IntKind.i64.wrap (r2.1.2.1 + (IntKind.i64.wrap (Int.tdiv r5.1 11))))).bind fun r6 =>
                some ((r2.1.1, (r2.1.2.1, r2.1.2.2)), r4.1, r6.1)
              ) (
                (spec_l01Next.f r4.2 12).bind fun r5 =>
                agree (
                  (spec_l01Next.f r5.2 (IntKind.i64.wrap (r2.1.2.1 + (IntKind.i64.wrap (Int.tdiv r5.1 11))))).bind fun r6 =>
                  some ((r2.1.1, (r2.1.2.1, r2.1.2.2)), r4.1, r6.1)
                ) (
                  (spec_l01Next.f r5.2 (IntKind.i64.wrap (r2.1.2.1 + (IntKind.i64.wrap (Int.tdiv r5.1 11))))).bind fun r6 =>
                  some ((r2.1.1, (r2.1.2.1, r2.1.2.2)), r4.1, r6.1)
                )
              )
            )
          )
        )
      )
    ) (
      agree (
        (spec_l01Next.f r2.2 12).bind fun r3 =>
        agree (
          agree (
            agree (
              (spec_l01Next.f r3.2 (IntKind.i64.wrap (r2.1.1 + (IntKind.i64.wrap (Int.tdiv r3.1 11))))).bind fun r4 =>
              agree (
                (spec_l01Next.f r4.2 12).bind fun r5 =>
                (spec_l01Next.f r5.2 (IntKind.i64.wrap (r2.1.2.1 + (IntKind.i64.wrap (Int.tdiv r5.1 11))))).bind fun r6 =>
                some ((r2.1.1, (r2.1.2.1, r2.1.2.2)), r4.1, r6.1)
              ) (
                (spec_l01Next.f r4.2 12).bind fun r5 =>
                (spec_l01Next.f r5.2 (IntKind.i64.wrap (r2.1.2.1 + (IntKind.i64.wrap (Int.tdiv r5.1 11))))).bind fun r6 =>
                some ((r2.1.1, (r2.1.2.1, r2.1.2.2)), r4.1, r6.1)
              )
            ) (
              (spec_l01Next.f r3.2 (IntKind.i64.wrap (r2.1.1 + (IntKind.i64.wrap (Int.tdiv r3.1 11))))).bind fun r4 =>
              (spec_l01Next.f r4.2 12).bind fun r5 =>
              (spec_l01Next.f r5.2 (IntKind.i64.wrap (r2.1.2.1 + (IntKind.i64.wrap (Int.tdiv r5.1 11))))).bind fun r6 =>
              some ((r2.1.1, (r2.1.2.1, r2.1.2.2)), r4.1, r6.1)
            )
          ) (
            (spec_l01Next.f r3.2 (IntKind.i64.wrap (r2.1.1 + (IntKind.i64.wrap (Int.tdiv r3.1 11))))).bind fun r4 =>
            (spec_l01Next.f r4.2 12).bind fun r5 =>
            (spec_l01Next.f r5.2 (IntKind.i64.wrap (r2.1.2.1 + (IntKind.i64.wrap (Int.tdiv r5.1 11))))).bind fun r6 =>
            some ((r2.1.1, (r2.1.2.1, r2.1.2.2)), r4.1, r6.1)
          )
        ) (
          agree (
            agree (
              agree (
                (spec_l01Next.f r3.2 (IntKind.i64.wrap (r2.1.1 + (IntKind.i64.wrap (Int.tdiv r3.1 11))))).bind fun r4 =>
                agree (
                  (spec_l01Next.f r4.2 12).bind fun r5 =>
                  (spec_l01Next.f r5.2 (IntKind.i64.wrap (r2.1.2.1 + (IntKind.i64.wrap (Int.tdiv r5.1 11))))).bind fun r6 =>
                  some ((r2.1.1, (r2.1.2.1, r2.1.2.2)), r4.1, r6.1)
                ) (
                  (spec_l01Next.f r4.2 12).bind fun r5 =>
                  (spec_l01Next.f r5.2 (IntKind.i64.wrap (r2.1.2.1 + (IntKind.i64.wrap (Int.tdiv r5.1 11))))).bind fun r6 =>
                  some ((r2.1.1, (r2.1.2.1, r2.1.2.2)), r4.1, r6.1)
                )
              ) (
                (spec_l01Next.f r3.2 (IntKind.i64.wrap (r2.1.1 + (IntKind.i64.wrap (Int.tdiv r3.1 11))))).bind fun r4 =>
                (spec_l01Next.f r4.2 12).bind fun r5 =>
                (spec_l01Next.f r5.2 (IntKind.i64.wrap (r2.1.2.1 + (IntKind.i64.wrap (Int.tdiv r5.1 11))))).bind fun r6 =>
                some ((r2.1.1, (r2.1.2.1, r2.1.2.2)), r4.1, r6.1)
              )
            ) (
              agree (
                (spec_l01Next.f r3.2 (IntKind.i64.wrap (r2.1.1 + (IntKind.i64.wrap (Int.tdiv r3.1 11))))).bind fun r4 =>
                agree (
                  agree (
                    (spec_l01Next.f r4.2 12).bind fun r5 =>
                    (spec_l01Next.f r5.2 (IntKind.i64.wrap (r2.1.2.1 + (IntKind.i64.wrap (Int.tdiv r5.1 11))))).bind fun r6 =>
                    some ((r2.1.1, (r2.1.2.1, r2.1.2.2)), r4.1, r6.1)
                  ) (
                    (spec_l01Next.f r4.2 12).bind fun r5 =>
                    (spec_l01Next.f r5.2 (IntKind.i64.wrap (r2.1.2.1 + (IntKind.i64.wrap (Int.tdiv r5.1 11))))).bind fun r6 =>
                    some ((r2.1.1, (r2.1.2.1, r2.1.2.2)), r4.1, r6.1)
                  )
                ) (
                  agree (
                    agree (
                      (spec_l01Next.f r4.2 12).bind fun r5 =>
                      (spec_l01Next.f r5.2 (IntKind.i64.wrap (r2.1.2.1 + (IntKind.i64.wrap (Int.tdiv r5.1 11))))).bind fun r6 =>
                      some ((r2.1.1, (r2.1.2.1, r2.1.2.2)), r4.1, r6.1)
                    ) (
                      (spec_l01Next.f r4.2 12).bind fun r5 =>
                      agree (
                        (spec_l01Next.f r5.2 (IntKind.i64.wrap (r2.1.2.1 + (IntKind.i64.wrap (Int.tdiv r5.1 11))))).bind fun r6 =>
                        some ((r2.1.1, (r2.1.2.1, r2.1.2.2)), r4.1, r6.1)
                      ) (
                        (spec_l01Next.f r5.2 (IntKind.i64.wrap (r2.1.2.1 + (IntKind.i64.wrap (Int.tdiv r5.1 11))))).bind fun r6 =>
                        some ((r2.1.1, (r2.1.2.1, r2.1.2.2)), r4.1, r6.1)
                      )
                    )
                  ) (
                    (spec_l01Next.f r4.2 12).bind fun r5 =>
                    agree (
                      (spec_l01Next.f r5.2 (IntKind.i64.wrap (r2.1.2.1 + (IntKind.i64.wrap (Int.tdiv r5.1 11))))).bind fun r6 =>
                      some ((r2.1.1, (r2.1.2.1, r2.1.2.2)), r4.1, r6.1)
                    ) (
                      agree (
                        (spec_l01Next.f r5.2 (IntKind.i64.wrap (r2.1.2.1 + (IntKind.i64.wrap (Int.tdiv r5.1 11))))).bind fun r6 =>
                        some ((r2.1.1, (r2.1.2.1, r2.1.2.2)), r4.1, r6.1)
                      ) (
                        (spec_l01Next.f r5.2 (IntKind.i64.wrap (r2.1.2.1 + (IntKind.i64.wrap (Int.tdiv r5.1 11))))).bind fun r6 =>
                        some ((r2.1.1, (r2.1.2.1, r2.1.2.2)), r4.1, r6.1)
                      )
                    )
                  )
                )
              ) (
                agree (
                  (spec_l01Next.f r3.2 (IntKind.i64.wrap (r2.1.1 + (IntKind.i64.wrap (Int.tdiv r3.1 11))))).bind fun r4 =>
                  (spec_l01Next.f r4.2 12).bind fun r5 =>
                  (spec_l01Next.f r5.2 (IntKind.i64.wrap (r2.1.2.1 + (IntKind.i64.wrap (Int.tdiv r5.1 11))))).bind fun r6 =>
                  some ((r2.1.1, (r2.1.2.1, r2.1.2.2)), r4.1, r6.1)
                ) (
                  (spec_l01Next.f r3.2 (IntKind.i64.wrap (r2.1.1 + (IntKind.i64.wrap (Int.tdiv r3.1 11))))).bind fun r4 =>
                  agree (
                    (spec_l01Next.f r4.2 12).bind fun r5 =>
                    (spec_l01Next.f r5.2 (IntKind.i64.wrap (r2.1.2.1 + (IntKind.i64.wrap (Int.tdiv r5.1 11))))).bind fun r6 =>
                    some ((r2.1.1, (r2.1.2.1, r2.1.2.2)), r4.1, r6.1)
                  ) (
                    (spec_l01Next.f r4.2 12).bind fun r5 =>
                    agree (
                      (spec_l01Next.f r5.2 (IntKind.i64.wrap (r2.1.2.1 + (IntKind.i64.wrap (Int.tdiv r5.1 11))))).bind fun r6 =>
                      some ((r2.1.1, (r2.1.2.1, r2.1.2.2)), r4.1, r6.1)
                    ) (
                      (spec_l01Next.f r5.2 (IntKind.i64.wrap (r2.1.2.1 + (IntKind.i64.wrap (Int.tdiv r5.1 11))))).bind fun r6 =>
                      some ((r2.1.1, (r2.1.2.1, r2.1.2.2)), r4.1, r6.1)
                    )
                  )
                )
              )
            )
          ) (
            agree (
              (spec_l01Next.f r3.2 (IntKind.i64.wrap (r2.1.1 + (IntKind.i64.wrap (Int.tdiv r3.1 11))))).bind fun r4 =>
              (spec_l01Next.f r4.2 12).bind fun r5 =>
              (spec_l01Next.f r5.2 (IntKind.i64.wrap (r2.1.2.1 + (IntKind.i64.wrap (Int.tdiv r5.1 11))))).bind fun r6 =>
              some ((r2.1.1, (r2.1.2.1, r2.1.2.2)), r4.1, r6.1)
            ) (
              agree (
                (spec_l01Next.f r3.2 (IntKind.i64.wrap (r2.1.1 + (IntKind.i64.wrap (Int.tdiv r3.1 11))))).bind fun r4 =>
                (spec_l01Next.f r4.2 12).bind fun r5 =>
                (spec_l01Next.f r5.2 (IntKind.i64.wrap (r2.1.2.1 + (IntKind.i64.wrap (Int.tdiv r5.1 11))))).bind fun r6 =>
                some ((r2.1.1, (r2.1.2.1, r2.1.2.2)), r4.1, r6.1)
              ) (
                (spec_l01Next.f r3.2 (IntKind.i64.wrap (r2.1.1 + (IntKind.i64.wrap (Int.tdiv r3.1 11))))).bind fun r4 =>
                agree (
                  (spec_l01Next.f r4.2 12).bind fun r5 =>
                  (spec_l01Next.f r5.2 (IntKind.i64.wrap (r2.1.2.1 + (IntKind.i64.wrap (Int.tdiv r5.1 11))))).bind fun r6 =>
                  some ((r2.1.1, (r2.1.2.1, r2.1.2.2)), r4.1, r6.1)
                ) (
                  (spec_l01Next.f r4.2 12).bind fun r5 =>
                  agree (
                    (spec_l01Next.f r5.2 (IntKind.i64.wrap (r2.1.2.1 + (IntKind.i64.wrap (Int.tdiv r5.1 11))))).bind fun r6 =>
                    some ((r2.1.1, (r2.1.2.1, r2.1.2.2)), r4.1, r6.1)
                  ) (
                    (spec_l01Next.f r5.2 (IntKind.i64.wrap (r2.1.2.1 + (IntKind.i64.wrap (Int.tdiv r5.1 11))))).bind fun r6 =>
                    some ((r2.1.1, (r2.1.2.1, r2.1.2.2)), r4.1, r6.1)
                  )
                )
              )
            )
          )
        )
      ) (
        agree (
          agree (
            (spec_l01Next.f r2.2 12).bind fun r3 =>
            (spec_l01Next.f r3.2 (IntKind.i64.wrap (r2.1.1 + (IntKind.i64.wrap (Int.tdiv r3.1 11))))).bind fun r4 =>
            (spec_l01Next.f r4.2 12).bind fun r5 =>
            (spec_l01Next.f r5.2 (IntKind.i64.wrap (r2.1.2.1 + (IntKind.i64.wrap (Int.tdiv r5.1 11))))).bind fun r6 =>
            some ((r2.1.1, (r2.1.2.1, r2.1.2.2)), r4.1, r6.1)
          ) (
            (spec_l01Next.f r2.2 12).bind fun r3 =>
            (spec_l01Next.f r3.2 (IntKind.i64.wrap (r2.1.1 + (IntKind.i64.wrap (Int.tdiv r3.1 11))))).bind fun r4 =>
            (spec_l01Next.f r4.2 12).bind fun r5 =>
            (spec_l01Next.f r5.2 (IntKind.i64.wrap (r2.1.2.1 + (IntKind.i64.wrap (Int.tdiv r5.1 11))))).bind fun r6 =>
            some ((r2.1.1, (r2.1.2.1, r2.1.2.2)), r4.1, r6.1)
          )
        ) (
          agree (
            agree (
              (spec_l01Next.f r2.2 12).bind fun r3 =>
              (spec_l01Next.f r3.2 (IntKind.i64.wrap (r2.1.1 + (IntKind.i64.wrap (Int.tdiv r3.1 11))))).bind fun r4 =>
              (spec_l01Next.f r4.2 12).bind fun r5 =>
              (spec_l01Next.f r5.2 (IntKind.i64.wrap (r2.1.2.1 + (IntKind.i64.wrap (Int.tdiv r5.1 11))))).bind fun r6 =>
              some ((r2.1.1, (r2.1.2.1, r2.1.2.2)), r4.1, r6.1)
            ) (
              (spec_l01Next.f r2.2 12).bind fun r3 =>
              agree (
                (spec_l01Next.f r3.2 (IntKind.i64.wrap (r2.1.1 + (IntKind.i64.wrap (Int.tdiv r3.1 11))))).bind fun r4 =>
                (spec_l01Next.f r4.2 12).bind fun r5 =>
                (spec_l01Next.f r5.2 (IntKind.i64.wrap (r2.1.2.1 + (IntKind.i64.wrap (Int.tdiv r5.1 11))))).bind fun r6 =>
                some ((r2.1.1, (r2.1.2.1, r2.1.2.2)), r4.1, r6.1)
              ) (
                (spec_l01Next.f r3.2 (IntKind.i64.wrap (r2.1.1 + (IntKind.i64.wrap (Int.tdiv r3.1 11))))).bind fun r4 =>
                agree (
                  (spec_l01Next.f r4.2 12).bind fun r5 =>
                  (spec_l01Next.f r5.2 (IntKind.i64.wrap (r2.1.2.1 + (IntKind.i64.wrap (Int.tdiv r5.1 11))))).bind fun r6 =>
                  some ((r2.1.1, (r2.1.2.1, r2.1.2.2)), r4.1, r6.1)
                ) (
                  (spec_l01Next.f r4.2 12).bind fun r5 =>
                  agree (
                    (spec_l01Next.f r5.2 (IntKind.i64.wrap (r2.1.2.1 + (IntKind.i64.wrap (Int.tdiv r5.1 11))))).bind fun r6 =>
                    some ((r2.1.1, (r2.1.2.1, r2.1.2.2)), r4.1, r6.1)
                  ) (
                    (spec_l01Next.f r5.2 (IntKind.i64.wrap (r2.1.2.1 + (IntKind.i64.wrap (Int.tdiv r5.1 11))))).bind fun r6 =>
                    some ((r2.1.1, (r2.1.2.1, r2.1.2.2)), r4.1, r6.1)
                  )
                )
              )
            )
          ) (
            (spec_l01Next.f r2.2 12).bind fun r3 =>
            agree (
              (spec_l01Next.f r3.2 (IntKind.i64.wrap (r2.1.1 + (IntKind.i64.wrap (Int.tdiv r3.1 11))))).bind fun r4 =>
              (spec_l01Next.f r4.2 12).bind fun r5 =>
              (spec_l01Next.f r5.2 (IntKind.i64.wrap (r2.1.2.1 + (IntKind.i64.wrap (Int.tdiv r5.1 11))))).bind fun r6 =>
              some ((r2.1.1, (r2.1.2.1, r2.1.2.2)), r4.1, r6.1)
            ) (
              agree (
                (spec_l01Next.f r3.2 (IntKind.i64.wrap (r2.1.1 + (IntKind.i64.wrap (Int.tdiv r3.1 11))))).bind fun r4 =>
                (spec_l01Next.f r4.2 12).bind fun r5 =>
                (spec_l01Next.f r5.2 (IntKind.i64.wrap (r2.1.2.1 + (IntKind.i64.wrap (Int.tdiv r5.1 11))))).bind fun r6 =>
                some ((r2.1.1, (r2.1.2.1, r2.1.2.2)), r4.1, r6.1)
              ) (
                (spec_l01Next.f r3.2 (IntKind.i64.wrap (r2.1.1 + (IntKind.i64.wrap (Int.tdiv r3.1 11))))).bind fun r4 =>
                agree (
                  (spec_l01Next.f r4.2 12).bind fun r5 =>
                  (spec_l01Next.f r5.2 (IntKind.i64.wrap (r2.1.2.1 + (IntKind.i64.wrap (Int.tdiv r5.1 11))))).bind fun r6 =>
                  some ((r2.1.1, (r2.1.2.1, r2.1.2.2)), r4.1, r6.1)
                ) (
                  (spec_l01Next.f r4.2 12).bind fun r5 =>
                  agree (
                    (spec_l01Next.f r5.2 (IntKind.i64.wrap (r2.1.2.1 + (IntKind.i64.wrap (Int.tdiv r5.1 11))))).bind fun r6 =>
                    some ((r2.1.1, (r2.1.2.1, r2.1.2.2)), r4.1, r6.1)
                  ) (
                    (spec_l01Next.f r5.2 (IntKind.i64.wrap (r2.1.2.1 + (IntKind.i64.wrap (Int.tdiv r5.1 11))))).bind fun r6 =>
                    some ((r2.1.1, (r2.1.2.1, r2.1.2.2)), r4.1, r6.1)
                  )
                )
              )
            )
          )
        )
      )
    )
  )
theorem spec_DrawSearchCell.topraw_eq (code0 : List Int) : spec_DrawSearchCell.topraw code0 = spec_DrawSearchCell.top code0 := by
  unfold spec_DrawSearchCell.topraw spec_DrawSearchCell.top
  simp only [agree_self]
def spec_DrawSearchCell.con : Con := { ps := [(.val, (.sl 5 (.int .u8)))], rs := [(.own, (.pair (.int .i64) (.pair (.int .i64) (.sl 4 .bool)))), (.own, (.int .i64)), (.own, (.int .i64))], F := fun x => spec_DrawSearchCell.f x }
def spec_DrawSearchCell.cs : List (FuncId × Con) := [(93, spec_l01From.con), (96, spec_l01Next.con), (124, spec_l31Draw.con)]
def spec_DrawSearchCell.E : Env := envOf tab spec_DrawSearchCell.cs 0 false
def spec_DrawSearchCell.keep (i : Nat) : List Nat := []
set_option maxRecDepth 100000 in
theorem spec_DrawSearchCell.body (n : Nat) (x : List Int) : bodyF spec_DrawSearchCell.E spec_DrawSearchCell.keep n Try.f63 spec_DrawSearchCell.con x = spec_DrawSearchCell.fn n x := by
  have h : bodyF spec_DrawSearchCell.E spec_DrawSearchCell.keep n Try.f63 spec_DrawSearchCell.con x = spec_DrawSearchCell.topraw x := by kernel_rfl
  rw [spec_DrawSearchCell.topraw_eq] at h
  exact h
set_option maxRecDepth 100000 in
theorem spec_DrawSearchCell.good : Good Try.prog 63 spec_DrawSearchCell.con :=
  good_of tabok (cs := spec_DrawSearchCell.cs) ⟨spec_l01From.good, spec_l01Next.good, spec_l31Draw.good, trivial⟩ 0 false (fn := Try.f63) Try.func63 rfl (by decide) (by simp [spec_DrawSearchCell.con]) spec_DrawSearchCell.keep NN (fun _ => rfl) (fun x => spec_DrawSearchCell.body NN x)
end
end Go.Ev.Try

namespace Go.Ev.Try
open Go.Proofs Go.Pl
set_option linter.unusedVariables false
noncomputable section
def impl_within.con : Con := { ps := [(.val, (.int .i64)), (.val, (.int .i64)), (.val, (.int .i64))], rs := [(.val, .bool)], F := fun x => impl_within.f x.1 x.2.1 x.2.2 }
def impl_within.cs : List (FuncId × Con) := []
def impl_within.E : Env := envOf tab impl_within.cs 0 false
def impl_within.keep (i : Nat) : List Nat := []
set_option maxRecDepth 100000 in
theorem impl_within.body (n : Nat) (x : Int × Int × Int) : bodyF impl_within.E impl_within.keep n Try.f90 impl_within.con x = impl_within.fn n x.1 x.2.1 x.2.2 := by
  have h : bodyF impl_within.E impl_within.keep n Try.f90 impl_within.con x = impl_within.top x.1 x.2.1 x.2.2 := by kernel_rfl
  exact h
set_option maxRecDepth 100000 in
theorem impl_within.good : Good Try.prog 90 impl_within.con :=
  good_of tabok (cs := impl_within.cs) trivial 0 false (fn := Try.f90) Try.func90 rfl (by decide) (by simp [impl_within.con]) impl_within.keep NN (fun _ => rfl) (fun x => impl_within.body NN x)
end
end Go.Ev.Try

namespace Go.Ev.Try
open Go.Proofs Go.Pl
set_option linter.unusedVariables false
noncomputable section
def impl_IsGrid.con : Con := { ps := [(.val, (.pair (.int .i64) (.pair (.int .i64) (.sl 4 .bool))))], rs := [(.val, .bool)], F := fun x => impl_IsGrid.f x }
def impl_IsGrid.cs : List (FuncId × Con) := [(90, impl_within.con)]
def impl_IsGrid.E : Env := envOf tab impl_IsGrid.cs 0 false
def impl_IsGrid.keep (i : Nat) : List Nat := []
set_option maxRecDepth 100000 in
theorem impl_IsGrid.body (n : Nat) (x : Int × Int × List Bool) : bodyF impl_IsGrid.E impl_IsGrid.keep n Try.f75 impl_IsGrid.con x = impl_IsGrid.fn n x := by
  have h : bodyF impl_IsGrid.E impl_IsGrid.keep n Try.f75 impl_IsGrid.con x = impl_IsGrid.top x := by kernel_rfl
  exact h
set_option maxRecDepth 100000 in
theorem impl_IsGrid.good : Good Try.prog 75 impl_IsGrid.con :=
  good_of tabok (cs := impl_IsGrid.cs) ⟨impl_within.good, trivial⟩ 0 false (fn := Try.f75) Try.func75 rfl (by decide) (by simp [impl_IsGrid.con]) impl_IsGrid.keep NN (fun _ => rfl) (fun x => impl_IsGrid.body NN x)
end
end Go.Ev.Try

namespace Go.Ev.Try
open Go.Proofs Go.Pl
set_option linter.unusedVariables false
noncomputable section
def impl_isCell.con : Con := { ps := [(.val, (.pair (.int .i64) (.pair (.int .i64) (.sl 4 .bool)))), (.val, (.int .i64)), (.val, (.int .i64))], rs := [(.val, .bool)], F := fun x => impl_isCell.f x.1 x.2.1 x.2.2 }
def impl_isCell.cs : List (FuncId × Con) := [(90, impl_within.con)]
def impl_isCell.E : Env := envOf tab impl_isCell.cs 0 false
def impl_isCell.keep (i : Nat) : List Nat := []
set_option maxRecDepth 100000 in
theorem impl_isCell.body (n : Nat) (x : (Int × Int × List Bool) × Int × Int) : bodyF impl_isCell.E impl_isCell.keep n Try.f125 impl_isCell.con x = impl_isCell.fn n x.1 x.2.1 x.2.2 := by
  have h : bodyF impl_isCell.E impl_isCell.keep n Try.f125 impl_isCell.con x = impl_isCell.top x.1 x.2.1 x.2.2 := by kernel_rfl
  exact h
set_option maxRecDepth 100000 in
theorem impl_isCell.good : Good Try.prog 125 impl_isCell.con :=
  good_of tabok (cs := impl_isCell.cs) ⟨impl_within.good, trivial⟩ 0 false (fn := Try.f125) Try.func125 rfl (by decide) (by simp [impl_isCell.con]) impl_isCell.keep NN (fun _ => rfl) (fun x => impl_isCell.body NN x)
end
end Go.Ev.Try

namespace Go.Ev.Try
open Go.Proofs Go.Pl
set_option linter.unusedVariables false
noncomputable section
def impl_copyGrid.con : Con := { ps := [(.val, (.pair (.int .i64) (.pair (.int .i64) (.sl 4 .bool))))], rs := [(.own, (.pair (.int .i64) (.pair (.int .i64) (.sl 4 .bool))))], F := fun x => impl_copyGrid.f x }
def impl_copyGrid.cs : List (FuncId × Con) := []
def impl_copyGrid.E : Env := envOf tab impl_copyGrid.cs 0 false
def impl_copyGrid.keep (i : Nat) : List Nat := []
set_option maxRecDepth 100000 in
theorem impl_copyGrid.body (n : Nat) (x : Int × Int × List Bool) : bodyF impl_copyGrid.E impl_copyGrid.keep n Try.f126 impl_copyGrid.con x = impl_copyGrid.fn n x := by
  have h : bodyF impl_copyGrid.E impl_copyGrid.keep n Try.f126 impl_copyGrid.con x = impl_copyGrid.top x := by kernel_rfl
  exact h
set_option maxRecDepth 100000 in
theorem impl_copyGrid.good : Good Try.prog 126 impl_copyGrid.con :=
  good_of tabok (cs := impl_copyGrid.cs) trivial 0 false (fn := Try.f126) Try.func126 rfl (by decide) (by simp [impl_copyGrid.con]) impl_copyGrid.keep NN (fun _ => rfl) (fun x => impl_copyGrid.body NN x)
end
end Go.Ev.Try

namespace Go.Ev.Try
open Go.Proofs Go.Pl
set_option linter.unusedVariables false
noncomputable section
def impl_SearchCell.con : Con := { ps := [(.val, (.pair (.int .i64) (.pair (.int .i64) (.sl 4 .bool)))), (.val, (.int .i64)), (.val, (.int .i64))], rs := [(.own, (.pair (.int .i64) (.pair (.int .i64) (.sl 4 .bool)))), (.own, (.int .i64))], F := fun x => impl_SearchCell.f x.1 x.2.1 x.2.2 }
def impl_SearchCell.cs : List (FuncId × Con) := [(75, impl_IsGrid.con), (125, impl_isCell.con), (126, impl_copyGrid.con)]
def impl_SearchCell.E : Env := envOf tab impl_SearchCell.cs 0 false
def impl_SearchCell.keep (i : Nat) : List Nat := []
set_option maxRecDepth 100000 in
theorem impl_SearchCell.body (n : Nat) (x : (Int × Int × List Bool) × Int × Int) : bodyF impl_SearchCell.E impl_SearchCell.keep n Try.f64 impl_SearchCell.con x = impl_SearchCell.fn n x.1 x.2.1 x.2.2 := by
  have h : bodyF impl_SearchCell.E impl_SearchCell.keep n Try.f64 impl_SearchCell.con x = impl_SearchCell.top x.1 x.2.1 x.2.2 := by kernel_rfl
  exact h
set_option maxRecDepth 100000 in
theorem impl_SearchCell.good : Good Try.prog 64 impl_SearchCell.con :=
  good_of tabok (cs := impl_SearchCell.cs) ⟨impl_IsGrid.good, impl_isCell.good, impl_copyGrid.good, trivial⟩ 0 false (fn := Try.f64) Try.func64 rfl (by decide) (by simp [impl_SearchCell.con]) impl_SearchCell.keep NN (fun _ => rfl) (fun x => impl_SearchCell.body NN x)
end
end Go.Ev.Try

namespace Go.Ev.Try
open Go.Proofs Go.Pl
set_option linter.unusedVariables false
noncomputable section
def spec_l01In.con : Con := { ps := [(.val, (.int .i64)), (.val, (.int .i64)), (.val, (.int .i64))], rs := [(.val, .bool)], F := fun x => spec_l01In.f x.1 x.2.1 x.2.2 }
def spec_l01In.cs : List (FuncId × Con) := []
def spec_l01In.E : Env := envOf tab spec_l01In.cs 0 false
def spec_l01In.keep (i : Nat) : List Nat := []
set_option maxRecDepth 100000 in
theorem spec_l01In.body (n : Nat) (x : Int × Int × Int) : bodyF spec_l01In.E spec_l01In.keep n Try.f87 spec_l01In.con x = spec_l01In.fn n x.1 x.2.1 x.2.2 := by
  have h : bodyF spec_l01In.E spec_l01In.keep n Try.f87 spec_l01In.con x = spec_l01In.top x.1 x.2.1 x.2.2 := by kernel_rfl
  exact h
set_option maxRecDepth 100000 in
theorem spec_l01In.good : Good Try.prog 87 spec_l01In.con :=
  good_of tabok (cs := spec_l01In.cs) trivial 0 false (fn := Try.f87) Try.func87 rfl (by decide) (by simp [spec_l01In.con]) spec_l01In.keep NN (fun _ => rfl) (fun x => spec_l01In.body NN x)
end
end Go.Ev.Try

namespace Go.Ev.Try
open Go.Proofs Go.Pl
set_option linter.unusedVariables false
noncomputable section
def spec_IsGrid.con : Con := { ps := [(.val, (.pair (.int .i64) (.pair (.int .i64) (.sl 4 .bool))))], rs := [(.val, .bool)], F := fun x => spec_IsGrid.f x }
def spec_IsGrid.cs : List (FuncId × Con) := [(87, spec_l01In.con)]
def spec_IsGrid.E : Env := envOf tab spec_IsGrid.cs 0 false
def spec_IsGrid.keep (i : Nat) : List Nat := []
set_option maxRecDepth 100000 in
theorem spec_IsGrid.body (n : Nat) (x : Int × Int × List Bool) : bodyF spec_IsGrid.E spec_IsGrid.keep n Try.f154 spec_IsGrid.con x = spec_IsGrid.fn n x := by
  have h : bodyF spec_IsGrid.E spec_IsGrid.keep n Try.f154 spec_IsGrid.con x = spec_IsGrid.top x := by kernel_rfl
  exact h
set_option maxRecDepth 100000 in
theorem spec_IsGrid.good : Good Try.prog 154 spec_IsGrid.con :=
  good_of tabok (cs := spec_IsGrid.cs) ⟨spec_l01In.good, trivial⟩ 0 false (fn := Try.f154) Try.func154 rfl (by decide) (by simp [spec_IsGrid.con]) spec_IsGrid.keep NN (fun _ => rfl) (fun x => spec_IsGrid.body NN x)
end
end Go.Ev.Try

namespace Go.Ev.Try
open Go.Proofs Go.Pl
set_option linter.unusedVariables false
noncomputable section
def spec_l31Code.con : Con := { ps := [(.val, (.pair (.int .i64) (.pair (.int .i64) (.sl 4 .bool)))), (.val, (.int .i64)), (.val, (.int .i64))], rs := [(.val, (.int .i64))], F := fun x => spec_l31Code.f x.1 x.2.1 x.2.2 }
def spec_l31Code.cs : List (FuncId × Con) := [(87, spec_l01In.con), (154, spec_IsGrid.con)]
def spec_l31Code.E : Env := envOf tab spec_l31Code.cs 0 false
def spec_l31Code.keep (i : Nat) : List Nat := []
set_option maxRecDepth 100000 in
theorem spec_l31Code.body (n : Nat) (x : (Int × Int × List Bool) × Int × Int) : bodyF spec_l31Code.E spec_l31Code.keep n Try.f127 spec_l31Code.con x = spec_l31Code.fn n x.1 x.2.1 x.2.2 := by
  have h : bodyF spec_l31Code.E spec_l31Code.keep n Try.f127 spec_l31Code.con x = spec_l31Code.top x.1 x.2.1 x.2.2 := by kernel_rfl
  exact h
set_option maxRecDepth 100000 in
theorem spec_l31Code.good : Good Try.prog 127 spec_l31Code.con :=
  good_of tabok (cs := spec_l31Code.cs) ⟨spec_l01In.good, spec_IsGrid.good, trivial⟩ 0 false (fn := Try.f127) Try.func127 rfl (by decide) (by simp [spec_l31Code.con]) spec_l31Code.keep NN (fun _ => rfl) (fun x => spec_l31Code.body NN x)
end
end Go.Ev.Try

namespace Go.Ev.Try
open Go.Proofs Go.Pl
set_option linter.unusedVariables false
noncomputable section
def spec_l31Own.topraw (g0 : Int × Int × List Bool) : Option (Int × Int × List Bool) :=
  agree (
    agree (
      agree (
        if ([] : List Bool).length + g0.2.2.length < room 1 then
          some (g0.1, (g0.2.1, ([] : List Bool) ++ g0.2.2))
        else
          none
      ) (
        if ([] : List Bool).length + g0.2.2.length < room 1 then
          some (g0.1, (g0.2.1, ([] : List Bool) ++ g0.2.2))
        else
          none
      )
    ) (
      agree (
        agree (
          if ([] : List Bool).length + g0.2.2.length < room 1 then
            some (g0.1, (g0.2.1, ([] : List Bool) ++ g0.2.2))
          else
            none
        ) (
          agree (
            if ([] : List Bool).length + g0.2.2.length < room 1 then
              some (g0.1, (g0.2.1, ([] : List Bool) ++ g0.2.2))
            else
              none
          ) (
            if ([] : List Bool).length + g0.2.2.length < room 1 then
              some (g0.1, (g0.2.1, ([] : List Bool) ++ g0.2.2))
            else
              none
          )
        )
      ) (
        agree (
          if ([] : List Bool).length + g0.2.2.length < room 1 then
            some (g0.1, (g0.2.1, ([] : List Bool) ++ g0.2.2))
          else
            none
        ) (
          agree (
            if ([] : List Bool).length + g0.2.2.length < room 1 then
              some (g0.1, (g0.2.1, ([] : List Bool) ++ g0.2.2))
            else
              none
          ) (
            if ([] : List Bool).length + g0.2.2.length < room 1 then
              some (g0.1, (g0.2.1, ([] : List Bool) ++ g0.2.2))
            else
              none
          )
        )
      )
    )
  ) (
    agree (
      agree (
        agree (
          if ([] : List Bool).length + g0.2.2.length < room 1 then
            some (g0.1, (g0.2.1, ([] : List Bool) ++ g0.2.2))
          else
            none
        ) (
          if ([] : List Bool).length + g0.2.2.length < room 1 then
            some (g0.1, (g0.2.1, ([] : List Bool) ++ g0.2.2))
          else
            none
        )
      ) (
        agree (
          agree (
            if ([] : List Bool).length + g0.2.2.length < room 1 then
              some (g0.1, (g0.2.1, ([] : List Bool) ++ g0.2.2))
            else
              none
          ) (
            agree (
              if ([] : List Bool).length + g0.2.2.length < room 1 then
                some (g0.1, (g0.2.1, ([] : List Bool) ++ g0.2.2))
              else
                none
            ) (
              if ([] : List Bool).length + g0.2.2.length < room 1 then
                some (g0.1, (g0.2.1, ([] : List Bool) ++ g0.2.2))
              else
                none
            )
          )
        ) (
          agree (
            if ([] : List Bool).length + g0.2.2.length < room 1 then
              some (g0.1, (g0.2.1, ([] : List Bool) ++ g0.2.2))
            else
              none
          ) (
            agree (
              if ([] : List Bool).length + g0.2.2.length < room 1 then
                some (g0.1, (g0.2.1, ([] : List Bool) ++ g0.2.2))
              else
                none
            ) (
              if ([] : List Bool).length + g0.2.2.length < room 1 then
                some (g0.1, (g0.2.1, ([] : List Bool) ++ g0.2.2))
              else
                none
            )
          )
        )
      )
    ) (
      agree (
        agree (
          agree (
            if ([] : List Bool).length + g0.2.2.length < room 1 then
              some (g0.1, (g0.2.1, ([] : List Bool) ++ g0.2.2))
            else
              none
          ) (
            agree (
              if ([] : List Bool).length + g0.2.2.length < room 1 then
                some (g0.1, (g0.2.1, ([] : List Bool) ++ g0.2.2))
              else
                none
            ) (
              if ([] : List Bool).length + g0.2.2.length < room 1 then
                some (g0.1, (g0.2.1, ([] : List Bool) ++ g0.2.2))
              else
                none
            )
          )
        ) (
          agree (
            agree (
              if ([] : List Bool).length + g0.2.2.length < room 1 then
                some (g0.1, (g0.2.1, ([] : List Bool) ++ g0.2.2))
              else
                none
            ) (
              agree (
                if ([] : List Bool).length + g0.2.2.length < room 1 then
                  some (g0.1, (g0.2.1, ([] : List Bool) ++ g0.2.2))
                else
                  none
              ) (
                if ([] : List Bool).length + g0.2.2.length < room 1 then
                  some (g0.1, (g0.2.1, ([] : List Bool) ++ g0.2.2))
                else
                  none
              )
            )
          ) (
            agree (
              agree (
                if ([] : List Bool).length + g0.2.2.length < room 1 then
                  some (g0.1, (g0.2.1, ([] : List Bool) ++ g0.2.2))
                else
                  none
              ) (
                if ([] : List Bool).length + g0.2.2.length < room 1 then
                  some (g0.1, (g0.2.1, ([] : List Bool) ++ g0.2.2))
                else
                  none
              )
            ) (
              agree (
                agree (
                  if ([] : List Bool).length + g0.2.2.length < room 1 then
                    some (g0.1, (g0.2.1, ([] : List Bool) ++ g0.2.2))
                  else
                    none
                ) (
                  if ([] : List Bool).length + g0.2.2.length < room 1 then
                    some (g0.1, (g0.2.1, ([] : List Bool) ++ g0.2.2))
                  else
                    none
                )
              ) (
                if ([] : List Bool).length + g0.2.2.length < room 1 then
                  some (g0.1, (g0.2.1, ([] : List Bool) ++ g0.2.2))
                else
                  none
              )
            )
          )
        )
      ) (
        agree (
          agree (
            if ([] : List Bool).length + g0.2.2.length < room 1 then
              some (g0.1, (g0.2.1, ([] : List Bool) ++ g0.2.2))
            else
              none
          ) (
            agree (
              if ([] : List Bool).length + g0.2.2.length < room 1 then
                some (g0.1, (g0.2.1, ([] : List Bool) ++ g0.2.2))
              else
                none
            ) (
              if ([] : List Bool).length + g0.2.2.length < room 1 then
                some (g0.1, (g0.2.1, ([] : List Bool) ++ g0.2.2))
              else
                none
            )
          )
        ) (
          agree (
            agree (
              if ([] : List Bool).length + g0.2.2.length < room 1 then
                some (g0.1, (g0.2.1, ([] : List Bool) ++ g0.2.2))
              else
                none
            ) (
              agree (
                if ([] : List Bool).length + g0.2.2.length < room 1 then
                  some (g0.1, (g0.2.1, ([] : List Bool) ++ g0.2.2))
                else
                  none
              ) (
                if ([] : List Bool).length + g0.2.2.length < room 1 then
                  some (g0.1, (g0.2.1, ([] : List Bool) ++ g0.2.2))
                else
                  none
              )
            )
          ) (
            agree (
              agree (
                if ([] : List Bool).length + g0.2.2.length < room 1 then
                  some (g0.1, (g0.2.1, ([] : List Bool) ++ g0.2.2))
                else
                  none
              ) (
                if ([] : List Bool).length + g0.2.2.length < room 1 then
                  some (g0.1, (g0.2.1, ([] : List Bool) ++ g0.2.2))
                else
                  none
              )
            ) (
              agree (
                agree (
                  if ([] : List Bool).length + g0.2.2.length < room 1 then
                    some (g0.1, (g0.2.1, ([] : List Bool) ++ g0.2.2))
                  else
                    none
                ) (
                  if ([] : List Bool).length + g0.2.2.length < room 1 then
                    some (g0.1, (g0.2.1, ([] : List Bool) ++ g0.2.2))
                  else
                    none
                )
              ) (
                if ([] : List Bool).length + g0.2.2.length < room 1 then
                  some (g0.1, (g0.2.1, ([] : List Bool) ++ g0.2.2))
                else
                  none
              )
            )
          )
        )
      )
    )
  )
theorem spec_l31Own.topraw_eq (g0 : Int × Int × List Bool) : spec_l31Own.topraw g0 = spec_l31Own.top g0 := by
  unfold spec_l31Own.topraw spec_l31Own.top
  simp only [agree_self]
def spec_l31Own.con : Con := { ps := [(.val, (.pair (.int .i64) (.pair (.int .i64) (.sl 4 .bool))))], rs := [(.own, (.pair (.int .i64) (.pair (.int .i64) (.sl 4 .bool))))], F := fun x => spec_l31Own.f x }
def spec_l31Own.cs : List (FuncId × Con) := []
def spec_l31Own.E : Env := envOf tab spec_l31Own.cs 0 false
def spec_l31Own.keep (i : Nat) : List Nat := []
set_option maxRecDepth 100000 in
theorem spec_l31Own.body (n : Nat) (x : Int × Int × List Bool) : bodyF spec_l31Own.E spec_l31Own.keep n Try.f128 spec_l31Own.con x = spec_l31Own.fn n x := by
  have h : bodyF spec_l31Own.E spec_l31Own.keep n Try.f128 spec_l31Own.con x = spec_l31Own.topraw x := by kernel_rfl
  rw [spec_l31Own.topraw_eq] at h
  exact h
set_option maxRecDepth 100000 in
theorem spec_l31Own.good : Good Try.prog 128 spec_l31Own.con :=
  good_of tabok (cs := spec_l31Own.cs) trivial 0 false (fn := Try.f128) Try.func128 rfl (by decide) (by simp [spec_l31Own.con]) spec_l31Own.keep NN (fun _ => rfl) (fun x => spec_l31Own.body NN x)
end
end Go.Ev.Try

namespace Go.Ev.Try
open Go.Proofs Go.Pl
set_option linter.unusedVariables false
noncomputable section
def spec_SearchCell.con : Con := { ps := [(.val, (.pair (.int .i64) (.pair (.int .i64) (.sl 4 .bool)))), (.val, (.int .i64)), (.val, (.int .i64))], rs := [(.own, (.pair (.int .i64) (.pair (.int .i64) (.sl 4 .bool)))), (.own, (.int .i64))], F := fun x => spec_SearchCell.f x.1 x.2.1 x.2.2 }
def spec_SearchCell.cs : List (FuncId × Con) := [(127, spec_l31Code.con), (128, spec_l31Own.con)]
def spec_SearchCell.E : Env := envOf tab spec_SearchCell.cs 0 false
def spec_SearchCell.keep (i : Nat) : List Nat := []
set_option maxRecDepth 100000 in
theorem spec_SearchCell.body (n : Nat) (x : (Int × Int × List Bool) × Int × Int) : bodyF spec_SearchCell.E spec_SearchCell.keep n Try.f65 spec_SearchCell.con x = spec_SearchCell.fn n x.1 x.2.1 x.2.2 := by
  have h : bodyF spec_SearchCell.E spec_SearchCell.keep n Try.f65 spec_SearchCell.con x = spec_SearchCell.top x.1 x.2.1 x.2.2 := by kernel_rfl
  exact h
set_option maxRecDepth 100000 in
theorem spec_SearchCell.good : Good Try.prog 65 spec_SearchCell.con :=
  good_of tabok (cs := spec_SearchCell.cs) ⟨spec_l31Code.good, spec_l31Own.good, trivial⟩ 0 false (fn := Try.f65) Try.func65 rfl (by decide) (by simp [spec_SearchCell.con]) spec_SearchCell.keep NN (fun _ => rfl) (fun x => spec_SearchCell.body NN x)
end
end Go.Ev.Try

namespace Go.Ev.Try
open Go.Proofs Go.Pl
set_option linter.unusedVariables false
noncomputable section
def impl_cellsLeft.st3 (v7 : List Bool) (v8 : Int) (v9 : Int) (out3 : List Int) : St := ⟨[.gone, .gone, .gone, .ref 0, .gone, .gone, .gone, .dat (.sl 4 .bool) v7, .dat (.int .i64) v8, .dat (.int .i64) v9, .gone, .gone, .gone, .gone, .gone, .gone, .gone, .gone, .gone, .gone, .gone, .gone], [.row 2 (.int .i64) out3 none]⟩
def impl_cellsLeft.con : Con := { ps := [(.val, (.pair (.int .i64) (.pair (.int .i64) (.sl 4 .bool))))], rs := [(.own, (.sl 2 (.int .i64)))], F := fun x => impl_cellsLeft.f x }
def impl_cellsLeft.cs : List (FuncId × Con) := []
def impl_cellsLeft.E : Env := envOf tab impl_cellsLeft.cs 0 false
def impl_cellsLeft.keep (i : Nat) : List Nat := if i = 3 then [3, 7, 8, 9] else []
def impl_cellsLeft.at3 (n : Nat) (x : Int × Int × List Bool) : Code × (Ex → St → Option ((List Int))) := ctx impl_cellsLeft.E impl_cellsLeft.keep n [.snd, .snd, .fst, .snd, .blk] (codeOf Try.f129) (kEnd impl_cellsLeft.E Try.f129 impl_cellsLeft.con x)
def impl_cellsLeft.LN3 (n : Nat) (x : Int × Int × List Bool) : Nat → St → Option ((List Int)) := loopN (exec impl_cellsLeft.E impl_cellsLeft.keep n (bodyOf (impl_cellsLeft.at3 n x).1)) (St.norm 0 (impl_cellsLeft.keep 3)) (impl_cellsLeft.at3 n x).2
set_option maxRecDepth 100000 in
theorem impl_cellsLeft.lem3 (n : Nat) (x : Int × Int × List Bool) : ∀ (k : Nat) (v7 : List Bool) (v8 : Int) (v9 : Int) (out3 : List Int), impl_cellsLeft.LN3 n x k (impl_cellsLeft.st3 v7 v8 v9 out3) = impl_cellsLeft.l3 n k v7 v8 v9 out3 := by
  intro k
  induction k with
  | zero => intro v7 v8 v9 out3; rfl
  | succ k ih =>
    intro v7 v8 v9 out3
    have h : impl_cellsLeft.LN3 n x (k + 1) (impl_cellsLeft.st3 v7 v8 v9 out3) = impl_cellsLeft.g3 (fun v7 v8 v9 out3 => impl_cellsLeft.LN3 n x k (impl_cellsLeft.st3 v7 v8 v9 out3)) v7 v8 v9 out3 := by kernel_rfl
    rw [h]
    simp only [ih]
    rfl
set_option maxRecDepth 100000 in
theorem impl_cellsLeft.body (n : Nat) (x : Int × Int × List Bool) : bodyF impl_cellsLeft.E impl_cellsLeft.keep n Try.f129 impl_cellsLeft.con x = impl_cellsLeft.fn n x := by
  have h : bodyF impl_cellsLeft.E impl_cellsLeft.keep n Try.f129 impl_cellsLeft.con x = impl_cellsLeft.top (fun v7 v8 v9 out3 => impl_cellsLeft.LN3 n x n (impl_cellsLeft.st3 v7 v8 v9 out3)) x := by kernel_rfl
  rw [h]
  simp only [impl_cellsLeft.lem3]
  rfl
set_option maxRecDepth 100000 in
theorem impl_cellsLeft.good : Good Try.prog 129 impl_cellsLeft.con :=
  good_of tabok (cs := impl_cellsLeft.cs) trivial 0 false (fn := Try.f129) Try.func129 rfl (by decide) (by simp [impl_cellsLeft.con]) impl_cellsLeft.keep NN (fun _ => rfl) (fun x => impl_cellsLeft.body NN x)
end
end Go.Ev.Try

namespace Go.Ev.Try
open Go.Proofs Go.Pl
set_option linter.unusedVariables false
noncomputable section
def impl_CellsLeft.con : Con := { ps := [(.val, (.pair (.int .i64) (.pair (.int .i64) (.sl 4 .bool))))], rs := [(.own, (.sl 2 (.int .i64))), (.own, (.int .i64))], F := fun x => impl_CellsLeft.f x }
def impl_CellsLeft.cs : List (FuncId × Con) := [(75, impl_IsGrid.con), (129, impl_cellsLeft.con)]
def impl_CellsLeft.E : Env := envOf tab impl_CellsLeft.cs 0 false
def impl_CellsLeft.keep (i : Nat) : List Nat := []
set_option maxRecDepth 100000 in
theorem impl_CellsLeft.body (n : Nat) (x : Int × Int × List Bool) : bodyF impl_CellsLeft.E impl_CellsLeft.keep n Try.f66 impl_CellsLeft.con x = impl_CellsLeft.fn n x := by
  have h : bodyF impl_CellsLeft.E impl_CellsLeft.keep n Try.f66 impl_CellsLeft.con x = impl_CellsLeft.top x := by kernel_rfl
  exact h
set_option maxRecDepth 100000 in
theorem impl_CellsLeft.good : Good Try.prog 66 impl_CellsLeft.con :=
  good_of tabok (cs := impl_CellsLeft.cs) ⟨impl_IsGrid.good, impl_cellsLeft.good, trivial⟩ 0 false (fn := Try.f66) Try.func66 rfl (by decide) (by simp [impl_CellsLeft.con]) impl_CellsLeft.keep NN (fun _ => rfl) (fun x => impl_CellsLeft.body NN x)
end
end Go.Ev.Try

namespace Go.Ev.Try
open Go.Proofs Go.Pl
set_option linter.unusedVariables false
noncomputable section
def spec_l31Left.st3 (i4 : Int) (g1 : Int × Int × List Bool) (out3 : List Int) : St := ⟨[.gone, .ptr 0 [], .gone, .ref 1, .dat (.int .i64) i4, .gone, .gone, .gone, .gone, .gone, .gone, .gone, .gone, .gone, .gone, .gone, .gone, .gone, .gone, .gone, .gone, .gone, .gone, .gone], [.box 94 (.pair (.int .i64) (.pair (.int .i64) (.sl 4 .bool))) (.dat (.pair (.int .i64) (.pair (.int .i64) (.sl 4 .bool))) g1), .row 2 (.int .i64) out3 none]⟩
def spec_l31Left.con : Con := { ps := [(.val, (.pair (.int .i64) (.pair (.int .i64) (.sl 4 .bool))))], rs := [(.own, (.sl 2 (.int .i64)))], F := fun x => spec_l31Left.f x }
def spec_l31Left.cs : List (FuncId × Con) := []
def spec_l31Left.E : Env := envOf tab spec_l31Left.cs 0 false
def spec_l31Left.keep (i : Nat) : List Nat := if i = 3 then [1, 3, 4] else []
def spec_l31Left.at3 (n : Nat) (x : Int × Int × List Bool) : Code × (Ex → St → Option ((List Int))) := ctx spec_l31Left.E spec_l31Left.keep n [.snd, .snd, .fst, .snd, .blk] (codeOf Try.f130) (kEnd spec_l31Left.E Try.f130 spec_l31Left.con x)
def spec_l31Left.LN3 (n : Nat) (x : Int × Int × List Bool) : Nat → St → Option ((List Int)) := loopN (exec spec_l31Left.E spec_l31Left.keep n (bodyOf (spec_l31Left.at3 n x).1)) (St.norm 0 (spec_l31Left.keep 3)) (spec_l31Left.at3 n x).2
set_option maxRecDepth 100000 in
theorem spec_l31Left.lem3 (n : Nat) (x : Int × Int × List Bool) : ∀ (k : Nat) (i4 : Int) (g1 : Int × Int × List Bool) (out3 : List Int), spec_l31Left.LN3 n x k (spec_l31Left.st3 i4 g1 out3) = spec_l31Left.l3 n k i4 g1 out3 := by
  intro k
  induction k with
  | zero => intro i4 g1 out3; rfl
  | succ k ih =>
    intro i4 g1 out3
    have h : spec_l31Left.LN3 n x (k + 1) (spec_l31Left.st3 i4 g1 out3) = spec_l31Left.g3 (fun i4 g1 out3 => spec_l31Left.LN3 n x k (spec_l31Left.st3 i4 g1 out3)) i4 g1 out3 := by kernel_rfl
    rw [h]
    simp only [ih]
    rfl
set_option maxRecDepth 100000 in
theorem spec_l31Left.body (n : Nat) (x : Int × Int × List Bool) : bodyF spec_l31Left.E spec_l31Left.keep n Try.f130 spec_l31Left.con x = spec_l31Left.fn n x := by
  have h : bodyF spec_l31Left.E spec_l31Left.keep n Try.f130 spec_l31Left.con x = spec_l31Left.top (fun i4 g1 out3 => spec_l31Left.LN3 n x n (spec_l31Left.st3 i4 g1 out3)) x := by kernel_rfl
  rw [h]
  simp only [spec_l31Left.lem3]
  rfl
set_option maxRecDepth 100000 in
theorem spec_l31Left.good : Good Try.prog 130 spec_l31Left.con :=
  good_of tabok (cs := spec_l31Left.cs) trivial 0 false (fn := Try.f130) Try.func130 rfl (by decide) (by simp [spec_l31Left.con]) spec_l31Left.keep NN (fun _ => rfl) (fun x => spec_l31Left.body NN x)
end
end Go.Ev.Try

namespace Go.Ev.Try
open Go.Proofs Go.Pl
set_option linter.unusedVariables false
noncomputable section
def spec_CellsLeft.con : Con := { ps := [(.val, (.pair (.int .i64) (.pair (.int .i64) (.sl 4 .bool))))], rs := [(.own, (.sl 2 (.int .i64))), (.own, (.int .i64))], F := fun x => spec_CellsLeft.f x }
def spec_CellsLeft.cs : List (FuncId × Con) := [(127, spec_l31Code.con), (130, spec_l31Left.con)]
def spec_CellsLeft.E : Env := envOf tab spec_CellsLeft.cs 0 false
def spec_CellsLeft.keep (i : Nat) : List Nat := []
set_option maxRecDepth 100000 in
theorem spec_CellsLeft.body (n : Nat) (x : Int × Int × List Bool) : bodyF spec_CellsLeft.E spec_CellsLeft.keep n Try.f67 spec_CellsLeft.con x = spec_CellsLeft.fn n x := by
  have h : bodyF spec_CellsLeft.E spec_CellsLeft.keep n Try.f67 spec_CellsLeft.con x = spec_CellsLeft.top x := by kernel_rfl
  exact h
set_option maxRecDepth 100000 in
theorem spec_CellsLeft.good : Good Try.prog 67 spec_CellsLeft.con :=
  good_of tabok (cs := spec_CellsLeft.cs) ⟨spec_l31Code.good, spec_l31Left.good, trivial⟩ 0 false (fn := Try.f67) Try.func67 rfl (by decide) (by simp [spec_CellsLeft.con]) spec_CellsLeft.keep NN (fun _ => rfl) (fun x => spec_CellsLeft.body NN x)
end
end Go.Ev.Try

namespace Go.Ev.Try
open Go.Proofs Go.Pl
set_option linter.unusedVariables false
noncomputable section
def impl_abs.con : Con := { ps := [(.val, (.int .i64))], rs := [(.val, (.int .i64))], F := fun x => impl_abs.f x }
def impl_abs.cs : List (FuncId × Con) := []
def impl_abs.E : Env := envOf tab impl_abs.cs 0 false
def impl_abs.keep (i : Nat) : List Nat := []
set_option maxRecDepth 100000 in
theorem impl_abs.body (n : Nat) (x : Int) : bodyF impl_abs.E impl_abs.keep n Try.f155 impl_abs.con x = impl_abs.fn n x := by
  have h : bodyF impl_abs.E impl_abs.keep n Try.f155 impl_abs.con x = impl_abs.top x := by kernel_rfl
  exact h
set_option maxRecDepth 100000 in
theorem impl_abs.good : Good Try.prog 155 impl_abs.con :=
  good_of tabok (cs := impl_abs.cs) trivial 0 false (fn := Try.f155) Try.func155 rfl (by decide) (by simp [impl_abs.con]) impl_abs.keep NN (fun _ => rfl) (fun x => impl_abs.body NN x)
end
end Go.Ev.Try

namespace Go.Ev.Try
open Go.Proofs Go.Pl
set_option linter.unusedVariables false
noncomputable section
def impl_distanceOf.con : Con := { ps := [(.val, (.pair (.int .i64) (.pair (.int .i64) (.sl 4 .bool)))), (.val, (.int .i64)), (.val, (.int .i64))], rs := [(.val, (.int .i64))], F := fun x => impl_distanceOf.f x.1 x.2.1 x.2.2 }
def impl_distanceOf.cs : List (FuncId × Con) := [(155, impl_abs.con)]
def impl_distanceOf.E : Env := envOf tab impl_distanceOf.cs 0 false
def impl_distanceOf.keep (i : Nat) : List Nat := []
set_option maxRecDepth 100000 in
theorem impl_distanceOf.body (n : Nat) (x : (Int × Int × List Bool) × Int × Int) : bodyF impl_distanceOf.E impl_distanceOf.keep n Try.f131 impl_distanceOf.con x = impl_distanceOf.fn n x.1 x.2.1 x.2.2 := by
  have h : bodyF impl_distanceOf.E impl_distanceOf.keep n Try.f131 impl_distanceOf.con x = impl_distanceOf.top x.1 x.2.1 x.2.2 := by kernel_rfl
  exact h
set_option maxRecDepth 100000 in
theorem impl_distanceOf.good : Good Try.prog 131 impl_distanceOf.con :=
  good_of tabok (cs := impl_distanceOf.cs) ⟨impl_abs.good, trivial⟩ 0 false (fn := Try.f131) Try.func131 rfl (by decide) (by simp [impl_distanceOf.con]) impl_distanceOf.keep NN (fun _ => rfl) (fun x => impl_distanceOf.body NN x)
end
end Go.Ev.Try

namespace Go.Ev.Try
open Go.Proofs Go.Pl
set_option linter.unusedVariables false
noncomputable section
def impl_NearestLeft.st7 (x1 : Int) (y2 : Int) (best9 : Int) (least10 : Int) (v24 : Int) (v25 : Int) (g3 : Int × Int × List Bool) (v23 : List Int) : St := ⟨[.gone, .dat (.int .i64) x1, .dat (.int .i64) y2, .ptr 0 [], .gone, .gone, .gone, .gone, .gone, .dat (.int .i64) best9, .dat (.int .i64) least10, .gone, .gone, .gone, .gone, .gone, .gone, .gone, .gone, .gone, .gone, .gone, .gone, .ref 1, .dat (.int .i64) v24, .dat (.int .i64) v25, .gone, .gone, .gone, .gone, .gone, .gone, .gone, .gone, .gone, .gone, .gone, .gone, .gone, .gone, .gone, .gone, .gone, .gone, .gone, .gone, .gone, .gone, .gone, .gone, .gone, .gone], [.box 94 (.pair (.int .i64) (.pair (.int .i64) (.sl 4 .bool))) (.dat (.pair (.int .i64) (.pair (.int .i64) (.sl 4 .bool))) g3), .row 2 (.int .i64) v23 none]⟩
def impl_NearestLeft.con : Con := { ps := [(.val, (.pair (.int .i64) (.pair (.int .i64) (.sl 4 .bool)))), (.val, (.int .i64)), (.val, (.int .i64))], rs := [(.val, (.int .i64)), (.val, (.int .i64)), (.val, (.int .i64))], F := fun x => impl_NearestLeft.f x.1 x.2.1 x.2.2 }
def impl_NearestLeft.cs : List (FuncId × Con) := [(75, impl_IsGrid.con), (125, impl_isCell.con), (129, impl_cellsLeft.con), (131, impl_distanceOf.con)]
def impl_NearestLeft.E : Env := envOf tab impl_NearestLeft.cs 0 false
def impl_NearestLeft.keep (i : Nat) : List Nat := if i = 7 then [1, 2, 3, 9, 10, 23, 24, 25] else []
def impl_NearestLeft.at7 (n : Nat) (x : (Int × Int × List Bool) × Int × Int) : Code × (Ex → St → Option ((Int × Int × Int))) := ctx impl_NearestLeft.E impl_NearestLeft.keep n [.snd, .snd, .snd, .snd, .fst, .snd, .blk] (codeOf Try.f68) (kEnd impl_NearestLeft.E Try.f68 impl_NearestLeft.con x)
def impl_NearestLeft.LN7 (n : Nat) (x : (Int × Int × List Bool) × Int × Int) : Nat → St → Option ((Int × Int × Int)) := loopN (exec impl_NearestLeft.E impl_NearestLeft.keep n (bodyOf (impl_NearestLeft.at7 n x).1)) (St.norm 0 (impl_NearestLeft.keep 7)) (impl_NearestLeft.at7 n x).2
set_option maxRecDepth 100000 in
theorem impl_NearestLeft.lem7 (n : Nat) (x : (Int × Int × List Bool) × Int × Int) : ∀ (k : Nat) (x1 : Int) (y2 : Int) (best9 : Int) (least10 : Int) (v24 : Int) (v25 : Int) (g3 : Int × Int × List Bool) (v23 : List Int), impl_NearestLeft.LN7 n x k (impl_NearestLeft.st7 x1 y2 best9 least10 v24 v25 g3 v23) = impl_NearestLeft.l7 n k x1 y2 best9 least10 v24 v25 g3 v23 := by
  intro k
  induction k with
  | zero => intro x1 y2 best9 least10 v24 v25 g3 v23; rfl
  | succ k ih =>
    intro x1 y2 best9 least10 v24 v25 g3 v23
    have h : impl_NearestLeft.LN7 n x (k + 1) (impl_NearestLeft.st7 x1 y2 best9 least10 v24 v25 g3 v23) = impl_NearestLeft.g7 (fun x1 y2 best9 least10 v24 v25 g3 v23 => impl_NearestLeft.LN7 n x k (impl_NearestLeft.st7 x1 y2 best9 least10 v24 v25 g3 v23)) x1 y2 best9 least10 v24 v25 g3 v23 := by kernel_rfl
    rw [h]
    simp only [ih]
    rfl
set_option maxRecDepth 100000 in
theorem impl_NearestLeft.body (n : Nat) (x : (Int × Int × List Bool) × Int × Int) : bodyF impl_NearestLeft.E impl_NearestLeft.keep n Try.f68 impl_NearestLeft.con x = impl_NearestLeft.fn n x.1 x.2.1 x.2.2 := by
  have h : bodyF impl_NearestLeft.E impl_NearestLeft.keep n Try.f68 impl_NearestLeft.con x = impl_NearestLeft.top (fun x1 y2 best9 least10 v24 v25 g3 v23 => impl_NearestLeft.LN7 n x n (impl_NearestLeft.st7 x1 y2 best9 least10 v24 v25 g3 v23)) x.1 x.2.1 x.2.2 := by kernel_rfl
  rw [h]
  simp only [impl_NearestLeft.lem7]
  rfl
set_option maxRecDepth 100000 in
theorem impl_NearestLeft.good : Good Try.prog 68 impl_NearestLeft.con :=
  good_of tabok (cs := impl_NearestLeft.cs) ⟨impl_IsGrid.good, impl_isCell.good, impl_cellsLeft.good, impl_distanceOf.good, trivial⟩ 0 false (fn := Try.f68) Try.func68 rfl (by decide) (by simp [impl_NearestLeft.con]) impl_NearestLeft.keep NN (fun _ => rfl) (fun x => impl_NearestLeft.body NN x)
end
end Go.Ev.Try

namespace Go.Ev.Try
open Go.Proofs Go.Pl
set_option linter.unusedVariables false
noncomputable section
def spec_l01Abs.con : Con := { ps := [(.val, (.int .i64))], rs := [(.val, (.int .i64))], F := fun x => spec_l01Abs.f x }
def spec_l01Abs.cs : List (FuncId × Con) := []
def spec_l01Abs.E : Env := envOf tab spec_l01Abs.cs 0 false
def spec_l01Abs.keep (i : Nat) : List Nat := []
set_option maxRecDepth 100000 in
theorem spec_l01Abs.body (n : Nat) (x : Int) : bodyF spec_l01Abs.E spec_l01Abs.keep n Try.f156 spec_l01Abs.con x = spec_l01Abs.fn n x := by
  have h : bodyF spec_l01Abs.E spec_l01Abs.keep n Try.f156 spec_l01Abs.con x = spec_l01Abs.top x := by kernel_rfl
  exact h
set_option maxRecDepth 100000 in
theorem spec_l01Abs.good : Good Try.prog 156 spec_l01Abs.con :=
  good_of tabok (cs := spec_l01Abs.cs) trivial 0 false (fn := Try.f156) Try.func156 rfl (by decide) (by simp [spec_l01Abs.con]) spec_l01Abs.keep NN (fun _ => rfl) (fun x => spec_l01Abs.body NN x)
end
end Go.Ev.Try

namespace Go.Ev.Try
open Go.Proofs Go.Pl
set_option linter.unusedVariables false
noncomputable section
def spec_l31Far.con : Con := { ps := [(.val, (.pair (.int .i64) (.pair (.int .i64) (.sl 4 .bool)))), (.val, (.int .i64)), (.val, (.int .i64))], rs := [(.val, (.int .i64))], F := fun x => spec_l31Far.f x.1 x.2.1 x.2.2 }
def spec_l31Far.cs : List (FuncId × Con) := [(156, spec_l01Abs.con)]
def spec_l31Far.E : Env := envOf tab spec_l31Far.cs 0 false
def spec_l31Far.keep (i : Nat) : List Nat := []
set_option maxRecDepth 100000 in
theorem spec_l31Far.body (n : Nat) (x : (Int × Int × List Bool) × Int × Int) : bodyF spec_l31Far.E spec_l31Far.keep n Try.f132 spec_l31Far.con x = spec_l31Far.fn n x.1 x.2.1 x.2.2 := by
  have h : bodyF spec_l31Far.E spec_l31Far.keep n Try.f132 spec_l31Far.con x = spec_l31Far.top x.1 x.2.1 x.2.2 := by kernel_rfl
  exact h
set_option maxRecDepth 100000 in
theorem spec_l31Far.good : Good Try.prog 132 spec_l31Far.con :=
  good_of tabok (cs := spec_l31Far.cs) ⟨spec_l01Abs.good, trivial⟩ 0 false (fn := Try.f132) Try.func132 rfl (by decide) (by simp [spec_l31Far.con]) spec_l31Far.keep NN (fun _ => rfl) (fun x => spec_l31Far.body NN x)
end
end Go.Ev.Try

namespace Go.Ev.Try
open Go.Proofs Go.Pl
set_option linter.unusedVariables false
noncomputable section
def spec_NearestLeft.st9 (x1 : Int) (y2 : Int) (best11 : Int) (i12 : Int) (g3 : Int × Int × List Bool) (left10 : List Int) : St := ⟨[.gone, .dat (.int .i64) x1, .dat (.int .i64) y2, .ptr 0 [], .gone, .gone, .gone, .gone, .gone, .gone, .ref 1, .dat (.int .i64) best11, .dat (.int .i64) i12, .gone, .gone, .gone, .gone, .gone, .gone, .gone, .gone, .gone, .gone, .gone, .gone, .gone, .gone, .gone, .gone, .gone, .gone, .gone, .gone, .gone, .gone, .gone, .gone, .gone, .gone, .gone, .gone, .gone, .gone, .gone, .gone, .gone, .gone, .gone, .gone, .gone, .gone, .gone, .gone, .gone, .gone, .gone, .gone, .gone, .gone, .gone, .gone, .gone, .gone, .gone, .gone, .gone, .gone, .gone, .gone, .gone], [.box 94 (.pair (.int .i64) (.pair (.int .i64) (.sl 4 .bool))) (.dat (.pair (.int .i64) (.pair (.int .i64) (.sl 4 .bool))) g3), .row 2 (.int .i64) left10 none]⟩
def spec_NearestLeft.con : Con := { ps := [(.val, (.pair (.int .i64) (.pair (.int .i64) (.sl 4 .bool)))), (.val, (.int .i64)), (.val, (.int .i64))], rs := [(.val, (.int .i64)), (.val, (.int .i64)), (.val, (.int .i64))], F := fun x => spec_NearestLeft.f x.1 x.2.1 x.2.2 }
def spec_NearestLeft.cs : List (FuncId × Con) := [(127, spec_l31Code.con), (130, spec_l31Left.con), (132, spec_l31Far.con)]
def spec_NearestLeft.E : Env := envOf tab spec_NearestLeft.cs 0 false
def spec_NearestLeft.keep (i : Nat) : List Nat := if i = 9 then [1, 2, 3, 10, 11, 12] else []
def spec_NearestLeft.at9 (n : Nat) (x : (Int × Int × List Bool) × Int × Int) : Code × (Ex → St → Option ((Int × Int × Int))) := ctx spec_NearestLeft.E spec_NearestLeft.keep n [.snd, .snd, .snd, .snd, .snd, .snd, .fst, .snd, .blk] (codeOf Try.f69) (kEnd spec_NearestLeft.E Try.f69 spec_NearestLeft.con x)
def spec_NearestLeft.LN9 (n : Nat) (x : (Int × Int × List Bool) × Int × Int) : Nat → St → Option ((Int × Int × Int)) := loopN (exec spec_NearestLeft.E spec_NearestLeft.keep n (bodyOf (spec_NearestLeft.at9 n x).1)) (St.norm 0 (spec_NearestLeft.keep 9)) (spec_NearestLeft.at9 n x).2
set_option maxRecDepth 100000 in
theorem spec_NearestLeft.lem9 (n : Nat) (x : (Int × Int × List Bool) × Int × Int) : ∀ (k : Nat) (x1 : Int) (y2 : Int) (best11 : Int) (i12 : Int) (g3 : Int × Int × List Bool) (left10 : List Int), spec_NearestLeft.LN9 n x k (spec_NearestLeft.st9 x1 y2 best11 i12 g3 left10) = spec_NearestLeft.l9 n k x1 y2 best11 i12 g3 left10 := by
  intro k
  induction k with
  | zero => intro x1 y2 best11 i12 g3 left10; rfl
  | succ k ih =>
    intro x1 y2 best11 i12 g3 left10
    have h : spec_NearestLeft.LN9 n x (k + 1) (spec_NearestLeft.st9 x1 y2 best11 i12 g3 left10) = spec_NearestLeft.g9 (fun x1 y2 best11 i12 g3 left10 => spec_NearestLeft.LN9 n x k (spec_NearestLeft.st9 x1 y2 best11 i12 g3 left10)) x1 y2 best11 i12 g3 left10 := by kernel_rfl
    rw [h]
    simp only [ih]
    rfl
set_option maxRecDepth 100000 in
theorem spec_NearestLeft.body (n : Nat) (x : (Int × Int × List Bool) × Int × Int) : bodyF spec_NearestLeft.E spec_NearestLeft.keep n Try.f69 spec_NearestLeft.con x = spec_NearestLeft.fn n x.1 x.2.1 x.2.2 := by
  have h : bodyF spec_NearestLeft.E spec_NearestLeft.keep n Try.f69 spec_NearestLeft.con x = spec_NearestLeft.top (fun x1 y2 best11 i12 g3 left10 => spec_NearestLeft.LN9 n x n (spec_NearestLeft.st9 x1 y2 best11 i12 g3 left10)) x.1 x.2.1 x.2.2 := by kernel_rfl
  rw [h]
  simp only [spec_NearestLeft.lem9]
  rfl
set_option maxRecDepth 100000 in
theorem spec_NearestLeft.good : Good Try.prog 69 spec_NearestLeft.con :=
  good_of tabok (cs := spec_NearestLeft.cs) ⟨spec_l31Code.good, spec_l31Left.good, spec_l31Far.good, trivial⟩ 0 false (fn := Try.f69) Try.func69 rfl (by decide) (by simp [spec_NearestLeft.con]) spec_NearestLeft.keep NN (fun _ => rfl) (fun x => spec_NearestLeft.body NN x)
end
end Go.Ev.Try

namespace Go.Ev.Try
open Go.Proofs Go.Pl
set_option linter.unusedVariables false
noncomputable section
def spec_DrawSearchRow.topraw (code0 : List Int) : Option ((Int × Int × List Bool) × Int) :=
  (spec_l01From.f code0).bind fun r1 =>
  (spec_l31Draw.f r1).bind fun r2 =>
  agree (
    (spec_l01Next.f r2.2 (IntKind.i64.wrap (r2.1.2.1 + 1))).bind fun r3 =>
    (spec_l01Next.f r3.2 24).bind fun r4 =>
    some ((r2.1.1, (r2.1.2.1, r2.1.2.2)), IntKind.i64.wrap (r3.1 - (IntKind.i64.wrap (Int.tdiv r4.1 23))))
  ) (
    agree (
      (spec_l01Next.f r2.2 (IntKind.i64.wrap (r2.1.2.1 + 1))).bind fun r3 =>
      (spec_l01Next.f r3.2 24).bind fun r4 =>
      some ((r2.1.1, (r2.1.2.1, r2.1.2.2)), IntKind.i64.wrap (r3.1 - (IntKind.i64.wrap (Int.tdiv r4.1 23))))
    ) (
      (spec_l01Next.f r2.2 (IntKind.i64.wrap (r2.1.2.1 + 1))).bind fun r3 =>
      agree (
        (spec_l01Next.f r3.2 24).bind fun r4 =>
        some ((r2.1.1, (r2.1.2.1, r2.1.2.2)), IntKind.i64.wrap (r3.1 - (IntKind.i64.wrap (Int.tdiv r4.1 23))))
      ) (
        (spec_l01Next.f r3.2 24).bind fun r4 =>
        some ((r2.1.1, (r2.1.2.1, r2.1.2.2)), IntKind.i64.wrap (r3.1 - (IntKind.i64.wrap (Int.tdiv r4.1 23))))
      )
    )
  )
theorem spec_DrawSearchRow.topraw_eq (code0 : List Int) : spec_DrawSearchRow.topraw code0 = spec_DrawSearchRow.top code0 := by
  unfold spec_DrawSearchRow.topraw spec_DrawSearchRow.top
  simp only [agree_self]
def spec_DrawSearchRow.con : Con := { ps := [(.val, (.sl 5 (.int .u8)))], rs := [(.own, (.pair (.int .i64) (.pair (.int .i64) (.sl 4 .bool)))), (.own, (.int .i64))], F := fun x => spec_DrawSearchRow.f x }
def spec_DrawSearchRow.cs : List (FuncId × Con) := [(93, spec_l01From.con), (96, spec_l01Next.con), (124, spec_l31Draw.con)]
def spec_DrawSearchRow.E : Env := envOf tab spec_DrawSearchRow.cs 0 false
def spec_DrawSearchRow.keep (i : Nat) : List Nat := []
set_option maxRecDepth 100000 in
theorem spec_DrawSearchRow.body (n : Nat) (x : List Int) : bodyF spec_DrawSearchRow.E spec_DrawSearchRow.keep n Try.f70 spec_DrawSearchRow.con x = spec_DrawSearchRow.fn n x := by
  have h : bodyF spec_DrawSearchRow.E spec_DrawSearchRow.keep n Try.f70 spec_DrawSearchRow.con x = spec_DrawSearchRow.topraw x := by kernel_rfl
  rw [spec_DrawSearchRow.topraw_eq] at h
  exact h
set_option maxRecDepth 100000 in
theorem spec_DrawSearchRow.good : Good Try.prog 70 spec_DrawSearchRow.con :=
  good_of tabok (cs := spec_DrawSearchRow.cs) ⟨spec_l01From.good, spec_l01Next.good, spec_l31Draw.good, trivial⟩ 0 false (fn := Try.f70) Try.func70 rfl (by decide) (by simp [spec_DrawSearchRow.con]) spec_DrawSearchRow.keep NN (fun _ => rfl) (fun x => spec_DrawSearchRow.body NN x)
end
end Go.Ev.Try

namespace Go.Ev.Try
open Go.Proofs Go.Pl
set_option linter.unusedVariables false
noncomputable section
def impl_SearchRow.st7 (y1 : Int) (x7 : Int) (g2 : Int × Int × List Bool) (v4a : Int) (v4ba : Int) (out6a : Int) (out6ba : Int) (w3 : List Bool) (w4 : List Bool) : St := ⟨[.gone, .dat (.int .i64) y1, .ptr 0 [], .gone, .ptr 1 [], .gone, .ptr 2 [], .dat (.int .i64) x7, .gone, .gone, .gone, .gone, .gone, .gone, .gone, .gone, .gone, .gone, .gone, .gone, .gone, .gone, .gone, .gone, .gone, .gone, .gone, .gone, .gone, .gone, .gone, .gone, .gone, .gone, .gone], [.box 94 (.pair (.int .i64) (.pair (.int .i64) (.sl 4 .bool))) (.dat (.pair (.int .i64) (.pair (.int .i64) (.sl 4 .bool))) g2), .box 94 (.pair (.int .i64) (.pair (.int .i64) (.sl 4 .bool))) (.pr (.dat (.int .i64) v4a) (.pr (.dat (.int .i64) v4ba) (.ref 3))), .box 94 (.pair (.int .i64) (.pair (.int .i64) (.sl 4 .bool))) (.pr (.dat (.int .i64) out6a) (.pr (.dat (.int .i64) out6ba) (.ref 4))), .row 4 .bool w3 none, .row 4 .bool w4 none]⟩
def impl_SearchRow.con : Con := { ps := [(.val, (.pair (.int .i64) (.pair (.int .i64) (.sl 4 .bool)))), (.val, (.int .i64))], rs := [(.own, (.pair (.int .i64) (.pair (.int .i64) (.sl 4 .bool)))), (.own, (.int .i64))], F := fun x => impl_SearchRow.f x.1 x.2 }
def impl_SearchRow.cs : List (FuncId × Con) := [(75, impl_IsGrid.con), (125, impl_isCell.con), (126, impl_copyGrid.con)]
def impl_SearchRow.E : Env := envOf tab impl_SearchRow.cs 0 false
def impl_SearchRow.keep (i : Nat) : List Nat := if i = 7 then [1, 2, 4, 6, 7] else []
def impl_SearchRow.at7 (n : Nat) (x : (Int × Int × List Bool) × Int) : Code × (Ex → St → Option (((Int × Int × List Bool) × Int))) := ctx impl_SearchRow.E impl_SearchRow.keep n [.snd, .snd, .snd, .snd, .fst, .snd, .blk] (codeOf Try.f71) (kEnd impl_SearchRow.E Try.f71 impl_SearchRow.con x)
def impl_SearchRow.LN7 (n : Nat) (x : (Int × Int × List Bool) × Int) : Nat → St → Option (((Int × Int × List Bool) × Int)) := loopN (exec impl_SearchRow.E impl_SearchRow.keep n (bodyOf (impl_SearchRow.at7 n x).1)) (St.norm 0 (impl_SearchRow.keep 7)) (impl_SearchRow.at7 n x).2
set_option maxRecDepth 100000 in
theorem impl_SearchRow.lem7 (n : Nat) (x : (Int × Int × List Bool) × Int) : ∀ (k : Nat) (y1 : Int) (x7 : Int) (g2 : Int × Int × List Bool) (v4a : Int) (v4ba : Int) (out6a : Int) (out6ba : Int) (w3 : List Bool) (w4 : List Bool), impl_SearchRow.LN7 n x k (impl_SearchRow.st7 y1 x7 g2 v4a v4ba out6a out6ba w3 w4) = impl_SearchRow.l7 n k y1 x7 g2 v4a v4ba out6a out6ba w3 w4 := by
  intro k
  induction k with
  | zero => intro y1 x7 g2 v4a v4ba out6a out6ba w3 w4; rfl
  | succ k ih =>
    intro y1 x7 g2 v4a v4ba out6a out6ba w3 w4
    have h : impl_SearchRow.LN7 n x (k + 1) (impl_SearchRow.st7 y1 x7 g2 v4a v4ba out6a out6ba w3 w4) = impl_SearchRow.g7 (fun y1 x7 g2 v4a v4ba out6a out6ba w3 w4 => impl_SearchRow.LN7 n x k (impl_SearchRow.st7 y1 x7 g2 v4a v4ba out6a out6ba w3 w4)) y1 x7 g2 v4a v4ba out6a out6ba w3 w4 := by kernel_rfl
    rw [h]
    simp only [ih]
    rfl
set_option maxRecDepth 100000 in
theorem impl_SearchRow.body (n : Nat) (x : (Int × Int × List Bool) × Int) : bodyF impl_SearchRow.E impl_SearchRow.keep n Try.f71 impl_SearchRow.con x = impl_SearchRow.fn n x.1 x.2 := by
  have h : bodyF impl_SearchRow.E impl_SearchRow.keep n Try.f71 impl_SearchRow.con x = impl_SearchRow.top (fun y1 x7 g2 v4a v4ba out6a out6ba w3 w4 => impl_SearchRow.LN7 n x n (impl_SearchRow.st7 y1 x7 g2 v4a v4ba out6a out6ba w3 w4)) x.1 x.2 := by kernel_rfl
  rw [h]
  simp only [impl_SearchRow.lem7]
  rfl
set_option maxRecDepth 100000 in
theorem impl_SearchRow.good : Good Try.prog 71 impl_SearchRow.con :=
  good_of tabok (cs := impl_SearchRow.cs) ⟨impl_IsGrid.good, impl_isCell.good, impl_copyGrid.good, trivial⟩ 0 false (fn := Try.f71) Try.func71 rfl (by decide) (by simp [impl_SearchRow.con]) impl_SearchRow.keep NN (fun _ => rfl) (fun x => impl_SearchRow.body NN x)
end
end Go.Ev.Try

namespace Go.Ev.Try
open Go.Proofs Go.Pl
set_option linter.unusedVariables false
noncomputable section
def spec_SearchRow.st6 (y1 : Int) (x8 : Int) (g2 : Int × Int × List Bool) (v4a : Int) (v4ba : Int) (out7a : Int) (out7ba : Int) (w3 : List Bool) (w4 : List Bool) : St := ⟨[.gone, .dat (.int .i64) y1, .ptr 0 [], .gone, .ptr 1 [], .gone, .gone, .ptr 2 [], .dat (.int .i64) x8, .gone, .gone, .gone, .gone, .gone, .gone, .gone, .gone, .gone, .gone, .gone, .gone, .gone, .gone, .gone, .gone, .gone, .gone, .gone, .gone, .gone, .gone, .gone, .gone, .gone], [.box 94 (.pair (.int .i64) (.pair (.int .i64) (.sl 4 .bool))) (.dat (.pair (.int .i64) (.pair (.int .i64) (.sl 4 .bool))) g2), .box 94 (.pair (.int .i64) (.pair (.int .i64) (.sl 4 .bool))) (.pr (.dat (.int .i64) v4a) (.pr (.dat (.int .i64) v4ba) (.ref 3))), .box 94 (.pair (.int .i64) (.pair (.int .i64) (.sl 4 .bool))) (.pr (.dat (.int .i64) out7a) (.pr (.dat (.int .i64) out7ba) (.ref 4))), .row 4 .bool w3 none, .row 4 .bool w4 none]⟩
def spec_SearchRow.con : Con := { ps := [(.val, (.pair (.int .i64) (.pair (.int .i64) (.sl 4 .bool)))), (.val, (.int .i64))], rs := [(.own, (.pair (.int .i64) (.pair (.int .i64) (.sl 4 .bool)))), (.own, (.int .i64))], F := fun x => spec_SearchRow.f x.1 x.2 }
def spec_SearchRow.cs : List (FuncId × Con) := [(127, spec_l31Code.con), (128, spec_l31Own.con)]
def spec_SearchRow.E : Env := envOf tab spec_SearchRow.cs 0 false
def spec_SearchRow.keep (i : Nat) : List Nat := if i = 6 then [1, 2, 4, 7, 8] else []
def spec_SearchRow.at6 (n : Nat) (x : (Int × Int × List Bool) × Int) : Code × (Ex → St → Option (((Int × Int × List Bool) × Int))) := ctx spec_SearchRow.E spec_SearchRow.keep n [.snd, .snd, .snd, .snd, .fst, .snd, .blk] (codeOf Try.f72) (kEnd spec_SearchRow.E Try.f72 spec_SearchRow.con x)
def spec_SearchRow.LN6 (n : Nat) (x : (Int × Int × List Bool) × Int) : Nat → St → Option (((Int × Int × List Bool) × Int)) := loopN (exec spec_SearchRow.E spec_SearchRow.keep n (bodyOf (spec_SearchRow.at6 n x).1)) (St.norm 0 (spec_SearchRow.keep 6)) (spec_SearchRow.at6 n x).2
set_option maxRecDepth 100000 in
theorem spec_SearchRow.lem6 (n : Nat) (x : (Int × Int × List Bool) × Int) : ∀ (k : Nat) (y1 : Int) (x8 : Int) (g2 : Int × Int × List Bool) (v4a : Int) (v4ba : Int) (out7a : Int) (out7ba : Int) (w3 : List Bool) (w4 : List Bool), spec_SearchRow.LN6 n x k (spec_SearchRow.st6 y1 x8 g2 v4a v4ba out7a out7ba w3 w4) = spec_SearchRow.l6 n k y1 x8 g2 v4a v4ba out7a out7ba w3 w4 := by
  intro k
  induction k with
  | zero => intro y1 x8 g2 v4a v4ba out7a out7ba w3 w4; rfl
  | succ k ih =>
    intro y1 x8 g2 v4a v4ba out7a out7ba w3 w4
    have h : spec_SearchRow.LN6 n x (k + 1) (spec_SearchRow.st6 y1 x8 g2 v4a v4ba out7a out7ba w3 w4) = spec_SearchRow.g6 (fun y1 x8 g2 v4a v4ba out7a out7ba w3 w4 => spec_SearchRow.LN6 n x k (spec_SearchRow.st6 y1 x8 g2 v4a v4ba out7a out7ba w3 w4)) y1 x8 g2 v4a v4ba out7a out7ba w3 w4 := by kernel_rfl
    rw [h]
    simp only [ih]
    rfl
set_option maxRecDepth 100000 in
theorem spec_SearchRow.body (n : Nat) (x : (Int × Int × List Bool) × Int) : bodyF spec_SearchRow.E spec_SearchRow.keep n Try.f72 spec_SearchRow.con x = spec_SearchRow.fn n x.1 x.2 := by
  have h : bodyF spec_SearchRow.E spec_SearchRow.keep n Try.f72 spec_SearchRow.con x = spec_SearchRow.top (fun y1 x8 g2 v4a v4ba out7a out7ba w3 w4 => spec_SearchRow.LN6 n x n (spec_SearchRow.st6 y1 x8 g2 v4a v4ba out7a out7ba w3 w4)) x.1 x.2 := by kernel_rfl
  rw [h]
  simp only [spec_SearchRow.lem6]
  rfl
set_option maxRecDepth 100000 in
theorem spec_SearchRow.good : Good Try.prog 72 spec_SearchRow.con :=
  good_of tabok (cs := spec_SearchRow.cs) ⟨spec_l31Code.good, spec_l31Own.good, trivial⟩ 0 false (fn := Try.f72) Try.func72 rfl (by decide) (by simp [spec_SearchRow.con]) spec_SearchRow.keep NN (fun _ => rfl) (fun x => spec_SearchRow.body NN x)
end
end Go.Ev.Try

namespace Go.Ev.Try
open Go.Proofs Go.Pl
set_option linter.unusedVariables false
noncomputable section
def laws_likeBools.st4 (a0 : List Bool) (b1 : List Bool) (i5 : Int) : St := ⟨[.dat (.sl 4 .bool) a0, .dat (.sl 4 .bool) b1, .gone, .gone, .gone, .dat (.int .i64) i5, .gone, .gone, .gone, .gone, .gone, .gone, .gone, .gone, .gone, .gone, .gone, .gone, .gone, .gone, .gone, .gone, .gone, .gone, .gone, .gone], []⟩
def laws_likeBools.con : Con := { ps := [(.val, (.sl 4 .bool)), (.val, (.sl 4 .bool))], rs := [(.val, .bool)], F := fun x => laws_likeBools.f x.1 x.2 }
def laws_likeBools.cs : List (FuncId × Con) := []
def laws_likeBools.E : Env := envOf tab laws_likeBools.cs 0 false
def laws_likeBools.keep (i : Nat) : List Nat := if i = 4 then [0, 1, 5] else []
def laws_likeBools.at4 (n : Nat) (x : List Bool × List Bool) : Code × (Ex → St → Option (Bool)) := ctx laws_likeBools.E laws_likeBools.keep n [.snd, .snd, .fst, .snd, .blk] (codeOf Try.f133) (kEnd laws_likeBools.E Try.f133 laws_likeBools.con x)
def laws_likeBools.LN4 (n : Nat) (x : List Bool × List Bool) : Nat → St → Option (Bool) := loopN (exec laws_likeBools.E laws_likeBools.keep n (bodyOf (laws_likeBools.at4 n x).1)) (St.norm 0 (laws_likeBools.keep 4)) (laws_likeBools.at4 n x).2
set_option maxRecDepth 100000 in
theorem laws_likeBools.lem4 (n : Nat) (x : List Bool × List Bool) : ∀ (k : Nat) (a0 : List Bool) (b1 : List Bool) (i5 : Int), laws_likeBools.LN4 n x k (laws_likeBools.st4 a0 b1 i5) = laws_likeBools.l4 n k a0 b1 i5 := by
  intro k
  induction k with
  | zero => intro a0 b1 i5; rfl
  | succ k ih =>
    intro a0 b1 i5
    have h : laws_likeBools.LN4 n x (k + 1) (laws_likeBools.st4 a0 b1 i5) = laws_likeBools.g4 (fun a0 b1 i5 => laws_likeBools.LN4 n x k (laws_likeBools.st4 a0 b1 i5)) a0 b1 i5 := by kernel_rfl
    rw [h]
    simp only [ih]
    rfl
set_option maxRecDepth 100000 in
theorem laws_likeBools.body (n : Nat) (x : List Bool × List Bool) : bodyF laws_likeBools.E laws_likeBools.keep n Try.f133 laws_likeBools.con x = laws_likeBools.fn n x.1 x.2 := by
  have h : bodyF laws_likeBools.E laws_likeBools.keep n Try.f133 laws_likeBools.con x = laws_likeBools.top (fun a0 b1 i5 => laws_likeBools.LN4 n x n (laws_likeBools.st4 a0 b1 i5)) x.1 x.2 := by kernel_rfl
  rw [h]
  simp only [laws_likeBools.lem4]
  rfl
set_option maxRecDepth 100000 in
theorem laws_likeBools.good : Good Try.prog 133 laws_likeBools.con :=
  good_of tabok (cs := laws_likeBools.cs) trivial 0 false (fn := Try.f133) Try.func133 rfl (by decide) (by simp [laws_likeBools.con]) laws_likeBools.keep NN (fun _ => rfl) (fun x => laws_likeBools.body NN x)
end
end Go.Ev.Try

namespace Go.Ev.Try
open Go.Proofs Go.Pl
set_option linter.unusedVariables false
noncomputable section
def laws_likeGrid.con : Con := { ps := [(.val, (.pair (.int .i64) (.pair (.int .i64) (.sl 4 .bool)))), (.val, (.pair (.int .i64) (.pair (.int .i64) (.sl 4 .bool))))], rs := [(.val, .bool)], F := fun x => laws_likeGrid.f x.1 x.2 }
def laws_likeGrid.cs : List (FuncId × Con) := [(133, laws_likeBools.con)]
def laws_likeGrid.E : Env := envOf tab laws_likeGrid.cs 0 false
def laws_likeGrid.keep (i : Nat) : List Nat := []
set_option maxRecDepth 100000 in
theorem laws_likeGrid.body (n : Nat) (x : (Int × Int × List Bool) × Int × Int × List Bool) : bodyF laws_likeGrid.E laws_likeGrid.keep n Try.f73 laws_likeGrid.con x = laws_likeGrid.fn n x.1 x.2 := by
  have h : bodyF laws_likeGrid.E laws_likeGrid.keep n Try.f73 laws_likeGrid.con x = laws_likeGrid.top x.1 x.2 := by kernel_rfl
  exact h
set_option maxRecDepth 100000 in
theorem laws_likeGrid.good : Good Try.prog 73 laws_likeGrid.con :=
  good_of tabok (cs := laws_likeGrid.cs) ⟨laws_likeBools.good, trivial⟩ 0 false (fn := Try.f73) Try.func73 rfl (by decide) (by simp [laws_likeGrid.con]) laws_likeGrid.keep NN (fun _ => rfl) (fun x => laws_likeGrid.body NN x)
end
end Go.Ev.Try

namespace Go.Ev.Try
open Go.Proofs Go.Pl
set_option linter.unusedVariables false
noncomputable section
def laws_likeInts.st4 (a0 : List Int) (b1 : List Int) (i5 : Int) : St := ⟨[.dat (.sl 2 (.int .i64)) a0, .dat (.sl 2 (.int .i64)) b1, .gone, .gone, .gone, .dat (.int .i64) i5, .gone, .gone, .gone, .gone, .gone, .gone, .gone, .gone, .gone, .gone, .gone, .gone, .gone, .gone, .gone, .gone, .gone, .gone, .gone, .gone], []⟩
def laws_likeInts.con : Con := { ps := [(.val, (.sl 2 (.int .i64))), (.val, (.sl 2 (.int .i64)))], rs := [(.val, .bool)], F := fun x => laws_likeInts.f x.1 x.2 }
def laws_likeInts.cs : List (FuncId × Con) := []
def laws_likeInts.E : Env := envOf tab laws_likeInts.cs 0 false
def laws_likeInts.keep (i : Nat) : List Nat := if i = 4 then [0, 1, 5] else []
def laws_likeInts.at4 (n : Nat) (x : List Int × List Int) : Code × (Ex → St → Option (Bool)) := ctx laws_likeInts.E laws_likeInts.keep n [.snd, .snd, .fst, .snd, .blk] (codeOf Try.f74) (kEnd laws_likeInts.E Try.f74 laws_likeInts.con x)
def laws_likeInts.LN4 (n : Nat) (x : List Int × List Int) : Nat → St → Option (Bool) := loopN (exec laws_likeInts.E laws_likeInts.keep n (bodyOf (laws_likeInts.at4 n x).1)) (St.norm 0 (laws_likeInts.keep 4)) (laws_likeInts.at4 n x).2
set_option maxRecDepth 100000 in
theorem laws_likeInts.lem4 (n : Nat) (x : List Int × List Int) : ∀ (k : Nat) (a0 : List Int) (b1 : List Int) (i5 : Int), laws_likeInts.LN4 n x k (laws_likeInts.st4 a0 b1 i5) = laws_likeInts.l4 n k a0 b1 i5 := by
  intro k
  induction k with
  | zero => intro a0 b1 i5; rfl
  | succ k ih =>
    intro a0 b1 i5
    have h : laws_likeInts.LN4 n x (k + 1) (laws_likeInts.st4 a0 b1 i5) = laws_likeInts.g4 (fun a0 b1 i5 => laws_likeInts.LN4 n x k (laws_likeInts.st4 a0 b1 i5)) a0 b1 i5 := by kernel_rfl
    rw [h]
    simp only [ih]
    rfl
set_option maxRecDepth 100000 in
theorem laws_likeInts.body (n : Nat) (x : List Int × List Int) : bodyF laws_likeInts.E laws_likeInts.keep n Try.f74 laws_likeInts.con x = laws_likeInts.fn n x.1 x.2 := by
  have h : bodyF laws_likeInts.E laws_likeInts.keep n Try.f74 laws_likeInts.con x = laws_likeInts.top (fun a0 b1 i5 => laws_likeInts.LN4 n x n (laws_likeInts.st4 a0 b1 i5)) x.1 x.2 := by kernel_rfl
  rw [h]
  simp only [laws_likeInts.lem4]
  rfl
set_option maxRecDepth 100000 in
theorem laws_likeInts.good : Good Try.prog 74 laws_likeInts.con :=
  good_of tabok (cs := laws_likeInts.cs) trivial 0 false (fn := Try.f74) Try.func74 rfl (by decide) (by simp [laws_likeInts.con]) laws_likeInts.keep NN (fun _ => rfl) (fun x => laws_likeInts.body NN x)
end
end Go.Ev.Try

namespace Go.Ev.Try
open Go.Proofs Go.Pl
set_option linter.unusedVariables false
noncomputable section
def impl_allWithin.st2 (low1 : Int) (high2 : Int) (v9 : List Int) (v10 : Int) (v11 : Int) : St := ⟨[.gone, .dat (.int .i64) low1, .dat (.int .i64) high2, .gone, .gone, .gone, .gone, .gone, .gone, .dat (.sl 2 (.int .i64)) v9, .dat (.int .i64) v10, .dat (.int .i64) v11, .gone, .gone, .gone, .gone, .gone, .gone, .gone, .gone, .gone], []⟩
def impl_allWithin.con : Con := { ps := [(.val, (.sl 2 (.int .i64))), (.val, (.int .i64)), (.val, (.int .i64))], rs := [(.val, .bool)], F := fun x => impl_allWithin.f x.1 x.2.1 x.2.2 }
def impl_allWithin.cs : List (FuncId × Con) := [(90, impl_within.con)]
def impl_allWithin.E : Env := envOf tab impl_allWithin.cs 0 false
def impl_allWithin.keep (i : Nat) : List Nat := if i = 2 then [1, 2, 9, 10, 11] else []
def impl_allWithin.at2 (n : Nat) (x : List Int × Int × Int) : Code × (Ex → St → Option (Bool)) := ctx impl_allWithin.E impl_allWithin.keep n [.snd, .fst, .snd, .blk] (codeOf Try.f157) (kEnd impl_allWithin.E Try.f157 impl_allWithin.con x)
def impl_allWithin.LN2 (n : Nat) (x : List Int × Int × Int) : Nat → St → Option (Bool) := loopN (exec impl_allWithin.E impl_allWithin.keep n (bodyOf (impl_allWithin.at2 n x).1)) (St.norm 0 (impl_allWithin.keep 2)) (impl_allWithin.at2 n x).2
set_option maxRecDepth 100000 in
theorem impl_allWithin.lem2 (n : Nat) (x : List Int × Int × Int) : ∀ (k : Nat) (low1 : Int) (high2 : Int) (v9 : List Int) (v10 : Int) (v11 : Int), impl_allWithin.LN2 n x k (impl_allWithin.st2 low1 high2 v9 v10 v11) = impl_allWithin.l2 n k low1 high2 v9 v10 v11 := by
  intro k
  induction k with
  | zero => intro low1 high2 v9 v10 v11; rfl
  | succ k ih =>
    intro low1 high2 v9 v10 v11
    have h : impl_allWithin.LN2 n x (k + 1) (impl_allWithin.st2 low1 high2 v9 v10 v11) = impl_allWithin.g2 (fun low1 high2 v9 v10 v11 => impl_allWithin.LN2 n x k (impl_allWithin.st2 low1 high2 v9 v10 v11)) low1 high2 v9 v10 v11 := by kernel_rfl
    rw [h]
    simp only [ih]
    rfl
set_option maxRecDepth 100000 in
theorem impl_allWithin.body (n : Nat) (x : List Int × Int × Int) : bodyF impl_allWithin.E impl_allWithin.keep n Try.f157 impl_allWithin.con x = impl_allWithin.fn n x.1 x.2.1 x.2.2 := by
  have h : bodyF impl_allWithin.E impl_allWithin.keep n Try.f157 impl_allWithin.con x = impl_allWithin.top (fun low1 high2 v9 v10 v11 => impl_allWithin.LN2 n x n (impl_allWithin.st2 low1 high2 v9 v10 v11)) x.1 x.2.1 x.2.2 := by kernel_rfl
  rw [h]
  simp only [impl_allWithin.lem2]
  rfl
set_option maxRecDepth 100000 in
theorem impl_allWithin.good : Good Try.prog 157 impl_allWithin.con :=
  good_of tabok (cs := impl_allWithin.cs) ⟨impl_within.good, trivial⟩ 0 false (fn := Try.f157) Try.func157 rfl (by decide) (by simp [impl_allWithin.con]) impl_allWithin.keep NN (fun _ => rfl) (fun x => impl_allWithin.body NN x)
end
end Go.Ev.Try

namespace Go.Ev.Try
open Go.Proofs Go.Pl
set_option linter.unusedVariables false
noncomputable section
def impl_areCells.con : Con := { ps := [(.val, (.pair (.int .i64) (.pair (.int .i64) (.sl 4 .bool)))), (.val, (.sl 2 (.int .i64)))], rs := [(.val, .bool)], F := fun x => impl_areCells.f x.1 x.2 }
def impl_areCells.cs : List (FuncId × Con) := [(157, impl_allWithin.con)]
def impl_areCells.E : Env := envOf tab impl_areCells.cs 0 false
def impl_areCells.keep (i : Nat) : List Nat := []
set_option maxRecDepth 100000 in
theorem impl_areCells.body (n : Nat) (x : (Int × Int × List Bool) × List Int) : bodyF impl_areCells.E impl_areCells.keep n Try.f134 impl_areCells.con x = impl_areCells.fn n x.1 x.2 := by
  have h : bodyF impl_areCells.E impl_areCells.keep n Try.f134 impl_areCells.con x = impl_areCells.top x.1 x.2 := by kernel_rfl
  exact h
set_option maxRecDepth 100000 in
theorem impl_areCells.good : Good Try.prog 134 impl_areCells.con :=
  good_of tabok (cs := impl_areCells.cs) ⟨impl_allWithin.good, trivial⟩ 0 false (fn := Try.f134) Try.func134 rfl (by decide) (by simp [impl_areCells.con]) impl_areCells.keep NN (fun _ => rfl) (fun x => impl_areCells.body NN x)
end
end Go.Ev.Try

namespace Go.Ev.Try
open Go.Proofs Go.Pl
set_option linter.unusedVariables false
noncomputable section
def impl_WalkLength.st7 (cells1 : List Int) (sum6 : Int) (i7 : Int) (g2 : Int × Int × List Bool) : St := ⟨[.gone, .dat (.sl 2 (.int .i64)) cells1, .ptr 0 [], .gone, .gone, .gone, .dat (.int .i64) sum6, .dat (.int .i64) i7, .gone, .gone, .gone, .gone, .gone, .gone, .gone, .gone, .gone, .gone, .gone, .gone, .gone, .gone, .gone, .gone, .gone, .gone, .gone, .gone, .gone, .gone, .gone, .gone, .gone, .gone, .gone], [.box 94 (.pair (.int .i64) (.pair (.int .i64) (.sl 4 .bool))) (.dat (.pair (.int .i64) (.pair (.int .i64) (.sl 4 .bool))) g2)]⟩
def impl_WalkLength.con : Con := { ps := [(.val, (.pair (.int .i64) (.pair (.int .i64) (.sl 4 .bool)))), (.val, (.sl 2 (.int .i64)))], rs := [(.val, (.int .i64)), (.val, (.int .i64))], F := fun x => impl_WalkLength.f x.1 x.2 }
def impl_WalkLength.cs : List (FuncId × Con) := [(75, impl_IsGrid.con), (131, impl_distanceOf.con), (134, impl_areCells.con)]
def impl_WalkLength.E : Env := envOf tab impl_WalkLength.cs 0 false
def impl_WalkLength.keep (i : Nat) : List Nat := if i = 7 then [1, 2, 6, 7] else []
def impl_WalkLength.at7 (n : Nat) (x : (Int × Int × List Bool) × List Int) : Code × (Ex → St → Option ((Int × Int))) := ctx impl_WalkLength.E impl_WalkLength.keep n [.snd, .snd, .snd, .snd, .fst, .snd, .blk] (codeOf Try.f76) (kEnd impl_WalkLength.E Try.f76 impl_WalkLength.con x)
def impl_WalkLength.LN7 (n : Nat) (x : (Int × Int × List Bool) × List Int) : Nat → St → Option ((Int × Int)) := loopN (exec impl_WalkLength.E impl_WalkLength.keep n (bodyOf (impl_WalkLength.at7 n x).1)) (St.norm 0 (impl_WalkLength.keep 7)) (impl_WalkLength.at7 n x).2
set_option maxRecDepth 100000 in
theorem impl_WalkLength.lem7 (n : Nat) (x : (Int × Int × List Bool) × List Int) : ∀ (k : Nat) (cells1 : List Int) (sum6 : Int) (i7 : Int) (g2 : Int × Int × List Bool), impl_WalkLength.LN7 n x k (impl_WalkLength.st7 cells1 sum6 i7 g2) = impl_WalkLength.l7 n k cells1 sum6 i7 g2 := by
  intro k
  induction k with
  | zero => intro cells1 sum6 i7 g2; rfl
  | succ k ih =>
    intro cells1 sum6 i7 g2
    have h : impl_WalkLength.LN7 n x (k + 1) (impl_WalkLength.st7 cells1 sum6 i7 g2) = impl_WalkLength.g7 (fun cells1 sum6 i7 g2 => impl_WalkLength.LN7 n x k (impl_WalkLength.st7 cells1 sum6 i7 g2)) cells1 sum6 i7 g2 := by kernel_rfl
    rw [h]
    simp only [ih]
    rfl
set_option maxRecDepth 100000 in
theorem impl_WalkLength.body (n : Nat) (x : (Int × Int × List Bool) × List Int) : bodyF impl_WalkLength.E impl_WalkLength.keep n Try.f76 impl_WalkLength.con x = impl_WalkLength.fn n x.1 x.2 := by
  have h : bodyF impl_WalkLength.E impl_WalkLength.keep n Try.f76 impl_WalkLength.con x = impl_WalkLength.top (fun cells1 sum6 i7 g2 => impl_WalkLength.LN7 n x n (impl_WalkLength.st7 cells1 sum6 i7 g2)) x.1 x.2 := by kernel_rfl
  rw [h]
  simp only [impl_WalkLength.lem7]
  rfl
set_option maxRecDepth 100000 in
theorem impl_WalkLength.good : Good Try.prog 76 impl_WalkLength.con :=
  good_of tabok (cs := impl_WalkLength.cs) ⟨impl_IsGrid.good, impl_distanceOf.good, impl_areCells.good, trivial⟩ 0 false (fn := Try.f76) Try.func76 rfl (by decide) (by simp [impl_WalkLength.con]) impl_WalkLength.keep NN (fun _ => rfl) (fun x => impl_WalkLength.body NN x)
end
end Go.Ev.Try

namespace Go.Ev.Try
open Go.Proofs Go.Pl
set_option linter.unusedVariables false
noncomputable section
def laws_hasInt.st2 (list0 : List Int) (x1 : Int) (i5 : Int) : St := ⟨[.dat (.sl 2 (.int .i64)) list0, .dat (.int .i64) x1, .gone, .gone, .gone, .dat (.int .i64) i5, .gone, .gone, .gone, .gone, .gone, .gone, .gone, .gone, .gone, .gone, .gone, .gone], []⟩
def laws_hasInt.con : Con := { ps := [(.val, (.sl 2 (.int .i64))), (.val, (.int .i64))], rs := [(.val, .bool)], F := fun x => laws_hasInt.f x.1 x.2 }
def laws_hasInt.cs : List (FuncId × Con) := []
def laws_hasInt.E : Env := envOf tab laws_hasInt.cs 0 false
def laws_hasInt.keep (i : Nat) : List Nat := if i = 2 then [0, 1, 5] else []
def laws_hasInt.at2 (n : Nat) (x : List Int × Int) : Code × (Ex → St → Option (Bool)) := ctx laws_hasInt.E laws_hasInt.keep n [.snd, .fst, .snd, .blk] (codeOf Try.f77) (kEnd laws_hasInt.E Try.f77 laws_hasInt.con x)
def laws_hasInt.LN2 (n : Nat) (x : List Int × Int) : Nat → St → Option (Bool) := loopN (exec laws_hasInt.E laws_hasInt.keep n (bodyOf (laws_hasInt.at2 n x).1)) (St.norm 0 (laws_hasInt.keep 2)) (laws_hasInt.at2 n x).2
set_option maxRecDepth 100000 in
theorem laws_hasInt.lem2 (n : Nat) (x : List Int × Int) : ∀ (k : Nat) (list0 : List Int) (x1 : Int) (i5 : Int), laws_hasInt.LN2 n x k (laws_hasInt.st2 list0 x1 i5) = laws_hasInt.l2 n k list0 x1 i5 := by
  intro k
  induction k with
  | zero => intro list0 x1 i5; rfl
  | succ k ih =>
    intro list0 x1 i5
    have h : laws_hasInt.LN2 n x (k + 1) (laws_hasInt.st2 list0 x1 i5) = laws_hasInt.g2 (fun list0 x1 i5 => laws_hasInt.LN2 n x k (laws_hasInt.st2 list0 x1 i5)) list0 x1 i5 := by kernel_rfl
    rw [h]
    simp only [ih]
    rfl
set_option maxRecDepth 100000 in
theorem laws_hasInt.body (n : Nat) (x : List Int × Int) : bodyF laws_hasInt.E laws_hasInt.keep n Try.f77 laws_hasInt.con x = laws_hasInt.fn n x.1 x.2 := by
  have h : bodyF laws_hasInt.E laws_hasInt.keep n Try.f77 laws_hasInt.con x = laws_hasInt.top (fun list0 x1 i5 => laws_hasInt.LN2 n x n (laws_hasInt.st2 list0 x1 i5)) x.1 x.2 := by kernel_rfl
  rw [h]
  simp only [laws_hasInt.lem2]
  rfl
set_option maxRecDepth 100000 in
theorem laws_hasInt.good : Good Try.prog 77 laws_hasInt.con :=
  good_of tabok (cs := laws_hasInt.cs) trivial 0 false (fn := Try.f77) Try.func77 rfl (by decide) (by simp [laws_hasInt.con]) laws_hasInt.keep NN (fun _ => rfl) (fun x => laws_hasInt.body NN x)
end
end Go.Ev.Try
