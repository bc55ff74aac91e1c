/- Part 2 of what the law FnMerged stands on: an evaluator of the model's code, proved sound; the functions as plain texts; their contracts. -/
import Derived.Test.YtgddpcjbjkbpcaaChecked
import Derived.Test.YtgddpcjbjkbpcaaProg
import Derived.Test.YtgddpcjbjkbpcaaRows
import Derived.Below
import Derived.Calls
import Derived.Carry
import Derived.ChangeArms
import Derived.ChangeKeysEq
import Derived.ChangeOld
import Derived.Deep.Quiet
import Derived.KernelRfl
import Derived.Laws.Append
import Derived.Laws.BytesString
import Derived.Laws.MakeOwn
import Derived.Laws.Strings
import Derived.Laws.StructEq
import Derived.OpenShut
import Derived.OrdersHeld
import Derived.ProofKit
import Derived.ShutString
import Derived.SizedLaws
import Derived.Tactics
import Derived.WalkKit
import Derived.WideShapes
import Derived.Test.YtgddpcjbjkbpcaaEvMerged1
namespace Go.Ev.Try
open Go.Proofs Go.Pl
set_option linter.unusedVariables false
noncomputable section
def spec_l29Good.st4 (i5 : Int) (s0 : List Int × Int × Int) (v2a : ByteArray) (v2ba : Int) (p3a : ByteArray) (p3ba : Int) (names4 : List ByteArray) (w4 : List (ByteArray × Int)) (w5 : List (ByteArray × Int)) : St := ⟨[.ptr 0 [], .gone, .ptr 1 [], .ptr 2 [], .ref 3, .dat (.int .i64) i5, .gone, .gone, .gone, .gone, .gone, .gone, .gone, .gone, .gone, .gone, .gone, .gone, .gone, .gone, .gone, .gone, .gone, .gone, .gone, .gone, .gone, .gone, .gone, .gone, .gone, .gone, .gone, .gone, .gone, .gone, .gone, .gone, .gone], [.box 158 (.pair (.sl 5 (.int .u8)) (.pair (.int .i64) (.int .i64))) (.dat (.pair (.sl 5 (.int .u8)) (.pair (.int .i64) (.int .i64))) s0), .box 47 (.pair .str (.pair (.int .i64) (.sl 82 (.pair .str (.int .i64))))) (.pr (.dat .str v2a) (.pr (.dat (.int .i64) v2ba) (.ref 4))), .box 47 (.pair .str (.pair (.int .i64) (.sl 82 (.pair .str (.int .i64))))) (.pr (.dat .str p3a) (.pr (.dat (.int .i64) p3ba) (.ref 5))), .row 9 .str names4 none, .row 82 (.pair .str (.int .i64)) w4 none, .row 82 (.pair .str (.int .i64)) w5 none]⟩
def spec_l29Good.g4raw (L4 : Int → (List Int × Int × Int) → ByteArray → Int → ByteArray → Int → List ByteArray → (List (ByteArray × Int)) → (List (ByteArray × Int)) → Option ((ByteArray × Int × List (ByteArray × Int)) × List Int × Int × Int)) (i5 : Int) (s0 : List Int × Int × Int) (v2a : ByteArray) (v2ba : Int) (p3a : ByteArray) (p3ba : Int) (names4 : List ByteArray) (w4 : List (ByteArray × Int)) (w5 : List (ByteArray × Int)) : Option ((ByteArray × Int × List (ByteArray × Int)) × List Int × Int × Int) :=
  if (decide ((i5 : Int) < (names4.length : Int))) = true then
    (spec_l01Next.f s0 2).bind fun r4 =>
    if ((r4.1 : Int) == 0) = true then
      if (0 : Int) ≤ i5 ∧ (i5 : Int) < names4.length then
        agree (
          agree (
            (spec_l01Next.f r4.2 20).bind fun r5 =>
            if w5.length + ([(names4.getD (i5 : Int).toNat ByteArray.empty, IntKind.i64.wrap (1 + r5.1))]).length < room 24 then
              L4 (IntKind.i64.wrap (i5 + 1)) r5.2 v2a v2ba p3a p3ba names4 w4 (w5 ++ ([(names4.getD (i5 : Int).toNat ByteArray.empty, IntKind.i64.wrap (1 + r5.1))]))
            else
              none
          ) (
            (spec_l01Next.f r4.2 20).bind fun r5 =>
            if w5.length + ([(names4.getD (i5 : Int).toNat ByteArray.empty, IntKind.i64.wrap (1 + r5.1))]).length < room 24 then
              L4 (IntKind.i64.wrap (i5 + 1)) r5.2 v2a v2ba p3a p3ba names4 w4 (w5 ++ ([(names4.getD (i5 : Int).toNat ByteArray.empty, IntKind.i64.wrap (1 + r5.1))]))
            else
              none
          )
        ) (
          agree (
            agree (
              (spec_l01Next.f r4.2 20).bind fun r5 =>
              if w5.length + ([(names4.getD (i5 : Int).toNat ByteArray.empty, IntKind.i64.wrap (1 + r5.1))]).length < room 24 then
                L4 (IntKind.i64.wrap (i5 + 1)) r5.2 v2a v2ba p3a p3ba names4 w4 (w5 ++ ([(names4.getD (i5 : Int).toNat ByteArray.empty, IntKind.i64.wrap (1 + r5.1))]))
              else
                none
            ) (
              (spec_l01Next.f r4.2 20).bind fun r5 =>
              if w5.length + ([(names4.getD (i5 : Int).toNat ByteArray.empty, IntKind.i64.wrap (1 + r5.1))]).length < room 24 then
                L4 (IntKind.i64.wrap (i5 + 1)) r5.2 v2a v2ba p3a p3ba names4 w4 (w5 ++ ([(names4.getD (i5 : Int).toNat ByteArray.empty, IntKind.i64.wrap (1 + r5.1))]))
              else
                none
            )
          ) (
            (spec_l01Next.f r4.2 20).bind fun r5 =>
            if w5.length + ([(names4.getD (i5 : Int).toNat ByteArray.empty, IntKind.i64.wrap (1 + r5.1))]).length < room 24 then
              L4 (IntKind.i64.wrap (i5 + 1)) r5.2 v2a v2ba p3a p3ba names4 w4 (w5 ++ ([(names4.getD (i5 : Int).toNat ByteArray.empty, IntKind.i64.wrap (1 + r5.1))]))
            else
              none
          )
        )
      else
        none
    else
      L4 (IntKind.i64.wrap (i5 + 1)) r4.2 v2a v2ba p3a p3ba names4 w4 w5
  else
    some ((p3a, (p3ba, w5)), s0)
theorem spec_l29Good.g4raw_eq (L4 : Int → (List Int × Int × Int) → ByteArray → Int → ByteArray → Int → List ByteArray → (List (ByteArray × Int)) → (List (ByteArray × Int)) → Option ((ByteArray × Int × List (ByteArray × Int)) × List Int × Int × Int)) (i5 : Int) (s0 : List Int × Int × Int) (v2a : ByteArray) (v2ba : Int) (p3a : ByteArray) (p3ba : Int) (names4 : List ByteArray) (w4 : List (ByteArray × Int)) (w5 : List (ByteArray × Int)) : spec_l29Good.g4raw L4 i5 s0 v2a v2ba p3a p3ba names4 w4 w5 = spec_l29Good.g4 L4 i5 s0 v2a v2ba p3a p3ba names4 w4 w5 := by
  unfold spec_l29Good.g4raw spec_l29Good.g4
  simp only [agree_self]
def spec_l29Good.topraw (I4 : Int → (List Int × Int × Int) → ByteArray → Int → ByteArray → Int → List ByteArray → (List (ByteArray × Int)) → (List (ByteArray × Int)) → Option ((ByteArray × Int × List (ByteArray × Int)) × List Int × Int × Int)) (s0 : List Int × Int × Int) : Option ((ByteArray × Int × List (ByteArray × Int)) × List Int × Int × Int) :=
  agree (
    agree (
      (spec_l01Next.f s0 2).bind fun r1 =>
      if (0 : Int) ≤ r1.1 ∧ (r1.1 : Int) < ([(⟨#[118, 97, 110]⟩ : ByteArray), (⟨#[116, 114, 117, 99, 107]⟩ : ByteArray)]).length then
        agree (
          agree (
            (spec_l01Next.f r1.2 1000).bind fun r2 =>
            agree (
              (spec_l03Names.f).bind fun r3 =>
              I4 0 r2.2 ByteArray.empty 0 (([(⟨#[118, 97, 110]⟩ : ByteArray), (⟨#[116, 114, 117, 99, 107]⟩ : ByteArray)]).getD (r1.1 : Int).toNat ByteArray.empty) r2.1 r3 [] []
            ) (
              (spec_l03Names.f).bind fun r3 =>
              I4 0 r2.2 ByteArray.empty 0 (([(⟨#[118, 97, 110]⟩ : ByteArray), (⟨#[116, 114, 117, 99, 107]⟩ : ByteArray)]).getD (r1.1 : Int).toNat ByteArray.empty) r2.1 r3 [] []
            )
          ) (
            agree (
              agree (
                (spec_l01Next.f r1.2 1000).bind fun r2 =>
                (spec_l03Names.f).bind fun r3 =>
                I4 0 r2.2 ByteArray.empty 0 (([(⟨#[118, 97, 110]⟩ : ByteArray), (⟨#[116, 114, 117, 99, 107]⟩ : ByteArray)]).getD (r1.1 : Int).toNat ByteArray.empty) r2.1 r3 [] []
              ) (
                (spec_l01Next.f r1.2 1000).bind fun r2 =>
                (spec_l03Names.f).bind fun r3 =>
                I4 0 r2.2 ByteArray.empty 0 (([(⟨#[118, 97, 110]⟩ : ByteArray), (⟨#[116, 114, 117, 99, 107]⟩ : ByteArray)]).getD (r1.1 : Int).toNat ByteArray.empty) r2.1 r3 [] []
              )
            ) (
              agree (
                (spec_l01Next.f r1.2 1000).bind fun r2 =>
                (spec_l03Names.f).bind fun r3 =>
                I4 0 r2.2 ByteArray.empty 0 (([(⟨#[118, 97, 110]⟩ : ByteArray), (⟨#[116, 114, 117, 99, 107]⟩ : ByteArray)]).getD (r1.1 : Int).toNat ByteArray.empty) r2.1 r3 [] []
              ) (
                (spec_l01Next.f r1.2 1000).bind fun r2 =>
                (spec_l03Names.f).bind fun r3 =>
                I4 0 r2.2 ByteArray.empty 0 (([(⟨#[118, 97, 110]⟩ : ByteArray), (⟨#[116, 114, 117, 99, 107]⟩ : ByteArray)]).getD (r1.1 : Int).toNat ByteArray.empty) r2.1 r3 [] []
              )
            )
          )
        ) (
          agree (
            (spec_l01Next.f r1.2 1000).bind fun r2 =>
            agree (
              (spec_l03Names.f).bind fun r3 =>
              I4 0 r2.2 ByteArray.empty 0 (([(⟨#[118, 97, 110]⟩ : ByteArray), (⟨#[116, 114, 117, 99, 107]⟩ : ByteArray)]).getD (r1.1 : Int).toNat ByteArray.empty) r2.1 r3 [] []
            ) (
              (spec_l03Names.f).bind fun r3 =>
              I4 0 r2.2 ByteArray.empty 0 (([(⟨#[118, 97, 110]⟩ : ByteArray), (⟨#[116, 114, 117, 99, 107]⟩ : ByteArray)]).getD (r1.1 : Int).toNat ByteArray.empty) r2.1 r3 [] []
            )
          ) (
            agree (
              agree (
                agree (
                  (spec_l01Next.f r1.2 1000).bind fun r2 =>
                  (spec_l03Names.f).bind fun r3 =>
                  I4 0 r2.2 ByteArray.empty 0 (([(⟨#[118, 97, 110]⟩ : ByteArray), (⟨#[116, 114, 117, 99, 107]⟩ : ByteArray)]).getD (r1.1 : Int).toNat ByteArray.empty) r2.1 r3 [] []
                ) (
                  (spec_l01Next.f r1.2 1000).bind fun r2 =>
                  (spec_l03Names.f).bind fun r3 =>
                  I4 0 r2.2 ByteArray.empty 0 (([(⟨#[118, 97, 110]⟩ : ByteArray), (⟨#[116, 114, 117, 99, 107]⟩ : ByteArray)]).getD (r1.1 : Int).toNat ByteArray.empty) r2.1 r3 [] []
                )
              ) (
                agree (
                  (spec_l01Next.f r1.2 1000).bind fun r2 =>
                  (spec_l03Names.f).bind fun r3 =>
                  I4 0 r2.2 ByteArray.empty 0 (([(⟨#[118, 97, 110]⟩ : ByteArray), (⟨#[116, 114, 117, 99, 107]⟩ : ByteArray)]).getD (r1.1 : Int).toNat ByteArray.empty) r2.1 r3 [] []
                ) (
                  agree (
                    (spec_l01Next.f r1.2 1000).bind fun r2 =>
                    (spec_l03Names.f).bind fun r3 =>
                    I4 0 r2.2 ByteArray.empty 0 (([(⟨#[118, 97, 110]⟩ : ByteArray), (⟨#[116, 114, 117, 99, 107]⟩ : ByteArray)]).getD (r1.1 : Int).toNat ByteArray.empty) r2.1 r3 [] []
                  ) (
                    (spec_l01Next.f r1.2 1000).bind fun r2 =>
                    (spec_l03Names.f).bind fun r3 =>
                    I4 0 r2.2 ByteArray.empty 0 (([(⟨#[118, 97, 110]⟩ : ByteArray), (⟨#[116, 114, 117, 99, 107]⟩ : ByteArray)]).getD (r1.1 : Int).toNat ByteArray.empty) r2.1 r3 [] []
                  )
                )
              )
            ) (
              agree (
                agree (
                  (spec_l01Next.f r1.2 1000).bind fun r2 =>
                  (spec_l03Names.f).bind fun r3 =>
                  I4 0 r2.2 ByteArray.empty 0 (([(⟨#[118, 97, 110]⟩ : ByteArray), (⟨#[116, 114, 117, 99, 107]⟩ : ByteArray)]).getD (r1.1 : Int).toNat ByteArray.empty) r2.1 r3 [] []
                ) (
                  (spec_l01Next.f r1.2 1000).bind fun r2 =>
                  (spec_l03Names.f).bind fun r3 =>
                  I4 0 r2.2 ByteArray.empty 0 (([(⟨#[118, 97, 110]⟩ : ByteArray), (⟨#[116, 114, 117, 99, 107]⟩ : ByteArray)]).getD (r1.1 : Int).toNat ByteArray.empty) r2.1 r3 [] []
                )
              ) (
                agree (
                  (spec_l01Next.f r1.2 1000).bind fun r2 =>
                  (spec_l03Names.f).bind fun r3 =>
                  I4 0 r2.2 ByteArray.empty 0 (([(⟨#[118, 97, 110]⟩ : ByteArray), (⟨#[116, 114, 117, 99, 107]⟩ : ByteArray)]).getD (r1.1 : Int).toNat ByteArray.empty) r2.1 r3 [] []
                ) (
                  agree (
                    (spec_l01Next.f r1.2 1000).bind fun r2 =>
                    (spec_l03Names.f).bind fun r3 =>
                    I4 0 r2.2 ByteArray.empty 0 (([(⟨#[118, 97, 110]⟩ : ByteArray), (⟨#[116, 114, 117, 99, 107]⟩ : ByteArray)]).getD (r1.1 : Int).toNat ByteArray.empty) r2.1 r3 [] []
                  ) (
                    (spec_l01Next.f r1.2 1000).bind fun r2 =>
                    (spec_l03Names.f).bind fun r3 =>
                    I4 0 r2.2 ByteArray.empty 0 (([(⟨#[118, 97, 110]⟩ : ByteArray), (⟨#[116, 114, 117, 99, 107]⟩ : ByteArray)]).getD (r1.1 : Int).toNat ByteArray.empty) r2.1 r3 [] []
                  )
                )
              )
            )
          )
        )
      else
        none
    ) (
      agree (
        agree (
          (spec_l01Next.f s0 2).bind fun r1 =>
          if (0 : Int) ≤ r1.1 ∧ (r1.1 : Int) < ([(⟨#[118, 97, 110]⟩ : ByteArray), (⟨#[116, 114, 117, 99, 107]⟩ : ByteArray)]).length then
            agree (
              agree (
                (spec_l01Next.f r1.2 1000).bind fun r2 =>
                (spec_l03Names.f).bind fun r3 =>
                I4 0 r2.2 ByteArray.empty 0 (([(⟨#[118, 97, 110]⟩ : ByteArray), (⟨#[116, 114, 117, 99, 107]⟩ : ByteArray)]).getD (r1.1 : Int).toNat ByteArray.empty) r2.1 r3 [] []
              ) (
                (spec_l01Next.f r1.2 1000).bind fun r2 =>
                (spec_l03Names.f).bind fun r3 =>
                I4 0 r2.2 ByteArray.empty 0 (([(⟨#[118, 97, 110]⟩ : ByteArray), (⟨#[116, 114, 117, 99, 107]⟩ : ByteArray)]).getD (r1.1 : Int).toNat ByteArray.empty) r2.1 r3 [] []
              )
            ) (
              agree (
                (spec_l01Next.f r1.2 1000).bind fun r2 =>
                (spec_l03Names.f).bind fun r3 =>
                I4 0 r2.2 ByteArray.empty 0 (([(⟨#[118, 97, 110]⟩ : ByteArray), (⟨#[116, 114, 117, 99, 107]⟩ : ByteArray)]).getD (r1.1 : Int).toNat ByteArray.empty) r2.1 r3 [] []
              ) (
                agree (
                  (spec_l01Next.f r1.2 1000).bind fun r2 =>
                  (spec_l03Names.f).bind fun r3 =>
                  I4 0 r2.2 ByteArray.empty 0 (([(⟨#[118, 97, 110]⟩ : ByteArray), (⟨#[116, 114, 117, 99, 107]⟩ : ByteArray)]).getD (r1.1 : Int).toNat ByteArray.empty) r2.1 r3 [] []
                ) (
                  (spec_l01Next.f r1.2 1000).bind fun r2 =>
                  (spec_l03Names.f).bind fun r3 =>
                  I4 0 r2.2 ByteArray.empty 0 (([(⟨#[118, 97, 110]⟩ : ByteArray), (⟨#[116, 114, 117, 99, 107]⟩ : ByteArray)]).getD (r1.1 : Int).toNat ByteArray.empty) r2.1 r3 [] []
                )
              )
            )
          else
            none
        ) (
          (spec_l01Next.f s0 2).bind fun r1 =>
          if (0 : Int) ≤ r1.1 ∧ (r1.1 : Int) < ([(⟨#[118, 97, 110]⟩ : ByteArray), (⟨#[116, 114, 117, 99, 107]⟩ : ByteArray)]).length then
            agree (
              (spec_l01Next.f r1.2 1000).bind fun r2 =>
              (spec_l03Names.f).bind fun r3 =>
              I4 0 r2.2 ByteArray.empty 0 (([(⟨#[118, 97, 110]⟩ : ByteArray), (⟨#[116, 114, 117, 99, 107]⟩ : ByteArray)]).getD (r1.1 : Int).toNat ByteArray.empty) r2.1 r3 [] []
            ) (
              (spec_l01Next.f r1.2 1000).bind fun r2 =>
              (spec_l03Names.f).bind fun r3 =>
              I4 0 r2.2 ByteArray.empty 0 (([(⟨#[118, 97, 110]⟩ : ByteArray), (⟨#[116, 114, 117, 99, 107]⟩ : ByteArray)]).getD (r1.1 : Int).toNat ByteArray.empty) r2.1 r3 [] []
            )
          else
            none
        )
      ) (
        agree (
          (spec_l01Next.f s0 2).bind fun r1 =>
          if (0 : Int) ≤ r1.1 ∧ (r1.1 : Int) < ([(⟨#[118, 97, 110]⟩ : ByteArray), (⟨#[116, 114, 117, 99, 107]⟩ : ByteArray)]).length then
            agree (
              agree (
                (spec_l01Next.f r1.2 1000).bind fun r2 =>
                (spec_l03Names.f).bind fun r3 =>
                I4 0 r2.2 ByteArray.empty 0 (([(⟨#[118, 97, 110]⟩ : ByteArray), (⟨#[116, 114, 117, 99, 107]⟩ : ByteArray)]).getD (r1.1 : Int).toNat ByteArray.empty) r2.1 r3 [] []
              ) (
                (spec_l01Next.f r1.2 1000).bind fun r2 =>
                (spec_l03Names.f).bind fun r3 =>
                I4 0 r2.2 ByteArray.empty 0 (([(⟨#[118, 97, 110]⟩ : ByteArray), (⟨#[116, 114, 117, 99, 107]⟩ : ByteArray)]).getD (r1.1 : Int).toNat ByteArray.empty) r2.1 r3 [] []
              )
            ) (
              agree (
                (spec_l01Next.f r1.2 1000).bind fun r2 =>
                (spec_l03Names.f).bind fun r3 =>
                I4 0 r2.2 ByteArray.empty 0 (([(⟨#[118, 97, 110]⟩ : ByteArray), (⟨#[116, 114, 117, 99, 107]⟩ : ByteArray)]).getD (r1.1 : Int).toNat ByteArray.empty) r2.1 r3 [] []
              ) (
                agree (
                  (spec_l01Next.f r1.2 1000).bind fun r2 =>
                  (spec_l03Names.f).bind fun r3 =>
                  I4 0 r2.2 ByteArray.empty 0 (([(⟨#[118, 97, 110]⟩ : ByteArray), (⟨#[116, 114, 117, 99, 107]⟩ : ByteArray)]).getD (r1.1 : Int).toNat ByteArray.empty) r2.1 r3 [] []
                ) (
                  (spec_l01Next.f r1.2 1000).bind fun r2 =>
                  (spec_l03Names.f).bind fun r3 =>
                  I4 0 r2.2 ByteArray.empty 0 (([(⟨#[118, 97, 110]⟩ : ByteArray), (⟨#[116, 114, 117, 99, 107]⟩ : ByteArray)]).getD (r1.1 : Int).toNat ByteArray.empty) r2.1 r3 [] []
                )
              )
            )
          else
            none
        ) (
          (spec_l01Next.f s0 2).bind fun r1 =>
          if (0 : Int) ≤ r1.1 ∧ (r1.1 : Int) < ([(⟨#[118, 97, 110]⟩ : ByteArray), (⟨#[116, 114, 117, 99, 107]⟩ : ByteArray)]).length then
            agree (
              (spec_l01Next.f r1.2 1000).bind fun r2 =>
              (spec_l03Names.f).bind fun r3 =>
              I4 0 r2.2 ByteArray.empty 0 (([(⟨#[118, 97, 110]⟩ : ByteArray), (⟨#[116, 114, 117, 99, 107]⟩ : ByteArray)]).getD (r1.1 : Int).toNat ByteArray.empty) r2.1 r3 [] []
            ) (
              (spec_l01Next.f r1.2 1000).bind fun r2 =>
              (spec_l03Names.f).bind fun r3 =>
              I4 0 r2.2 ByteArray.empty 0 (([(⟨#[118, 97, 110]⟩ : ByteArray), (⟨#[116, 114, 117, 99, 107]⟩ : ByteArray)]).getD (r1.1 : Int).toNat ByteArray.empty) r2.1 r3 [] []
            )
          else
            none
        )
      )
    )
  ) (
    agree (
      (spec_l01Next.f s0 2).bind fun r1 =>
      agree (
        if (0 : Int) ≤ r1.1 ∧ (r1.1 : Int) < ([(⟨#[118, 97, 110]⟩ : ByteArray), (⟨#[116, 114, 117, 99, 107]⟩ : ByteArray)]).length then
          agree (
            agree (
              (spec_l01Next.f r1.2 1000).bind fun r2 =>
              agree (
                (spec_l03Names.f).bind fun r3 =>
                I4 0 r2.2 ByteArray.empty 0 (([(⟨#[118, 97, 110]⟩ : ByteArray), (⟨#[116, 114, 117, 99, 107]⟩ : ByteArray)]).getD (r1.1 : Int).toNat ByteArray.empty) r2.1 r3 [] []
              ) (
                (spec_l03Names.f).bind fun r3 =>
                I4 0 r2.2 ByteArray.empty 0 (([(⟨#[118, 97, 110]⟩ : ByteArray), (⟨#[116, 114, 117, 99, 107]⟩ : ByteArray)]).getD (r1.1 : Int).toNat ByteArray.empty) r2.1 r3 [] []
              )
            ) (
              agree (
                agree (
                  (spec_l01Next.f r1.2 1000).bind fun r2 =>
                  (spec_l03Names.f).bind fun r3 =>
                  I4 0 r2.2 ByteArray.empty 0 (([(⟨#[118, 97, 110]⟩ : ByteArray), (⟨#[116, 114, 117, 99, 107]⟩ : ByteArray)]).getD (r1.1 : Int).toNat ByteArray.empty) r2.1 r3 [] []
                ) (
                  (spec_l01Next.f r1.2 1000).bind fun r2 =>
                  (spec_l03Names.f).bind fun r3 =>
                  I4 0 r2.2 ByteArray.empty 0 (([(⟨#[118, 97, 110]⟩ : ByteArray), (⟨#[116, 114, 117, 99, 107]⟩ : ByteArray)]).getD (r1.1 : Int).toNat ByteArray.empty) r2.1 r3 [] []
                )
              ) (
                agree (
                  (spec_l01Next.f r1.2 1000).bind fun r2 =>
                  (spec_l03Names.f).bind fun r3 =>
                  I4 0 r2.2 ByteArray.empty 0 (([(⟨#[118, 97, 110]⟩ : ByteArray), (⟨#[116, 114, 117, 99, 107]⟩ : ByteArray)]).getD (r1.1 : Int).toNat ByteArray.empty) r2.1 r3 [] []
                ) (
                  (spec_l01Next.f r1.2 1000).bind fun r2 =>
                  (spec_l03Names.f).bind fun r3 =>
                  I4 0 r2.2 ByteArray.empty 0 (([(⟨#[118, 97, 110]⟩ : ByteArray), (⟨#[116, 114, 117, 99, 107]⟩ : ByteArray)]).getD (r1.1 : Int).toNat ByteArray.empty) r2.1 r3 [] []
                )
              )
            )
          ) (
            agree (
              (spec_l01Next.f r1.2 1000).bind fun r2 =>
              agree (
                (spec_l03Names.f).bind fun r3 =>
                I4 0 r2.2 ByteArray.empty 0 (([(⟨#[118, 97, 110]⟩ : ByteArray), (⟨#[116, 114, 117, 99, 107]⟩ : ByteArray)]).getD (r1.1 : Int).toNat ByteArray.empty) r2.1 r3 [] []
              ) (
                (spec_l03Names.f).bind fun r3 =>
                I4 0 r2.2 ByteArray.empty 0 (([(⟨#[118, 97, 110]⟩ : ByteArray), (⟨#[116, 114, 117, 99, 107]⟩ : ByteArray)]).getD (r1.1 : Int).toNat ByteArray.empty) r2.1 r3 [] []
              )
            ) (
              agree (
                agree (
                  agree (
                    (spec_l01Next.f r1.2 1000).bind fun r2 =>
                    (spec_l03Names.f).bind fun r3 =>
                    I4 0 r2.2 ByteArray.empty 0 (([(⟨#[118, 97, 110]⟩ : ByteArray), (⟨#[116, 114, 117, 99, 107]⟩ : ByteArray)]).getD (r1.1 : Int).toNat ByteArray.empty) r2.1 r3 [] []
                  ) (
                    (spec_l01Next.f r1.2 1000).bind fun r2 =>
                    (spec_l03Names.f).bind fun r3 =>
                    I4 0 r2.2 ByteArray.empty 0 (([(⟨#[118, 97, 110]⟩ : ByteArray), (⟨#[116, 114, 117, 99, 107]⟩ : ByteArray)]).getD (r1.1 : Int).toNat ByteArray.empty) r2.1 r3 [] []
                  )
                ) (
                  agree (
                    (spec_l01Next.f r1.2 1000).bind fun r2 =>
                    (spec_l03Names.f).bind fun r3 =>
                    I4 0 r2.2 ByteArray.empty 0 (([(⟨#[118, 97, 110]⟩ : ByteArray), (⟨#[116, 114, 117, 99, 107]⟩ : ByteArray)]).getD (r1.1 : Int).toNat ByteArray.empty) r2.1 r3 [] []
                  ) (
                    agree (
                      (spec_l01Next.f r1.2 1000).bind fun r2 =>
                      (spec_l03Names.f).bind fun r3 =>
                      I4 0 r2.2 ByteArray.empty 0 (([(⟨#[118, 97, 110]⟩ : ByteArray), (⟨#[116, 114, 117, 99, 107]⟩ : ByteArray)]).getD (r1.1 : Int).toNat ByteArray.empty) r2.1 r3 [] []
                    ) (
                      (spec_l01Next.f r1.2 1000).bind fun r2 =>
                      (spec_l03Names.f).bind fun r3 =>
                      I4 0 r2.2 ByteArray.empty 0 (([(⟨#[118, 97, 110]⟩ : ByteArray), (⟨#[116, 114, 117, 99, 107]⟩ : ByteArray)]).getD (r1.1 : Int).toNat ByteArray.empty) r2.1 r3 [] []
                    )
                  )
                )
              ) (
                agree (
                  agree (
                    (spec_l01Next.f r1.2 1000).bind fun r2 =>
                    (spec_l03Names.f).bind fun r3 =>
                    I4 0 r2.2 ByteArray.empty 0 (([(⟨#[118, 97, 110]⟩ : ByteArray), (⟨#[116, 114, 117, 99, 107]⟩ : ByteArray)]).getD (r1.1 : Int).toNat ByteArray.empty) r2.1 r3 [] []
                  ) (
                    (spec_l01Next.f r1.2 1000).bind fun r2 =>
                    (spec_l03Names.f).bind fun r3 =>
                    I4 0 r2.2 ByteArray.empty 0 (([(⟨#[118, 97, 110]⟩ : ByteArray), (⟨#[116, 114, 117, 99, 107]⟩ : ByteArray)]).getD (r1.1 : Int).toNat ByteArray.empty) r2.1 r3 [] []
                  )
                ) (
                  agree (
                    (spec_l01Next.f r1.2 1000).bind fun r2 =>
                    (spec_l03Names.f).bind fun r3 =>
                    I4 0 r2.2 ByteArray.empty 0 (([(⟨#[118, 97, 110]⟩ : ByteArray), (⟨#[116, 114, 117, 99, 107]⟩ : ByteArray)]).getD (r1.1 : Int).toNat ByteArray.empty) r2.1 r3 [] []
                  ) (
                    agree (
                      (spec_l01Next.f r1.2 1000).bind fun r2 =>
                      (spec_l03Names.f).bind fun r3 =>
                      I4 0 r2.2 ByteArray.empty 0 (([(⟨#[118, 97, 110]⟩ : ByteArray), (⟨#[116, 114, 117, 99, 107]⟩ : ByteArray)]).getD (r1.1 : Int).toNat ByteArray.empty) r2.1 r3 [] []
                    ) (
                      (spec_l01Next.f r1.2 1000).bind fun r2 =>
                      (spec_l03Names.f).bind fun r3 =>
                      I4 0 r2.2 ByteArray.empty 0 (([(⟨#[118, 97, 110]⟩ : ByteArray), (⟨#[116, 114, 117, 99, 107]⟩ : ByteArray)]).getD (r1.1 : Int).toNat ByteArray.empty) r2.1 r3 [] []
                    )
                  )
                )
              )
            )
          )
        else
          none
      ) (
        agree (
          (spec_l01Next.f r1.2 1000).bind fun r2 =>
          agree (
            if (0 : Int) ≤ r1.1 ∧ (r1.1 : Int) < ([(⟨#[118, 97, 110]⟩ : ByteArray), (⟨#[116, 114, 117, 99, 107]⟩ : ByteArray)]).length then
              agree (
                (spec_l03Names.f).bind fun r3 =>
                I4 0 r2.2 ByteArray.empty 0 (([(⟨#[118, 97, 110]⟩ : ByteArray), (⟨#[116, 114, 117, 99, 107]⟩ : ByteArray)]).getD (r1.1 : Int).toNat ByteArray.empty) r2.1 r3 [] []
              ) (
                (spec_l03Names.f).bind fun r3 =>
                I4 0 r2.2 ByteArray.empty 0 (([(⟨#[118, 97, 110]⟩ : ByteArray), (⟨#[116, 114, 117, 99, 107]⟩ : ByteArray)]).getD (r1.1 : Int).toNat ByteArray.empty) r2.1 r3 [] []
              )
            else
              none
          ) (
            agree (
              agree (
                if (0 : Int) ≤ r1.1 ∧ (r1.1 : Int) < ([(⟨#[118, 97, 110]⟩ : ByteArray), (⟨#[116, 114, 117, 99, 107]⟩ : ByteArray)]).length then
                  (spec_l03Names.f).bind fun r3 =>
                  I4 0 r2.2 ByteArray.empty 0 (([(⟨#[118, 97, 110]⟩ : ByteArray), (⟨#[116, 114, 117, 99, 107]⟩ : ByteArray)]).getD (r1.1 : Int).toNat ByteArray.empty) r2.1 r3 [] []
                else
                  none
              ) (
                if (0 : Int) ≤ r1.1 ∧ (r1.1 : Int) < ([(⟨#[118, 97, 110]⟩ : ByteArray), (⟨#[116, 114, 117, 99, 107]⟩ : ByteArray)]).length then
                  (spec_l03Names.f).bind fun r3 =>
                  I4 0 r2.2 ByteArray.empty 0 (([(⟨#[118, 97, 110]⟩ : ByteArray), (⟨#[116, 114, 117, 99, 107]⟩ : ByteArray)]).getD (r1.1 : Int).toNat ByteArray.empty) r2.1 r3 [] []
                else
                  none
              )
            ) (
              agree (
                if (0 : Int) ≤ r1.1 ∧ (r1.1 : Int) < ([(⟨#[118, 97, 110]⟩ : ByteArray), (⟨#[116, 114, 117, 99, 107]⟩ : ByteArray)]).length then
                  (spec_l03Names.f).bind fun r3 =>
                  I4 0 r2.2 ByteArray.empty 0 (([(⟨#[118, 97, 110]⟩ : ByteArray), (⟨#[116, 114, 117, 99, 107]⟩ : ByteArray)]).getD (r1.1 : Int).toNat ByteArray.empty) r2.1 r3 [] []
                else
                  none
              ) (
                if (0 : Int) ≤ r1.1 ∧ (r1.1 : Int) < ([(⟨#[118, 97, 110]⟩ : ByteArray), (⟨#[116, 114, 117, 99, 107]⟩ : ByteArray)]).length then
                  (spec_l03Names.f).bind fun r3 =>
                  I4 0 r2.2 ByteArray.empty 0 (([(⟨#[118, 97, 110]⟩ : ByteArray), (⟨#[116, 114, 117, 99, 107]⟩ : ByteArray)]).getD (r1.1 : Int).toNat ByteArray.empty) r2.1 r3 [] []
                else
                  none
              )
            )
          )
        ) (
          agree (
            agree (
              if (0 : Int) ≤ r1.1 ∧ (r1.1 : Int) < ([(⟨#[118, 97, 110]⟩ : ByteArray), (⟨#[116, 114, 117, 99, 107]⟩ : ByteArray)]).length then
                agree (
                  agree (
                    (spec_l01Next.f r1.2 1000).bind fun r2 =>
                    (spec_l03Names.f).bind fun r3 =>
                    I4 0 r2.2 ByteArray.empty 0 (([(⟨#[118, 97, 110]⟩ : ByteArray), (⟨#[116, 114, 117, 99, 107]⟩ : ByteArray)]).getD (r1.1 : Int).toNat ByteArray.empty) r2.1 r3 [] []
                  ) (
                    (spec_l01Next.f r1.2 1000).bind fun r2 =>
                    (spec_l03Names.f).bind fun r3 =>
                    I4 0 r2.2 ByteArray.empty 0 (([(⟨#[118, 97, 110]⟩ : ByteArray), (⟨#[116, 114, 117, 99, 107]⟩ : ByteArray)]).getD (r1.1 : Int).toNat ByteArray.empty) r2.1 r3 [] []
                  )
                ) (
                  agree (
                    (spec_l01Next.f r1.2 1000).bind fun r2 =>
                    (spec_l03Names.f).bind fun r3 =>
                    I4 0 r2.2 ByteArray.empty 0 (([(⟨#[118, 97, 110]⟩ : ByteArray), (⟨#[116, 114, 117, 99, 107]⟩ : ByteArray)]).getD (r1.1 : Int).toNat ByteArray.empty) r2.1 r3 [] []
                  ) (
                    agree (
                      (spec_l01Next.f r1.2 1000).bind fun r2 =>
                      (spec_l03Names.f).bind fun r3 =>
                      I4 0 r2.2 ByteArray.empty 0 (([(⟨#[118, 97, 110]⟩ : ByteArray), (⟨#[116, 114, 117, 99, 107]⟩ : ByteArray)]).getD (r1.1 : Int).toNat ByteArray.empty) r2.1 r3 [] []
                    ) (
                      (spec_l01Next.f r1.2 1000).bind fun r2 =>
                      (spec_l03Names.f).bind fun r3 =>
                      I4 0 r2.2 ByteArray.empty 0 (([(⟨#[118, 97, 110]⟩ : ByteArray), (⟨#[116, 114, 117, 99, 107]⟩ : ByteArray)]).getD (r1.1 : Int).toNat ByteArray.empty) r2.1 r3 [] []
                    )
                  )
                )
              else
                none
            ) (
              agree (
                (spec_l01Next.f r1.2 1000).bind fun r2 =>
                agree (
                  if (0 : Int) ≤ r1.1 ∧ (r1.1 : Int) < ([(⟨#[118, 97, 110]⟩ : ByteArray), (⟨#[116, 114, 117, 99, 107]⟩ : ByteArray)]).length then
                    (spec_l03Names.f).bind fun r3 =>
                    I4 0 r2.2 ByteArray.empty 0 (([(⟨#[118, 97, 110]⟩ : ByteArray), (⟨#[116, 114, 117, 99, 107]⟩ : ByteArray)]).getD (r1.1 : Int).toNat ByteArray.empty) r2.1 r3 [] []
                  else
                    none
                ) (
                  if (0 : Int) ≤ r1.1 ∧ (r1.1 : Int) < ([(⟨#[118, 97, 110]⟩ : ByteArray), (⟨#[116, 114, 117, 99, 107]⟩ : ByteArray)]).length then
                    (spec_l03Names.f).bind fun r3 =>
                    I4 0 r2.2 ByteArray.empty 0 (([(⟨#[118, 97, 110]⟩ : ByteArray), (⟨#[116, 114, 117, 99, 107]⟩ : ByteArray)]).getD (r1.1 : Int).toNat ByteArray.empty) r2.1 r3 [] []
                  else
                    none
                )
              ) (
                agree (
                  if (0 : Int) ≤ r1.1 ∧ (r1.1 : Int) < ([(⟨#[118, 97, 110]⟩ : ByteArray), (⟨#[116, 114, 117, 99, 107]⟩ : ByteArray)]).length then
                    agree (
                      (spec_l01Next.f r1.2 1000).bind fun r2 =>
                      (spec_l03Names.f).bind fun r3 =>
                      I4 0 r2.2 ByteArray.empty 0 (([(⟨#[118, 97, 110]⟩ : ByteArray), (⟨#[116, 114, 117, 99, 107]⟩ : ByteArray)]).getD (r1.1 : Int).toNat ByteArray.empty) r2.1 r3 [] []
                    ) (
                      (spec_l01Next.f r1.2 1000).bind fun r2 =>
                      (spec_l03Names.f).bind fun r3 =>
                      I4 0 r2.2 ByteArray.empty 0 (([(⟨#[118, 97, 110]⟩ : ByteArray), (⟨#[116, 114, 117, 99, 107]⟩ : ByteArray)]).getD (r1.1 : Int).toNat ByteArray.empty) r2.1 r3 [] []
                    )
                  else
                    none
                ) (
                  (spec_l01Next.f r1.2 1000).bind fun r2 =>
                  if (0 : Int) ≤ r1.1 ∧ (r1.1 : Int) < ([(⟨#[118, 97, 110]⟩ : ByteArray), (⟨#[116, 114, 117, 99, 107]⟩ : ByteArray)]).length then
                    (spec_l03Names.f).bind fun r3 =>
                    I4 0 r2.2 ByteArray.empty 0 (([(⟨#[118, 97, 110]⟩ : ByteArray), (⟨#[116, 114, 117, 99, 107]⟩ : ByteArray)]).getD (r1.1 : Int).toNat ByteArray.empty) r2.1 r3 [] []
                  else
                    none
                )
              )
            )
          ) (
            agree (
              if (0 : Int) ≤ r1.1 ∧ (r1.1 : Int) < ([(⟨#[118, 97, 110]⟩ : ByteArray), (⟨#[116, 114, 117, 99, 107]⟩ : ByteArray)]).length then
                agree (
                  agree (
                    (spec_l01Next.f r1.2 1000).bind fun r2 =>
                    (spec_l03Names.f).bind fun r3 =>
                    I4 0 r2.2 ByteArray.empty 0 (([(⟨#[118, 97, 110]⟩ : ByteArray), (⟨#[116, 114, 117, 99, 107]⟩ : ByteArray)]).getD (r1.1 : Int).toNat ByteArray.empty) r2.1 r3 [] []
                  ) (
                    (spec_l01Next.f r1.2 1000).bind fun r2 =>
                    (spec_l03Names.f).bind fun r3 =>
                    I4 0 r2.2 ByteArray.empty 0 (([(⟨#[118, 97, 110]⟩ : ByteArray), (⟨#[116, 114, 117, 99, 107]⟩ : ByteArray)]).getD (r1.1 : Int).toNat ByteArray.empty) r2.1 r3 [] []
                  )
                ) (
                  agree (
                    (spec_l01Next.f r1.2 1000).bind fun r2 =>
                    (spec_l03Names.f).bind fun r3 =>
                    I4 0 r2.2 ByteArray.empty 0 (([(⟨#[118, 97, 110]⟩ : ByteArray), (⟨#[116, 114, 117, 99, 107]⟩ : ByteArray)]).getD (r1.1 : Int).toNat ByteArray.empty) r2.1 r3 [] []
                  ) (
                    agree (
                      (spec_l01Next.f r1.2 1000).bind fun r2 =>
                      (spec_l03Names.f).bind fun r3 =>
                      I4 0 r2.2 ByteArray.empty 0 (([(⟨#[118, 97, 110]⟩ : ByteArray), (⟨#[116, 114, 117, 99, 107]⟩ : ByteArray)]).getD (r1.1 : Int).toNat ByteArray.empty) r2.1 r3 [] []
                    ) (
                      (spec_l01Next.f r1.2 1000).bind fun r2 =>
                      (spec_l03Names.f).bind fun r3 =>
                      I4 0 r2.2 ByteArray.empty 0 (([(⟨#[118, 97, 110]⟩ : ByteArray), (⟨#[116, 114, 117, 99, 107]⟩ : ByteArray)]).getD (r1.1 : Int).toNat ByteArray.empty) r2.1 r3 [] []
                    )
                  )
                )
              else
                none
            ) (
              agree (
                (spec_l01Next.f r1.2 1000).bind fun r2 =>
                agree (
                  if (0 : Int) ≤ r1.1 ∧ (r1.1 : Int) < ([(⟨#[118, 97, 110]⟩ : ByteArray), (⟨#[116, 114, 117, 99, 107]⟩ : ByteArray)]).length then
                    (spec_l03Names.f).bind fun r3 =>
                    I4 0 r2.2 ByteArray.empty 0 (([(⟨#[118, 97, 110]⟩ : ByteArray), (⟨#[116, 114, 117, 99, 107]⟩ : ByteArray)]).getD (r1.1 : Int).toNat ByteArray.empty) r2.1 r3 [] []
                  else
                    none
                ) (
                  if (0 : Int) ≤ r1.1 ∧ (r1.1 : Int) < ([(⟨#[118, 97, 110]⟩ : ByteArray), (⟨#[116, 114, 117, 99, 107]⟩ : ByteArray)]).length then
                    (spec_l03Names.f).bind fun r3 =>
                    I4 0 r2.2 ByteArray.empty 0 (([(⟨#[118, 97, 110]⟩ : ByteArray), (⟨#[116, 114, 117, 99, 107]⟩ : ByteArray)]).getD (r1.1 : Int).toNat ByteArray.empty) r2.1 r3 [] []
                  else
                    none
                )
              ) (
                agree (
                  if (0 : Int) ≤ r1.1 ∧ (r1.1 : Int) < ([(⟨#[118, 97, 110]⟩ : ByteArray), (⟨#[116, 114, 117, 99, 107]⟩ : ByteArray)]).length then
                    agree (
                      (spec_l01Next.f r1.2 1000).bind fun r2 =>
                      (spec_l03Names.f).bind fun r3 =>
                      I4 0 r2.2 ByteArray.empty 0 (([(⟨#[118, 97, 110]⟩ : ByteArray), (⟨#[116, 114, 117, 99, 107]⟩ : ByteArray)]).getD (r1.1 : Int).toNat ByteArray.empty) r2.1 r3 [] []
                    ) (
                      (spec_l01Next.f r1.2 1000).bind fun r2 =>
                      (spec_l03Names.f).bind fun r3 =>
                      I4 0 r2.2 ByteArray.empty 0 (([(⟨#[118, 97, 110]⟩ : ByteArray), (⟨#[116, 114, 117, 99, 107]⟩ : ByteArray)]).getD (r1.1 : Int).toNat ByteArray.empty) r2.1 r3 [] []
                    )
                  else
                    none
                ) (
                  (spec_l01Next.f r1.2 1000).bind fun r2 =>
                  if (0 : Int) ≤ r1.1 ∧ (r1.1 : Int) < ([(⟨#[118, 97, 110]⟩ : ByteArray), (⟨#[116, 114, 117, 99, 107]⟩ : ByteArray)]).length then
                    (spec_l03Names.f).bind fun r3 =>
                    I4 0 r2.2 ByteArray.empty 0 (([(⟨#[118, 97, 110]⟩ : ByteArray), (⟨#[116, 114, 117, 99, 107]⟩ : ByteArray)]).getD (r1.1 : Int).toNat ByteArray.empty) r2.1 r3 [] []
                  else
                    none
                )
              )
            )
          )
        )
      )
    ) (
      agree (
        agree (
          agree (
            (spec_l01Next.f s0 2).bind fun r1 =>
            if (0 : Int) ≤ r1.1 ∧ (r1.1 : Int) < ([(⟨#[118, 97, 110]⟩ : ByteArray), (⟨#[116, 114, 117, 99, 107]⟩ : ByteArray)]).length then
              agree (
                agree (
                  (spec_l01Next.f r1.2 1000).bind fun r2 =>
                  (spec_l03Names.f).bind fun r3 =>
                  I4 0 r2.2 ByteArray.empty 0 (([(⟨#[118, 97, 110]⟩ : ByteArray), (⟨#[116, 114, 117, 99, 107]⟩ : ByteArray)]).getD (r1.1 : Int).toNat ByteArray.empty) r2.1 r3 [] []
                ) (
                  (spec_l01Next.f r1.2 1000).bind fun r2 =>
                  (spec_l03Names.f).bind fun r3 =>
                  I4 0 r2.2 ByteArray.empty 0 (([(⟨#[118, 97, 110]⟩ : ByteArray), (⟨#[116, 114, 117, 99, 107]⟩ : ByteArray)]).getD (r1.1 : Int).toNat ByteArray.empty) r2.1 r3 [] []
                )
              ) (
                agree (
                  (spec_l01Next.f r1.2 1000).bind fun r2 =>
                  (spec_l03Names.f).bind fun r3 =>
                  I4 0 r2.2 ByteArray.empty 0 (([(⟨#[118, 97, 110]⟩ : ByteArray), (⟨#[116, 114, 117, 99, 107]⟩ : ByteArray)]).getD (r1.1 : Int).toNat ByteArray.empty) r2.1 r3 [] []
                ) (
                  agree (
                    (spec_l01Next.f r1.2 1000).bind fun r2 =>
                    (spec_l03Names.f).bind fun r3 =>
                    I4 0 r2.2 ByteArray.empty 0 (([(⟨#[118, 97, 110]⟩ : ByteArray), (⟨#[116, 114, 117, 99, 107]⟩ : ByteArray)]).getD (r1.1 : Int).toNat ByteArray.empty) r2.1 r3 [] []
                  ) (
                    (spec_l01Next.f r1.2 1000).bind fun r2 =>
                    (spec_l03Names.f).bind fun r3 =>
                    I4 0 r2.2 ByteArray.empty 0 (([(⟨#[118, 97, 110]⟩ : ByteArray), (⟨#[116, 114, 117, 99, 107]⟩ : ByteArray)]).getD (r1.1 : Int).toNat ByteArray.empty) r2.1 r3 [] []
                  )
                )
              )
            else
              none
          ) (
            (spec_l01Next.f s0 2).bind fun r1 =>
            if (0 : Int) ≤ r1.1 ∧ (r1.1 : Int) < ([(⟨#[118, 97, 110]⟩ : ByteArray), (⟨#[116, 114, 117, 99, 107]⟩ : ByteArray)]).length then
              agree (
                (spec_l01Next.f r1.2 1000).bind fun r2 =>
                (spec_l03Names.f).bind fun r3 =>
                I4 0 r2.2 ByteArray.empty 0 (([(⟨#[118, 97, 110]⟩ : ByteArray), (⟨#[116, 114, 117, 99, 107]⟩ : ByteArray)]).getD (r1.1 : Int).toNat ByteArray.empty) r2.1 r3 [] []
              ) (
                (spec_l01Next.f r1.2 1000).bind fun r2 =>
                (spec_l03Names.f).bind fun r3 =>
                I4 0 r2.2 ByteArray.empty 0 (([(⟨#[118, 97, 110]⟩ : ByteArray), (⟨#[116, 114, 117, 99, 107]⟩ : ByteArray)]).getD (r1.1 : Int).toNat ByteArray.empty) r2.1 r3 [] []
              )
            else
              none
          )
        ) (
          agree (
            (spec_l01Next.f s0 2).bind fun r1 =>
            agree (
              if (0 : Int) ≤ r1.1 ∧ (r1.1 : Int) < ([(⟨#[118, 97, 110]⟩ : ByteArray), (⟨#[116, 114, 117, 99, 107]⟩ : ByteArray)]).length then
                agree (
                  agree (
                    (spec_l01Next.f r1.2 1000).bind fun r2 =>
                    (spec_l03Names.f).bind fun r3 =>
                    I4 0 r2.2 ByteArray.empty 0 (([(⟨#[118, 97, 110]⟩ : ByteArray), (⟨#[116, 114, 117, 99, 107]⟩ : ByteArray)]).getD (r1.1 : Int).toNat ByteArray.empty) r2.1 r3 [] []
                  ) (
                    (spec_l01Next.f r1.2 1000).bind fun r2 =>
                    (spec_l03Names.f).bind fun r3 =>
                    I4 0 r2.2 ByteArray.empty 0 (([(⟨#[118, 97, 110]⟩ : ByteArray), (⟨#[116, 114, 117, 99, 107]⟩ : ByteArray)]).getD (r1.1 : Int).toNat ByteArray.empty) r2.1 r3 [] []
                  )
                ) (
                  agree (
                    (spec_l01Next.f r1.2 1000).bind fun r2 =>
                    (spec_l03Names.f).bind fun r3 =>
                    I4 0 r2.2 ByteArray.empty 0 (([(⟨#[118, 97, 110]⟩ : ByteArray), (⟨#[116, 114, 117, 99, 107]⟩ : ByteArray)]).getD (r1.1 : Int).toNat ByteArray.empty) r2.1 r3 [] []
                  ) (
                    agree (
                      (spec_l01Next.f r1.2 1000).bind fun r2 =>
                      (spec_l03Names.f).bind fun r3 =>
                      I4 0 r2.2 ByteArray.empty 0 (([(⟨#[118, 97, 110]⟩ : ByteArray), (⟨#[116, 114, 117, 99, 107]⟩ : ByteArray)]).getD (r1.1 : Int).toNat ByteArray.empty) r2.1 r3 [] []
                    ) (
                      (spec_l01Next.f r1.2 1000).bind fun r2 =>
                      (spec_l03Names.f).bind fun r3 =>
                      I4 0 r2.2 ByteArray.empty 0 (([(⟨#[118, 97, 110]⟩ : ByteArray), (⟨#[116, 114, 117, 99, 107]⟩ : ByteArray)]).getD (r1.1 : Int).toNat ByteArray.empty) r2.1 r3 [] []
                    )
                  )
                )
              else
                none
            ) (
              agree (
                (spec_l01Next.f r1.2 1000).bind fun r2 =>
                agree (
                  if (0 : Int) ≤ r1.1 ∧ (r1.1 : Int) < ([(⟨#[118, 97, 110]⟩ : ByteArray), (⟨#[116, 114, 117, 99, 107]⟩ : ByteArray)]).length then
                    (spec_l03Names.f).bind fun r3 =>
                    I4 0 r2.2 ByteArray.empty 0 (([(⟨#[118, 97, 110]⟩ : ByteArray), (⟨#[116, 114, 117, 99, 107]⟩ : ByteArray)]).getD (r1.1 : Int).toNat ByteArray.empty) r2.1 r3 [] []
                  else
                    none
                ) (
                  if (0 : Int) ≤ r1.1 ∧ (r1.1 : Int) < ([(⟨#[118, 97, 110]⟩ : ByteArray), (⟨#[116, 114, 117, 99, 107]⟩ : ByteArray)]).length then
                    (spec_l03Names.f).bind fun r3 =>
                    I4 0 r2.2 ByteArray.empty 0 (([(⟨#[118, 97, 110]⟩ : ByteArray), (⟨#[116, 114, 117, 99, 107]⟩ : ByteArray)]).getD (r1.1 : Int).toNat ByteArray.empty) r2.1 r3 [] []
                  else
                    none
                )
              ) (
                agree (
                  if (0 : Int) ≤ r1.1 ∧ (r1.1 : Int) < ([(⟨#[118, 97, 110]⟩ : ByteArray), (⟨#[116, 114, 117, 99, 107]⟩ : ByteArray)]).length then
                    agree (
                      (spec_l01Next.f r1.2 1000).bind fun r2 =>
                      (spec_l03Names.f).bind fun r3 =>
                      I4 0 r2.2 ByteArray.empty 0 (([(⟨#[118, 97, 110]⟩ : ByteArray), (⟨#[116, 114, 117, 99, 107]⟩ : ByteArray)]).getD (r1.1 : Int).toNat ByteArray.empty) r2.1 r3 [] []
                    ) (
                      (spec_l01Next.f r1.2 1000).bind fun r2 =>
                      (spec_l03Names.f).bind fun r3 =>
                      I4 0 r2.2 ByteArray.empty 0 (([(⟨#[118, 97, 110]⟩ : ByteArray), (⟨#[116, 114, 117, 99, 107]⟩ : ByteArray)]).getD (r1.1 : Int).toNat ByteArray.empty) r2.1 r3 [] []
                    )
                  else
                    none
                ) (
                  (spec_l01Next.f r1.2 1000).bind fun r2 =>
                  if (0 : Int) ≤ r1.1 ∧ (r1.1 : Int) < ([(⟨#[118, 97, 110]⟩ : ByteArray), (⟨#[116, 114, 117, 99, 107]⟩ : ByteArray)]).length then
                    (spec_l03Names.f).bind fun r3 =>
                    I4 0 r2.2 ByteArray.empty 0 (([(⟨#[118, 97, 110]⟩ : ByteArray), (⟨#[116, 114, 117, 99, 107]⟩ : ByteArray)]).getD (r1.1 : Int).toNat ByteArray.empty) r2.1 r3 [] []
                  else
                    none
                )
              )
            )
          ) (
            agree (
              (spec_l01Next.f s0 2).bind fun r1 =>
              if (0 : Int) ≤ r1.1 ∧ (r1.1 : Int) < ([(⟨#[118, 97, 110]⟩ : ByteArray), (⟨#[116, 114, 117, 99, 107]⟩ : ByteArray)]).length then
                agree (
                  (spec_l01Next.f r1.2 1000).bind fun r2 =>
                  (spec_l03Names.f).bind fun r3 =>
                  I4 0 r2.2 ByteArray.empty 0 (([(⟨#[118, 97, 110]⟩ : ByteArray), (⟨#[116, 114, 117, 99, 107]⟩ : ByteArray)]).getD (r1.1 : Int).toNat ByteArray.empty) r2.1 r3 [] []
                ) (
                  (spec_l01Next.f r1.2 1000).bind fun r2 =>
                  (spec_l03Names.f).bind fun r3 =>
                  I4 0 r2.2 ByteArray.empty 0 (([(⟨#[118, 97, 110]⟩ : ByteArray), (⟨#[116, 114, 117, 99, 107]⟩ : ByteArray)]).getD (r1.1 : Int).toNat ByteArray.empty) r2.1 r3 [] []
                )
              else
                none
            ) (
              (spec_l01Next.f s0 2).bind fun r1 =>
              agree (
                if (0 : Int) ≤ r1.1 ∧ (r1.1 : Int) < ([(⟨#[118, 97, 110]⟩ : ByteArray), (⟨#[116, 114, 117, 99, 107]⟩ : ByteArray)]).length then
                  agree (
                    (spec_l01Next.f r1.2 1000).bind fun r2 =>
                    (spec_l03Names.f).bind fun r3 =>
                    I4 0 r2.2 ByteArray.empty 0 (([(⟨#[118, 97, 110]⟩ : ByteArray), (⟨#[116, 114, 117, 99, 107]⟩ : ByteArray)]).getD (r1.1 : Int).toNat ByteArray.empty) r2.1 r3 [] []
                  ) (
                    (spec_l01Next.f r1.2 1000).bind fun r2 =>
                    (spec_l03Names.f).bind fun r3 =>
                    I4 0 r2.2 ByteArray.empty 0 (([(⟨#[118, 97, 110]⟩ : ByteArray), (⟨#[116, 114, 117, 99, 107]⟩ : ByteArray)]).getD (r1.1 : Int).toNat ByteArray.empty) r2.1 r3 [] []
                  )
                else
                  none
              ) (
                (spec_l01Next.f r1.2 1000).bind fun r2 =>
                if (0 : Int) ≤ r1.1 ∧ (r1.1 : Int) < ([(⟨#[118, 97, 110]⟩ : ByteArray), (⟨#[116, 114, 117, 99, 107]⟩ : ByteArray)]).length then
                  (spec_l03Names.f).bind fun r3 =>
                  I4 0 r2.2 ByteArray.empty 0 (([(⟨#[118, 97, 110]⟩ : ByteArray), (⟨#[116, 114, 117, 99, 107]⟩ : ByteArray)]).getD (r1.1 : Int).toNat ByteArray.empty) r2.1 r3 [] []
                else
                  none
              )
            )
          )
        )
      ) (
        agree (
          agree (
            (spec_l01Next.f s0 2).bind fun r1 =>
            if (0 : Int) ≤ r1.1 ∧ (r1.1 : Int) < ([(⟨#[118, 97, 110]⟩ : ByteArray), (⟨#[116, 114, 117, 99, 107]⟩ : ByteArray)]).length then
              agree (
                agree (
                  (spec_l01Next.f r1.2 1000).bind fun r2 =>
                  (spec_l03Names.f).bind fun r3 =>
                  I4 0 r2.2 ByteArray.empty 0 (([(⟨#[118, 97, 110]⟩ : ByteArray), (⟨#[116, 114, 117, 99, 107]⟩ : ByteArray)]).getD (r1.1 : Int).toNat ByteArray.empty) r2.1 r3 [] []
                ) (
                  (spec_l01Next.f r1.2 1000).bind fun r2 =>
                  (spec_l03Names.f).bind fun r3 =>
                  I4 0 r2.2 ByteArray.empty 0 (([(⟨#[118, 97, 110]⟩ : ByteArray), (⟨#[116, 114, 117, 99, 107]⟩ : ByteArray)]).getD (r1.1 : Int).toNat ByteArray.empty) r2.1 r3 [] []
                )
              ) (
                agree (
                  (spec_l01Next.f r1.2 1000).bind fun r2 =>
                  (spec_l03Names.f).bind fun r3 =>
                  I4 0 r2.2 ByteArray.empty 0 (([(⟨#[118, 97, 110]⟩ : ByteArray), (⟨#[116, 114, 117, 99, 107]⟩ : ByteArray)]).getD (r1.1 : Int).toNat ByteArray.empty) r2.1 r3 [] []
                ) (
                  agree (
                    (spec_l01Next.f r1.2 1000).bind fun r2 =>
                    (spec_l03Names.f).bind fun r3 =>
                    I4 0 r2.2 ByteArray.empty 0 (([(⟨#[118, 97, 110]⟩ : ByteArray), (⟨#[116, 114, 117, 99, 107]⟩ : ByteArray)]).getD (r1.1 : Int).toNat ByteArray.empty) r2.1 r3 [] []
                  ) (
                    (spec_l01Next.f r1.2 1000).bind fun r2 =>
                    (spec_l03Names.f).bind fun r3 =>
                    I4 0 r2.2 ByteArray.empty 0 (([(⟨#[118, 97, 110]⟩ : ByteArray), (⟨#[116, 114, 117, 99, 107]⟩ : ByteArray)]).getD (r1.1 : Int).toNat ByteArray.empty) r2.1 r3 [] []
                  )
                )
              )
            else
              none
          ) (
            (spec_l01Next.f s0 2).bind fun r1 =>
            if (0 : Int) ≤ r1.1 ∧ (r1.1 : Int) < ([(⟨#[118, 97, 110]⟩ : ByteArray), (⟨#[116, 114, 117, 99, 107]⟩ : ByteArray)]).length then
              agree (
                (spec_l01Next.f r1.2 1000).bind fun r2 =>
                (spec_l03Names.f).bind fun r3 =>
                I4 0 r2.2 ByteArray.empty 0 (([(⟨#[118, 97, 110]⟩ : ByteArray), (⟨#[116, 114, 117, 99, 107]⟩ : ByteArray)]).getD (r1.1 : Int).toNat ByteArray.empty) r2.1 r3 [] []
              ) (
                (spec_l01Next.f r1.2 1000).bind fun r2 =>
                (spec_l03Names.f).bind fun r3 =>
                I4 0 r2.2 ByteArray.empty 0 (([(⟨#[118, 97, 110]⟩ : ByteArray), (⟨#[116, 114, 117, 99, 107]⟩ : ByteArray)]).getD (r1.1 : Int).toNat ByteArray.empty) r2.1 r3 [] []
              )
            else
              none
          )
        ) (
          agree (
            (spec_l01Next.f s0 2).bind fun r1 =>
            agree (
              if (0 : Int) ≤ r1.1 ∧ (r1.1 : Int) < ([(⟨#[118, 97, 110]⟩ : ByteArray), (⟨#[116, 114, 117, 99, 107]⟩ : ByteArray)]).length then
                agree (
                  agree (
                    (spec_l01Next.f r1.2 1000).bind fun r2 =>
                    (spec_l03Names.f).bind fun r3 =>
                    I4 0 r2.2 ByteArray.empty 0 (([(⟨#[118, 97, 110]⟩ : ByteArray), (⟨#[116, 114, 117, 99, 107]⟩ : ByteArray)]).getD (r1.1 : Int).toNat ByteArray.empty) r2.1 r3 [] []
                  ) (
                    (spec_l01Next.f r1.2 1000).bind fun r2 =>
                    (spec_l03Names.f).bind fun r3 =>
                    I4 0 r2.2 ByteArray.empty 0 (([(⟨#[118, 97, 110]⟩ : ByteArray), (⟨#[116, 114, 117, 99, 107]⟩ : ByteArray)]).getD (r1.1 : Int).toNat ByteArray.empty) r2.1 r3 [] []
                  )
                ) (
                  agree (
                    (spec_l01Next.f r1.2 1000).bind fun r2 =>
                    (spec_l03Names.f).bind fun r3 =>
                    I4 0 r2.2 ByteArray.empty 0 (([(⟨#[118, 97, 110]⟩ : ByteArray), (⟨#[116, 114, 117, 99, 107]⟩ : ByteArray)]).getD (r1.1 : Int).toNat ByteArray.empty) r2.1 r3 [] []
                  ) (
                    agree (
                      (spec_l01Next.f r1.2 1000).bind fun r2 =>
                      (spec_l03Names.f).bind fun r3 =>
                      I4 0 r2.2 ByteArray.empty 0 (([(⟨#[118, 97, 110]⟩ : ByteArray), (⟨#[116, 114, 117, 99, 107]⟩ : ByteArray)]).getD (r1.1 : Int).toNat ByteArray.empty) r2.1 r3 [] []
                    ) (
                      (spec_l01Next.f r1.2 1000).bind fun r2 =>
                      (spec_l03Names.f).bind fun r3 =>
                      I4 0 r2.2 ByteArray.empty 0 (([(⟨#[118, 97, 110]⟩ : ByteArray), (⟨#[116, 114, 117, 99, 107]⟩ : ByteArray)]).getD (r1.1 : Int).toNat ByteArray.empty) r2.1 r3 [] []
                    )
                  )
                )
              else
                none
            ) (
              agree (
                (spec_l01Next.f r1.2 1000).bind fun r2 =>
                agree (
                  if (0 : Int) ≤ r1.1 ∧ (r1.1 : Int) < ([(⟨#[118, 97, 110]⟩ : ByteArray), (⟨#[116, 114, 117, 99, 107]⟩ : ByteArray)]).length then
                    (spec_l03Names.f).bind fun r3 =>
                    I4 0 r2.2 ByteArray.empty 0 (([(⟨#[118, 97, 110]⟩ : ByteArray), (⟨#[116, 114, 117, 99, 107]⟩ : ByteArray)]).getD (r1.1 : Int).toNat ByteArray.empty) r2.1 r3 [] []
                  else
                    none
                ) (
                  if (0 : Int) ≤ r1.1 ∧ (r1.1 : Int) < ([(⟨#[118, 97, 110]⟩ : ByteArray), (⟨#[116, 114, 117, 99, 107]⟩ : ByteArray)]).length then
                    (spec_l03Names.f).bind fun r3 =>
                    I4 0 r2.2 ByteArray.empty 0 (([(⟨#[118, 97, 110]⟩ : ByteArray), (⟨#[116, 114, 117, 99, 107]⟩ : ByteArray)]).getD (r1.1 : Int).toNat ByteArray.empty) r2.1 r3 [] []
                  else
                    none
                )
              ) (
                agree (
                  if (0 : Int) ≤ r1.1 ∧ (r1.1 : Int) < ([(⟨#[118, 97, 110]⟩ : ByteArray), (⟨#[116, 114, 117, 99, 107]⟩ : ByteArray)]).length then
                    agree (
                      (spec_l01Next.f r1.2 1000).bind fun r2 =>
                      (spec_l03Names.f).bind fun r3 =>
                      I4 0 r2.2 ByteArray.empty 0 (([(⟨#[118, 97, 110]⟩ : ByteArray), (⟨#[116, 114, 117, 99, 107]⟩ : ByteArray)]).getD (r1.1 : Int).toNat ByteArray.empty) r2.1 r3 [] []
                    ) (
                      (spec_l01Next.f r1.2 1000).bind fun r2 =>
                      (spec_l03Names.f).bind fun r3 =>
                      I4 0 r2.2 ByteArray.empty 0 (([(⟨#[118, 97, 110]⟩ : ByteArray), (⟨#[116, 114, 117, 99, 107]⟩ : ByteArray)]).getD (r1.1 : Int).toNat ByteArray.empty) r2.1 r3 [] []
                    )
                  else
                    none
                ) (
                  (spec_l01Next.f r1.2 1000).bind fun r2 =>
                  if (0 : Int) ≤ r1.1 ∧ (r1.1 : Int) < ([(⟨#[118, 97, 110]⟩ : ByteArray), (⟨#[116, 114, 117, 99, 107]⟩ : ByteArray)]).length then
                    (spec_l03Names.f).bind fun r3 =>
                    I4 0 r2.2 ByteArray.empty 0 (([(⟨#[118, 97, 110]⟩ : ByteArray), (⟨#[116, 114, 117, 99, 107]⟩ : ByteArray)]).getD (r1.1 : Int).toNat ByteArray.empty) r2.1 r3 [] []
                  else
                    none
                )
              )
            )
          ) (
            agree (
              (spec_l01Next.f s0 2).bind fun r1 =>
              if (0 : Int) ≤ r1.1 ∧ (r1.1 : Int) < ([(⟨#[118, 97, 110]⟩ : ByteArray), (⟨#[116, 114, 117, 99, 107]⟩ : ByteArray)]).length then
                agree (
                  (spec_l01Next.f r1.2 1000).bind fun r2 =>
                  (spec_l03Names.f).bind fun r3 =>
                  I4 0 r2.2 ByteArray.empty 0 (([(⟨#[118, 97, 110]⟩ : ByteArray), (⟨#[116, 114, 117, 99, 107]⟩ : ByteArray)]).getD (r1.1 : Int).toNat ByteArray.empty) r2.1 r3 [] []
                ) (
                  (spec_l01Next.f r1.2 1000).bind fun r2 =>
                  (spec_l03Names.f).bind fun r3 =>
                  I4 0 r2.2 ByteArray.empty 0 (([(⟨#[118, 97, 110]⟩ : ByteArray), (⟨#[116, 114, 117, 99, 107]⟩ : ByteArray)]).getD (r1.1 : Int).toNat ByteArray.empty) r2.1 r3 [] []
                )
              else
                none
            ) (
              (spec_l01Next.f s0 2).bind fun r1 =>
              agree (
                if (0 : Int) ≤ r1.1 ∧ (r1.1 : Int) < ([(⟨#[118, 97, 110]⟩ : ByteArray), (⟨#[116, 114, 117, 99, 107]⟩ : ByteArray)]).length then
                  agree (
                    (spec_l01Next.f r1.2 1000).bind fun r2 =>
                    (spec_l03Names.f).bind fun r3 =>
                    I4 0 r2.2 ByteArray.empty 0 (([(⟨#[118, 97, 110]⟩ : ByteArray), (⟨#[116, 114, 117, 99, 107]⟩ : ByteArray)]).getD (r1.1 : Int).toNat ByteArray.empty) r2.1 r3 [] []
                  ) (
                    (spec_l01Next.f r1.2 1000).bind fun r2 =>
                    (spec_l03Names.f).bind fun r3 =>
                    I4 0 r2.2 ByteArray.empty 0 (([(⟨#[118, 97, 110]⟩ : ByteArray), (⟨#[116, 114, 117, 99, 107]⟩ : ByteArray)]).getD (r1.1 : Int).toNat ByteArray.empty) r2.1 r3 [] []
                  )
                else
                  none
              ) (
                (spec_l01Next.f r1.2 1000).bind fun r2 =>
                if (0 : Int) ≤ r1.1 ∧ (r1.1 : Int) < ([(⟨#[118, 97, 110]⟩ : ByteArray), (⟨#[116, 114, 117, 99, 107]⟩ : ByteArray)]).length then
                  (spec_l03Names.f).bind fun r3 =>
                  I4 0 r2.2 ByteArray.empty 0 (([(⟨#[118, 97, 110]⟩ : ByteArray), (⟨#[116, 114, 117, 99, 107]⟩ : ByteArray)]).getD (r1.1 : Int).toNat ByteArray.empty) r2.1 r3 [] []
                else
                  none
              )
            )
          )
        )
      )
    )
  )
theorem spec_l29Good.topraw_eq (I4 : Int → (List Int × Int × Int) → ByteArray → Int → ByteArray → Int → List ByteArray → (List (ByteArray × Int)) → (List (ByteArray × Int)) → Option ((ByteArray × Int × List (ByteArray × Int)) × List Int × Int × Int)) (s0 : List Int × Int × Int) : spec_l29Good.topraw I4 s0 = spec_l29Good.top I4 s0 := by
  unfold spec_l29Good.topraw spec_l29Good.top
  simp only [agree_self]
def spec_l29Good.con : Con := { ps := [(.bx 158, (.pair (.sl 5 (.int .u8)) (.pair (.int .i64) (.int .i64))))], rs := [(.own, (.pair .str (.pair (.int .i64) (.sl 82 (.pair .str (.int .i64))))))], F := fun x => spec_l29Good.f x }
def spec_l29Good.cs : List (FuncId × Con) := [(96, spec_l01Next.con), (158, spec_l03Names.con)]
def spec_l29Good.E : Env := envOf tab spec_l29Good.cs 1 false
def spec_l29Good.keep (i : Nat) : List Nat := if i = 4 then [0, 2, 3, 4, 5] else []
def spec_l29Good.at4 (n : Nat) (x : List Int × Int × Int) : Code × (Ex → St → Option (((ByteArray × Int × List (ByteArray × Int)) × List Int × Int × Int))) := ctx spec_l29Good.E spec_l29Good.keep n [.snd, .snd, .snd, .fst, .snd, .blk] (codeOf Try.f140) (kEnd spec_l29Good.E Try.f140 spec_l29Good.con x)
def spec_l29Good.LN4 (n : Nat) (x : List Int × Int × Int) : Nat → St → Option (((ByteArray × Int × List (ByteArray × Int)) × List Int × Int × Int)) := loopN (exec spec_l29Good.E spec_l29Good.keep n (bodyOf (spec_l29Good.at4 n x).1)) (St.norm 1 (spec_l29Good.keep 4)) (spec_l29Good.at4 n x).2
set_option maxRecDepth 100000 in
theorem spec_l29Good.lem4 (n : Nat) (x : List Int × Int × Int) : ∀ (k : Nat) (i5 : Int) (s0 : List Int × Int × Int) (v2a : ByteArray) (v2ba : Int) (p3a : ByteArray) (p3ba : Int) (names4 : List ByteArray) (w4 : List (ByteArray × Int)) (w5 : List (ByteArray × Int)), spec_l29Good.LN4 n x k (spec_l29Good.st4 i5 s0 v2a v2ba p3a p3ba names4 w4 w5) = spec_l29Good.l4 n k i5 s0 v2a v2ba p3a p3ba names4 w4 w5 := by
  intro k
  induction k with
  | zero => intro i5 s0 v2a v2ba p3a p3ba names4 w4 w5; rfl
  | succ k ih =>
    intro i5 s0 v2a v2ba p3a p3ba names4 w4 w5
    have h : spec_l29Good.LN4 n x (k + 1) (spec_l29Good.st4 i5 s0 v2a v2ba p3a p3ba names4 w4 w5) = spec_l29Good.g4raw (fun i5 s0 v2a v2ba p3a p3ba names4 w4 w5 => spec_l29Good.LN4 n x k (spec_l29Good.st4 i5 s0 v2a v2ba p3a p3ba names4 w4 w5)) i5 s0 v2a v2ba p3a p3ba names4 w4 w5 := by kernel_rfl
    rw [spec_l29Good.g4raw_eq] at h
    rw [h]
    simp only [ih]
    rfl
set_option maxRecDepth 100000 in
theorem spec_l29Good.body (n : Nat) (x : List Int × Int × Int) : bodyF spec_l29Good.E spec_l29Good.keep n Try.f140 spec_l29Good.con x = spec_l29Good.fn n x := by
  have h : bodyF spec_l29Good.E spec_l29Good.keep n Try.f140 spec_l29Good.con x = spec_l29Good.topraw (fun i5 s0 v2a v2ba p3a p3ba names4 w4 w5 => spec_l29Good.LN4 n x n (spec_l29Good.st4 i5 s0 v2a v2ba p3a p3ba names4 w4 w5)) x := by kernel_rfl
  rw [spec_l29Good.topraw_eq] at h
  rw [h]
  simp only [spec_l29Good.lem4]
  rfl
set_option maxRecDepth 100000 in
theorem spec_l29Good.good : Good Try.prog 140 spec_l29Good.con :=
  good_of tabok (cs := spec_l29Good.cs) ⟨spec_l01Next.good, spec_l03Names.good, trivial⟩ 1 false (fn := Try.f140) Try.func140 rfl (by decide) (by simp [spec_l29Good.con]) spec_l29Good.keep NN (fun _ => rfl) (fun x => spec_l29Good.body NN x)
end
end Go.Ev.Try

namespace Go.Ev.Try
open Go.Proofs Go.Pl
set_option linter.unusedVariables false
noncomputable section
def spec_l29Draw.st9 (k4 : Int) (s0 : List Int × Int × Int) (v2a : ByteArray) (v2ba : Int) (p3a : ByteArray) (p3ba : Int) (w3 : List (ByteArray × Int)) (w4 : List (ByteArray × Int)) : St := ⟨[.ptr 0 [], .gone, .ptr 1 [], .ptr 2 [], .dat (.int .i64) k4, .gone, .gone, .gone, .gone, .gone, .gone, .gone, .gone, .gone, .gone, .gone, .gone, .gone, .gone, .gone, .gone, .gone, .gone, .gone, .gone, .gone, .gone, .gone, .gone, .gone, .gone, .gone, .gone, .gone, .gone, .gone, .gone, .gone, .gone, .gone, .gone, .gone, .gone, .gone, .gone, .gone, .gone, .gone, .gone, .gone, .gone, .gone, .gone, .gone, .gone], [.box 158 (.pair (.sl 5 (.int .u8)) (.pair (.int .i64) (.int .i64))) (.dat (.pair (.sl 5 (.int .u8)) (.pair (.int .i64) (.int .i64))) s0), .box 47 (.pair .str (.pair (.int .i64) (.sl 82 (.pair .str (.int .i64))))) (.pr (.dat .str v2a) (.pr (.dat (.int .i64) v2ba) (.ref 3))), .box 47 (.pair .str (.pair (.int .i64) (.sl 82 (.pair .str (.int .i64))))) (.pr (.dat .str p3a) (.pr (.dat (.int .i64) p3ba) (.ref 4))), .row 82 (.pair .str (.int .i64)) w3 none, .row 82 (.pair .str (.int .i64)) w4 none]⟩
def spec_l29Draw.g9raw (L9 : Int → (List Int × Int × Int) → ByteArray → Int → ByteArray → Int → (List (ByteArray × Int)) → (List (ByteArray × Int)) → Option ((ByteArray × Int × List (ByteArray × Int)) × List Int × Int × Int)) (k4 : Int) (s0 : List Int × Int × Int) (v2a : ByteArray) (v2ba : Int) (p3a : ByteArray) (p3ba : Int) (w3 : List (ByteArray × Int)) (w4 : List (ByteArray × Int)) : Option ((ByteArray × Int × List (ByteArray × Int)) × List Int × Int × Int) :=
  agree (
    (spec_l01Next.f s0 2).bind fun r6 =>
    if (decide (((w4.length : Int) : Int) < (IntKind.i64.wrap (12 + r6.1)))) = true then
      if (decide ((k4 : Int) < 14)) = true then
        if (0 : Int) ≤ k4 ∧ (k4 : Int) ≤ (IntKind.i64.wrap (k4 + 1)) ∧ ((IntKind.i64.wrap (k4 + 1)) : Int) ≤ (⟨#[97, 98, 99, 100, 101, 102, 103, 104, 105, 106, 107, 108, 109, 110]⟩ : ByteArray).size then
          if (⟨#[120]⟩ : ByteArray).size + ((⟨#[97, 98, 99, 100, 101, 102, 103, 104, 105, 106, 107, 108, 109, 110]⟩ : ByteArray).extract (k4 : Int).toNat ((IntKind.i64.wrap (k4 + 1)) : Int).toNat).size ≤ 9223372036854775807 then
            if w4.length + ([((⟨#[120]⟩ : ByteArray) ++ ((⟨#[97, 98, 99, 100, 101, 102, 103, 104, 105, 106, 107, 108, 109, 110]⟩ : ByteArray).extract (k4 : Int).toNat ((IntKind.i64.wrap (k4 + 1)) : Int).toNat), 1)]).length < room 24 then
              L9 (IntKind.i64.wrap (k4 + 1)) r6.2 v2a v2ba p3a p3ba w3 (w4 ++ ([((⟨#[120]⟩ : ByteArray) ++ ((⟨#[97, 98, 99, 100, 101, 102, 103, 104, 105, 106, 107, 108, 109, 110]⟩ : ByteArray).extract (k4 : Int).toNat ((IntKind.i64.wrap (k4 + 1)) : Int).toNat), 1)]))
            else
              none
          else
            none
        else
          none
      else
        some ((p3a, (p3ba, w4)), r6.2)
    else
      some ((p3a, (p3ba, w4)), r6.2)
  ) (
    (spec_l01Next.f s0 2).bind fun r6 =>
    if (decide (((w4.length : Int) : Int) < (IntKind.i64.wrap (12 + r6.1)))) = true then
      if (decide ((k4 : Int) < 14)) = true then
        if (0 : Int) ≤ k4 ∧ (k4 : Int) ≤ (IntKind.i64.wrap (k4 + 1)) ∧ ((IntKind.i64.wrap (k4 + 1)) : Int) ≤ (⟨#[97, 98, 99, 100, 101, 102, 103, 104, 105, 106, 107, 108, 109, 110]⟩ : ByteArray).size then
          if (⟨#[120]⟩ : ByteArray).size + ((⟨#[97, 98, 99, 100, 101, 102, 103, 104, 105, 106, 107, 108, 109, 110]⟩ : ByteArray).extract (k4 : Int).toNat ((IntKind.i64.wrap (k4 + 1)) : Int).toNat).size ≤ 9223372036854775807 then
            if w4.length + ([((⟨#[120]⟩ : ByteArray) ++ ((⟨#[97, 98, 99, 100, 101, 102, 103, 104, 105, 106, 107, 108, 109, 110]⟩ : ByteArray).extract (k4 : Int).toNat ((IntKind.i64.wrap (k4 + 1)) : Int).toNat), 1)]).length < room 24 then
              L9 (IntKind.i64.wrap (k4 + 1)) r6.2 v2a v2ba p3a p3ba w3 (w4 ++ ([((⟨#[120]⟩ : ByteArray) ++ ((⟨#[97, 98, 99, 100, 101, 102, 103, 104, 105, 106, 107, 108, 109, 110]⟩ : ByteArray).extract (k4 : Int).toNat ((IntKind.i64.wrap (k4 + 1)) : Int).toNat), 1)]))
            else
              none
          else
            none
        else
          none
      else
        some ((p3a, (p3ba, w4)), r6.2)
    else
      some ((p3a, (p3ba, w4)), r6.2)
  )
theorem spec_l29Draw.g9raw_eq (L9 : Int → (List Int × Int × Int) → ByteArray → Int → ByteArray → Int → (List (ByteArray × Int)) → (List (ByteArray × Int)) → Option ((ByteArray × Int × List (ByteArray × Int)) × List Int × Int × Int)) (k4 : Int) (s0 : List Int × Int × Int) (v2a : ByteArray) (v2ba : Int) (p3a : ByteArray) (p3ba : Int) (w3 : List (ByteArray × Int)) (w4 : List (ByteArray × Int)) : spec_l29Draw.g9raw L9 k4 s0 v2a v2ba p3a p3ba w3 w4 = spec_l29Draw.g9 L9 k4 s0 v2a v2ba p3a p3ba w3 w4 := by
  unfold spec_l29Draw.g9raw spec_l29Draw.g9
  simp only [agree_self]
def spec_l29Draw.topraw (I9 : Int → (List Int × Int × Int) → ByteArray → Int → ByteArray → Int → (List (ByteArray × Int)) → (List (ByteArray × Int)) → Option ((ByteArray × Int × List (ByteArray × Int)) × List Int × Int × Int)) (s0 : List Int × Int × Int) : Option ((ByteArray × Int × List (ByteArray × Int)) × List Int × Int × Int) :=
  (spec_l29Good.f s0).bind fun r1 =>
  (spec_l01Next.f r1.2 30).bind fun r2 =>
  if ((r2.1 : Int) == 0) = true then
    (spec_l01Pick.f r2.2 ([(-1), 0, 100000, 100001])).bind fun r3 =>
    some ((r1.1.1, (r3.1, r1.1.2.2)), r3.2)
  else if ((r2.1 : Int) == 1) = true then
    agree (
      agree (
        (spec_l01DrawWord.f r2.2).bind fun r4 =>
        (spec_l01Pick.f r4.2 ([0, 1, 1000, 1001])).bind fun r5 =>
        if r1.1.2.2.length + ([(r4.1, r5.1)]).length < room 24 then
          some ((r1.1.1, (r1.1.2.1, r1.1.2.2 ++ ([(r4.1, r5.1)]))), r5.2)
        else
          none
      ) (
        (spec_l01DrawWord.f r2.2).bind fun r4 =>
        (spec_l01Pick.f r4.2 ([0, 1, 1000, 1001])).bind fun r5 =>
        if r1.1.2.2.length + ([(r4.1, r5.1)]).length < room 24 then
          some ((r1.1.1, (r1.1.2.1, r1.1.2.2 ++ ([(r4.1, r5.1)]))), r5.2)
        else
          none
      )
    ) (
      agree (
        (spec_l01DrawWord.f r2.2).bind fun r4 =>
        agree (
          (spec_l01Pick.f r4.2 ([0, 1, 1000, 1001])).bind fun r5 =>
          if r1.1.2.2.length + ([(r4.1, r5.1)]).length < room 24 then
            some ((r1.1.1, (r1.1.2.1, r1.1.2.2 ++ ([(r4.1, r5.1)]))), r5.2)
          else
            none
        ) (
          agree (
            (spec_l01Pick.f r4.2 ([0, 1, 1000, 1001])).bind fun r5 =>
            if r1.1.2.2.length + ([(r4.1, r5.1)]).length < room 24 then
              some ((r1.1.1, (r1.1.2.1, r1.1.2.2 ++ ([(r4.1, r5.1)]))), r5.2)
            else
              none
          ) (
            (spec_l01Pick.f r4.2 ([0, 1, 1000, 1001])).bind fun r5 =>
            if r1.1.2.2.length + ([(r4.1, r5.1)]).length < room 24 then
              some ((r1.1.1, (r1.1.2.1, r1.1.2.2 ++ ([(r4.1, r5.1)]))), r5.2)
            else
              none
          )
        )
      ) (
        agree (
          (spec_l01DrawWord.f r2.2).bind fun r4 =>
          (spec_l01Pick.f r4.2 ([0, 1, 1000, 1001])).bind fun r5 =>
          if r1.1.2.2.length + ([(r4.1, r5.1)]).length < room 24 then
            some ((r1.1.1, (r1.1.2.1, r1.1.2.2 ++ ([(r4.1, r5.1)]))), r5.2)
          else
            none
        ) (
          (spec_l01DrawWord.f r2.2).bind fun r4 =>
          agree (
            (spec_l01Pick.f r4.2 ([0, 1, 1000, 1001])).bind fun r5 =>
            if r1.1.2.2.length + ([(r4.1, r5.1)]).length < room 24 then
              some ((r1.1.1, (r1.1.2.1, r1.1.2.2 ++ ([(r4.1, r5.1)]))), r5.2)
            else
              none
          ) (
            (spec_l01Pick.f r4.2 ([0, 1, 1000, 1001])).bind fun r5 =>
            if r1.1.2.2.length + ([(r4.1, r5.1)]).length < room 24 then
              some ((r1.1.1, (r1.1.2.1, r1.1.2.2 ++ ([(r4.1, r5.1)]))), r5.2)
            else
              none
          )
        )
      )
    )
  else if ((r2.1 : Int) == 2) = true then
    I9 0 r2.2 ByteArray.empty 0 r1.1.1 r1.1.2.1 [] r1.1.2.2
  else
    some ((r1.1.1, (r1.1.2.1, r1.1.2.2)), r2.2)
theorem spec_l29Draw.topraw_eq (I9 : Int → (List Int × Int × Int) → ByteArray → Int → ByteArray → Int → (List (ByteArray × Int)) → (List (ByteArray × Int)) → Option ((ByteArray × Int × List (ByteArray × Int)) × List Int × Int × Int)) (s0 : List Int × Int × Int) : spec_l29Draw.topraw I9 s0 = spec_l29Draw.top I9 s0 := by
  unfold spec_l29Draw.topraw spec_l29Draw.top
  simp only [agree_self]
def spec_l29Draw.con : Con := { ps := [(.bx 158, (.pair (.sl 5 (.int .u8)) (.pair (.int .i64) (.int .i64))))], rs := [(.own, (.pair .str (.pair (.int .i64) (.sl 82 (.pair .str (.int .i64))))))], F := fun x => spec_l29Draw.f x }
def spec_l29Draw.cs : List (FuncId × Con) := [(95, spec_l01Pick.con), (96, spec_l01Next.con), (139, spec_l01DrawWord.con), (140, spec_l29Good.con)]
def spec_l29Draw.E : Env := envOf tab spec_l29Draw.cs 1 false
def spec_l29Draw.keep (i : Nat) : List Nat := if i = 9 then [0, 2, 3, 4] else []
def spec_l29Draw.at9 (n : Nat) (x : List Int × Int × Int) : Code × (Ex → St → Option (((ByteArray × Int × List (ByteArray × Int)) × List Int × Int × Int))) := ctx spec_l29Draw.E spec_l29Draw.keep n [.snd, .snd, .fst, .snd, .blk, .snd, .no, .snd, .no, .snd, .yes, .snd, .blk] (codeOf Try.f98) (kEnd spec_l29Draw.E Try.f98 spec_l29Draw.con x)
def spec_l29Draw.LN9 (n : Nat) (x : List Int × Int × Int) : Nat → St → Option (((ByteArray × Int × List (ByteArray × Int)) × List Int × Int × Int)) := loopN (exec spec_l29Draw.E spec_l29Draw.keep n (bodyOf (spec_l29Draw.at9 n x).1)) (St.norm 1 (spec_l29Draw.keep 9)) (spec_l29Draw.at9 n x).2
set_option maxRecDepth 100000 in
theorem spec_l29Draw.lem9 (n : Nat) (x : List Int × Int × Int) : ∀ (k : Nat) (k4 : Int) (s0 : List Int × Int × Int) (v2a : ByteArray) (v2ba : Int) (p3a : ByteArray) (p3ba : Int) (w3 : List (ByteArray × Int)) (w4 : List (ByteArray × Int)), spec_l29Draw.LN9 n x k (spec_l29Draw.st9 k4 s0 v2a v2ba p3a p3ba w3 w4) = spec_l29Draw.l9 n k k4 s0 v2a v2ba p3a p3ba w3 w4 := by
  intro k
  induction k with
  | zero => intro k4 s0 v2a v2ba p3a p3ba w3 w4; rfl
  | succ k ih =>
    intro k4 s0 v2a v2ba p3a p3ba w3 w4
    have h : spec_l29Draw.LN9 n x (k + 1) (spec_l29Draw.st9 k4 s0 v2a v2ba p3a p3ba w3 w4) = spec_l29Draw.g9raw (fun k4 s0 v2a v2ba p3a p3ba w3 w4 => spec_l29Draw.LN9 n x k (spec_l29Draw.st9 k4 s0 v2a v2ba p3a p3ba w3 w4)) k4 s0 v2a v2ba p3a p3ba w3 w4 := by kernel_rfl
    rw [spec_l29Draw.g9raw_eq] at h
    rw [h]
    simp only [ih]
    rfl
set_option maxRecDepth 100000 in
theorem spec_l29Draw.body (n : Nat) (x : List Int × Int × Int) : bodyF spec_l29Draw.E spec_l29Draw.keep n Try.f98 spec_l29Draw.con x = spec_l29Draw.fn n x := by
  have h : bodyF spec_l29Draw.E spec_l29Draw.keep n Try.f98 spec_l29Draw.con x = spec_l29Draw.topraw (fun k4 s0 v2a v2ba p3a p3ba w3 w4 => spec_l29Draw.LN9 n x n (spec_l29Draw.st9 k4 s0 v2a v2ba p3a p3ba w3 w4)) x := by kernel_rfl
  rw [spec_l29Draw.topraw_eq] at h
  rw [h]
  simp only [spec_l29Draw.lem9]
  rfl
set_option maxRecDepth 100000 in
theorem spec_l29Draw.good : Good Try.prog 98 spec_l29Draw.con :=
  good_of tabok (cs := spec_l29Draw.cs) ⟨spec_l01Pick.good, spec_l01Next.good, spec_l01DrawWord.good, spec_l29Good.good, trivial⟩ 1 false (fn := Try.f98) Try.func98 rfl (by decide) (by simp [spec_l29Draw.con]) spec_l29Draw.keep NN (fun _ => rfl) (fun x => spec_l29Draw.body NN x)
end
end Go.Ev.Try

namespace Go.Ev.Try
open Go.Proofs Go.Pl
set_option linter.unusedVariables false
noncomputable section
def spec_DrawMergePapers.topraw (code0 : List Int) : Option ((ByteArray × Int × List (ByteArray × Int)) × ByteArray × Int × List (ByteArray × Int)) :=
  (spec_l01From.f code0).bind fun r1 =>
  (spec_l29Draw.f r1).bind fun r2 =>
  (spec_l29Draw.f r2.2).bind fun r3 =>
  if (decide ((0 : Int) < (r2.1.2.2.length : Int))) = true then
    (spec_l01Next.f r3.2 16).bind fun r4 =>
    if ((r4.1 : Int) == 0) = true then
      if (0 : Int) ≤ 0 ∧ (0 : Int) < r2.1.2.2.length then
        (some (r2.1.2.2.set (0 : Int).toNat ((r2.1.2.2.getD (0 : Int).toNat (ByteArray.empty, 0)).1, 995))).bind fun r5 =>
        agree (
          agree (
            some ((r2.1.1, (r2.1.2.1, r5)), (r3.1.1, (r3.1.2.1, r3.1.2.2)))
          ) (
            some ((r2.1.1, (r2.1.2.1, r5)), (r3.1.1, (r3.1.2.1, r3.1.2.2)))
          )
        ) (
          some ((r2.1.1, (r2.1.2.1, r5)), (r3.1.1, (r3.1.2.1, r3.1.2.2)))
        )
      else
        none
    else
      agree (
        agree (
          some ((r2.1.1, (r2.1.2.1, r2.1.2.2)), (r3.1.1, (r3.1.2.1, r3.1.2.2)))
        ) (
          some ((r2.1.1, (r2.1.2.1, r2.1.2.2)), (r3.1.1, (r3.1.2.1, r3.1.2.2)))
        )
      ) (
        some ((r2.1.1, (r2.1.2.1, r2.1.2.2)), (r3.1.1, (r3.1.2.1, r3.1.2.2)))
      )
  else
    agree (
      agree (
        some ((r2.1.1, (r2.1.2.1, r2.1.2.2)), (r3.1.1, (r3.1.2.1, r3.1.2.2)))
      ) (
        some ((r2.1.1, (r2.1.2.1, r2.1.2.2)), (r3.1.1, (r3.1.2.1, r3.1.2.2)))
      )
    ) (
      some ((r2.1.1, (r2.1.2.1, r2.1.2.2)), (r3.1.1, (r3.1.2.1, r3.1.2.2)))
    )
theorem spec_DrawMergePapers.topraw_eq (code0 : List Int) : spec_DrawMergePapers.topraw code0 = spec_DrawMergePapers.top code0 := by
  unfold spec_DrawMergePapers.topraw spec_DrawMergePapers.top
  simp only [agree_self]
def spec_DrawMergePapers.con : Con := { ps := [(.val, (.sl 5 (.int .u8)))], rs := [(.own, (.pair .str (.pair (.int .i64) (.sl 82 (.pair .str (.int .i64)))))), (.own, (.pair .str (.pair (.int .i64) (.sl 82 (.pair .str (.int .i64))))))], F := fun x => spec_DrawMergePapers.f x }
def spec_DrawMergePapers.cs : List (FuncId × Con) := [(93, spec_l01From.con), (96, spec_l01Next.con), (98, spec_l29Draw.con)]
def spec_DrawMergePapers.E : Env := envOf tab spec_DrawMergePapers.cs 0 false
def spec_DrawMergePapers.keep (i : Nat) : List Nat := []
set_option maxRecDepth 100000 in
theorem spec_DrawMergePapers.body (n : Nat) (x : List Int) : bodyF spec_DrawMergePapers.E spec_DrawMergePapers.keep n Try.f35 spec_DrawMergePapers.con x = spec_DrawMergePapers.fn n x := by
  have h : bodyF spec_DrawMergePapers.E spec_DrawMergePapers.keep n Try.f35 spec_DrawMergePapers.con x = spec_DrawMergePapers.topraw x := by kernel_rfl
  rw [spec_DrawMergePapers.topraw_eq] at h
  exact h
set_option maxRecDepth 100000 in
theorem spec_DrawMergePapers.good : Good Try.prog 35 spec_DrawMergePapers.con :=
  good_of tabok (cs := spec_DrawMergePapers.cs) ⟨spec_l01From.good, spec_l01Next.good, spec_l29Draw.good, trivial⟩ 0 false (fn := Try.f35) Try.func35 rfl (by decide) (by simp [spec_DrawMergePapers.con]) spec_DrawMergePapers.keep NN (fun _ => rfl) (fun x => spec_DrawMergePapers.body NN x)
end
end Go.Ev.Try

namespace Go.Ev.Try
open Go.Proofs Go.Pl
set_option linter.unusedVariables false
noncomputable section
def impl_IsWord.st4 (s0 : ByteArray) (i3 : Int) : St := ⟨[.dat .str s0, .gone, .gone, .dat (.int .i64) i3, .gone, .gone, .gone, .gone, .gone, .gone, .gone, .gone, .gone, .gone, .gone, .gone, .gone, .gone, .gone, .gone, .gone, .gone, .gone, .gone, .gone, .gone, .gone, .gone], []⟩
def impl_IsWord.con : Con := { ps := [(.val, .str)], rs := [(.val, .bool)], F := fun x => impl_IsWord.f x }
def impl_IsWord.cs : List (FuncId × Con) := []
def impl_IsWord.E : Env := envOf tab impl_IsWord.cs 0 false
def impl_IsWord.keep (i : Nat) : List Nat := if i = 4 then [0, 3] else []
def impl_IsWord.at4 (n : Nat) (x : ByteArray) : Code × (Ex → St → Option (Bool)) := ctx impl_IsWord.E impl_IsWord.keep n [.snd, .snd, .fst, .snd, .blk] (codeOf Try.f97) (kEnd impl_IsWord.E Try.f97 impl_IsWord.con x)
def impl_IsWord.LN4 (n : Nat) (x : ByteArray) : Nat → St → Option (Bool) := loopN (exec impl_IsWord.E impl_IsWord.keep n (bodyOf (impl_IsWord.at4 n x).1)) (St.norm 0 (impl_IsWord.keep 4)) (impl_IsWord.at4 n x).2
set_option maxRecDepth 100000 in
theorem impl_IsWord.lem4 (n : Nat) (x : ByteArray) : ∀ (k : Nat) (s0 : ByteArray) (i3 : Int), impl_IsWord.LN4 n x k (impl_IsWord.st4 s0 i3) = impl_IsWord.l4 n k s0 i3 := by
  intro k
  induction k with
  | zero => intro s0 i3; rfl
  | succ k ih =>
    intro s0 i3
    have h : impl_IsWord.LN4 n x (k + 1) (impl_IsWord.st4 s0 i3) = impl_IsWord.g4 (fun s0 i3 => impl_IsWord.LN4 n x k (impl_IsWord.st4 s0 i3)) s0 i3 := by kernel_rfl
    rw [h]
    simp only [ih]
    rfl
set_option maxRecDepth 100000 in
theorem impl_IsWord.body (n : Nat) (x : ByteArray) : bodyF impl_IsWord.E impl_IsWord.keep n Try.f97 impl_IsWord.con x = impl_IsWord.fn n x := by
  have h : bodyF impl_IsWord.E impl_IsWord.keep n Try.f97 impl_IsWord.con x = impl_IsWord.top (fun s0 i3 => impl_IsWord.LN4 n x n (impl_IsWord.st4 s0 i3)) x := by kernel_rfl
  rw [h]
  simp only [impl_IsWord.lem4]
  rfl
set_option maxRecDepth 100000 in
theorem impl_IsWord.good : Good Try.prog 97 impl_IsWord.con :=
  good_of tabok (cs := impl_IsWord.cs) trivial 0 false (fn := Try.f97) Try.func97 rfl (by decide) (by simp [impl_IsWord.con]) impl_IsWord.keep NN (fun _ => rfl) (fun x => impl_IsWord.body NN x)
end
end Go.Ev.Try

namespace Go.Ev.Try
open Go.Proofs Go.Pl
set_option linter.unusedVariables false
noncomputable section
def impl_within.con : Con := { ps := [(.val, (.int .i64)), (.val, (.int .i64)), (.val, (.int .i64))], rs := [(.val, .bool)], F := fun x => impl_within.f x.1 x.2.1 x.2.2 }
def impl_within.cs : List (FuncId × Con) := []
def impl_within.E : Env := envOf tab impl_within.cs 0 false
def impl_within.keep (i : Nat) : List Nat := []
set_option maxRecDepth 100000 in
theorem impl_within.body (n : Nat) (x : Int × Int × Int) : bodyF impl_within.E impl_within.keep n Try.f90 impl_within.con x = impl_within.fn n x.1 x.2.1 x.2.2 := by
  have h : bodyF impl_within.E impl_within.keep n Try.f90 impl_within.con x = impl_within.top x.1 x.2.1 x.2.2 := by kernel_rfl
  exact h
set_option maxRecDepth 100000 in
theorem impl_within.good : Good Try.prog 90 impl_within.con :=
  good_of tabok (cs := impl_within.cs) trivial 0 false (fn := Try.f90) Try.func90 rfl (by decide) (by simp [impl_within.con]) impl_within.keep NN (fun _ => rfl) (fun x => impl_within.body NN x)
end
end Go.Ev.Try

namespace Go.Ev.Try
open Go.Proofs Go.Pl
set_option linter.unusedVariables false
noncomputable section
def impl_areLines.st4 (lines0 : List (ByteArray × Int)) (v8 : List (ByteArray × Int)) (v9 : Int) (v10 : Int) : St := ⟨[.dat (.sl 82 (.pair .str (.int .i64))) lines0, .gone, .gone, .gone, .gone, .gone, .gone, .gone, .dat (.sl 82 (.pair .str (.int .i64))) v8, .dat (.int .i64) v9, .dat (.int .i64) v10, .gone, .gone, .gone, .gone, .gone, .gone, .gone, .gone, .gone, .gone, .gone, .gone, .gone, .gone, .gone, .gone, .gone, .gone, .gone, .gone, .gone, .gone, .gone, .gone, .gone, .gone, .gone, .gone, .gone, .gone], []⟩
def impl_areLines.con : Con := { ps := [(.val, (.sl 82 (.pair .str (.int .i64))))], rs := [(.val, .bool)], F := fun x => impl_areLines.f x }
def impl_areLines.cs : List (FuncId × Con) := [(90, impl_within.con), (97, impl_IsWord.con)]
def impl_areLines.E : Env := envOf tab impl_areLines.cs 0 false
def impl_areLines.keep (i : Nat) : List Nat := if i = 4 then [0, 8, 9, 10] else []
def impl_areLines.at4 (n : Nat) (x : List (ByteArray × Int)) : Code × (Ex → St → Option (Bool)) := ctx impl_areLines.E impl_areLines.keep n [.snd, .snd, .fst, .snd, .blk] (codeOf Try.f101) (kEnd impl_areLines.E Try.f101 impl_areLines.con x)
def impl_areLines.LN4 (n : Nat) (x : List (ByteArray × Int)) : Nat → St → Option (Bool) := loopN (exec impl_areLines.E impl_areLines.keep n (bodyOf (impl_areLines.at4 n x).1)) (St.norm 0 (impl_areLines.keep 4)) (impl_areLines.at4 n x).2
set_option maxRecDepth 100000 in
theorem impl_areLines.lem4 (n : Nat) (x : List (ByteArray × Int)) : ∀ (k : Nat) (lines0 : List (ByteArray × Int)) (v8 : List (ByteArray × Int)) (v9 : Int) (v10 : Int), impl_areLines.LN4 n x k (impl_areLines.st4 lines0 v8 v9 v10) = impl_areLines.l4 n k lines0 v8 v9 v10 := by
  intro k
  induction k with
  | zero => intro lines0 v8 v9 v10; rfl
  | succ k ih =>
    intro lines0 v8 v9 v10
    have h : impl_areLines.LN4 n x (k + 1) (impl_areLines.st4 lines0 v8 v9 v10) = impl_areLines.g4 (fun lines0 v8 v9 v10 => impl_areLines.LN4 n x k (impl_areLines.st4 lines0 v8 v9 v10)) lines0 v8 v9 v10 := by kernel_rfl
    rw [h]
    simp only [ih]
    rfl
set_option maxRecDepth 100000 in
theorem impl_areLines.body (n : Nat) (x : List (ByteArray × Int)) : bodyF impl_areLines.E impl_areLines.keep n Try.f101 impl_areLines.con x = impl_areLines.fn n x := by
  have h : bodyF impl_areLines.E impl_areLines.keep n Try.f101 impl_areLines.con x = impl_areLines.top (fun lines0 v8 v9 v10 => impl_areLines.LN4 n x n (impl_areLines.st4 lines0 v8 v9 v10)) x := by kernel_rfl
  rw [h]
  simp only [impl_areLines.lem4]
  rfl
set_option maxRecDepth 100000 in
theorem impl_areLines.good : Good Try.prog 101 impl_areLines.con :=
  good_of tabok (cs := impl_areLines.cs) ⟨impl_within.good, impl_IsWord.good, trivial⟩ 0 false (fn := Try.f101) Try.func101 rfl (by decide) (by simp [impl_areLines.con]) impl_areLines.keep NN (fun _ => rfl) (fun x => impl_areLines.body NN x)
end
end Go.Ev.Try

namespace Go.Ev.Try
open Go.Proofs Go.Pl
set_option linter.unusedVariables false
noncomputable section
def impl_isDay.con : Con := { ps := [(.val, (.int .i64))], rs := [(.val, .bool)], F := fun x => impl_isDay.f x }
def impl_isDay.cs : List (FuncId × Con) := [(90, impl_within.con)]
def impl_isDay.E : Env := envOf tab impl_isDay.cs 0 false
def impl_isDay.keep (i : Nat) : List Nat := []
set_option maxRecDepth 100000 in
theorem impl_isDay.body (n : Nat) (x : Int) : bodyF impl_isDay.E impl_isDay.keep n Try.f106 impl_isDay.con x = impl_isDay.fn n x := by
  have h : bodyF impl_isDay.E impl_isDay.keep n Try.f106 impl_isDay.con x = impl_isDay.top x := by kernel_rfl
  exact h
set_option maxRecDepth 100000 in
theorem impl_isDay.good : Good Try.prog 106 impl_isDay.con :=
  good_of tabok (cs := impl_isDay.cs) ⟨impl_within.good, trivial⟩ 0 false (fn := Try.f106) Try.func106 rfl (by decide) (by simp [impl_isDay.con]) impl_isDay.keep NN (fun _ => rfl) (fun x => impl_isDay.body NN x)
end
end Go.Ev.Try

namespace Go.Ev.Try
open Go.Proofs Go.Pl
set_option linter.unusedVariables false
noncomputable section
def impl_IsPaper.con : Con := { ps := [(.val, (.pair .str (.pair (.int .i64) (.sl 82 (.pair .str (.int .i64))))))], rs := [(.val, .bool)], F := fun x => impl_IsPaper.f x }
def impl_IsPaper.cs : List (FuncId × Con) := [(97, impl_IsWord.con), (101, impl_areLines.con), (106, impl_isDay.con)]
def impl_IsPaper.E : Env := envOf tab impl_IsPaper.cs 0 false
def impl_IsPaper.keep (i : Nat) : List Nat := []
set_option maxRecDepth 100000 in
theorem impl_IsPaper.body (n : Nat) (x : ByteArray × Int × List (ByteArray × Int)) : bodyF impl_IsPaper.E impl_IsPaper.keep n Try.f42 impl_IsPaper.con x = impl_IsPaper.fn n x := by
  have h : bodyF impl_IsPaper.E impl_IsPaper.keep n Try.f42 impl_IsPaper.con x = impl_IsPaper.top x := by kernel_rfl
  exact h
set_option maxRecDepth 100000 in
theorem impl_IsPaper.good : Good Try.prog 42 impl_IsPaper.con :=
  good_of tabok (cs := impl_IsPaper.cs) ⟨impl_IsWord.good, impl_areLines.good, impl_isDay.good, trivial⟩ 0 false (fn := Try.f42) Try.func42 rfl (by decide) (by simp [impl_IsPaper.con]) impl_IsPaper.keep NN (fun _ => rfl) (fun x => impl_IsPaper.body NN x)
end
end Go.Ev.Try

namespace Go.Ev.Try
open Go.Proofs Go.Pl
set_option linter.unusedVariables false
noncomputable section
def impl_putLine.st4 (article1 : ByteArray) (count2 : Int) (placed8 : Bool) (v13 : List (ByteArray × Int)) (v14 : Int) (v15 : Int) (out7 : List (ByteArray × Int)) : St := ⟨[.gone, .dat .str article1, .dat (.int .i64) count2, .gone, .gone, .gone, .gone, .ref 0, .dat .bool placed8, .gone, .gone, .gone, .gone, .dat (.sl 82 (.pair .str (.int .i64))) v13, .dat (.int .i64) v14, .dat (.int .i64) v15, .gone, .gone, .gone, .gone, .gone, .gone, .gone, .gone, .gone, .gone, .gone, .gone, .gone, .gone, .gone, .gone, .gone, .gone, .gone, .gone, .gone, .gone, .gone, .gone, .gone, .gone, .gone, .gone, .gone, .gone, .gone, .gone, .gone, .gone, .gone], [.row 82 (.pair .str (.int .i64)) out7 none]⟩
def impl_putLine.con : Con := { ps := [(.val, (.sl 82 (.pair .str (.int .i64)))), (.val, .str), (.val, (.int .i64))], rs := [(.own, (.sl 82 (.pair .str (.int .i64))))], F := fun x => impl_putLine.f x.1 x.2.1 x.2.2 }
def impl_putLine.cs : List (FuncId × Con) := []
def impl_putLine.E : Env := envOf tab impl_putLine.cs 0 false
def impl_putLine.keep (i : Nat) : List Nat := if i = 4 then [1, 2, 7, 8, 13, 14, 15] else []
def impl_putLine.at4 (n : Nat) (x : (List (ByteArray × Int)) × ByteArray × Int) : Code × (Ex → St → Option ((List (ByteArray × Int)))) := ctx impl_putLine.E impl_putLine.keep n [.snd, .snd, .snd, .fst, .snd, .blk] (codeOf Try.f99) (kEnd impl_putLine.E Try.f99 impl_putLine.con x)
def impl_putLine.LN4 (n : Nat) (x : (List (ByteArray × Int)) × ByteArray × Int) : Nat → St → Option ((List (ByteArray × Int))) := loopN (exec impl_putLine.E impl_putLine.keep n (bodyOf (impl_putLine.at4 n x).1)) (St.norm 0 (impl_putLine.keep 4)) (impl_putLine.at4 n x).2
set_option maxRecDepth 100000 in
theorem impl_putLine.lem4 (n : Nat) (x : (List (ByteArray × Int)) × ByteArray × Int) : ∀ (k : Nat) (article1 : ByteArray) (count2 : Int) (placed8 : Bool) (v13 : List (ByteArray × Int)) (v14 : Int) (v15 : Int) (out7 : List (ByteArray × Int)), impl_putLine.LN4 n x k (impl_putLine.st4 article1 count2 placed8 v13 v14 v15 out7) = impl_putLine.l4 n k article1 count2 placed8 v13 v14 v15 out7 := by
  intro k
  induction k with
  | zero => intro article1 count2 placed8 v13 v14 v15 out7; rfl
  | succ k ih =>
    intro article1 count2 placed8 v13 v14 v15 out7
    have h : impl_putLine.LN4 n x (k + 1) (impl_putLine.st4 article1 count2 placed8 v13 v14 v15 out7) = impl_putLine.g4 (fun article1 count2 placed8 v13 v14 v15 out7 => impl_putLine.LN4 n x k (impl_putLine.st4 article1 count2 placed8 v13 v14 v15 out7)) article1 count2 placed8 v13 v14 v15 out7 := by kernel_rfl
    rw [h]
    simp only [ih]
    rfl
set_option maxRecDepth 100000 in
theorem impl_putLine.body (n : Nat) (x : (List (ByteArray × Int)) × ByteArray × Int) : bodyF impl_putLine.E impl_putLine.keep n Try.f99 impl_putLine.con x = impl_putLine.fn n x.1 x.2.1 x.2.2 := by
  have h : bodyF impl_putLine.E impl_putLine.keep n Try.f99 impl_putLine.con x = impl_putLine.top (fun article1 count2 placed8 v13 v14 v15 out7 => impl_putLine.LN4 n x n (impl_putLine.st4 article1 count2 placed8 v13 v14 v15 out7)) x.1 x.2.1 x.2.2 := by kernel_rfl
  rw [h]
  simp only [impl_putLine.lem4]
  rfl
set_option maxRecDepth 100000 in
theorem impl_putLine.good : Good Try.prog 99 impl_putLine.con :=
  good_of tabok (cs := impl_putLine.cs) trivial 0 false (fn := Try.f99) Try.func99 rfl (by decide) (by simp [impl_putLine.con]) impl_putLine.keep NN (fun _ => rfl) (fun x => impl_putLine.body NN x)
end
end Go.Ev.Try

namespace Go.Ev.Try
open Go.Proofs Go.Pl
set_option linter.unusedVariables false
noncomputable section
def impl_countIn.st2 (article1 : ByteArray) (v7 : List (ByteArray × Int)) (v8 : Int) (v9 : Int) : St := ⟨[.gone, .dat .str article1, .gone, .gone, .gone, .gone, .gone, .dat (.sl 82 (.pair .str (.int .i64))) v7, .dat (.int .i64) v8, .dat (.int .i64) v9, .gone, .gone, .gone, .gone, .gone, .gone, .gone, .gone, .gone, .gone], []⟩
def impl_countIn.con : Con := { ps := [(.val, (.sl 82 (.pair .str (.int .i64)))), (.val, .str)], rs := [(.val, (.int .i64))], F := fun x => impl_countIn.f x.1 x.2 }
def impl_countIn.cs : List (FuncId × Con) := []
def impl_countIn.E : Env := envOf tab impl_countIn.cs 0 false
def impl_countIn.keep (i : Nat) : List Nat := if i = 2 then [1, 7, 8, 9] else []
def impl_countIn.at2 (n : Nat) (x : (List (ByteArray × Int)) × ByteArray) : Code × (Ex → St → Option (Int)) := ctx impl_countIn.E impl_countIn.keep n [.snd, .fst, .snd, .blk] (codeOf Try.f100) (kEnd impl_countIn.E Try.f100 impl_countIn.con x)
def impl_countIn.LN2 (n : Nat) (x : (List (ByteArray × Int)) × ByteArray) : Nat → St → Option (Int) := loopN (exec impl_countIn.E impl_countIn.keep n (bodyOf (impl_countIn.at2 n x).1)) (St.norm 0 (impl_countIn.keep 2)) (impl_countIn.at2 n x).2
set_option maxRecDepth 100000 in
theorem impl_countIn.lem2 (n : Nat) (x : (List (ByteArray × Int)) × ByteArray) : ∀ (k : Nat) (article1 : ByteArray) (v7 : List (ByteArray × Int)) (v8 : Int) (v9 : Int), impl_countIn.LN2 n x k (impl_countIn.st2 article1 v7 v8 v9) = impl_countIn.l2 n k article1 v7 v8 v9 := by
  intro k
  induction k with
  | zero => intro article1 v7 v8 v9; rfl
  | succ k ih =>
    intro article1 v7 v8 v9
    have h : impl_countIn.LN2 n x (k + 1) (impl_countIn.st2 article1 v7 v8 v9) = impl_countIn.g2 (fun article1 v7 v8 v9 => impl_countIn.LN2 n x k (impl_countIn.st2 article1 v7 v8 v9)) article1 v7 v8 v9 := by kernel_rfl
    rw [h]
    simp only [ih]
    rfl
set_option maxRecDepth 100000 in
theorem impl_countIn.body (n : Nat) (x : (List (ByteArray × Int)) × ByteArray) : bodyF impl_countIn.E impl_countIn.keep n Try.f100 impl_countIn.con x = impl_countIn.fn n x.1 x.2 := by
  have h : bodyF impl_countIn.E impl_countIn.keep n Try.f100 impl_countIn.con x = impl_countIn.top (fun article1 v7 v8 v9 => impl_countIn.LN2 n x n (impl_countIn.st2 article1 v7 v8 v9)) x.1 x.2 := by kernel_rfl
  rw [h]
  simp only [impl_countIn.lem2]
  rfl
set_option maxRecDepth 100000 in
theorem impl_countIn.good : Good Try.prog 100 impl_countIn.con :=
  good_of tabok (cs := impl_countIn.cs) trivial 0 false (fn := Try.f100) Try.func100 rfl (by decide) (by simp [impl_countIn.con]) impl_countIn.keep NN (fun _ => rfl) (fun x => impl_countIn.body NN x)
end
end Go.Ev.Try

namespace Go.Ev.Try
open Go.Proofs Go.Pl
set_option linter.unusedVariables false
noncomputable section
def impl_withLines.con : Con := { ps := [(.val, (.pair .str (.pair (.int .i64) (.sl 82 (.pair .str (.int .i64)))))), (.own, (.sl 82 (.pair .str (.int .i64))))], rs := [(.own, (.pair .str (.pair (.int .i64) (.sl 82 (.pair .str (.int .i64))))))], gv := true, F := fun x => impl_withLines.f x.1 x.2 }
def impl_withLines.cs : List (FuncId × Con) := []
def impl_withLines.E : Env := envOf tab impl_withLines.cs 0 false
def impl_withLines.keep (i : Nat) : List Nat := []
set_option maxRecDepth 100000 in
theorem impl_withLines.body (n : Nat) (x : (ByteArray × Int × List (ByteArray × Int)) × List (ByteArray × Int)) : bodyF impl_withLines.E impl_withLines.keep n Try.f102 impl_withLines.con x = impl_withLines.fn n x.1 x.2 := by
  have h : bodyF impl_withLines.E impl_withLines.keep n Try.f102 impl_withLines.con x = impl_withLines.top x.1 x.2 := by kernel_rfl
  exact h
set_option maxRecDepth 100000 in
theorem impl_withLines.good : Good Try.prog 102 impl_withLines.con :=
  good_of tabok (cs := impl_withLines.cs) trivial 0 false (fn := Try.f102) Try.func102 rfl (by decide) (by simp [impl_withLines.con]) impl_withLines.keep NN (fun _ => rfl) (fun x => impl_withLines.body NN x)
end
end Go.Ev.Try

namespace Go.Ev.Try
open Go.Proofs Go.Pl
set_option linter.unusedVariables false
noncomputable section
def impl_MergePapers.st5 (v23 : List (ByteArray × Int)) (v24 : Int) (v25 : Int) (a2 : ByteArray × Int × List (ByteArray × Int)) (v4a : ByteArray) (v4ba : Int) (lines6 : List (ByteArray × Int)) (w3 : List (ByteArray × Int)) : St := ⟨[.gone, .gone, .ptr 0 [], .gone, .ptr 1 [], .gone, .ref 2, .gone, .gone, .gone, .gone, .gone, .gone, .gone, .gone, .gone, .gone, .gone, .gone, .gone, .gone, .gone, .gone, .dat (.sl 82 (.pair .str (.int .i64))) v23, .dat (.int .i64) v24, .dat (.int .i64) v25, .gone, .gone, .gone, .gone, .gone, .gone, .gone, .gone, .gone, .gone, .gone, .gone, .gone, .gone, .gone, .gone, .gone, .gone, .gone, .gone, .gone, .gone, .gone], [.box 47 (.pair .str (.pair (.int .i64) (.sl 82 (.pair .str (.int .i64))))) (.dat (.pair .str (.pair (.int .i64) (.sl 82 (.pair .str (.int .i64))))) a2), .box 47 (.pair .str (.pair (.int .i64) (.sl 82 (.pair .str (.int .i64))))) (.pr (.dat .str v4a) (.pr (.dat (.int .i64) v4ba) (.ref 3))), .row 82 (.pair .str (.int .i64)) lines6 none, .row 82 (.pair .str (.int .i64)) w3 none]⟩
def impl_MergePapers.con : Con := { ps := [(.val, (.pair .str (.pair (.int .i64) (.sl 82 (.pair .str (.int .i64)))))), (.val, (.pair .str (.pair (.int .i64) (.sl 82 (.pair .str (.int .i64))))))], rs := [(.own, (.pair .str (.pair (.int .i64) (.sl 82 (.pair .str (.int .i64)))))), (.own, (.int .i64))], F := fun x => impl_MergePapers.f x.1 x.2 }
def impl_MergePapers.cs : List (FuncId × Con) := [(42, impl_IsPaper.con), (99, impl_putLine.con), (100, impl_countIn.con), (101, impl_areLines.con), (102, impl_withLines.con)]
def impl_MergePapers.E : Env := envOf tab impl_MergePapers.cs 0 false
def impl_MergePapers.keep (i : Nat) : List Nat := if i = 5 then [2, 4, 6, 23, 24, 25] else []
def impl_MergePapers.at5 (n : Nat) (x : (ByteArray × Int × List (ByteArray × Int)) × ByteArray × Int × List (ByteArray × Int)) : Code × (Ex → St → Option (((ByteArray × Int × List (ByteArray × Int)) × Int))) := ctx impl_MergePapers.E impl_MergePapers.keep n [.snd, .snd, .snd, .fst, .snd, .blk] (codeOf Try.f36) (kEnd impl_MergePapers.E Try.f36 impl_MergePapers.con x)
def impl_MergePapers.LN5 (n : Nat) (x : (ByteArray × Int × List (ByteArray × Int)) × ByteArray × Int × List (ByteArray × Int)) : Nat → St → Option (((ByteArray × Int × List (ByteArray × Int)) × Int)) := loopN (exec impl_MergePapers.E impl_MergePapers.keep n (bodyOf (impl_MergePapers.at5 n x).1)) (St.norm 0 (impl_MergePapers.keep 5)) (impl_MergePapers.at5 n x).2
set_option maxRecDepth 100000 in
theorem impl_MergePapers.lem5 (n : Nat) (x : (ByteArray × Int × List (ByteArray × Int)) × ByteArray × Int × List (ByteArray × Int)) : ∀ (k : Nat) (v23 : List (ByteArray × Int)) (v24 : Int) (v25 : Int) (a2 : ByteArray × Int × List (ByteArray × Int)) (v4a : ByteArray) (v4ba : Int) (lines6 : List (ByteArray × Int)) (w3 : List (ByteArray × Int)), impl_MergePapers.LN5 n x k (impl_MergePapers.st5 v23 v24 v25 a2 v4a v4ba lines6 w3) = impl_MergePapers.l5 n k v23 v24 v25 a2 v4a v4ba lines6 w3 := by
  intro k
  induction k with
  | zero => intro v23 v24 v25 a2 v4a v4ba lines6 w3; rfl
  | succ k ih =>
    intro v23 v24 v25 a2 v4a v4ba lines6 w3
    have h : impl_MergePapers.LN5 n x (k + 1) (impl_MergePapers.st5 v23 v24 v25 a2 v4a v4ba lines6 w3) = impl_MergePapers.g5 (fun v23 v24 v25 a2 v4a v4ba lines6 w3 => impl_MergePapers.LN5 n x k (impl_MergePapers.st5 v23 v24 v25 a2 v4a v4ba lines6 w3)) v23 v24 v25 a2 v4a v4ba lines6 w3 := by kernel_rfl
    rw [h]
    simp only [ih]
    rfl
set_option maxRecDepth 100000 in
theorem impl_MergePapers.body (n : Nat) (x : (ByteArray × Int × List (ByteArray × Int)) × ByteArray × Int × List (ByteArray × Int)) : bodyF impl_MergePapers.E impl_MergePapers.keep n Try.f36 impl_MergePapers.con x = impl_MergePapers.fn n x.1 x.2 := by
  have h : bodyF impl_MergePapers.E impl_MergePapers.keep n Try.f36 impl_MergePapers.con x = impl_MergePapers.top (fun v23 v24 v25 a2 v4a v4ba lines6 w3 => impl_MergePapers.LN5 n x n (impl_MergePapers.st5 v23 v24 v25 a2 v4a v4ba lines6 w3)) x.1 x.2 := by kernel_rfl
  rw [h]
  simp only [impl_MergePapers.lem5]
  rfl
set_option maxRecDepth 100000 in
theorem impl_MergePapers.good : Good Try.prog 36 impl_MergePapers.con :=
  good_of tabok (cs := impl_MergePapers.cs) ⟨impl_IsPaper.good, impl_putLine.good, impl_countIn.good, impl_areLines.good, impl_withLines.good, trivial⟩ 0 false (fn := Try.f36) Try.func36 rfl (by decide) (by simp [impl_MergePapers.con]) impl_MergePapers.keep NN (fun _ => rfl) (fun x => impl_MergePapers.body NN x)
end
end Go.Ev.Try

namespace Go.Ev.Try
open Go.Proofs Go.Pl
set_option linter.unusedVariables false
noncomputable section
def spec_l01In.con : Con := { ps := [(.val, (.int .i64)), (.val, (.int .i64)), (.val, (.int .i64))], rs := [(.val, .bool)], F := fun x => spec_l01In.f x.1 x.2.1 x.2.2 }
def spec_l01In.cs : List (FuncId × Con) := []
def spec_l01In.E : Env := envOf tab spec_l01In.cs 0 false
def spec_l01In.keep (i : Nat) : List Nat := []
set_option maxRecDepth 100000 in
theorem spec_l01In.body (n : Nat) (x : Int × Int × Int) : bodyF spec_l01In.E spec_l01In.keep n Try.f87 spec_l01In.con x = spec_l01In.fn n x.1 x.2.1 x.2.2 := by
  have h : bodyF spec_l01In.E spec_l01In.keep n Try.f87 spec_l01In.con x = spec_l01In.top x.1 x.2.1 x.2.2 := by kernel_rfl
  exact h
set_option maxRecDepth 100000 in
theorem spec_l01In.good : Good Try.prog 87 spec_l01In.con :=
  good_of tabok (cs := spec_l01In.cs) trivial 0 false (fn := Try.f87) Try.func87 rfl (by decide) (by simp [spec_l01In.con]) spec_l01In.keep NN (fun _ => rfl) (fun x => spec_l01In.body NN x)
end
end Go.Ev.Try

namespace Go.Ev.Try
open Go.Proofs Go.Pl
set_option linter.unusedVariables false
noncomputable section
def spec_IsWord.st2 (s0 : ByteArray) (i3 : Int) : St := ⟨[.dat .str s0, .gone, .gone, .dat (.int .i64) i3, .gone, .gone, .gone, .gone, .gone, .gone, .gone, .gone, .gone, .gone, .gone, .gone, .gone, .gone, .gone, .gone, .gone, .gone, .gone], []⟩
def spec_IsWord.con : Con := { ps := [(.val, .str)], rs := [(.val, .bool)], F := fun x => spec_IsWord.f x }
def spec_IsWord.cs : List (FuncId × Con) := [(87, spec_l01In.con)]
def spec_IsWord.E : Env := envOf tab spec_IsWord.cs 0 false
def spec_IsWord.keep (i : Nat) : List Nat := if i = 2 then [0, 3] else []
def spec_IsWord.at2 (n : Nat) (x : ByteArray) : Code × (Ex → St → Option (Bool)) := ctx spec_IsWord.E spec_IsWord.keep n [.snd, .fst, .snd, .blk] (codeOf Try.f108) (kEnd spec_IsWord.E Try.f108 spec_IsWord.con x)
def spec_IsWord.LN2 (n : Nat) (x : ByteArray) : Nat → St → Option (Bool) := loopN (exec spec_IsWord.E spec_IsWord.keep n (bodyOf (spec_IsWord.at2 n x).1)) (St.norm 0 (spec_IsWord.keep 2)) (spec_IsWord.at2 n x).2
set_option maxRecDepth 100000 in
theorem spec_IsWord.lem2 (n : Nat) (x : ByteArray) : ∀ (k : Nat) (s0 : ByteArray) (i3 : Int), spec_IsWord.LN2 n x k (spec_IsWord.st2 s0 i3) = spec_IsWord.l2 n k s0 i3 := by
  intro k
  induction k with
  | zero => intro s0 i3; rfl
  | succ k ih =>
    intro s0 i3
    have h : spec_IsWord.LN2 n x (k + 1) (spec_IsWord.st2 s0 i3) = spec_IsWord.g2 (fun s0 i3 => spec_IsWord.LN2 n x k (spec_IsWord.st2 s0 i3)) s0 i3 := by kernel_rfl
    rw [h]
    simp only [ih]
    rfl
set_option maxRecDepth 100000 in
theorem spec_IsWord.body (n : Nat) (x : ByteArray) : bodyF spec_IsWord.E spec_IsWord.keep n Try.f108 spec_IsWord.con x = spec_IsWord.fn n x := by
  have h : bodyF spec_IsWord.E spec_IsWord.keep n Try.f108 spec_IsWord.con x = spec_IsWord.top (fun s0 i3 => spec_IsWord.LN2 n x n (spec_IsWord.st2 s0 i3)) x := by kernel_rfl
  rw [h]
  simp only [spec_IsWord.lem2]
  rfl
set_option maxRecDepth 100000 in
theorem spec_IsWord.good : Good Try.prog 108 spec_IsWord.con :=
  good_of tabok (cs := spec_IsWord.cs) ⟨spec_l01In.good, trivial⟩ 0 false (fn := Try.f108) Try.func108 rfl (by decide) (by simp [spec_IsWord.con]) spec_IsWord.keep NN (fun _ => rfl) (fun x => spec_IsWord.body NN x)
end
end Go.Ev.Try

namespace Go.Ev.Try
open Go.Proofs Go.Pl
set_option linter.unusedVariables false
noncomputable section
def spec_IsPaper.st2 (i3 : Int) (p1 : ByteArray × Int × List (ByteArray × Int)) : St := ⟨[.gone, .ptr 0 [], .gone, .dat (.int .i64) i3, .gone, .gone, .gone, .gone, .gone, .gone, .gone, .gone, .gone, .gone, .gone, .gone, .gone, .gone, .gone, .gone, .gone, .gone, .gone, .gone, .gone, .gone, .gone, .gone, .gone, .gone, .gone, .gone, .gone, .gone, .gone, .gone, .gone, .gone, .gone, .gone, .gone, .gone, .gone, .gone, .gone, .gone, .gone, .gone, .gone, .gone, .gone, .gone, .gone, .gone, .gone, .gone, .gone, .gone, .gone, .gone, .gone, .gone, .gone], [.box 47 (.pair .str (.pair (.int .i64) (.sl 82 (.pair .str (.int .i64))))) (.dat (.pair .str (.pair (.int .i64) (.sl 82 (.pair .str (.int .i64))))) p1)]⟩
def spec_IsPaper.con : Con := { ps := [(.val, (.pair .str (.pair (.int .i64) (.sl 82 (.pair .str (.int .i64))))))], rs := [(.val, .bool)], F := fun x => spec_IsPaper.f x }
def spec_IsPaper.cs : List (FuncId × Con) := [(87, spec_l01In.con), (108, spec_IsWord.con)]
def spec_IsPaper.E : Env := envOf tab spec_IsPaper.cs 0 false
def spec_IsPaper.keep (i : Nat) : List Nat := if i = 2 then [1, 3] else []
def spec_IsPaper.at2 (n : Nat) (x : ByteArray × Int × List (ByteArray × Int)) : Code × (Ex → St → Option (Bool)) := ctx spec_IsPaper.E spec_IsPaper.keep n [.snd, .fst, .snd, .blk] (codeOf Try.f103) (kEnd spec_IsPaper.E Try.f103 spec_IsPaper.con x)
def spec_IsPaper.LN2 (n : Nat) (x : ByteArray × Int × List (ByteArray × Int)) : Nat → St → Option (Bool) := loopN (exec spec_IsPaper.E spec_IsPaper.keep n (bodyOf (spec_IsPaper.at2 n x).1)) (St.norm 0 (spec_IsPaper.keep 2)) (spec_IsPaper.at2 n x).2
set_option maxRecDepth 100000 in
theorem spec_IsPaper.lem2 (n : Nat) (x : ByteArray × Int × List (ByteArray × Int)) : ∀ (k : Nat) (i3 : Int) (p1 : ByteArray × Int × List (ByteArray × Int)), spec_IsPaper.LN2 n x k (spec_IsPaper.st2 i3 p1) = spec_IsPaper.l2 n k i3 p1 := by
  intro k
  induction k with
  | zero => intro i3 p1; rfl
  | succ k ih =>
    intro i3 p1
    have h : spec_IsPaper.LN2 n x (k + 1) (spec_IsPaper.st2 i3 p1) = spec_IsPaper.g2 (fun i3 p1 => spec_IsPaper.LN2 n x k (spec_IsPaper.st2 i3 p1)) i3 p1 := by kernel_rfl
    rw [h]
    simp only [ih]
    rfl
set_option maxRecDepth 100000 in
theorem spec_IsPaper.body (n : Nat) (x : ByteArray × Int × List (ByteArray × Int)) : bodyF spec_IsPaper.E spec_IsPaper.keep n Try.f103 spec_IsPaper.con x = spec_IsPaper.fn n x := by
  have h : bodyF spec_IsPaper.E spec_IsPaper.keep n Try.f103 spec_IsPaper.con x = spec_IsPaper.top (fun i3 p1 => spec_IsPaper.LN2 n x n (spec_IsPaper.st2 i3 p1)) x := by kernel_rfl
  rw [h]
  simp only [spec_IsPaper.lem2]
  rfl
set_option maxRecDepth 100000 in
theorem spec_IsPaper.good : Good Try.prog 103 spec_IsPaper.con :=
  good_of tabok (cs := spec_IsPaper.cs) ⟨spec_l01In.good, spec_IsWord.good, trivial⟩ 0 false (fn := Try.f103) Try.func103 rfl (by decide) (by simp [spec_IsPaper.con]) spec_IsPaper.keep NN (fun _ => rfl) (fun x => spec_IsPaper.body NN x)
end
end Go.Ev.Try

namespace Go.Ev.Try
open Go.Proofs Go.Pl
set_option linter.unusedVariables false
noncomputable section
def spec_l29Put.st2 (lines0 : List (ByteArray × Int)) (article1 : ByteArray) (count2 : Int) (at7 : Int) : St := ⟨[.dat (.sl 82 (.pair .str (.int .i64))) lines0, .dat .str article1, .dat (.int .i64) count2, .gone, .gone, .gone, .gone, .dat (.int .i64) at7, .gone, .gone, .gone, .gone, .gone, .gone, .gone, .gone, .gone, .gone, .gone, .gone, .gone, .gone, .gone, .gone, .gone, .gone, .gone, .gone, .gone, .gone, .gone, .gone, .gone, .gone, .gone, .gone, .gone, .gone, .gone, .gone, .gone, .gone, .gone, .gone, .gone, .gone, .gone, .gone, .gone, .gone, .gone, .gone, .gone, .gone, .gone, .gone, .gone, .gone, .gone, .gone, .gone], []⟩
def spec_l29Put.g2raw (L2 : (List (ByteArray × Int)) → ByteArray → Int → Int → Option (List (ByteArray × Int))) (lines0 : List (ByteArray × Int)) (article1 : ByteArray) (count2 : Int) (at7 : Int) : Option (List (ByteArray × Int)) :=
  if (decide ((at7 : Int) < (lines0.length : Int))) = true then
    if (0 : Int) ≤ at7 ∧ (at7 : Int) < lines0.length then
      if (Op.bytesLess ((lines0.getD (at7 : Int).toNat (ByteArray.empty, 0)).1).toList article1.toList) = true then
        L2 lines0 article1 count2 (IntKind.i64.wrap (at7 + 1))
      else if (decide ((at7 : Int) < (lines0.length : Int))) = true then
        if (0 : Int) ≤ at7 ∧ (at7 : Int) < lines0.length then
          if (((lines0.getD (at7 : Int).toNat (ByteArray.empty, 0)).1).toList == article1.toList) = true then
            if (0 : Int) ≤ at7 ∧ (at7 : Int) < lines0.length then
              if (0 : Int) ≤ at7 ∧ (at7 : Int) ≤ lines0.length then
                if (0 : Int) ≤ (IntKind.i64.wrap (at7 + 1)) ∧ ((IntKind.i64.wrap (at7 + 1)) : Int) ≤ lines0.length then
                  agree (
                    agree (
                      if ([] : List (ByteArray × Int)).length + (lines0.take (at7 : Int).toNat).length < room 24 then
                        if (([] : List (ByteArray × Int)) ++ (lines0.take (at7 : Int).toNat)).length + ([(article1, IntKind.i64.wrap (count2 + ((lines0.getD (at7 : Int).toNat (ByteArray.empty, 0)).2)))]).length < room 24 then
                          if ((([] : List (ByteArray × Int)) ++ (lines0.take (at7 : Int).toNat)) ++ ([(article1, IntKind.i64.wrap (count2 + ((lines0.getD (at7 : Int).toNat (ByteArray.empty, 0)).2)))])).length + (lines0.drop ((IntKind.i64.wrap (at7 + 1)) : Int).toNat).length < room 24 then
                            some (((([] : List (ByteArray × Int)) ++ (lines0.take (at7 : Int).toNat)) ++ ([(article1, IntKind.i64.wrap (count2 + ((lines0.getD (at7 : Int).toNat (ByteArray.empty, 0)).2)))])) ++ (lines0.drop ((IntKind.i64.wrap (at7 + 1)) : Int).toNat))
                          else
                            none
                        else
                          none
                      else
                        none
                    ) (
                      if ([] : List (ByteArray × Int)).length + (lines0.take (at7 : Int).toNat).length < room 24 then
                        if (([] : List (ByteArray × Int)) ++ (lines0.take (at7 : Int).toNat)).length + ([(article1, IntKind.i64.wrap (count2 + ((lines0.getD (at7 : Int).toNat (ByteArray.empty, 0)).2)))]).length < room 24 then
                          if ((([] : List (ByteArray × Int)) ++ (lines0.take (at7 : Int).toNat)) ++ ([(article1, IntKind.i64.wrap (count2 + ((lines0.getD (at7 : Int).toNat (ByteArray.empty, 0)).2)))])).length + (lines0.drop ((IntKind.i64.wrap (at7 + 1)) : Int).toNat).length < room 24 then
                            some (((([] : List (ByteArray × Int)) ++ (lines0.take (at7 : Int).toNat)) ++ ([(article1, IntKind.i64.wrap (count2 + ((lines0.getD (at7 : Int).toNat (ByteArray.empty, 0)).2)))])) ++ (lines0.drop ((IntKind.i64.wrap (at7 + 1)) : Int).toNat))
                          else
                            none
                        else
                          none
                      else
                        none
                    )
                  ) (
                    if ([] : List (ByteArray × Int)).length + (lines0.take (at7 : Int).toNat).length < room 24 then
                      if (([] : List (ByteArray × Int)) ++ (lines0.take (at7 : Int).toNat)).length + ([(article1, IntKind.i64.wrap (count2 + ((lines0.getD (at7 : Int).toNat (ByteArray.empty, 0)).2)))]).length < room 24 then
                        if ((([] : List (ByteArray × Int)) ++ (lines0.take (at7 : Int).toNat)) ++ ([(article1, IntKind.i64.wrap (count2 + ((lines0.getD (at7 : Int).toNat (ByteArray.empty, 0)).2)))])).length + (lines0.drop ((IntKind.i64.wrap (at7 + 1)) : Int).toNat).length < room 24 then
                          some (((([] : List (ByteArray × Int)) ++ (lines0.take (at7 : Int).toNat)) ++ ([(article1, IntKind.i64.wrap (count2 + ((lines0.getD (at7 : Int).toNat (ByteArray.empty, 0)).2)))])) ++ (lines0.drop ((IntKind.i64.wrap (at7 + 1)) : Int).toNat))
                        else
                          none
                      else
                        none
                    else
                      none
                  )
                else
                  none
              else
                none
            else
              none
          else if (0 : Int) ≤ at7 ∧ (at7 : Int) ≤ lines0.length then
            if (0 : Int) ≤ at7 ∧ (at7 : Int) ≤ lines0.length then
              agree (
                agree (
                  if ([] : List (ByteArray × Int)).length + (lines0.take (at7 : Int).toNat).length < room 24 then
                    if (([] : List (ByteArray × Int)) ++ (lines0.take (at7 : Int).toNat)).length + ([(article1, count2)]).length < room 24 then
                      if ((([] : List (ByteArray × Int)) ++ (lines0.take (at7 : Int).toNat)) ++ ([(article1, count2)])).length + (lines0.drop (at7 : Int).toNat).length < room 24 then
                        some (((([] : List (ByteArray × Int)) ++ (lines0.take (at7 : Int).toNat)) ++ ([(article1, count2)])) ++ (lines0.drop (at7 : Int).toNat))
                      else
                        none
                    else
                      none
                  else
                    none
                ) (
                  if ([] : List (ByteArray × Int)).length + (lines0.take (at7 : Int).toNat).length < room 24 then
                    if (([] : List (ByteArray × Int)) ++ (lines0.take (at7 : Int).toNat)).length + ([(article1, count2)]).length < room 24 then
                      if ((([] : List (ByteArray × Int)) ++ (lines0.take (at7 : Int).toNat)) ++ ([(article1, count2)])).length + (lines0.drop (at7 : Int).toNat).length < room 24 then
                        some (((([] : List (ByteArray × Int)) ++ (lines0.take (at7 : Int).toNat)) ++ ([(article1, count2)])) ++ (lines0.drop (at7 : Int).toNat))
                      else
                        none
                    else
                      none
                  else
                    none
                )
              ) (
                if ([] : List (ByteArray × Int)).length + (lines0.take (at7 : Int).toNat).length < room 24 then
                  if (([] : List (ByteArray × Int)) ++ (lines0.take (at7 : Int).toNat)).length + ([(article1, count2)]).length < room 24 then
                    if ((([] : List (ByteArray × Int)) ++ (lines0.take (at7 : Int).toNat)) ++ ([(article1, count2)])).length + (lines0.drop (at7 : Int).toNat).length < room 24 then
                      some (((([] : List (ByteArray × Int)) ++ (lines0.take (at7 : Int).toNat)) ++ ([(article1, count2)])) ++ (lines0.drop (at7 : Int).toNat))
                    else
                      none
                  else
                    none
                else
                  none
              )
            else
              none
          else
            none
        else
          none
      else if (0 : Int) ≤ at7 ∧ (at7 : Int) ≤ lines0.length then
        if (0 : Int) ≤ at7 ∧ (at7 : Int) ≤ lines0.length then
          agree (
            agree (
              if ([] : List (ByteArray × Int)).length + (lines0.take (at7 : Int).toNat).length < room 24 then
                if (([] : List (ByteArray × Int)) ++ (lines0.take (at7 : Int).toNat)).length + ([(article1, count2)]).length < room 24 then
                  if ((([] : List (ByteArray × Int)) ++ (lines0.take (at7 : Int).toNat)) ++ ([(article1, count2)])).length + (lines0.drop (at7 : Int).toNat).length < room 24 then
                    some (((([] : List (ByteArray × Int)) ++ (lines0.take (at7 : Int).toNat)) ++ ([(article1, count2)])) ++ (lines0.drop (at7 : Int).toNat))
                  else
                    none
                else
                  none
              else
                none
            ) (
              if ([] : List (ByteArray × Int)).length + (lines0.take (at7 : Int).toNat).length < room 24 then
                if (([] : List (ByteArray × Int)) ++ (lines0.take (at7 : Int).toNat)).length + ([(article1, count2)]).length < room 24 then
                  if ((([] : List (ByteArray × Int)) ++ (lines0.take (at7 : Int).toNat)) ++ ([(article1, count2)])).length + (lines0.drop (at7 : Int).toNat).length < room 24 then
                    some (((([] : List (ByteArray × Int)) ++ (lines0.take (at7 : Int).toNat)) ++ ([(article1, count2)])) ++ (lines0.drop (at7 : Int).toNat))
                  else
                    none
                else
                  none
              else
                none
            )
          ) (
            if ([] : List (ByteArray × Int)).length + (lines0.take (at7 : Int).toNat).length < room 24 then
              if (([] : List (ByteArray × Int)) ++ (lines0.take (at7 : Int).toNat)).length + ([(article1, count2)]).length < room 24 then
                if ((([] : List (ByteArray × Int)) ++ (lines0.take (at7 : Int).toNat)) ++ ([(article1, count2)])).length + (lines0.drop (at7 : Int).toNat).length < room 24 then
                  some (((([] : List (ByteArray × Int)) ++ (lines0.take (at7 : Int).toNat)) ++ ([(article1, count2)])) ++ (lines0.drop (at7 : Int).toNat))
                else
                  none
              else
                none
            else
              none
          )
        else
          none
      else
        none
    else
      none
  else if (decide ((at7 : Int) < (lines0.length : Int))) = true then
    if (0 : Int) ≤ at7 ∧ (at7 : Int) < lines0.length then
      if (((lines0.getD (at7 : Int).toNat (ByteArray.empty, 0)).1).toList == article1.toList) = true then
        if (0 : Int) ≤ at7 ∧ (at7 : Int) < lines0.length then
          if (0 : Int) ≤ at7 ∧ (at7 : Int) ≤ lines0.length then
            if (0 : Int) ≤ (IntKind.i64.wrap (at7 + 1)) ∧ ((IntKind.i64.wrap (at7 + 1)) : Int) ≤ lines0.length then
              agree (
                agree (
                  if ([] : List (ByteArray × Int)).length + (lines0.take (at7 : Int).toNat).length < room 24 then
                    if (([] : List (ByteArray × Int)) ++ (lines0.take (at7 : Int).toNat)).length + ([(article1, IntKind.i64.wrap (count2 + ((lines0.getD (at7 : Int).toNat (ByteArray.empty, 0)).2)))]).length < room 24 then
                      if ((([] : List (ByteArray × Int)) ++ (lines0.take (at7 : Int).toNat)) ++ ([(article1, IntKind.i64.wrap (count2 + ((lines0.getD (at7 : Int).toNat (ByteArray.empty, 0)).2)))])).length + (lines0.drop ((IntKind.i64.wrap (at7 + 1)) : Int).toNat).length < room 24 then
                        some (((([] : List (ByteArray × Int)) ++ (lines0.take (at7 : Int).toNat)) ++ ([(article1, IntKind.i64.wrap (count2 + ((lines0.getD (at7 : Int).toNat (ByteArray.empty, 0)).2)))])) ++ (lines0.drop ((IntKind.i64.wrap (at7 + 1)) : Int).toNat))
                      else
                        none
                    else
                      none
                  else
                    none
                ) (
                  if ([] : List (ByteArray × Int)).length + (lines0.take (at7 : Int).toNat).length < room 24 then
                    if (([] : List (ByteArray × Int)) ++ (lines0.take (at7 : Int).toNat)).length + ([(article1, IntKind.i64.wrap (count2 + ((lines0.getD (at7 : Int).toNat (ByteArray.empty, 0)).2)))]).length < room 24 then
                      if ((([] : List (ByteArray × Int)) ++ (lines0.take (at7 : Int).toNat)) ++ ([(article1, IntKind.i64.wrap (count2 + ((lines0.getD (at7 : Int).toNat (ByteArray.empty, 0)).2)))])).length + (lines0.drop ((IntKind.i64.wrap (at7 + 1)) : Int).toNat).length < room 24 then
                        some (((([] : List (ByteArray × Int)) ++ (lines0.take (at7 : Int).toNat)) ++ ([(article1, IntKind.i64.wrap (count2 + ((lines0.getD (at7 : Int).toNat (ByteArray.empty, 0)).2)))])) ++ (lines0.drop ((IntKind.i64.wrap (at7 + 1)) : Int).toNat))
                      else
                        none
                    else
                      none
                  else
                    none
                )
              ) (
                if ([] : List (ByteArray × Int)).length + (lines0.take (at7 : Int).toNat).length < room 24 then
                  if (([] : List (ByteArray × Int)) ++ (lines0.take (at7 : Int).toNat)).length + ([(article1, IntKind.i64.wrap (count2 + ((lines0.getD (at7 : Int).toNat (ByteArray.empty, 0)).2)))]).length < room 24 then
                    if ((([] : List (ByteArray × Int)) ++ (lines0.take (at7 : Int).toNat)) ++ ([(article1, IntKind.i64.wrap (count2 + ((lines0.getD (at7 : Int).toNat (ByteArray.empty, 0)).2)))])).length + (lines0.drop ((IntKind.i64.wrap (at7 + 1)) : Int).toNat).length < room 24 then
                      some (((([] : List (ByteArray × Int)) ++ (lines0.take (at7 : Int).toNat)) ++ ([(article1, IntKind.i64.wrap (count2 + ((lines0.getD (at7 : Int).toNat (ByteArray.empty, 0)).2)))])) ++ (lines0.drop ((IntKind.i64.wrap (at7 + 1)) : Int).toNat))
                    else
                      none
                  else
                    none
                else
                  none
              )
            else
              none
          else
            none
        else
          none
      else if (0 : Int) ≤ at7 ∧ (at7 : Int) ≤ lines0.length then
        if (0 : Int) ≤ at7 ∧ (at7 : Int) ≤ lines0.length then
          agree (
            agree (
              if ([] : List (ByteArray × Int)).length + (lines0.take (at7 : Int).toNat).length < room 24 then
                if (([] : List (ByteArray × Int)) ++ (lines0.take (at7 : Int).toNat)).length + ([(article1, count2)]).length < room 24 then
                  if ((([] : List (ByteArray × Int)) ++ (lines0.take (at7 : Int).toNat)) ++ ([(article1, count2)])).length + (lines0.drop (at7 : Int).toNat).length < room 24 then
                    some (((([] : List (ByteArray × Int)) ++ (lines0.take (at7 : Int).toNat)) ++ ([(article1, count2)])) ++ (lines0.drop (at7 : Int).toNat))
                  else
                    none
                else
                  none
              else
                none
            ) (
              if ([] : List (ByteArray × Int)).length + (lines0.take (at7 : Int).toNat).length < room 24 then
                if (([] : List (ByteArray × Int)) ++ (lines0.take (at7 : Int).toNat)).length + ([(article1, count2)]).length < room 24 then
                  if ((([] : List (ByteArray × Int)) ++ (lines0.take (at7 : Int).toNat)) ++ ([(article1, count2)])).length + (lines0.drop (at7 : Int).toNat).length < room 24 then
                    some (((([] : List (ByteArray × Int)) ++ (lines0.take (at7 : Int).toNat)) ++ ([(article1, count2)])) ++ (lines0.drop (at7 : Int).toNat))
                  else
                    none
                else
                  none
              else
                none
            )
          ) (
            if ([] : List (ByteArray × Int)).length + (lines0.take (at7 : Int).toNat).length < room 24 then
              if (([] : List (ByteArray × Int)) ++ (lines0.take (at7 : Int).toNat)).length + ([(article1, count2)]).length < room 24 then
                if ((([] : List (ByteArray × Int)) ++ (lines0.take (at7 : Int).toNat)) ++ ([(article1, count2)])).length + (lines0.drop (at7 : Int).toNat).length < room 24 then
                  some (((([] : List (ByteArray × Int)) ++ (lines0.take (at7 : Int).toNat)) ++ ([(article1, count2)])) ++ (lines0.drop (at7 : Int).toNat))
                else
                  none
              else
                none
            else
              none
          )
        else
          none
      else
        none
    else
      none
  else if (0 : Int) ≤ at7 ∧ (at7 : Int) ≤ lines0.length then
    if (0 : Int) ≤ at7 ∧ (at7 : Int) ≤ lines0.length then
      agree (
        agree (
          if ([] : List (ByteArray × Int)).length + (lines0.take (at7 : Int).toNat).length < room 24 then
            if (([] : List (ByteArray × Int)) ++ (lines0.take (at7 : Int).toNat)).length + ([(article1, count2)]).length < room 24 then
              if ((([] : List (ByteArray × Int)) ++ (lines0.take (at7 : Int).toNat)) ++ ([(article1, count2)])).length + (lines0.drop (at7 : Int).toNat).length < room 24 then
                some (((([] : List (ByteArray × Int)) ++ (lines0.take (at7 : Int).toNat)) ++ ([(article1, count2)])) ++ (lines0.drop (at7 : Int).toNat))
              else
                none
            else
              none
          else
            none
        ) (
          if ([] : List (ByteArray × Int)).length + (lines0.take (at7 : Int).toNat).length < room 24 then
            if (([] : List (ByteArray × Int)) ++ (lines0.take (at7 : Int).toNat)).length + ([(article1, count2)]).length < room 24 then
              if ((([] : List (ByteArray × Int)) ++ (lines0.take (at7 : Int).toNat)) ++ ([(article1, count2)])).length + (lines0.drop (at7 : Int).toNat).length < room 24 then
                some (((([] : List (ByteArray × Int)) ++ (lines0.take (at7 : Int).toNat)) ++ ([(article1, count2)])) ++ (lines0.drop (at7 : Int).toNat))
              else
                none
            else
              none
          else
            none
        )
      ) (
        if ([] : List (ByteArray × Int)).length + (lines0.take (at7 : Int).toNat).length < room 24 then
          if (([] : List (ByteArray × Int)) ++ (lines0.take (at7 : Int).toNat)).length + ([(article1, count2)]).length < room 24 then
            if ((([] : List (ByteArray × Int)) ++ (lines0.take (at7 : Int).toNat)) ++ ([(article1, count2)])).length + (lines0.drop (at7 : Int).toNat).length < room 24 then
              some (((([] : List (ByteArray × Int)) ++ (lines0.take (at7 : Int).toNat)) ++ ([(article1, count2)])) ++ (lines0.drop (at7 : Int).toNat))
            else
              none
          else
            none
        else
          none
      )
    else
      none
  else
    none
theorem spec_l29Put.g2raw_eq (L2 : (List (ByteArray × Int)) → ByteArray → Int → Int → Option (List (ByteArray × Int))) (lines0 : List (ByteArray × Int)) (article1 : ByteArray) (count2 : Int) (at7 : Int) : spec_l29Put.g2raw L2 lines0 article1 count2 at7 = spec_l29Put.g2 L2 lines0 article1 count2 at7 := by
  unfold spec_l29Put.g2raw spec_l29Put.g2
  simp only [agree_self]
def spec_l29Put.con : Con := { ps := [(.val, (.sl 82 (.pair .str (.int .i64)))), (.val, .str), (.val, (.int .i64))], rs := [(.own, (.sl 82 (.pair .str (.int .i64))))], F := fun x => spec_l29Put.f x.1 x.2.1 x.2.2 }
def spec_l29Put.cs : List (FuncId × Con) := []
def spec_l29Put.E : Env := envOf tab spec_l29Put.cs 0 false
def spec_l29Put.keep (i : Nat) : List Nat := if i = 2 then [0, 1, 2, 7] else []
def spec_l29Put.at2 (n : Nat) (x : (List (ByteArray × Int)) × ByteArray × Int) : Code × (Ex → St → Option ((List (ByteArray × Int)))) := ctx spec_l29Put.E spec_l29Put.keep n [.snd, .snd, .fst, .blk] (codeOf Try.f104) (kEnd spec_l29Put.E Try.f104 spec_l29Put.con x)
def spec_l29Put.LN2 (n : Nat) (x : (List (ByteArray × Int)) × ByteArray × Int) : Nat → St → Option ((List (ByteArray × Int))) := loopN (exec spec_l29Put.E spec_l29Put.keep n (bodyOf (spec_l29Put.at2 n x).1)) (St.norm 0 (spec_l29Put.keep 2)) (spec_l29Put.at2 n x).2
set_option maxRecDepth 100000 in
theorem spec_l29Put.lem2 (n : Nat) (x : (List (ByteArray × Int)) × ByteArray × Int) : ∀ (k : Nat) (lines0 : List (ByteArray × Int)) (article1 : ByteArray) (count2 : Int) (at7 : Int), spec_l29Put.LN2 n x k (spec_l29Put.st2 lines0 article1 count2 at7) = spec_l29Put.l2 n k lines0 article1 count2 at7 := by
  intro k
  induction k with
  | zero => intro lines0 article1 count2 at7; rfl
  | succ k ih =>
    intro lines0 article1 count2 at7
    have h : spec_l29Put.LN2 n x (k + 1) (spec_l29Put.st2 lines0 article1 count2 at7) = spec_l29Put.g2raw (fun lines0 article1 count2 at7 => spec_l29Put.LN2 n x k (spec_l29Put.st2 lines0 article1 count2 at7)) lines0 article1 count2 at7 := by kernel_rfl
    rw [spec_l29Put.g2raw_eq] at h
    rw [h]
    simp only [ih]
    rfl
set_option maxRecDepth 100000 in
theorem spec_l29Put.body (n : Nat) (x : (List (ByteArray × Int)) × ByteArray × Int) : bodyF spec_l29Put.E spec_l29Put.keep n Try.f104 spec_l29Put.con x = spec_l29Put.fn n x.1 x.2.1 x.2.2 := by
  have h : bodyF spec_l29Put.E spec_l29Put.keep n Try.f104 spec_l29Put.con x = spec_l29Put.top (fun lines0 article1 count2 at7 => spec_l29Put.LN2 n x n (spec_l29Put.st2 lines0 article1 count2 at7)) x.1 x.2.1 x.2.2 := by kernel_rfl
  rw [h]
  simp only [spec_l29Put.lem2]
  rfl
set_option maxRecDepth 100000 in
theorem spec_l29Put.good : Good Try.prog 104 spec_l29Put.con :=
  good_of tabok (cs := spec_l29Put.cs) trivial 0 false (fn := Try.f104) Try.func104 rfl (by decide) (by simp [spec_l29Put.con]) spec_l29Put.keep NN (fun _ => rfl) (fun x => spec_l29Put.body NN x)
end
end Go.Ev.Try

namespace Go.Ev.Try
open Go.Proofs Go.Pl
set_option linter.unusedVariables false
noncomputable section
def spec_MergePapers.st5 (i7 : Int) (b3 : ByteArray × Int × List (ByteArray × Int)) (v4a : ByteArray) (v4ba : Int) (out6a : ByteArray) (out6ba : Int) (w3 : List (ByteArray × Int)) (w4 : List (ByteArray × Int)) : St := ⟨[.gone, .gone, .gone, .ptr 0 [], .ptr 1 [], .gone, .ptr 2 [], .dat (.int .i64) i7, .gone, .gone, .gone, .gone, .gone, .gone, .gone, .gone, .gone, .gone, .gone, .gone, .gone, .gone, .gone, .gone, .gone, .gone, .gone, .gone, .gone, .gone, .gone, .gone, .gone, .gone, .gone, .gone, .gone, .gone, .gone, .gone, .gone, .gone, .gone, .gone, .gone, .gone, .gone, .gone, .gone, .gone, .gone, .gone, .gone, .gone], [.box 47 (.pair .str (.pair (.int .i64) (.sl 82 (.pair .str (.int .i64))))) (.dat (.pair .str (.pair (.int .i64) (.sl 82 (.pair .str (.int .i64))))) b3), .box 47 (.pair .str (.pair (.int .i64) (.sl 82 (.pair .str (.int .i64))))) (.pr (.dat .str v4a) (.pr (.dat (.int .i64) v4ba) (.ref 3))), .box 47 (.pair .str (.pair (.int .i64) (.sl 82 (.pair .str (.int .i64))))) (.pr (.dat .str out6a) (.pr (.dat (.int .i64) out6ba) (.ref 4))), .row 82 (.pair .str (.int .i64)) w3 none, .row 82 (.pair .str (.int .i64)) w4 none]⟩
def spec_MergePapers.topraw (I5 : Int → (ByteArray × Int × List (ByteArray × Int)) → ByteArray → Int → ByteArray → Int → (List (ByteArray × Int)) → (List (ByteArray × Int)) → Option ((ByteArray × Int × List (ByteArray × Int)) × Int)) (a0 : ByteArray × Int × List (ByteArray × Int)) (b1 : ByteArray × Int × List (ByteArray × Int)) : Option ((ByteArray × Int × List (ByteArray × Int)) × Int) :=
  (spec_IsPaper.f a0).bind fun r1 =>
  if (!r1) = false then
    (spec_IsPaper.f b1).bind fun r2 =>
    if (!r2) = true then
      some ((ByteArray.empty, (0, [])), 1)
    else
      agree (
        agree (
          agree (
            agree (
              agree (
                if ([] : List (ByteArray × Int)).length + a0.2.2.length < room 24 then
                  I5 0 b1 ByteArray.empty 0 a0.1 a0.2.1 [] (([] : List (ByteArray × Int)) ++ a0.2.2)
                else
                  none
              ) (
                if ([] : List (ByteArray × Int)).length + a0.2.2.length < room 24 then
                  I5 0 b1 ByteArray.empty 0 a0.1 a0.2.1 [] (([] : List (ByteArray × Int)) ++ a0.2.2)
                else
                  none
              )
            ) (
              if ([] : List (ByteArray × Int)).length + a0.2.2.length < room 24 then
                I5 0 b1 ByteArray.empty 0 a0.1 a0.2.1 [] (([] : List (ByteArray × Int)) ++ a0.2.2)
              else
                none
            )
          ) (
            agree (
              agree (
                agree (
                  if ([] : List (ByteArray × Int)).length + a0.2.2.length < room 24 then
                    I5 0 b1 ByteArray.empty 0 a0.1 a0.2.1 [] (([] : List (ByteArray × Int)) ++ a0.2.2)
                  else
                    none
                ) (
                  if ([] : List (ByteArray × Int)).length + a0.2.2.length < room 24 then
                    I5 0 b1 ByteArray.empty 0 a0.1 a0.2.1 [] (([] : List (ByteArray × Int)) ++ a0.2.2)
                  else
                    none
                )
              ) (
                if ([] : List (ByteArray × Int)).length + a0.2.2.length < room 24 then
                  I5 0 b1 ByteArray.empty 0 a0.1 a0.2.1 [] (([] : List (ByteArray × Int)) ++ a0.2.2)
                else
                  none
              )
            ) (
              agree (
                if ([] : List (ByteArray × Int)).length + a0.2.2.length < room 24 then
                  I5 0 b1 ByteArray.empty 0 a0.1 a0.2.1 [] (([] : List (ByteArray × Int)) ++ a0.2.2)
                else
                  none
              ) (
                if ([] : List (ByteArray × Int)).length + a0.2.2.length < room 24 then
                  I5 0 b1 ByteArray.empty 0 a0.1 a0.2.1 [] (([] : List (ByteArray × Int)) ++ a0.2.2)
                else
                  none
              )
            )
          )
        ) (
          agree (
            agree (
              agree (
                agree (
                  if ([] : List (ByteArray × Int)).length + a0.2.2.length < room 24 then
                    I5 0 b1 ByteArray.empty 0 a0.1 a0.2.1 [] (([] : List (ByteArray × Int)) ++ a0.2.2)
                  else
                    none
                ) (
                  if ([] : List (ByteArray × Int)).length + a0.2.2.length < room 24 then
                    I5 0 b1 ByteArray.empty 0 a0.1 a0.2.1 [] (([] : List (ByteArray × Int)) ++ a0.2.2)
                  else
                    none
                )
              ) (
                if ([] : List (ByteArray × Int)).length + a0.2.2.length < room 24 then
                  I5 0 b1 ByteArray.empty 0 a0.1 a0.2.1 [] (([] : List (ByteArray × Int)) ++ a0.2.2)
                else
                  none
              )
            ) (
              agree (
                agree (
                  agree (
                    if ([] : List (ByteArray × Int)).length + a0.2.2.length < room 24 then
                      I5 0 b1 ByteArray.empty 0 a0.1 a0.2.1 [] (([] : List (ByteArray × Int)) ++ a0.2.2)
                    else
                      none
                  ) (
                    if ([] : List (ByteArray × Int)).length + a0.2.2.length < room 24 then
                      I5 0 b1 ByteArray.empty 0 a0.1 a0.2.1 [] (([] : List (ByteArray × Int)) ++ a0.2.2)
                    else
                      none
                  )
                ) (
                  agree (
                    if ([] : List (ByteArray × Int)).length + a0.2.2.length < room 24 then
                      I5 0 b1 ByteArray.empty 0 a0.1 a0.2.1 [] (([] : List (ByteArray × Int)) ++ a0.2.2)
                    else
                      none
                  ) (
                    agree (
                      if ([] : List (ByteArray × Int)).length + a0.2.2.length < room 24 then
                        I5 0 b1 ByteArray.empty 0 a0.1 a0.2.1 [] (([] : List (ByteArray × Int)) ++ a0.2.2)
                      else
                        none
                    ) (
                      if ([] : List (ByteArray × Int)).length + a0.2.2.length < room 24 then
                        I5 0 b1 ByteArray.empty 0 a0.1 a0.2.1 [] (([] : List (ByteArray × Int)) ++ a0.2.2)
                      else
                        none
                    )
                  )
                )
              ) (
                agree (
                  if ([] : List (ByteArray × Int)).length + a0.2.2.length < room 24 then
                    I5 0 b1 ByteArray.empty 0 a0.1 a0.2.1 [] (([] : List (ByteArray × Int)) ++ a0.2.2)
                  else
                    none
                ) (
                  agree (
                    if ([] : List (ByteArray × Int)).length + a0.2.2.length < room 24 then
                      I5 0 b1 ByteArray.empty 0 a0.1 a0.2.1 [] (([] : List (ByteArray × Int)) ++ a0.2.2)
                    else
                      none
                  ) (
                    if ([] : List (ByteArray × Int)).length + a0.2.2.length < room 24 then
                      I5 0 b1 ByteArray.empty 0 a0.1 a0.2.1 [] (([] : List (ByteArray × Int)) ++ a0.2.2)
                    else
                      none
                  )
                )
              )
            )
          ) (
            agree (
              agree (
                agree (
                  agree (
                    if ([] : List (ByteArray × Int)).length + a0.2.2.length < room 24 then
                      I5 0 b1 ByteArray.empty 0 a0.1 a0.2.1 [] (([] : List (ByteArray × Int)) ++ a0.2.2)
                    else
                      none
                  ) (
                    if ([] : List (ByteArray × Int)).length + a0.2.2.length < room 24 then
                      I5 0 b1 ByteArray.empty 0 a0.1 a0.2.1 [] (([] : List (ByteArray × Int)) ++ a0.2.2)
                    else
                      none
                  )
                ) (
                  if ([] : List (ByteArray × Int)).length + a0.2.2.length < room 24 then
                    I5 0 b1 ByteArray.empty 0 a0.1 a0.2.1 [] (([] : List (ByteArray × Int)) ++ a0.2.2)
                  else
                    none
                )
              ) (
                agree (
                  agree (
                    agree (
                      if ([] : List (ByteArray × Int)).length + a0.2.2.length < room 24 then
                        I5 0 b1 ByteArray.empty 0 a0.1 a0.2.1 [] (([] : List (ByteArray × Int)) ++ a0.2.2)
                      else
                        none
                    ) (
                      if ([] : List (ByteArray × Int)).length + a0.2.2.length < room 24 then
                        I5 0 b1 ByteArray.empty 0 a0.1 a0.2.1 [] (([] : List (ByteArray × Int)) ++ a0.2.2)
                      else
                        none
                    )
                  ) (
                    agree (
                      if ([] : List (ByteArray × Int)).length + a0.2.2.length < room 24 then
                        I5 0 b1 ByteArray.empty 0 a0.1 a0.2.1 [] (([] : List (ByteArray × Int)) ++ a0.2.2)
                      else
                        none
                    ) (
                      agree (
                        if ([] : List (ByteArray × Int)).length + a0.2.2.length < room 24 then
                          I5 0 b1 ByteArray.empty 0 a0.1 a0.2.1 [] (([] : List (ByteArray × Int)) ++ a0.2.2)
                        else
                          none
                      ) (
                        if ([] : List (ByteArray × Int)).length + a0.2.2.length < room 24 then
                          I5 0 b1 ByteArray.empty 0 a0.1 a0.2.1 [] (([] : List (ByteArray × Int)) ++ a0.2.2)
                        else
                          none
                      )
                    )
                  )
                ) (
                  agree (
                    if ([] : List (ByteArray × Int)).length + a0.2.2.length < room 24 then
                      I5 0 b1 ByteArray.empty 0 a0.1 a0.2.1 [] (([] : List (ByteArray × Int)) ++ a0.2.2)
                    else
                      none
                  ) (
                    agree (
                      if ([] : List (ByteArray × Int)).length + a0.2.2.length < room 24 then
                        I5 0 b1 ByteArray.empty 0 a0.1 a0.2.1 [] (([] : List (ByteArray × Int)) ++ a0.2.2)
                      else
                        none
                    ) (
                      if ([] : List (ByteArray × Int)).length + a0.2.2.length < room 24 then
                        I5 0 b1 ByteArray.empty 0 a0.1 a0.2.1 [] (([] : List (ByteArray × Int)) ++ a0.2.2)
                      else
                        none
                    )
                  )
                )
              )
            ) (
              agree (
                agree (
                  if ([] : List (ByteArray × Int)).length + a0.2.2.length < room 24 then
                    I5 0 b1 ByteArray.empty 0 a0.1 a0.2.1 [] (([] : List (ByteArray × Int)) ++ a0.2.2)
                  else
                    none
                ) (
                  if ([] : List (ByteArray × Int)).length + a0.2.2.length < room 24 then
                    I5 0 b1 ByteArray.empty 0 a0.1 a0.2.1 [] (([] : List (ByteArray × Int)) ++ a0.2.2)
                  else
                    none
                )
              ) (
                agree (
                  agree (
                    if ([] : List (ByteArray × Int)).length + a0.2.2.length < room 24 then
                      I5 0 b1 ByteArray.empty 0 a0.1 a0.2.1 [] (([] : List (ByteArray × Int)) ++ a0.2.2)
                    else
                      none
                  ) (
                    agree (
                      if ([] : List (ByteArray × Int)).length + a0.2.2.length < room 24 then
                        I5 0 b1 ByteArray.empty 0 a0.1 a0.2.1 [] (([] : List (ByteArray × Int)) ++ a0.2.2)
                      else
                        none
                    ) (
                      if ([] : List (ByteArray × Int)).length + a0.2.2.length < room 24 then
                        I5 0 b1 ByteArray.empty 0 a0.1 a0.2.1 [] (([] : List (ByteArray × Int)) ++ a0.2.2)
                      else
                        none
                    )
                  )
                ) (
                  agree (
                    if ([] : List (ByteArray × Int)).length + a0.2.2.length < room 24 then
                      I5 0 b1 ByteArray.empty 0 a0.1 a0.2.1 [] (([] : List (ByteArray × Int)) ++ a0.2.2)
                    else
                      none
                  ) (
                    agree (
                      if ([] : List (ByteArray × Int)).length + a0.2.2.length < room 24 then
                        I5 0 b1 ByteArray.empty 0 a0.1 a0.2.1 [] (([] : List (ByteArray × Int)) ++ a0.2.2)
                      else
                        none
                    ) (
                      if ([] : List (ByteArray × Int)).length + a0.2.2.length < room 24 then
                        I5 0 b1 ByteArray.empty 0 a0.1 a0.2.1 [] (([] : List (ByteArray × Int)) ++ a0.2.2)
                      else
                        none
                    )
                  )
                )
              )
            )
          )
        )
      ) (
        agree (
          agree (
            agree (
              agree (
                agree (
                  if ([] : List (ByteArray × Int)).length + a0.2.2.length < room 24 then
                    I5 0 b1 ByteArray.empty 0 a0.1 a0.2.1 [] (([] : List (ByteArray × Int)) ++ a0.2.2)
                  else
                    none
                ) (
                  if ([] : List (ByteArray × Int)).length + a0.2.2.length < room 24 then
                    I5 0 b1 ByteArray.empty 0 a0.1 a0.2.1 [] (([] : List (ByteArray × Int)) ++ a0.2.2)
                  else
                    none
                )
              ) (
                if ([] : List (ByteArray × Int)).length + a0.2.2.length < room 24 then
                  I5 0 b1 ByteArray.empty 0 a0.1 a0.2.1 [] (([] : List (ByteArray × Int)) ++ a0.2.2)
                else
                  none
              )
            ) (
              agree (
                agree (
                  agree (
                    if ([] : List (ByteArray × Int)).length + a0.2.2.length < room 24 then
                      I5 0 b1 ByteArray.empty 0 a0.1 a0.2.1 [] (([] : List (ByteArray × Int)) ++ a0.2.2)
                    else
                      none
                  ) (
                    if ([] : List (ByteArray × Int)).length + a0.2.2.length < room 24 then
                      I5 0 b1 ByteArray.empty 0 a0.1 a0.2.1 [] (([] : List (ByteArray × Int)) ++ a0.2.2)
                    else
                      none
                  )
                ) (
                  if ([] : List (ByteArray × Int)).length + a0.2.2.length < room 24 then
                    I5 0 b1 ByteArray.empty 0 a0.1 a0.2.1 [] (([] : List (ByteArray × Int)) ++ a0.2.2)
                  else
                    none
                )
              ) (
                agree (
                  if ([] : List (ByteArray × Int)).length + a0.2.2.length < room 24 then
                    I5 0 b1 ByteArray.empty 0 a0.1 a0.2.1 [] (([] : List (ByteArray × Int)) ++ a0.2.2)
                  else
                    none
                ) (
                  if ([] : List (ByteArray × Int)).length + a0.2.2.length < room 24 then
                    I5 0 b1 ByteArray.empty 0 a0.1 a0.2.1 [] (([] : List (ByteArray × Int)) ++ a0.2.2)
                  else
                    none
                )
              )
            )
          ) (
            agree (
              agree (
                agree (
                  agree (
                    if ([] : List (ByteArray × Int)).length + a0.2.2.length < room 24 then
                      I5 0 b1 ByteArray.empty 0 a0.1 a0.2.1 [] (([] : List (ByteArray × Int)) ++ a0.2.2)
                    else
                      none
                  ) (
                    if ([] : List (ByteArray × Int)).length + a0.2.2.length < room 24 then
                      I5 0 b1 ByteArray.empty 0 a0.1 a0.2.1 [] (([] : List (ByteArray × Int)) ++ a0.2.2)
                    else
                      none
                  )
                ) (
                  if ([] : List (ByteArray × Int)).length + a0.2.2.length < room 24 then
                    I5 0 b1 ByteArray.empty 0 a0.1 a0.2.1 [] (([] : List (ByteArray × Int)) ++ a0.2.2)
                  else
                    none
                )
              ) (
                agree (
                  agree (
                    agree (
                      if ([] : List (ByteArray × Int)).length + a0.2.2.length < room 24 then
                        I5 0 b1 ByteArray.empty 0 a0.1 a0.2.1 [] (([] : List (ByteArray × Int)) ++ a0.2.2)
                      else
                        none
                    ) (
                      if ([] : List (ByteArray × Int)).length + a0.2.2.length < room 24 then
                        I5 0 b1 ByteArray.empty 0 a0.1 a0.2.1 [] (([] : List (ByteArray × Int)) ++ a0.2.2)
                      else
                        none
                    )
                  ) (
                    agree (
                      if ([] : List (ByteArray × Int)).length + a0.2.2.length < room 24 then
                        I5 0 b1 ByteArray.empty 0 a0.1 a0.2.1 [] (([] : List (ByteArray × Int)) ++ a0.2.2)
                      else
                        none
                    ) (
                      agree (
                        if ([] : List (ByteArray × Int)).length + a0.2.2.length < room 24 then
                          I5 0 b1 ByteArray.empty 0 a0.1 a0.2.1 [] (([] : List (ByteArray × Int)) ++ a0.2.2)
                        else
                          none
                      ) (
                        if ([] : List (ByteArray × Int)).length + a0.2.2.length < room 24 then
                          I5 0 b1 ByteArray.empty 0 a0.1 a0.2.1 [] (([] : List (ByteArray × Int)) ++ a0.2.2)
                        else
                          none
                      )
                    )
                  )
                ) (
                  agree (
                    if ([] : List (ByteArray × Int)).length + a0.2.2.length < room 24 then
                      I5 0 b1 ByteArray.empty 0 a0.1 a0.2.1 [] (([] : List (ByteArray × Int)) ++ a0.2.2)
                    else
                      none
                  ) (
                    agree (
                      if ([] : List (ByteArray × Int)).length + a0.2.2.length < room 24 then
                        I5 0 b1 ByteArray.empty 0 a0.1 a0.2.1 [] (([] : List (ByteArray × Int)) ++ a0.2.2)
                      else
                        none
                    ) (
                      if ([] : List (ByteArray × Int)).length + a0.2.2.length < room 24 then
                        I5 0 b1 ByteArray.empty 0 a0.1 a0.2.1 [] (([] : List (ByteArray × Int)) ++ a0.2.2)
                      else
                        none
                    )
                  )
                )
              )
            ) (
              agree (
                agree (
                  agree (
                    agree (
                      if ([] : List (ByteArray × Int)).length + a0.2.2.length < room 24 then
                        I5 0 b1 ByteArray.empty 0 a0.1 a0.2.1 [] (([] : List (ByteArray × Int)) ++ a0.2.2)
                      else
                        none
                    ) (
                      if ([] : List (ByteArray × Int)).length + a0.2.2.length < room 24 then
                        I5 0 b1 ByteArray.empty 0 a0.1 a0.2.1 [] (([] : List (ByteArray × Int)) ++ a0.2.2)
                      else
                        none
                    )
                  ) (
                    if ([] : List (ByteArray × Int)).length + a0.2.2.length < room 24 then
                      I5 0 b1 ByteArray.empty 0 a0.1 a0.2.1 [] (([] : List (ByteArray × Int)) ++ a0.2.2)
                    else
                      none
                  )
                ) (
                  agree (
                    agree (
                      agree (
                        if ([] : List (ByteArray × Int)).length + a0.2.2.length < room 24 then
                          I5 0 b1 ByteArray.empty 0 a0.1 a0.2.1 [] (([] : List (ByteArray × Int)) ++ a0.2.2)
                        else
                          none
                      ) (
                        if ([] : List (ByteArray × Int)).length + a0.2.2.length < room 24 then
                          I5 0 b1 ByteArray.empty 0 a0.1 a0.2.1 [] (([] : List (ByteArray × Int)) ++ a0.2.2)
                        else
                          none
                      )
                    ) (
                      agree (
                        if ([] : List (ByteArray × Int)).length + a0.2.2.length < room 24 then
                          I5 0 b1 ByteArray.empty 0 a0.1 a0.2.1 [] (([] : List (ByteArray × Int)) ++ a0.2.2)
                        else
                          none
                      ) (
                        agree (
                          if ([] : List (ByteArray × Int)).length + a0.2.2.length < room 24 then
                            I5 0 b1 ByteArray.empty 0 a0.1 a0.2.1 [] (([] : List (ByteArray × Int)) ++ a0.2.2)
                          else
                            none
                        ) (
                          if ([] : List (ByteArray × Int)).length + a0.2.2.length < room 24 then
                            I5 0 b1 ByteArray.empty 0 a0.1 a0.2.1 [] (([] : List (ByteArray × Int)) ++ a0.2.2)
                          else
                            none
                        )
                      )
                    )
                  ) (
                    agree (
                      if ([] : List (ByteArray × Int)).length + a0.2.2.length < room 24 then
                        I5 0 b1 ByteArray.empty 0 a0.1 a0.2.1 [] (([] : List (ByteArray × Int)) ++ a0.2.2)
                      else
                        none
                    ) (
                      agree (
                        if ([] : List (ByteArray × Int)).length + a0.2.2.length < room 24 then
                          I5 0 b1 ByteArray.empty 0 a0.1 a0.2.1 [] (([] : List (ByteArray × Int)) ++ a0.2.2)
                        else
                          none
                      ) (
                        if ([] : List (ByteArray × Int)).length + a0.2.2.length < room 24 then
                          I5 0 b1 ByteArray.empty 0 a0.1 a0.2.1 [] (([] : List (ByteArray × Int)) ++ a0.2.2)
                        else
                          none
                      )
                    )
                  )
                )
              ) (
                agree (
                  agree (
                    if ([] : List (ByteArray × Int)).length + a0.2.2.length < room 24 then
                      I5 0 b1 ByteArray.empty 0 a0.1 a0.2.1 [] (([] : List (ByteArray × Int)) ++ a0.2.2)
                    else
                      none
                  ) (
                    if ([] : List (ByteArray × Int)).length + a0.2.2.length < room 24 then
                      I5 0 b1 ByteArray.empty 0 a0.1 a0.2.1 [] (([] : List (ByteArray × Int)) ++ a0.2.2)
                    else
                      none
                  )
                ) (
                  agree (
                    agree (
                      if ([] : List (ByteArray × Int)).length + a0.2.2.length < room 24 then
                        I5 0 b1 ByteArray.empty 0 a0.1 a0.2.1 [] (([] : List (ByteArray × Int)) ++ a0.2.2)
                      else
                        none
                    ) (
                      agree (
                        if ([] : List (ByteArray × Int)).length + a0.2.2.length < room 24 then
                          I5 0 b1 ByteArray.empty 0 a0.1 a0.2.1 [] (([] : List (ByteArray × Int)) ++ a0.2.2)
                        else
                          none
                      ) (
                        if ([] : List (ByteArray × Int)).length + a0.2.2.length < room 24 then
                          I5 0 b1 ByteArray.empty 0 a0.1 a0.2.1 [] (([] : List (ByteArray × Int)) ++ a0.2.2)
                        else
                          none
                      )
                    )
                  ) (
                    agree (
                      if ([] : List (ByteArray × Int)).length + a0.2.2.length < room 24 then
                        I5 0 b1 ByteArray.empty 0 a0.1 a0.2.1 [] (([] : List (ByteArray × Int)) ++ a0.2.2)
                      else
                        none
                    ) (
                      agree (
                        if ([] : List (ByteArray × Int)).length + a0.2.2.length < room 24 then
                          I5 0 b1 ByteArray.empty 0 a0.1 a0.2.1 [] (([] : List (ByteArray × Int)) ++ a0.2.2)
                        else
                          none
                      ) (
                        if ([] : List (ByteArray × Int)).length + a0.2.2.length < room 24 then
                          I5 0 b1 ByteArray.empty 0 a0.1 a0.2.1 [] (([] : List (ByteArray × Int)) ++ a0.2.2)
                        else
                          none
                      )
                    )
                  )
                )
              )
            )
          )
        ) (
          agree (
            agree (
              agree (
                agree (
                  agree (
                    if ([] : List (ByteArray × Int)).length + a0.2.2.length < room 24 then
                      I5 0 b1 ByteArray.empty 0 a0.1 a0.2.1 [] (([] : List (ByteArray × Int)) ++ a0.2.2)
                    else
                      none
                  ) (
                    if ([] : List (ByteArray × Int)).length + a0.2.2.length < room 24 then
                      I5 0 b1 ByteArray.empty 0 a0.1 a0.2.1 [] (([] : List (ByteArray × Int)) ++ a0.2.2)
                    else
                      none
                  )
                ) (
                  if ([] : List (ByteArray × Int)).length + a0.2.2.length < room 24 then
                    I5 0 b1 ByteArray.empty 0 a0.1 a0.2.1 [] (([] : List (ByteArray × Int)) ++ a0.2.2)
                  else
                    none
                )
              ) (
                agree (
                  agree (
                    agree (
                      if ([] : List (ByteArray × Int)).length + a0.2.2.length < room 24 then
                        I5 0 b1 ByteArray.empty 0 a0.1 a0.2.1 [] (([] : List (ByteArray × Int)) ++ a0.2.2)
                      else
                        none
                    ) (
                      if ([] : List (ByteArray × Int)).length + a0.2.2.length < room 24 then
                        I5 0 b1 ByteArray.empty 0 a0.1 a0.2.1 [] (([] : List (ByteArray × Int)) ++ a0.2.2)
                      else
                        none
                    )
                  ) (
                    agree (
                      if ([] : List (ByteArray × Int)).length + a0.2.2.length < room 24 then
                        I5 0 b1 ByteArray.empty 0 a0.1 a0.2.1 [] (([] : List (ByteArray × Int)) ++ a0.2.2)
                      else
                        none
                    ) (
                      agree (
                        if ([] : List (ByteArray × Int)).length + a0.2.2.length < room 24 then
                          I5 0 b1 ByteArray.empty 0 a0.1 a0.2.1 [] (([] : List (ByteArray × Int)) ++ a0.2.2)
                        else
                          none
                      ) (
                        if ([] : List (ByteArray × Int)).length + a0.2.2.length < room 24 then
                          I5 0 b1 ByteArray.empty 0 a0.1 a0.2.1 [] (([] : List (ByteArray × Int)) ++ a0.2.2)
                        else
                          none
                      )
                    )
                  )
                ) (
                  agree (
                    if ([] : List (ByteArray × Int)).length + a0.2.2.length < room 24 then
                      I5 0 b1 ByteArray.empty 0 a0.1 a0.2.1 [] (([] : List (ByteArray × Int)) ++ a0.2.2)
                    else
                      none
                  ) (
                    agree (
                      if ([] : List (ByteArray × Int)).length + a0.2.2.length < room 24 then
                        I5 0 b1 ByteArray.empty 0 a0.1 a0.2.1 [] (([] : List (ByteArray × Int)) ++ a0.2.2)
                      else
                        none
                    ) (
                      if ([] : List (ByteArray × Int)).length + a0.2.2.length < room 24 then
                        I5 0 b1 ByteArray.empty 0 a0.1 a0.2.1 [] (([] : List (ByteArray × Int)) ++ a0.2.2)
                      else
                        none
                    )
                  )
                )
              )
            ) (
              agree (
                agree (
                  agree (
                    agree (
                      if ([] : List (ByteArray × Int)).length + a0.2.2.length < room 24 then
                        I5 0 b1 ByteArray.empty 0 a0.1 a0.2.1 [] (([] : List (ByteArray × Int)) ++ a0.2.2)
                      else
                        none
                    ) (
                      if ([] : List (ByteArray × Int)).length + a0.2.2.length < room 24 then
                        I5 0 b1 ByteArray.empty 0 a0.1 a0.2.1 [] (([] : List (ByteArray × Int)) ++ a0.2.2)
                      else
                        none
                    )
                  ) (
                    if ([] : List (ByteArray × Int)).length + a0.2.2.length < room 24 then
                      I5 0 b1 ByteArray.empty 0 a0.1 a0.2.1 [] (([] : List (ByteArray × Int)) ++ a0.2.2)
                    else
                      none
                  )
                ) (
                  agree (
                    agree (
                      agree (
                        if ([] : List (ByteArray × Int)).length + a0.2.2.length < room 24 then
                          I5 0 b1 ByteArray.empty 0 a0.1 a0.2.1 [] (([] : List (ByteArray × Int)) ++ a0.2.2)
                        else
                          none
                      ) (
                        if ([] : List (ByteArray × Int)).length + a0.2.2.length < room 24 then
                          I5 0 b1 ByteArray.empty 0 a0.1 a0.2.1 [] (([] : List (ByteArray × Int)) ++ a0.2.2)
                        else
                          none
                      )
                    ) (
                      agree (
                        if ([] : List (ByteArray × Int)).length + a0.2.2.length < room 24 then
                          I5 0 b1 ByteArray.empty 0 a0.1 a0.2.1 [] (([] : List (ByteArray × Int)) ++ a0.2.2)
                        else
                          none
                      ) (
                        agree (
                          if ([] : List (ByteArray × Int)).length + a0.2.2.length < room 24 then
                            I5 0 b1 ByteArray.empty 0 a0.1 a0.2.1 [] (([] : List (ByteArray × Int)) ++ a0.2.2)
                          else
                            none
                        ) (
                          if ([] : List (ByteArray × Int)).length + a0.2.2.length < room 24 then
                            I5 0 b1 ByteArray.empty 0 a0.1 a0.2.1 [] (([] : List (ByteArray × Int)) ++ a0.2.2)
                          else
                            none
                        )
                      )
                    )
                  ) (
                    agree (
                      if ([] : List (ByteArray × Int)).length + a0.2.2.length < room 24 then
                        I5 0 b1 ByteArray.empty 0 a0.1 a0.2.1 [] (([] : List (ByteArray × Int)) ++ a0.2.2)
                      else
                        none
                    ) (
                      agree (
                        if ([] : List (ByteArray × Int)).length + a0.2.2.length < room 24 then
                          I5 0 b1 ByteArray.empty 0 a0.1 a0.2.1 [] (([] : List (ByteArray × Int)) ++ a0.2.2)
                        else
                          none
                      ) (
                        if ([] : List (ByteArray × Int)).length + a0.2.2.length < room 24 then
                          I5 0 b1 ByteArray.empty 0 a0.1 a0.2.1 [] (([] : List (ByteArray × Int)) ++ a0.2.2)
                        else
                          none
                      )
                    )
                  )
                )
              ) (
                agree (
                  agree (
                    agree (
                      agree (
                        if ([] : List (ByteArray × Int)).length + a0.2.2.length < room 24 then
                          I5 0 b1 ByteArray.empty 0 a0.1 a0.2.1 [] (([] : List (ByteArray × Int)) ++ a0.2.2)
                        else
                          none
                      ) (
                        if ([] : List (ByteArray × Int)).length + a0.2.2.length < room 24 then
                          I5 0 b1 ByteArray.empty 0 a0.1 a0.2.1 [] (([] : List (ByteArray × Int)) ++ a0.2.2)
                        else
                          none
                      )
                    ) (
                      agree (
                        if ([] : List (ByteArray × Int)).length + a0.2.2.length < room 24 then
                          I5 0 b1 ByteArray.empty 0 a0.1 a0.2.1 [] (([] : List (ByteArray × Int)) ++ a0.2.2)
                        else
                          none
                      ) (
                        agree (
                          if ([] : List (ByteArray × Int)).length + a0.2.2.length < room 24 then
                            I5 0 b1 ByteArray.empty 0 a0.1 a0.2.1 [] (([] : List (ByteArray × Int)) ++ a0.2.2)
                          else
                            none
                        ) (
                          if ([] : List (ByteArray × Int)).length + a0.2.2.length < room 24 then
                            I5 0 b1 ByteArray.empty 0 a0.1 a0.2.1 [] (([] : List (ByteArray × Int)) ++ a0.2.2)
                          else
                            none
                        )
                      )
                    )
                  ) (
                    agree (
                      agree (
                        agree (
                          if ([] : List (ByteArray × Int)).length + a0.2.2.length < room 24 then
                            I5 0 b1 ByteArray.empty 0 a0.1 a0.2.1 [] (([] : List (ByteArray × Int)) ++ a0.2.2)
                          else
                            none
                        ) (
                          if ([] : List (ByteArray × Int)).length + a0.2.2.length < room 24 then
                            I5 0 b1 ByteArray.empty 0 a0.1 a0.2.1 [] (([] : List (ByteArray × Int)) ++ a0.2.2)
                          else
                            none
                        )
                      ) (
                        agree (
                          if ([] : List (ByteArray × Int)).length + a0.2.2.length < room 24 then
                            I5 0 b1 ByteArray.empty 0 a0.1 a0.2.1 [] (([] : List (ByteArray × Int)) ++ a0.2.2)
                          else
                            none
                        ) (
                          agree (
                            if ([] : List (ByteArray × Int)).length + a0.2.2.length < room 24 then
                              I5 0 b1 ByteArray.empty 0 a0.1 a0.2.1 [] (([] : List (ByteArray × Int)) ++ a0.2.2)
                            else
                              none
                          ) (
                            if ([] : List (ByteArray × Int)).length + a0.2.2.length < room 24 then
                              I5 0 b1 ByteArray.empty 0 a0.1 a0.2.1 [] (([] : List (ByteArray × Int)) ++ a0.2.2)
                            else
                              none
                          )
                        )
                      )
                    ) (
                      agree (
                        if ([] : List (ByteArray × Int)).length + a0.2.2.length < room 24 then
                          I5 0 b1 ByteArray.empty 0 a0.1 a0.2.1 [] (([] : List (ByteArray × Int)) ++ a0.2.2)
                        else
                          none
                      ) (
                        agree (
                          agree (
                            if ([] : List (ByteArray × Int)).length + a0.2.2.length < room 24 then
                              I5 0 b1 ByteArray.empty 0 a0.1 a0.2.1 [] (([] : List (ByteArray × Int)) ++ a0.2.2)
                            else
                              none
                          ) (
                            if ([] : List (ByteArray × Int)).length + a0.2.2.length < room 24 then
                              I5 0 b1 ByteArray.empty 0 a0.1 a0.2.1 [] (([] : List (ByteArray × Int)) ++ a0.2.2)
                            else
                              none
                          )
                        ) (
                          agree (
                            agree (
                              if ([] : List (ByteArray × Int)).length + a0.2.2.length < room 24 then
                                I5 0 b1 ByteArray.empty 0 a0.1 a0.2.1 [] (([] : List (ByteArray × Int)) ++ a0.2.2)
                              else
                                none
                            ) (
                              if ([] : List (ByteArray × Int)).length + a0.2.2.length < room 24 then
                                I5 0 b1 ByteArray.empty 0 a0.1 a0.2.1 [] (([] : List (ByteArray × Int)) ++ a0.2.2)
                              else
                                none
                            )
                          ) (
                            if ([] : List (ByteArray × Int)).length + a0.2.2.length < room 24 then
                              I5 0 b1 ByteArray.empty 0 a0.1 a0.2.1 [] (([] : List (ByteArray × Int)) ++ a0.2.2)
                            else
                              none
                          )
                        )
                      )
                    )
                  )
                ) (
                  agree (
                    agree (
                      if ([] : List (ByteArray × Int)).length + a0.2.2.length < room 24 then
                        I5 0 b1 ByteArray.empty 0 a0.1 a0.2.1 [] (([] : List (ByteArray × Int)) ++ a0.2.2)
                      else
                        none
                    ) (
                      agree (
                        if ([] : List (ByteArray × Int)).length + a0.2.2.length < room 24 then
                          I5 0 b1 ByteArray.empty 0 a0.1 a0.2.1 [] (([] : List (ByteArray × Int)) ++ a0.2.2)
                        else
                          none
                      ) (
                        if ([] : List (ByteArray × Int)).length + a0.2.2.length < room 24 then
                          I5 0 b1 ByteArray.empty 0 a0.1 a0.2.1 [] (([] : List (ByteArray × Int)) ++ a0.2.2)
                        else
                          none
                      )
                    )
                  ) (
                    agree (
                      agree (
                        if ([] : List (ByteArray × Int)).length + a0.2.2.length < room 24 then
                          I5 0 b1 ByteArray.empty 0 a0.1 a0.2.1 [] (([] : List (ByteArray × Int)) ++ a0.2.2)
                        else
                          none
                      ) (
                        agree (
                          if ([] : List (ByteArray × Int)).length + a0.2.2.length < room 24 then
                            I5 0 b1 ByteArray.empty 0 a0.1 a0.2.1 [] (([] : List (ByteArray × Int)) ++ a0.2.2)
                          else
                            none
                        ) (
                          if ([] : List (ByteArray × Int)).length + a0.2.2.length < room 24 then
                            I5 0 b1 ByteArray.empty 0 a0.1 a0.2.1 [] (([] : List (ByteArray × Int)) ++ a0.2.2)
                          else
                            none
                        )
                      )
                    ) (
                      agree (
                        agree (
                          if ([] : List (ByteArray × Int)).length + a0.2.2.length < room 24 then
                            I5 0 b1 ByteArray.empty 0 a0.1 a0.2.1 [] (([] : List (ByteArray × Int)) ++ a0.2.2)
                          else
                            none
                        ) (
                          if ([] : List (ByteArray × Int)).length + a0.2.2.length < room 24 then
                            I5 0 b1 ByteArray.empty 0 a0.1 a0.2.1 [] (([] : List (ByteArray × Int)) ++ a0.2.2)
                          else
                            none
                        )
                      ) (
                        agree (
                          agree (
                            if ([] : List (ByteArray × Int)).length + a0.2.2.length < room 24 then
                              I5 0 b1 ByteArray.empty 0 a0.1 a0.2.1 [] (([] : List (ByteArray × Int)) ++ a0.2.2)
                            else
                              none
                          ) (
                            if ([] : List (ByteArray × Int)).length + a0.2.2.length < room 24 then
                              I5 0 b1 ByteArray.empty 0 a0.1 a0.2.1 [] (([] : List (ByteArray × Int)) ++ a0.2.2)
                            else
                              none
                          )
                        ) (
                          if ([] : List (ByteArray × Int)).length + a0.2.2.length < room 24 then
                            I5 0 b1 ByteArray.empty 0 a0.1 a0.2.1 [] (([] : List (ByteArray × Int)) ++ a0.2.2)
                          else
                            none
                        )
                      )
                    )
                  )
                )
              )
            )
          ) (
            agree (
              agree (
                agree (
                  agree (
                    agree (
                      if ([] : List (ByteArray × Int)).length + a0.2.2.length < room 24 then
                        I5 0 b1 ByteArray.empty 0 a0.1 a0.2.1 [] (([] : List (ByteArray × Int)) ++ a0.2.2)
                      else
                        none
                    ) (
                      if ([] : List (ByteArray × Int)).length + a0.2.2.length < room 24 then
                        I5 0 b1 ByteArray.empty 0 a0.1 a0.2.1 [] (([] : List (ByteArray × Int)) ++ a0.2.2)
                      else
                        none
                    )
                  ) (
                    if ([] : List (ByteArray × Int)).length + a0.2.2.length < room 24 then
                      I5 0 b1 ByteArray.empty 0 a0.1 a0.2.1 [] (([] : List (ByteArray × Int)) ++ a0.2.2)
                    else
                      none
                  )
                ) (
                  agree (
                    agree (
                      agree (
                        if ([] : List (ByteArray × Int)).length + a0.2.2.length < room 24 then
                          I5 0 b1 ByteArray.empty 0 a0.1 a0.2.1 [] (([] : List (ByteArray × Int)) ++ a0.2.2)
                        else
                          none
                      ) (
                        if ([] : List (ByteArray × Int)).length + a0.2.2.length < room 24 then
                          I5 0 b1 ByteArray.empty 0 a0.1 a0.2.1 [] (([] : List (ByteArray × Int)) ++ a0.2.2)
                        else
                          none
                      )
                    ) (
                      agree (
                        if ([] : List (ByteArray × Int)).length + a0.2.2.length < room 24 then
                          I5 0 b1 ByteArray.empty 0 a0.1 a0.2.1 [] (([] : List (ByteArray × Int)) ++ a0.2.2)
                        else
                          none
                      ) (
                        agree (
                          if ([] : List (ByteArray × Int)).length + a0.2.2.length < room 24 then
                            I5 0 b1 ByteArray.empty 0 a0.1 a0.2.1 [] (([] : List (ByteArray × Int)) ++ a0.2.2)
                          else
                            none
                        ) (
                          if ([] : List (ByteArray × Int)).length + a0.2.2.length < room 24 then
                            I5 0 b1 ByteArray.empty 0 a0.1 a0.2.1 [] (([] : List (ByteArray × Int)) ++ a0.2.2)
                          else
                            none
                        )
                      )
                    )
                  ) (
                    agree (
                      if ([] : List (ByteArray × Int)).length + a0.2.2.length < room 24 then
                        I5 0 b1 ByteArray.empty 0 a0.1 a0.2.1 [] (([] : List (ByteArray × Int)) ++ a0.2.2)
                      else
                        none
                    ) (
                      agree (
                        if ([] : List (ByteArray × Int)).length + a0.2.2.length < room 24 then
                          I5 0 b1 ByteArray.empty 0 a0.1 a0.2.1 [] (([] : List (ByteArray × Int)) ++ a0.2.2)
                        else
                          none
                      ) (
                        if ([] : List (ByteArray × Int)).length + a0.2.2.length < room 24 then
                          I5 0 b1 ByteArray.empty 0 a0.1 a0.2.1 [] (([] : List (ByteArray × Int)) ++ a0.2.2)
                        else
                          none
                      )
                    )
                  )
                )
              ) (
                agree (
                  agree (
                    agree (
                      agree (
                        if ([] : List (ByteArray × Int)).length + a0.2.2.length < room 24 then
                          I5 0 b1 ByteArray.empty 0 a0.1 a0.2.1 [] (([] : List (ByteArray × Int)) ++ a0.2.2)
                        else
                          none
                      ) (
                        if ([] : List (ByteArray × Int)).length + a0.2.2.length < room 24 then
                          I5 0 b1 ByteArray.empty 0 a0.1 a0.2.1 [] (([] : List (ByteArray × Int)) ++ a0.2.2)
                        else
                          none
                      )
                    ) (
                      if ([] : List (ByteArray × Int)).length + a0.2.2.length < room 24 then
                        I5 0 b1 ByteArray.empty 0 a0.1 a0.2.1 [] (([] : List (ByteArray × Int)) ++ a0.2.2)
                      else
                        none
                    )
                  ) (
                    agree (
                      agree (
                        agree (
                          if ([] : List (ByteArray × Int)).length + a0.2.2.length < room 24 then
                            I5 0 b1 ByteArray.empty 0 a0.1 a0.2.1 [] (([] : List (ByteArray × Int)) ++ a0.2.2)
                          else
                            none
                        ) (
                          if ([] : List (ByteArray × Int)).length + a0.2.2.length < room 24 then
                            I5 0 b1 ByteArray.empty 0 a0.1 a0.2.1 [] (([] : List (ByteArray × Int)) ++ a0.2.2)
                          else
                            none
                        )
                      ) (
                        agree (
                          if ([] : List (ByteArray × Int)).length + a0.2.2.length < room 24 then
                            I5 0 b1 ByteArray.empty 0 a0.1 a0.2.1 [] (([] : List (ByteArray × Int)) ++ a0.2.2)
                          else
                            none
                        ) (
                          agree (
                            if ([] : List (ByteArray × Int)).length + a0.2.2.length < room 24 then
                              I5 0 b1 ByteArray.empty 0 a0.1 a0.2.1 [] (([] : List (ByteArray × Int)) ++ a0.2.2)
                            else
                              none
                          ) (
                            if ([] : List (ByteArray × Int)).length + a0.2.2.length < room 24 then
                              I5 0 b1 ByteArray.empty 0 a0.1 a0.2.1 [] (([] : List (ByteArray × Int)) ++ a0.2.2)
                            else
                              none
                          )
                        )
                      )
                    ) (
                      agree (
                        if ([] : List (ByteArray × Int)).length + a0.2.2.length < room 24 then
                          I5 0 b1 ByteArray.empty 0 a0.1 a0.2.1 [] (([] : List (ByteArray × Int)) ++ a0.2.2)
                        else
                          none
                      ) (
                        agree (
                          if ([] : List (ByteArray × Int)).length + a0.2.2.length < room 24 then
                            I5 0 b1 ByteArray.empty 0 a0.1 a0.2.1 [] (([] : List (ByteArray × Int)) ++ a0.2.2)
                          else
                            none
                        ) (
                          if ([] : List (ByteArray × Int)).length + a0.2.2.length < room 24 then
                            I5 0 b1 ByteArray.empty 0 a0.1 a0.2.1 [] (([] : List (ByteArray × Int)) ++ a0.2.2)
                          else
                            none
                        )
                      )
                    )
                  )
                ) (
                  agree (
                    agree (
                      agree (
                        agree (
                          if ([] : List (ByteArray × Int)).length + a0.2.2.length < room 24 then
                            I5 0 b1 ByteArray.empty 0 a0.1 a0.2.1 [] (([] : List (ByteArray × Int)) ++ a0.2.2)
                          else
                            none
                        ) (
                          if ([] : List (ByteArray × Int)).length + a0.2.2.length < room 24 then
                            I5 0 b1 ByteArray.empty 0 a0.1 a0.2.1 [] (([] : List (ByteArray × Int)) ++ a0.2.2)
                          else
                            none
                        )
                      ) (
                        agree (
                          if ([] : List (ByteArray × Int)).length + a0.2.2.length < room 24 then
                            I5 0 b1 ByteArray.empty 0 a0.1 a0.2.1 [] (([] : List (ByteArray × Int)) ++ a0.2.2)
                          else
                            none
                        ) (
                          agree (
                            if ([] : List (ByteArray × Int)).length + a0.2.2.length < room 24 then
                              I5 0 b1 ByteArray.empty 0 a0.1 a0.2.1 [] (([] : List (ByteArray × Int)) ++ a0.2.2)
                            else
                              none
                          ) (
                            if ([] : List (ByteArray × Int)).length + a0.2.2.length < room 24 then
                              I5 0 b1 ByteArray.empty 0 a0.1 a0.2.1 [] (([] : List (ByteArray × Int)) ++ a0.2.2)
                            else
                              none
                          )
                        )
                      )
                    ) (
                      agree (
                        agree (
                          agree (
                            if ([] : List (ByteArray × Int)).length + a0.2.2.length < room 24 then
                              I5 0 b1 ByteArray.empty 0 a0.1 a0.2.1 [] (([] : List (ByteArray × Int)) ++ a0.2.2)
                            else
                              none
                          ) (
                            if ([] : List (ByteArray × Int)).length + a0.2.2.length < room 24 then
                              I5 0 b1 ByteArray.empty 0 a0.1 a0.2.1 [] (([] : List (ByteArray × Int)) ++ a0.2.2)
                            else
                              none
                          )
                        ) (
                          agree (
                            if ([] : List (ByteArray × Int)).length + a0.2.2.length < room 24 then
                              I5 0 b1 ByteArray.empty 0 a0.1 a0.2.1 [] (([] : List (ByteArray × Int)) ++ a0.2.2)
                            else
                              none
                          ) (
                            agree (
                              if ([] : List (ByteArray × Int)).length + a0.2.2.length < room 24 then
                                I5 0 b1 ByteArray.empty 0 a0.1 a0.2.1 [] (([] : List (ByteArray × Int)) ++ a0.2.2)
                              else
                                none
                            ) (
                              if ([] : List (ByteArray × Int)).length + a0.2.2.length < room 24 then
                                I5 0 b1 ByteArray.empty 0 a0.1 a0.2.1 [] (([] : List (ByteArray × Int)) ++ a0.2.2)
                              else
                                none
                            )
                          )
                        )
                      ) (
                        agree (
                          if ([] : List (ByteArray × Int)).length + a0.2.2.length < room 24 then
                            I5 0 b1 ByteArray.empty 0 a0.1 a0.2.1 [] (([] : List (ByteArray × Int)) ++ a0.2.2)
                          else
                            none
                        ) (
                          agree (
                            agree (
                              if ([] : List (ByteArray × Int)).length + a0.2.2.length < room 24 then
                                I5 0 b1 ByteArray.empty 0 a0.1 a0.2.1 [] (([] : List (ByteArray × Int)) ++ a0.2.2)
                              else
                                none
                            ) (
                              if ([] : List (ByteArray × Int)).length + a0.2.2.length < room 24 then
                                I5 0 b1 ByteArray.empty 0 a0.1 a0.2.1 [] (([] : List (ByteArray × Int)) ++ a0.2.2)
                              else
                                none
                            )
                          ) (
                            agree (
                              agree (
                                if ([] : List (ByteArray × Int)).length + a0.2.2.length < room 24 then
                                  I5 0 b1 ByteArray.empty 0 a0.1 a0.2.1 [] (([] : List (ByteArray × Int)) ++ a0.2.2)
                                else
                                  none
                              ) (
                                if ([] : List (ByteArray × Int)).length + a0.2.2.length < room 24 then
                                  I5 0 b1 ByteArray.empty 0 a0.1 a0.2.1 [] (([] : List (ByteArray × Int)) ++ a0.2.2)
                                else
                                  none
                              )
                            ) (
                              if ([] : List (ByteArray × Int)).length + a0.2.2.length < room 24 then
                                I5 0 b1 ByteArray.empty 0 a0.1 a0.2.1 [] (([] : List (ByteArray × Int)) ++ a0.2.2)
                              else
                                none
                            )
                          )
                        )
                      )
                    )
                  ) (
                    agree (
                      agree (
                        if ([] : List (ByteArray × Int)).length + a0.2.2.length < room 24 then
                          I5 0 b1 ByteArray.empty 0 a0.1 a0.2.1 [] (([] : List (ByteArray × Int)) ++ a0.2.2)
                        else
                          none
                      ) (
                        agree (
                          if ([] : List (ByteArray × Int)).length + a0.2.2.length < room 24 then
                            I5 0 b1 ByteArray.empty 0 a0.1 a0.2.1 [] (([] : List (ByteArray × Int)) ++ a0.2.2)
                          else
                            none
                        ) (
                          if ([] : List (ByteArray × Int)).length + a0.2.2.length < room 24 then
                            I5 0 b1 ByteArray.empty 0 a0.1 a0.2.1 [] (([] : List (ByteArray × Int)) ++ a0.2.2)
                          else
                            none
                        )
                      )
                    ) (
                      agree (
                        agree (
                          if ([] : List (ByteArray × Int)).length + a0.2.2.length < room 24 then
                            I5 0 b1 ByteArray.empty 0 a0.1 a0.2.1 [] (([] : List (ByteArray × Int)) ++ a0.2.2)
                          else
                            none
                        ) (
                          agree (
                            if ([] : List (ByteArray × Int)).length + a0.2.2.length < room 24 then
                              I5 0 b1 ByteArray.empty 0 a0.1 a0.2.1 [] (([] : List (ByteArray × Int)) ++ a0.2.2)
                            else
                              none
                          ) (
                            if ([] : List (ByteArray × Int)).length + a0.2.2.length < room 24 then
                              I5 0 b1 ByteArray.empty 0 a0.1 a0.2.1 [] (([] : List (ByteArray × Int)) ++ a0.2.2)
                            else
                              none
                          )
                        )
                      ) (
                        agree (
                          agree (
                            if ([] : List (ByteArray × Int)).length + a0.2.2.length < room 24 then
                              I5 0 b1 ByteArray.empty 0 a0.1 a0.2.1 [] (([] : List (ByteArray × Int)) ++ a0.2.2)
                            else
                              none
                          ) (
                            if ([] : List (ByteArray × Int)).length + a0.2.2.length < room 24 then
                              I5 0 b1 ByteArray.empty 0 a0.1 a0.2.1 [] (([] : List (ByteArray × Int)) ++ a0.2.2)
                            else
                              none
                          )
                        ) (
                          agree (
                            agree (
                              if ([] : List (ByteArray × Int)).length + a0.2.2.length < room 24 then
                                I5 0 b1 ByteArray.empty 0 a0.1 a0.2.1 [] (([] : List (ByteArray × Int)) ++ a0.2.2)
                              else
                                none
                            ) (
                              if ([] : List (ByteArray × Int)).length + a0.2.2.length < room 24 then
                                I5 0 b1 ByteArray.empty 0 a0.1 a0.2.1 [] (([] : List (ByteArray × Int)) ++ a0.2.2)
                              else
                                none
                            )
                          ) (
                            if ([] : List (ByteArray × Int)).length + a0.2.2.length < room 24 then
                              I5 0 b1 ByteArray.empty 0 a0.1 a0.2.1 [] (([] : List (ByteArray × Int)) ++ a0.2.2)
                            else
                              none
                          )
                        )
                      )
                    )
                  )
                )
              )
            ) (
              agree (
                agree (
                  agree (
                    if ([] : List (ByteArray × Int)).length + a0.2.2.length < room 24 then
                      I5 0 b1 ByteArray.empty 0 a0.1 a0.2.1 [] (([] : List (ByteArray × Int)) ++ a0.2.2)
                    else
                      none
                  ) (
                    if ([] : List (ByteArray × Int)).length + a0.2.2.length < room 24 then
                      I5 0 b1 ByteArray.empty 0 a0.1 a0.2.1 [] (([] : List (ByteArray × Int)) ++ a0.2.2)
                    else
                      none
                  )
                ) (
                  agree (
                    agree (
                      if ([] : List (ByteArray × Int)).length + a0.2.2.length < room 24 then
                        I5 0 b1 ByteArray.empty 0 a0.1 a0.2.1 [] (([] : List (ByteArray × Int)) ++ a0.2.2)
                      else
                        none
                    ) (
                      agree (
                        if ([] : List (ByteArray × Int)).length + a0.2.2.length < room 24 then
                          I5 0 b1 ByteArray.empty 0 a0.1 a0.2.1 [] (([] : List (ByteArray × Int)) ++ a0.2.2)
                        else
                          none
                      ) (
                        if ([] : List (ByteArray × Int)).length + a0.2.2.length < room 24 then
                          I5 0 b1 ByteArray.empty 0 a0.1 a0.2.1 [] (([] : List (ByteArray × Int)) ++ a0.2.2)
                        else
                          none
                      )
                    )
                  ) (
                    agree (
                      if ([] : List (ByteArray × Int)).length + a0.2.2.length < room 24 then
                        I5 0 b1 ByteArray.empty 0 a0.1 a0.2.1 [] (([] : List (ByteArray × Int)) ++ a0.2.2)
                      else
                        none
                    ) (
                      agree (
                        if ([] : List (ByteArray × Int)).length + a0.2.2.length < room 24 then
                          I5 0 b1 ByteArray.empty 0 a0.1 a0.2.1 [] (([] : List (ByteArray × Int)) ++ a0.2.2)
                        else
                          none
                      ) (
                        if ([] : List (ByteArray × Int)).length + a0.2.2.length < room 24 then
                          I5 0 b1 ByteArray.empty 0 a0.1 a0.2.1 [] (([] : List (ByteArray × Int)) ++ a0.2.2)
                        else
                          none
                      )
                    )
                  )
                )
              ) (
                agree (
                  agree (
                    agree (
                      if ([] : List (ByteArray × Int)).length + a0.2.2.length < room 24 then
                        I5 0 b1 ByteArray.empty 0 a0.1 a0.2.1 [] (([] : List (ByteArray × Int)) ++ a0.2.2)
                      else
                        none
                    ) (
                      if ([] : List (ByteArray × Int)).length + a0.2.2.length < room 24 then
                        I5 0 b1 ByteArray.empty 0 a0.1 a0.2.1 [] (([] : List (ByteArray × Int)) ++ a0.2.2)
                      else
                        none
                    )
                  ) (
                    agree (
                      agree (
                        if ([] : List (ByteArray × Int)).length + a0.2.2.length < room 24 then
                          I5 0 b1 ByteArray.empty 0 a0.1 a0.2.1 [] (([] : List (ByteArray × Int)) ++ a0.2.2)
                        else
                          none
                      ) (
                        agree (
                          if ([] : List (ByteArray × Int)).length + a0.2.2.length < room 24 then
                            I5 0 b1 ByteArray.empty 0 a0.1 a0.2.1 [] (([] : List (ByteArray × Int)) ++ a0.2.2)
                          else
                            none
                        ) (
                          if ([] : List (ByteArray × Int)).length + a0.2.2.length < room 24 then
                            I5 0 b1 ByteArray.empty 0 a0.1 a0.2.1 [] (([] : List (ByteArray × Int)) ++ a0.2.2)
                          else
                            none
                        )
                      )
                    ) (
                      agree (
                        if ([] : List (ByteArray × Int)).length + a0.2.2.length < room 24 then
                          I5 0 b1 ByteArray.empty 0 a0.1 a0.2.1 [] (([] : List (ByteArray × Int)) ++ a0.2.2)
                        else
                          none
                      ) (
                        agree (
                          if ([] : List (ByteArray × Int)).length + a0.2.2.length < room 24 then
                            I5 0 b1 ByteArray.empty 0 a0.1 a0.2.1 [] (([] : List (ByteArray × Int)) ++ a0.2.2)
                          else
                            none
                        ) (
                          if ([] : List (ByteArray × Int)).length + a0.2.2.length < room 24 then
                            I5 0 b1 ByteArray.empty 0 a0.1 a0.2.1 [] (([] : List (ByteArray × Int)) ++ a0.2.2)
                          else
                            none
                        )
                      )
                    )
                  )
                ) (
                  agree (
                    agree (
                      agree (
                        if ([] : List (ByteArray × Int)).length + a0.2.2.length < room 24 then
                          I5 0 b1 ByteArray.empty 0 a0.1 a0.2.1 [] (([] : List (ByteArray × Int)) ++ a0.2.2)
                        else
                          none
                      ) (
                        agree (
                          if ([] : List (ByteArray × Int)).length + a0.2.2.length < room 24 then
                            I5 0 b1 ByteArray.empty 0 a0.1 a0.2.1 [] (([] : List (ByteArray × Int)) ++ a0.2.2)
                          else
                            none
                        ) (
                          if ([] : List (ByteArray × Int)).length + a0.2.2.length < room 24 then
                            I5 0 b1 ByteArray.empty 0 a0.1 a0.2.1 [] (([] : List (ByteArray × Int)) ++ a0.2.2)
                          else
                            none
                        )
                      )
                    ) (
                      agree (
                        agree (
                          if ([] : List (ByteArray × Int)).length + a0.2.2.length < room 24 then
                            I5 0 b1 ByteArray.empty 0 a0.1 a0.2.1 [] (([] : List (ByteArray × Int)) ++ a0.2.2)
                          else
                            none
                        ) (
                          agree (
                            if ([] : List (ByteArray × Int)).length + a0.2.2.length < room 24 then
                              I5 0 b1 ByteArray.empty 0 a0.1 a0.2.1 [] (([] : List (ByteArray × Int)) ++ a0.2.2)
                            else
                              none
                          ) (
                            if ([] : List (ByteArray × Int)).length + a0.2.2.length < room 24 then
                              I5 0 b1 ByteArray.empty 0 a0.1 a0.2.1 [] (([] : List (ByteArray × Int)) ++ a0.2.2)
                            else
                              none
                          )
                        )
                      ) (
                        agree (
                          agree (
                            if ([] : List (ByteArray × Int)).length + a0.2.2.length < room 24 then
                              I5 0 b1 ByteArray.empty 0 a0.1 a0.2.1 [] (([] : List (ByteArray × Int)) ++ a0.2.2)
                            else
                              none
                          ) (
                            if ([] : List (ByteArray × Int)).length + a0.2.2.length < room 24 then
                              I5 0 b1 ByteArray.empty 0 a0.1 a0.2.1 [] (([] : List (ByteArray × Int)) ++ a0.2.2)
                            else
                              none
                          )
                        ) (
                          agree (
                            agree (
                              if ([] : List (ByteArray × Int)).length + a0.2.2.length < room 24 then
                                I5 0 b1 ByteArray.empty 0 a0.1 a0.2.1 [] (([] : List (ByteArray × Int)) ++ a0.2.2)
                              else
                                none
                            ) (
                              if ([] : List (ByteArray × Int)).length + a0.2.2.length < room 24 then
                                I5 0 b1 ByteArray.empty 0 a0.1 a0.2.1 [] (([] : List (ByteArray × Int)) ++ a0.2.2)
                              else
                                none
                            )
                          ) (
                            if ([] : List (ByteArray × Int)).length + a0.2.2.length < room 24 then
                              I5 0 b1 ByteArray.empty 0 a0.1 a0.2.1 [] (([] : List (ByteArray × Int)) ++ a0.2.2)
                            else
                              none
                          )
                        )
                      )
                    )
                  ) (
                    agree (
                      agree (
                        if ([] : List (ByteArray × Int)).length + a0.2.2.length < room 24 then
                          I5 0 b1 ByteArray.empty 0 a0.1 a0.2.1 [] (([] : List (ByteArray × Int)) ++ a0.2.2)
                        else
                          none
                      ) (
                        agree (
                          if ([] : List (ByteArray × Int)).length + a0.2.2.length < room 24 then
                            I5 0 b1 ByteArray.empty 0 a0.1 a0.2.1 [] (([] : List (ByteArray × Int)) ++ a0.2.2)
                          else
                            none
                        ) (
                          if ([] : List (ByteArray × Int)).length + a0.2.2.length < room 24 then
                            I5 0 b1 ByteArray.empty 0 a0.1 a0.2.1 [] (([] : List (ByteArray × Int)) ++ a0.2.2)
                          else
                            none
                        )
                      )
                    ) (
                      agree (
                        agree (
                          if ([] : List (ByteArray × Int)).length + a0.2.2.length < room 24 then
                            I5 0 b1 ByteArray.empty 0 a0.1 a0.2.1 [] (([] : List (ByteArray × Int)) ++ a0.2.2)
                          else
                            none
                        ) (
                          agree (
                            if ([] : List (ByteArray × Int)).length + a0.2.2.length < room 24 then
                              I5 0 b1 ByteArray.empty 0 a0.1 a0.2.1 [] (([] : List (ByteArray × Int)) ++ a0.2.2)
                            else
                              none
                          ) (
                            if ([] : List (ByteArray × Int)).length + a0.2.2.length < room 24 then
                              I5 0 b1 ByteArray.empty 0 a0.1 a0.2.1 [] (([] : List (ByteArray × Int)) ++ a0.2.2)
                            else
                              none
                          )
                        )
                      ) (
                        agree (
                          agree (
                            if ([] : List (ByteArray × Int)).length + a0.2.2.length < room 24 then
                              I5 0 b1 ByteArray.empty 0 a0.1 a0.2.1 [] (([] : List (ByteArray × Int)) ++ a0.2.2)
                            else
                              none
                          ) (
                            if ([] : List (ByteArray × Int)).length + a0.2.2.length < room 24 then
                              I5 0 b1 ByteArray.empty 0 a0.1 a0.2.1 [] (([] : List (ByteArray × Int)) ++ a0.2.2)
                            else
                              none
                          )
                        ) (
                          agree (
                            agree (
                              if ([] : List (ByteArray × Int)).length + a0.2.2.length < room 24 then
                                I5 0 b1 ByteArray.empty 0 a0.1 a0.2.1 [] (([] : List (ByteArray × Int)) ++ a0.2.2)
                              else
                                none
                            ) (
                              if ([] : List (ByteArray × Int)).length + a0.2.2.length < room 24 then
                                I5 0 b1 ByteArray.empty 0 a0.1 a0.2.1 [] (([] : List (ByteArray × Int)) ++ a0.2.2)
                              else
                                none
                            )
                          ) (
                            if ([] : List (ByteArray × Int)).length + a0.2.2.length < room 24 then
                              I5 0 b1 ByteArray.empty 0 a0.1 a0.2.1 [] (([] : List (ByteArray × Int)) ++ a0.2.2)
                            else
                              none
                          )
                        )
                      )
                    )
                  )
                )
              )
            )
          )
        )
      )
  else
    some ((ByteArray.empty, (0, [])), 1)
theorem spec_MergePapers.topraw_eq (I5 : Int → (ByteArray × Int × List (ByteArray × Int)) → ByteArray → Int → ByteArray → Int → (List (ByteArray × Int)) → (List (ByteArray × Int)) → Option ((ByteArray × Int × List (ByteArray × Int)) × Int)) (a0 : ByteArray × Int × List (ByteArray × Int)) (b1 : ByteArray × Int × List (ByteArray × Int)) : spec_MergePapers.topraw I5 a0 b1 = spec_MergePapers.top I5 a0 b1 := by
  unfold spec_MergePapers.topraw spec_MergePapers.top
  simp only [agree_self]
def spec_MergePapers.con : Con := { ps := [(.val, (.pair .str (.pair (.int .i64) (.sl 82 (.pair .str (.int .i64)))))), (.val, (.pair .str (.pair (.int .i64) (.sl 82 (.pair .str (.int .i64))))))], rs := [(.own, (.pair .str (.pair (.int .i64) (.sl 82 (.pair .str (.int .i64)))))), (.own, (.int .i64))], F := fun x => spec_MergePapers.f x.1 x.2 }
def spec_MergePapers.cs : List (FuncId × Con) := [(103, spec_IsPaper.con), (104, spec_l29Put.con)]
def spec_MergePapers.E : Env := envOf tab spec_MergePapers.cs 0 false
def spec_MergePapers.keep (i : Nat) : List Nat := if i = 5 then [3, 4, 6, 7] else []
def spec_MergePapers.at5 (n : Nat) (x : (ByteArray × Int × List (ByteArray × Int)) × ByteArray × Int × List (ByteArray × Int)) : Code × (Ex → St → Option (((ByteArray × Int × List (ByteArray × Int)) × Int))) := ctx spec_MergePapers.E spec_MergePapers.keep n [.snd, .snd, .snd, .fst, .snd, .blk] (codeOf Try.f37) (kEnd spec_MergePapers.E Try.f37 spec_MergePapers.con x)
def spec_MergePapers.LN5 (n : Nat) (x : (ByteArray × Int × List (ByteArray × Int)) × ByteArray × Int × List (ByteArray × Int)) : Nat → St → Option (((ByteArray × Int × List (ByteArray × Int)) × Int)) := loopN (exec spec_MergePapers.E spec_MergePapers.keep n (bodyOf (spec_MergePapers.at5 n x).1)) (St.norm 0 (spec_MergePapers.keep 5)) (spec_MergePapers.at5 n x).2
set_option maxRecDepth 100000 in
theorem spec_MergePapers.lem5 (n : Nat) (x : (ByteArray × Int × List (ByteArray × Int)) × ByteArray × Int × List (ByteArray × Int)) : ∀ (k : Nat) (i7 : Int) (b3 : ByteArray × Int × List (ByteArray × Int)) (v4a : ByteArray) (v4ba : Int) (out6a : ByteArray) (out6ba : Int) (w3 : List (ByteArray × Int)) (w4 : List (ByteArray × Int)), spec_MergePapers.LN5 n x k (spec_MergePapers.st5 i7 b3 v4a v4ba out6a out6ba w3 w4) = spec_MergePapers.l5 n k i7 b3 v4a v4ba out6a out6ba w3 w4 := by
  intro k
  induction k with
  | zero => intro i7 b3 v4a v4ba out6a out6ba w3 w4; rfl
  | succ k ih =>
    intro i7 b3 v4a v4ba out6a out6ba w3 w4
    have h : spec_MergePapers.LN5 n x (k + 1) (spec_MergePapers.st5 i7 b3 v4a v4ba out6a out6ba w3 w4) = spec_MergePapers.g5 (fun i7 b3 v4a v4ba out6a out6ba w3 w4 => spec_MergePapers.LN5 n x k (spec_MergePapers.st5 i7 b3 v4a v4ba out6a out6ba w3 w4)) i7 b3 v4a v4ba out6a out6ba w3 w4 := by kernel_rfl
    rw [h]
    simp only [ih]
    rfl
set_option maxRecDepth 100000 in
theorem spec_MergePapers.body (n : Nat) (x : (ByteArray × Int × List (ByteArray × Int)) × ByteArray × Int × List (ByteArray × Int)) : bodyF spec_MergePapers.E spec_MergePapers.keep n Try.f37 spec_MergePapers.con x = spec_MergePapers.fn n x.1 x.2 := by
  have h : bodyF spec_MergePapers.E spec_MergePapers.keep n Try.f37 spec_MergePapers.con x = spec_MergePapers.topraw (fun i7 b3 v4a v4ba out6a out6ba w3 w4 => spec_MergePapers.LN5 n x n (spec_MergePapers.st5 i7 b3 v4a v4ba out6a out6ba w3 w4)) x.1 x.2 := by kernel_rfl
  rw [spec_MergePapers.topraw_eq] at h
  rw [h]
  simp only [spec_MergePapers.lem5]
  rfl
set_option maxRecDepth 100000 in
theorem spec_MergePapers.good : Good Try.prog 37 spec_MergePapers.con :=
  good_of tabok (cs := spec_MergePapers.cs) ⟨spec_IsPaper.good, spec_l29Put.good, trivial⟩ 0 false (fn := Try.f37) Try.func37 rfl (by decide) (by simp [spec_MergePapers.con]) spec_MergePapers.keep NN (fun _ => rfl) (fun x => spec_MergePapers.body NN x)
end
end Go.Ev.Try

namespace Go.Ev.Try
open Go.Proofs Go.Pl
set_option linter.unusedVariables false
noncomputable section
def impl_MissingLines.st5 (v19 : List (ByteArray × Int)) (v20 : Int) (v21 : Int) (b3 : ByteArray × Int × List (ByteArray × Int)) (out6 : List (ByteArray × Int)) : St := ⟨[.gone, .gone, .gone, .ptr 0 [], .gone, .gone, .ref 1, .gone, .gone, .gone, .gone, .gone, .gone, .gone, .gone, .gone, .gone, .gone, .gone, .dat (.sl 82 (.pair .str (.int .i64))) v19, .dat (.int .i64) v20, .dat (.int .i64) v21, .gone, .gone, .gone, .gone, .gone, .gone, .gone, .gone, .gone, .gone, .gone, .gone, .gone, .gone, .gone, .gone, .gone, .gone, .gone, .gone, .gone, .gone], [.box 47 (.pair .str (.pair (.int .i64) (.sl 82 (.pair .str (.int .i64))))) (.dat (.pair .str (.pair (.int .i64) (.sl 82 (.pair .str (.int .i64))))) b3), .row 82 (.pair .str (.int .i64)) out6 none]⟩
def impl_MissingLines.con : Con := { ps := [(.val, (.pair .str (.pair (.int .i64) (.sl 82 (.pair .str (.int .i64)))))), (.val, (.pair .str (.pair (.int .i64) (.sl 82 (.pair .str (.int .i64))))))], rs := [(.own, (.sl 82 (.pair .str (.int .i64)))), (.own, (.int .i64))], F := fun x => impl_MissingLines.f x.1 x.2 }
def impl_MissingLines.cs : List (FuncId × Con) := [(42, impl_IsPaper.con), (100, impl_countIn.con)]
def impl_MissingLines.E : Env := envOf tab impl_MissingLines.cs 0 false
def impl_MissingLines.keep (i : Nat) : List Nat := if i = 5 then [3, 6, 19, 20, 21] else []
def impl_MissingLines.at5 (n : Nat) (x : (ByteArray × Int × List (ByteArray × Int)) × ByteArray × Int × List (ByteArray × Int)) : Code × (Ex → St → Option (((List (ByteArray × Int)) × Int))) := ctx impl_MissingLines.E impl_MissingLines.keep n [.snd, .snd, .snd, .fst, .snd, .blk] (codeOf Try.f38) (kEnd impl_MissingLines.E Try.f38 impl_MissingLines.con x)
def impl_MissingLines.LN5 (n : Nat) (x : (ByteArray × Int × List (ByteArray × Int)) × ByteArray × Int × List (ByteArray × Int)) : Nat → St → Option (((List (ByteArray × Int)) × Int)) := loopN (exec impl_MissingLines.E impl_MissingLines.keep n (bodyOf (impl_MissingLines.at5 n x).1)) (St.norm 0 (impl_MissingLines.keep 5)) (impl_MissingLines.at5 n x).2
set_option maxRecDepth 100000 in
theorem impl_MissingLines.lem5 (n : Nat) (x : (ByteArray × Int × List (ByteArray × Int)) × ByteArray × Int × List (ByteArray × Int)) : ∀ (k : Nat) (v19 : List (ByteArray × Int)) (v20 : Int) (v21 : Int) (b3 : ByteArray × Int × List (ByteArray × Int)) (out6 : List (ByteArray × Int)), impl_MissingLines.LN5 n x k (impl_MissingLines.st5 v19 v20 v21 b3 out6) = impl_MissingLines.l5 n k v19 v20 v21 b3 out6 := by
  intro k
  induction k with
  | zero => intro v19 v20 v21 b3 out6; rfl
  | succ k ih =>
    intro v19 v20 v21 b3 out6
    have h : impl_MissingLines.LN5 n x (k + 1) (impl_MissingLines.st5 v19 v20 v21 b3 out6) = impl_MissingLines.g5 (fun v19 v20 v21 b3 out6 => impl_MissingLines.LN5 n x k (impl_MissingLines.st5 v19 v20 v21 b3 out6)) v19 v20 v21 b3 out6 := by kernel_rfl
    rw [h]
    simp only [ih]
    rfl
set_option maxRecDepth 100000 in
theorem impl_MissingLines.body (n : Nat) (x : (ByteArray × Int × List (ByteArray × Int)) × ByteArray × Int × List (ByteArray × Int)) : bodyF impl_MissingLines.E impl_MissingLines.keep n Try.f38 impl_MissingLines.con x = impl_MissingLines.fn n x.1 x.2 := by
  have h : bodyF impl_MissingLines.E impl_MissingLines.keep n Try.f38 impl_MissingLines.con x = impl_MissingLines.top (fun v19 v20 v21 b3 out6 => impl_MissingLines.LN5 n x n (impl_MissingLines.st5 v19 v20 v21 b3 out6)) x.1 x.2 := by kernel_rfl
  rw [h]
  simp only [impl_MissingLines.lem5]
  rfl
set_option maxRecDepth 100000 in
theorem impl_MissingLines.good : Good Try.prog 38 impl_MissingLines.con :=
  good_of tabok (cs := impl_MissingLines.cs) ⟨impl_IsPaper.good, impl_countIn.good, trivial⟩ 0 false (fn := Try.f38) Try.func38 rfl (by decide) (by simp [impl_MissingLines.con]) impl_MissingLines.keep NN (fun _ => rfl) (fun x => impl_MissingLines.body NN x)
end
end Go.Ev.Try

namespace Go.Ev.Try
open Go.Proofs Go.Pl
set_option linter.unusedVariables false
noncomputable section
def spec_l29Find.st2 (article1 : ByteArray) (i5 : Int) (p2 : ByteArray × Int × List (ByteArray × Int)) : St := ⟨[.gone, .dat .str article1, .ptr 0 [], .gone, .gone, .dat (.int .i64) i5, .gone, .gone, .gone, .gone, .gone, .gone, .gone, .gone, .gone, .gone, .gone, .gone, .gone, .gone, .gone, .gone], [.box 47 (.pair .str (.pair (.int .i64) (.sl 82 (.pair .str (.int .i64))))) (.dat (.pair .str (.pair (.int .i64) (.sl 82 (.pair .str (.int .i64))))) p2)]⟩
def spec_l29Find.con : Con := { ps := [(.val, (.pair .str (.pair (.int .i64) (.sl 82 (.pair .str (.int .i64)))))), (.val, .str)], rs := [(.val, (.int .i64))], F := fun x => spec_l29Find.f x.1 x.2 }
def spec_l29Find.cs : List (FuncId × Con) := []
def spec_l29Find.E : Env := envOf tab spec_l29Find.cs 0 false
def spec_l29Find.keep (i : Nat) : List Nat := if i = 2 then [1, 2, 5] else []
def spec_l29Find.at2 (n : Nat) (x : (ByteArray × Int × List (ByteArray × Int)) × ByteArray) : Code × (Ex → St → Option (Int)) := ctx spec_l29Find.E spec_l29Find.keep n [.snd, .fst, .snd, .blk] (codeOf Try.f105) (kEnd spec_l29Find.E Try.f105 spec_l29Find.con x)
def spec_l29Find.LN2 (n : Nat) (x : (ByteArray × Int × List (ByteArray × Int)) × ByteArray) : Nat → St → Option (Int) := loopN (exec spec_l29Find.E spec_l29Find.keep n (bodyOf (spec_l29Find.at2 n x).1)) (St.norm 0 (spec_l29Find.keep 2)) (spec_l29Find.at2 n x).2
set_option maxRecDepth 100000 in
theorem spec_l29Find.lem2 (n : Nat) (x : (ByteArray × Int × List (ByteArray × Int)) × ByteArray) : ∀ (k : Nat) (article1 : ByteArray) (i5 : Int) (p2 : ByteArray × Int × List (ByteArray × Int)), spec_l29Find.LN2 n x k (spec_l29Find.st2 article1 i5 p2) = spec_l29Find.l2 n k article1 i5 p2 := by
  intro k
  induction k with
  | zero => intro article1 i5 p2; rfl
  | succ k ih =>
    intro article1 i5 p2
    have h : spec_l29Find.LN2 n x (k + 1) (spec_l29Find.st2 article1 i5 p2) = spec_l29Find.g2 (fun article1 i5 p2 => spec_l29Find.LN2 n x k (spec_l29Find.st2 article1 i5 p2)) article1 i5 p2 := by kernel_rfl
    rw [h]
    simp only [ih]
    rfl
set_option maxRecDepth 100000 in
theorem spec_l29Find.body (n : Nat) (x : (ByteArray × Int × List (ByteArray × Int)) × ByteArray) : bodyF spec_l29Find.E spec_l29Find.keep n Try.f105 spec_l29Find.con x = spec_l29Find.fn n x.1 x.2 := by
  have h : bodyF spec_l29Find.E spec_l29Find.keep n Try.f105 spec_l29Find.con x = spec_l29Find.top (fun article1 i5 p2 => spec_l29Find.LN2 n x n (spec_l29Find.st2 article1 i5 p2)) x.1 x.2 := by kernel_rfl
  rw [h]
  simp only [spec_l29Find.lem2]
  rfl
set_option maxRecDepth 100000 in
theorem spec_l29Find.good : Good Try.prog 105 spec_l29Find.con :=
  good_of tabok (cs := spec_l29Find.cs) trivial 0 false (fn := Try.f105) Try.func105 rfl (by decide) (by simp [spec_l29Find.con]) spec_l29Find.keep NN (fun _ => rfl) (fun x => spec_l29Find.body NN x)
end
end Go.Ev.Try

namespace Go.Ev.Try
open Go.Proofs Go.Pl
set_option linter.unusedVariables false
noncomputable section
def spec_MissingLines.st5 (i7 : Int) (a2 : ByteArray × Int × List (ByteArray × Int)) (b3 : ByteArray × Int × List (ByteArray × Int)) (out6 : List (ByteArray × Int)) : St := ⟨[.gone, .gone, .ptr 0 [], .ptr 1 [], .gone, .gone, .ref 2, .dat (.int .i64) i7, .gone, .gone, .gone, .gone, .gone, .gone, .gone, .gone, .gone, .gone, .gone, .gone, .gone, .gone, .gone, .gone, .gone, .gone, .gone, .gone, .gone, .gone, .gone, .gone, .gone, .gone, .gone, .gone, .gone, .gone, .gone, .gone, .gone, .gone, .gone, .gone, .gone, .gone, .gone, .gone, .gone, .gone, .gone, .gone, .gone, .gone, .gone, .gone, .gone, .gone, .gone, .gone, .gone, .gone, .gone, .gone], [.box 47 (.pair .str (.pair (.int .i64) (.sl 82 (.pair .str (.int .i64))))) (.dat (.pair .str (.pair (.int .i64) (.sl 82 (.pair .str (.int .i64))))) a2), .box 47 (.pair .str (.pair (.int .i64) (.sl 82 (.pair .str (.int .i64))))) (.dat (.pair .str (.pair (.int .i64) (.sl 82 (.pair .str (.int .i64))))) b3), .row 82 (.pair .str (.int .i64)) out6 none]⟩
def spec_MissingLines.con : Con := { ps := [(.val, (.pair .str (.pair (.int .i64) (.sl 82 (.pair .str (.int .i64)))))), (.val, (.pair .str (.pair (.int .i64) (.sl 82 (.pair .str (.int .i64))))))], rs := [(.own, (.sl 82 (.pair .str (.int .i64)))), (.own, (.int .i64))], F := fun x => spec_MissingLines.f x.1 x.2 }
def spec_MissingLines.cs : List (FuncId × Con) := [(103, spec_IsPaper.con), (105, spec_l29Find.con)]
def spec_MissingLines.E : Env := envOf tab spec_MissingLines.cs 0 false
def spec_MissingLines.keep (i : Nat) : List Nat := if i = 5 then [2, 3, 6, 7] else []
def spec_MissingLines.at5 (n : Nat) (x : (ByteArray × Int × List (ByteArray × Int)) × ByteArray × Int × List (ByteArray × Int)) : Code × (Ex → St → Option (((List (ByteArray × Int)) × Int))) := ctx spec_MissingLines.E spec_MissingLines.keep n [.snd, .snd, .snd, .fst, .snd, .blk] (codeOf Try.f39) (kEnd spec_MissingLines.E Try.f39 spec_MissingLines.con x)
def spec_MissingLines.LN5 (n : Nat) (x : (ByteArray × Int × List (ByteArray × Int)) × ByteArray × Int × List (ByteArray × Int)) : Nat → St → Option (((List (ByteArray × Int)) × Int)) := loopN (exec spec_MissingLines.E spec_MissingLines.keep n (bodyOf (spec_MissingLines.at5 n x).1)) (St.norm 0 (spec_MissingLines.keep 5)) (spec_MissingLines.at5 n x).2
set_option maxRecDepth 100000 in
theorem spec_MissingLines.lem5 (n : Nat) (x : (ByteArray × Int × List (ByteArray × Int)) × ByteArray × Int × List (ByteArray × Int)) : ∀ (k : Nat) (i7 : Int) (a2 : ByteArray × Int × List (ByteArray × Int)) (b3 : ByteArray × Int × List (ByteArray × Int)) (out6 : List (ByteArray × Int)), spec_MissingLines.LN5 n x k (spec_MissingLines.st5 i7 a2 b3 out6) = spec_MissingLines.l5 n k i7 a2 b3 out6 := by
  intro k
  induction k with
  | zero => intro i7 a2 b3 out6; rfl
  | succ k ih =>
    intro i7 a2 b3 out6
    have h : spec_MissingLines.LN5 n x (k + 1) (spec_MissingLines.st5 i7 a2 b3 out6) = spec_MissingLines.g5 (fun i7 a2 b3 out6 => spec_MissingLines.LN5 n x k (spec_MissingLines.st5 i7 a2 b3 out6)) i7 a2 b3 out6 := by kernel_rfl
    rw [h]
    simp only [ih]
    rfl
set_option maxRecDepth 100000 in
theorem spec_MissingLines.body (n : Nat) (x : (ByteArray × Int × List (ByteArray × Int)) × ByteArray × Int × List (ByteArray × Int)) : bodyF spec_MissingLines.E spec_MissingLines.keep n Try.f39 spec_MissingLines.con x = spec_MissingLines.fn n x.1 x.2 := by
  have h : bodyF spec_MissingLines.E spec_MissingLines.keep n Try.f39 spec_MissingLines.con x = spec_MissingLines.top (fun i7 a2 b3 out6 => spec_MissingLines.LN5 n x n (spec_MissingLines.st5 i7 a2 b3 out6)) x.1 x.2 := by kernel_rfl
  rw [h]
  simp only [spec_MissingLines.lem5]
  rfl
set_option maxRecDepth 100000 in
theorem spec_MissingLines.good : Good Try.prog 39 spec_MissingLines.con :=
  good_of tabok (cs := spec_MissingLines.cs) ⟨spec_IsPaper.good, spec_l29Find.good, trivial⟩ 0 false (fn := Try.f39) Try.func39 rfl (by decide) (by simp [spec_MissingLines.con]) spec_MissingLines.keep NN (fun _ => rfl) (fun x => spec_MissingLines.body NN x)
end
end Go.Ev.Try

namespace Go.Ev.Try
open Go.Proofs Go.Pl
set_option linter.unusedVariables false
noncomputable section
def laws_likeLines.st4 (a0 : List (ByteArray × Int)) (b1 : List (ByteArray × Int)) (i5 : Int) : St := ⟨[.dat (.sl 82 (.pair .str (.int .i64))) a0, .dat (.sl 82 (.pair .str (.int .i64))) b1, .gone, .gone, .gone, .dat (.int .i64) i5, .gone, .gone, .gone, .gone, .gone, .gone, .gone, .gone, .gone, .gone, .gone, .gone, .gone, .gone, .gone, .gone, .gone, .gone, .gone, .gone], []⟩
def laws_likeLines.con : Con := { ps := [(.val, (.sl 82 (.pair .str (.int .i64)))), (.val, (.sl 82 (.pair .str (.int .i64))))], rs := [(.val, .bool)], F := fun x => laws_likeLines.f x.1 x.2 }
def laws_likeLines.cs : List (FuncId × Con) := []
def laws_likeLines.E : Env := envOf tab laws_likeLines.cs 0 false
def laws_likeLines.keep (i : Nat) : List Nat := if i = 4 then [0, 1, 5] else []
def laws_likeLines.at4 (n : Nat) (x : (List (ByteArray × Int)) × List (ByteArray × Int)) : Code × (Ex → St → Option (Bool)) := ctx laws_likeLines.E laws_likeLines.keep n [.snd, .snd, .fst, .snd, .blk] (codeOf Try.f41) (kEnd laws_likeLines.E Try.f41 laws_likeLines.con x)
def laws_likeLines.LN4 (n : Nat) (x : (List (ByteArray × Int)) × List (ByteArray × Int)) : Nat → St → Option (Bool) := loopN (exec laws_likeLines.E laws_likeLines.keep n (bodyOf (laws_likeLines.at4 n x).1)) (St.norm 0 (laws_likeLines.keep 4)) (laws_likeLines.at4 n x).2
set_option maxRecDepth 100000 in
theorem laws_likeLines.lem4 (n : Nat) (x : (List (ByteArray × Int)) × List (ByteArray × Int)) : ∀ (k : Nat) (a0 : List (ByteArray × Int)) (b1 : List (ByteArray × Int)) (i5 : Int), laws_likeLines.LN4 n x k (laws_likeLines.st4 a0 b1 i5) = laws_likeLines.l4 n k a0 b1 i5 := by
  intro k
  induction k with
  | zero => intro a0 b1 i5; rfl
  | succ k ih =>
    intro a0 b1 i5
    have h : laws_likeLines.LN4 n x (k + 1) (laws_likeLines.st4 a0 b1 i5) = laws_likeLines.g4 (fun a0 b1 i5 => laws_likeLines.LN4 n x k (laws_likeLines.st4 a0 b1 i5)) a0 b1 i5 := by kernel_rfl
    rw [h]
    simp only [ih]
    rfl
set_option maxRecDepth 100000 in
theorem laws_likeLines.body (n : Nat) (x : (List (ByteArray × Int)) × List (ByteArray × Int)) : bodyF laws_likeLines.E laws_likeLines.keep n Try.f41 laws_likeLines.con x = laws_likeLines.fn n x.1 x.2 := by
  have h : bodyF laws_likeLines.E laws_likeLines.keep n Try.f41 laws_likeLines.con x = laws_likeLines.top (fun a0 b1 i5 => laws_likeLines.LN4 n x n (laws_likeLines.st4 a0 b1 i5)) x.1 x.2 := by kernel_rfl
  rw [h]
  simp only [laws_likeLines.lem4]
  rfl
set_option maxRecDepth 100000 in
theorem laws_likeLines.good : Good Try.prog 41 laws_likeLines.con :=
  good_of tabok (cs := laws_likeLines.cs) trivial 0 false (fn := Try.f41) Try.func41 rfl (by decide) (by simp [laws_likeLines.con]) laws_likeLines.keep NN (fun _ => rfl) (fun x => laws_likeLines.body NN x)
end
end Go.Ev.Try

namespace Go.Ev.Try
open Go.Proofs Go.Pl
set_option linter.unusedVariables false
noncomputable section
def laws_likePaper.con : Con := { ps := [(.val, (.pair .str (.pair (.int .i64) (.sl 82 (.pair .str (.int .i64)))))), (.val, (.pair .str (.pair (.int .i64) (.sl 82 (.pair .str (.int .i64))))))], rs := [(.val, .bool)], F := fun x => laws_likePaper.f x.1 x.2 }
def laws_likePaper.cs : List (FuncId × Con) := [(41, laws_likeLines.con)]
def laws_likePaper.E : Env := envOf tab laws_likePaper.cs 0 false
def laws_likePaper.keep (i : Nat) : List Nat := []
set_option maxRecDepth 100000 in
theorem laws_likePaper.body (n : Nat) (x : (ByteArray × Int × List (ByteArray × Int)) × ByteArray × Int × List (ByteArray × Int)) : bodyF laws_likePaper.E laws_likePaper.keep n Try.f40 laws_likePaper.con x = laws_likePaper.fn n x.1 x.2 := by
  have h : bodyF laws_likePaper.E laws_likePaper.keep n Try.f40 laws_likePaper.con x = laws_likePaper.top x.1 x.2 := by kernel_rfl
  exact h
set_option maxRecDepth 100000 in
theorem laws_likePaper.good : Good Try.prog 40 laws_likePaper.con :=
  good_of tabok (cs := laws_likePaper.cs) ⟨laws_likeLines.good, trivial⟩ 0 false (fn := Try.f40) Try.func40 rfl (by decide) (by simp [laws_likePaper.con]) laws_likePaper.keep NN (fun _ => rfl) (fun x => laws_likePaper.body NN x)
end
end Go.Ev.Try
