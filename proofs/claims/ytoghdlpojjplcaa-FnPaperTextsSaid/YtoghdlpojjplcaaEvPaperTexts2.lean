/- Part 2 of what the law FnPaperTexts stands on: an evaluator of the model's code, proved sound; the functions as plain texts; their contracts. -/
import Derived.Test.YtoghdlpojjplcaaChecked
import Derived.Test.YtoghdlpojjplcaaProg
import Derived.Test.YtoghdlpojjplcaaRows
import Derived.Below
import Derived.Calls
import Derived.Carry
import Derived.ChangeArms
import Derived.ChangeKeysEq
import Derived.ChangeOld
import Derived.Deep.Quiet
import Derived.KernelRfl
import Derived.Laws.Append
import Derived.Laws.BytesString
import Derived.Laws.MakeOwn
import Derived.Laws.Strings
import Derived.Laws.StructEq
import Derived.OpenShut
import Derived.OrdersHeld
import Derived.ProofKit
import Derived.ShutString
import Derived.SizedLaws
import Derived.Tactics
import Derived.WalkKit
import Derived.WideShapes
import Derived.Test.YtoghdlpojjplcaaEvPaperTexts1
namespace Go.Ev.Try
open Go.Proofs Go.Pl
set_option linter.unusedVariables false
noncomputable section
def spec_l29Good.st4 (i5 : Int) (s0 : List Int × Int × Int) (v2a : ByteArray) (v2ba : Int) (p3a : ByteArray) (p3ba : Int) (names4 : List ByteArray) (w4 : List (ByteArray × Int)) (w5 : List (ByteArray × Int)) : St := ⟨[.ptr 0 [], .gone, .ptr 1 [], .ptr 2 [], .ref 3, .dat (.int .i64) i5, .gone, .gone, .gone, .gone, .gone, .gone, .gone, .gone, .gone, .gone, .gone, .gone, .gone, .gone, .gone, .gone, .gone, .gone, .gone, .gone, .gone, .gone, .gone, .gone, .gone, .gone, .gone, .gone, .gone, .gone, .gone, .gone, .gone], [.box 219 (.pair (.sl 5 (.int .u8)) (.pair (.int .i64) (.int .i64))) (.dat (.pair (.sl 5 (.int .u8)) (.pair (.int .i64) (.int .i64))) s0), .box 62 (.pair .str (.pair (.int .i64) (.sl 160 (.pair .str (.int .i64))))) (.pr (.dat .str v2a) (.pr (.dat (.int .i64) v2ba) (.ref 4))), .box 62 (.pair .str (.pair (.int .i64) (.sl 160 (.pair .str (.int .i64))))) (.pr (.dat .str p3a) (.pr (.dat (.int .i64) p3ba) (.ref 5))), .row 9 .str names4 none, .row 160 (.pair .str (.int .i64)) w4 none, .row 160 (.pair .str (.int .i64)) w5 none]⟩
def spec_l29Good.g4raw (L4 : Int → (List Int × Int × Int) → ByteArray → Int → ByteArray → Int → List ByteArray → (List (ByteArray × Int)) → (List (ByteArray × Int)) → Option ((ByteArray × Int × List (ByteArray × Int)) × List Int × Int × Int)) (i5 : Int) (s0 : List Int × Int × Int) (v2a : ByteArray) (v2ba : Int) (p3a : ByteArray) (p3ba : Int) (names4 : List ByteArray) (w4 : List (ByteArray × Int)) (w5 : List (ByteArray × Int)) : Option ((ByteArray × Int × List (ByteArray × Int)) × List Int × Int × Int) :=
  if (decide ((i5 : Int) < (names4.length : Int))) = true then
    (spec_l01Next.f s0 2).bind fun r4 =>
    if ((r4.1 : Int) == 0) = true then
      if (0 : Int) ≤ i5 ∧ (i5 : Int) < names4.length then
        agree (
          agree (
            (spec_l01Next.f r4.2 20).bind fun r5 =>
            if w5.length + ([(names4.getD (i5 : Int).toNat ByteArray.empty, IntKind.i64.wrap (1 + r5.1))]).length < room 24 then
              L4 (IntKind.i64.wrap (i5 + 1)) r5.2 v2a v2ba p3a p3ba names4 w4 (w5 ++ ([(names4.getD (i5 : Int).toNat ByteArray.empty, IntKind.i64.wrap (1 + r5.1))]))
            else
              none
          ) (
            (spec_l01Next.f r4.2 20).bind fun r5 =>
            if w5.length + ([(names4.getD (i5 : Int).toNat ByteArray.empty, IntKind.i64.wrap (1 + r5.1))]).length < room 24 then
              L4 (IntKind.i64.wrap (i5 + 1)) r5.2 v2a v2ba p3a p3ba names4 w4 (w5 ++ ([(names4.getD (i5 : Int).toNat ByteArray.empty, IntKind.i64.wrap (1 + r5.1))]))
            else
              none
          )
        ) (
          agree (
            agree (
              (spec_l01Next.f r4.2 20).bind fun r5 =>
              if w5.length + ([(names4.getD (i5 : Int).toNat ByteArray.empty, IntKind.i64.wrap (1 + r5.1))]).length < room 24 then
                L4 (IntKind.i64.wrap (i5 + 1)) r5.2 v2a v2ba p3a p3ba names4 w4 (w5 ++ ([(names4.getD (i5 : Int).toNat ByteArray.empty, IntKind.i64.wrap (1 + r5.1))]))
              else
                none
            ) (
              (spec_l01Next.f r4.2 20).bind fun r5 =>
              if w5.length + ([(names4.getD (i5 : Int).toNat ByteArray.empty, IntKind.i64.wrap (1 + r5.1))]).length < room 24 then
                L4 (IntKind.i64.wrap (i5 + 1)) r5.2 v2a v2ba p3a p3ba names4 w4 (w5 ++ ([(names4.getD (i5 : Int).toNat ByteArray.empty, IntKind.i64.wrap (1 + r5.1))]))
              else
                none
            )
          ) (
            (spec_l01Next.f r4.2 20).bind fun r5 =>
            if w5.length + ([(names4.getD (i5 : Int).toNat ByteArray.empty, IntKind.i64.wrap (1 + r5.1))]).length < room 24 then
              L4 (IntKind.i64.wrap (i5 + 1)) r5.2 v2a v2ba p3a p3ba names4 w4 (w5 ++ ([(names4.getD (i5 : Int).toNat ByteArray.empty, IntKind.i64.wrap (1 + r5.1))]))
            else
              none
          )
        )
      else
        none
    else
      L4 (IntKind.i64.wrap (i5 + 1)) r4.2 v2a v2ba p3a p3ba names4 w4 w5
  else
    some ((p3a, (p3ba, w5)), s0)
theorem spec_l29Good.g4raw_eq (L4 : Int → (List Int × Int × Int) → ByteArray → Int → ByteArray → Int → List ByteArray → (List (ByteArray × Int)) → (List (ByteArray × Int)) → Option ((ByteArray × Int × List (ByteArray × Int)) × List Int × Int × Int)) (i5 : Int) (s0 : List Int × Int × Int) (v2a : ByteArray) (v2ba : Int) (p3a : ByteArray) (p3ba : Int) (names4 : List ByteArray) (w4 : List (ByteArray × Int)) (w5 : List (ByteArray × Int)) : spec_l29Good.g4raw L4 i5 s0 v2a v2ba p3a p3ba names4 w4 w5 = spec_l29Good.g4 L4 i5 s0 v2a v2ba p3a p3ba names4 w4 w5 := by
  unfold spec_l29Good.g4raw spec_l29Good.g4
  simp only [agree_self]
def spec_l29Good.topraw (I4 : Int → (List Int × Int × Int) → ByteArray → Int → ByteArray → Int → List ByteArray → (List (ByteArray × Int)) → (List (ByteArray × Int)) → Option ((ByteArray × Int × List (ByteArray × Int)) × List Int × Int × Int)) (s0 : List Int × Int × Int) : Option ((ByteArray × Int × List (ByteArray × Int)) × List Int × Int × Int) :=
  agree (
    agree (
      (spec_l01Next.f s0 2).bind fun r1 =>
      if (0 : Int) ≤ r1.1 ∧ (r1.1 : Int) < ([(⟨#[118, 97, 110]⟩ : ByteArray), (⟨#[116, 114, 117, 99, 107]⟩ : ByteArray)]).length then
        agree (
          agree (
            (spec_l01Next.f r1.2 1000).bind fun r2 =>
            agree (
              (spec_l03Names.f).bind fun r3 =>
              I4 0 r2.2 ByteArray.empty 0 (([(⟨#[118, 97, 110]⟩ : ByteArray), (⟨#[116, 114, 117, 99, 107]⟩ : ByteArray)]).getD (r1.1 : Int).toNat ByteArray.empty) r2.1 r3 [] []
            ) (
              (spec_l03Names.f).bind fun r3 =>
              I4 0 r2.2 ByteArray.empty 0 (([(⟨#[118, 97, 110]⟩ : ByteArray), (⟨#[116, 114, 117, 99, 107]⟩ : ByteArray)]).getD (r1.1 : Int).toNat ByteArray.empty) r2.1 r3 [] []
            )
          ) (
            agree (
              agree (
                (spec_l01Next.f r1.2 1000).bind fun r2 =>
                (spec_l03Names.f).bind fun r3 =>
                I4 0 r2.2 ByteArray.empty 0 (([(⟨#[118, 97, 110]⟩ : ByteArray), (⟨#[116, 114, 117, 99, 107]⟩ : ByteArray)]).getD (r1.1 : Int).toNat ByteArray.empty) r2.1 r3 [] []
              ) (
                (spec_l01Next.f r1.2 1000).bind fun r2 =>
                (spec_l03Names.f).bind fun r3 =>
                I4 0 r2.2 ByteArray.empty 0 (([(⟨#[118, 97, 110]⟩ : ByteArray), (⟨#[116, 114, 117, 99, 107]⟩ : ByteArray)]).getD (r1.1 : Int).toNat ByteArray.empty) r2.1 r3 [] []
              )
            ) (
              agree (
                (spec_l01Next.f r1.2 1000).bind fun r2 =>
                (spec_l03Names.f).bind fun r3 =>
                I4 0 r2.2 ByteArray.empty 0 (([(⟨#[118, 97, 110]⟩ : ByteArray), (⟨#[116, 114, 117, 99, 107]⟩ : ByteArray)]).getD (r1.1 : Int).toNat ByteArray.empty) r2.1 r3 [] []
              ) (
                (spec_l01Next.f r1.2 1000).bind fun r2 =>
                (spec_l03Names.f).bind fun r3 =>
                I4 0 r2.2 ByteArray.empty 0 (([(⟨#[118, 97, 110]⟩ : ByteArray), (⟨#[116, 114, 117, 99, 107]⟩ : ByteArray)]).getD (r1.1 : Int).toNat ByteArray.empty) r2.1 r3 [] []
              )
            )
          )
        ) (
          agree (
            (spec_l01Next.f r1.2 1000).bind fun r2 =>
            agree (
              (spec_l03Names.f).bind fun r3 =>
              I4 0 r2.2 ByteArray.empty 0 (([(⟨#[118, 97, 110]⟩ : ByteArray), (⟨#[116, 114, 117, 99, 107]⟩ : ByteArray)]).getD (r1.1 : Int).toNat ByteArray.empty) r2.1 r3 [] []
            ) (
              (spec_l03Names.f).bind fun r3 =>
              I4 0 r2.2 ByteArray.empty 0 (([(⟨#[118, 97, 110]⟩ : ByteArray), (⟨#[116, 114, 117, 99, 107]⟩ : ByteArray)]).getD (r1.1 : Int).toNat ByteArray.empty) r2.1 r3 [] []
            )
          ) (
            agree (
              agree (
                agree (
                  (spec_l01Next.f r1.2 1000).bind fun r2 =>
                  (spec_l03Names.f).bind fun r3 =>
                  I4 0 r2.2 ByteArray.empty 0 (([(⟨#[118, 97, 110]⟩ : ByteArray), (⟨#[116, 114, 117, 99, 107]⟩ : ByteArray)]).getD (r1.1 : Int).toNat ByteArray.empty) r2.1 r3 [] []
                ) (
                  (spec_l01Next.f r1.2 1000).bind fun r2 =>
                  (spec_l03Names.f).bind fun r3 =>
                  I4 0 r2.2 ByteArray.empty 0 (([(⟨#[118, 97, 110]⟩ : ByteArray), (⟨#[116, 114, 117, 99, 107]⟩ : ByteArray)]).getD (r1.1 : Int).toNat ByteArray.empty) r2.1 r3 [] []
                )
              ) (
                agree (
                  (spec_l01Next.f r1.2 1000).bind fun r2 =>
                  (spec_l03Names.f).bind fun r3 =>
                  I4 0 r2.2 ByteArray.empty 0 (([(⟨#[118, 97, 110]⟩ : ByteArray), (⟨#[116, 114, 117, 99, 107]⟩ : ByteArray)]).getD (r1.1 : Int).toNat ByteArray.empty) r2.1 r3 [] []
                ) (
                  agree (
                    (spec_l01Next.f r1.2 1000).bind fun r2 =>
                    (spec_l03Names.f).bind fun r3 =>
                    I4 0 r2.2 ByteArray.empty 0 (([(⟨#[118, 97, 110]⟩ : ByteArray), (⟨#[116, 114, 117, 99, 107]⟩ : ByteArray)]).getD (r1.1 : Int).toNat ByteArray.empty) r2.1 r3 [] []
                  ) (
                    (spec_l01Next.f r1.2 1000).bind fun r2 =>
                    (spec_l03Names.f).bind fun r3 =>
                    I4 0 r2.2 ByteArray.empty 0 (([(⟨#[118, 97, 110]⟩ : ByteArray), (⟨#[116, 114, 117, 99, 107]⟩ : ByteArray)]).getD (r1.1 : Int).toNat ByteArray.empty) r2.1 r3 [] []
                  )
                )
              )
            ) (
              agree (
                agree (
                  (spec_l01Next.f r1.2 1000).bind fun r2 =>
                  (spec_l03Names.f).bind fun r3 =>
                  I4 0 r2.2 ByteArray.empty 0 (([(⟨#[118, 97, 110]⟩ : ByteArray), (⟨#[116, 114, 117, 99, 107]⟩ : ByteArray)]).getD (r1.1 : Int).toNat ByteArray.empty) r2.1 r3 [] []
                ) (
                  (spec_l01Next.f r1.2 1000).bind fun r2 =>
                  (spec_l03Names.f).bind fun r3 =>
                  I4 0 r2.2 ByteArray.empty 0 (([(⟨#[118, 97, 110]⟩ : ByteArray), (⟨#[116, 114, 117, 99, 107]⟩ : ByteArray)]).getD (r1.1 : Int).toNat ByteArray.empty) r2.1 r3 [] []
                )
              ) (
                agree (
                  (spec_l01Next.f r1.2 1000).bind fun r2 =>
                  (spec_l03Names.f).bind fun r3 =>
                  I4 0 r2.2 ByteArray.empty 0 (([(⟨#[118, 97, 110]⟩ : ByteArray), (⟨#[116, 114, 117, 99, 107]⟩ : ByteArray)]).getD (r1.1 : Int).toNat ByteArray.empty) r2.1 r3 [] []
                ) (
                  agree (
                    (spec_l01Next.f r1.2 1000).bind fun r2 =>
                    (spec_l03Names.f).bind fun r3 =>
                    I4 0 r2.2 ByteArray.empty 0 (([(⟨#[118, 97, 110]⟩ : ByteArray), (⟨#[116, 114, 117, 99, 107]⟩ : ByteArray)]).getD (r1.1 : Int).toNat ByteArray.empty) r2.1 r3 [] []
                  ) (
                    (spec_l01Next.f r1.2 1000).bind fun r2 =>
                    (spec_l03Names.f).bind fun r3 =>
                    I4 0 r2.2 ByteArray.empty 0 (([(⟨#[118, 97, 110]⟩ : ByteArray), (⟨#[116, 114, 117, 99, 107]⟩ : ByteArray)]).getD (r1.1 : Int).toNat ByteArray.empty) r2.1 r3 [] []
                  )
                )
              )
            )
          )
        )
      else
        none
    ) (
      agree (
        agree (
          (spec_l01Next.f s0 2).bind fun r1 =>
          if (0 : Int) ≤ r1.1 ∧ (r1.1 : Int) < ([(⟨#[118, 97, 110]⟩ : ByteArray), (⟨#[116, 114, 117, 99, 107]⟩ : ByteArray)]).length then
            agree (
              agree (
                (spec_l01Next.f r1.2 1000).bind fun r2 =>
                (spec_l03Names.f).bind fun r3 =>
                I4 0 r2.2 ByteArray.empty 0 (([(⟨#[118, 97, 110]⟩ : ByteArray), (⟨#[116, 114, 117, 99, 107]⟩ : ByteArray)]).getD (r1.1 : Int).toNat ByteArray.empty) r2.1 r3 [] []
              ) (
                (spec_l01Next.f r1.2 1000).bind fun r2 =>
                (spec_l03Names.f).bind fun r3 =>
                I4 0 r2.2 ByteArray.empty 0 (([(⟨#[118, 97, 110]⟩ : ByteArray), (⟨#[116, 114, 117, 99, 107]⟩ : ByteArray)]).getD (r1.1 : Int).toNat ByteArray.empty) r2.1 r3 [] []
              )
            ) (
              agree (
                (spec_l01Next.f r1.2 1000).bind fun r2 =>
                (spec_l03Names.f).bind fun r3 =>
                I4 0 r2.2 ByteArray.empty 0 (([(⟨#[118, 97, 110]⟩ : ByteArray), (⟨#[116, 114, 117, 99, 107]⟩ : ByteArray)]).getD (r1.1 : Int).toNat ByteArray.empty) r2.1 r3 [] []
              ) (
                agree (
                  (spec_l01Next.f r1.2 1000).bind fun r2 =>
                  (spec_l03Names.f).bind fun r3 =>
                  I4 0 r2.2 ByteArray.empty 0 (([(⟨#[118, 97, 110]⟩ : ByteArray), (⟨#[116, 114, 117, 99, 107]⟩ : ByteArray)]).getD (r1.1 : Int).toNat ByteArray.empty) r2.1 r3 [] []
                ) (
                  (spec_l01Next.f r1.2 1000).bind fun r2 =>
                  (spec_l03Names.f).bind fun r3 =>
                  I4 0 r2.2 ByteArray.empty 0 (([(⟨#[118, 97, 110]⟩ : ByteArray), (⟨#[116, 114, 117, 99, 107]⟩ : ByteArray)]).getD (r1.1 : Int).toNat ByteArray.empty) r2.1 r3 [] []
                )
              )
            )
          else
            none
        ) (
          (spec_l01Next.f s0 2).bind fun r1 =>
          if (0 : Int) ≤ r1.1 ∧ (r1.1 : Int) < ([(⟨#[118, 97, 110]⟩ : ByteArray), (⟨#[116, 114, 117, 99, 107]⟩ : ByteArray)]).length then
            agree (
              (spec_l01Next.f r1.2 1000).bind fun r2 =>
              (spec_l03Names.f).bind fun r3 =>
              I4 0 r2.2 ByteArray.empty 0 (([(⟨#[118, 97, 110]⟩ : ByteArray), (⟨#[116, 114, 117, 99, 107]⟩ : ByteArray)]).getD (r1.1 : Int).toNat ByteArray.empty) r2.1 r3 [] []
            ) (
              (spec_l01Next.f r1.2 1000).bind fun r2 =>
              (spec_l03Names.f).bind fun r3 =>
              I4 0 r2.2 ByteArray.empty 0 (([(⟨#[118, 97, 110]⟩ : ByteArray), (⟨#[116, 114, 117, 99, 107]⟩ : ByteArray)]).getD (r1.1 : Int).toNat ByteArray.empty) r2.1 r3 [] []
            )
          else
            none
        )
      ) (
        agree (
          (spec_l01Next.f s0 2).bind fun r1 =>
          if (0 : Int) ≤ r1.1 ∧ (r1.1 : Int) < ([(⟨#[118, 97, 110]⟩ : ByteArray), (⟨#[116, 114, 117, 99, 107]⟩ : ByteArray)]).length then
            agree (
              agree (
                (spec_l01Next.f r1.2 1000).bind fun r2 =>
                (spec_l03Names.f).bind fun r3 =>
                I4 0 r2.2 ByteArray.empty 0 (([(⟨#[118, 97, 110]⟩ : ByteArray), (⟨#[116, 114, 117, 99, 107]⟩ : ByteArray)]).getD (r1.1 : Int).toNat ByteArray.empty) r2.1 r3 [] []
              ) (
                (spec_l01Next.f r1.2 1000).bind fun r2 =>
                (spec_l03Names.f).bind fun r3 =>
                I4 0 r2.2 ByteArray.empty 0 (([(⟨#[118, 97, 110]⟩ : ByteArray), (⟨#[116, 114, 117, 99, 107]⟩ : ByteArray)]).getD (r1.1 : Int).toNat ByteArray.empty) r2.1 r3 [] []
              )
            ) (
              agree (
                (spec_l01Next.f r1.2 1000).bind fun r2 =>
                (spec_l03Names.f).bind fun r3 =>
                I4 0 r2.2 ByteArray.empty 0 (([(⟨#[118, 97, 110]⟩ : ByteArray), (⟨#[116, 114, 117, 99, 107]⟩ : ByteArray)]).getD (r1.1 : Int).toNat ByteArray.empty) r2.1 r3 [] []
              ) (
                agree (
                  (spec_l01Next.f r1.2 1000).bind fun r2 =>
                  (spec_l03Names.f).bind fun r3 =>
                  I4 0 r2.2 ByteArray.empty 0 (([(⟨#[118, 97, 110]⟩ : ByteArray), (⟨#[116, 114, 117, 99, 107]⟩ : ByteArray)]).getD (r1.1 : Int).toNat ByteArray.empty) r2.1 r3 [] []
                ) (
                  (spec_l01Next.f r1.2 1000).bind fun r2 =>
                  (spec_l03Names.f).bind fun r3 =>
                  I4 0 r2.2 ByteArray.empty 0 (([(⟨#[118, 97, 110]⟩ : ByteArray), (⟨#[116, 114, 117, 99, 107]⟩ : ByteArray)]).getD (r1.1 : Int).toNat ByteArray.empty) r2.1 r3 [] []
                )
              )
            )
          else
            none
        ) (
          (spec_l01Next.f s0 2).bind fun r1 =>
          if (0 : Int) ≤ r1.1 ∧ (r1.1 : Int) < ([(⟨#[118, 97, 110]⟩ : ByteArray), (⟨#[116, 114, 117, 99, 107]⟩ : ByteArray)]).length then
            agree (
              (spec_l01Next.f r1.2 1000).bind fun r2 =>
              (spec_l03Names.f).bind fun r3 =>
              I4 0 r2.2 ByteArray.empty 0 (([(⟨#[118, 97, 110]⟩ : ByteArray), (⟨#[116, 114, 117, 99, 107]⟩ : ByteArray)]).getD (r1.1 : Int).toNat ByteArray.empty) r2.1 r3 [] []
            ) (
              (spec_l01Next.f r1.2 1000).bind fun r2 =>
              (spec_l03Names.f).bind fun r3 =>
              I4 0 r2.2 ByteArray.empty 0 (([(⟨#[118, 97, 110]⟩ : ByteArray), (⟨#[116, 114, 117, 99, 107]⟩ : ByteArray)]).getD (r1.1 : Int).toNat ByteArray.empty) r2.1 r3 [] []
            )
          else
            none
        )
      )
    )
  ) (
    agree (
      (spec_l01Next.f s0 2).bind fun r1 =>
      agree (
        if (0 : Int) ≤ r1.1 ∧ (r1.1 : Int) < ([(⟨#[118, 97, 110]⟩ : ByteArray), (⟨#[116, 114, 117, 99, 107]⟩ : ByteArray)]).length then
          agree (
            agree (
              (spec_l01Next.f r1.2 1000).bind fun r2 =>
              agree (
                (spec_l03Names.f).bind fun r3 =>
                I4 0 r2.2 ByteArray.empty 0 (([(⟨#[118, 97, 110]⟩ : ByteArray), (⟨#[116, 114, 117, 99, 107]⟩ : ByteArray)]).getD (r1.1 : Int).toNat ByteArray.empty) r2.1 r3 [] []
              ) (
                (spec_l03Names.f).bind fun r3 =>
                I4 0 r2.2 ByteArray.empty 0 (([(⟨#[118, 97, 110]⟩ : ByteArray), (⟨#[116, 114, 117, 99, 107]⟩ : ByteArray)]).getD (r1.1 : Int).toNat ByteArray.empty) r2.1 r3 [] []
              )
            ) (
              agree (
                agree (
                  (spec_l01Next.f r1.2 1000).bind fun r2 =>
                  (spec_l03Names.f).bind fun r3 =>
                  I4 0 r2.2 ByteArray.empty 0 (([(⟨#[118, 97, 110]⟩ : ByteArray), (⟨#[116, 114, 117, 99, 107]⟩ : ByteArray)]).getD (r1.1 : Int).toNat ByteArray.empty) r2.1 r3 [] []
                ) (
                  (spec_l01Next.f r1.2 1000).bind fun r2 =>
                  (spec_l03Names.f).bind fun r3 =>
                  I4 0 r2.2 ByteArray.empty 0 (([(⟨#[118, 97, 110]⟩ : ByteArray), (⟨#[116, 114, 117, 99, 107]⟩ : ByteArray)]).getD (r1.1 : Int).toNat ByteArray.empty) r2.1 r3 [] []
                )
              ) (
                agree (
                  (spec_l01Next.f r1.2 1000).bind fun r2 =>
                  (spec_l03Names.f).bind fun r3 =>
                  I4 0 r2.2 ByteArray.empty 0 (([(⟨#[118, 97, 110]⟩ : ByteArray), (⟨#[116, 114, 117, 99, 107]⟩ : ByteArray)]).getD (r1.1 : Int).toNat ByteArray.empty) r2.1 r3 [] []
                ) (
                  (spec_l01Next.f r1.2 1000).bind fun r2 =>
                  (spec_l03Names.f).bind fun r3 =>
                  I4 0 r2.2 ByteArray.empty 0 (([(⟨#[118, 97, 110]⟩ : ByteArray), (⟨#[116, 114, 117, 99, 107]⟩ : ByteArray)]).getD (r1.1 : Int).toNat ByteArray.empty) r2.1 r3 [] []
                )
              )
            )
          ) (
            agree (
              (spec_l01Next.f r1.2 1000).bind fun r2 =>
              agree (
                (spec_l03Names.f).bind fun r3 =>
                I4 0 r2.2 ByteArray.empty 0 (([(⟨#[118, 97, 110]⟩ : ByteArray), (⟨#[116, 114, 117, 99, 107]⟩ : ByteArray)]).getD (r1.1 : Int).toNat ByteArray.empty) r2.1 r3 [] []
              ) (
                (spec_l03Names.f).bind fun r3 =>
                I4 0 r2.2 ByteArray.empty 0 (([(⟨#[118, 97, 110]⟩ : ByteArray), (⟨#[116, 114, 117, 99, 107]⟩ : ByteArray)]).getD (r1.1 : Int).toNat ByteArray.empty) r2.1 r3 [] []
              )
            ) (
              agree (
                agree (
                  agree (
                    (spec_l01Next.f r1.2 1000).bind fun r2 =>
                    (spec_l03Names.f).bind fun r3 =>
                    I4 0 r2.2 ByteArray.empty 0 (([(⟨#[118, 97, 110]⟩ : ByteArray), (⟨#[116, 114, 117, 99, 107]⟩ : ByteArray)]).getD (r1.1 : Int).toNat ByteArray.empty) r2.1 r3 [] []
                  ) (
                    (spec_l01Next.f r1.2 1000).bind fun r2 =>
                    (spec_l03Names.f).bind fun r3 =>
                    I4 0 r2.2 ByteArray.empty 0 (([(⟨#[118, 97, 110]⟩ : ByteArray), (⟨#[116, 114, 117, 99, 107]⟩ : ByteArray)]).getD (r1.1 : Int).toNat ByteArray.empty) r2.1 r3 [] []
                  )
                ) (
                  agree (
                    (spec_l01Next.f r1.2 1000).bind fun r2 =>
                    (spec_l03Names.f).bind fun r3 =>
                    I4 0 r2.2 ByteArray.empty 0 (([(⟨#[118, 97, 110]⟩ : ByteArray), (⟨#[116, 114, 117, 99, 107]⟩ : ByteArray)]).getD (r1.1 : Int).toNat ByteArray.empty) r2.1 r3 [] []
                  ) (
                    agree (
                      (spec_l01Next.f r1.2 1000).bind fun r2 =>
                      (spec_l03Names.f).bind fun r3 =>
                      I4 0 r2.2 ByteArray.empty 0 (([(⟨#[118, 97, 110]⟩ : ByteArray), (⟨#[116, 114, 117, 99, 107]⟩ : ByteArray)]).getD (r1.1 : Int).toNat ByteArray.empty) r2.1 r3 [] []
                    ) (
                      (spec_l01Next.f r1.2 1000).bind fun r2 =>
                      (spec_l03Names.f).bind fun r3 =>
                      I4 0 r2.2 ByteArray.empty 0 (([(⟨#[118, 97, 110]⟩ : ByteArray), (⟨#[116, 114, 117, 99, 107]⟩ : ByteArray)]).getD (r1.1 : Int).toNat ByteArray.empty) r2.1 r3 [] []
                    )
                  )
                )
              ) (
                agree (
                  agree (
                    (spec_l01Next.f r1.2 1000).bind fun r2 =>
                    (spec_l03Names.f).bind fun r3 =>
                    I4 0 r2.2 ByteArray.empty 0 (([(⟨#[118, 97, 110]⟩ : ByteArray), (⟨#[116, 114, 117, 99, 107]⟩ : ByteArray)]).getD (r1.1 : Int).toNat ByteArray.empty) r2.1 r3 [] []
                  ) (
                    (spec_l01Next.f r1.2 1000).bind fun r2 =>
                    (spec_l03Names.f).bind fun r3 =>
                    I4 0 r2.2 ByteArray.empty 0 (([(⟨#[118, 97, 110]⟩ : ByteArray), (⟨#[116, 114, 117, 99, 107]⟩ : ByteArray)]).getD (r1.1 : Int).toNat ByteArray.empty) r2.1 r3 [] []
                  )
                ) (
                  agree (
                    (spec_l01Next.f r1.2 1000).bind fun r2 =>
                    (spec_l03Names.f).bind fun r3 =>
                    I4 0 r2.2 ByteArray.empty 0 (([(⟨#[118, 97, 110]⟩ : ByteArray), (⟨#[116, 114, 117, 99, 107]⟩ : ByteArray)]).getD (r1.1 : Int).toNat ByteArray.empty) r2.1 r3 [] []
                  ) (
                    agree (
                      (spec_l01Next.f r1.2 1000).bind fun r2 =>
                      (spec_l03Names.f).bind fun r3 =>
                      I4 0 r2.2 ByteArray.empty 0 (([(⟨#[118, 97, 110]⟩ : ByteArray), (⟨#[116, 114, 117, 99, 107]⟩ : ByteArray)]).getD (r1.1 : Int).toNat ByteArray.empty) r2.1 r3 [] []
                    ) (
                      (spec_l01Next.f r1.2 1000).bind fun r2 =>
                      (spec_l03Names.f).bind fun r3 =>
                      I4 0 r2.2 ByteArray.empty 0 (([(⟨#[118, 97, 110]⟩ : ByteArray), (⟨#[116, 114, 117, 99, 107]⟩ : ByteArray)]).getD (r1.1 : Int).toNat ByteArray.empty) r2.1 r3 [] []
                    )
                  )
                )
              )
            )
          )
        else
          none
      ) (
        agree (
          (spec_l01Next.f r1.2 1000).bind fun r2 =>
          agree (
            if (0 : Int) ≤ r1.1 ∧ (r1.1 : Int) < ([(⟨#[118, 97, 110]⟩ : ByteArray), (⟨#[116, 114, 117, 99, 107]⟩ : ByteArray)]).length then
              agree (
                (spec_l03Names.f).bind fun r3 =>
                I4 0 r2.2 ByteArray.empty 0 (([(⟨#[118, 97, 110]⟩ : ByteArray), (⟨#[116, 114, 117, 99, 107]⟩ : ByteArray)]).getD (r1.1 : Int).toNat ByteArray.empty) r2.1 r3 [] []
              ) (
                (spec_l03Names.f).bind fun r3 =>
                I4 0 r2.2 ByteArray.empty 0 (([(⟨#[118, 97, 110]⟩ : ByteArray), (⟨#[116, 114, 117, 99, 107]⟩ : ByteArray)]).getD (r1.1 : Int).toNat ByteArray.empty) r2.1 r3 [] []
              )
            else
              none
          ) (
            agree (
              agree (
                if (0 : Int) ≤ r1.1 ∧ (r1.1 : Int) < ([(⟨#[118, 97, 110]⟩ : ByteArray), (⟨#[116, 114, 117, 99, 107]⟩ : ByteArray)]).length then
                  (spec_l03Names.f).bind fun r3 =>
                  I4 0 r2.2 ByteArray.empty 0 (([(⟨#[118, 97, 110]⟩ : ByteArray), (⟨#[116, 114, 117, 99, 107]⟩ : ByteArray)]).getD (r1.1 : Int).toNat ByteArray.empty) r2.1 r3 [] []
                else
                  none
              ) (
                if (0 : Int) ≤ r1.1 ∧ (r1.1 : Int) < ([(⟨#[118, 97, 110]⟩ : ByteArray), (⟨#[116, 114, 117, 99, 107]⟩ : ByteArray)]).length then
                  (spec_l03Names.f).bind fun r3 =>
                  I4 0 r2.2 ByteArray.empty 0 (([(⟨#[118, 97, 110]⟩ : ByteArray), (⟨#[116, 114, 117, 99, 107]⟩ : ByteArray)]).getD (r1.1 : Int).toNat ByteArray.empty) r2.1 r3 [] []
                else
                  none
              )
            ) (
              agree (
                if (0 : Int) ≤ r1.1 ∧ (r1.1 : Int) < ([(⟨#[118, 97, 110]⟩ : ByteArray), (⟨#[116, 114, 117, 99, 107]⟩ : ByteArray)]).length then
                  (spec_l03Names.f).bind fun r3 =>
                  I4 0 r2.2 ByteArray.empty 0 (([(⟨#[118, 97, 110]⟩ : ByteArray), (⟨#[116, 114, 117, 99, 107]⟩ : ByteArray)]).getD (r1.1 : Int).toNat ByteArray.empty) r2.1 r3 [] []
                else
                  none
              ) (
                if (0 : Int) ≤ r1.1 ∧ (r1.1 : Int) < ([(⟨#[118, 97, 110]⟩ : ByteArray), (⟨#[116, 114, 117, 99, 107]⟩ : ByteArray)]).length then
                  (spec_l03Names.f).bind fun r3 =>
                  I4 0 r2.2 ByteArray.empty 0 (([(⟨#[118, 97, 110]⟩ : ByteArray), (⟨#[116, 114, 117, 99, 107]⟩ : ByteArray)]).getD (r1.1 : Int).toNat ByteArray.empty) r2.1 r3 [] []
                else
                  none
              )
            )
          )
        ) (
          agree (
            agree (
              if (0 : Int) ≤ r1.1 ∧ (r1.1 : Int) < ([(⟨#[118, 97, 110]⟩ : ByteArray), (⟨#[116, 114, 117, 99, 107]⟩ : ByteArray)]).length then
                agree (
                  agree (
                    (spec_l01Next.f r1.2 1000).bind fun r2 =>
                    (spec_l03Names.f).bind fun r3 =>
                    I4 0 r2.2 ByteArray.empty 0 (([(⟨#[118, 97, 110]⟩ : ByteArray), (⟨#[116, 114, 117, 99, 107]⟩ : ByteArray)]).getD (r1.1 : Int).toNat ByteArray.empty) r2.1 r3 [] []
                  ) (
                    (spec_l01Next.f r1.2 1000).bind fun r2 =>
                    (spec_l03Names.f).bind fun r3 =>
                    I4 0 r2.2 ByteArray.empty 0 (([(⟨#[118, 97, 110]⟩ : ByteArray), (⟨#[116, 114, 117, 99, 107]⟩ : ByteArray)]).getD (r1.1 : Int).toNat ByteArray.empty) r2.1 r3 [] []
                  )
                ) (
                  agree (
                    (spec_l01Next.f r1.2 1000).bind fun r2 =>
                    (spec_l03Names.f).bind fun r3 =>
                    I4 0 r2.2 ByteArray.empty 0 (([(⟨#[118, 97, 110]⟩ : ByteArray), (⟨#[116, 114, 117, 99, 107]⟩ : ByteArray)]).getD (r1.1 : Int).toNat ByteArray.empty) r2.1 r3 [] []
                  ) (
                    agree (
                      (spec_l01Next.f r1.2 1000).bind fun r2 =>
                      (spec_l03Names.f).bind fun r3 =>
                      I4 0 r2.2 ByteArray.empty 0 (([(⟨#[118, 97, 110]⟩ : ByteArray), (⟨#[116, 114, 117, 99, 107]⟩ : ByteArray)]).getD (r1.1 : Int).toNat ByteArray.empty) r2.1 r3 [] []
                    ) (
                      (spec_l01Next.f r1.2 1000).bind fun r2 =>
                      (spec_l03Names.f).bind fun r3 =>
                      I4 0 r2.2 ByteArray.empty 0 (([(⟨#[118, 97, 110]⟩ : ByteArray), (⟨#[116, 114, 117, 99, 107]⟩ : ByteArray)]).getD (r1.1 : Int).toNat ByteArray.empty) r2.1 r3 [] []
                    )
                  )
                )
              else
                none
            ) (
              agree (
                (spec_l01Next.f r1.2 1000).bind fun r2 =>
                agree (
                  if (0 : Int) ≤ r1.1 ∧ (r1.1 : Int) < ([(⟨#[118, 97, 110]⟩ : ByteArray), (⟨#[116, 114, 117, 99, 107]⟩ : ByteArray)]).length then
                    (spec_l03Names.f).bind fun r3 =>
                    I4 0 r2.2 ByteArray.empty 0 (([(⟨#[118, 97, 110]⟩ : ByteArray), (⟨#[116, 114, 117, 99, 107]⟩ : ByteArray)]).getD (r1.1 : Int).toNat ByteArray.empty) r2.1 r3 [] []
                  else
                    none
                ) (
                  if (0 : Int) ≤ r1.1 ∧ (r1.1 : Int) < ([(⟨#[118, 97, 110]⟩ : ByteArray), (⟨#[116, 114, 117, 99, 107]⟩ : ByteArray)]).length then
                    (spec_l03Names.f).bind fun r3 =>
                    I4 0 r2.2 ByteArray.empty 0 (([(⟨#[118, 97, 110]⟩ : ByteArray), (⟨#[116, 114, 117, 99, 107]⟩ : ByteArray)]).getD (r1.1 : Int).toNat ByteArray.empty) r2.1 r3 [] []
                  else
                    none
                )
              ) (
                agree (
                  if (0 : Int) ≤ r1.1 ∧ (r1.1 : Int) < ([(⟨#[118, 97, 110]⟩ : ByteArray), (⟨#[116, 114, 117, 99, 107]⟩ : ByteArray)]).length then
                    agree (
                      (spec_l01Next.f r1.2 1000).bind fun r2 =>
                      (spec_l03Names.f).bind fun r3 =>
                      I4 0 r2.2 ByteArray.empty 0 (([(⟨#[118, 97, 110]⟩ : ByteArray), (⟨#[116, 114, 117, 99, 107]⟩ : ByteArray)]).getD (r1.1 : Int).toNat ByteArray.empty) r2.1 r3 [] []
                    ) (
                      (spec_l01Next.f r1.2 1000).bind fun r2 =>
                      (spec_l03Names.f).bind fun r3 =>
                      I4 0 r2.2 ByteArray.empty 0 (([(⟨#[118, 97, 110]⟩ : ByteArray), (⟨#[116, 114, 117, 99, 107]⟩ : ByteArray)]).getD (r1.1 : Int).toNat ByteArray.empty) r2.1 r3 [] []
                    )
                  else
                    none
                ) (
                  (spec_l01Next.f r1.2 1000).bind fun r2 =>
                  if (0 : Int) ≤ r1.1 ∧ (r1.1 : Int) < ([(⟨#[118, 97, 110]⟩ : ByteArray), (⟨#[116, 114, 117, 99, 107]⟩ : ByteArray)]).length then
                    (spec_l03Names.f).bind fun r3 =>
                    I4 0 r2.2 ByteArray.empty 0 (([(⟨#[118, 97, 110]⟩ : ByteArray), (⟨#[116, 114, 117, 99, 107]⟩ : ByteArray)]).getD (r1.1 : Int).toNat ByteArray.empty) r2.1 r3 [] []
                  else
                    none
                )
              )
            )
          ) (
            agree (
              if (0 : Int) ≤ r1.1 ∧ (r1.1 : Int) < ([(⟨#[118, 97, 110]⟩ : ByteArray), (⟨#[116, 114, 117, 99, 107]⟩ : ByteArray)]).length then
                agree (
                  agree (
                    (spec_l01Next.f r1.2 1000).bind fun r2 =>
                    (spec_l03Names.f).bind fun r3 =>
                    I4 0 r2.2 ByteArray.empty 0 (([(⟨#[118, 97, 110]⟩ : ByteArray), (⟨#[116, 114, 117, 99, 107]⟩ : ByteArray)]).getD (r1.1 : Int).toNat ByteArray.empty) r2.1 r3 [] []
                  ) (
                    (spec_l01Next.f r1.2 1000).bind fun r2 =>
                    (spec_l03Names.f).bind fun r3 =>
                    I4 0 r2.2 ByteArray.empty 0 (([(⟨#[118, 97, 110]⟩ : ByteArray), (⟨#[116, 114, 117, 99, 107]⟩ : ByteArray)]).getD (r1.1 : Int).toNat ByteArray.empty) r2.1 r3 [] []
                  )
                ) (
                  agree (
                    (spec_l01Next.f r1.2 1000).bind fun r2 =>
                    (spec_l03Names.f).bind fun r3 =>
                    I4 0 r2.2 ByteArray.empty 0 (([(⟨#[118, 97, 110]⟩ : ByteArray), (⟨#[116, 114, 117, 99, 107]⟩ : ByteArray)]).getD (r1.1 : Int).toNat ByteArray.empty) r2.1 r3 [] []
                  ) (
                    agree (
                      (spec_l01Next.f r1.2 1000).bind fun r2 =>
                      (spec_l03Names.f).bind fun r3 =>
                      I4 0 r2.2 ByteArray.empty 0 (([(⟨#[118, 97, 110]⟩ : ByteArray), (⟨#[116, 114, 117, 99, 107]⟩ : ByteArray)]).getD (r1.1 : Int).toNat ByteArray.empty) r2.1 r3 [] []
                    ) (
                      (spec_l01Next.f r1.2 1000).bind fun r2 =>
                      (spec_l03Names.f).bind fun r3 =>
                      I4 0 r2.2 ByteArray.empty 0 (([(⟨#[118, 97, 110]⟩ : ByteArray), (⟨#[116, 114, 117, 99, 107]⟩ : ByteArray)]).getD (r1.1 : Int).toNat ByteArray.empty) r2.1 r3 [] []
                    )
                  )
                )
              else
                none
            ) (
              agree (
                (spec_l01Next.f r1.2 1000).bind fun r2 =>
                agree (
                  if (0 : Int) ≤ r1.1 ∧ (r1.1 : Int) < ([(⟨#[118, 97, 110]⟩ : ByteArray), (⟨#[116, 114, 117, 99, 107]⟩ : ByteArray)]).length then
                    (spec_l03Names.f).bind fun r3 =>
                    I4 0 r2.2 ByteArray.empty 0 (([(⟨#[118, 97, 110]⟩ : ByteArray), (⟨#[116, 114, 117, 99, 107]⟩ : ByteArray)]).getD (r1.1 : Int).toNat ByteArray.empty) r2.1 r3 [] []
                  else
                    none
                ) (
                  if (0 : Int) ≤ r1.1 ∧ (r1.1 : Int) < ([(⟨#[118, 97, 110]⟩ : ByteArray), (⟨#[116, 114, 117, 99, 107]⟩ : ByteArray)]).length then
                    (spec_l03Names.f).bind fun r3 =>
                    I4 0 r2.2 ByteArray.empty 0 (([(⟨#[118, 97, 110]⟩ : ByteArray), (⟨#[116, 114, 117, 99, 107]⟩ : ByteArray)]).getD (r1.1 : Int).toNat ByteArray.empty) r2.1 r3 [] []
                  else
                    none
                )
              ) (
                agree (
                  if (0 : Int) ≤ r1.1 ∧ (r1.1 : Int) < ([(⟨#[118, 97, 110]⟩ : ByteArray), (⟨#[116, 114, 117, 99, 107]⟩ : ByteArray)]).length then
                    agree (
                      (spec_l01Next.f r1.2 1000).bind fun r2 =>
                      (spec_l03Names.f).bind fun r3 =>
                      I4 0 r2.2 ByteArray.empty 0 (([(⟨#[118, 97, 110]⟩ : ByteArray), (⟨#[116, 114, 117, 99, 107]⟩ : ByteArray)]).getD (r1.1 : Int).toNat ByteArray.empty) r2.1 r3 [] []
                    ) (
                      (spec_l01Next.f r1.2 1000).bind fun r2 =>
                      (spec_l03Names.f).bind fun r3 =>
                      I4 0 r2.2 ByteArray.empty 0 (([(⟨#[118, 97, 110]⟩ : ByteArray), (⟨#[116, 114, 117, 99, 107]⟩ : ByteArray)]).getD (r1.1 : Int).toNat ByteArray.empty) r2.1 r3 [] []
                    )
                  else
                    none
                ) (
                  (spec_l01Next.f r1.2 1000).bind fun r2 =>
                  if (0 : Int) ≤ r1.1 ∧ (r1.1 : Int) < ([(⟨#[118, 97, 110]⟩ : ByteArray), (⟨#[116, 114, 117, 99, 107]⟩ : ByteArray)]).length then
                    (spec_l03Names.f).bind fun r3 =>
                    I4 0 r2.2 ByteArray.empty 0 (([(⟨#[118, 97, 110]⟩ : ByteArray), (⟨#[116, 114, 117, 99, 107]⟩ : ByteArray)]).getD (r1.1 : Int).toNat ByteArray.empty) r2.1 r3 [] []
                  else
                    none
                )
              )
            )
          )
        )
      )
    ) (
      agree (
        agree (
          agree (
            (spec_l01Next.f s0 2).bind fun r1 =>
            if (0 : Int) ≤ r1.1 ∧ (r1.1 : Int) < ([(⟨#[118, 97, 110]⟩ : ByteArray), (⟨#[116, 114, 117, 99, 107]⟩ : ByteArray)]).length then
              agree (
                agree (
                  (spec_l01Next.f r1.2 1000).bind fun r2 =>
                  (spec_l03Names.f).bind fun r3 =>
                  I4 0 r2.2 ByteArray.empty 0 (([(⟨#[118, 97, 110]⟩ : ByteArray), (⟨#[116, 114, 117, 99, 107]⟩ : ByteArray)]).getD (r1.1 : Int).toNat ByteArray.empty) r2.1 r3 [] []
                ) (
                  (spec_l01Next.f r1.2 1000).bind fun r2 =>
                  (spec_l03Names.f).bind fun r3 =>
                  I4 0 r2.2 ByteArray.empty 0 (([(⟨#[118, 97, 110]⟩ : ByteArray), (⟨#[116, 114, 117, 99, 107]⟩ : ByteArray)]).getD (r1.1 : Int).toNat ByteArray.empty) r2.1 r3 [] []
                )
              ) (
                agree (
                  (spec_l01Next.f r1.2 1000).bind fun r2 =>
                  (spec_l03Names.f).bind fun r3 =>
                  I4 0 r2.2 ByteArray.empty 0 (([(⟨#[118, 97, 110]⟩ : ByteArray), (⟨#[116, 114, 117, 99, 107]⟩ : ByteArray)]).getD (r1.1 : Int).toNat ByteArray.empty) r2.1 r3 [] []
                ) (
                  agree (
                    (spec_l01Next.f r1.2 1000).bind fun r2 =>
                    (spec_l03Names.f).bind fun r3 =>
                    I4 0 r2.2 ByteArray.empty 0 (([(⟨#[118, 97, 110]⟩ : ByteArray), (⟨#[116, 114, 117, 99, 107]⟩ : ByteArray)]).getD (r1.1 : Int).toNat ByteArray.empty) r2.1 r3 [] []
                  ) (
                    (spec_l01Next.f r1.2 1000).bind fun r2 =>
                    (spec_l03Names.f).bind fun r3 =>
                    I4 0 r2.2 ByteArray.empty 0 (([(⟨#[118, 97, 110]⟩ : ByteArray), (⟨#[116, 114, 117, 99, 107]⟩ : ByteArray)]).getD (r1.1 : Int).toNat ByteArray.empty) r2.1 r3 [] []
                  )
                )
              )
            else
              none
          ) (
            (spec_l01Next.f s0 2).bind fun r1 =>
            if (0 : Int) ≤ r1.1 ∧ (r1.1 : Int) < ([(⟨#[118, 97, 110]⟩ : ByteArray), (⟨#[116, 114, 117, 99, 107]⟩ : ByteArray)]).length then
              agree (
                (spec_l01Next.f r1.2 1000).bind fun r2 =>
                (spec_l03Names.f).bind fun r3 =>
                I4 0 r2.2 ByteArray.empty 0 (([(⟨#[118, 97, 110]⟩ : ByteArray), (⟨#[116, 114, 117, 99, 107]⟩ : ByteArray)]).getD (r1.1 : Int).toNat ByteArray.empty) r2.1 r3 [] []
              ) (
                (spec_l01Next.f r1.2 1000).bind fun r2 =>
                (spec_l03Names.f).bind fun r3 =>
                I4 0 r2.2 ByteArray.empty 0 (([(⟨#[118, 97, 110]⟩ : ByteArray), (⟨#[116, 114, 117, 99, 107]⟩ : ByteArray)]).getD (r1.1 : Int).toNat ByteArray.empty) r2.1 r3 [] []
              )
            else
              none
          )
        ) (
          agree (
            (spec_l01Next.f s0 2).bind fun r1 =>
            agree (
              if (0 : Int) ≤ r1.1 ∧ (r1.1 : Int) < ([(⟨#[118, 97, 110]⟩ : ByteArray), (⟨#[116, 114, 117, 99, 107]⟩ : ByteArray)]).length then
                agree (
                  agree (
                    (spec_l01Next.f r1.2 1000).bind fun r2 =>
                    (spec_l03Names.f).bind fun r3 =>
                    I4 0 r2.2 ByteArray.empty 0 (([(⟨#[118, 97, 110]⟩ : ByteArray), (⟨#[116, 114, 117, 99, 107]⟩ : ByteArray)]).getD (r1.1 : Int).toNat ByteArray.empty) r2.1 r3 [] []
                  ) (
                    (spec_l01Next.f r1.2 1000).bind fun r2 =>
                    (spec_l03Names.f).bind fun r3 =>
                    I4 0 r2.2 ByteArray.empty 0 (([(⟨#[118, 97, 110]⟩ : ByteArray), (⟨#[116, 114, 117, 99, 107]⟩ : ByteArray)]).getD (r1.1 : Int).toNat ByteArray.empty) r2.1 r3 [] []
                  )
                ) (
                  agree (
                    (spec_l01Next.f r1.2 1000).bind fun r2 =>
                    (spec_l03Names.f).bind fun r3 =>
                    I4 0 r2.2 ByteArray.empty 0 (([(⟨#[118, 97, 110]⟩ : ByteArray), (⟨#[116, 114, 117, 99, 107]⟩ : ByteArray)]).getD (r1.1 : Int).toNat ByteArray.empty) r2.1 r3 [] []
                  ) (
                    agree (
                      (spec_l01Next.f r1.2 1000).bind fun r2 =>
                      (spec_l03Names.f).bind fun r3 =>
                      I4 0 r2.2 ByteArray.empty 0 (([(⟨#[118, 97, 110]⟩ : ByteArray), (⟨#[116, 114, 117, 99, 107]⟩ : ByteArray)]).getD (r1.1 : Int).toNat ByteArray.empty) r2.1 r3 [] []
                    ) (
                      (spec_l01Next.f r1.2 1000).bind fun r2 =>
                      (spec_l03Names.f).bind fun r3 =>
                      I4 0 r2.2 ByteArray.empty 0 (([(⟨#[118, 97, 110]⟩ : ByteArray), (⟨#[116, 114, 117, 99, 107]⟩ : ByteArray)]).getD (r1.1 : Int).toNat ByteArray.empty) r2.1 r3 [] []
                    )
                  )
                )
              else
                none
            ) (
              agree (
                (spec_l01Next.f r1.2 1000).bind fun r2 =>
                agree (
                  if (0 : Int) ≤ r1.1 ∧ (r1.1 : Int) < ([(⟨#[118, 97, 110]⟩ : ByteArray), (⟨#[116, 114, 117, 99, 107]⟩ : ByteArray)]).length then
                    (spec_l03Names.f).bind fun r3 =>
                    I4 0 r2.2 ByteArray.empty 0 (([(⟨#[118, 97, 110]⟩ : ByteArray), (⟨#[116, 114, 117, 99, 107]⟩ : ByteArray)]).getD (r1.1 : Int).toNat ByteArray.empty) r2.1 r3 [] []
                  else
                    none
                ) (
                  if (0 : Int) ≤ r1.1 ∧ (r1.1 : Int) < ([(⟨#[118, 97, 110]⟩ : ByteArray), (⟨#[116, 114, 117, 99, 107]⟩ : ByteArray)]).length then
                    (spec_l03Names.f).bind fun r3 =>
                    I4 0 r2.2 ByteArray.empty 0 (([(⟨#[118, 97, 110]⟩ : ByteArray), (⟨#[116, 114, 117, 99, 107]⟩ : ByteArray)]).getD (r1.1 : Int).toNat ByteArray.empty) r2.1 r3 [] []
                  else
                    none
                )
              ) (
                agree (
                  if (0 : Int) ≤ r1.1 ∧ (r1.1 : Int) < ([(⟨#[118, 97, 110]⟩ : ByteArray), (⟨#[116, 114, 117, 99, 107]⟩ : ByteArray)]).length then
                    agree (
                      (spec_l01Next.f r1.2 1000).bind fun r2 =>
                      (spec_l03Names.f).bind fun r3 =>
                      I4 0 r2.2 ByteArray.empty 0 (([(⟨#[118, 97, 110]⟩ : ByteArray), (⟨#[116, 114, 117, 99, 107]⟩ : ByteArray)]).getD (r1.1 : Int).toNat ByteArray.empty) r2.1 r3 [] []
                    ) (
                      (spec_l01Next.f r1.2 1000).bind fun r2 =>
                      (spec_l03Names.f).bind fun r3 =>
                      I4 0 r2.2 ByteArray.empty 0 (([(⟨#[118, 97, 110]⟩ : ByteArray), (⟨#[116, 114, 117, 99, 107]⟩ : ByteArray)]).getD (r1.1 : Int).toNat ByteArray.empty) r2.1 r3 [] []
                    )
                  else
                    none
                ) (
                  (spec_l01Next.f r1.2 1000).bind fun r2 =>
                  if (0 : Int) ≤ r1.1 ∧ (r1.1 : Int) < ([(⟨#[118, 97, 110]⟩ : ByteArray), (⟨#[116, 114, 117, 99, 107]⟩ : ByteArray)]).length then
                    (spec_l03Names.f).bind fun r3 =>
                    I4 0 r2.2 ByteArray.empty 0 (([(⟨#[118, 97, 110]⟩ : ByteArray), (⟨#[116, 114, 117, 99, 107]⟩ : ByteArray)]).getD (r1.1 : Int).toNat ByteArray.empty) r2.1 r3 [] []
                  else
                    none
                )
              )
            )
          ) (
            agree (
              (spec_l01Next.f s0 2).bind fun r1 =>
              if (0 : Int) ≤ r1.1 ∧ (r1.1 : Int) < ([(⟨#[118, 97, 110]⟩ : ByteArray), (⟨#[116, 114, 117, 99, 107]⟩ : ByteArray)]).length then
                agree (
                  (spec_l01Next.f r1.2 1000).bind fun r2 =>
                  (spec_l03Names.f).bind fun r3 =>
                  I4 0 r2.2 ByteArray.empty 0 (([(⟨#[118, 97, 110]⟩ : ByteArray), (⟨#[116, 114, 117, 99, 107]⟩ : ByteArray)]).getD (r1.1 : Int).toNat ByteArray.empty) r2.1 r3 [] []
                ) (
                  (spec_l01Next.f r1.2 1000).bind fun r2 =>
                  (spec_l03Names.f).bind fun r3 =>
                  I4 0 r2.2 ByteArray.empty 0 (([(⟨#[118, 97, 110]⟩ : ByteArray), (⟨#[116, 114, 117, 99, 107]⟩ : ByteArray)]).getD (r1.1 : Int).toNat ByteArray.empty) r2.1 r3 [] []
                )
              else
                none
            ) (
              (spec_l01Next.f s0 2).bind fun r1 =>
              agree (
                if (0 : Int) ≤ r1.1 ∧ (r1.1 : Int) < ([(⟨#[118, 97, 110]⟩ : ByteArray), (⟨#[116, 114, 117, 99, 107]⟩ : ByteArray)]).length then
                  agree (
                    (spec_l01Next.f r1.2 1000).bind fun r2 =>
                    (spec_l03Names.f).bind fun r3 =>
                    I4 0 r2.2 ByteArray.empty 0 (([(⟨#[118, 97, 110]⟩ : ByteArray), (⟨#[116, 114, 117, 99, 107]⟩ : ByteArray)]).getD (r1.1 : Int).toNat ByteArray.empty) r2.1 r3 [] []
                  ) (
                    (spec_l01Next.f r1.2 1000).bind fun r2 =>
                    (spec_l03Names.f).bind fun r3 =>
                    I4 0 r2.2 ByteArray.empty 0 (([(⟨#[118, 97, 110]⟩ : ByteArray), (⟨#[116, 114, 117, 99, 107]⟩ : ByteArray)]).getD (r1.1 : Int).toNat ByteArray.empty) r2.1 r3 [] []
                  )
                else
                  none
              ) (
                (spec_l01Next.f r1.2 1000).bind fun r2 =>
                if (0 : Int) ≤ r1.1 ∧ (r1.1 : Int) < ([(⟨#[118, 97, 110]⟩ : ByteArray), (⟨#[116, 114, 117, 99, 107]⟩ : ByteArray)]).length then
                  (spec_l03Names.f).bind fun r3 =>
                  I4 0 r2.2 ByteArray.empty 0 (([(⟨#[118, 97, 110]⟩ : ByteArray), (⟨#[116, 114, 117, 99, 107]⟩ : ByteArray)]).getD (r1.1 : Int).toNat ByteArray.empty) r2.1 r3 [] []
                else
                  none
              )
            )
          )
        )
      ) (
        agree (
          agree (
            (spec_l01Next.f s0 2).bind fun r1 =>
            if (0 : Int) ≤ r1.1 ∧ (r1.1 : Int) < ([(⟨#[118, 97, 110]⟩ : ByteArray), (⟨#[116, 114, 117, 99, 107]⟩ : ByteArray)]).length then
              agree (
                agree (
                  (spec_l01Next.f r1.2 1000).bind fun r2 =>
                  (spec_l03Names.f).bind fun r3 =>
                  I4 0 r2.2 ByteArray.empty 0 (([(⟨#[118, 97, 110]⟩ : ByteArray), (⟨#[116, 114, 117, 99, 107]⟩ : ByteArray)]).getD (r1.1 : Int).toNat ByteArray.empty) r2.1 r3 [] []
                ) (
                  (spec_l01Next.f r1.2 1000).bind fun r2 =>
                  (spec_l03Names.f).bind fun r3 =>
                  I4 0 r2.2 ByteArray.empty 0 (([(⟨#[118, 97, 110]⟩ : ByteArray), (⟨#[116, 114, 117, 99, 107]⟩ : ByteArray)]).getD (r1.1 : Int).toNat ByteArray.empty) r2.1 r3 [] []
                )
              ) (
                agree (
                  (spec_l01Next.f r1.2 1000).bind fun r2 =>
                  (spec_l03Names.f).bind fun r3 =>
                  I4 0 r2.2 ByteArray.empty 0 (([(⟨#[118, 97, 110]⟩ : ByteArray), (⟨#[116, 114, 117, 99, 107]⟩ : ByteArray)]).getD (r1.1 : Int).toNat ByteArray.empty) r2.1 r3 [] []
                ) (
                  agree (
                    (spec_l01Next.f r1.2 1000).bind fun r2 =>
                    (spec_l03Names.f).bind fun r3 =>
                    I4 0 r2.2 ByteArray.empty 0 (([(⟨#[118, 97, 110]⟩ : ByteArray), (⟨#[116, 114, 117, 99, 107]⟩ : ByteArray)]).getD (r1.1 : Int).toNat ByteArray.empty) r2.1 r3 [] []
                  ) (
                    (spec_l01Next.f r1.2 1000).bind fun r2 =>
                    (spec_l03Names.f).bind fun r3 =>
                    I4 0 r2.2 ByteArray.empty 0 (([(⟨#[118, 97, 110]⟩ : ByteArray), (⟨#[116, 114, 117, 99, 107]⟩ : ByteArray)]).getD (r1.1 : Int).toNat ByteArray.empty) r2.1 r3 [] []
                  )
                )
              )
            else
              none
          ) (
            (spec_l01Next.f s0 2).bind fun r1 =>
            if (0 : Int) ≤ r1.1 ∧ (r1.1 : Int) < ([(⟨#[118, 97, 110]⟩ : ByteArray), (⟨#[116, 114, 117, 99, 107]⟩ : ByteArray)]).length then
              agree (
                (spec_l01Next.f r1.2 1000).bind fun r2 =>
                (spec_l03Names.f).bind fun r3 =>
                I4 0 r2.2 ByteArray.empty 0 (([(⟨#[118, 97, 110]⟩ : ByteArray), (⟨#[116, 114, 117, 99, 107]⟩ : ByteArray)]).getD (r1.1 : Int).toNat ByteArray.empty) r2.1 r3 [] []
              ) (
                (spec_l01Next.f r1.2 1000).bind fun r2 =>
                (spec_l03Names.f).bind fun r3 =>
                I4 0 r2.2 ByteArray.empty 0 (([(⟨#[118, 97, 110]⟩ : ByteArray), (⟨#[116, 114, 117, 99, 107]⟩ : ByteArray)]).getD (r1.1 : Int).toNat ByteArray.empty) r2.1 r3 [] []
              )
            else
              none
          )
        ) (
          agree (
            (spec_l01Next.f s0 2).bind fun r1 =>
            agree (
              if (0 : Int) ≤ r1.1 ∧ (r1.1 : Int) < ([(⟨#[118, 97, 110]⟩ : ByteArray), (⟨#[116, 114, 117, 99, 107]⟩ : ByteArray)]).length then
                agree (
                  agree (
                    (spec_l01Next.f r1.2 1000).bind fun r2 =>
                    (spec_l03Names.f).bind fun r3 =>
                    I4 0 r2.2 ByteArray.empty 0 (([(⟨#[118, 97, 110]⟩ : ByteArray), (⟨#[116, 114, 117, 99, 107]⟩ : ByteArray)]).getD (r1.1 : Int).toNat ByteArray.empty) r2.1 r3 [] []
                  ) (
                    (spec_l01Next.f r1.2 1000).bind fun r2 =>
                    (spec_l03Names.f).bind fun r3 =>
                    I4 0 r2.2 ByteArray.empty 0 (([(⟨#[118, 97, 110]⟩ : ByteArray), (⟨#[116, 114, 117, 99, 107]⟩ : ByteArray)]).getD (r1.1 : Int).toNat ByteArray.empty) r2.1 r3 [] []
                  )
                ) (
                  agree (
                    (spec_l01Next.f r1.2 1000).bind fun r2 =>
                    (spec_l03Names.f).bind fun r3 =>
                    I4 0 r2.2 ByteArray.empty 0 (([(⟨#[118, 97, 110]⟩ : ByteArray), (⟨#[116, 114, 117, 99, 107]⟩ : ByteArray)]).getD (r1.1 : Int).toNat ByteArray.empty) r2.1 r3 [] []
                  ) (
                    agree (
                      (spec_l01Next.f r1.2 1000).bind fun r2 =>
                      (spec_l03Names.f).bind fun r3 =>
                      I4 0 r2.2 ByteArray.empty 0 (([(⟨#[118, 97, 110]⟩ : ByteArray), (⟨#[116, 114, 117, 99, 107]⟩ : ByteArray)]).getD (r1.1 : Int).toNat ByteArray.empty) r2.1 r3 [] []
                    ) (
                      (spec_l01Next.f r1.2 1000).bind fun r2 =>
                      (spec_l03Names.f).bind fun r3 =>
                      I4 0 r2.2 ByteArray.empty 0 (([(⟨#[118, 97, 110]⟩ : ByteArray), (⟨#[116, 114, 117, 99, 107]⟩ : ByteArray)]).getD (r1.1 : Int).toNat ByteArray.empty) r2.1 r3 [] []
                    )
                  )
                )
              else
                none
            ) (
              agree (
                (spec_l01Next.f r1.2 1000).bind fun r2 =>
                agree (
                  if (0 : Int) ≤ r1.1 ∧ (r1.1 : Int) < ([(⟨#[118, 97, 110]⟩ : ByteArray), (⟨#[116, 114, 117, 99, 107]⟩ : ByteArray)]).length then
                    (spec_l03Names.f).bind fun r3 =>
                    I4 0 r2.2 ByteArray.empty 0 (([(⟨#[118, 97, 110]⟩ : ByteArray), (⟨#[116, 114, 117, 99, 107]⟩ : ByteArray)]).getD (r1.1 : Int).toNat ByteArray.empty) r2.1 r3 [] []
                  else
                    none
                ) (
                  if (0 : Int) ≤ r1.1 ∧ (r1.1 : Int) < ([(⟨#[118, 97, 110]⟩ : ByteArray), (⟨#[116, 114, 117, 99, 107]⟩ : ByteArray)]).length then
                    (spec_l03Names.f).bind fun r3 =>
                    I4 0 r2.2 ByteArray.empty 0 (([(⟨#[118, 97, 110]⟩ : ByteArray), (⟨#[116, 114, 117, 99, 107]⟩ : ByteArray)]).getD (r1.1 : Int).toNat ByteArray.empty) r2.1 r3 [] []
                  else
                    none
                )
              ) (
                agree (
                  if (0 : Int) ≤ r1.1 ∧ (r1.1 : Int) < ([(⟨#[118, 97, 110]⟩ : ByteArray), (⟨#[116, 114, 117, 99, 107]⟩ : ByteArray)]).length then
                    agree (
                      (spec_l01Next.f r1.2 1000).bind fun r2 =>
                      (spec_l03Names.f).bind fun r3 =>
                      I4 0 r2.2 ByteArray.empty 0 (([(⟨#[118, 97, 110]⟩ : ByteArray), (⟨#[116, 114, 117, 99, 107]⟩ : ByteArray)]).getD (r1.1 : Int).toNat ByteArray.empty) r2.1 r3 [] []
                    ) (
                      (spec_l01Next.f r1.2 1000).bind fun r2 =>
                      (spec_l03Names.f).bind fun r3 =>
                      I4 0 r2.2 ByteArray.empty 0 (([(⟨#[118, 97, 110]⟩ : ByteArray), (⟨#[116, 114, 117, 99, 107]⟩ : ByteArray)]).getD (r1.1 : Int).toNat ByteArray.empty) r2.1 r3 [] []
                    )
                  else
                    none
                ) (
                  (spec_l01Next.f r1.2 1000).bind fun r2 =>
                  if (0 : Int) ≤ r1.1 ∧ (r1.1 : Int) < ([(⟨#[118, 97, 110]⟩ : ByteArray), (⟨#[116, 114, 117, 99, 107]⟩ : ByteArray)]).length then
                    (spec_l03Names.f).bind fun r3 =>
                    I4 0 r2.2 ByteArray.empty 0 (([(⟨#[118, 97, 110]⟩ : ByteArray), (⟨#[116, 114, 117, 99, 107]⟩ : ByteArray)]).getD (r1.1 : Int).toNat ByteArray.empty) r2.1 r3 [] []
                  else
                    none
                )
              )
            )
          ) (
            agree (
              (spec_l01Next.f s0 2).bind fun r1 =>
              if (0 : Int) ≤ r1.1 ∧ (r1.1 : Int) < ([(⟨#[118, 97, 110]⟩ : ByteArray), (⟨#[116, 114, 117, 99, 107]⟩ : ByteArray)]).length then
                agree (
                  (spec_l01Next.f r1.2 1000).bind fun r2 =>
                  (spec_l03Names.f).bind fun r3 =>
                  I4 0 r2.2 ByteArray.empty 0 (([(⟨#[118, 97, 110]⟩ : ByteArray), (⟨#[116, 114, 117, 99, 107]⟩ : ByteArray)]).getD (r1.1 : Int).toNat ByteArray.empty) r2.1 r3 [] []
                ) (
                  (spec_l01Next.f r1.2 1000).bind fun r2 =>
                  (spec_l03Names.f).bind fun r3 =>
                  I4 0 r2.2 ByteArray.empty 0 (([(⟨#[118, 97, 110]⟩ : ByteArray), (⟨#[116, 114, 117, 99, 107]⟩ : ByteArray)]).getD (r1.1 : Int).toNat ByteArray.empty) r2.1 r3 [] []
                )
              else
                none
            ) (
              (spec_l01Next.f s0 2).bind fun r1 =>
              agree (
                if (0 : Int) ≤ r1.1 ∧ (r1.1 : Int) < ([(⟨#[118, 97, 110]⟩ : ByteArray), (⟨#[116, 114, 117, 99, 107]⟩ : ByteArray)]).length then
                  agree (
                    (spec_l01Next.f r1.2 1000).bind fun r2 =>
                    (spec_l03Names.f).bind fun r3 =>
                    I4 0 r2.2 ByteArray.empty 0 (([(⟨#[118, 97, 110]⟩ : ByteArray), (⟨#[116, 114, 117, 99, 107]⟩ : ByteArray)]).getD (r1.1 : Int).toNat ByteArray.empty) r2.1 r3 [] []
                  ) (
                    (spec_l01Next.f r1.2 1000).bind fun r2 =>
                    (spec_l03Names.f).bind fun r3 =>
                    I4 0 r2.2 ByteArray.empty 0 (([(⟨#[118, 97, 110]⟩ : ByteArray), (⟨#[116, 114, 117, 99, 107]⟩ : ByteArray)]).getD (r1.1 : Int).toNat ByteArray.empty) r2.1 r3 [] []
                  )
                else
                  none
              ) (
                (spec_l01Next.f r1.2 1000).bind fun r2 =>
                if (0 : Int) ≤ r1.1 ∧ (r1.1 : Int) < ([(⟨#[118, 97, 110]⟩ : ByteArray), (⟨#[116, 114, 117, 99, 107]⟩ : ByteArray)]).length then
                  (spec_l03Names.f).bind fun r3 =>
                  I4 0 r2.2 ByteArray.empty 0 (([(⟨#[118, 97, 110]⟩ : ByteArray), (⟨#[116, 114, 117, 99, 107]⟩ : ByteArray)]).getD (r1.1 : Int).toNat ByteArray.empty) r2.1 r3 [] []
                else
                  none
              )
            )
          )
        )
      )
    )
  )
theorem spec_l29Good.topraw_eq (I4 : Int → (List Int × Int × Int) → ByteArray → Int → ByteArray → Int → List ByteArray → (List (ByteArray × Int)) → (List (ByteArray × Int)) → Option ((ByteArray × Int × List (ByteArray × Int)) × List Int × Int × Int)) (s0 : List Int × Int × Int) : spec_l29Good.topraw I4 s0 = spec_l29Good.top I4 s0 := by
  unfold spec_l29Good.topraw spec_l29Good.top
  simp only [agree_self]
def spec_l29Good.con : Con := { ps := [(.bx 219, (.pair (.sl 5 (.int .u8)) (.pair (.int .i64) (.int .i64))))], rs := [(.own, (.pair .str (.pair (.int .i64) (.sl 160 (.pair .str (.int .i64))))))], F := fun x => spec_l29Good.f x }
def spec_l29Good.cs : List (FuncId × Con) := [(109, spec_l01Next.con), (232, spec_l03Names.con)]
def spec_l29Good.E : Env := envOf tab spec_l29Good.cs 1 false
def spec_l29Good.keep (i : Nat) : List Nat := if i = 4 then [0, 2, 3, 4, 5] else []
def spec_l29Good.at4 (n : Nat) (x : List Int × Int × Int) : Code × (Ex → St → Option (((ByteArray × Int × List (ByteArray × Int)) × List Int × Int × Int))) := ctx spec_l29Good.E spec_l29Good.keep n [.snd, .snd, .snd, .fst, .snd, .blk] (codeOf Try.f169) (kEnd spec_l29Good.E Try.f169 spec_l29Good.con x)
def spec_l29Good.LN4 (n : Nat) (x : List Int × Int × Int) : Nat → St → Option (((ByteArray × Int × List (ByteArray × Int)) × List Int × Int × Int)) := loopN (exec spec_l29Good.E spec_l29Good.keep n (bodyOf (spec_l29Good.at4 n x).1)) (St.norm 1 (spec_l29Good.keep 4)) (spec_l29Good.at4 n x).2
set_option maxRecDepth 100000 in
theorem spec_l29Good.lem4 (n : Nat) (x : List Int × Int × Int) : ∀ (k : Nat) (i5 : Int) (s0 : List Int × Int × Int) (v2a : ByteArray) (v2ba : Int) (p3a : ByteArray) (p3ba : Int) (names4 : List ByteArray) (w4 : List (ByteArray × Int)) (w5 : List (ByteArray × Int)), spec_l29Good.LN4 n x k (spec_l29Good.st4 i5 s0 v2a v2ba p3a p3ba names4 w4 w5) = spec_l29Good.l4 n k i5 s0 v2a v2ba p3a p3ba names4 w4 w5 := by
  intro k
  induction k with
  | zero => intro i5 s0 v2a v2ba p3a p3ba names4 w4 w5; rfl
  | succ k ih =>
    intro i5 s0 v2a v2ba p3a p3ba names4 w4 w5
    have h : spec_l29Good.LN4 n x (k + 1) (spec_l29Good.st4 i5 s0 v2a v2ba p3a p3ba names4 w4 w5) = spec_l29Good.g4raw (fun i5 s0 v2a v2ba p3a p3ba names4 w4 w5 => spec_l29Good.LN4 n x k (spec_l29Good.st4 i5 s0 v2a v2ba p3a p3ba names4 w4 w5)) i5 s0 v2a v2ba p3a p3ba names4 w4 w5 := by kernel_rfl
    rw [spec_l29Good.g4raw_eq] at h
    rw [h]
    simp only [ih]
    rfl
set_option maxRecDepth 100000 in
theorem spec_l29Good.body (n : Nat) (x : List Int × Int × Int) : bodyF spec_l29Good.E spec_l29Good.keep n Try.f169 spec_l29Good.con x = spec_l29Good.fn n x := by
  have h : bodyF spec_l29Good.E spec_l29Good.keep n Try.f169 spec_l29Good.con x = spec_l29Good.topraw (fun i5 s0 v2a v2ba p3a p3ba names4 w4 w5 => spec_l29Good.LN4 n x n (spec_l29Good.st4 i5 s0 v2a v2ba p3a p3ba names4 w4 w5)) x := by kernel_rfl
  rw [spec_l29Good.topraw_eq] at h
  rw [h]
  simp only [spec_l29Good.lem4]
  rfl
set_option maxRecDepth 100000 in
theorem spec_l29Good.good : Good Try.prog 169 spec_l29Good.con :=
  good_of tabok (cs := spec_l29Good.cs) ⟨spec_l01Next.good, spec_l03Names.good, trivial⟩ 1 false (fn := Try.f169) Try.func169 rfl (by decide) (by simp [spec_l29Good.con]) spec_l29Good.keep NN (fun _ => rfl) (fun x => spec_l29Good.body NN x)
end
end Go.Ev.Try

namespace Go.Ev.Try
open Go.Proofs Go.Pl
set_option linter.unusedVariables false
noncomputable section
def spec_l01Pick.con : Con := { ps := [(.bx 219, (.pair (.sl 5 (.int .u8)) (.pair (.int .i64) (.int .i64)))), (.val, (.sl 2 (.int .i64)))], rs := [(.val, (.int .i64))], F := fun x => spec_l01Pick.f x.1 x.2 }
def spec_l01Pick.cs : List (FuncId × Con) := [(109, spec_l01Next.con)]
def spec_l01Pick.E : Env := envOf tab spec_l01Pick.cs 1 false
def spec_l01Pick.keep (i : Nat) : List Nat := []
set_option maxRecDepth 100000 in
theorem spec_l01Pick.body (n : Nat) (x : (List Int × Int × Int) × List Int) : bodyF spec_l01Pick.E spec_l01Pick.keep n Try.f180 spec_l01Pick.con x = spec_l01Pick.fn n x.1 x.2 := by
  have h : bodyF spec_l01Pick.E spec_l01Pick.keep n Try.f180 spec_l01Pick.con x = spec_l01Pick.top x.1 x.2 := by kernel_rfl
  exact h
set_option maxRecDepth 100000 in
theorem spec_l01Pick.good : Good Try.prog 180 spec_l01Pick.con :=
  good_of tabok (cs := spec_l01Pick.cs) ⟨spec_l01Next.good, trivial⟩ 1 false (fn := Try.f180) Try.func180 rfl (by decide) (by simp [spec_l01Pick.con]) spec_l01Pick.keep NN (fun _ => rfl) (fun x => spec_l01Pick.body NN x)
end
end Go.Ev.Try

namespace Go.Ev.Try
open Go.Proofs Go.Pl
set_option linter.unusedVariables false
noncomputable section
def spec_l01Good.con : Con := { ps := [(.bx 219, (.pair (.sl 5 (.int .u8)) (.pair (.int .i64) (.int .i64))))], rs := [(.val, .str)], F := fun x => spec_l01Good.f x }
def spec_l01Good.cs : List (FuncId × Con) := [(109, spec_l01Next.con)]
def spec_l01Good.E : Env := envOf tab spec_l01Good.cs 1 false
def spec_l01Good.keep (i : Nat) : List Nat := []
set_option maxRecDepth 100000 in
theorem spec_l01Good.body (n : Nat) (x : List Int × Int × Int) : bodyF spec_l01Good.E spec_l01Good.keep n Try.f252 spec_l01Good.con x = spec_l01Good.fn n x := by
  have h : bodyF spec_l01Good.E spec_l01Good.keep n Try.f252 spec_l01Good.con x = spec_l01Good.top x := by kernel_rfl
  exact h
set_option maxRecDepth 100000 in
theorem spec_l01Good.good : Good Try.prog 252 spec_l01Good.con :=
  good_of tabok (cs := spec_l01Good.cs) ⟨spec_l01Next.good, trivial⟩ 1 false (fn := Try.f252) Try.func252 rfl (by decide) (by simp [spec_l01Good.con]) spec_l01Good.keep NN (fun _ => rfl) (fun x => spec_l01Good.body NN x)
end
end Go.Ev.Try

namespace Go.Ev.Try
open Go.Proofs Go.Pl
set_option linter.unusedVariables false
noncomputable section
def spec_l01DrawWord.con : Con := { ps := [(.bx 219, (.pair (.sl 5 (.int .u8)) (.pair (.int .i64) (.int .i64))))], rs := [(.val, .str)], F := fun x => spec_l01DrawWord.f x }
def spec_l01DrawWord.cs : List (FuncId × Con) := [(109, spec_l01Next.con), (252, spec_l01Good.con)]
def spec_l01DrawWord.E : Env := envOf tab spec_l01DrawWord.cs 1 false
def spec_l01DrawWord.keep (i : Nat) : List Nat := []
set_option maxRecDepth 100000 in
theorem spec_l01DrawWord.body (n : Nat) (x : List Int × Int × Int) : bodyF spec_l01DrawWord.E spec_l01DrawWord.keep n Try.f229 spec_l01DrawWord.con x = spec_l01DrawWord.fn n x := by
  have h : bodyF spec_l01DrawWord.E spec_l01DrawWord.keep n Try.f229 spec_l01DrawWord.con x = spec_l01DrawWord.top x := by kernel_rfl
  exact h
set_option maxRecDepth 100000 in
theorem spec_l01DrawWord.good : Good Try.prog 229 spec_l01DrawWord.con :=
  good_of tabok (cs := spec_l01DrawWord.cs) ⟨spec_l01Next.good, spec_l01Good.good, trivial⟩ 1 false (fn := Try.f229) Try.func229 rfl (by decide) (by simp [spec_l01DrawWord.con]) spec_l01DrawWord.keep NN (fun _ => rfl) (fun x => spec_l01DrawWord.body NN x)
end
end Go.Ev.Try

namespace Go.Ev.Try
open Go.Proofs Go.Pl
set_option linter.unusedVariables false
noncomputable section
def spec_l29Draw.st9 (k4 : Int) (s0 : List Int × Int × Int) (v2a : ByteArray) (v2ba : Int) (p3a : ByteArray) (p3ba : Int) (w3 : List (ByteArray × Int)) (w4 : List (ByteArray × Int)) : St := ⟨[.ptr 0 [], .gone, .ptr 1 [], .ptr 2 [], .dat (.int .i64) k4, .gone, .gone, .gone, .gone, .gone, .gone, .gone, .gone, .gone, .gone, .gone, .gone, .gone, .gone, .gone, .gone, .gone, .gone, .gone, .gone, .gone, .gone, .gone, .gone, .gone, .gone, .gone, .gone, .gone, .gone, .gone, .gone, .gone, .gone, .gone, .gone, .gone, .gone, .gone, .gone, .gone, .gone, .gone, .gone, .gone, .gone, .gone, .gone, .gone, .gone], [.box 219 (.pair (.sl 5 (.int .u8)) (.pair (.int .i64) (.int .i64))) (.dat (.pair (.sl 5 (.int .u8)) (.pair (.int .i64) (.int .i64))) s0), .box 62 (.pair .str (.pair (.int .i64) (.sl 160 (.pair .str (.int .i64))))) (.pr (.dat .str v2a) (.pr (.dat (.int .i64) v2ba) (.ref 3))), .box 62 (.pair .str (.pair (.int .i64) (.sl 160 (.pair .str (.int .i64))))) (.pr (.dat .str p3a) (.pr (.dat (.int .i64) p3ba) (.ref 4))), .row 160 (.pair .str (.int .i64)) w3 none, .row 160 (.pair .str (.int .i64)) w4 none]⟩
def spec_l29Draw.g9raw (L9 : Int → (List Int × Int × Int) → ByteArray → Int → ByteArray → Int → (List (ByteArray × Int)) → (List (ByteArray × Int)) → Option ((ByteArray × Int × List (ByteArray × Int)) × List Int × Int × Int)) (k4 : Int) (s0 : List Int × Int × Int) (v2a : ByteArray) (v2ba : Int) (p3a : ByteArray) (p3ba : Int) (w3 : List (ByteArray × Int)) (w4 : List (ByteArray × Int)) : Option ((ByteArray × Int × List (ByteArray × Int)) × List Int × Int × Int) :=
  agree (
    (spec_l01Next.f s0 2).bind fun r6 =>
    if (decide (((w4.length : Int) : Int) < (IntKind.i64.wrap (12 + r6.1)))) = true then
      if (decide ((k4 : Int) < 14)) = true then
        if (0 : Int) ≤ k4 ∧ (k4 : Int) ≤ (IntKind.i64.wrap (k4 + 1)) ∧ ((IntKind.i64.wrap (k4 + 1)) : Int) ≤ (⟨#[97, 98, 99, 100, 101, 102, 103, 104, 105, 106, 107, 108, 109, 110]⟩ : ByteArray).size then
          if (⟨#[120]⟩ : ByteArray).size + ((⟨#[97, 98, 99, 100, 101, 102, 103, 104, 105, 106, 107, 108, 109, 110]⟩ : ByteArray).extract (k4 : Int).toNat ((IntKind.i64.wrap (k4 + 1)) : Int).toNat).size ≤ 9223372036854775807 then
            if w4.length + ([((⟨#[120]⟩ : ByteArray) ++ ((⟨#[97, 98, 99, 100, 101, 102, 103, 104, 105, 106, 107, 108, 109, 110]⟩ : ByteArray).extract (k4 : Int).toNat ((IntKind.i64.wrap (k4 + 1)) : Int).toNat), 1)]).length < room 24 then
              L9 (IntKind.i64.wrap (k4 + 1)) r6.2 v2a v2ba p3a p3ba w3 (w4 ++ ([((⟨#[120]⟩ : ByteArray) ++ ((⟨#[97, 98, 99, 100, 101, 102, 103, 104, 105, 106, 107, 108, 109, 110]⟩ : ByteArray).extract (k4 : Int).toNat ((IntKind.i64.wrap (k4 + 1)) : Int).toNat), 1)]))
            else
              none
          else
            none
        else
          none
      else
        some ((p3a, (p3ba, w4)), r6.2)
    else
      some ((p3a, (p3ba, w4)), r6.2)
  ) (
    (spec_l01Next.f s0 2).bind fun r6 =>
    if (decide (((w4.length : Int) : Int) < (IntKind.i64.wrap (12 + r6.1)))) = true then
      if (decide ((k4 : Int) < 14)) = true then
        if (0 : Int) ≤ k4 ∧ (k4 : Int) ≤ (IntKind.i64.wrap (k4 + 1)) ∧ ((IntKind.i64.wrap (k4 + 1)) : Int) ≤ (⟨#[97, 98, 99, 100, 101, 102, 103, 104, 105, 106, 107, 108, 109, 110]⟩ : ByteArray).size then
          if (⟨#[120]⟩ : ByteArray).size + ((⟨#[97, 98, 99, 100, 101, 102, 103, 104, 105, 106, 107, 108, 109, 110]⟩ : ByteArray).extract (k4 : Int).toNat ((IntKind.i64.wrap (k4 + 1)) : Int).toNat).size ≤ 9223372036854775807 then
            if w4.length + ([((⟨#[120]⟩ : ByteArray) ++ ((⟨#[97, 98, 99, 100, 101, 102, 103, 104, 105, 106, 107, 108, 109, 110]⟩ : ByteArray).extract (k4 : Int).toNat ((IntKind.i64.wrap (k4 + 1)) : Int).toNat), 1)]).length < room 24 then
              L9 (IntKind.i64.wrap (k4 + 1)) r6.2 v2a v2ba p3a p3ba w3 (w4 ++ ([((⟨#[120]⟩ : ByteArray) ++ ((⟨#[97, 98, 99, 100, 101, 102, 103, 104, 105, 106, 107, 108, 109, 110]⟩ : ByteArray).extract (k4 : Int).toNat ((IntKind.i64.wrap (k4 + 1)) : Int).toNat), 1)]))
            else
              none
          else
            none
        else
          none
      else
        some ((p3a, (p3ba, w4)), r6.2)
    else
      some ((p3a, (p3ba, w4)), r6.2)
  )
theorem spec_l29Draw.g9raw_eq (L9 : Int → (List Int × Int × Int) → ByteArray → Int → ByteArray → Int → (List (ByteArray × Int)) → (List (ByteArray × Int)) → Option ((ByteArray × Int × List (ByteArray × Int)) × List Int × Int × Int)) (k4 : Int) (s0 : List Int × Int × Int) (v2a : ByteArray) (v2ba : Int) (p3a : ByteArray) (p3ba : Int) (w3 : List (ByteArray × Int)) (w4 : List (ByteArray × Int)) : spec_l29Draw.g9raw L9 k4 s0 v2a v2ba p3a p3ba w3 w4 = spec_l29Draw.g9 L9 k4 s0 v2a v2ba p3a p3ba w3 w4 := by
  unfold spec_l29Draw.g9raw spec_l29Draw.g9
  simp only [agree_self]
def spec_l29Draw.topraw (I9 : Int → (List Int × Int × Int) → ByteArray → Int → ByteArray → Int → (List (ByteArray × Int)) → (List (ByteArray × Int)) → Option ((ByteArray × Int × List (ByteArray × Int)) × List Int × Int × Int)) (s0 : List Int × Int × Int) : Option ((ByteArray × Int × List (ByteArray × Int)) × List Int × Int × Int) :=
  (spec_l29Good.f s0).bind fun r1 =>
  (spec_l01Next.f r1.2 30).bind fun r2 =>
  if ((r2.1 : Int) == 0) = true then
    (spec_l01Pick.f r2.2 ([(-1), 0, 100000, 100001])).bind fun r3 =>
    some ((r1.1.1, (r3.1, r1.1.2.2)), r3.2)
  else if ((r2.1 : Int) == 1) = true then
    agree (
      agree (
        (spec_l01DrawWord.f r2.2).bind fun r4 =>
        (spec_l01Pick.f r4.2 ([0, 1, 1000, 1001])).bind fun r5 =>
        if r1.1.2.2.length + ([(r4.1, r5.1)]).length < room 24 then
          some ((r1.1.1, (r1.1.2.1, r1.1.2.2 ++ ([(r4.1, r5.1)]))), r5.2)
        else
          none
      ) (
        (spec_l01DrawWord.f r2.2).bind fun r4 =>
        (spec_l01Pick.f r4.2 ([0, 1, 1000, 1001])).bind fun r5 =>
        if r1.1.2.2.length + ([(r4.1, r5.1)]).length < room 24 then
          some ((r1.1.1, (r1.1.2.1, r1.1.2.2 ++ ([(r4.1, r5.1)]))), r5.2)
        else
          none
      )
    ) (
      agree (
        (spec_l01DrawWord.f r2.2).bind fun r4 =>
        agree (
          (spec_l01Pick.f r4.2 ([0, 1, 1000, 1001])).bind fun r5 =>
          if r1.1.2.2.length + ([(r4.1, r5.1)]).length < room 24 then
            some ((r1.1.1, (r1.1.2.1, r1.1.2.2 ++ ([(r4.1, r5.1)]))), r5.2)
          else
            none
        ) (
          agree (
            (spec_l01Pick.f r4.2 ([0, 1, 1000, 1001])).bind fun r5 =>
            if r1.1.2.2.length + ([(r4.1, r5.1)]).length < room 24 then
              some ((r1.1.1, (r1.1.2.1, r1.1.2.2 ++ ([(r4.1, r5.1)]))), r5.2)
            else
              none
          ) (
            (spec_l01Pick.f r4.2 ([0, 1, 1000, 1001])).bind fun r5 =>
            if r1.1.2.2.length + ([(r4.1, r5.1)]).length < room 24 then
              some ((r1.1.1, (r1.1.2.1, r1.1.2.2 ++ ([(r4.1, r5.1)]))), r5.2)
            else
              none
          )
        )
      ) (
        agree (
          (spec_l01DrawWord.f r2.2).bind fun r4 =>
          (spec_l01Pick.f r4.2 ([0, 1, 1000, 1001])).bind fun r5 =>
          if r1.1.2.2.length + ([(r4.1, r5.1)]).length < room 24 then
            some ((r1.1.1, (r1.1.2.1, r1.1.2.2 ++ ([(r4.1, r5.1)]))), r5.2)
          else
            none
        ) (
          (spec_l01DrawWord.f r2.2).bind fun r4 =>
          agree (
            (spec_l01Pick.f r4.2 ([0, 1, 1000, 1001])).bind fun r5 =>
            if r1.1.2.2.length + ([(r4.1, r5.1)]).length < room 24 then
              some ((r1.1.1, (r1.1.2.1, r1.1.2.2 ++ ([(r4.1, r5.1)]))), r5.2)
            else
              none
          ) (
            (spec_l01Pick.f r4.2 ([0, 1, 1000, 1001])).bind fun r5 =>
            if r1.1.2.2.length + ([(r4.1, r5.1)]).length < room 24 then
              some ((r1.1.1, (r1.1.2.1, r1.1.2.2 ++ ([(r4.1, r5.1)]))), r5.2)
            else
              none
          )
        )
      )
    )
  else if ((r2.1 : Int) == 2) = true then
    I9 0 r2.2 ByteArray.empty 0 r1.1.1 r1.1.2.1 [] r1.1.2.2
  else
    some ((r1.1.1, (r1.1.2.1, r1.1.2.2)), r2.2)
theorem spec_l29Draw.topraw_eq (I9 : Int → (List Int × Int × Int) → ByteArray → Int → ByteArray → Int → (List (ByteArray × Int)) → (List (ByteArray × Int)) → Option ((ByteArray × Int × List (ByteArray × Int)) × List Int × Int × Int)) (s0 : List Int × Int × Int) : spec_l29Draw.topraw I9 s0 = spec_l29Draw.top I9 s0 := by
  unfold spec_l29Draw.topraw spec_l29Draw.top
  simp only [agree_self]
def spec_l29Draw.con : Con := { ps := [(.bx 219, (.pair (.sl 5 (.int .u8)) (.pair (.int .i64) (.int .i64))))], rs := [(.own, (.pair .str (.pair (.int .i64) (.sl 160 (.pair .str (.int .i64))))))], F := fun x => spec_l29Draw.f x }
def spec_l29Draw.cs : List (FuncId × Con) := [(109, spec_l01Next.con), (169, spec_l29Good.con), (180, spec_l01Pick.con), (229, spec_l01DrawWord.con)]
def spec_l29Draw.E : Env := envOf tab spec_l29Draw.cs 1 false
def spec_l29Draw.keep (i : Nat) : List Nat := if i = 9 then [0, 2, 3, 4] else []
def spec_l29Draw.at9 (n : Nat) (x : List Int × Int × Int) : Code × (Ex → St → Option (((ByteArray × Int × List (ByteArray × Int)) × List Int × Int × Int))) := ctx spec_l29Draw.E spec_l29Draw.keep n [.snd, .snd, .fst, .snd, .blk, .snd, .no, .snd, .no, .snd, .yes, .snd, .blk] (codeOf Try.f166) (kEnd spec_l29Draw.E Try.f166 spec_l29Draw.con x)
def spec_l29Draw.LN9 (n : Nat) (x : List Int × Int × Int) : Nat → St → Option (((ByteArray × Int × List (ByteArray × Int)) × List Int × Int × Int)) := loopN (exec spec_l29Draw.E spec_l29Draw.keep n (bodyOf (spec_l29Draw.at9 n x).1)) (St.norm 1 (spec_l29Draw.keep 9)) (spec_l29Draw.at9 n x).2
set_option maxRecDepth 100000 in
theorem spec_l29Draw.lem9 (n : Nat) (x : List Int × Int × Int) : ∀ (k : Nat) (k4 : Int) (s0 : List Int × Int × Int) (v2a : ByteArray) (v2ba : Int) (p3a : ByteArray) (p3ba : Int) (w3 : List (ByteArray × Int)) (w4 : List (ByteArray × Int)), spec_l29Draw.LN9 n x k (spec_l29Draw.st9 k4 s0 v2a v2ba p3a p3ba w3 w4) = spec_l29Draw.l9 n k k4 s0 v2a v2ba p3a p3ba w3 w4 := by
  intro k
  induction k with
  | zero => intro k4 s0 v2a v2ba p3a p3ba w3 w4; rfl
  | succ k ih =>
    intro k4 s0 v2a v2ba p3a p3ba w3 w4
    have h : spec_l29Draw.LN9 n x (k + 1) (spec_l29Draw.st9 k4 s0 v2a v2ba p3a p3ba w3 w4) = spec_l29Draw.g9raw (fun k4 s0 v2a v2ba p3a p3ba w3 w4 => spec_l29Draw.LN9 n x k (spec_l29Draw.st9 k4 s0 v2a v2ba p3a p3ba w3 w4)) k4 s0 v2a v2ba p3a p3ba w3 w4 := by kernel_rfl
    rw [spec_l29Draw.g9raw_eq] at h
    rw [h]
    simp only [ih]
    rfl
set_option maxRecDepth 100000 in
theorem spec_l29Draw.body (n : Nat) (x : List Int × Int × Int) : bodyF spec_l29Draw.E spec_l29Draw.keep n Try.f166 spec_l29Draw.con x = spec_l29Draw.fn n x := by
  have h : bodyF spec_l29Draw.E spec_l29Draw.keep n Try.f166 spec_l29Draw.con x = spec_l29Draw.topraw (fun k4 s0 v2a v2ba p3a p3ba w3 w4 => spec_l29Draw.LN9 n x n (spec_l29Draw.st9 k4 s0 v2a v2ba p3a p3ba w3 w4)) x := by kernel_rfl
  rw [spec_l29Draw.topraw_eq] at h
  rw [h]
  simp only [spec_l29Draw.lem9]
  rfl
set_option maxRecDepth 100000 in
theorem spec_l29Draw.good : Good Try.prog 166 spec_l29Draw.con :=
  good_of tabok (cs := spec_l29Draw.cs) ⟨spec_l01Next.good, spec_l29Good.good, spec_l01Pick.good, spec_l01DrawWord.good, trivial⟩ 1 false (fn := Try.f166) Try.func166 rfl (by decide) (by simp [spec_l29Draw.con]) spec_l29Draw.keep NN (fun _ => rfl) (fun x => spec_l29Draw.body NN x)
end
end Go.Ev.Try

namespace Go.Ev.Try
open Go.Proofs Go.Pl
set_option linter.unusedVariables false
noncomputable section
def spec_DrawPaperText.con : Con := { ps := [(.val, (.sl 5 (.int .u8)))], rs := [(.own, (.pair .str (.pair (.int .i64) (.sl 160 (.pair .str (.int .i64))))))], F := fun x => spec_DrawPaperText.f x }
def spec_DrawPaperText.cs : List (FuncId × Con) := [(107, spec_l01From.con), (166, spec_l29Draw.con)]
def spec_DrawPaperText.E : Env := envOf tab spec_DrawPaperText.cs 0 false
def spec_DrawPaperText.keep (i : Nat) : List Nat := []
set_option maxRecDepth 100000 in
theorem spec_DrawPaperText.body (n : Nat) (x : List Int) : bodyF spec_DrawPaperText.E spec_DrawPaperText.keep n Try.f57 spec_DrawPaperText.con x = spec_DrawPaperText.fn n x := by
  have h : bodyF spec_DrawPaperText.E spec_DrawPaperText.keep n Try.f57 spec_DrawPaperText.con x = spec_DrawPaperText.top x := by kernel_rfl
  exact h
set_option maxRecDepth 100000 in
theorem spec_DrawPaperText.good : Good Try.prog 57 spec_DrawPaperText.con :=
  good_of tabok (cs := spec_DrawPaperText.cs) ⟨spec_l01From.good, spec_l29Draw.good, trivial⟩ 0 false (fn := Try.f57) Try.func57 rfl (by decide) (by simp [spec_DrawPaperText.con]) spec_DrawPaperText.keep NN (fun _ => rfl) (fun x => spec_DrawPaperText.body NN x)
end
end Go.Ev.Try

namespace Go.Ev.Try
open Go.Proofs Go.Pl
set_option linter.unusedVariables false
noncomputable section
def impl_within.con : Con := { ps := [(.val, (.int .i64)), (.val, (.int .i64)), (.val, (.int .i64))], rs := [(.val, .bool)], F := fun x => impl_within.f x.1 x.2.1 x.2.2 }
def impl_within.cs : List (FuncId × Con) := []
def impl_within.E : Env := envOf tab impl_within.cs 0 false
def impl_within.keep (i : Nat) : List Nat := []
set_option maxRecDepth 100000 in
theorem impl_within.body (n : Nat) (x : Int × Int × Int) : bodyF impl_within.E impl_within.keep n Try.f119 impl_within.con x = impl_within.fn n x.1 x.2.1 x.2.2 := by
  have h : bodyF impl_within.E impl_within.keep n Try.f119 impl_within.con x = impl_within.top x.1 x.2.1 x.2.2 := by kernel_rfl
  exact h
set_option maxRecDepth 100000 in
theorem impl_within.good : Good Try.prog 119 impl_within.con :=
  good_of tabok (cs := impl_within.cs) trivial 0 false (fn := Try.f119) Try.func119 rfl (by decide) (by simp [impl_within.con]) impl_within.keep NN (fun _ => rfl) (fun x => impl_within.body NN x)
end
end Go.Ev.Try

namespace Go.Ev.Try
open Go.Proofs Go.Pl
set_option linter.unusedVariables false
noncomputable section
def impl_IsWord.st4 (s0 : ByteArray) (i3 : Int) : St := ⟨[.dat .str s0, .gone, .gone, .dat (.int .i64) i3, .gone, .gone, .gone, .gone, .gone, .gone, .gone, .gone, .gone, .gone, .gone, .gone, .gone, .gone, .gone, .gone, .gone, .gone, .gone, .gone, .gone, .gone, .gone, .gone], []⟩
def impl_IsWord.con : Con := { ps := [(.val, .str)], rs := [(.val, .bool)], F := fun x => impl_IsWord.f x }
def impl_IsWord.cs : List (FuncId × Con) := []
def impl_IsWord.E : Env := envOf tab impl_IsWord.cs 0 false
def impl_IsWord.keep (i : Nat) : List Nat := if i = 4 then [0, 3] else []
def impl_IsWord.at4 (n : Nat) (x : ByteArray) : Code × (Ex → St → Option (Bool)) := ctx impl_IsWord.E impl_IsWord.keep n [.snd, .snd, .fst, .snd, .blk] (codeOf Try.f154) (kEnd impl_IsWord.E Try.f154 impl_IsWord.con x)
def impl_IsWord.LN4 (n : Nat) (x : ByteArray) : Nat → St → Option (Bool) := loopN (exec impl_IsWord.E impl_IsWord.keep n (bodyOf (impl_IsWord.at4 n x).1)) (St.norm 0 (impl_IsWord.keep 4)) (impl_IsWord.at4 n x).2
set_option maxRecDepth 100000 in
theorem impl_IsWord.lem4 (n : Nat) (x : ByteArray) : ∀ (k : Nat) (s0 : ByteArray) (i3 : Int), impl_IsWord.LN4 n x k (impl_IsWord.st4 s0 i3) = impl_IsWord.l4 n k s0 i3 := by
  intro k
  induction k with
  | zero => intro s0 i3; rfl
  | succ k ih =>
    intro s0 i3
    have h : impl_IsWord.LN4 n x (k + 1) (impl_IsWord.st4 s0 i3) = impl_IsWord.g4 (fun s0 i3 => impl_IsWord.LN4 n x k (impl_IsWord.st4 s0 i3)) s0 i3 := by kernel_rfl
    rw [h]
    simp only [ih]
    rfl
set_option maxRecDepth 100000 in
theorem impl_IsWord.body (n : Nat) (x : ByteArray) : bodyF impl_IsWord.E impl_IsWord.keep n Try.f154 impl_IsWord.con x = impl_IsWord.fn n x := by
  have h : bodyF impl_IsWord.E impl_IsWord.keep n Try.f154 impl_IsWord.con x = impl_IsWord.top (fun s0 i3 => impl_IsWord.LN4 n x n (impl_IsWord.st4 s0 i3)) x := by kernel_rfl
  rw [h]
  simp only [impl_IsWord.lem4]
  rfl
set_option maxRecDepth 100000 in
theorem impl_IsWord.good : Good Try.prog 154 impl_IsWord.con :=
  good_of tabok (cs := impl_IsWord.cs) trivial 0 false (fn := Try.f154) Try.func154 rfl (by decide) (by simp [impl_IsWord.con]) impl_IsWord.keep NN (fun _ => rfl) (fun x => impl_IsWord.body NN x)
end
end Go.Ev.Try

namespace Go.Ev.Try
open Go.Proofs Go.Pl
set_option linter.unusedVariables false
noncomputable section
def impl_areLines.st4 (lines0 : List (ByteArray × Int)) (v8 : List (ByteArray × Int)) (v9 : Int) (v10 : Int) : St := ⟨[.dat (.sl 160 (.pair .str (.int .i64))) lines0, .gone, .gone, .gone, .gone, .gone, .gone, .gone, .dat (.sl 160 (.pair .str (.int .i64))) v8, .dat (.int .i64) v9, .dat (.int .i64) v10, .gone, .gone, .gone, .gone, .gone, .gone, .gone, .gone, .gone, .gone, .gone, .gone, .gone, .gone, .gone, .gone, .gone, .gone, .gone, .gone, .gone, .gone, .gone, .gone, .gone, .gone, .gone, .gone, .gone, .gone], []⟩
def impl_areLines.con : Con := { ps := [(.val, (.sl 160 (.pair .str (.int .i64))))], rs := [(.val, .bool)], F := fun x => impl_areLines.f x }
def impl_areLines.cs : List (FuncId × Con) := [(119, impl_within.con), (154, impl_IsWord.con)]
def impl_areLines.E : Env := envOf tab impl_areLines.cs 0 false
def impl_areLines.keep (i : Nat) : List Nat := if i = 4 then [0, 8, 9, 10] else []
def impl_areLines.at4 (n : Nat) (x : List (ByteArray × Int)) : Code × (Ex → St → Option (Bool)) := ctx impl_areLines.E impl_areLines.keep n [.snd, .snd, .fst, .snd, .blk] (codeOf Try.f135) (kEnd impl_areLines.E Try.f135 impl_areLines.con x)
def impl_areLines.LN4 (n : Nat) (x : List (ByteArray × Int)) : Nat → St → Option (Bool) := loopN (exec impl_areLines.E impl_areLines.keep n (bodyOf (impl_areLines.at4 n x).1)) (St.norm 0 (impl_areLines.keep 4)) (impl_areLines.at4 n x).2
set_option maxRecDepth 100000 in
theorem impl_areLines.lem4 (n : Nat) (x : List (ByteArray × Int)) : ∀ (k : Nat) (lines0 : List (ByteArray × Int)) (v8 : List (ByteArray × Int)) (v9 : Int) (v10 : Int), impl_areLines.LN4 n x k (impl_areLines.st4 lines0 v8 v9 v10) = impl_areLines.l4 n k lines0 v8 v9 v10 := by
  intro k
  induction k with
  | zero => intro lines0 v8 v9 v10; rfl
  | succ k ih =>
    intro lines0 v8 v9 v10
    have h : impl_areLines.LN4 n x (k + 1) (impl_areLines.st4 lines0 v8 v9 v10) = impl_areLines.g4 (fun lines0 v8 v9 v10 => impl_areLines.LN4 n x k (impl_areLines.st4 lines0 v8 v9 v10)) lines0 v8 v9 v10 := by kernel_rfl
    rw [h]
    simp only [ih]
    rfl
set_option maxRecDepth 100000 in
theorem impl_areLines.body (n : Nat) (x : List (ByteArray × Int)) : bodyF impl_areLines.E impl_areLines.keep n Try.f135 impl_areLines.con x = impl_areLines.fn n x := by
  have h : bodyF impl_areLines.E impl_areLines.keep n Try.f135 impl_areLines.con x = impl_areLines.top (fun lines0 v8 v9 v10 => impl_areLines.LN4 n x n (impl_areLines.st4 lines0 v8 v9 v10)) x := by kernel_rfl
  rw [h]
  simp only [impl_areLines.lem4]
  rfl
set_option maxRecDepth 100000 in
theorem impl_areLines.good : Good Try.prog 135 impl_areLines.con :=
  good_of tabok (cs := impl_areLines.cs) ⟨impl_within.good, impl_IsWord.good, trivial⟩ 0 false (fn := Try.f135) Try.func135 rfl (by decide) (by simp [impl_areLines.con]) impl_areLines.keep NN (fun _ => rfl) (fun x => impl_areLines.body NN x)
end
end Go.Ev.Try

namespace Go.Ev.Try
open Go.Proofs Go.Pl
set_option linter.unusedVariables false
noncomputable section
def impl_isDay.con : Con := { ps := [(.val, (.int .i64))], rs := [(.val, .bool)], F := fun x => impl_isDay.f x }
def impl_isDay.cs : List (FuncId × Con) := [(119, impl_within.con)]
def impl_isDay.E : Env := envOf tab impl_isDay.cs 0 false
def impl_isDay.keep (i : Nat) : List Nat := []
set_option maxRecDepth 100000 in
theorem impl_isDay.body (n : Nat) (x : Int) : bodyF impl_isDay.E impl_isDay.keep n Try.f178 impl_isDay.con x = impl_isDay.fn n x := by
  have h : bodyF impl_isDay.E impl_isDay.keep n Try.f178 impl_isDay.con x = impl_isDay.top x := by kernel_rfl
  exact h
set_option maxRecDepth 100000 in
theorem impl_isDay.good : Good Try.prog 178 impl_isDay.con :=
  good_of tabok (cs := impl_isDay.cs) ⟨impl_within.good, trivial⟩ 0 false (fn := Try.f178) Try.func178 rfl (by decide) (by simp [impl_isDay.con]) impl_isDay.keep NN (fun _ => rfl) (fun x => impl_isDay.body NN x)
end
end Go.Ev.Try

namespace Go.Ev.Try
open Go.Proofs Go.Pl
set_option linter.unusedVariables false
noncomputable section
def impl_IsPaper.con : Con := { ps := [(.val, (.pair .str (.pair (.int .i64) (.sl 160 (.pair .str (.int .i64))))))], rs := [(.val, .bool)], F := fun x => impl_IsPaper.f x }
def impl_IsPaper.cs : List (FuncId × Con) := [(135, impl_areLines.con), (154, impl_IsWord.con), (178, impl_isDay.con)]
def impl_IsPaper.E : Env := envOf tab impl_IsPaper.cs 0 false
def impl_IsPaper.keep (i : Nat) : List Nat := []
set_option maxRecDepth 100000 in
theorem impl_IsPaper.body (n : Nat) (x : ByteArray × Int × List (ByteArray × Int)) : bodyF impl_IsPaper.E impl_IsPaper.keep n Try.f64 impl_IsPaper.con x = impl_IsPaper.fn n x := by
  have h : bodyF impl_IsPaper.E impl_IsPaper.keep n Try.f64 impl_IsPaper.con x = impl_IsPaper.top x := by kernel_rfl
  exact h
set_option maxRecDepth 100000 in
theorem impl_IsPaper.good : Good Try.prog 64 impl_IsPaper.con :=
  good_of tabok (cs := impl_IsPaper.cs) ⟨impl_areLines.good, impl_IsWord.good, impl_isDay.good, trivial⟩ 0 false (fn := Try.f64) Try.func64 rfl (by decide) (by simp [impl_IsPaper.con]) impl_IsPaper.keep NN (fun _ => rfl) (fun x => impl_IsPaper.body NN x)
end
end Go.Ev.Try

namespace Go.Ev.Try
open Go.Proofs Go.Pl
set_option linter.unusedVariables false
noncomputable section
def impl_decimal.st4 (n0 : Int) (text3 : ByteArray) : St := ⟨[.dat (.int .i64) n0, .gone, .gone, .dat .str text3, .gone, .gone, .gone, .gone, .gone, .gone, .gone, .gone, .gone, .gone, .gone, .gone, .gone, .gone, .gone, .gone, .gone, .gone, .gone], []⟩
def impl_decimal.con (S : Int → Option ByteArray) : Con := { ps := [(.val, (.int .i64))], rs := [(.val, .str)], F := fun x => S x }
def impl_decimal.cs (S : Int → Option ByteArray) : List (FuncId × Con) := [(230, (impl_decimal.con S))]
def impl_decimal.E (S : Int → Option ByteArray) : Env := envOf tab (impl_decimal.cs S) 0 false
def impl_decimal.keep (i : Nat) : List Nat := if i = 4 then [0, 3] else []
def impl_decimal.at4 (S : Int → Option ByteArray) (n : Nat) (x : Int) : Code × (Ex → St → Option (ByteArray)) := ctx (impl_decimal.E S) impl_decimal.keep n [.snd, .snd, .snd, .blk] (codeOf Try.f230) (kEnd (impl_decimal.E S) Try.f230 (impl_decimal.con S) x)
def impl_decimal.LN4 (S : Int → Option ByteArray) (n : Nat) (x : Int) : Nat → St → Option (ByteArray) := loopN (exec (impl_decimal.E S) impl_decimal.keep n (bodyOf ((impl_decimal.at4 S) n x).1)) (St.norm 0 (impl_decimal.keep 4)) ((impl_decimal.at4 S) n x).2
set_option maxRecDepth 100000 in
theorem impl_decimal.lem4 (S : Int → Option ByteArray) (n : Nat) (x : Int) : ∀ (k : Nat) (n0 : Int) (text3 : ByteArray), (impl_decimal.LN4 S) n x k (impl_decimal.st4 n0 text3) = (impl_decimal.l4 S) n k n0 text3 := by
  intro k
  induction k with
  | zero => intro n0 text3; rfl
  | succ k ih =>
    intro n0 text3
    have h : (impl_decimal.LN4 S) n x (k + 1) (impl_decimal.st4 n0 text3) = (impl_decimal.g4 S) (fun n0 text3 => (impl_decimal.LN4 S) n x k (impl_decimal.st4 n0 text3)) n0 text3 := by kernel_rfl
    rw [h]
    simp only [ih]
    rfl
set_option maxRecDepth 100000 in
theorem impl_decimal.body (S : Int → Option ByteArray) (n : Nat) (x : Int) : bodyF (impl_decimal.E S) impl_decimal.keep n Try.f230 (impl_decimal.con S) x = (impl_decimal.fn S) n x := by
  have h : bodyF (impl_decimal.E S) impl_decimal.keep n Try.f230 (impl_decimal.con S) x = (impl_decimal.top S) (fun n0 text3 => (impl_decimal.LN4 S) n x n (impl_decimal.st4 n0 text3)) x := by kernel_rfl
  rw [h]
  simp only [(impl_decimal.lem4 S)]
  rfl
set_option maxRecDepth 100000 in
theorem impl_decimal.goodk : ∀ k : Nat, Good Try.prog 230 (impl_decimal.con (impl_decimal.rc k)) := by
  intro k
  induction k with
  | zero => exact good_none (fn := Try.f230) Try.func230 rfl (by decide) (by simp [impl_decimal.con]) (fun _ => rfl)
  | succ k ih => exact good_of tabok (cs := impl_decimal.cs (impl_decimal.rc k)) ⟨ih, trivial⟩ 0 false (fn := Try.f230) Try.func230 rfl (by decide) (by simp [impl_decimal.con]) impl_decimal.keep NN (fun _ => rfl) (fun x => impl_decimal.body (impl_decimal.rc k) NN x)
theorem impl_decimal.good : Good Try.prog 230 (impl_decimal.con (fun n0 => impl_decimal.f n0)) := impl_decimal.goodk NN
end
end Go.Ev.Try

namespace Go.Ev.Try
open Go.Proofs Go.Pl
set_option linter.unusedVariables false
noncomputable section
def impl_paperText.st3 (out3 : ByteArray) (v14 : List (ByteArray × Int)) (v15 : Int) (v16 : Int) : St := ⟨[.gone, .gone, .gone, .dat .str out3, .gone, .gone, .gone, .gone, .gone, .gone, .gone, .gone, .gone, .gone, .dat (.sl 160 (.pair .str (.int .i64))) v14, .dat (.int .i64) v15, .dat (.int .i64) v16, .gone, .gone, .gone, .gone, .gone, .gone, .gone, .gone, .gone, .gone, .gone, .gone, .gone, .gone, .gone], []⟩
def impl_paperText.con : Con := { ps := [(.val, (.pair .str (.pair (.int .i64) (.sl 160 (.pair .str (.int .i64))))))], rs := [(.val, .str)], F := fun x => impl_paperText.f x }
def impl_paperText.cs : List (FuncId × Con) := [(230, (impl_decimal.con (fun a0 => impl_decimal.f a0)))]
def impl_paperText.E : Env := envOf tab impl_paperText.cs 0 false
def impl_paperText.keep (i : Nat) : List Nat := if i = 3 then [3, 14, 15, 16] else []
def impl_paperText.at3 (n : Nat) (x : ByteArray × Int × List (ByteArray × Int)) : Code × (Ex → St → Option (ByteArray)) := ctx impl_paperText.E impl_paperText.keep n [.snd, .snd, .fst, .snd, .blk] (codeOf Try.f167) (kEnd impl_paperText.E Try.f167 impl_paperText.con x)
def impl_paperText.LN3 (n : Nat) (x : ByteArray × Int × List (ByteArray × Int)) : Nat → St → Option (ByteArray) := loopN (exec impl_paperText.E impl_paperText.keep n (bodyOf (impl_paperText.at3 n x).1)) (St.norm 0 (impl_paperText.keep 3)) (impl_paperText.at3 n x).2
set_option maxRecDepth 100000 in
theorem impl_paperText.lem3 (n : Nat) (x : ByteArray × Int × List (ByteArray × Int)) : ∀ (k : Nat) (out3 : ByteArray) (v14 : List (ByteArray × Int)) (v15 : Int) (v16 : Int), impl_paperText.LN3 n x k (impl_paperText.st3 out3 v14 v15 v16) = impl_paperText.l3 n k out3 v14 v15 v16 := by
  intro k
  induction k with
  | zero => intro out3 v14 v15 v16; rfl
  | succ k ih =>
    intro out3 v14 v15 v16
    have h : impl_paperText.LN3 n x (k + 1) (impl_paperText.st3 out3 v14 v15 v16) = impl_paperText.g3 (fun out3 v14 v15 v16 => impl_paperText.LN3 n x k (impl_paperText.st3 out3 v14 v15 v16)) out3 v14 v15 v16 := by kernel_rfl
    rw [h]
    simp only [ih]
    rfl
set_option maxRecDepth 100000 in
theorem impl_paperText.body (n : Nat) (x : ByteArray × Int × List (ByteArray × Int)) : bodyF impl_paperText.E impl_paperText.keep n Try.f167 impl_paperText.con x = impl_paperText.fn n x := by
  have h : bodyF impl_paperText.E impl_paperText.keep n Try.f167 impl_paperText.con x = impl_paperText.top (fun out3 v14 v15 v16 => impl_paperText.LN3 n x n (impl_paperText.st3 out3 v14 v15 v16)) x := by kernel_rfl
  rw [h]
  simp only [impl_paperText.lem3]
  rfl
set_option maxRecDepth 100000 in
theorem impl_paperText.good : Good Try.prog 167 impl_paperText.con :=
  good_of tabok (cs := impl_paperText.cs) ⟨impl_decimal.good, trivial⟩ 0 false (fn := Try.f167) Try.func167 rfl (by decide) (by simp [impl_paperText.con]) impl_paperText.keep NN (fun _ => rfl) (fun x => impl_paperText.body NN x)
end
end Go.Ev.Try

namespace Go.Ev.Try
open Go.Proofs Go.Pl
set_option linter.unusedVariables false
noncomputable section
def impl_PaperText.con : Con := { ps := [(.val, (.pair .str (.pair (.int .i64) (.sl 160 (.pair .str (.int .i64))))))], rs := [(.val, .str), (.val, (.int .i64))], F := fun x => impl_PaperText.f x }
def impl_PaperText.cs : List (FuncId × Con) := [(64, impl_IsPaper.con), (167, impl_paperText.con)]
def impl_PaperText.E : Env := envOf tab impl_PaperText.cs 0 false
def impl_PaperText.keep (i : Nat) : List Nat := []
set_option maxRecDepth 100000 in
theorem impl_PaperText.body (n : Nat) (x : ByteArray × Int × List (ByteArray × Int)) : bodyF impl_PaperText.E impl_PaperText.keep n Try.f58 impl_PaperText.con x = impl_PaperText.fn n x := by
  have h : bodyF impl_PaperText.E impl_PaperText.keep n Try.f58 impl_PaperText.con x = impl_PaperText.top x := by kernel_rfl
  exact h
set_option maxRecDepth 100000 in
theorem impl_PaperText.good : Good Try.prog 58 impl_PaperText.con :=
  good_of tabok (cs := impl_PaperText.cs) ⟨impl_IsPaper.good, impl_paperText.good, trivial⟩ 0 false (fn := Try.f58) Try.func58 rfl (by decide) (by simp [impl_PaperText.con]) impl_PaperText.keep NN (fun _ => rfl) (fun x => impl_PaperText.body NN x)
end
end Go.Ev.Try

namespace Go.Ev.Try
open Go.Proofs Go.Pl
set_option linter.unusedVariables false
noncomputable section
def spec_l01In.con : Con := { ps := [(.val, (.int .i64)), (.val, (.int .i64)), (.val, (.int .i64))], rs := [(.val, .bool)], F := fun x => spec_l01In.f x.1 x.2.1 x.2.2 }
def spec_l01In.cs : List (FuncId × Con) := []
def spec_l01In.E : Env := envOf tab spec_l01In.cs 0 false
def spec_l01In.keep (i : Nat) : List Nat := []
set_option maxRecDepth 100000 in
theorem spec_l01In.body (n : Nat) (x : Int × Int × Int) : bodyF spec_l01In.E spec_l01In.keep n Try.f142 spec_l01In.con x = spec_l01In.fn n x.1 x.2.1 x.2.2 := by
  have h : bodyF spec_l01In.E spec_l01In.keep n Try.f142 spec_l01In.con x = spec_l01In.top x.1 x.2.1 x.2.2 := by kernel_rfl
  exact h
set_option maxRecDepth 100000 in
theorem spec_l01In.good : Good Try.prog 142 spec_l01In.con :=
  good_of tabok (cs := spec_l01In.cs) trivial 0 false (fn := Try.f142) Try.func142 rfl (by decide) (by simp [spec_l01In.con]) spec_l01In.keep NN (fun _ => rfl) (fun x => spec_l01In.body NN x)
end
end Go.Ev.Try

namespace Go.Ev.Try
open Go.Proofs Go.Pl
set_option linter.unusedVariables false
noncomputable section
def spec_IsWord.st2 (s0 : ByteArray) (i3 : Int) : St := ⟨[.dat .str s0, .gone, .gone, .dat (.int .i64) i3, .gone, .gone, .gone, .gone, .gone, .gone, .gone, .gone, .gone, .gone, .gone, .gone, .gone, .gone, .gone, .gone, .gone, .gone, .gone], []⟩
def spec_IsWord.con : Con := { ps := [(.val, .str)], rs := [(.val, .bool)], F := fun x => spec_IsWord.f x }
def spec_IsWord.cs : List (FuncId × Con) := [(142, spec_l01In.con)]
def spec_IsWord.E : Env := envOf tab spec_IsWord.cs 0 false
def spec_IsWord.keep (i : Nat) : List Nat := if i = 2 then [0, 3] else []
def spec_IsWord.at2 (n : Nat) (x : ByteArray) : Code × (Ex → St → Option (Bool)) := ctx spec_IsWord.E spec_IsWord.keep n [.snd, .fst, .snd, .blk] (codeOf Try.f152) (kEnd spec_IsWord.E Try.f152 spec_IsWord.con x)
def spec_IsWord.LN2 (n : Nat) (x : ByteArray) : Nat → St → Option (Bool) := loopN (exec spec_IsWord.E spec_IsWord.keep n (bodyOf (spec_IsWord.at2 n x).1)) (St.norm 0 (spec_IsWord.keep 2)) (spec_IsWord.at2 n x).2
set_option maxRecDepth 100000 in
theorem spec_IsWord.lem2 (n : Nat) (x : ByteArray) : ∀ (k : Nat) (s0 : ByteArray) (i3 : Int), spec_IsWord.LN2 n x k (spec_IsWord.st2 s0 i3) = spec_IsWord.l2 n k s0 i3 := by
  intro k
  induction k with
  | zero => intro s0 i3; rfl
  | succ k ih =>
    intro s0 i3
    have h : spec_IsWord.LN2 n x (k + 1) (spec_IsWord.st2 s0 i3) = spec_IsWord.g2 (fun s0 i3 => spec_IsWord.LN2 n x k (spec_IsWord.st2 s0 i3)) s0 i3 := by kernel_rfl
    rw [h]
    simp only [ih]
    rfl
set_option maxRecDepth 100000 in
theorem spec_IsWord.body (n : Nat) (x : ByteArray) : bodyF spec_IsWord.E spec_IsWord.keep n Try.f152 spec_IsWord.con x = spec_IsWord.fn n x := by
  have h : bodyF spec_IsWord.E spec_IsWord.keep n Try.f152 spec_IsWord.con x = spec_IsWord.top (fun s0 i3 => spec_IsWord.LN2 n x n (spec_IsWord.st2 s0 i3)) x := by kernel_rfl
  rw [h]
  simp only [spec_IsWord.lem2]
  rfl
set_option maxRecDepth 100000 in
theorem spec_IsWord.good : Good Try.prog 152 spec_IsWord.con :=
  good_of tabok (cs := spec_IsWord.cs) ⟨spec_l01In.good, trivial⟩ 0 false (fn := Try.f152) Try.func152 rfl (by decide) (by simp [spec_IsWord.con]) spec_IsWord.keep NN (fun _ => rfl) (fun x => spec_IsWord.body NN x)
end
end Go.Ev.Try

namespace Go.Ev.Try
open Go.Proofs Go.Pl
set_option linter.unusedVariables false
noncomputable section
def spec_IsPaper.st2 (i3 : Int) (p1 : ByteArray × Int × List (ByteArray × Int)) : St := ⟨[.gone, .ptr 0 [], .gone, .dat (.int .i64) i3, .gone, .gone, .gone, .gone, .gone, .gone, .gone, .gone, .gone, .gone, .gone, .gone, .gone, .gone, .gone, .gone, .gone, .gone, .gone, .gone, .gone, .gone, .gone, .gone, .gone, .gone, .gone, .gone, .gone, .gone, .gone, .gone, .gone, .gone, .gone, .gone, .gone, .gone, .gone, .gone, .gone, .gone, .gone, .gone, .gone, .gone, .gone, .gone, .gone, .gone, .gone, .gone, .gone, .gone, .gone, .gone, .gone, .gone, .gone], [.box 62 (.pair .str (.pair (.int .i64) (.sl 160 (.pair .str (.int .i64))))) (.dat (.pair .str (.pair (.int .i64) (.sl 160 (.pair .str (.int .i64))))) p1)]⟩
def spec_IsPaper.con : Con := { ps := [(.val, (.pair .str (.pair (.int .i64) (.sl 160 (.pair .str (.int .i64))))))], rs := [(.val, .bool)], F := fun x => spec_IsPaper.f x }
def spec_IsPaper.cs : List (FuncId × Con) := [(142, spec_l01In.con), (152, spec_IsWord.con)]
def spec_IsPaper.E : Env := envOf tab spec_IsPaper.cs 0 false
def spec_IsPaper.keep (i : Nat) : List Nat := if i = 2 then [1, 3] else []
def spec_IsPaper.at2 (n : Nat) (x : ByteArray × Int × List (ByteArray × Int)) : Code × (Ex → St → Option (Bool)) := ctx spec_IsPaper.E spec_IsPaper.keep n [.snd, .fst, .snd, .blk] (codeOf Try.f130) (kEnd spec_IsPaper.E Try.f130 spec_IsPaper.con x)
def spec_IsPaper.LN2 (n : Nat) (x : ByteArray × Int × List (ByteArray × Int)) : Nat → St → Option (Bool) := loopN (exec spec_IsPaper.E spec_IsPaper.keep n (bodyOf (spec_IsPaper.at2 n x).1)) (St.norm 0 (spec_IsPaper.keep 2)) (spec_IsPaper.at2 n x).2
set_option maxRecDepth 100000 in
theorem spec_IsPaper.lem2 (n : Nat) (x : ByteArray × Int × List (ByteArray × Int)) : ∀ (k : Nat) (i3 : Int) (p1 : ByteArray × Int × List (ByteArray × Int)), spec_IsPaper.LN2 n x k (spec_IsPaper.st2 i3 p1) = spec_IsPaper.l2 n k i3 p1 := by
  intro k
  induction k with
  | zero => intro i3 p1; rfl
  | succ k ih =>
    intro i3 p1
    have h : spec_IsPaper.LN2 n x (k + 1) (spec_IsPaper.st2 i3 p1) = spec_IsPaper.g2 (fun i3 p1 => spec_IsPaper.LN2 n x k (spec_IsPaper.st2 i3 p1)) i3 p1 := by kernel_rfl
    rw [h]
    simp only [ih]
    rfl
set_option maxRecDepth 100000 in
theorem spec_IsPaper.body (n : Nat) (x : ByteArray × Int × List (ByteArray × Int)) : bodyF spec_IsPaper.E spec_IsPaper.keep n Try.f130 spec_IsPaper.con x = spec_IsPaper.fn n x := by
  have h : bodyF spec_IsPaper.E spec_IsPaper.keep n Try.f130 spec_IsPaper.con x = spec_IsPaper.top (fun i3 p1 => spec_IsPaper.LN2 n x n (spec_IsPaper.st2 i3 p1)) x := by kernel_rfl
  rw [h]
  simp only [spec_IsPaper.lem2]
  rfl
set_option maxRecDepth 100000 in
theorem spec_IsPaper.good : Good Try.prog 130 spec_IsPaper.con :=
  good_of tabok (cs := spec_IsPaper.cs) ⟨spec_l01In.good, spec_IsWord.good, trivial⟩ 0 false (fn := Try.f130) Try.func130 rfl (by decide) (by simp [spec_IsPaper.con]) spec_IsPaper.keep NN (fun _ => rfl) (fun x => spec_IsPaper.body NN x)
end
end Go.Ev.Try

namespace Go.Ev.Try
open Go.Proofs Go.Pl
set_option linter.unusedVariables false
noncomputable section
def spec_l01Dec.topraw (S : Int → Option ByteArray) (n0 : Int) : Option ByteArray :=
  if (decide ((n0 : Int) < 10)) = true then
    some (bytesOf ([IntKind.u8.wrap (IntKind.i64.wrap (48 + n0))]))
  else
    agree (
      (S (IntKind.i64.wrap (Int.tdiv n0 10))).bind fun r1 =>
      if r1.size + (bytesOf ([IntKind.u8.wrap (IntKind.i64.wrap (48 + (Int.tmod n0 10)))])).size ≤ 9223372036854775807 then
        some (r1 ++ (bytesOf ([IntKind.u8.wrap (IntKind.i64.wrap (48 + (Int.tmod n0 10)))])))
      else
        none
    ) (
      (S (IntKind.i64.wrap (Int.tdiv n0 10))).bind fun r1 =>
      if r1.size + (bytesOf ([IntKind.u8.wrap (IntKind.i64.wrap (48 + (Int.tmod n0 10)))])).size ≤ 9223372036854775807 then
        some (r1 ++ (bytesOf ([IntKind.u8.wrap (IntKind.i64.wrap (48 + (Int.tmod n0 10)))])))
      else
        none
    )
theorem spec_l01Dec.topraw_eq (S : Int → Option ByteArray) (n0 : Int) : (spec_l01Dec.topraw S) n0 = (spec_l01Dec.top S) n0 := by
  unfold spec_l01Dec.topraw spec_l01Dec.top
  simp only [agree_self]
def spec_l01Dec.con (S : Int → Option ByteArray) : Con := { ps := [(.val, (.int .i64))], rs := [(.val, .str)], F := fun x => S x }
def spec_l01Dec.cs (S : Int → Option ByteArray) : List (FuncId × Con) := [(231, (spec_l01Dec.con S))]
def spec_l01Dec.E (S : Int → Option ByteArray) : Env := envOf tab (spec_l01Dec.cs S) 0 false
def spec_l01Dec.keep (i : Nat) : List Nat := []
set_option maxRecDepth 100000 in
theorem spec_l01Dec.body (S : Int → Option ByteArray) (n : Nat) (x : Int) : bodyF (spec_l01Dec.E S) spec_l01Dec.keep n Try.f231 (spec_l01Dec.con S) x = (spec_l01Dec.fn S) n x := by
  have h : bodyF (spec_l01Dec.E S) spec_l01Dec.keep n Try.f231 (spec_l01Dec.con S) x = (spec_l01Dec.topraw S) x := by kernel_rfl
  rw [(spec_l01Dec.topraw_eq S)] at h
  exact h
set_option maxRecDepth 100000 in
theorem spec_l01Dec.goodk : ∀ k : Nat, Good Try.prog 231 (spec_l01Dec.con (spec_l01Dec.rc k)) := by
  intro k
  induction k with
  | zero => exact good_none (fn := Try.f231) Try.func231 rfl (by decide) (by simp [spec_l01Dec.con]) (fun _ => rfl)
  | succ k ih => exact good_of tabok (cs := spec_l01Dec.cs (spec_l01Dec.rc k)) ⟨ih, trivial⟩ 0 false (fn := Try.f231) Try.func231 rfl (by decide) (by simp [spec_l01Dec.con]) spec_l01Dec.keep NN (fun _ => rfl) (fun x => spec_l01Dec.body (spec_l01Dec.rc k) NN x)
theorem spec_l01Dec.good : Good Try.prog 231 (spec_l01Dec.con (fun n0 => spec_l01Dec.f n0)) := spec_l01Dec.goodk NN
end
end Go.Ev.Try

namespace Go.Ev.Try
open Go.Proofs Go.Pl
set_option linter.unusedVariables false
noncomputable section
def spec_l29Text.st3 (out3 : ByteArray) (i4 : Int) (p1 : ByteArray × Int × List (ByteArray × Int)) : St := ⟨[.gone, .ptr 0 [], .gone, .dat .str out3, .dat (.int .i64) i4, .gone, .gone, .gone, .gone, .gone, .gone, .gone, .gone, .gone, .gone, .gone, .gone, .gone, .gone, .gone, .gone, .gone, .gone, .gone, .gone, .gone, .gone, .gone, .gone, .gone, .gone, .gone, .gone, .gone, .gone, .gone, .gone, .gone], [.box 62 (.pair .str (.pair (.int .i64) (.sl 160 (.pair .str (.int .i64))))) (.dat (.pair .str (.pair (.int .i64) (.sl 160 (.pair .str (.int .i64))))) p1)]⟩
def spec_l29Text.con : Con := { ps := [(.val, (.pair .str (.pair (.int .i64) (.sl 160 (.pair .str (.int .i64))))))], rs := [(.val, .str)], F := fun x => spec_l29Text.f x }
def spec_l29Text.cs : List (FuncId × Con) := [(231, (spec_l01Dec.con (fun a0 => spec_l01Dec.f a0)))]
def spec_l29Text.E : Env := envOf tab spec_l29Text.cs 0 false
def spec_l29Text.keep (i : Nat) : List Nat := if i = 3 then [1, 3, 4] else []
def spec_l29Text.at3 (n : Nat) (x : ByteArray × Int × List (ByteArray × Int)) : Code × (Ex → St → Option (ByteArray)) := ctx spec_l29Text.E spec_l29Text.keep n [.snd, .snd, .fst, .snd, .blk] (codeOf Try.f168) (kEnd spec_l29Text.E Try.f168 spec_l29Text.con x)
def spec_l29Text.LN3 (n : Nat) (x : ByteArray × Int × List (ByteArray × Int)) : Nat → St → Option (ByteArray) := loopN (exec spec_l29Text.E spec_l29Text.keep n (bodyOf (spec_l29Text.at3 n x).1)) (St.norm 0 (spec_l29Text.keep 3)) (spec_l29Text.at3 n x).2
set_option maxRecDepth 100000 in
theorem spec_l29Text.lem3 (n : Nat) (x : ByteArray × Int × List (ByteArray × Int)) : ∀ (k : Nat) (out3 : ByteArray) (i4 : Int) (p1 : ByteArray × Int × List (ByteArray × Int)), spec_l29Text.LN3 n x k (spec_l29Text.st3 out3 i4 p1) = spec_l29Text.l3 n k out3 i4 p1 := by
  intro k
  induction k with
  | zero => intro out3 i4 p1; rfl
  | succ k ih =>
    intro out3 i4 p1
    have h : spec_l29Text.LN3 n x (k + 1) (spec_l29Text.st3 out3 i4 p1) = spec_l29Text.g3 (fun out3 i4 p1 => spec_l29Text.LN3 n x k (spec_l29Text.st3 out3 i4 p1)) out3 i4 p1 := by kernel_rfl
    rw [h]
    simp only [ih]
    rfl
set_option maxRecDepth 100000 in
theorem spec_l29Text.body (n : Nat) (x : ByteArray × Int × List (ByteArray × Int)) : bodyF spec_l29Text.E spec_l29Text.keep n Try.f168 spec_l29Text.con x = spec_l29Text.fn n x := by
  have h : bodyF spec_l29Text.E spec_l29Text.keep n Try.f168 spec_l29Text.con x = spec_l29Text.top (fun out3 i4 p1 => spec_l29Text.LN3 n x n (spec_l29Text.st3 out3 i4 p1)) x := by kernel_rfl
  rw [h]
  simp only [spec_l29Text.lem3]
  rfl
set_option maxRecDepth 100000 in
theorem spec_l29Text.good : Good Try.prog 168 spec_l29Text.con :=
  good_of tabok (cs := spec_l29Text.cs) ⟨spec_l01Dec.good, trivial⟩ 0 false (fn := Try.f168) Try.func168 rfl (by decide) (by simp [spec_l29Text.con]) spec_l29Text.keep NN (fun _ => rfl) (fun x => spec_l29Text.body NN x)
end
end Go.Ev.Try

namespace Go.Ev.Try
open Go.Proofs Go.Pl
set_option linter.unusedVariables false
noncomputable section
def spec_PaperText.con : Con := { ps := [(.val, (.pair .str (.pair (.int .i64) (.sl 160 (.pair .str (.int .i64))))))], rs := [(.val, .str), (.val, (.int .i64))], F := fun x => spec_PaperText.f x }
def spec_PaperText.cs : List (FuncId × Con) := [(130, spec_IsPaper.con), (168, spec_l29Text.con)]
def spec_PaperText.E : Env := envOf tab spec_PaperText.cs 0 false
def spec_PaperText.keep (i : Nat) : List Nat := []
set_option maxRecDepth 100000 in
theorem spec_PaperText.body (n : Nat) (x : ByteArray × Int × List (ByteArray × Int)) : bodyF spec_PaperText.E spec_PaperText.keep n Try.f59 spec_PaperText.con x = spec_PaperText.fn n x := by
  have h : bodyF spec_PaperText.E spec_PaperText.keep n Try.f59 spec_PaperText.con x = spec_PaperText.top x := by kernel_rfl
  exact h
set_option maxRecDepth 100000 in
theorem spec_PaperText.good : Good Try.prog 59 spec_PaperText.con :=
  good_of tabok (cs := spec_PaperText.cs) ⟨spec_IsPaper.good, spec_l29Text.good, trivial⟩ 0 false (fn := Try.f59) Try.func59 rfl (by decide) (by simp [spec_PaperText.con]) spec_PaperText.keep NN (fun _ => rfl) (fun x => spec_PaperText.body NN x)
end
end Go.Ev.Try

namespace Go.Ev.Try
open Go.Proofs Go.Pl
set_option linter.unusedVariables false
noncomputable section
def spec_l01Damage.topraw (s0 : List Int × Int × Int) (t1 : ByteArray) : Option (ByteArray × List Int × Int × Int) :=
  (spec_l01Next.f s0 (IntKind.i64.wrap ((t1.size : Int) + 1))).bind fun r1 =>
  (spec_l01Next.f r1.2 8).bind fun r2 =>
  if ((r2.1 : Int) == 0) = true then
    if (0 : Int) ≤ r1.1 ∧ (r1.1 : Int) ≤ t1.size then
      some (t1.extract 0 (r1.1 : Int).toNat, r2.2)
    else
      none
  else if ((r2.1 : Int) == 1) = true then
    if (0 : Int) ≤ r1.1 ∧ (r1.1 : Int) ≤ t1.size then
      if (0 : Int) ≤ r1.1 ∧ (r1.1 : Int) ≤ t1.size then
        agree (
          (spec_l01Next.f r2.2 8).bind fun r3 =>
          if (0 : Int) ≤ r3.1 ∧ (r3.1 : Int) < ([(⟨#[48]⟩ : ByteArray), (⟨#[35]⟩ : ByteArray), (⟨#[46]⟩ : ByteArray), (⟨#[47]⟩ : ByteArray), (⟨#[32]⟩ : ByteArray), (⟨#[97]⟩ : ByteArray), (⟨#[45]⟩ : ByteArray), (⟨#[10]⟩ : ByteArray)]).length then
            if (t1.extract 0 (r1.1 : Int).toNat).size + (([(⟨#[48]⟩ : ByteArray), (⟨#[35]⟩ : ByteArray), (⟨#[46]⟩ : ByteArray), (⟨#[47]⟩ : ByteArray), (⟨#[32]⟩ : ByteArray), (⟨#[97]⟩ : ByteArray), (⟨#[45]⟩ : ByteArray), (⟨#[10]⟩ : ByteArray)]).getD (r3.1 : Int).toNat ByteArray.empty).size ≤ 9223372036854775807 then
              if ((t1.extract 0 (r1.1 : Int).toNat) ++ (([(⟨#[48]⟩ : ByteArray), (⟨#[35]⟩ : ByteArray), (⟨#[46]⟩ : ByteArray), (⟨#[47]⟩ : ByteArray), (⟨#[32]⟩ : ByteArray), (⟨#[97]⟩ : ByteArray), (⟨#[45]⟩ : ByteArray), (⟨#[10]⟩ : ByteArray)]).getD (r3.1 : Int).toNat ByteArray.empty)).size + (t1.extract (r1.1 : Int).toNat t1.size).size ≤ 9223372036854775807 then
                some (((t1.extract 0 (r1.1 : Int).toNat) ++ (([(⟨#[48]⟩ : ByteArray), (⟨#[35]⟩ : ByteArray), (⟨#[46]⟩ : ByteArray), (⟨#[47]⟩ : ByteArray), (⟨#[32]⟩ : ByteArray), (⟨#[97]⟩ : ByteArray), (⟨#[45]⟩ : ByteArray), (⟨#[10]⟩ : ByteArray)]).getD (r3.1 : Int).toNat ByteArray.empty)) ++ (t1.extract (r1.1 : Int).toNat t1.size), r3.2)
              else
                none
            else
              none
          else
            none
        ) (
          (spec_l01Next.f r2.2 8).bind fun r3 =>
          if (0 : Int) ≤ r3.1 ∧ (r3.1 : Int) < ([(⟨#[48]⟩ : ByteArray), (⟨#[35]⟩ : ByteArray), (⟨#[46]⟩ : ByteArray), (⟨#[47]⟩ : ByteArray), (⟨#[32]⟩ : ByteArray), (⟨#[97]⟩ : ByteArray), (⟨#[45]⟩ : ByteArray), (⟨#[10]⟩ : ByteArray)]).length then
            if (t1.extract 0 (r1.1 : Int).toNat).size + (([(⟨#[48]⟩ : ByteArray), (⟨#[35]⟩ : ByteArray), (⟨#[46]⟩ : ByteArray), (⟨#[47]⟩ : ByteArray), (⟨#[32]⟩ : ByteArray), (⟨#[97]⟩ : ByteArray), (⟨#[45]⟩ : ByteArray), (⟨#[10]⟩ : ByteArray)]).getD (r3.1 : Int).toNat ByteArray.empty).size ≤ 9223372036854775807 then
              if ((t1.extract 0 (r1.1 : Int).toNat) ++ (([(⟨#[48]⟩ : ByteArray), (⟨#[35]⟩ : ByteArray), (⟨#[46]⟩ : ByteArray), (⟨#[47]⟩ : ByteArray), (⟨#[32]⟩ : ByteArray), (⟨#[97]⟩ : ByteArray), (⟨#[45]⟩ : ByteArray), (⟨#[10]⟩ : ByteArray)]).getD (r3.1 : Int).toNat ByteArray.empty)).size + (t1.extract (r1.1 : Int).toNat t1.size).size ≤ 9223372036854775807 then
                some (((t1.extract 0 (r1.1 : Int).toNat) ++ (([(⟨#[48]⟩ : ByteArray), (⟨#[35]⟩ : ByteArray), (⟨#[46]⟩ : ByteArray), (⟨#[47]⟩ : ByteArray), (⟨#[32]⟩ : ByteArray), (⟨#[97]⟩ : ByteArray), (⟨#[45]⟩ : ByteArray), (⟨#[10]⟩ : ByteArray)]).getD (r3.1 : Int).toNat ByteArray.empty)) ++ (t1.extract (r1.1 : Int).toNat t1.size), r3.2)
              else
                none
            else
              none
          else
            none
        )
      else
        none
    else
      none
  else if ((r2.1 : Int) == 2) = true then
    if (decide ((r1.1 : Int) < (t1.size : Int))) = true then
      if (0 : Int) ≤ r1.1 ∧ (r1.1 : Int) ≤ t1.size then
        if (0 : Int) ≤ (IntKind.i64.wrap (r1.1 + 1)) ∧ ((IntKind.i64.wrap (r1.1 + 1)) : Int) ≤ t1.size then
          if (t1.extract 0 (r1.1 : Int).toNat).size + (t1.extract ((IntKind.i64.wrap (r1.1 + 1)) : Int).toNat t1.size).size ≤ 9223372036854775807 then
            some ((t1.extract 0 (r1.1 : Int).toNat) ++ (t1.extract ((IntKind.i64.wrap (r1.1 + 1)) : Int).toNat t1.size), r2.2)
          else
            none
        else
          none
      else
        none
    else
      some (t1, r2.2)
  else
    some (t1, r2.2)
theorem spec_l01Damage.topraw_eq (s0 : List Int × Int × Int) (t1 : ByteArray) : spec_l01Damage.topraw s0 t1 = spec_l01Damage.top s0 t1 := by
  unfold spec_l01Damage.topraw spec_l01Damage.top
  simp only [agree_self]
def spec_l01Damage.con : Con := { ps := [(.bx 219, (.pair (.sl 5 (.int .u8)) (.pair (.int .i64) (.int .i64)))), (.val, .str)], rs := [(.val, .str)], F := fun x => spec_l01Damage.f x.1 x.2 }
def spec_l01Damage.cs : List (FuncId × Con) := [(109, spec_l01Next.con)]
def spec_l01Damage.E : Env := envOf tab spec_l01Damage.cs 1 false
def spec_l01Damage.keep (i : Nat) : List Nat := []
set_option maxRecDepth 100000 in
theorem spec_l01Damage.body (n : Nat) (x : (List Int × Int × Int) × ByteArray) : bodyF spec_l01Damage.E spec_l01Damage.keep n Try.f170 spec_l01Damage.con x = spec_l01Damage.fn n x.1 x.2 := by
  have h : bodyF spec_l01Damage.E spec_l01Damage.keep n Try.f170 spec_l01Damage.con x = spec_l01Damage.topraw x.1 x.2 := by kernel_rfl
  rw [spec_l01Damage.topraw_eq] at h
  exact h
set_option maxRecDepth 100000 in
theorem spec_l01Damage.good : Good Try.prog 170 spec_l01Damage.con :=
  good_of tabok (cs := spec_l01Damage.cs) ⟨spec_l01Next.good, trivial⟩ 1 false (fn := Try.f170) Try.func170 rfl (by decide) (by simp [spec_l01Damage.con]) spec_l01Damage.keep NN (fun _ => rfl) (fun x => spec_l01Damage.body NN x)
end
end Go.Ev.Try

namespace Go.Ev.Try
open Go.Proofs Go.Pl
set_option linter.unusedVariables false
noncomputable section
def spec_DrawReadPaper.con : Con := { ps := [(.val, (.sl 5 (.int .u8)))], rs := [(.val, .str)], F := fun x => spec_DrawReadPaper.f x }
def spec_DrawReadPaper.cs : List (FuncId × Con) := [(107, spec_l01From.con), (109, spec_l01Next.con), (168, spec_l29Text.con), (169, spec_l29Good.con), (170, spec_l01Damage.con)]
def spec_DrawReadPaper.E : Env := envOf tab spec_DrawReadPaper.cs 0 false
def spec_DrawReadPaper.keep (i : Nat) : List Nat := []
set_option maxRecDepth 100000 in
theorem spec_DrawReadPaper.body (n : Nat) (x : List Int) : bodyF spec_DrawReadPaper.E spec_DrawReadPaper.keep n Try.f60 spec_DrawReadPaper.con x = spec_DrawReadPaper.fn n x := by
  have h : bodyF spec_DrawReadPaper.E spec_DrawReadPaper.keep n Try.f60 spec_DrawReadPaper.con x = spec_DrawReadPaper.top x := by kernel_rfl
  exact h
set_option maxRecDepth 100000 in
theorem spec_DrawReadPaper.good : Good Try.prog 60 spec_DrawReadPaper.con :=
  good_of tabok (cs := spec_DrawReadPaper.cs) ⟨spec_l01From.good, spec_l01Next.good, spec_l29Text.good, spec_l29Good.good, spec_l01Damage.good, trivial⟩ 0 false (fn := Try.f60) Try.func60 rfl (by decide) (by simp [spec_DrawReadPaper.con]) spec_DrawReadPaper.keep NN (fun _ => rfl) (fun x => spec_DrawReadPaper.body NN x)
end
end Go.Ev.Try

namespace Go.Ev.Try
open Go.Proofs Go.Pl
set_option linter.unusedVariables false
noncomputable section
def impl_splitAt.st4 (s0 : ByteArray) (b1 : Int) (from6 : Int) (i7 : Int) (out5 : List ByteArray) : St := ⟨[.dat .str s0, .dat (.int .u8) b1, .gone, .gone, .gone, .ref 0, .dat (.int .i64) from6, .dat (.int .i64) i7, .gone, .gone, .gone, .gone, .gone, .gone, .gone, .gone, .gone, .gone, .gone, .gone, .gone, .gone, .gone, .gone, .gone, .gone, .gone, .gone, .gone, .gone, .gone, .gone, .gone, .gone], [.row 9 .str out5 none]⟩
def impl_splitAt.con : Con := { ps := [(.val, .str), (.val, (.int .u8))], rs := [(.own, (.sl 9 .str))], F := fun x => impl_splitAt.f x.1 x.2 }
def impl_splitAt.cs : List (FuncId × Con) := []
def impl_splitAt.E : Env := envOf tab impl_splitAt.cs 0 false
def impl_splitAt.keep (i : Nat) : List Nat := if i = 4 then [0, 1, 5, 6, 7] else []
def impl_splitAt.at4 (n : Nat) (x : ByteArray × Int) : Code × (Ex → St → Option ((List ByteArray))) := ctx impl_splitAt.E impl_splitAt.keep n [.snd, .snd, .snd, .fst, .snd, .blk] (codeOf Try.f171) (kEnd impl_splitAt.E Try.f171 impl_splitAt.con x)
def impl_splitAt.LN4 (n : Nat) (x : ByteArray × Int) : Nat → St → Option ((List ByteArray)) := loopN (exec impl_splitAt.E impl_splitAt.keep n (bodyOf (impl_splitAt.at4 n x).1)) (St.norm 0 (impl_splitAt.keep 4)) (impl_splitAt.at4 n x).2
set_option maxRecDepth 100000 in
theorem impl_splitAt.lem4 (n : Nat) (x : ByteArray × Int) : ∀ (k : Nat) (s0 : ByteArray) (b1 : Int) (from6 : Int) (i7 : Int) (out5 : List ByteArray), impl_splitAt.LN4 n x k (impl_splitAt.st4 s0 b1 from6 i7 out5) = impl_splitAt.l4 n k s0 b1 from6 i7 out5 := by
  intro k
  induction k with
  | zero => intro s0 b1 from6 i7 out5; rfl
  | succ k ih =>
    intro s0 b1 from6 i7 out5
    have h : impl_splitAt.LN4 n x (k + 1) (impl_splitAt.st4 s0 b1 from6 i7 out5) = impl_splitAt.g4 (fun s0 b1 from6 i7 out5 => impl_splitAt.LN4 n x k (impl_splitAt.st4 s0 b1 from6 i7 out5)) s0 b1 from6 i7 out5 := by kernel_rfl
    rw [h]
    simp only [ih]
    rfl
set_option maxRecDepth 100000 in
theorem impl_splitAt.body (n : Nat) (x : ByteArray × Int) : bodyF impl_splitAt.E impl_splitAt.keep n Try.f171 impl_splitAt.con x = impl_splitAt.fn n x.1 x.2 := by
  have h : bodyF impl_splitAt.E impl_splitAt.keep n Try.f171 impl_splitAt.con x = impl_splitAt.top (fun s0 b1 from6 i7 out5 => impl_splitAt.LN4 n x n (impl_splitAt.st4 s0 b1 from6 i7 out5)) x.1 x.2 := by kernel_rfl
  rw [h]
  simp only [impl_splitAt.lem4]
  rfl
set_option maxRecDepth 100000 in
theorem impl_splitAt.good : Good Try.prog 171 impl_splitAt.con :=
  good_of tabok (cs := impl_splitAt.cs) trivial 0 false (fn := Try.f171) Try.func171 rfl (by decide) (by simp [impl_splitAt.con]) impl_splitAt.keep NN (fun _ => rfl) (fun x => impl_splitAt.body NN x)
end
end Go.Ev.Try

namespace Go.Ev.Try
open Go.Proofs Go.Pl
set_option linter.unusedVariables false
noncomputable section
def impl_readDecimal.st8 (s0 : ByteArray) (digits4 : ByteArray) (n5 : Int) (i6 : Int) : St := ⟨[.dat .str s0, .gone, .gone, .gone, .dat .str digits4, .dat (.int .i64) n5, .dat (.int .i64) i6, .gone, .gone, .gone, .gone, .gone, .gone, .gone, .gone, .gone, .gone, .gone, .gone, .gone, .gone, .gone, .gone, .gone, .gone, .gone, .gone, .gone, .gone, .gone, .gone, .gone, .gone, .gone, .gone, .gone, .gone, .gone, .gone, .gone, .gone, .gone, .gone, .gone, .gone, .gone, .gone, .gone, .gone, .gone, .gone, .gone, .gone, .gone, .gone, .gone, .gone, .gone, .gone, .gone, .gone, .gone, .gone, .gone, .gone, .gone, .gone, .gone, .gone, .gone, .gone, .gone, .gone], []⟩
def impl_readDecimal.con : Con := { ps := [(.val, .str)], rs := [(.val, (.int .i64)), (.val, .bool)], F := fun x => impl_readDecimal.f x }
def impl_readDecimal.cs : List (FuncId × Con) := []
def impl_readDecimal.E : Env := envOf tab impl_readDecimal.cs 0 false
def impl_readDecimal.keep (i : Nat) : List Nat := if i = 8 then [0, 4, 5, 6] else []
def impl_readDecimal.at8 (n : Nat) (x : ByteArray) : Code × (Ex → St → Option ((Int × Bool))) := ctx impl_readDecimal.E impl_readDecimal.keep n [.snd, .snd, .snd, .snd, .snd, .fst, .snd, .blk] (codeOf Try.f172) (kEnd impl_readDecimal.E Try.f172 impl_readDecimal.con x)
def impl_readDecimal.LN8 (n : Nat) (x : ByteArray) : Nat → St → Option ((Int × Bool)) := loopN (exec impl_readDecimal.E impl_readDecimal.keep n (bodyOf (impl_readDecimal.at8 n x).1)) (St.norm 0 (impl_readDecimal.keep 8)) (impl_readDecimal.at8 n x).2
set_option maxRecDepth 100000 in
theorem impl_readDecimal.lem8 (n : Nat) (x : ByteArray) : ∀ (k : Nat) (s0 : ByteArray) (digits4 : ByteArray) (n5 : Int) (i6 : Int), impl_readDecimal.LN8 n x k (impl_readDecimal.st8 s0 digits4 n5 i6) = impl_readDecimal.l8 n k s0 digits4 n5 i6 := by
  intro k
  induction k with
  | zero => intro s0 digits4 n5 i6; rfl
  | succ k ih =>
    intro s0 digits4 n5 i6
    have h : impl_readDecimal.LN8 n x (k + 1) (impl_readDecimal.st8 s0 digits4 n5 i6) = impl_readDecimal.g8 (fun s0 digits4 n5 i6 => impl_readDecimal.LN8 n x k (impl_readDecimal.st8 s0 digits4 n5 i6)) s0 digits4 n5 i6 := by kernel_rfl
    rw [h]
    simp only [ih]
    rfl
set_option maxRecDepth 100000 in
theorem impl_readDecimal.body (n : Nat) (x : ByteArray) : bodyF impl_readDecimal.E impl_readDecimal.keep n Try.f172 impl_readDecimal.con x = impl_readDecimal.fn n x := by
  have h : bodyF impl_readDecimal.E impl_readDecimal.keep n Try.f172 impl_readDecimal.con x = impl_readDecimal.top (fun s0 digits4 n5 i6 => impl_readDecimal.LN8 n x n (impl_readDecimal.st8 s0 digits4 n5 i6)) x := by kernel_rfl
  rw [h]
  simp only [impl_readDecimal.lem8]
  rfl
set_option maxRecDepth 100000 in
theorem impl_readDecimal.good : Good Try.prog 172 impl_readDecimal.con :=
  good_of tabok (cs := impl_readDecimal.cs) trivial 0 false (fn := Try.f172) Try.func172 rfl (by decide) (by simp [impl_readDecimal.con]) impl_readDecimal.keep NN (fun _ => rfl) (fun x => impl_readDecimal.body NN x)
end
end Go.Ev.Try

namespace Go.Ev.Try
open Go.Proofs Go.Pl
set_option linter.unusedVariables false
noncomputable section
def impl_readLine.st2 (s0 : ByteArray) (i4 : Int) (v2a : ByteArray) (v2b : Int) : St := ⟨[.dat .str s0, .gone, .ptr 0 [], .gone, .dat (.int .i64) i4, .gone, .gone, .gone, .gone, .gone, .gone, .gone, .gone, .gone, .gone, .gone, .gone, .gone, .gone, .gone, .gone, .gone, .gone, .gone, .gone, .gone, .gone, .gone, .gone, .gone, .gone, .gone], [.box 160 (.pair .str (.int .i64)) (.pr (.dat .str v2a) (.dat (.int .i64) v2b))]⟩
def impl_readLine.con : Con := { ps := [(.val, .str)], rs := [(.val, (.pair .str (.int .i64))), (.val, .bool)], F := fun x => impl_readLine.f x }
def impl_readLine.cs : List (FuncId × Con) := [(172, impl_readDecimal.con)]
def impl_readLine.E : Env := envOf tab impl_readLine.cs 0 false
def impl_readLine.keep (i : Nat) : List Nat := if i = 2 then [0, 2, 4] else []
def impl_readLine.at2 (n : Nat) (x : ByteArray) : Code × (Ex → St → Option (((ByteArray × Int) × Bool))) := ctx impl_readLine.E impl_readLine.keep n [.snd, .fst, .snd, .blk] (codeOf Try.f173) (kEnd impl_readLine.E Try.f173 impl_readLine.con x)
def impl_readLine.LN2 (n : Nat) (x : ByteArray) : Nat → St → Option (((ByteArray × Int) × Bool)) := loopN (exec impl_readLine.E impl_readLine.keep n (bodyOf (impl_readLine.at2 n x).1)) (St.norm 0 (impl_readLine.keep 2)) (impl_readLine.at2 n x).2
set_option maxRecDepth 100000 in
theorem impl_readLine.lem2 (n : Nat) (x : ByteArray) : ∀ (k : Nat) (s0 : ByteArray) (i4 : Int) (v2a : ByteArray) (v2b : Int), impl_readLine.LN2 n x k (impl_readLine.st2 s0 i4 v2a v2b) = impl_readLine.l2 n k s0 i4 v2a v2b := by
  intro k
  induction k with
  | zero => intro s0 i4 v2a v2b; rfl
  | succ k ih =>
    intro s0 i4 v2a v2b
    have h : impl_readLine.LN2 n x (k + 1) (impl_readLine.st2 s0 i4 v2a v2b) = impl_readLine.g2 (fun s0 i4 v2a v2b => impl_readLine.LN2 n x k (impl_readLine.st2 s0 i4 v2a v2b)) s0 i4 v2a v2b := by kernel_rfl
    rw [h]
    simp only [ih]
    rfl
set_option maxRecDepth 100000 in
theorem impl_readLine.body (n : Nat) (x : ByteArray) : bodyF impl_readLine.E impl_readLine.keep n Try.f173 impl_readLine.con x = impl_readLine.fn n x := by
  have h : bodyF impl_readLine.E impl_readLine.keep n Try.f173 impl_readLine.con x = impl_readLine.top (fun s0 i4 v2a v2b => impl_readLine.LN2 n x n (impl_readLine.st2 s0 i4 v2a v2b)) x := by kernel_rfl
  rw [h]
  simp only [impl_readLine.lem2]
  rfl
set_option maxRecDepth 100000 in
theorem impl_readLine.good : Good Try.prog 173 impl_readLine.con :=
  good_of tabok (cs := impl_readLine.cs) ⟨impl_readDecimal.good, trivial⟩ 0 false (fn := Try.f173) Try.func173 rfl (by decide) (by simp [impl_readLine.con]) impl_readLine.keep NN (fun _ => rfl) (fun x => impl_readLine.body NN x)
end
end Go.Ev.Try

namespace Go.Ev.Try
open Go.Proofs Go.Pl
set_option linter.unusedVariables false
noncomputable section
def impl_ReadPaper.st10 (v44 : List ByteArray) (v45 : Int) (v46 : Int) (v2a : ByteArray) (v2ba : Int) (p8a : ByteArray) (p8ba : Int) (w2 : List (ByteArray × Int)) (w3 : List (ByteArray × Int)) : St := ⟨[.gone, .gone, .ptr 0 [], .gone, .gone, .gone, .gone, .gone, .ptr 1 [], .gone, .gone, .gone, .gone, .gone, .gone, .gone, .gone, .gone, .gone, .gone, .gone, .gone, .gone, .gone, .gone, .gone, .gone, .gone, .gone, .gone, .gone, .gone, .gone, .gone, .gone, .gone, .gone, .gone, .gone, .gone, .gone, .gone, .gone, .gone, .dat (.sl 9 .str) v44, .dat (.int .i64) v45, .dat (.int .i64) v46, .gone, .gone, .gone, .gone, .gone, .gone, .gone, .gone, .gone, .gone, .gone, .gone, .gone, .gone, .gone, .gone, .gone, .gone, .gone, .gone, .gone, .gone, .gone], [.box 62 (.pair .str (.pair (.int .i64) (.sl 160 (.pair .str (.int .i64))))) (.pr (.dat .str v2a) (.pr (.dat (.int .i64) v2ba) (.ref 2))), .box 62 (.pair .str (.pair (.int .i64) (.sl 160 (.pair .str (.int .i64))))) (.pr (.dat .str p8a) (.pr (.dat (.int .i64) p8ba) (.ref 3))), .row 160 (.pair .str (.int .i64)) w2 none, .row 160 (.pair .str (.int .i64)) w3 none]⟩
def impl_ReadPaper.con : Con := { ps := [(.val, .str)], rs := [(.own, (.pair .str (.pair (.int .i64) (.sl 160 (.pair .str (.int .i64)))))), (.own, (.int .i64))], F := fun x => impl_ReadPaper.f x }
def impl_ReadPaper.cs : List (FuncId × Con) := [(64, impl_IsPaper.con), (171, impl_splitAt.con), (172, impl_readDecimal.con), (173, impl_readLine.con)]
def impl_ReadPaper.E : Env := envOf tab impl_ReadPaper.cs 0 false
def impl_ReadPaper.keep (i : Nat) : List Nat := if i = 10 then [2, 8, 44, 45, 46] else []
def impl_ReadPaper.at10 (n : Nat) (x : ByteArray) : Code × (Ex → St → Option (((ByteArray × Int × List (ByteArray × Int)) × Int))) := ctx impl_ReadPaper.E impl_ReadPaper.keep n [.snd, .snd, .snd, .snd, .snd, .snd, .snd, .fst, .snd, .blk] (codeOf Try.f61) (kEnd impl_ReadPaper.E Try.f61 impl_ReadPaper.con x)
def impl_ReadPaper.LN10 (n : Nat) (x : ByteArray) : Nat → St → Option (((ByteArray × Int × List (ByteArray × Int)) × Int)) := loopN (exec impl_ReadPaper.E impl_ReadPaper.keep n (bodyOf (impl_ReadPaper.at10 n x).1)) (St.norm 0 (impl_ReadPaper.keep 10)) (impl_ReadPaper.at10 n x).2
set_option maxRecDepth 100000 in
theorem impl_ReadPaper.lem10 (n : Nat) (x : ByteArray) : ∀ (k : Nat) (v44 : List ByteArray) (v45 : Int) (v46 : Int) (v2a : ByteArray) (v2ba : Int) (p8a : ByteArray) (p8ba : Int) (w2 : List (ByteArray × Int)) (w3 : List (ByteArray × Int)), impl_ReadPaper.LN10 n x k (impl_ReadPaper.st10 v44 v45 v46 v2a v2ba p8a p8ba w2 w3) = impl_ReadPaper.l10 n k v44 v45 v46 v2a v2ba p8a p8ba w2 w3 := by
  intro k
  induction k with
  | zero => intro v44 v45 v46 v2a v2ba p8a p8ba w2 w3; rfl
  | succ k ih =>
    intro v44 v45 v46 v2a v2ba p8a p8ba w2 w3
    have h : impl_ReadPaper.LN10 n x (k + 1) (impl_ReadPaper.st10 v44 v45 v46 v2a v2ba p8a p8ba w2 w3) = impl_ReadPaper.g10 (fun v44 v45 v46 v2a v2ba p8a p8ba w2 w3 => impl_ReadPaper.LN10 n x k (impl_ReadPaper.st10 v44 v45 v46 v2a v2ba p8a p8ba w2 w3)) v44 v45 v46 v2a v2ba p8a p8ba w2 w3 := by kernel_rfl
    rw [h]
    simp only [ih]
    rfl
set_option maxRecDepth 100000 in
theorem impl_ReadPaper.body (n : Nat) (x : ByteArray) : bodyF impl_ReadPaper.E impl_ReadPaper.keep n Try.f61 impl_ReadPaper.con x = impl_ReadPaper.fn n x := by
  have h : bodyF impl_ReadPaper.E impl_ReadPaper.keep n Try.f61 impl_ReadPaper.con x = impl_ReadPaper.top (fun v44 v45 v46 v2a v2ba p8a p8ba w2 w3 => impl_ReadPaper.LN10 n x n (impl_ReadPaper.st10 v44 v45 v46 v2a v2ba p8a p8ba w2 w3)) x := by kernel_rfl
  rw [h]
  simp only [impl_ReadPaper.lem10]
  rfl
set_option maxRecDepth 100000 in
theorem impl_ReadPaper.good : Good Try.prog 61 impl_ReadPaper.con :=
  good_of tabok (cs := impl_ReadPaper.cs) ⟨impl_IsPaper.good, impl_splitAt.good, impl_readDecimal.good, impl_readLine.good, trivial⟩ 0 false (fn := Try.f61) Try.func61 rfl (by decide) (by simp [impl_ReadPaper.con]) impl_ReadPaper.keep NN (fun _ => rfl) (fun x => impl_ReadPaper.body NN x)
end
end Go.Ev.Try

namespace Go.Ev.Try
open Go.Proofs Go.Pl
set_option linter.unusedVariables false
noncomputable section
def spec_l01Split.st4 (s0 : ByteArray) (by1 : Int) (from6 : Int) (i7 : Int) (out5 : List ByteArray) : St := ⟨[.dat .str s0, .dat (.int .u8) by1, .gone, .gone, .gone, .ref 0, .dat (.int .i64) from6, .dat (.int .i64) i7, .gone, .gone, .gone, .gone, .gone, .gone, .gone, .gone, .gone, .gone, .gone, .gone, .gone, .gone, .gone, .gone, .gone, .gone, .gone, .gone, .gone, .gone, .gone, .gone, .gone, .gone, .gone, .gone], [.row 9 .str out5 none]⟩
def spec_l01Split.con : Con := { ps := [(.val, .str), (.val, (.int .u8))], rs := [(.own, (.sl 9 .str))], F := fun x => spec_l01Split.f x.1 x.2 }
def spec_l01Split.cs : List (FuncId × Con) := []
def spec_l01Split.E : Env := envOf tab spec_l01Split.cs 0 false
def spec_l01Split.keep (i : Nat) : List Nat := if i = 4 then [0, 1, 5, 6, 7] else []
def spec_l01Split.at4 (n : Nat) (x : ByteArray × Int) : Code × (Ex → St → Option ((List ByteArray))) := ctx spec_l01Split.E spec_l01Split.keep n [.snd, .snd, .snd, .fst, .snd, .blk] (codeOf Try.f174) (kEnd spec_l01Split.E Try.f174 spec_l01Split.con x)
def spec_l01Split.LN4 (n : Nat) (x : ByteArray × Int) : Nat → St → Option ((List ByteArray)) := loopN (exec spec_l01Split.E spec_l01Split.keep n (bodyOf (spec_l01Split.at4 n x).1)) (St.norm 0 (spec_l01Split.keep 4)) (spec_l01Split.at4 n x).2
set_option maxRecDepth 100000 in
theorem spec_l01Split.lem4 (n : Nat) (x : ByteArray × Int) : ∀ (k : Nat) (s0 : ByteArray) (by1 : Int) (from6 : Int) (i7 : Int) (out5 : List ByteArray), spec_l01Split.LN4 n x k (spec_l01Split.st4 s0 by1 from6 i7 out5) = spec_l01Split.l4 n k s0 by1 from6 i7 out5 := by
  intro k
  induction k with
  | zero => intro s0 by1 from6 i7 out5; rfl
  | succ k ih =>
    intro s0 by1 from6 i7 out5
    have h : spec_l01Split.LN4 n x (k + 1) (spec_l01Split.st4 s0 by1 from6 i7 out5) = spec_l01Split.g4 (fun s0 by1 from6 i7 out5 => spec_l01Split.LN4 n x k (spec_l01Split.st4 s0 by1 from6 i7 out5)) s0 by1 from6 i7 out5 := by kernel_rfl
    rw [h]
    simp only [ih]
    rfl
set_option maxRecDepth 100000 in
theorem spec_l01Split.body (n : Nat) (x : ByteArray × Int) : bodyF spec_l01Split.E spec_l01Split.keep n Try.f174 spec_l01Split.con x = spec_l01Split.fn n x.1 x.2 := by
  have h : bodyF spec_l01Split.E spec_l01Split.keep n Try.f174 spec_l01Split.con x = spec_l01Split.top (fun s0 by1 from6 i7 out5 => spec_l01Split.LN4 n x n (spec_l01Split.st4 s0 by1 from6 i7 out5)) x.1 x.2 := by kernel_rfl
  rw [h]
  simp only [spec_l01Split.lem4]
  rfl
set_option maxRecDepth 100000 in
theorem spec_l01Split.good : Good Try.prog 174 spec_l01Split.con :=
  good_of tabok (cs := spec_l01Split.cs) trivial 0 false (fn := Try.f174) Try.func174 rfl (by decide) (by simp [spec_l01Split.con]) spec_l01Split.keep NN (fun _ => rfl) (fun x => spec_l01Split.body NN x)
end
end Go.Ev.Try

namespace Go.Ev.Try
open Go.Proofs Go.Pl
set_option linter.unusedVariables false
noncomputable section
def spec_l01Value.st5 (s0 : ByteArray) (n4 : Int) (i5 : Int) : St := ⟨[.dat .str s0, .gone, .gone, .gone, .dat (.int .i64) n4, .dat (.int .i64) i5, .gone, .gone, .gone, .gone, .gone, .gone, .gone, .gone, .gone, .gone, .gone, .gone, .gone, .gone, .gone, .gone, .gone, .gone, .gone, .gone, .gone, .gone, .gone, .gone, .gone, .gone, .gone, .gone, .gone, .gone, .gone, .gone, .gone, .gone, .gone, .gone, .gone], []⟩
def spec_l01Value.con : Con := { ps := [(.val, .str)], rs := [(.val, (.int .i64)), (.val, .bool)], F := fun x => spec_l01Value.f x }
def spec_l01Value.cs : List (FuncId × Con) := [(231, (spec_l01Dec.con (fun a0 => spec_l01Dec.f a0)))]
def spec_l01Value.E : Env := envOf tab spec_l01Value.cs 0 false
def spec_l01Value.keep (i : Nat) : List Nat := if i = 5 then [0, 4, 5] else []
def spec_l01Value.at5 (n : Nat) (x : ByteArray) : Code × (Ex → St → Option ((Int × Bool))) := ctx spec_l01Value.E spec_l01Value.keep n [.snd, .snd, .snd, .fst, .snd, .blk] (codeOf Try.f175) (kEnd spec_l01Value.E Try.f175 spec_l01Value.con x)
def spec_l01Value.LN5 (n : Nat) (x : ByteArray) : Nat → St → Option ((Int × Bool)) := loopN (exec spec_l01Value.E spec_l01Value.keep n (bodyOf (spec_l01Value.at5 n x).1)) (St.norm 0 (spec_l01Value.keep 5)) (spec_l01Value.at5 n x).2
set_option maxRecDepth 100000 in
theorem spec_l01Value.lem5 (n : Nat) (x : ByteArray) : ∀ (k : Nat) (s0 : ByteArray) (n4 : Int) (i5 : Int), spec_l01Value.LN5 n x k (spec_l01Value.st5 s0 n4 i5) = spec_l01Value.l5 n k s0 n4 i5 := by
  intro k
  induction k with
  | zero => intro s0 n4 i5; rfl
  | succ k ih =>
    intro s0 n4 i5
    have h : spec_l01Value.LN5 n x (k + 1) (spec_l01Value.st5 s0 n4 i5) = spec_l01Value.g5 (fun s0 n4 i5 => spec_l01Value.LN5 n x k (spec_l01Value.st5 s0 n4 i5)) s0 n4 i5 := by kernel_rfl
    rw [h]
    simp only [ih]
    rfl
set_option maxRecDepth 100000 in
theorem spec_l01Value.body (n : Nat) (x : ByteArray) : bodyF spec_l01Value.E spec_l01Value.keep n Try.f175 spec_l01Value.con x = spec_l01Value.fn n x := by
  have h : bodyF spec_l01Value.E spec_l01Value.keep n Try.f175 spec_l01Value.con x = spec_l01Value.top (fun s0 n4 i5 => spec_l01Value.LN5 n x n (spec_l01Value.st5 s0 n4 i5)) x := by kernel_rfl
  rw [h]
  simp only [spec_l01Value.lem5]
  rfl
set_option maxRecDepth 100000 in
theorem spec_l01Value.good : Good Try.prog 175 spec_l01Value.con :=
  good_of tabok (cs := spec_l01Value.cs) ⟨spec_l01Dec.good, trivial⟩ 0 false (fn := Try.f175) Try.func175 rfl (by decide) (by simp [spec_l01Value.con]) spec_l01Value.keep NN (fun _ => rfl) (fun x => spec_l01Value.body NN x)
end
end Go.Ev.Try

namespace Go.Ev.Try
open Go.Proofs Go.Pl
set_option linter.unusedVariables false
noncomputable section
def spec_l29Line.st2 (s0 : ByteArray) (at4 : Int) (v2a : ByteArray) (v2b : Int) : St := ⟨[.dat .str s0, .gone, .ptr 0 [], .gone, .dat (.int .i64) at4, .gone, .gone, .gone, .gone, .gone, .gone, .gone, .gone, .gone, .gone, .gone, .gone, .gone, .gone, .gone, .gone, .gone, .gone, .gone, .gone, .gone, .gone, .gone, .gone, .gone, .gone, .gone, .gone, .gone, .gone, .gone, .gone, .gone], [.box 160 (.pair .str (.int .i64)) (.pr (.dat .str v2a) (.dat (.int .i64) v2b))]⟩
def spec_l29Line.con : Con := { ps := [(.val, .str)], rs := [(.val, (.pair .str (.int .i64))), (.val, .bool)], F := fun x => spec_l29Line.f x }
def spec_l29Line.cs : List (FuncId × Con) := [(175, spec_l01Value.con)]
def spec_l29Line.E : Env := envOf tab spec_l29Line.cs 0 false
def spec_l29Line.keep (i : Nat) : List Nat := if i = 2 then [0, 2, 4] else []
def spec_l29Line.at2 (n : Nat) (x : ByteArray) : Code × (Ex → St → Option (((ByteArray × Int) × Bool))) := ctx spec_l29Line.E spec_l29Line.keep n [.snd, .snd, .fst, .blk] (codeOf Try.f176) (kEnd spec_l29Line.E Try.f176 spec_l29Line.con x)
def spec_l29Line.LN2 (n : Nat) (x : ByteArray) : Nat → St → Option (((ByteArray × Int) × Bool)) := loopN (exec spec_l29Line.E spec_l29Line.keep n (bodyOf (spec_l29Line.at2 n x).1)) (St.norm 0 (spec_l29Line.keep 2)) (spec_l29Line.at2 n x).2
set_option maxRecDepth 100000 in
theorem spec_l29Line.lem2 (n : Nat) (x : ByteArray) : ∀ (k : Nat) (s0 : ByteArray) (at4 : Int) (v2a : ByteArray) (v2b : Int), spec_l29Line.LN2 n x k (spec_l29Line.st2 s0 at4 v2a v2b) = spec_l29Line.l2 n k s0 at4 v2a v2b := by
  intro k
  induction k with
  | zero => intro s0 at4 v2a v2b; rfl
  | succ k ih =>
    intro s0 at4 v2a v2b
    have h : spec_l29Line.LN2 n x (k + 1) (spec_l29Line.st2 s0 at4 v2a v2b) = spec_l29Line.g2 (fun s0 at4 v2a v2b => spec_l29Line.LN2 n x k (spec_l29Line.st2 s0 at4 v2a v2b)) s0 at4 v2a v2b := by kernel_rfl
    rw [h]
    simp only [ih]
    rfl
set_option maxRecDepth 100000 in
theorem spec_l29Line.body (n : Nat) (x : ByteArray) : bodyF spec_l29Line.E spec_l29Line.keep n Try.f176 spec_l29Line.con x = spec_l29Line.fn n x := by
  have h : bodyF spec_l29Line.E spec_l29Line.keep n Try.f176 spec_l29Line.con x = spec_l29Line.top (fun s0 at4 v2a v2b => spec_l29Line.LN2 n x n (spec_l29Line.st2 s0 at4 v2a v2b)) x := by kernel_rfl
  rw [h]
  simp only [spec_l29Line.lem2]
  rfl
set_option maxRecDepth 100000 in
theorem spec_l29Line.good : Good Try.prog 176 spec_l29Line.con :=
  good_of tabok (cs := spec_l29Line.cs) ⟨spec_l01Value.good, trivial⟩ 0 false (fn := Try.f176) Try.func176 rfl (by decide) (by simp [spec_l29Line.con]) spec_l29Line.keep NN (fun _ => rfl) (fun x => spec_l29Line.body NN x)
end
end Go.Ev.Try

namespace Go.Ev.Try
open Go.Proofs Go.Pl
set_option linter.unusedVariables false
noncomputable section
def spec_ReadPaper.st8 (ok7 : Bool) (i9 : Int) (v2a : ByteArray) (v2ba : Int) (parts4 : List ByteArray) (p8a : ByteArray) (p8ba : Int) (w3 : List (ByteArray × Int)) (w4 : List (ByteArray × Int)) : St := ⟨[.gone, .gone, .ptr 0 [], .gone, .ref 1, .gone, .gone, .dat .bool ok7, .ptr 2 [], .dat (.int .i64) i9, .gone, .gone, .gone, .gone, .gone, .gone, .gone, .gone, .gone, .gone, .gone, .gone, .gone, .gone, .gone, .gone, .gone, .gone, .gone, .gone, .gone, .gone, .gone, .gone, .gone, .gone, .gone, .gone, .gone, .gone, .gone, .gone, .gone, .gone, .gone, .gone, .gone, .gone, .gone, .gone, .gone, .gone, .gone, .gone, .gone, .gone, .gone, .gone, .gone, .gone, .gone, .gone, .gone, .gone, .gone, .gone, .gone, .gone], [.box 62 (.pair .str (.pair (.int .i64) (.sl 160 (.pair .str (.int .i64))))) (.pr (.dat .str v2a) (.pr (.dat (.int .i64) v2ba) (.ref 3))), .row 9 .str parts4 none, .box 62 (.pair .str (.pair (.int .i64) (.sl 160 (.pair .str (.int .i64))))) (.pr (.dat .str p8a) (.pr (.dat (.int .i64) p8ba) (.ref 4))), .row 160 (.pair .str (.int .i64)) w3 none, .row 160 (.pair .str (.int .i64)) w4 none]⟩
def spec_ReadPaper.con : Con := { ps := [(.val, .str)], rs := [(.own, (.pair .str (.pair (.int .i64) (.sl 160 (.pair .str (.int .i64)))))), (.own, (.int .i64))], F := fun x => spec_ReadPaper.f x }
def spec_ReadPaper.cs : List (FuncId × Con) := [(130, spec_IsPaper.con), (174, spec_l01Split.con), (175, spec_l01Value.con), (176, spec_l29Line.con)]
def spec_ReadPaper.E : Env := envOf tab spec_ReadPaper.cs 0 false
def spec_ReadPaper.keep (i : Nat) : List Nat := if i = 8 then [2, 4, 7, 8, 9] else []
def spec_ReadPaper.at8 (n : Nat) (x : ByteArray) : Code × (Ex → St → Option (((ByteArray × Int × List (ByteArray × Int)) × Int))) := ctx spec_ReadPaper.E spec_ReadPaper.keep n [.snd, .snd, .snd, .snd, .snd, .snd, .fst, .snd, .blk] (codeOf Try.f62) (kEnd spec_ReadPaper.E Try.f62 spec_ReadPaper.con x)
def spec_ReadPaper.LN8 (n : Nat) (x : ByteArray) : Nat → St → Option (((ByteArray × Int × List (ByteArray × Int)) × Int)) := loopN (exec spec_ReadPaper.E spec_ReadPaper.keep n (bodyOf (spec_ReadPaper.at8 n x).1)) (St.norm 0 (spec_ReadPaper.keep 8)) (spec_ReadPaper.at8 n x).2
set_option maxRecDepth 100000 in
theorem spec_ReadPaper.lem8 (n : Nat) (x : ByteArray) : ∀ (k : Nat) (ok7 : Bool) (i9 : Int) (v2a : ByteArray) (v2ba : Int) (parts4 : List ByteArray) (p8a : ByteArray) (p8ba : Int) (w3 : List (ByteArray × Int)) (w4 : List (ByteArray × Int)), spec_ReadPaper.LN8 n x k (spec_ReadPaper.st8 ok7 i9 v2a v2ba parts4 p8a p8ba w3 w4) = spec_ReadPaper.l8 n k ok7 i9 v2a v2ba parts4 p8a p8ba w3 w4 := by
  intro k
  induction k with
  | zero => intro ok7 i9 v2a v2ba parts4 p8a p8ba w3 w4; rfl
  | succ k ih =>
    intro ok7 i9 v2a v2ba parts4 p8a p8ba w3 w4
    have h : spec_ReadPaper.LN8 n x (k + 1) (spec_ReadPaper.st8 ok7 i9 v2a v2ba parts4 p8a p8ba w3 w4) = spec_ReadPaper.g8 (fun ok7 i9 v2a v2ba parts4 p8a p8ba w3 w4 => spec_ReadPaper.LN8 n x k (spec_ReadPaper.st8 ok7 i9 v2a v2ba parts4 p8a p8ba w3 w4)) ok7 i9 v2a v2ba parts4 p8a p8ba w3 w4 := by kernel_rfl
    rw [h]
    simp only [ih]
    rfl
set_option maxRecDepth 100000 in
theorem spec_ReadPaper.body (n : Nat) (x : ByteArray) : bodyF spec_ReadPaper.E spec_ReadPaper.keep n Try.f62 spec_ReadPaper.con x = spec_ReadPaper.fn n x := by
  have h : bodyF spec_ReadPaper.E spec_ReadPaper.keep n Try.f62 spec_ReadPaper.con x = spec_ReadPaper.top (fun ok7 i9 v2a v2ba parts4 p8a p8ba w3 w4 => spec_ReadPaper.LN8 n x n (spec_ReadPaper.st8 ok7 i9 v2a v2ba parts4 p8a p8ba w3 w4)) x := by kernel_rfl
  rw [h]
  simp only [spec_ReadPaper.lem8]
  rfl
set_option maxRecDepth 100000 in
theorem spec_ReadPaper.good : Good Try.prog 62 spec_ReadPaper.con :=
  good_of tabok (cs := spec_ReadPaper.cs) ⟨spec_IsPaper.good, spec_l01Split.good, spec_l01Value.good, spec_l29Line.good, trivial⟩ 0 false (fn := Try.f62) Try.func62 rfl (by decide) (by simp [spec_ReadPaper.con]) spec_ReadPaper.keep NN (fun _ => rfl) (fun x => spec_ReadPaper.body NN x)
end
end Go.Ev.Try

namespace Go.Ev.Try
open Go.Proofs Go.Pl
set_option linter.unusedVariables false
noncomputable section
def laws_likeLines.st4 (a0 : List (ByteArray × Int)) (b1 : List (ByteArray × Int)) (i5 : Int) : St := ⟨[.dat (.sl 160 (.pair .str (.int .i64))) a0, .dat (.sl 160 (.pair .str (.int .i64))) b1, .gone, .gone, .gone, .dat (.int .i64) i5, .gone, .gone, .gone, .gone, .gone, .gone, .gone, .gone, .gone, .gone, .gone, .gone, .gone, .gone, .gone, .gone, .gone, .gone, .gone, .gone], []⟩
def laws_likeLines.con : Con := { ps := [(.val, (.sl 160 (.pair .str (.int .i64)))), (.val, (.sl 160 (.pair .str (.int .i64))))], rs := [(.val, .bool)], F := fun x => laws_likeLines.f x.1 x.2 }
def laws_likeLines.cs : List (FuncId × Con) := []
def laws_likeLines.E : Env := envOf tab laws_likeLines.cs 0 false
def laws_likeLines.keep (i : Nat) : List Nat := if i = 4 then [0, 1, 5] else []
def laws_likeLines.at4 (n : Nat) (x : (List (ByteArray × Int)) × List (ByteArray × Int)) : Code × (Ex → St → Option (Bool)) := ctx laws_likeLines.E laws_likeLines.keep n [.snd, .snd, .fst, .snd, .blk] (codeOf Try.f177) (kEnd laws_likeLines.E Try.f177 laws_likeLines.con x)
def laws_likeLines.LN4 (n : Nat) (x : (List (ByteArray × Int)) × List (ByteArray × Int)) : Nat → St → Option (Bool) := loopN (exec laws_likeLines.E laws_likeLines.keep n (bodyOf (laws_likeLines.at4 n x).1)) (St.norm 0 (laws_likeLines.keep 4)) (laws_likeLines.at4 n x).2
set_option maxRecDepth 100000 in
theorem laws_likeLines.lem4 (n : Nat) (x : (List (ByteArray × Int)) × List (ByteArray × Int)) : ∀ (k : Nat) (a0 : List (ByteArray × Int)) (b1 : List (ByteArray × Int)) (i5 : Int), laws_likeLines.LN4 n x k (laws_likeLines.st4 a0 b1 i5) = laws_likeLines.l4 n k a0 b1 i5 := by
  intro k
  induction k with
  | zero => intro a0 b1 i5; rfl
  | succ k ih =>
    intro a0 b1 i5
    have h : laws_likeLines.LN4 n x (k + 1) (laws_likeLines.st4 a0 b1 i5) = laws_likeLines.g4 (fun a0 b1 i5 => laws_likeLines.LN4 n x k (laws_likeLines.st4 a0 b1 i5)) a0 b1 i5 := by kernel_rfl
    rw [h]
    simp only [ih]
    rfl
set_option maxRecDepth 100000 in
theorem laws_likeLines.body (n : Nat) (x : (List (ByteArray × Int)) × List (ByteArray × Int)) : bodyF laws_likeLines.E laws_likeLines.keep n Try.f177 laws_likeLines.con x = laws_likeLines.fn n x.1 x.2 := by
  have h : bodyF laws_likeLines.E laws_likeLines.keep n Try.f177 laws_likeLines.con x = laws_likeLines.top (fun a0 b1 i5 => laws_likeLines.LN4 n x n (laws_likeLines.st4 a0 b1 i5)) x.1 x.2 := by kernel_rfl
  rw [h]
  simp only [laws_likeLines.lem4]
  rfl
set_option maxRecDepth 100000 in
theorem laws_likeLines.good : Good Try.prog 177 laws_likeLines.con :=
  good_of tabok (cs := laws_likeLines.cs) trivial 0 false (fn := Try.f177) Try.func177 rfl (by decide) (by simp [laws_likeLines.con]) laws_likeLines.keep NN (fun _ => rfl) (fun x => laws_likeLines.body NN x)
end
end Go.Ev.Try

namespace Go.Ev.Try
open Go.Proofs Go.Pl
set_option linter.unusedVariables false
noncomputable section
def laws_likePaper.con : Con := { ps := [(.val, (.pair .str (.pair (.int .i64) (.sl 160 (.pair .str (.int .i64)))))), (.val, (.pair .str (.pair (.int .i64) (.sl 160 (.pair .str (.int .i64))))))], rs := [(.val, .bool)], F := fun x => laws_likePaper.f x.1 x.2 }
def laws_likePaper.cs : List (FuncId × Con) := [(177, laws_likeLines.con)]
def laws_likePaper.E : Env := envOf tab laws_likePaper.cs 0 false
def laws_likePaper.keep (i : Nat) : List Nat := []
set_option maxRecDepth 100000 in
theorem laws_likePaper.body (n : Nat) (x : (ByteArray × Int × List (ByteArray × Int)) × ByteArray × Int × List (ByteArray × Int)) : bodyF laws_likePaper.E laws_likePaper.keep n Try.f63 laws_likePaper.con x = laws_likePaper.fn n x.1 x.2 := by
  have h : bodyF laws_likePaper.E laws_likePaper.keep n Try.f63 laws_likePaper.con x = laws_likePaper.top x.1 x.2 := by kernel_rfl
  exact h
set_option maxRecDepth 100000 in
theorem laws_likePaper.good : Good Try.prog 63 laws_likePaper.con :=
  good_of tabok (cs := laws_likePaper.cs) ⟨laws_likeLines.good, trivial⟩ 0 false (fn := Try.f63) Try.func63 rfl (by decide) (by simp [laws_likePaper.con]) laws_likePaper.keep NN (fun _ => rfl) (fun x => laws_likePaper.body NN x)
end
end Go.Ev.Try
