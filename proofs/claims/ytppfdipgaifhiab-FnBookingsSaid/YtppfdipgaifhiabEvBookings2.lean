/- Part 2 of what the law FnBookings stands on: an evaluator of the model's code, proved sound; the functions as plain texts; their contracts. -/
import Derived.Test.YtppfdipgaifhiabChecked
import Derived.Test.YtppfdipgaifhiabProg
import Derived.Test.YtppfdipgaifhiabRows
import Derived.Below
import Derived.Calls
import Derived.Carry
import Derived.ChangeArms
import Derived.ChangeKeysEq
import Derived.ChangeOld
import Derived.Deep.Quiet
import Derived.KernelRfl
import Derived.Laws.Append
import Derived.Laws.BytesString
import Derived.Laws.MakeOwn
import Derived.Laws.Strings
import Derived.Laws.StructEq
import Derived.OpenShut
import Derived.OrdersHeld
import Derived.ProofKit
import Derived.ShutString
import Derived.SizedLaws
import Derived.Tactics
import Derived.WalkKit
import Derived.WideShapes
import Derived.Test.YtppfdipgaifhiabEvBookings1
namespace Go.Ev.Try
open Go.Proofs Go.Pl
set_option linter.unusedVariables false
noncomputable section
def spec_l32Good.st4 (n5 : Int) (s0 : List Int × Int × Int) (out3 : List (Int × ByteArray × Int)) (names4 : List ByteArray) : St := ⟨[.ptr 0 [], .gone, .gone, .ref 1, .ref 2, .dat (.int .i64) n5, .gone, .gone, .gone, .gone, .gone, .gone, .gone, .gone, .gone, .gone, .gone, .gone, .gone, .gone, .gone, .gone, .gone, .gone, .gone, .gone, .gone, .gone, .gone, .gone, .gone, .gone, .gone, .gone, .gone, .gone, .gone, .gone, .gone, .gone, .gone, .gone, .gone, .gone, .gone, .gone, .gone, .gone, .gone, .gone, .gone, .gone, .gone, .gone, .gone, .gone, .gone, .gone, .gone, .gone, .gone, .gone, .gone], [.box 163 (.pair (.sl 5 (.int .u8)) (.pair (.int .i64) (.int .i64))) (.dat (.pair (.sl 5 (.int .u8)) (.pair (.int .i64) (.int .i64))) s0), .row 43 (.pair (.int .i64) (.pair .str (.int .i64))) out3 none, .row 9 .str names4 none]⟩
def spec_l32Good.g4raw (L4 : Int → (List Int × Int × Int) → (List (Int × ByteArray × Int)) → List ByteArray → Option ((List (Int × ByteArray × Int)) × List Int × Int × Int)) (n5 : Int) (s0 : List Int × Int × Int) (out3 : List (Int × ByteArray × Int)) (names4 : List ByteArray) : Option ((List (Int × ByteArray × Int)) × List Int × Int × Int) :=
  if (decide ((0 : Int) < n5)) = true then
    agree (
      (spec_l01Next.f s0 4).bind fun r3 =>
      agree (
        (spec_l01Next.f r3.2 4).bind fun r4 =>
        if (0 : Int) ≤ r4.1 ∧ (r4.1 : Int) < names4.length then
          agree (
            agree (
              (spec_l01Next.f r4.2 12).bind fun r5 =>
              (spec_l32Left.f out3 (names4.getD (r4.1 : Int).toNat ByteArray.empty) (out3.length : Int)).bind fun r6 =>
              if (decide ((0 : Int) < r3.1)) = true then
                if (decide ((0 : Int) < r6)) = true then
                  (spec_l01Next.f r5.2 2).bind fun r7 =>
                  if ((r7.1 : Int) == 0) = true then
                    if ((r6 : Int) == 0) = true then
                      (spec_BookPieces.f out3 (0, (names4.getD (r4.1 : Int).toNat ByteArray.empty, (if r6 < 1000 then r6 else 1000)))).bind fun r8 =>
                      if ((r8.2 : Int) == 0) = true then
                        L4 (IntKind.i64.wrap (n5 - 1)) r7.2 r8.1 names4
                      else
                        L4 (IntKind.i64.wrap (n5 - 1)) r7.2 out3 names4
                    else
                      (spec_BookPieces.f out3 (r3.1, (names4.getD (r4.1 : Int).toNat ByteArray.empty, (if r6 < 1000 then r6 else 1000)))).bind fun r9 =>
                      if ((r9.2 : Int) == 0) = true then
                        L4 (IntKind.i64.wrap (n5 - 1)) r7.2 r9.1 names4
                      else
                        L4 (IntKind.i64.wrap (n5 - 1)) r7.2 out3 names4
                  else if ((r6 : Int) == 0) = true then
                    (spec_BookPieces.f out3 (0, (names4.getD (r4.1 : Int).toNat ByteArray.empty, IntKind.i64.wrap (1 + r5.1)))).bind fun r10 =>
                    if ((r10.2 : Int) == 0) = true then
                      L4 (IntKind.i64.wrap (n5 - 1)) r7.2 r10.1 names4
                    else
                      L4 (IntKind.i64.wrap (n5 - 1)) r7.2 out3 names4
                  else
                    (spec_BookPieces.f out3 (r3.1, (names4.getD (r4.1 : Int).toNat ByteArray.empty, IntKind.i64.wrap (1 + r5.1)))).bind fun r11 =>
                    if ((r11.2 : Int) == 0) = true then
                      L4 (IntKind.i64.wrap (n5 - 1)) r7.2 r11.1 names4
                    else
                      L4 (IntKind.i64.wrap (n5 - 1)) r7.2 out3 names4
                else if ((r6 : Int) == 0) = true then
                  (spec_BookPieces.f out3 (0, (names4.getD (r4.1 : Int).toNat ByteArray.empty, IntKind.i64.wrap (1 + r5.1)))).bind fun r12 =>
                  if ((r12.2 : Int) == 0) = true then
                    L4 (IntKind.i64.wrap (n5 - 1)) r5.2 r12.1 names4
                  else
                    L4 (IntKind.i64.wrap (n5 - 1)) r5.2 out3 names4
                else
                  (spec_BookPieces.f out3 (r3.1, (names4.getD (r4.1 : Int).toNat ByteArray.empty, IntKind.i64.wrap (1 + r5.1)))).bind fun r13 =>
                  if ((r13.2 : Int) == 0) = true then
                    L4 (IntKind.i64.wrap (n5 - 1)) r5.2 r13.1 names4
                  else
                    L4 (IntKind.i64.wrap (n5 - 1)) r5.2 out3 names4
              else if ((r6 : Int) == 0) = true then
                (spec_BookPieces.f out3 (0, (names4.getD (r4.1 : Int).toNat ByteArray.empty, IntKind.i64.wrap (1 + r5.1)))).bind fun r14 =>
                if ((r14.2 : Int) == 0) = true then
                  L4 (IntKind.i64.wrap (n5 - 1)) r5.2 r14.1 names4
                else
                  L4 (IntKind.i64.wrap (n5 - 1)) r5.2 out3 names4
              else
                (spec_BookPieces.f out3 (r3.1, (names4.getD (r4.1 : Int).toNat ByteArray.empty, IntKind.i64.wrap (1 + r5.1)))).bind fun r15 =>
                if ((r15.2 : Int) == 0) = true then
                  L4 (IntKind.i64.wrap (n5 - 1)) r5.2 r15.1 names4
                else
                  L4 (IntKind.i64.wrap (n5 - 1)) r5.2 out3 names4
            ) (
              (spec_l01Next.f r4.2 12).bind fun r5 =>
              (spec_l32Left.f out3 (names4.getD (r4.1 : Int).toNat ByteArray.empty) (out3.length : Int)).bind fun r6 =>
              if (decide ((0 : Int) < r3.1)) = true then
                if (decide ((0 : Int) < r6)) = true then
                  (spec_l01Next.f r5.2 2).bind fun r7 =>
                  if ((r7.1 : Int) == 0) = true then
                    if ((r6 : Int) == 0) = true then
                      (spec_BookPieces.f out3 (0, (names4.getD (r4.1 : Int).toNat ByteArray.empty, (if r6 < 1000 then r6 else 1000)))).bind fun r8 =>
                      if ((r8.2 : Int) == 0) = true then
                        L4 (IntKind.i64.wrap (n5 - 1)) r7.2 r8.1 names4
                      else
                        L4 (IntKind.i64.wrap (n5 - 1)) r7.2 out3 names4
                    else
                      (spec_BookPieces.f out3 (r3.1, (names4.getD (r4.1 : Int).toNat ByteArray.empty, (if r6 < 1000 then r6 else 1000)))).bind fun r9 =>
                      if ((r9.2 : Int) == 0) = true then
                        L4 (IntKind.i64.wrap (n5 - 1)) r7.2 r9.1 names4
                      else
                        L4 (IntKind.i64.wrap (n5 - 1)) r7.2 out3 names4
                  else if ((r6 : Int) == 0) = true then
                    (spec_BookPieces.f out3 (0, (names4.getD (r4.1 : Int).toNat ByteArray.empty, IntKind.i64.wrap (1 + r5.1)))).bind fun r10 =>
                    if ((r10.2 : Int) == 0) = true then
                      L4 (IntKind.i64.wrap (n5 - 1)) r7.2 r10.1 names4
                    else
                      L4 (IntKind.i64.wrap (n5 - 1)) r7.2 out3 names4
                  else
                    (spec_BookPieces.f out3 (r3.1, (names4.getD (r4.1 : Int).toNat ByteArray.empty, IntKind.i64.wrap (1 + r5.1)))).bind fun r11 =>
                    if ((r11.2 : Int) == 0) = true then
                      L4 (IntKind.i64.wrap (n5 - 1)) r7.2 r11.1 names4
                    else
                      L4 (IntKind.i64.wrap (n5 - 1)) r7.2 out3 names4
                else if ((r6 : Int) == 0) = true then
                  (spec_BookPieces.f out3 (0, (names4.getD (r4.1 : Int).toNat ByteArray.empty, IntKind.i64.wrap (1 + r5.1)))).bind fun r12 =>
                  if ((r12.2 : Int) == 0) = true then
                    L4 (IntKind.i64.wrap (n5 - 1)) r5.2 r12.1 names4
                  else
                    L4 (IntKind.i64.wrap (n5 - 1)) r5.2 out3 names4
                else
                  (spec_BookPieces.f out3 (r3.1, (names4.getD (r4.1 : Int).toNat ByteArray.empty, IntKind.i64.wrap (1 + r5.1)))).bind fun r13 =>
                  if ((r13.2 : Int) == 0) = true then
                    L4 (IntKind.i64.wrap (n5 - 1)) r5.2 r13.1 names4
                  else
                    L4 (IntKind.i64.wrap (n5 - 1)) r5.2 out3 names4
              else if ((r6 : Int) == 0) = true then
                (spec_BookPieces.f out3 (0, (names4.getD (r4.1 : Int).toNat ByteArray.empty, IntKind.i64.wrap (1 + r5.1)))).bind fun r14 =>
                if ((r14.2 : Int) == 0) = true then
                  L4 (IntKind.i64.wrap (n5 - 1)) r5.2 r14.1 names4
                else
                  L4 (IntKind.i64.wrap (n5 - 1)) r5.2 out3 names4
              else
                (spec_BookPieces.f out3 (r3.1, (names4.getD (r4.1 : Int).toNat ByteArray.empty, IntKind.i64.wrap (1 + r5.1)))).bind fun r15 =>
                if ((r15.2 : Int) == 0) = true then
                  L4 (IntKind.i64.wrap (n5 - 1)) r5.2 r15.1 names4
                else
                  L4 (IntKind.i64.wrap (n5 - 1)) r5.2 out3 names4
            )
          ) (
            agree (
              (spec_l01Next.f r4.2 12).bind fun r5 =>
              (spec_l32Left.f out3 (names4.getD (r4.1 : Int).toNat ByteArray.empty) (out3.length : Int)).bind fun r6 =>
              if (decide ((0 : Int) < r3.1)) = true then
                if (decide ((0 : Int) < r6)) = true then
                  (spec_l01Next.f r5.2 2).bind fun r7 =>
                  if ((r7.1 : Int) == 0) = true then
                    if ((r6 : Int) == 0) = true then
                      (spec_BookPieces.f out3 (0, (names4.getD (r4.1 : Int).toNat ByteArray.empty, (if r6 < 1000 then r6 else 1000)))).bind fun r8 =>
                      if ((r8.2 : Int) == 0) = true then
                        L4 (IntKind.i64.wrap (n5 - 1)) r7.2 r8.1 names4
                      else
                        L4 (IntKind.i64.wrap (n5 - 1)) r7.2 out3 names4
                    else
                      (spec_BookPieces.f out3 (r3.1, (names4.getD (r4.1 : Int).toNat ByteArray.empty, (if r6 < 1000 then r6 else 1000)))).bind fun r9 =>
                      if ((r9.2 : Int) == 0) = true then
                        L4 (IntKind.i64.wrap (n5 - 1)) r7.2 r9.1 names4
                      else
                        L4 (IntKind.i64.wrap (n5 - 1)) r7.2 out3 names4
                  else if ((r6 : Int) == 0) = true then
                    (spec_BookPieces.f out3 (0, (names4.getD (r4.1 : Int).toNat ByteArray.empty, IntKind.i64.wrap (1 + r5.1)))).bind fun r10 =>
                    if ((r10.2 : Int) == 0) = true then
                      L4 (IntKind.i64.wrap (n5 - 1)) r7.2 r10.1 names4
                    else
                      L4 (IntKind.i64.wrap (n5 - 1)) r7.2 out3 names4
                  else
                    (spec_BookPieces.f out3 (r3.1, (names4.getD (r4.1 : Int).toNat ByteArray.empty, IntKind.i64.wrap (1 + r5.1)))).bind fun r11 =>
                    if ((r11.2 : Int) == 0) = true then
                      L4 (IntKind.i64.wrap (n5 - 1)) r7.2 r11.1 names4
                    else
                      L4 (IntKind.i64.wrap (n5 - 1)) r7.2 out3 names4
                else if ((r6 : Int) == 0) = true then
                  (spec_BookPieces.f out3 (0, (names4.getD (r4.1 : Int).toNat ByteArray.empty, IntKind.i64.wrap (1 + r5.1)))).bind fun r12 =>
                  if ((r12.2 : Int) == 0) = true then
                    L4 (IntKind.i64.wrap (n5 - 1)) r5.2 r12.1 names4
                  else
                    L4 (IntKind.i64.wrap (n5 - 1)) r5.2 out3 names4
                else
                  (spec_BookPieces.f out3 (r3.1, (names4.getD (r4.1 : Int).toNat ByteArray.empty, IntKind.i64.wrap (1 + r5.1)))).bind fun r13 =>
                  if ((r13.2 : Int) == 0) = true then
                    L4 (IntKind.i64.wrap (n5 - 1)) r5.2 r13.1 names4
                  else
                    L4 (IntKind.i64.wrap (n5 - 1)) r5.2 out3 names4
              else if ((r6 : Int) == 0) = true then
                (spec_BookPieces.f out3 (0, (names4.getD (r4.1 : Int).toNat ByteArray.empty, IntKind.i64.wrap (1 + r5.1)))).bind fun r14 =>
                if ((r14.2 : Int) == 0) = true then
                  L4 (IntKind.i64.wrap (n5 - 1)) r5.2 r14.1 names4
                else
                  L4 (IntKind.i64.wrap (n5 - 1)) r5.2 out3 names4
              else
                (spec_BookPieces.f out3 (r3.1, (names4.getD (r4.1 : Int).toNat ByteArray.empty, IntKind.i64.wrap (1 + r5.1)))).bind fun r15 =>
                if ((r15.2 : Int) == 0) = true then
                  L4 (IntKind.i64.wrap (n5 - 1)) r5.2 r15.1 names4
                else
                  L4 (IntKind.i64.wrap (n5 - 1)) r5.2 out3 names4
            ) (
              agree (
                (spec_l01Next.f r4.2 12).bind fun r5 =>
                (spec_l32Left.f out3 (names4.getD (r4.1 : Int).toNat ByteArray.empty) (out3.length : Int)).bind fun r6 =>
                if (decide ((0 : Int) < r3.1)) = true then
                  if (decide ((0 : Int) < r6)) = true then
                    (spec_l01Next.f r5.2 2).bind fun r7 =>
                    if ((r7.1 : Int) == 0) = true then
                      if ((r6 : Int) == 0) = true then
                        (spec_BookPieces.f out3 (0, (names4.getD (r4.1 : Int).toNat ByteArray.empty, (if r6 < 1000 then r6 else 1000)))).bind fun r8 =>
                        if ((r8.2 : Int) == 0) = true then
                          L4 (IntKind.i64.wrap (n5 - 1)) r7.2 r8.1 names4
                        else
                          L4 (IntKind.i64.wrap (n5 - 1)) r7.2 out3 names4
                      else
                        (spec_BookPieces.f out3 (r3.1, (names4.getD (r4.1 : Int).toNat ByteArray.empty, (if r6 < 1000 then r6 else 1000)))).bind fun r9 =>
                        if ((r9.2 : Int) == 0) = true then
                          L4 (IntKind.i64.wrap (n5 - 1)) r7.2 r9.1 names4
                        else
                          L4 (IntKind.i64.wrap (n5 - 1)) r7.2 out3 names4
                    else if ((r6 : Int) == 0) = true then
                      (spec_BookPieces.f out3 (0, (names4.getD (r4.1 : Int).toNat ByteArray.empty, IntKind.i64.wrap (1 + r5.1)))).bind fun r10 =>
                      if ((r10.2 : Int) == 0) = true then
                        L4 (IntKind.i64.wrap (n5 - 1)) r7.2 r10.1 names4
                      else
                        L4 (IntKind.i64.wrap (n5 - 1)) r7.2 out3 names4
                    else
                      (spec_BookPieces.f out3 (r3.1, (names4.getD (r4.1 : Int).toNat ByteArray.empty, IntKind.i64.wrap (1 + r5.1)))).bind fun r11 =>
                      if ((r11.2 : Int) == 0) = true then
                        L4 (IntKind.i64.wrap (n5 - 1)) r7.2 r11.1 names4
                      else
                        L4 (IntKind.i64.wrap (n5 - 1)) r7.2 out3 names4
                  else if ((r6 : Int) == 0) = true then
                    (spec_BookPieces.f out3 (0, (names4.getD (r4.1 : Int).toNat ByteArray.empty, IntKind.i64.wrap (1 + r5.1)))).bind fun r12 =>
                    if ((r12.2 : Int) == 0) = true then
                      L4 (IntKind.i64.wrap (n5 - 1)) r5.2 r12.1 names4
                    else
                      L4 (IntKind.i64.wrap (n5 - 1)) r5.2 out3 names4
                  else
                    (spec_BookPieces.f out3 (r3.1, (names4.getD (r4.1 : Int).toNat ByteArray.empty, IntKind.i64.wrap (1 + r5.1)))).bind fun r13 =>
                    if ((r13.2 : Int) == 0) = true then
                      L4 (IntKind.i64.wrap (n5 - 1)) r5.2 r13.1 names4
                    else
                      L4 (IntKind.i64.wrap (n5 - 1)) r5.2 out3 names4
                else if ((r6 : Int) == 0) = true then
                  (spec_BookPieces.f out3 (0, (names4.getD (r4.1 : Int).toNat ByteArray.empty, IntKind.i64.wrap (1 + r5.1)))).bind fun r14 =>
                  if ((r14.2 : Int) == 0) = true then
                    L4 (IntKind.i64.wrap (n5 - 1)) r5.2 r14.1 names4
                  else
                    L4 (IntKind.i64.wrap (n5 - 1)) r5.2 out3 names4
                else
                  (spec_BookPieces.f out3 (r3.1, (names4.getD (r4.1 : Int).toNat ByteArray.empty, IntKind.i64.wrap (1 + r5.1)))).bind fun r15 =>
                  if ((r15.2 : Int) == 0) = true then
                    L4 (IntKind.i64.wrap (n5 - 1)) r5.2 r15.1 names4
                  else
                    L4 (IntKind.i64.wrap (n5 - 1)) r5.2 out3 names4
              ) (
                (spec_l01Next.f r4.2 12).bind fun r5 =>
                (spec_l32Left.f out3 (names4.getD (r4.1 : Int).toNat ByteArray.empty) (out3.length : Int)).bind fun r6 =>
                if (decide ((0 : Int) < r3.1)) = true then
                  if (decide ((0 : Int) < r6)) = true then
                    (spec_l01Next.f r5.2 2).bind fun r7 =>
                    if ((r7.1 : Int) == 0) = true then
                      if ((r6 : Int) == 0) = true then
                        (spec_BookPieces.f out3 (0, (names4.getD (r4.1 : Int).toNat ByteArray.empty, (if r6 < 1000 then r6 else 1000)))).bind fun r8 =>
                        if ((r8.2 : Int) == 0) = true then
                          L4 (IntKind.i64.wrap (n5 - 1)) r7.2 r8.1 names4
                        else
                          L4 (IntKind.i64.wrap (n5 - 1)) r7.2 out3 names4
                      else
                        (spec_BookPieces.f out3 (r3.1, (names4.getD (r4.1 : Int).toNat ByteArray.empty, (if r6 < 1000 then r6 else 1000)))).bind fun r9 =>
                        if ((r9.2 : Int) == 0) = true then
                          L4 (IntKind.i64.wrap (n5 - 1)) r7.2 r9.1 names4
                        else
                          L4 (IntKind.i64.wrap (n5 - 1)) r7.2 out3 names4
                    else if ((r6 : Int) == 0) = true then
                      (spec_BookPieces.f out3 (0, (names4.getD (r4.1 : Int).toNat ByteArray.empty, IntKind.i64.wrap (1 + r5.1)))).bind fun r10 =>
                      if ((r10.2 : Int) == 0) = true then
                        L4 (IntKind.i64.wrap (n5 - 1)) r7.2 r10.1 names4
                      else
                        L4 (IntKind.i64.wrap (n5 - 1)) r7.2 out3 names4
                    else
                      (spec_BookPieces.f out3 (r3.1, (names4.getD (r4.1 : Int).toNat ByteArray.empty, IntKind.i64.wrap (1 + r5.1)))).bind fun r11 =>
                      if ((r11.2 : Int) == 0) = true then
                        L4 (IntKind.i64.wrap (n5 - 1)) r7.2 r11.1 names4
                      else
                        L4 (IntKind.i64.wrap (n5 - 1)) r7.2 out3 names4
                  else if ((r6 : Int) == 0) = true then
                    (spec_BookPieces.f out3 (0, (names4.getD (r4.1 : Int).toNat ByteArray.empty, IntKind.i64.wrap (1 + r5.1)))).bind fun r12 =>
                    if ((r12.2 : Int) == 0) = true then
                      L4 (IntKind.i64.wrap (n5 - 1)) r5.2 r12.1 names4
                    else
                      L4 (IntKind.i64.wrap (n5 - 1)) r5.2 out3 names4
                  else
                    (spec_BookPieces.f out3 (r3.1, (names4.getD (r4.1 : Int).toNat ByteArray.empty, IntKind.i64.wrap (1 + r5.1)))).bind fun r13 =>
                    if ((r13.2 : Int) == 0) = true then
                      L4 (IntKind.i64.wrap (n5 - 1)) r5.2 r13.1 names4
                    else
                      L4 (IntKind.i64.wrap (n5 - 1)) r5.2 out3 names4
                else if ((r6 : Int) == 0) = true then
                  (spec_BookPieces.f out3 (0, (names4.getD (r4.1 : Int).toNat ByteArray.empty, IntKind.i64.wrap (1 + r5.1)))).bind fun r14 =>
                  if ((r14.2 : Int) == 0) = true then
                    L4 (IntKind.i64.wrap (n5 - 1)) r5.2 r14.1 names4
                  else
                    L4 (IntKind.i64.wrap (n5 - 1)) r5.2 out3 names4
                else
                  (spec_BookPieces.f out3 (r3.1, (names4.getD (r4.1 : Int).toNat ByteArray.empty, IntKind.i64.wrap (1 + r5.1)))).bind fun r15 =>
                  if ((r15.2 : Int) == 0) = true then
                    L4 (IntKind.i64.wrap (n5 - 1)) r5.2 r15.1 names4
                  else
                    L4 (IntKind.i64.wrap (n5 - 1)) r5.2 out3 names4
              )
            )
          )
        else
          none
      ) (
        (spec_l01Next.f r3.2 4).bind fun r4 =>
        if (0 : Int) ≤ r4.1 ∧ (r4.1 : Int) < names4.length then
          agree (
            (spec_l01Next.f r4.2 12).bind fun r5 =>
            (spec_l32Left.f out3 (names4.getD (r4.1 : Int).toNat ByteArray.empty) (out3.length : Int)).bind fun r6 =>
            if (decide ((0 : Int) < r3.1)) = true then
              if (decide ((0 : Int) < r6)) = true then
                (spec_l01Next.f r5.2 2).bind fun r7 =>
                if ((r7.1 : Int) == 0) = true then
                  if ((r6 : Int) == 0) = true then
                    (spec_BookPieces.f out3 (0, (names4.getD (r4.1 : Int).toNat ByteArray.empty, (if r6 < 1000 then r6 else 1000)))).bind fun r8 =>
                    if ((r8.2 : Int) == 0) = true then
                      L4 (IntKind.i64.wrap (n5 - 1)) r7.2 r8.1 names4
                    else
                      L4 (IntKind.i64.wrap (n5 - 1)) r7.2 out3 names4
                  else
                    (spec_BookPieces.f out3 (r3.1, (names4.getD (r4.1 : Int).toNat ByteArray.empty, (if r6 < 1000 then r6 else 1000)))).bind fun r9 =>
                    if ((r9.2 : Int) == 0) = true then
                      L4 (IntKind.i64.wrap (n5 - 1)) r7.2 r9.1 names4
                    else
                      L4 (IntKind.i64.wrap (n5 - 1)) r7.2 out3 names4
                else if ((r6 : Int) == 0) = true then
                  (spec_BookPieces.f out3 (0, (names4.getD (r4.1 : Int).toNat ByteArray.empty, IntKind.i64.wrap (1 + r5.1)))).bind fun r10 =>
                  if ((r10.2 : Int) == 0) = true then
                    L4 (IntKind.i64.wrap (n5 - 1)) r7.2 r10.1 names4
                  else
                    L4 (IntKind.i64.wrap (n5 - 1)) r7.2 out3 names4
                else
                  (spec_BookPieces.f out3 (r3.1, (names4.getD (r4.1 : Int).toNat ByteArray.empty, IntKind.i64.wrap (1 + r5.1)))).bind fun r11 =>
                  if ((r11.2 : Int) == 0) = true then
                    L4 (IntKind.i64.wrap (n5 - 1)) r7.2 r11.1 names4
                  else
                    L4 (IntKind.i64.wrap (n5 - 1)) r7.2 out3 names4
              else if ((r6 : Int) == 0) = true then
                (spec_BookPieces.f out3 (0, (names4.getD (r4.1 : Int).toNat ByteArray.empty, IntKind.i64.wrap (1 + r5.1)))).bind fun r12 =>
                if ((r12.2 : Int) == 0) = true then
                  L4 (IntKind.i64.wrap (n5 - 1)) r5.2 r12.1 names4
                else
                  L4 (IntKind.i64.wrap (n5 - 1)) r5.2 out3 names4
              else
                (spec_BookPieces.f out3 (r3.1, (names4.getD (r4.1 : Int).toNat ByteArray.empty, IntKind.i64.wrap (1 + r5.1)))).bind fun r13 =>
                if ((r13.2 : Int) == 0) = true then
                  L4 (IntKind.i64.wrap (n5 - 1)) r5.2 r13.1 names4
                else
                  L4 (IntKind.i64.wrap (n5 - 1)) r5.2 out3 names4
            else if ((r6 : Int) == 0) = true then
              (spec_BookPieces.f out3 (0, (names4.getD (r4.1 : Int).toNat ByteArray.empty, IntKind.i64.wrap (1 + r5.1)))).bind fun r14 =>
              if ((r14.2 : Int) == 0) = true then
                L4 (IntKind.i64.wrap (n5 - 1)) r5.2 r14.1 names4
              else
                L4 (IntKind.i64.wrap (n5 - 1)) r5.2 out3 names4
            else
              (spec_BookPieces.f out3 (r3.1, (names4.getD (r4.1 : Int).toNat ByteArray.empty, IntKind.i64.wrap (1 + r5.1)))).bind fun r15 =>
              if ((r15.2 : Int) == 0) = true then
                L4 (IntKind.i64.wrap (n5 - 1)) r5.2 r15.1 names4
              else
                L4 (IntKind.i64.wrap (n5 - 1)) r5.2 out3 names4
          ) (
            (spec_l01Next.f r4.2 12).bind fun r5 =>
            (spec_l32Left.f out3 (names4.getD (r4.1 : Int).toNat ByteArray.empty) (out3.length : Int)).bind fun r6 =>
            if (decide ((0 : Int) < r3.1)) = true then
              if (decide ((0 : Int) < r6)) = true then
                (spec_l01Next.f r5.2 2).bind fun r7 =>
                if ((r7.1 : Int) == 0) = true then
                  if ((r6 : Int) == 0) = true then
                    (spec_BookPieces.f out3 (0, (names4.getD (r4.1 : Int).toNat ByteArray.empty, (if r6 < 1000 then r6 else 1000)))).bind fun r8 =>
                    if ((r8.2 : Int) == 0) = true then
                      L4 (IntKind.i64.wrap (n5 - 1)) r7.2 r8.1 names4
                    else
                      L4 (IntKind.i64.wrap (n5 - 1)) r7.2 out3 names4
                  else
                    (spec_BookPieces.f out3 (r3.1, (names4.getD (r4.1 : Int).toNat ByteArray.empty, (if r6 < 1000 then r6 else 1000)))).bind fun r9 =>
                    if ((r9.2 : Int) == 0) = true then
                      L4 (IntKind.i64.wrap (n5 - 1)) r7.2 r9.1 names4
                    else
                      L4 (IntKind.i64.wrap (n5 - 1)) r7.2 out3 names4
                else if ((r6 : Int) == 0) = true then
                  (spec_BookPieces.f out3 (0, (names4.getD (r4.1 : Int).toNat ByteArray.empty, IntKind.i64.wrap (1 + r5.1)))).bind fun r10 =>
                  if ((r10.2 : Int) == 0) = true then
                    L4 (IntKind.i64.wrap (n5 - 1)) r7.2 r10.1 names4
                  else
                    L4 (IntKind.i64.wrap (n5 - 1)) r7.2 out3 names4
                else
                  (spec_BookPieces.f out3 (r3.1, (names4.getD (r4.1 : Int).toNat ByteArray.empty, IntKind.i64.wrap (1 + r5.1)))).bind fun r11 =>
                  if ((r11.2 : Int) == 0) = true then
                    L4 (IntKind.i64.wrap (n5 - 1)) r7.2 r11.1 names4
                  else
                    L4 (IntKind.i64.wrap (n5 - 1)) r7.2 out3 names4
              else if ((r6 : Int) == 0) = true then
                (spec_BookPieces.f out3 (0, (names4.getD (r4.1 : Int).toNat ByteArray.empty, IntKind.i64.wrap (1 + r5.1)))).bind fun r12 =>
                if ((r12.2 : Int) == 0) = true then
                  L4 (IntKind.i64.wrap (n5 - 1)) r5.2 r12.1 names4
                else
                  L4 (IntKind.i64.wrap (n5 - 1)) r5.2 out3 names4
              else
                (spec_BookPieces.f out3 (r3.1, (names4.getD (r4.1 : Int).toNat ByteArray.empty, IntKind.i64.wrap (1 + r5.1)))).bind fun r13 =>
                if ((r13.2 : Int) == 0) = true then
                  L4 (IntKind.i64.wrap (n5 - 1)) r5.2 r13.1 names4
                else
                  L4 (IntKind.i64.wrap (n5 - 1)) r5.2 out3 names4
            else if ((r6 : Int) == 0) = true then
              (spec_BookPieces.f out3 (0, (names4.getD (r4.1 : Int).toNat ByteArray.empty, IntKind.i64.wrap (1 + r5.1)))).bind fun r14 =>
              if ((r14.2 : Int) == 0) = true then
                L4 (IntKind.i64.wrap (n5 - 1)) r5.2 r14.1 names4
              else
                L4 (IntKind.i64.wrap (n5 - 1)) r5.2 out3 names4
            else
              (spec_BookPieces.f out3 (r3.1, (names4.getD (r4.1 : Int).toNat ByteArray.empty, IntKind.i64.wrap (1 + r5.1)))).bind fun r15 =>
              if ((r15.2 : Int) == 0) = true then
                L4 (IntKind.i64.wrap (n5 - 1)) r5.2 r15.1 names4
              else
                L4 (IntKind.i64.wrap (n5 - 1)) r5.2 out3 names4
          )
        else
          none
      )
    ) (
      (spec_l01Next.f s0 4).bind fun r3 =>
      (spec_l01Next.f r3.2 4).bind fun r4 =>
      if (0 : Int) ≤ r4.1 ∧ (r4.1 : Int) < names4.length then
        agree (
          (spec_l01Next.f r4.2 12).bind fun r5 =>
          (spec_l32Left.f out3 (names4.getD (r4.1 : Int).toNat ByteArray.empty) (out3.length : Int)).bind fun r6 =>
          if (decide ((0 : Int) < r3.1)) = true then
            if (decide ((0 : Int) < r6)) = true then
              (spec_l01Next.f r5.2 2).bind fun r7 =>
              if ((r7.1 : Int) == 0) = true then
                if ((r6 : Int) == 0) = true then
                  (spec_BookPieces.f out3 (0, (names4.getD (r4.1 : Int).toNat ByteArray.empty, (if r6 < 1000 then r6 else 1000)))).bind fun r8 =>
                  if ((r8.2 : Int) == 0) = true then
                    L4 (IntKind.i64.wrap (n5 - 1)) r7.2 r8.1 names4
                  else
                    L4 (IntKind.i64.wrap (n5 - 1)) r7.2 out3 names4
                else
                  (spec_BookPieces.f out3 (r3.1, (names4.getD (r4.1 : Int).toNat ByteArray.empty, (if r6 < 1000 then r6 else 1000)))).bind fun r9 =>
                  if ((r9.2 : Int) == 0) = true then
                    L4 (IntKind.i64.wrap (n5 - 1)) r7.2 r9.1 names4
                  else
                    L4 (IntKind.i64.wrap (n5 - 1)) r7.2 out3 names4
              else if ((r6 : Int) == 0) = true then
                (spec_BookPieces.f out3 (0, (names4.getD (r4.1 : Int).toNat ByteArray.empty, IntKind.i64.wrap (1 + r5.1)))).bind fun r10 =>
                if ((r10.2 : Int) == 0) = true then
                  L4 (IntKind.i64.wrap (n5 - 1)) r7.2 r10.1 names4
                else
                  L4 (IntKind.i64.wrap (n5 - 1)) r7.2 out3 names4
              else
                (spec_BookPieces.f out3 (r3.1, (names4.getD (r4.1 : Int).toNat ByteArray.empty, IntKind.i64.wrap (1 + r5.1)))).bind fun r11 =>
                if ((r11.2 : Int) == 0) = true then
                  L4 (IntKind.i64.wrap (n5 - 1)) r7.2 r11.1 names4
                else
                  L4 (IntKind.i64.wrap (n5 - 1)) r7.2 out3 names4
            else if ((r6 : Int) == 0) = true then
              (spec_BookPieces.f out3 (0, (names4.getD (r4.1 : Int).toNat ByteArray.empty, IntKind.i64.wrap (1 + r5.1)))).bind fun r12 =>
              if ((r12.2 : Int) == 0) = true then
                L4 (IntKind.i64.wrap (n5 - 1)) r5.2 r12.1 names4
              else
                L4 (IntKind.i64.wrap (n5 - 1)) r5.2 out3 names4
            else
              (spec_BookPieces.f out3 (r3.1, (names4.getD (r4.1 : Int).toNat ByteArray.empty, IntKind.i64.wrap (1 + r5.1)))).bind fun r13 =>
              if ((r13.2 : Int) == 0) = true then
                L4 (IntKind.i64.wrap (n5 - 1)) r5.2 r13.1 names4
              else
                L4 (IntKind.i64.wrap (n5 - 1)) r5.2 out3 names4
          else if ((r6 : Int) == 0) = true then
            (spec_BookPieces.f out3 (0, (names4.getD (r4.1 : Int).toNat ByteArray.empty, IntKind.i64.wrap (1 + r5.1)))).bind fun r14 =>
            if ((r14.2 : Int) == 0) = true then
              L4 (IntKind.i64.wrap (n5 - 1)) r5.2 r14.1 names4
            else
              L4 (IntKind.i64.wrap (n5 - 1)) r5.2 out3 names4
          else
            (spec_BookPieces.f out3 (r3.1, (names4.getD (r4.1 : Int).toNat ByteArray.empty, IntKind.i64.wrap (1 + r5.1)))).bind fun r15 =>
            if ((r15.2 : Int) == 0) = true then
              L4 (IntKind.i64.wrap (n5 - 1)) r5.2 r15.1 names4
            else
              L4 (IntKind.i64.wrap (n5 - 1)) r5.2 out3 names4
        ) (
          (spec_l01Next.f r4.2 12).bind fun r5 =>
          (spec_l32Left.f out3 (names4.getD (r4.1 : Int).toNat ByteArray.empty) (out3.length : Int)).bind fun r6 =>
          if (decide ((0 : Int) < r3.1)) = true then
            if (decide ((0 : Int) < r6)) = true then
              (spec_l01Next.f r5.2 2).bind fun r7 =>
              if ((r7.1 : Int) == 0) = true then
                if ((r6 : Int) == 0) = true then
                  (spec_BookPieces.f out3 (0, (names4.getD (r4.1 : Int).toNat ByteArray.empty, (if r6 < 1000 then r6 else 1000)))).bind fun r8 =>
                  if ((r8.2 : Int) == 0) = true then
                    L4 (IntKind.i64.wrap (n5 - 1)) r7.2 r8.1 names4
                  else
                    L4 (IntKind.i64.wrap (n5 - 1)) r7.2 out3 names4
                else
                  (spec_BookPieces.f out3 (r3.1, (names4.getD (r4.1 : Int).toNat ByteArray.empty, (if r6 < 1000 then r6 else 1000)))).bind fun r9 =>
                  if ((r9.2 : Int) == 0) = true then
                    L4 (IntKind.i64.wrap (n5 - 1)) r7.2 r9.1 names4
                  else
                    L4 (IntKind.i64.wrap (n5 - 1)) r7.2 out3 names4
              else if ((r6 : Int) == 0) = true then
                (spec_BookPieces.f out3 (0, (names4.getD (r4.1 : Int).toNat ByteArray.empty, IntKind.i64.wrap (1 + r5.1)))).bind fun r10 =>
                if ((r10.2 : Int) == 0) = true then
                  L4 (IntKind.i64.wrap (n5 - 1)) r7.2 r10.1 names4
                else
                  L4 (IntKind.i64.wrap (n5 - 1)) r7.2 out3 names4
              else
                (spec_BookPieces.f out3 (r3.1, (names4.getD (r4.1 : Int).toNat ByteArray.empty, IntKind.i64.wrap (1 + r5.1)))).bind fun r11 =>
                if ((r11.2 : Int) == 0) = true then
                  L4 (IntKind.i64.wrap (n5 - 1)) r7.2 r11.1 names4
                else
                  L4 (IntKind.i64.wrap (n5 - 1)) r7.2 out3 names4
            else if ((r6 : Int) == 0) = true then
              (spec_BookPieces.f out3 (0, (names4.getD (r4.1 : Int).toNat ByteArray.empty, IntKind.i64.wrap (1 + r5.1)))).bind fun r12 =>
              if ((r12.2 : Int) == 0) = true then
                L4 (IntKind.i64.wrap (n5 - 1)) r5.2 r12.1 names4
              else
                L4 (IntKind.i64.wrap (n5 - 1)) r5.2 out3 names4
            else
              (spec_BookPieces.f out3 (r3.1, (names4.getD (r4.1 : Int).toNat ByteArray.empty, IntKind.i64.wrap (1 + r5.1)))).bind fun r13 =>
              if ((r13.2 : Int) == 0) = true then
                L4 (IntKind.i64.wrap (n5 - 1)) r5.2 r13.1 names4
              else
                L4 (IntKind.i64.wrap (n5 - 1)) r5.2 out3 names4
          else if ((r6 : Int) == 0) = true then
            (spec_BookPieces.f out3 (0, (names4.getD (r4.1 : Int).toNat ByteArray.empty, IntKind.i64.wrap (1 + r5.1)))).bind fun r14 =>
            if ((r14.2 : Int) == 0) = true then
              L4 (IntKind.i64.wrap (n5 - 1)) r5.2 r14.1 names4
            else
              L4 (IntKind.i64.wrap (n5 - 1)) r5.2 out3 names4
          else
            (spec_BookPieces.f out3 (r3.1, (names4.getD (r4.1 : Int).toNat ByteArray.empty, IntKind.i64.wrap (1 + r5.1)))).bind fun r15 =>
            if ((r15.2 : Int) == 0) = true then
              L4 (IntKind.i64.wrap (n5 - 1)) r5.2 r15.1 names4
            else
              L4 (IntKind.i64.wrap (n5 - 1)) r5.2 out3 names4
        )
      else
        none
    )
  else
    some (out3, s0)
theorem spec_l32Good.g4raw_eq (L4 : Int → (List Int × Int × Int) → (List (Int × ByteArray × Int)) → List ByteArray → Option ((List (Int × ByteArray × Int)) × List Int × Int × Int)) (n5 : Int) (s0 : List Int × Int × Int) (out3 : List (Int × ByteArray × Int)) (names4 : List ByteArray) : spec_l32Good.g4raw L4 n5 s0 out3 names4 = spec_l32Good.g4 L4 n5 s0 out3 names4 := by
  unfold spec_l32Good.g4raw spec_l32Good.g4
  simp only [agree_self]
def spec_l32Good.con : Con := { ps := [(.bx 163, (.pair (.sl 5 (.int .u8)) (.pair (.int .i64) (.int .i64))))], rs := [(.own, (.sl 43 (.pair (.int .i64) (.pair .str (.int .i64)))))], F := fun x => spec_l32Good.f x }
def spec_l32Good.cs : List (FuncId × Con) := [(26, spec_BookPieces.con), (116, spec_l01Next.con), (141, spec_l03Names.con), (145, spec_l32Left.con)]
def spec_l32Good.E : Env := envOf tab spec_l32Good.cs 1 false
def spec_l32Good.keep (i : Nat) : List Nat := if i = 4 then [0, 3, 4, 5] else []
def spec_l32Good.at4 (n : Nat) (x : List Int × Int × Int) : Code × (Ex → St → Option (((List (Int × ByteArray × Int)) × List Int × Int × Int))) := ctx spec_l32Good.E spec_l32Good.keep n [.snd, .snd, .snd, .fst, .snd, .blk] (codeOf Try.f169) (kEnd spec_l32Good.E Try.f169 spec_l32Good.con x)
def spec_l32Good.LN4 (n : Nat) (x : List Int × Int × Int) : Nat → St → Option (((List (Int × ByteArray × Int)) × List Int × Int × Int)) := loopN (exec spec_l32Good.E spec_l32Good.keep n (bodyOf (spec_l32Good.at4 n x).1)) (St.norm 1 (spec_l32Good.keep 4)) (spec_l32Good.at4 n x).2
set_option maxRecDepth 100000 in
theorem spec_l32Good.lem4 (n : Nat) (x : List Int × Int × Int) : ∀ (k : Nat) (n5 : Int) (s0 : List Int × Int × Int) (out3 : List (Int × ByteArray × Int)) (names4 : List ByteArray), spec_l32Good.LN4 n x k (spec_l32Good.st4 n5 s0 out3 names4) = spec_l32Good.l4 n k n5 s0 out3 names4 := by
  intro k
  induction k with
  | zero => intro n5 s0 out3 names4; rfl
  | succ k ih =>
    intro n5 s0 out3 names4
    have h : spec_l32Good.LN4 n x (k + 1) (spec_l32Good.st4 n5 s0 out3 names4) = spec_l32Good.g4raw (fun n5 s0 out3 names4 => spec_l32Good.LN4 n x k (spec_l32Good.st4 n5 s0 out3 names4)) n5 s0 out3 names4 := by kernel_rfl
    rw [spec_l32Good.g4raw_eq] at h
    rw [h]
    simp only [ih]
    rfl
set_option maxRecDepth 100000 in
theorem spec_l32Good.body (n : Nat) (x : List Int × Int × Int) : bodyF spec_l32Good.E spec_l32Good.keep n Try.f169 spec_l32Good.con x = spec_l32Good.fn n x := by
  have h : bodyF spec_l32Good.E spec_l32Good.keep n Try.f169 spec_l32Good.con x = spec_l32Good.top (fun n5 s0 out3 names4 => spec_l32Good.LN4 n x n (spec_l32Good.st4 n5 s0 out3 names4)) x := by kernel_rfl
  rw [h]
  simp only [spec_l32Good.lem4]
  rfl
set_option maxRecDepth 100000 in
theorem spec_l32Good.good : Good Try.prog 169 spec_l32Good.con :=
  good_of tabok (cs := spec_l32Good.cs) ⟨spec_BookPieces.good, spec_l01Next.good, spec_l03Names.good, spec_l32Left.good, trivial⟩ 1 false (fn := Try.f169) Try.func169 rfl (by decide) (by simp [spec_l32Good.con]) spec_l32Good.keep NN (fun _ => rfl) (fun x => spec_l32Good.body NN x)
end
end Go.Ev.Try

namespace Go.Ev.Try
open Go.Proofs Go.Pl
set_option linter.unusedVariables false
noncomputable section
def spec_l32Draw.st6 (s0 : List Int × Int × Int) (out3 : List (Int × ByteArray × Int)) : St := ⟨[.ptr 0 [], .gone, .gone, .ref 1, .gone, .gone, .gone, .gone, .gone, .gone, .gone, .gone, .gone, .gone, .gone, .gone, .gone, .gone, .gone, .gone, .gone, .gone, .gone, .gone, .gone, .gone, .gone, .gone, .gone, .gone, .gone, .gone, .gone, .gone, .gone, .gone, .gone, .gone, .gone, .gone, .gone, .gone], [.box 163 (.pair (.sl 5 (.int .u8)) (.pair (.int .i64) (.int .i64))) (.dat (.pair (.sl 5 (.int .u8)) (.pair (.int .i64) (.int .i64))) s0), .row 43 (.pair (.int .i64) (.pair .str (.int .i64))) out3 none]⟩
def spec_l32Draw.con : Con := { ps := [(.bx 163, (.pair (.sl 5 (.int .u8)) (.pair (.int .i64) (.int .i64))))], rs := [(.own, (.sl 43 (.pair (.int .i64) (.pair .str (.int .i64)))))], F := fun x => spec_l32Draw.f x }
def spec_l32Draw.cs : List (FuncId × Con) := [(116, spec_l01Next.con), (142, spec_l01Pick.con), (164, spec_l01DrawWord.con), (169, spec_l32Good.con)]
def spec_l32Draw.E : Env := envOf tab spec_l32Draw.cs 1 false
def spec_l32Draw.keep (i : Nat) : List Nat := if i = 6 then [0, 3] else []
def spec_l32Draw.at6 (n : Nat) (x : List Int × Int × Int) : Code × (Ex → St → Option (((List (Int × ByteArray × Int)) × List Int × Int × Int))) := ctx spec_l32Draw.E spec_l32Draw.keep n [.snd, .snd, .fst, .snd, .blk, .snd, .no, .snd, .yes, .blk] (codeOf Try.f140) (kEnd spec_l32Draw.E Try.f140 spec_l32Draw.con x)
def spec_l32Draw.LN6 (n : Nat) (x : List Int × Int × Int) : Nat → St → Option (((List (Int × ByteArray × Int)) × List Int × Int × Int)) := loopN (exec spec_l32Draw.E spec_l32Draw.keep n (bodyOf (spec_l32Draw.at6 n x).1)) (St.norm 1 (spec_l32Draw.keep 6)) (spec_l32Draw.at6 n x).2
set_option maxRecDepth 100000 in
theorem spec_l32Draw.lem6 (n : Nat) (x : List Int × Int × Int) : ∀ (k : Nat) (s0 : List Int × Int × Int) (out3 : List (Int × ByteArray × Int)), spec_l32Draw.LN6 n x k (spec_l32Draw.st6 s0 out3) = spec_l32Draw.l6 n k s0 out3 := by
  intro k
  induction k with
  | zero => intro s0 out3; rfl
  | succ k ih =>
    intro s0 out3
    have h : spec_l32Draw.LN6 n x (k + 1) (spec_l32Draw.st6 s0 out3) = spec_l32Draw.g6 (fun s0 out3 => spec_l32Draw.LN6 n x k (spec_l32Draw.st6 s0 out3)) s0 out3 := by kernel_rfl
    rw [h]
    simp only [ih]
    rfl
set_option maxRecDepth 100000 in
theorem spec_l32Draw.body (n : Nat) (x : List Int × Int × Int) : bodyF spec_l32Draw.E spec_l32Draw.keep n Try.f140 spec_l32Draw.con x = spec_l32Draw.fn n x := by
  have h : bodyF spec_l32Draw.E spec_l32Draw.keep n Try.f140 spec_l32Draw.con x = spec_l32Draw.top (fun s0 out3 => spec_l32Draw.LN6 n x n (spec_l32Draw.st6 s0 out3)) x := by kernel_rfl
  rw [h]
  simp only [spec_l32Draw.lem6]
  rfl
set_option maxRecDepth 100000 in
theorem spec_l32Draw.good : Good Try.prog 140 spec_l32Draw.con :=
  good_of tabok (cs := spec_l32Draw.cs) ⟨spec_l01Next.good, spec_l01Pick.good, spec_l01DrawWord.good, spec_l32Good.good, trivial⟩ 1 false (fn := Try.f140) Try.func140 rfl (by decide) (by simp [spec_l32Draw.con]) spec_l32Draw.keep NN (fun _ => rfl) (fun x => spec_l32Draw.body NN x)
end
end Go.Ev.Try

namespace Go.Ev.Try
open Go.Proofs Go.Pl
set_option linter.unusedVariables false
noncomputable section
def spec_DrawBookPieces.topraw (code0 : List Int) : Option ((List (Int × ByteArray × Int)) × Int × ByteArray × Int) :=
  (spec_l01From.f code0).bind fun r1 =>
  (spec_l32Draw.f r1).bind fun r2 =>
  (spec_l01Next.f r2.2 4).bind fun r3 =>
  (spec_l03Names.f).bind fun r4 =>
  (spec_l01Next.f r3.2 5).bind fun r5 =>
  if (0 : Int) ≤ r5.1 ∧ (r5.1 : Int) < r4.length then
    agree (
      (spec_l01Next.f r5.2 12).bind fun r6 =>
      (spec_l01Next.f r6.2 4).bind fun r7 =>
      (spec_l01Pick.f r7.2 ([IntKind.i64.wrap (1 + r6.1), 1, 1000, 1001, IntKind.i64.wrap (1 + r7.1)])).bind fun r8 =>
      some (r2.1, (r3.1, (r4.getD (r5.1 : Int).toNat ByteArray.empty, r8.1)))
    ) (
      (spec_l01Next.f r5.2 12).bind fun r6 =>
      agree (
        (spec_l01Next.f r6.2 4).bind fun r7 =>
        (spec_l01Pick.f r7.2 ([IntKind.i64.wrap (1 + r6.1), 1, 1000, 1001, IntKind.i64.wrap (1 + r7.1)])).bind fun r8 =>
        some (r2.1, (r3.1, (r4.getD (r5.1 : Int).toNat ByteArray.empty, r8.1)))
      ) (
        (spec_l01Next.f r6.2 4).bind fun r7 =>
        agree (
          (spec_l01Pick.f r7.2 ([IntKind.i64.wrap (1 + r6.1), 1, 1000, 1001, IntKind.i64.wrap (1 + r7.1)])).bind fun r8 =>
          some (r2.1, (r3.1, (r4.getD (r5.1 : Int).toNat ByteArray.empty, r8.1)))
        ) (
          agree (
            (spec_l01Pick.f r7.2 ([IntKind.i64.wrap (1 + r6.1), 1, 1000, 1001, IntKind.i64.wrap (1 + r7.1)])).bind fun r8 =>
            some (r2.1, (r3.1, (r4.getD (r5.1 : Int).toNat ByteArray.empty, r8.1)))
          ) (
            (spec_l01Pick.f r7.2 ([IntKind.i64.wrap (1 + r6.1), 1, 1000, 1001, IntKind.i64.wrap (1 + r7.1)])).bind fun r8 =>
            some (r2.1, (r3.1, (r4.getD (r5.1 : Int).toNat ByteArray.empty, r8.1)))
          )
        )
      )
    )
  else
    none
theorem spec_DrawBookPieces.topraw_eq (code0 : List Int) : spec_DrawBookPieces.topraw code0 = spec_DrawBookPieces.top code0 := by
  unfold spec_DrawBookPieces.topraw spec_DrawBookPieces.top
  simp only [agree_self]
def spec_DrawBookPieces.con : Con := { ps := [(.val, (.sl 5 (.int .u8)))], rs := [(.own, (.sl 43 (.pair (.int .i64) (.pair .str (.int .i64))))), (.own, (.pair (.int .i64) (.pair .str (.int .i64))))], F := fun x => spec_DrawBookPieces.f x }
def spec_DrawBookPieces.cs : List (FuncId × Con) := [(111, spec_l01From.con), (116, spec_l01Next.con), (140, spec_l32Draw.con), (141, spec_l03Names.con), (142, spec_l01Pick.con)]
def spec_DrawBookPieces.E : Env := envOf tab spec_DrawBookPieces.cs 0 false
def spec_DrawBookPieces.keep (i : Nat) : List Nat := []
set_option maxRecDepth 100000 in
theorem spec_DrawBookPieces.body (n : Nat) (x : List Int) : bodyF spec_DrawBookPieces.E spec_DrawBookPieces.keep n Try.f65 spec_DrawBookPieces.con x = spec_DrawBookPieces.fn n x := by
  have h : bodyF spec_DrawBookPieces.E spec_DrawBookPieces.keep n Try.f65 spec_DrawBookPieces.con x = spec_DrawBookPieces.topraw x := by kernel_rfl
  rw [spec_DrawBookPieces.topraw_eq] at h
  exact h
set_option maxRecDepth 100000 in
theorem spec_DrawBookPieces.good : Good Try.prog 65 spec_DrawBookPieces.con :=
  good_of tabok (cs := spec_DrawBookPieces.cs) ⟨spec_l01From.good, spec_l01Next.good, spec_l32Draw.good, spec_l03Names.good, spec_l01Pick.good, trivial⟩ 0 false (fn := Try.f65) Try.func65 rfl (by decide) (by simp [spec_DrawBookPieces.con]) spec_DrawBookPieces.keep NN (fun _ => rfl) (fun x => spec_DrawBookPieces.body NN x)
end
end Go.Ev.Try

namespace Go.Ev.Try
open Go.Proofs Go.Pl
set_option linter.unusedVariables false
noncomputable section
def spec_DrawPiecesLeft.con : Con := { ps := [(.val, (.sl 5 (.int .u8)))], rs := [(.own, (.sl 43 (.pair (.int .i64) (.pair .str (.int .i64))))), (.own, .str)], F := fun x => spec_DrawPiecesLeft.f x }
def spec_DrawPiecesLeft.cs : List (FuncId × Con) := [(111, spec_l01From.con), (116, spec_l01Next.con), (140, spec_l32Draw.con), (141, spec_l03Names.con), (164, spec_l01DrawWord.con)]
def spec_DrawPiecesLeft.E : Env := envOf tab spec_DrawPiecesLeft.cs 0 false
def spec_DrawPiecesLeft.keep (i : Nat) : List Nat := []
set_option maxRecDepth 100000 in
theorem spec_DrawPiecesLeft.body (n : Nat) (x : List Int) : bodyF spec_DrawPiecesLeft.E spec_DrawPiecesLeft.keep n Try.f143 spec_DrawPiecesLeft.con x = spec_DrawPiecesLeft.fn n x := by
  have h : bodyF spec_DrawPiecesLeft.E spec_DrawPiecesLeft.keep n Try.f143 spec_DrawPiecesLeft.con x = spec_DrawPiecesLeft.top x := by kernel_rfl
  exact h
set_option maxRecDepth 100000 in
theorem spec_DrawPiecesLeft.good : Good Try.prog 143 spec_DrawPiecesLeft.con :=
  good_of tabok (cs := spec_DrawPiecesLeft.cs) ⟨spec_l01From.good, spec_l01Next.good, spec_l32Draw.good, spec_l03Names.good, spec_l01DrawWord.good, trivial⟩ 0 false (fn := Try.f143) Try.func143 rfl (by decide) (by simp [spec_DrawPiecesLeft.con]) spec_DrawPiecesLeft.keep NN (fun _ => rfl) (fun x => spec_DrawPiecesLeft.body NN x)
end
end Go.Ev.Try

namespace Go.Ev.Try
open Go.Proofs Go.Pl
set_option linter.unusedVariables false
noncomputable section
def spec_DrawTotalsOf.con : Con := { ps := [(.val, (.sl 5 (.int .u8)))], rs := [(.own, (.sl 43 (.pair (.int .i64) (.pair .str (.int .i64))))), (.own, .str)], F := fun x => spec_DrawTotalsOf.f x }
def spec_DrawTotalsOf.cs : List (FuncId × Con) := [(143, spec_DrawPiecesLeft.con)]
def spec_DrawTotalsOf.E : Env := envOf tab spec_DrawTotalsOf.cs 0 false
def spec_DrawTotalsOf.keep (i : Nat) : List Nat := []
set_option maxRecDepth 100000 in
theorem spec_DrawTotalsOf.body (n : Nat) (x : List Int) : bodyF spec_DrawTotalsOf.E spec_DrawTotalsOf.keep n Try.f66 spec_DrawTotalsOf.con x = spec_DrawTotalsOf.fn n x := by
  have h : bodyF spec_DrawTotalsOf.E spec_DrawTotalsOf.keep n Try.f66 spec_DrawTotalsOf.con x = spec_DrawTotalsOf.top x := by kernel_rfl
  exact h
set_option maxRecDepth 100000 in
theorem spec_DrawTotalsOf.good : Good Try.prog 66 spec_DrawTotalsOf.con :=
  good_of tabok (cs := spec_DrawTotalsOf.cs) ⟨spec_DrawPiecesLeft.good, trivial⟩ 0 false (fn := Try.f66) Try.func66 rfl (by decide) (by simp [spec_DrawTotalsOf.con]) spec_DrawTotalsOf.keep NN (fun _ => rfl) (fun x => spec_DrawTotalsOf.body NN x)
end
end Go.Ev.Try

namespace Go.Ev.Try
open Go.Proofs Go.Pl
set_option linter.unusedVariables false
noncomputable section
def impl_PiecesLeft.con : Con := { ps := [(.val, (.sl 43 (.pair (.int .i64) (.pair .str (.int .i64))))), (.val, .str)], rs := [(.val, (.int .i64)), (.val, (.int .i64))], F := fun x => impl_PiecesLeft.f x.1 x.2 }
def impl_PiecesLeft.cs : List (FuncId × Con) := [(73, impl_AreBookings.con), (108, impl_IsWord.con), (144, impl_piecesLeft.con)]
def impl_PiecesLeft.E : Env := envOf tab impl_PiecesLeft.cs 0 false
def impl_PiecesLeft.keep (i : Nat) : List Nat := []
set_option maxRecDepth 100000 in
theorem impl_PiecesLeft.body (n : Nat) (x : (List (Int × ByteArray × Int)) × ByteArray) : bodyF impl_PiecesLeft.E impl_PiecesLeft.keep n Try.f67 impl_PiecesLeft.con x = impl_PiecesLeft.fn n x.1 x.2 := by
  have h : bodyF impl_PiecesLeft.E impl_PiecesLeft.keep n Try.f67 impl_PiecesLeft.con x = impl_PiecesLeft.top x.1 x.2 := by kernel_rfl
  exact h
set_option maxRecDepth 100000 in
theorem impl_PiecesLeft.good : Good Try.prog 67 impl_PiecesLeft.con :=
  good_of tabok (cs := impl_PiecesLeft.cs) ⟨impl_AreBookings.good, impl_IsWord.good, impl_piecesLeft.good, trivial⟩ 0 false (fn := Try.f67) Try.func67 rfl (by decide) (by simp [impl_PiecesLeft.con]) impl_PiecesLeft.keep NN (fun _ => rfl) (fun x => impl_PiecesLeft.body NN x)
end
end Go.Ev.Try

namespace Go.Ev.Try
open Go.Proofs Go.Pl
set_option linter.unusedVariables false
noncomputable section
def spec_PiecesLeft.con : Con := { ps := [(.val, (.sl 43 (.pair (.int .i64) (.pair .str (.int .i64))))), (.val, .str)], rs := [(.val, (.int .i64)), (.val, (.int .i64))], F := fun x => spec_PiecesLeft.f x.1 x.2 }
def spec_PiecesLeft.cs : List (FuncId × Con) := [(101, spec_AreBookings.con), (107, spec_IsWord.con), (145, spec_l32Left.con)]
def spec_PiecesLeft.E : Env := envOf tab spec_PiecesLeft.cs 0 false
def spec_PiecesLeft.keep (i : Nat) : List Nat := []
set_option maxRecDepth 100000 in
theorem spec_PiecesLeft.body (n : Nat) (x : (List (Int × ByteArray × Int)) × ByteArray) : bodyF spec_PiecesLeft.E spec_PiecesLeft.keep n Try.f68 spec_PiecesLeft.con x = spec_PiecesLeft.fn n x.1 x.2 := by
  have h : bodyF spec_PiecesLeft.E spec_PiecesLeft.keep n Try.f68 spec_PiecesLeft.con x = spec_PiecesLeft.top x.1 x.2 := by kernel_rfl
  exact h
set_option maxRecDepth 100000 in
theorem spec_PiecesLeft.good : Good Try.prog 68 spec_PiecesLeft.con :=
  good_of tabok (cs := spec_PiecesLeft.cs) ⟨spec_AreBookings.good, spec_IsWord.good, spec_l32Left.good, trivial⟩ 0 false (fn := Try.f68) Try.func68 rfl (by decide) (by simp [spec_PiecesLeft.con]) spec_PiecesLeft.keep NN (fun _ => rfl) (fun x => spec_PiecesLeft.body NN x)
end
end Go.Ev.Try

namespace Go.Ev.Try
open Go.Proofs Go.Pl
set_option linter.unusedVariables false
noncomputable section
def impl_MostIn.st5 (list0 : List (Int × ByteArray × Int)) (article1 : ByteArray) (most6 : Int) (v17 : Int) (v18 : Int) : St := ⟨[.dat (.sl 43 (.pair (.int .i64) (.pair .str (.int .i64)))) list0, .dat .str article1, .gone, .gone, .gone, .gone, .dat (.int .i64) most6, .gone, .gone, .gone, .gone, .gone, .gone, .gone, .gone, .gone, .gone, .dat (.int .i64) v17, .dat (.int .i64) v18, .gone, .gone, .gone, .gone, .gone, .gone, .gone, .gone, .gone, .gone, .gone, .gone], []⟩
def impl_MostIn.con : Con := { ps := [(.val, (.sl 43 (.pair (.int .i64) (.pair .str (.int .i64))))), (.val, .str)], rs := [(.val, (.int .i64)), (.val, (.int .i64))], F := fun x => impl_MostIn.f x.1 x.2 }
def impl_MostIn.cs : List (FuncId × Con) := [(73, impl_AreBookings.con), (108, impl_IsWord.con), (144, impl_piecesLeft.con)]
def impl_MostIn.E : Env := envOf tab impl_MostIn.cs 0 false
def impl_MostIn.keep (i : Nat) : List Nat := if i = 5 then [0, 1, 6, 17, 18] else []
def impl_MostIn.at5 (n : Nat) (x : (List (Int × ByteArray × Int)) × ByteArray) : Code × (Ex → St → Option ((Int × Int))) := ctx impl_MostIn.E impl_MostIn.keep n [.snd, .snd, .snd, .fst, .snd, .blk] (codeOf Try.f69) (kEnd impl_MostIn.E Try.f69 impl_MostIn.con x)
def impl_MostIn.LN5 (n : Nat) (x : (List (Int × ByteArray × Int)) × ByteArray) : Nat → St → Option ((Int × Int)) := loopN (exec impl_MostIn.E impl_MostIn.keep n (bodyOf (impl_MostIn.at5 n x).1)) (St.norm 0 (impl_MostIn.keep 5)) (impl_MostIn.at5 n x).2
set_option maxRecDepth 100000 in
theorem impl_MostIn.lem5 (n : Nat) (x : (List (Int × ByteArray × Int)) × ByteArray) : ∀ (k : Nat) (list0 : List (Int × ByteArray × Int)) (article1 : ByteArray) (most6 : Int) (v17 : Int) (v18 : Int), impl_MostIn.LN5 n x k (impl_MostIn.st5 list0 article1 most6 v17 v18) = impl_MostIn.l5 n k list0 article1 most6 v17 v18 := by
  intro k
  induction k with
  | zero => intro list0 article1 most6 v17 v18; rfl
  | succ k ih =>
    intro list0 article1 most6 v17 v18
    have h : impl_MostIn.LN5 n x (k + 1) (impl_MostIn.st5 list0 article1 most6 v17 v18) = impl_MostIn.g5 (fun list0 article1 most6 v17 v18 => impl_MostIn.LN5 n x k (impl_MostIn.st5 list0 article1 most6 v17 v18)) list0 article1 most6 v17 v18 := by kernel_rfl
    rw [h]
    simp only [ih]
    rfl
set_option maxRecDepth 100000 in
theorem impl_MostIn.body (n : Nat) (x : (List (Int × ByteArray × Int)) × ByteArray) : bodyF impl_MostIn.E impl_MostIn.keep n Try.f69 impl_MostIn.con x = impl_MostIn.fn n x.1 x.2 := by
  have h : bodyF impl_MostIn.E impl_MostIn.keep n Try.f69 impl_MostIn.con x = impl_MostIn.top (fun list0 article1 most6 v17 v18 => impl_MostIn.LN5 n x n (impl_MostIn.st5 list0 article1 most6 v17 v18)) x.1 x.2 := by kernel_rfl
  rw [h]
  simp only [impl_MostIn.lem5]
  rfl
set_option maxRecDepth 100000 in
theorem impl_MostIn.good : Good Try.prog 69 impl_MostIn.con :=
  good_of tabok (cs := impl_MostIn.cs) ⟨impl_AreBookings.good, impl_IsWord.good, impl_piecesLeft.good, trivial⟩ 0 false (fn := Try.f69) Try.func69 rfl (by decide) (by simp [impl_MostIn.con]) impl_MostIn.keep NN (fun _ => rfl) (fun x => impl_MostIn.body NN x)
end
end Go.Ev.Try

namespace Go.Ev.Try
open Go.Proofs Go.Pl
set_option linter.unusedVariables false
noncomputable section
def spec_MostIn.st5 (list0 : List (Int × ByteArray × Int)) (article1 : ByteArray) (most6 : Int) (n7 : Int) : St := ⟨[.dat (.sl 43 (.pair (.int .i64) (.pair .str (.int .i64)))) list0, .dat .str article1, .gone, .gone, .gone, .gone, .dat (.int .i64) most6, .dat (.int .i64) n7, .gone, .gone, .gone, .gone, .gone, .gone, .gone, .gone, .gone, .gone, .gone, .gone, .gone, .gone, .gone, .gone, .gone, .gone, .gone, .gone, .gone], []⟩
def spec_MostIn.con : Con := { ps := [(.val, (.sl 43 (.pair (.int .i64) (.pair .str (.int .i64))))), (.val, .str)], rs := [(.val, (.int .i64)), (.val, (.int .i64))], F := fun x => spec_MostIn.f x.1 x.2 }
def spec_MostIn.cs : List (FuncId × Con) := [(101, spec_AreBookings.con), (107, spec_IsWord.con), (145, spec_l32Left.con)]
def spec_MostIn.E : Env := envOf tab spec_MostIn.cs 0 false
def spec_MostIn.keep (i : Nat) : List Nat := if i = 5 then [0, 1, 6, 7] else []
def spec_MostIn.at5 (n : Nat) (x : (List (Int × ByteArray × Int)) × ByteArray) : Code × (Ex → St → Option ((Int × Int))) := ctx spec_MostIn.E spec_MostIn.keep n [.snd, .snd, .snd, .fst, .snd, .blk] (codeOf Try.f70) (kEnd spec_MostIn.E Try.f70 spec_MostIn.con x)
def spec_MostIn.LN5 (n : Nat) (x : (List (Int × ByteArray × Int)) × ByteArray) : Nat → St → Option ((Int × Int)) := loopN (exec spec_MostIn.E spec_MostIn.keep n (bodyOf (spec_MostIn.at5 n x).1)) (St.norm 0 (spec_MostIn.keep 5)) (spec_MostIn.at5 n x).2
set_option maxRecDepth 100000 in
theorem spec_MostIn.lem5 (n : Nat) (x : (List (Int × ByteArray × Int)) × ByteArray) : ∀ (k : Nat) (list0 : List (Int × ByteArray × Int)) (article1 : ByteArray) (most6 : Int) (n7 : Int), spec_MostIn.LN5 n x k (spec_MostIn.st5 list0 article1 most6 n7) = spec_MostIn.l5 n k list0 article1 most6 n7 := by
  intro k
  induction k with
  | zero => intro list0 article1 most6 n7; rfl
  | succ k ih =>
    intro list0 article1 most6 n7
    have h : spec_MostIn.LN5 n x (k + 1) (spec_MostIn.st5 list0 article1 most6 n7) = spec_MostIn.g5 (fun list0 article1 most6 n7 => spec_MostIn.LN5 n x k (spec_MostIn.st5 list0 article1 most6 n7)) list0 article1 most6 n7 := by kernel_rfl
    rw [h]
    simp only [ih]
    rfl
set_option maxRecDepth 100000 in
theorem spec_MostIn.body (n : Nat) (x : (List (Int × ByteArray × Int)) × ByteArray) : bodyF spec_MostIn.E spec_MostIn.keep n Try.f70 spec_MostIn.con x = spec_MostIn.fn n x.1 x.2 := by
  have h : bodyF spec_MostIn.E spec_MostIn.keep n Try.f70 spec_MostIn.con x = spec_MostIn.top (fun list0 article1 most6 n7 => spec_MostIn.LN5 n x n (spec_MostIn.st5 list0 article1 most6 n7)) x.1 x.2 := by kernel_rfl
  rw [h]
  simp only [spec_MostIn.lem5]
  rfl
set_option maxRecDepth 100000 in
theorem spec_MostIn.good : Good Try.prog 70 spec_MostIn.con :=
  good_of tabok (cs := spec_MostIn.cs) ⟨spec_AreBookings.good, spec_IsWord.good, spec_l32Left.good, trivial⟩ 0 false (fn := Try.f70) Try.func70 rfl (by decide) (by simp [spec_MostIn.con]) spec_MostIn.keep NN (fun _ => rfl) (fun x => spec_MostIn.body NN x)
end
end Go.Ev.Try

namespace Go.Ev.Try
open Go.Proofs Go.Pl
set_option linter.unusedVariables false
noncomputable section
def laws_likeBookings.st4 (a0 : List (Int × ByteArray × Int)) (b1 : List (Int × ByteArray × Int)) (i5 : Int) : St := ⟨[.dat (.sl 43 (.pair (.int .i64) (.pair .str (.int .i64)))) a0, .dat (.sl 43 (.pair (.int .i64) (.pair .str (.int .i64)))) b1, .gone, .gone, .gone, .dat (.int .i64) i5, .gone, .gone, .gone, .gone, .gone, .gone, .gone, .gone, .gone, .gone, .gone, .gone, .gone, .gone, .gone, .gone, .gone, .gone, .gone, .gone], []⟩
def laws_likeBookings.con : Con := { ps := [(.val, (.sl 43 (.pair (.int .i64) (.pair .str (.int .i64))))), (.val, (.sl 43 (.pair (.int .i64) (.pair .str (.int .i64)))))], rs := [(.val, .bool)], F := fun x => laws_likeBookings.f x.1 x.2 }
def laws_likeBookings.cs : List (FuncId × Con) := []
def laws_likeBookings.E : Env := envOf tab laws_likeBookings.cs 0 false
def laws_likeBookings.keep (i : Nat) : List Nat := if i = 4 then [0, 1, 5] else []
def laws_likeBookings.at4 (n : Nat) (x : (List (Int × ByteArray × Int)) × List (Int × ByteArray × Int)) : Code × (Ex → St → Option (Bool)) := ctx laws_likeBookings.E laws_likeBookings.keep n [.snd, .snd, .fst, .snd, .blk] (codeOf Try.f71) (kEnd laws_likeBookings.E Try.f71 laws_likeBookings.con x)
def laws_likeBookings.LN4 (n : Nat) (x : (List (Int × ByteArray × Int)) × List (Int × ByteArray × Int)) : Nat → St → Option (Bool) := loopN (exec laws_likeBookings.E laws_likeBookings.keep n (bodyOf (laws_likeBookings.at4 n x).1)) (St.norm 0 (laws_likeBookings.keep 4)) (laws_likeBookings.at4 n x).2
set_option maxRecDepth 100000 in
theorem laws_likeBookings.lem4 (n : Nat) (x : (List (Int × ByteArray × Int)) × List (Int × ByteArray × Int)) : ∀ (k : Nat) (a0 : List (Int × ByteArray × Int)) (b1 : List (Int × ByteArray × Int)) (i5 : Int), laws_likeBookings.LN4 n x k (laws_likeBookings.st4 a0 b1 i5) = laws_likeBookings.l4 n k a0 b1 i5 := by
  intro k
  induction k with
  | zero => intro a0 b1 i5; rfl
  | succ k ih =>
    intro a0 b1 i5
    have h : laws_likeBookings.LN4 n x (k + 1) (laws_likeBookings.st4 a0 b1 i5) = laws_likeBookings.g4 (fun a0 b1 i5 => laws_likeBookings.LN4 n x k (laws_likeBookings.st4 a0 b1 i5)) a0 b1 i5 := by kernel_rfl
    rw [h]
    simp only [ih]
    rfl
set_option maxRecDepth 100000 in
theorem laws_likeBookings.body (n : Nat) (x : (List (Int × ByteArray × Int)) × List (Int × ByteArray × Int)) : bodyF laws_likeBookings.E laws_likeBookings.keep n Try.f71 laws_likeBookings.con x = laws_likeBookings.fn n x.1 x.2 := by
  have h : bodyF laws_likeBookings.E laws_likeBookings.keep n Try.f71 laws_likeBookings.con x = laws_likeBookings.top (fun a0 b1 i5 => laws_likeBookings.LN4 n x n (laws_likeBookings.st4 a0 b1 i5)) x.1 x.2 := by kernel_rfl
  rw [h]
  simp only [laws_likeBookings.lem4]
  rfl
set_option maxRecDepth 100000 in
theorem laws_likeBookings.good : Good Try.prog 71 laws_likeBookings.con :=
  good_of tabok (cs := laws_likeBookings.cs) trivial 0 false (fn := Try.f71) Try.func71 rfl (by decide) (by simp [laws_likeBookings.con]) laws_likeBookings.keep NN (fun _ => rfl) (fun x => laws_likeBookings.body NN x)
end
end Go.Ev.Try

namespace Go.Ev.Try
open Go.Proofs Go.Pl
set_option linter.unusedVariables false
noncomputable section
def laws_likeInts.st4 (a0 : List Int) (b1 : List Int) (i5 : Int) : St := ⟨[.dat (.sl 2 (.int .i64)) a0, .dat (.sl 2 (.int .i64)) b1, .gone, .gone, .gone, .dat (.int .i64) i5, .gone, .gone, .gone, .gone, .gone, .gone, .gone, .gone, .gone, .gone, .gone, .gone, .gone, .gone, .gone, .gone, .gone, .gone, .gone, .gone], []⟩
def laws_likeInts.con : Con := { ps := [(.val, (.sl 2 (.int .i64))), (.val, (.sl 2 (.int .i64)))], rs := [(.val, .bool)], F := fun x => laws_likeInts.f x.1 x.2 }
def laws_likeInts.cs : List (FuncId × Con) := []
def laws_likeInts.E : Env := envOf tab laws_likeInts.cs 0 false
def laws_likeInts.keep (i : Nat) : List Nat := if i = 4 then [0, 1, 5] else []
def laws_likeInts.at4 (n : Nat) (x : List Int × List Int) : Code × (Ex → St → Option (Bool)) := ctx laws_likeInts.E laws_likeInts.keep n [.snd, .snd, .fst, .snd, .blk] (codeOf Try.f72) (kEnd laws_likeInts.E Try.f72 laws_likeInts.con x)
def laws_likeInts.LN4 (n : Nat) (x : List Int × List Int) : Nat → St → Option (Bool) := loopN (exec laws_likeInts.E laws_likeInts.keep n (bodyOf (laws_likeInts.at4 n x).1)) (St.norm 0 (laws_likeInts.keep 4)) (laws_likeInts.at4 n x).2
set_option maxRecDepth 100000 in
theorem laws_likeInts.lem4 (n : Nat) (x : List Int × List Int) : ∀ (k : Nat) (a0 : List Int) (b1 : List Int) (i5 : Int), laws_likeInts.LN4 n x k (laws_likeInts.st4 a0 b1 i5) = laws_likeInts.l4 n k a0 b1 i5 := by
  intro k
  induction k with
  | zero => intro a0 b1 i5; rfl
  | succ k ih =>
    intro a0 b1 i5
    have h : laws_likeInts.LN4 n x (k + 1) (laws_likeInts.st4 a0 b1 i5) = laws_likeInts.g4 (fun a0 b1 i5 => laws_likeInts.LN4 n x k (laws_likeInts.st4 a0 b1 i5)) a0 b1 i5 := by kernel_rfl
    rw [h]
    simp only [ih]
    rfl
set_option maxRecDepth 100000 in
theorem laws_likeInts.body (n : Nat) (x : List Int × List Int) : bodyF laws_likeInts.E laws_likeInts.keep n Try.f72 laws_likeInts.con x = laws_likeInts.fn n x.1 x.2 := by
  have h : bodyF laws_likeInts.E laws_likeInts.keep n Try.f72 laws_likeInts.con x = laws_likeInts.top (fun a0 b1 i5 => laws_likeInts.LN4 n x n (laws_likeInts.st4 a0 b1 i5)) x.1 x.2 := by kernel_rfl
  rw [h]
  simp only [laws_likeInts.lem4]
  rfl
set_option maxRecDepth 100000 in
theorem laws_likeInts.good : Good Try.prog 72 laws_likeInts.con :=
  good_of tabok (cs := laws_likeInts.cs) trivial 0 false (fn := Try.f72) Try.func72 rfl (by decide) (by simp [laws_likeInts.con]) laws_likeInts.keep NN (fun _ => rfl) (fun x => laws_likeInts.body NN x)
end
end Go.Ev.Try
