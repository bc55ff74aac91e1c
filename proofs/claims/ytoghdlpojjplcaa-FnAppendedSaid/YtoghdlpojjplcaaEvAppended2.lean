/- Part 2 of what the law FnAppended stands on: an evaluator of the model's code, proved sound; the functions as plain texts; their contracts. -/
import Derived.Test.YtoghdlpojjplcaaChecked
import Derived.Test.YtoghdlpojjplcaaProg
import Derived.Test.YtoghdlpojjplcaaRows
import Derived.Below
import Derived.Calls
import Derived.Carry
import Derived.ChangeArms
import Derived.ChangeKeysEq
import Derived.ChangeOld
import Derived.Deep.Quiet
import Derived.KernelRfl
import Derived.Laws.Append
import Derived.Laws.BytesString
import Derived.Laws.MakeOwn
import Derived.Laws.Strings
import Derived.Laws.StructEq
import Derived.OpenShut
import Derived.OrdersHeld
import Derived.ProofKit
import Derived.ShutString
import Derived.SizedLaws
import Derived.Tactics
import Derived.WalkKit
import Derived.WideShapes
import Derived.Test.YtoghdlpojjplcaaEvAppended1
namespace Go.Ev.Try
open Go.Proofs Go.Pl
set_option linter.unusedVariables false
noncomputable section
def spec_l33Entry.topraw (s0 : List Int × Int × Int) : Option ((Int × ByteArray) × List Int × Int × Int) :=
  agree (
    (spec_l01Next.f s0 3).bind fun r1 =>
    if (0 : Int) ≤ r1.1 ∧ (r1.1 : Int) < (⟨#[102, 109, 122]⟩ : ByteArray).size then
      agree (
        agree (
          (spec_l01Next.f r1.2 5).bind fun r2 =>
          if (0 : Int) ≤ r2.1 ∧ (r2.1 : Int) < ([(⟨#[]⟩ : ByteArray), (⟨#[99, 117, 101, 32, 51, 32, 102, 105, 114, 101, 100]⟩ : ByteArray), (⟨#[109, 105, 115, 102, 105, 114, 101]⟩ : ByteArray), (⟨#[32, 97, 32, 32, 98, 32]⟩ : ByteArray), (⟨#[122, 111, 110, 101, 32, 102, 105, 101, 108, 100, 32, 99, 108, 101, 97, 114]⟩ : ByteArray)]).length then
            (spec_l01Next.f r2.2 30).bind fun r3 =>
            if ((r3.1 : Int) == 0) = true then
              (spec_l01Next.f r3.2 4).bind fun r4 =>
              if (0 : Int) ≤ r4.1 ∧ (r4.1 : Int) < (⟨#[65, 96, 123, 122]⟩ : ByteArray).size then
                some ((bt (⟨#[65, 96, 123, 122]⟩ : ByteArray) r4.1, ([(⟨#[]⟩ : ByteArray), (⟨#[99, 117, 101, 32, 51, 32, 102, 105, 114, 101, 100]⟩ : ByteArray), (⟨#[109, 105, 115, 102, 105, 114, 101]⟩ : ByteArray), (⟨#[32, 97, 32, 32, 98, 32]⟩ : ByteArray), (⟨#[122, 111, 110, 101, 32, 102, 105, 101, 108, 100, 32, 99, 108, 101, 97, 114]⟩ : ByteArray)]).getD (r2.1 : Int).toNat ByteArray.empty), r4.2)
              else
                none
            else if ((r3.1 : Int) == 1) = true then
              (spec_l01Next.f r3.2 3).bind fun r5 =>
              if (0 : Int) ≤ r5.1 ∧ (r5.1 : Int) < ([(⟨#[97, 10]⟩ : ByteArray), (⟨#[48, 49, 50, 51, 52, 53, 54, 55, 56, 57, 48, 49, 50, 51, 52, 53, 54, 55, 56, 57, 48, 49, 50, 51, 52, 53, 54, 55, 56, 57, 48, 49, 50, 51, 52, 53, 54, 55, 56, 57]⟩ : ByteArray), (⟨#[48, 49, 50, 51, 52, 53, 54, 55, 56, 57, 48, 49, 50, 51, 52, 53, 54, 55, 56, 57, 48, 49, 50, 51, 52, 53, 54, 55, 56, 57, 48, 49, 50, 51, 52, 53, 54, 55, 56, 57, 48]⟩ : ByteArray)]).length then
                some ((bt (⟨#[102, 109, 122]⟩ : ByteArray) r1.1, ([(⟨#[97, 10]⟩ : ByteArray), (⟨#[48, 49, 50, 51, 52, 53, 54, 55, 56, 57, 48, 49, 50, 51, 52, 53, 54, 55, 56, 57, 48, 49, 50, 51, 52, 53, 54, 55, 56, 57, 48, 49, 50, 51, 52, 53, 54, 55, 56, 57]⟩ : ByteArray), (⟨#[48, 49, 50, 51, 52, 53, 54, 55, 56, 57, 48, 49, 50, 51, 52, 53, 54, 55, 56, 57, 48, 49, 50, 51, 52, 53, 54, 55, 56, 57, 48, 49, 50, 51, 52, 53, 54, 55, 56, 57, 48]⟩ : ByteArray)]).getD (r5.1 : Int).toNat ByteArray.empty), r5.2)
              else
                none
            else
              some ((bt (⟨#[102, 109, 122]⟩ : ByteArray) r1.1, ([(⟨#[]⟩ : ByteArray), (⟨#[99, 117, 101, 32, 51, 32, 102, 105, 114, 101, 100]⟩ : ByteArray), (⟨#[109, 105, 115, 102, 105, 114, 101]⟩ : ByteArray), (⟨#[32, 97, 32, 32, 98, 32]⟩ : ByteArray), (⟨#[122, 111, 110, 101, 32, 102, 105, 101, 108, 100, 32, 99, 108, 101, 97, 114]⟩ : ByteArray)]).getD (r2.1 : Int).toNat ByteArray.empty), r3.2)
          else
            none
        ) (
          (spec_l01Next.f r1.2 5).bind fun r2 =>
          if (0 : Int) ≤ r2.1 ∧ (r2.1 : Int) < ([(⟨#[]⟩ : ByteArray), (⟨#[99, 117, 101, 32, 51, 32, 102, 105, 114, 101, 100]⟩ : ByteArray), (⟨#[109, 105, 115, 102, 105, 114, 101]⟩ : ByteArray), (⟨#[32, 97, 32, 32, 98, 32]⟩ : ByteArray), (⟨#[122, 111, 110, 101, 32, 102, 105, 101, 108, 100, 32, 99, 108, 101, 97, 114]⟩ : ByteArray)]).length then
            (spec_l01Next.f r2.2 30).bind fun r3 =>
            if ((r3.1 : Int) == 0) = true then
              (spec_l01Next.f r3.2 4).bind fun r4 =>
              if (0 : Int) ≤ r4.1 ∧ (r4.1 : Int) < (⟨#[65, 96, 123, 122]⟩ : ByteArray).size then
                some ((bt (⟨#[65, 96, 123, 122]⟩ : ByteArray) r4.1, ([(⟨#[]⟩ : ByteArray), (⟨#[99, 117, 101, 32, 51, 32, 102, 105, 114, 101, 100]⟩ : ByteArray), (⟨#[109, 105, 115, 102, 105, 114, 101]⟩ : ByteArray), (⟨#[32, 97, 32, 32, 98, 32]⟩ : ByteArray), (⟨#[122, 111, 110, 101, 32, 102, 105, 101, 108, 100, 32, 99, 108, 101, 97, 114]⟩ : ByteArray)]).getD (r2.1 : Int).toNat ByteArray.empty), r4.2)
              else
                none
            else if ((r3.1 : Int) == 1) = true then
              (spec_l01Next.f r3.2 3).bind fun r5 =>
              if (0 : Int) ≤ r5.1 ∧ (r5.1 : Int) < ([(⟨#[97, 10]⟩ : ByteArray), (⟨#[48, 49, 50, 51, 52, 53, 54, 55, 56, 57, 48, 49, 50, 51, 52, 53, 54, 55, 56, 57, 48, 49, 50, 51, 52, 53, 54, 55, 56, 57, 48, 49, 50, 51, 52, 53, 54, 55, 56, 57]⟩ : ByteArray), (⟨#[48, 49, 50, 51, 52, 53, 54, 55, 56, 57, 48, 49, 50, 51, 52, 53, 54, 55, 56, 57, 48, 49, 50, 51, 52, 53, 54, 55, 56, 57, 48, 49, 50, 51, 52, 53, 54, 55, 56, 57, 48]⟩ : ByteArray)]).length then
                some ((bt (⟨#[102, 109, 122]⟩ : ByteArray) r1.1, ([(⟨#[97, 10]⟩ : ByteArray), (⟨#[48, 49, 50, 51, 52, 53, 54, 55, 56, 57, 48, 49, 50, 51, 52, 53, 54, 55, 56, 57, 48, 49, 50, 51, 52, 53, 54, 55, 56, 57, 48, 49, 50, 51, 52, 53, 54, 55, 56, 57]⟩ : ByteArray), (⟨#[48, 49, 50, 51, 52, 53, 54, 55, 56, 57, 48, 49, 50, 51, 52, 53, 54, 55, 56, 57, 48, 49, 50, 51, 52, 53, 54, 55, 56, 57, 48, 49, 50, 51, 52, 53, 54, 55, 56, 57, 48]⟩ : ByteArray)]).getD (r5.1 : Int).toNat ByteArray.empty), r5.2)
              else
                none
            else
              some ((bt (⟨#[102, 109, 122]⟩ : ByteArray) r1.1, ([(⟨#[]⟩ : ByteArray), (⟨#[99, 117, 101, 32, 51, 32, 102, 105, 114, 101, 100]⟩ : ByteArray), (⟨#[109, 105, 115, 102, 105, 114, 101]⟩ : ByteArray), (⟨#[32, 97, 32, 32, 98, 32]⟩ : ByteArray), (⟨#[122, 111, 110, 101, 32, 102, 105, 101, 108, 100, 32, 99, 108, 101, 97, 114]⟩ : ByteArray)]).getD (r2.1 : Int).toNat ByteArray.empty), r3.2)
          else
            none
        )
      ) (
        agree (
          (spec_l01Next.f r1.2 5).bind fun r2 =>
          agree (
            if (0 : Int) ≤ r2.1 ∧ (r2.1 : Int) < ([(⟨#[]⟩ : ByteArray), (⟨#[99, 117, 101, 32, 51, 32, 102, 105, 114, 101, 100]⟩ : ByteArray), (⟨#[109, 105, 115, 102, 105, 114, 101]⟩ : ByteArray), (⟨#[32, 97, 32, 32, 98, 32]⟩ : ByteArray), (⟨#[122, 111, 110, 101, 32, 102, 105, 101, 108, 100, 32, 99, 108, 101, 97, 114]⟩ : ByteArray)]).length then
              (spec_l01Next.f r2.2 30).bind fun r3 =>
              if ((r3.1 : Int) == 0) = true then
                (spec_l01Next.f r3.2 4).bind fun r4 =>
                if (0 : Int) ≤ r4.1 ∧ (r4.1 : Int) < (⟨#[65, 96, 123, 122]⟩ : ByteArray).size then
                  some ((bt (⟨#[65, 96, 123, 122]⟩ : ByteArray) r4.1, ([(⟨#[]⟩ : ByteArray), (⟨#[99, 117, 101, 32, 51, 32, 102, 105, 114, 101, 100]⟩ : ByteArray), (⟨#[109, 105, 115, 102, 105, 114, 101]⟩ : ByteArray), (⟨#[32, 97, 32, 32, 98, 32]⟩ : ByteArray), (⟨#[122, 111, 110, 101, 32, 102, 105, 101, 108, 100, 32, 99, 108, 101, 97, 114]⟩ : ByteArray)]).getD (r2.1 : Int).toNat ByteArray.empty), r4.2)
                else
                  none
              else if ((r3.1 : Int) == 1) = true then
                (spec_l01Next.f r3.2 3).bind fun r5 =>
                if (0 : Int) ≤ r5.1 ∧ (r5.1 : Int) < ([(⟨#[97, 10]⟩ : ByteArray), (⟨#[48, 49, 50, 51, 52, 53, 54, 55, 56, 57, 48, 49, 50, 51, 52, 53, 54, 55, 56, 57, 48, 49, 50, 51, 52, 53, 54, 55, 56, 57, 48, 49, 50, 51, 52, 53, 54, 55, 56, 57]⟩ : ByteArray), (⟨#[48, 49, 50, 51, 52, 53, 54, 55, 56, 57, 48, 49, 50, 51, 52, 53, 54, 55, 56, 57, 48, 49, 50, 51, 52, 53, 54, 55, 56, 57, 48, 49, 50, 51, 52, 53, 54, 55, 56, 57, 48]⟩ : ByteArray)]).length then
                  some ((bt (⟨#[102, 109, 122]⟩ : ByteArray) r1.1, ([(⟨#[97, 10]⟩ : ByteArray), (⟨#[48, 49, 50, 51, 52, 53, 54, 55, 56, 57, 48, 49, 50, 51, 52, 53, 54, 55, 56, 57, 48, 49, 50, 51, 52, 53, 54, 55, 56, 57, 48, 49, 50, 51, 52, 53, 54, 55, 56, 57]⟩ : ByteArray), (⟨#[48, 49, 50, 51, 52, 53, 54, 55, 56, 57, 48, 49, 50, 51, 52, 53, 54, 55, 56, 57, 48, 49, 50, 51, 52, 53, 54, 55, 56, 57, 48, 49, 50, 51, 52, 53, 54, 55, 56, 57, 48]⟩ : ByteArray)]).getD (r5.1 : Int).toNat ByteArray.empty), r5.2)
                else
                  none
              else
                some ((bt (⟨#[102, 109, 122]⟩ : ByteArray) r1.1, ([(⟨#[]⟩ : ByteArray), (⟨#[99, 117, 101, 32, 51, 32, 102, 105, 114, 101, 100]⟩ : ByteArray), (⟨#[109, 105, 115, 102, 105, 114, 101]⟩ : ByteArray), (⟨#[32, 97, 32, 32, 98, 32]⟩ : ByteArray), (⟨#[122, 111, 110, 101, 32, 102, 105, 101, 108, 100, 32, 99, 108, 101, 97, 114]⟩ : ByteArray)]).getD (r2.1 : Int).toNat ByteArray.empty), r3.2)
            else
              none
          ) (
            if (0 : Int) ≤ r2.1 ∧ (r2.1 : Int) < ([(⟨#[]⟩ : ByteArray), (⟨#[99, 117, 101, 32, 51, 32, 102, 105, 114, 101, 100]⟩ : ByteArray), (⟨#[109, 105, 115, 102, 105, 114, 101]⟩ : ByteArray), (⟨#[32, 97, 32, 32, 98, 32]⟩ : ByteArray), (⟨#[122, 111, 110, 101, 32, 102, 105, 101, 108, 100, 32, 99, 108, 101, 97, 114]⟩ : ByteArray)]).length then
              (spec_l01Next.f r2.2 30).bind fun r3 =>
              if ((r3.1 : Int) == 0) = true then
                (spec_l01Next.f r3.2 4).bind fun r4 =>
                if (0 : Int) ≤ r4.1 ∧ (r4.1 : Int) < (⟨#[65, 96, 123, 122]⟩ : ByteArray).size then
                  some ((bt (⟨#[65, 96, 123, 122]⟩ : ByteArray) r4.1, ([(⟨#[]⟩ : ByteArray), (⟨#[99, 117, 101, 32, 51, 32, 102, 105, 114, 101, 100]⟩ : ByteArray), (⟨#[109, 105, 115, 102, 105, 114, 101]⟩ : ByteArray), (⟨#[32, 97, 32, 32, 98, 32]⟩ : ByteArray), (⟨#[122, 111, 110, 101, 32, 102, 105, 101, 108, 100, 32, 99, 108, 101, 97, 114]⟩ : ByteArray)]).getD (r2.1 : Int).toNat ByteArray.empty), r4.2)
                else
                  none
              else if ((r3.1 : Int) == 1) = true then
                (spec_l01Next.f r3.2 3).bind fun r5 =>
                if (0 : Int) ≤ r5.1 ∧ (r5.1 : Int) < ([(⟨#[97, 10]⟩ : ByteArray), (⟨#[48, 49, 50, 51, 52, 53, 54, 55, 56, 57, 48, 49, 50, 51, 52, 53, 54, 55, 56, 57, 48, 49, 50, 51, 52, 53, 54, 55, 56, 57, 48, 49, 50, 51, 52, 53, 54, 55, 56, 57]⟩ : ByteArray), (⟨#[48, 49, 50, 51, 52, 53, 54, 55, 56, 57, 48, 49, 50, 51, 52, 53, 54, 55, 56, 57, 48, 49, 50, 51, 52, 53, 54, 55, 56, 57, 48, 49, 50, 51, 52, 53, 54, 55, 56, 57, 48]⟩ : ByteArray)]).length then
                  some ((bt (⟨#[102, 109, 122]⟩ : ByteArray) r1.1, ([(⟨#[97, 10]⟩ : ByteArray), (⟨#[48, 49, 50, 51, 52, 53, 54, 55, 56, 57, 48, 49, 50, 51, 52, 53, 54, 55, 56, 57, 48, 49, 50, 51, 52, 53, 54, 55, 56, 57, 48, 49, 50, 51, 52, 53, 54, 55, 56, 57]⟩ : ByteArray), (⟨#[48, 49, 50, 51, 52, 53, 54, 55, 56, 57, 48, 49, 50, 51, 52, 53, 54, 55, 56, 57, 48, 49, 50, 51, 52, 53, 54, 55, 56, 57, 48, 49, 50, 51, 52, 53, 54, 55, 56, 57, 48]⟩ : ByteArray)]).getD (r5.1 : Int).toNat ByteArray.empty), r5.2)
                else
                  none
              else
                some ((bt (⟨#[102, 109, 122]⟩ : ByteArray) r1.1, ([(⟨#[]⟩ : ByteArray), (⟨#[99, 117, 101, 32, 51, 32, 102, 105, 114, 101, 100]⟩ : ByteArray), (⟨#[109, 105, 115, 102, 105, 114, 101]⟩ : ByteArray), (⟨#[32, 97, 32, 32, 98, 32]⟩ : ByteArray), (⟨#[122, 111, 110, 101, 32, 102, 105, 101, 108, 100, 32, 99, 108, 101, 97, 114]⟩ : ByteArray)]).getD (r2.1 : Int).toNat ByteArray.empty), r3.2)
            else
              none
          )
        ) (
          agree (
            (spec_l01Next.f r1.2 5).bind fun r2 =>
            if (0 : Int) ≤ r2.1 ∧ (r2.1 : Int) < ([(⟨#[]⟩ : ByteArray), (⟨#[99, 117, 101, 32, 51, 32, 102, 105, 114, 101, 100]⟩ : ByteArray), (⟨#[109, 105, 115, 102, 105, 114, 101]⟩ : ByteArray), (⟨#[32, 97, 32, 32, 98, 32]⟩ : ByteArray), (⟨#[122, 111, 110, 101, 32, 102, 105, 101, 108, 100, 32, 99, 108, 101, 97, 114]⟩ : ByteArray)]).length then
              (spec_l01Next.f r2.2 30).bind fun r3 =>
              if ((r3.1 : Int) == 0) = true then
                (spec_l01Next.f r3.2 4).bind fun r4 =>
                if (0 : Int) ≤ r4.1 ∧ (r4.1 : Int) < (⟨#[65, 96, 123, 122]⟩ : ByteArray).size then
                  some ((bt (⟨#[65, 96, 123, 122]⟩ : ByteArray) r4.1, ([(⟨#[]⟩ : ByteArray), (⟨#[99, 117, 101, 32, 51, 32, 102, 105, 114, 101, 100]⟩ : ByteArray), (⟨#[109, 105, 115, 102, 105, 114, 101]⟩ : ByteArray), (⟨#[32, 97, 32, 32, 98, 32]⟩ : ByteArray), (⟨#[122, 111, 110, 101, 32, 102, 105, 101, 108, 100, 32, 99, 108, 101, 97, 114]⟩ : ByteArray)]).getD (r2.1 : Int).toNat ByteArray.empty), r4.2)
                else
                  none
              else if ((r3.1 : Int) == 1) = true then
                (spec_l01Next.f r3.2 3).bind fun r5 =>
                if (0 : Int) ≤ r5.1 ∧ (r5.1 : Int) < ([(⟨#[97, 10]⟩ : ByteArray), (⟨#[48, 49, 50, 51, 52, 53, 54, 55, 56, 57, 48, 49, 50, 51, 52, 53, 54, 55, 56, 57, 48, 49, 50, 51, 52, 53, 54, 55, 56, 57, 48, 49, 50, 51, 52, 53, 54, 55, 56, 57]⟩ : ByteArray), (⟨#[48, 49, 50, 51, 52, 53, 54, 55, 56, 57, 48, 49, 50, 51, 52, 53, 54, 55, 56, 57, 48, 49, 50, 51, 52, 53, 54, 55, 56, 57, 48, 49, 50, 51, 52, 53, 54, 55, 56, 57, 48]⟩ : ByteArray)]).length then
                  some ((bt (⟨#[102, 109, 122]⟩ : ByteArray) r1.1, ([(⟨#[97, 10]⟩ : ByteArray), (⟨#[48, 49, 50, 51, 52, 53, 54, 55, 56, 57, 48, 49, 50, 51, 52, 53, 54, 55, 56, 57, 48, 49, 50, 51, 52, 53, 54, 55, 56, 57, 48, 49, 50, 51, 52, 53, 54, 55, 56, 57]⟩ : ByteArray), (⟨#[48, 49, 50, 51, 52, 53, 54, 55, 56, 57, 48, 49, 50, 51, 52, 53, 54, 55, 56, 57, 48, 49, 50, 51, 52, 53, 54, 55, 56, 57, 48, 49, 50, 51, 52, 53, 54, 55, 56, 57, 48]⟩ : ByteArray)]).getD (r5.1 : Int).toNat ByteArray.empty), r5.2)
                else
                  none
              else
                some ((bt (⟨#[102, 109, 122]⟩ : ByteArray) r1.1, ([(⟨#[]⟩ : ByteArray), (⟨#[99, 117, 101, 32, 51, 32, 102, 105, 114, 101, 100]⟩ : ByteArray), (⟨#[109, 105, 115, 102, 105, 114, 101]⟩ : ByteArray), (⟨#[32, 97, 32, 32, 98, 32]⟩ : ByteArray), (⟨#[122, 111, 110, 101, 32, 102, 105, 101, 108, 100, 32, 99, 108, 101, 97, 114]⟩ : ByteArray)]).getD (r2.1 : Int).toNat ByteArray.empty), r3.2)
            else
              none
          ) (
            (spec_l01Next.f r1.2 5).bind fun r2 =>
            if (0 : Int) ≤ r2.1 ∧ (r2.1 : Int) < ([(⟨#[]⟩ : ByteArray), (⟨#[99, 117, 101, 32, 51, 32, 102, 105, 114, 101, 100]⟩ : ByteArray), (⟨#[109, 105, 115, 102, 105, 114, 101]⟩ : ByteArray), (⟨#[32, 97, 32, 32, 98, 32]⟩ : ByteArray), (⟨#[122, 111, 110, 101, 32, 102, 105, 101, 108, 100, 32, 99, 108, 101, 97, 114]⟩ : ByteArray)]).length then
              (spec_l01Next.f r2.2 30).bind fun r3 =>
              if ((r3.1 : Int) == 0) = true then
                (spec_l01Next.f r3.2 4).bind fun r4 =>
                if (0 : Int) ≤ r4.1 ∧ (r4.1 : Int) < (⟨#[65, 96, 123, 122]⟩ : ByteArray).size then
                  some ((bt (⟨#[65, 96, 123, 122]⟩ : ByteArray) r4.1, ([(⟨#[]⟩ : ByteArray), (⟨#[99, 117, 101, 32, 51, 32, 102, 105, 114, 101, 100]⟩ : ByteArray), (⟨#[109, 105, 115, 102, 105, 114, 101]⟩ : ByteArray), (⟨#[32, 97, 32, 32, 98, 32]⟩ : ByteArray), (⟨#[122, 111, 110, 101, 32, 102, 105, 101, 108, 100, 32, 99, 108, 101, 97, 114]⟩ : ByteArray)]).getD (r2.1 : Int).toNat ByteArray.empty), r4.2)
                else
                  none
              else if ((r3.1 : Int) == 1) = true then
                (spec_l01Next.f r3.2 3).bind fun r5 =>
                if (0 : Int) ≤ r5.1 ∧ (r5.1 : Int) < ([(⟨#[97, 10]⟩ : ByteArray), (⟨#[48, 49, 50, 51, 52, 53, 54, 55, 56, 57, 48, 49, 50, 51, 52, 53, 54, 55, 56, 57, 48, 49, 50, 51, 52, 53, 54, 55, 56, 57, 48, 49, 50, 51, 52, 53, 54, 55, 56, 57]⟩ : ByteArray), (⟨#[48, 49, 50, 51, 52, 53, 54, 55, 56, 57, 48, 49, 50, 51, 52, 53, 54, 55, 56, 57, 48, 49, 50, 51, 52, 53, 54, 55, 56, 57, 48, 49, 50, 51, 52, 53, 54, 55, 56, 57, 48]⟩ : ByteArray)]).length then
                  some ((bt (⟨#[102, 109, 122]⟩ : ByteArray) r1.1, ([(⟨#[97, 10]⟩ : ByteArray), (⟨#[48, 49, 50, 51, 52, 53, 54, 55, 56, 57, 48, 49, 50, 51, 52, 53, 54, 55, 56, 57, 48, 49, 50, 51, 52, 53, 54, 55, 56, 57, 48, 49, 50, 51, 52, 53, 54, 55, 56, 57]⟩ : ByteArray), (⟨#[48, 49, 50, 51, 52, 53, 54, 55, 56, 57, 48, 49, 50, 51, 52, 53, 54, 55, 56, 57, 48, 49, 50, 51, 52, 53, 54, 55, 56, 57, 48, 49, 50, 51, 52, 53, 54, 55, 56, 57, 48]⟩ : ByteArray)]).getD (r5.1 : Int).toNat ByteArray.empty), r5.2)
                else
                  none
              else
                some ((bt (⟨#[102, 109, 122]⟩ : ByteArray) r1.1, ([(⟨#[]⟩ : ByteArray), (⟨#[99, 117, 101, 32, 51, 32, 102, 105, 114, 101, 100]⟩ : ByteArray), (⟨#[109, 105, 115, 102, 105, 114, 101]⟩ : ByteArray), (⟨#[32, 97, 32, 32, 98, 32]⟩ : ByteArray), (⟨#[122, 111, 110, 101, 32, 102, 105, 101, 108, 100, 32, 99, 108, 101, 97, 114]⟩ : ByteArray)]).getD (r2.1 : Int).toNat ByteArray.empty), r3.2)
            else
              none
          )
        )
      )
    else
      none
  ) (
    agree (
      agree (
        (spec_l01Next.f s0 3).bind fun r1 =>
        if (0 : Int) ≤ r1.1 ∧ (r1.1 : Int) < (⟨#[102, 109, 122]⟩ : ByteArray).size then
          agree (
            (spec_l01Next.f r1.2 5).bind fun r2 =>
            if (0 : Int) ≤ r2.1 ∧ (r2.1 : Int) < ([(⟨#[]⟩ : ByteArray), (⟨#[99, 117, 101, 32, 51, 32, 102, 105, 114, 101, 100]⟩ : ByteArray), (⟨#[109, 105, 115, 102, 105, 114, 101]⟩ : ByteArray), (⟨#[32, 97, 32, 32, 98, 32]⟩ : ByteArray), (⟨#[122, 111, 110, 101, 32, 102, 105, 101, 108, 100, 32, 99, 108, 101, 97, 114]⟩ : ByteArray)]).length then
              (spec_l01Next.f r2.2 30).bind fun r3 =>
              if ((r3.1 : Int) == 0) = true then
                (spec_l01Next.f r3.2 4).bind fun r4 =>
                if (0 : Int) ≤ r4.1 ∧ (r4.1 : Int) < (⟨#[65, 96, 123, 122]⟩ : ByteArray).size then
                  some ((bt (⟨#[65, 96, 123, 122]⟩ : ByteArray) r4.1, ([(⟨#[]⟩ : ByteArray), (⟨#[99, 117, 101, 32, 51, 32, 102, 105, 114, 101, 100]⟩ : ByteArray), (⟨#[109, 105, 115, 102, 105, 114, 101]⟩ : ByteArray), (⟨#[32, 97, 32, 32, 98, 32]⟩ : ByteArray), (⟨#[122, 111, 110, 101, 32, 102, 105, 101, 108, 100, 32, 99, 108, 101, 97, 114]⟩ : ByteArray)]).getD (r2.1 : Int).toNat ByteArray.empty), r4.2)
                else
                  none
              else if ((r3.1 : Int) == 1) = true then
                (spec_l01Next.f r3.2 3).bind fun r5 =>
                if (0 : Int) ≤ r5.1 ∧ (r5.1 : Int) < ([(⟨#[97, 10]⟩ : ByteArray), (⟨#[48, 49, 50, 51, 52, 53, 54, 55, 56, 57, 48, 49, 50, 51, 52, 53, 54, 55, 56, 57, 48, 49, 50, 51, 52, 53, 54, 55, 56, 57, 48, 49, 50, 51, 52, 53, 54, 55, 56, 57]⟩ : ByteArray), (⟨#[48, 49, 50, 51, 52, 53, 54, 55, 56, 57, 48, 49, 50, 51, 52, 53, 54, 55, 56, 57, 48, 49, 50, 51, 52, 53, 54, 55, 56, 57, 48, 49, 50, 51, 52, 53, 54, 55, 56, 57, 48]⟩ : ByteArray)]).length then
                  some ((bt (⟨#[102, 109, 122]⟩ : ByteArray) r1.1, ([(⟨#[97, 10]⟩ : ByteArray), (⟨#[48, 49, 50, 51, 52, 53, 54, 55, 56, 57, 48, 49, 50, 51, 52, 53, 54, 55, 56, 57, 48, 49, 50, 51, 52, 53, 54, 55, 56, 57, 48, 49, 50, 51, 52, 53, 54, 55, 56, 57]⟩ : ByteArray), (⟨#[48, 49, 50, 51, 52, 53, 54, 55, 56, 57, 48, 49, 50, 51, 52, 53, 54, 55, 56, 57, 48, 49, 50, 51, 52, 53, 54, 55, 56, 57, 48, 49, 50, 51, 52, 53, 54, 55, 56, 57, 48]⟩ : ByteArray)]).getD (r5.1 : Int).toNat ByteArray.empty), r5.2)
                else
                  none
              else
                some ((bt (⟨#[102, 109, 122]⟩ : ByteArray) r1.1, ([(⟨#[]⟩ : ByteArray), (⟨#[99, 117, 101, 32, 51, 32, 102, 105, 114, 101, 100]⟩ : ByteArray), (⟨#[109, 105, 115, 102, 105, 114, 101]⟩ : ByteArray), (⟨#[32, 97, 32, 32, 98, 32]⟩ : ByteArray), (⟨#[122, 111, 110, 101, 32, 102, 105, 101, 108, 100, 32, 99, 108, 101, 97, 114]⟩ : ByteArray)]).getD (r2.1 : Int).toNat ByteArray.empty), r3.2)
            else
              none
          ) (
            (spec_l01Next.f r1.2 5).bind fun r2 =>
            if (0 : Int) ≤ r2.1 ∧ (r2.1 : Int) < ([(⟨#[]⟩ : ByteArray), (⟨#[99, 117, 101, 32, 51, 32, 102, 105, 114, 101, 100]⟩ : ByteArray), (⟨#[109, 105, 115, 102, 105, 114, 101]⟩ : ByteArray), (⟨#[32, 97, 32, 32, 98, 32]⟩ : ByteArray), (⟨#[122, 111, 110, 101, 32, 102, 105, 101, 108, 100, 32, 99, 108, 101, 97, 114]⟩ : ByteArray)]).length then
              (spec_l01Next.f r2.2 30).bind fun r3 =>
              if ((r3.1 : Int) == 0) = true then
                (spec_l01Next.f r3.2 4).bind fun r4 =>
                if (0 : Int) ≤ r4.1 ∧ (r4.1 : Int) < (⟨#[65, 96, 123, 122]⟩ : ByteArray).size then
                  some ((bt (⟨#[65, 96, 123, 122]⟩ : ByteArray) r4.1, ([(⟨#[]⟩ : ByteArray), (⟨#[99, 117, 101, 32, 51, 32, 102, 105, 114, 101, 100]⟩ : ByteArray), (⟨#[109, 105, 115, 102, 105, 114, 101]⟩ : ByteArray), (⟨#[32, 97, 32, 32, 98, 32]⟩ : ByteArray), (⟨#[122, 111, 110, 101, 32, 102, 105, 101, 108, 100, 32, 99, 108, 101, 97, 114]⟩ : ByteArray)]).getD (r2.1 : Int).toNat ByteArray.empty), r4.2)
                else
                  none
              else if ((r3.1 : Int) == 1) = true then
                (spec_l01Next.f r3.2 3).bind fun r5 =>
                if (0 : Int) ≤ r5.1 ∧ (r5.1 : Int) < ([(⟨#[97, 10]⟩ : ByteArray), (⟨#[48, 49, 50, 51, 52, 53, 54, 55, 56, 57, 48, 49, 50, 51, 52, 53, 54, 55, 56, 57, 48, 49, 50, 51, 52, 53, 54, 55, 56, 57, 48, 49, 50, 51, 52, 53, 54, 55, 56, 57]⟩ : ByteArray), (⟨#[48, 49, 50, 51, 52, 53, 54, 55, 56, 57, 48, 49, 50, 51, 52, 53, 54, 55, 56, 57, 48, 49, 50, 51, 52, 53, 54, 55, 56, 57, 48, 49, 50, 51, 52, 53, 54, 55, 56, 57, 48]⟩ : ByteArray)]).length then
                  some ((bt (⟨#[102, 109, 122]⟩ : ByteArray) r1.1, ([(⟨#[97, 10]⟩ : ByteArray), (⟨#[48, 49, 50, 51, 52, 53, 54, 55, 56, 57, 48, 49, 50, 51, 52, 53, 54, 55, 56, 57, 48, 49, 50, 51, 52, 53, 54, 55, 56, 57, 48, 49, 50, 51, 52, 53, 54, 55, 56, 57]⟩ : ByteArray), (⟨#[48, 49, 50, 51, 52, 53, 54, 55, 56, 57, 48, 49, 50, 51, 52, 53, 54, 55, 56, 57, 48, 49, 50, 51, 52, 53, 54, 55, 56, 57, 48, 49, 50, 51, 52, 53, 54, 55, 56, 57, 48]⟩ : ByteArray)]).getD (r5.1 : Int).toNat ByteArray.empty), r5.2)
                else
                  none
              else
                some ((bt (⟨#[102, 109, 122]⟩ : ByteArray) r1.1, ([(⟨#[]⟩ : ByteArray), (⟨#[99, 117, 101, 32, 51, 32, 102, 105, 114, 101, 100]⟩ : ByteArray), (⟨#[109, 105, 115, 102, 105, 114, 101]⟩ : ByteArray), (⟨#[32, 97, 32, 32, 98, 32]⟩ : ByteArray), (⟨#[122, 111, 110, 101, 32, 102, 105, 101, 108, 100, 32, 99, 108, 101, 97, 114]⟩ : ByteArray)]).getD (r2.1 : Int).toNat ByteArray.empty), r3.2)
            else
              none
          )
        else
          none
      ) (
        (spec_l01Next.f s0 3).bind fun r1 =>
        if (0 : Int) ≤ r1.1 ∧ (r1.1 : Int) < (⟨#[102, 109, 122]⟩ : ByteArray).size then
          (spec_l01Next.f r1.2 5).bind fun r2 =>
          if (0 : Int) ≤ r2.1 ∧ (r2.1 : Int) < ([(⟨#[]⟩ : ByteArray), (⟨#[99, 117, 101, 32, 51, 32, 102, 105, 114, 101, 100]⟩ : ByteArray), (⟨#[109, 105, 115, 102, 105, 114, 101]⟩ : ByteArray), (⟨#[32, 97, 32, 32, 98, 32]⟩ : ByteArray), (⟨#[122, 111, 110, 101, 32, 102, 105, 101, 108, 100, 32, 99, 108, 101, 97, 114]⟩ : ByteArray)]).length then
            (spec_l01Next.f r2.2 30).bind fun r3 =>
            if ((r3.1 : Int) == 0) = true then
              (spec_l01Next.f r3.2 4).bind fun r4 =>
              if (0 : Int) ≤ r4.1 ∧ (r4.1 : Int) < (⟨#[65, 96, 123, 122]⟩ : ByteArray).size then
                some ((bt (⟨#[65, 96, 123, 122]⟩ : ByteArray) r4.1, ([(⟨#[]⟩ : ByteArray), (⟨#[99, 117, 101, 32, 51, 32, 102, 105, 114, 101, 100]⟩ : ByteArray), (⟨#[109, 105, 115, 102, 105, 114, 101]⟩ : ByteArray), (⟨#[32, 97, 32, 32, 98, 32]⟩ : ByteArray), (⟨#[122, 111, 110, 101, 32, 102, 105, 101, 108, 100, 32, 99, 108, 101, 97, 114]⟩ : ByteArray)]).getD (r2.1 : Int).toNat ByteArray.empty), r4.2)
              else
                none
            else if ((r3.1 : Int) == 1) = true then
              (spec_l01Next.f r3.2 3).bind fun r5 =>
              if (0 : Int) ≤ r5.1 ∧ (r5.1 : Int) < ([(⟨#[97, 10]⟩ : ByteArray), (⟨#[48, 49, 50, 51, 52, 53, 54, 55, 56, 57, 48, 49, 50, 51, 52, 53, 54, 55, 56, 57, 48, 49, 50, 51, 52, 53, 54, 55, 56, 57, 48, 49, 50, 51, 52, 53, 54, 55, 56, 57]⟩ : ByteArray), (⟨#[48, 49, 50, 51, 52, 53, 54, 55, 56, 57, 48, 49, 50, 51, 52, 53, 54, 55, 56, 57, 48, 49, 50, 51, 52, 53, 54, 55, 56, 57, 48, 49, 50, 51, 52, 53, 54, 55, 56, 57, 48]⟩ : ByteArray)]).length then
                some ((bt (⟨#[102, 109, 122]⟩ : ByteArray) r1.1, ([(⟨#[97, 10]⟩ : ByteArray), (⟨#[48, 49, 50, 51, 52, 53, 54, 55, 56, 57, 48, 49, 50, 51, 52, 53, 54, 55, 56, 57, 48, 49, 50, 51, 52, 53, 54, 55, 56, 57, 48, 49, 50, 51, 52, 53, 54, 55, 56, 57]⟩ : ByteArray), (⟨#[48, 49, 50, 51, 52, 53, 54, 55, 56, 57, 48, 49, 50, 51, 52, 53, 54, 55, 56, 57, 48, 49, 50, 51, 52, 53, 54, 55, 56, 57, 48, 49, 50, 51, 52, 53, 54, 55, 56, 57, 48]⟩ : ByteArray)]).getD (r5.1 : Int).toNat ByteArray.empty), r5.2)
              else
                none
            else
              some ((bt (⟨#[102, 109, 122]⟩ : ByteArray) r1.1, ([(⟨#[]⟩ : ByteArray), (⟨#[99, 117, 101, 32, 51, 32, 102, 105, 114, 101, 100]⟩ : ByteArray), (⟨#[109, 105, 115, 102, 105, 114, 101]⟩ : ByteArray), (⟨#[32, 97, 32, 32, 98, 32]⟩ : ByteArray), (⟨#[122, 111, 110, 101, 32, 102, 105, 101, 108, 100, 32, 99, 108, 101, 97, 114]⟩ : ByteArray)]).getD (r2.1 : Int).toNat ByteArray.empty), r3.2)
          else
            none
        else
          none
      )
    ) (
      agree (
        (spec_l01Next.f s0 3).bind fun r1 =>
        if (0 : Int) ≤ r1.1 ∧ (r1.1 : Int) < (⟨#[102, 109, 122]⟩ : ByteArray).size then
          agree (
            (spec_l01Next.f r1.2 5).bind fun r2 =>
            if (0 : Int) ≤ r2.1 ∧ (r2.1 : Int) < ([(⟨#[]⟩ : ByteArray), (⟨#[99, 117, 101, 32, 51, 32, 102, 105, 114, 101, 100]⟩ : ByteArray), (⟨#[109, 105, 115, 102, 105, 114, 101]⟩ : ByteArray), (⟨#[32, 97, 32, 32, 98, 32]⟩ : ByteArray), (⟨#[122, 111, 110, 101, 32, 102, 105, 101, 108, 100, 32, 99, 108, 101, 97, 114]⟩ : ByteArray)]).length then
              (spec_l01Next.f r2.2 30).bind fun r3 =>
              if ((r3.1 : Int) == 0) = true then
                (spec_l01Next.f r3.2 4).bind fun r4 =>
                if (0 : Int) ≤ r4.1 ∧ (r4.1 : Int) < (⟨#[65, 96, 123, 122]⟩ : ByteArray).size then
                  some ((bt (⟨#[65, 96, 123, 122]⟩ : ByteArray) r4.1, ([(⟨#[]⟩ : ByteArray), (⟨#[99, 117, 101, 32, 51, 32, 102, 105, 114, 101, 100]⟩ : ByteArray), (⟨#[109, 105, 115, 102, 105, 114, 101]⟩ : ByteArray), (⟨#[32, 97, 32, 32, 98, 32]⟩ : ByteArray), (⟨#[122, 111, 110, 101, 32, 102, 105, 101, 108, 100, 32, 99, 108, 101, 97, 114]⟩ : ByteArray)]).getD (r2.1 : Int).toNat ByteArray.empty), r4.2)
                else
                  none
              else if ((r3.1 : Int) == 1) = true then
                (spec_l01Next.f r3.2 3).bind fun r5 =>
                if (0 : Int) ≤ r5.1 ∧ (r5.1 : Int) < ([(⟨#[97, 10]⟩ : ByteArray), (⟨#[48, 49, 50, 51, 52, 53, 54, 55, 56, 57, 48, 49, 50, 51, 52, 53, 54, 55, 56, 57, 48, 49, 50, 51, 52, 53, 54, 55, 56, 57, 48, 49, 50, 51, 52, 53, 54, 55, 56, 57]⟩ : ByteArray), (⟨#[48, 49, 50, 51, 52, 53, 54, 55, 56, 57, 48, 49, 50, 51, 52, 53, 54, 55, 56, 57, 48, 49, 50, 51, 52, 53, 54, 55, 56, 57, 48, 49, 50, 51, 52, 53, 54, 55, 56, 57, 48]⟩ : ByteArray)]).length then
                  some ((bt (⟨#[102, 109, 122]⟩ : ByteArray) r1.1, ([(⟨#[97, 10]⟩ : ByteArray), (⟨#[48, 49, 50, 51, 52, 53, 54, 55, 56, 57, 48, 49, 50, 51, 52, 53, 54, 55, 56, 57, 48, 49, 50, 51, 52, 53, 54, 55, 56, 57, 48, 49, 50, 51, 52, 53, 54, 55, 56, 57]⟩ : ByteArray), (⟨#[48, 49, 50, 51, 52, 53, 54, 55, 56, 57, 48, 49, 50, 51, 52, 53, 54, 55, 56, 57, 48, 49, 50, 51, 52, 53, 54, 55, 56, 57, 48, 49, 50, 51, 52, 53, 54, 55, 56, 57, 48]⟩ : ByteArray)]).getD (r5.1 : Int).toNat ByteArray.empty), r5.2)
                else
                  none
              else
                some ((bt (⟨#[102, 109, 122]⟩ : ByteArray) r1.1, ([(⟨#[]⟩ : ByteArray), (⟨#[99, 117, 101, 32, 51, 32, 102, 105, 114, 101, 100]⟩ : ByteArray), (⟨#[109, 105, 115, 102, 105, 114, 101]⟩ : ByteArray), (⟨#[32, 97, 32, 32, 98, 32]⟩ : ByteArray), (⟨#[122, 111, 110, 101, 32, 102, 105, 101, 108, 100, 32, 99, 108, 101, 97, 114]⟩ : ByteArray)]).getD (r2.1 : Int).toNat ByteArray.empty), r3.2)
            else
              none
          ) (
            (spec_l01Next.f r1.2 5).bind fun r2 =>
            if (0 : Int) ≤ r2.1 ∧ (r2.1 : Int) < ([(⟨#[]⟩ : ByteArray), (⟨#[99, 117, 101, 32, 51, 32, 102, 105, 114, 101, 100]⟩ : ByteArray), (⟨#[109, 105, 115, 102, 105, 114, 101]⟩ : ByteArray), (⟨#[32, 97, 32, 32, 98, 32]⟩ : ByteArray), (⟨#[122, 111, 110, 101, 32, 102, 105, 101, 108, 100, 32, 99, 108, 101, 97, 114]⟩ : ByteArray)]).length then
              (spec_l01Next.f r2.2 30).bind fun r3 =>
              if ((r3.1 : Int) == 0) = true then
                (spec_l01Next.f r3.2 4).bind fun r4 =>
                if (0 : Int) ≤ r4.1 ∧ (r4.1 : Int) < (⟨#[65, 96, 123, 122]⟩ : ByteArray).size then
                  some ((bt (⟨#[65, 96, 123, 122]⟩ : ByteArray) r4.1, ([(⟨#[]⟩ : ByteArray), (⟨#[99, 117, 101, 32, 51, 32, 102, 105, 114, 101, 100]⟩ : ByteArray), (⟨#[109, 105, 115, 102, 105, 114, 101]⟩ : ByteArray), (⟨#[32, 97, 32, 32, 98, 32]⟩ : ByteArray), (⟨#[122, 111, 110, 101, 32, 102, 105, 101, 108, 100, 32, 99, 108, 101, 97, 114]⟩ : ByteArray)]).getD (r2.1 : Int).toNat ByteArray.empty), r4.2)
                else
                  none
              else if ((r3.1 : Int) == 1) = true then
                (spec_l01Next.f r3.2 3).bind fun r5 =>
                if (0 : Int) ≤ r5.1 ∧ (r5.1 : Int) < ([(⟨#[97, 10]⟩ : ByteArray), (⟨#[48, 49, 50, 51, 52, 53, 54, 55, 56, 57, 48, 49, 50, 51, 52, 53, 54, 55, 56, 57, 48, 49, 50, 51, 52, 53, 54, 55, 56, 57, 48, 49, 50, 51, 52, 53, 54, 55, 56, 57]⟩ : ByteArray), (⟨#[48, 49, 50, 51, 52, 53, 54, 55, 56, 57, 48, 49, 50, 51, 52, 53, 54, 55, 56, 57, 48, 49, 50, 51, 52, 53, 54, 55, 56, 57, 48, 49, 50, 51, 52, 53, 54, 55, 56, 57, 48]⟩ : ByteArray)]).length then
                  some ((bt (⟨#[102, 109, 122]⟩ : ByteArray) r1.1, ([(⟨#[97, 10]⟩ : ByteArray), (⟨#[48, 49, 50, 51, 52, 53, 54, 55, 56, 57, 48, 49, 50, 51, 52, 53, 54, 55, 56, 57, 48, 49, 50, 51, 52, 53, 54, 55, 56, 57, 48, 49, 50, 51, 52, 53, 54, 55, 56, 57]⟩ : ByteArray), (⟨#[48, 49, 50, 51, 52, 53, 54, 55, 56, 57, 48, 49, 50, 51, 52, 53, 54, 55, 56, 57, 48, 49, 50, 51, 52, 53, 54, 55, 56, 57, 48, 49, 50, 51, 52, 53, 54, 55, 56, 57, 48]⟩ : ByteArray)]).getD (r5.1 : Int).toNat ByteArray.empty), r5.2)
                else
                  none
              else
                some ((bt (⟨#[102, 109, 122]⟩ : ByteArray) r1.1, ([(⟨#[]⟩ : ByteArray), (⟨#[99, 117, 101, 32, 51, 32, 102, 105, 114, 101, 100]⟩ : ByteArray), (⟨#[109, 105, 115, 102, 105, 114, 101]⟩ : ByteArray), (⟨#[32, 97, 32, 32, 98, 32]⟩ : ByteArray), (⟨#[122, 111, 110, 101, 32, 102, 105, 101, 108, 100, 32, 99, 108, 101, 97, 114]⟩ : ByteArray)]).getD (r2.1 : Int).toNat ByteArray.empty), r3.2)
            else
              none
          )
        else
          none
      ) (
        (spec_l01Next.f s0 3).bind fun r1 =>
        if (0 : Int) ≤ r1.1 ∧ (r1.1 : Int) < (⟨#[102, 109, 122]⟩ : ByteArray).size then
          (spec_l01Next.f r1.2 5).bind fun r2 =>
          if (0 : Int) ≤ r2.1 ∧ (r2.1 : Int) < ([(⟨#[]⟩ : ByteArray), (⟨#[99, 117, 101, 32, 51, 32, 102, 105, 114, 101, 100]⟩ : ByteArray), (⟨#[109, 105, 115, 102, 105, 114, 101]⟩ : ByteArray), (⟨#[32, 97, 32, 32, 98, 32]⟩ : ByteArray), (⟨#[122, 111, 110, 101, 32, 102, 105, 101, 108, 100, 32, 99, 108, 101, 97, 114]⟩ : ByteArray)]).length then
            (spec_l01Next.f r2.2 30).bind fun r3 =>
            if ((r3.1 : Int) == 0) = true then
              (spec_l01Next.f r3.2 4).bind fun r4 =>
              if (0 : Int) ≤ r4.1 ∧ (r4.1 : Int) < (⟨#[65, 96, 123, 122]⟩ : ByteArray).size then
                some ((bt (⟨#[65, 96, 123, 122]⟩ : ByteArray) r4.1, ([(⟨#[]⟩ : ByteArray), (⟨#[99, 117, 101, 32, 51, 32, 102, 105, 114, 101, 100]⟩ : ByteArray), (⟨#[109, 105, 115, 102, 105, 114, 101]⟩ : ByteArray), (⟨#[32, 97, 32, 32, 98, 32]⟩ : ByteArray), (⟨#[122, 111, 110, 101, 32, 102, 105, 101, 108, 100, 32, 99, 108, 101, 97, 114]⟩ : ByteArray)]).getD (r2.1 : Int).toNat ByteArray.empty), r4.2)
              else
                none
            else if ((r3.1 : Int) == 1) = true then
              (spec_l01Next.f r3.2 3).bind fun r5 =>
              if (0 : Int) ≤ r5.1 ∧ (r5.1 : Int) < ([(⟨#[97, 10]⟩ : ByteArray), (⟨#[48, 49, 50, 51, 52, 53, 54, 55, 56, 57, 48, 49, 50, 51, 52, 53, 54, 55, 56, 57, 48, 49, 50, 51, 52, 53, 54, 55, 56, 57, 48, 49, 50, 51, 52, 53, 54, 55, 56, 57]⟩ : ByteArray), (⟨#[48, 49, 50, 51, 52, 53, 54, 55, 56, 57, 48, 49, 50, 51, 52, 53, 54, 55, 56, 57, 48, 49, 50, 51, 52, 53, 54, 55, 56, 57, 48, 49, 50, 51, 52, 53, 54, 55, 56, 57, 48]⟩ : ByteArray)]).length then
                some ((bt (⟨#[102, 109, 122]⟩ : ByteArray) r1.1, ([(⟨#[97, 10]⟩ : ByteArray), (⟨#[48, 49, 50, 51, 52, 53, 54, 55, 56, 57, 48, 49, 50, 51, 52, 53, 54, 55, 56, 57, 48, 49, 50, 51, 52, 53, 54, 55, 56, 57, 48, 49, 50, 51, 52, 53, 54, 55, 56, 57]⟩ : ByteArray), (⟨#[48, 49, 50, 51, 52, 53, 54, 55, 56, 57, 48, 49, 50, 51, 52, 53, 54, 55, 56, 57, 48, 49, 50, 51, 52, 53, 54, 55, 56, 57, 48, 49, 50, 51, 52, 53, 54, 55, 56, 57, 48]⟩ : ByteArray)]).getD (r5.1 : Int).toNat ByteArray.empty), r5.2)
              else
                none
            else
              some ((bt (⟨#[102, 109, 122]⟩ : ByteArray) r1.1, ([(⟨#[]⟩ : ByteArray), (⟨#[99, 117, 101, 32, 51, 32, 102, 105, 114, 101, 100]⟩ : ByteArray), (⟨#[109, 105, 115, 102, 105, 114, 101]⟩ : ByteArray), (⟨#[32, 97, 32, 32, 98, 32]⟩ : ByteArray), (⟨#[122, 111, 110, 101, 32, 102, 105, 101, 108, 100, 32, 99, 108, 101, 97, 114]⟩ : ByteArray)]).getD (r2.1 : Int).toNat ByteArray.empty), r3.2)
          else
            none
        else
          none
      )
    )
  )
theorem spec_l33Entry.topraw_eq (s0 : List Int × Int × Int) : spec_l33Entry.topraw s0 = spec_l33Entry.top s0 := by
  unfold spec_l33Entry.topraw spec_l33Entry.top
  simp only [agree_self]
def spec_l33Entry.con : Con := { ps := [(.bx 219, (.pair (.sl 5 (.int .u8)) (.pair (.int .i64) (.int .i64))))], rs := [(.val, (.pair (.int .u8) .str))], F := fun x => spec_l33Entry.f x }
def spec_l33Entry.cs : List (FuncId × Con) := [(109, spec_l01Next.con)]
def spec_l33Entry.E : Env := envOf tab spec_l33Entry.cs 1 false
def spec_l33Entry.keep (i : Nat) : List Nat := []
set_option maxRecDepth 100000 in
theorem spec_l33Entry.body (n : Nat) (x : List Int × Int × Int) : bodyF spec_l33Entry.E spec_l33Entry.keep n Try.f196 spec_l33Entry.con x = spec_l33Entry.fn n x := by
  have h : bodyF spec_l33Entry.E spec_l33Entry.keep n Try.f196 spec_l33Entry.con x = spec_l33Entry.topraw x := by kernel_rfl
  rw [spec_l33Entry.topraw_eq] at h
  exact h
set_option maxRecDepth 100000 in
theorem spec_l33Entry.good : Good Try.prog 196 spec_l33Entry.con :=
  good_of tabok (cs := spec_l33Entry.cs) ⟨spec_l01Next.good, trivial⟩ 1 false (fn := Try.f196) Try.func196 rfl (by decide) (by simp [spec_l33Entry.con]) spec_l33Entry.keep NN (fun _ => rfl) (fun x => spec_l33Entry.body NN x)
end
end Go.Ev.Try

namespace Go.Ev.Try
open Go.Proofs Go.Pl
set_option linter.unusedVariables false
noncomputable section
def spec_l33List.st7 (s0 : List Int × Int × Int) (out3 : List (Int × ByteArray)) : St := ⟨[.ptr 0 [], .gone, .gone, .ref 1, .gone, .gone, .gone, .gone, .gone, .gone, .gone, .gone, .gone, .gone, .gone, .gone, .gone, .gone, .gone, .gone, .gone, .gone, .gone, .gone, .gone, .gone, .gone, .gone, .gone, .gone, .gone], [.box 219 (.pair (.sl 5 (.int .u8)) (.pair (.int .i64) (.int .i64))) (.dat (.pair (.sl 5 (.int .u8)) (.pair (.int .i64) (.int .i64))) s0), .row 120 (.pair (.int .u8) .str) out3 none]⟩
def spec_l33List.st3 (n4 : Int) (s0 : List Int × Int × Int) (out3 : List (Int × ByteArray)) : St := ⟨[.ptr 0 [], .gone, .gone, .ref 1, .dat (.int .i64) n4, .gone, .gone, .gone, .gone, .gone, .gone, .gone, .gone, .gone, .gone, .gone, .gone, .gone, .gone, .gone, .gone, .gone, .gone, .gone, .gone, .gone, .gone, .gone, .gone, .gone, .gone], [.box 219 (.pair (.sl 5 (.int .u8)) (.pair (.int .i64) (.int .i64))) (.dat (.pair (.sl 5 (.int .u8)) (.pair (.int .i64) (.int .i64))) s0), .row 120 (.pair (.int .u8) .str) out3 none]⟩
def spec_l33List.con : Con := { ps := [(.bx 219, (.pair (.sl 5 (.int .u8)) (.pair (.int .i64) (.int .i64))))], rs := [(.own, (.sl 120 (.pair (.int .u8) .str)))], F := fun x => spec_l33List.f x }
def spec_l33List.cs : List (FuncId × Con) := [(109, spec_l01Next.con), (196, spec_l33Entry.con)]
def spec_l33List.E : Env := envOf tab spec_l33List.cs 1 false
def spec_l33List.keep (i : Nat) : List Nat := if i = 7 then [0, 3] else if i = 3 then [0, 3, 4] else []
def spec_l33List.at7 (n : Nat) (x : List Int × Int × Int) : Code × (Ex → St → Option (((List (Int × ByteArray)) × List Int × Int × Int))) := ctx spec_l33List.E spec_l33List.keep n [.snd, .snd, .snd, .fst, .snd, .yes, .blk] (codeOf Try.f181) (kEnd spec_l33List.E Try.f181 spec_l33List.con x)
def spec_l33List.LN7 (n : Nat) (x : List Int × Int × Int) : Nat → St → Option (((List (Int × ByteArray)) × List Int × Int × Int)) := loopN (exec spec_l33List.E spec_l33List.keep n (bodyOf (spec_l33List.at7 n x).1)) (St.norm 1 (spec_l33List.keep 7)) (spec_l33List.at7 n x).2
def spec_l33List.at3 (n : Nat) (x : List Int × Int × Int) : Code × (Ex → St → Option (((List (Int × ByteArray)) × List Int × Int × Int))) := ctx spec_l33List.E spec_l33List.keep n [.snd, .snd, .fst, .snd, .blk] (codeOf Try.f181) (kEnd spec_l33List.E Try.f181 spec_l33List.con x)
def spec_l33List.LN3 (n : Nat) (x : List Int × Int × Int) : Nat → St → Option (((List (Int × ByteArray)) × List Int × Int × Int)) := loopN (exec spec_l33List.E spec_l33List.keep n (bodyOf (spec_l33List.at3 n x).1)) (St.norm 1 (spec_l33List.keep 3)) (spec_l33List.at3 n x).2
set_option maxRecDepth 100000 in
theorem spec_l33List.lem7 (n : Nat) (x : List Int × Int × Int) : ∀ (k : Nat) (s0 : List Int × Int × Int) (out3 : List (Int × ByteArray)), spec_l33List.LN7 n x k (spec_l33List.st7 s0 out3) = spec_l33List.l7 n k s0 out3 := by
  intro k
  induction k with
  | zero => intro s0 out3; rfl
  | succ k ih =>
    intro s0 out3
    have h : spec_l33List.LN7 n x (k + 1) (spec_l33List.st7 s0 out3) = spec_l33List.g7 (fun s0 out3 => spec_l33List.LN7 n x k (spec_l33List.st7 s0 out3)) s0 out3 := by kernel_rfl
    rw [h]
    simp only [ih]
    rfl
set_option maxRecDepth 100000 in
theorem spec_l33List.lem3 (n : Nat) (x : List Int × Int × Int) : ∀ (k : Nat) (n4 : Int) (s0 : List Int × Int × Int) (out3 : List (Int × ByteArray)), spec_l33List.LN3 n x k (spec_l33List.st3 n4 s0 out3) = spec_l33List.l3 n k n4 s0 out3 := by
  intro k
  induction k with
  | zero => intro n4 s0 out3; rfl
  | succ k ih =>
    intro n4 s0 out3
    have h : spec_l33List.LN3 n x (k + 1) (spec_l33List.st3 n4 s0 out3) = spec_l33List.g3 (fun s0 out3 => spec_l33List.LN7 n x n (spec_l33List.st7 s0 out3)) (fun n4 s0 out3 => spec_l33List.LN3 n x k (spec_l33List.st3 n4 s0 out3)) n4 s0 out3 := by kernel_rfl
    rw [h]
    simp only [ih, spec_l33List.lem7]
    rfl
set_option maxRecDepth 100000 in
theorem spec_l33List.body (n : Nat) (x : List Int × Int × Int) : bodyF spec_l33List.E spec_l33List.keep n Try.f181 spec_l33List.con x = spec_l33List.fn n x := by
  have h : bodyF spec_l33List.E spec_l33List.keep n Try.f181 spec_l33List.con x = spec_l33List.top (fun n4 s0 out3 => spec_l33List.LN3 n x n (spec_l33List.st3 n4 s0 out3)) x := by kernel_rfl
  rw [h]
  simp only [spec_l33List.lem3]
  rfl
set_option maxRecDepth 100000 in
theorem spec_l33List.good : Good Try.prog 181 spec_l33List.con :=
  good_of tabok (cs := spec_l33List.cs) ⟨spec_l01Next.good, spec_l33Entry.good, trivial⟩ 1 false (fn := Try.f181) Try.func181 rfl (by decide) (by simp [spec_l33List.con]) spec_l33List.keep NN (fun _ => rfl) (fun x => spec_l33List.body NN x)
end
end Go.Ev.Try

namespace Go.Ev.Try
open Go.Proofs Go.Pl
set_option linter.unusedVariables false
noncomputable section
def spec_l33All.st2 (list0 : List (Int × ByteArray)) (i3 : Int) : St := ⟨[.dat (.sl 120 (.pair (.int .u8) .str)) list0, .gone, .gone, .dat (.int .i64) i3, .gone, .gone, .gone, .gone, .gone, .gone, .gone, .gone, .gone, .gone, .gone, .gone], []⟩
def spec_l33All.con : Con := { ps := [(.val, (.sl 120 (.pair (.int .u8) .str)))], rs := [(.val, .bool)], F := fun x => spec_l33All.f x }
def spec_l33All.cs : List (FuncId × Con) := [(254, spec_l33Is.con)]
def spec_l33All.E : Env := envOf tab spec_l33All.cs 0 false
def spec_l33All.keep (i : Nat) : List Nat := if i = 2 then [0, 3] else []
def spec_l33All.at2 (n : Nat) (x : List (Int × ByteArray)) : Code × (Ex → St → Option (Bool)) := ctx spec_l33All.E spec_l33All.keep n [.snd, .fst, .snd, .blk] (codeOf Try.f236) (kEnd spec_l33All.E Try.f236 spec_l33All.con x)
def spec_l33All.LN2 (n : Nat) (x : List (Int × ByteArray)) : Nat → St → Option (Bool) := loopN (exec spec_l33All.E spec_l33All.keep n (bodyOf (spec_l33All.at2 n x).1)) (St.norm 0 (spec_l33All.keep 2)) (spec_l33All.at2 n x).2
set_option maxRecDepth 100000 in
theorem spec_l33All.lem2 (n : Nat) (x : List (Int × ByteArray)) : ∀ (k : Nat) (list0 : List (Int × ByteArray)) (i3 : Int), spec_l33All.LN2 n x k (spec_l33All.st2 list0 i3) = spec_l33All.l2 n k list0 i3 := by
  intro k
  induction k with
  | zero => intro list0 i3; rfl
  | succ k ih =>
    intro list0 i3
    have h : spec_l33All.LN2 n x (k + 1) (spec_l33All.st2 list0 i3) = spec_l33All.g2 (fun list0 i3 => spec_l33All.LN2 n x k (spec_l33All.st2 list0 i3)) list0 i3 := by kernel_rfl
    rw [h]
    simp only [ih]
    rfl
set_option maxRecDepth 100000 in
theorem spec_l33All.body (n : Nat) (x : List (Int × ByteArray)) : bodyF spec_l33All.E spec_l33All.keep n Try.f236 spec_l33All.con x = spec_l33All.fn n x := by
  have h : bodyF spec_l33All.E spec_l33All.keep n Try.f236 spec_l33All.con x = spec_l33All.top (fun list0 i3 => spec_l33All.LN2 n x n (spec_l33All.st2 list0 i3)) x := by kernel_rfl
  rw [h]
  simp only [spec_l33All.lem2]
  rfl
set_option maxRecDepth 100000 in
theorem spec_l33All.good : Good Try.prog 236 spec_l33All.con :=
  good_of tabok (cs := spec_l33All.cs) ⟨spec_l33Is.good, trivial⟩ 0 false (fn := Try.f236) Try.func236 rfl (by decide) (by simp [spec_l33All.con]) spec_l33All.keep NN (fun _ => rfl) (fun x => spec_l33All.body NN x)
end
end Go.Ev.Try

namespace Go.Ev.Try
open Go.Proofs Go.Pl
set_option linter.unusedVariables false
noncomputable section
def spec_l33Code.con : Con := { ps := [(.val, (.sl 120 (.pair (.int .u8) .str)))], rs := [(.val, (.int .i64))], F := fun x => spec_l33Code.f x }
def spec_l33Code.cs : List (FuncId × Con) := [(236, spec_l33All.con)]
def spec_l33Code.E : Env := envOf tab spec_l33Code.cs 0 false
def spec_l33Code.keep (i : Nat) : List Nat := []
set_option maxRecDepth 100000 in
theorem spec_l33Code.body (n : Nat) (x : List (Int × ByteArray)) : bodyF spec_l33Code.E spec_l33Code.keep n Try.f184 spec_l33Code.con x = spec_l33Code.fn n x := by
  have h : bodyF spec_l33Code.E spec_l33Code.keep n Try.f184 spec_l33Code.con x = spec_l33Code.top x := by kernel_rfl
  exact h
set_option maxRecDepth 100000 in
theorem spec_l33Code.good : Good Try.prog 184 spec_l33Code.con :=
  good_of tabok (cs := spec_l33Code.cs) ⟨spec_l33All.good, trivial⟩ 0 false (fn := Try.f184) Try.func184 rfl (by decide) (by simp [spec_l33Code.con]) spec_l33Code.keep NN (fun _ => rfl) (fun x => spec_l33Code.body NN x)
end
end Go.Ev.Try

namespace Go.Ev.Try
open Go.Proofs Go.Pl
set_option linter.unusedVariables false
noncomputable section
def spec_l33Write.st3 (list0 : List (Int × ByteArray)) (out3 : ByteArray) (check4 : Int) (i5 : Int) : St := ⟨[.dat (.sl 120 (.pair (.int .u8) .str)) list0, .gone, .gone, .dat .str out3, .dat (.int .i64) check4, .dat (.int .i64) i5, .gone, .gone, .gone, .gone, .gone, .gone, .gone, .gone, .gone, .gone, .gone, .gone, .gone, .gone, .gone, .gone, .gone, .gone, .gone, .gone, .gone], []⟩
def spec_l33Write.con : Con := { ps := [(.val, (.sl 120 (.pair (.int .u8) .str)))], rs := [(.val, .str)], F := fun x => spec_l33Write.f x }
def spec_l33Write.cs : List (FuncId × Con) := [(237, spec_l33Check.con), (238, spec_l33Line.con)]
def spec_l33Write.E : Env := envOf tab spec_l33Write.cs 0 false
def spec_l33Write.keep (i : Nat) : List Nat := if i = 3 then [0, 3, 4, 5] else []
def spec_l33Write.at3 (n : Nat) (x : List (Int × ByteArray)) : Code × (Ex → St → Option (ByteArray)) := ctx spec_l33Write.E spec_l33Write.keep n [.snd, .snd, .fst, .snd, .blk] (codeOf Try.f185) (kEnd spec_l33Write.E Try.f185 spec_l33Write.con x)
def spec_l33Write.LN3 (n : Nat) (x : List (Int × ByteArray)) : Nat → St → Option (ByteArray) := loopN (exec spec_l33Write.E spec_l33Write.keep n (bodyOf (spec_l33Write.at3 n x).1)) (St.norm 0 (spec_l33Write.keep 3)) (spec_l33Write.at3 n x).2
set_option maxRecDepth 100000 in
theorem spec_l33Write.lem3 (n : Nat) (x : List (Int × ByteArray)) : ∀ (k : Nat) (list0 : List (Int × ByteArray)) (out3 : ByteArray) (check4 : Int) (i5 : Int), spec_l33Write.LN3 n x k (spec_l33Write.st3 list0 out3 check4 i5) = spec_l33Write.l3 n k list0 out3 check4 i5 := by
  intro k
  induction k with
  | zero => intro list0 out3 check4 i5; rfl
  | succ k ih =>
    intro list0 out3 check4 i5
    have h : spec_l33Write.LN3 n x (k + 1) (spec_l33Write.st3 list0 out3 check4 i5) = spec_l33Write.g3 (fun list0 out3 check4 i5 => spec_l33Write.LN3 n x k (spec_l33Write.st3 list0 out3 check4 i5)) list0 out3 check4 i5 := by kernel_rfl
    rw [h]
    simp only [ih]
    rfl
set_option maxRecDepth 100000 in
theorem spec_l33Write.body (n : Nat) (x : List (Int × ByteArray)) : bodyF spec_l33Write.E spec_l33Write.keep n Try.f185 spec_l33Write.con x = spec_l33Write.fn n x := by
  have h : bodyF spec_l33Write.E spec_l33Write.keep n Try.f185 spec_l33Write.con x = spec_l33Write.top (fun list0 out3 check4 i5 => spec_l33Write.LN3 n x n (spec_l33Write.st3 list0 out3 check4 i5)) x := by kernel_rfl
  rw [h]
  simp only [spec_l33Write.lem3]
  rfl
set_option maxRecDepth 100000 in
theorem spec_l33Write.good : Good Try.prog 185 spec_l33Write.con :=
  good_of tabok (cs := spec_l33Write.cs) ⟨spec_l33Check.good, spec_l33Line.good, trivial⟩ 0 false (fn := Try.f185) Try.func185 rfl (by decide) (by simp [spec_l33Write.con]) spec_l33Write.keep NN (fun _ => rfl) (fun x => spec_l33Write.body NN x)
end
end Go.Ev.Try

namespace Go.Ev.Try
open Go.Proofs Go.Pl
set_option linter.unusedVariables false
noncomputable section
def spec_l33Journal.con : Con := { ps := [(.bx 219, (.pair (.sl 5 (.int .u8)) (.pair (.int .i64) (.int .i64))))], rs := [(.val, .str)], F := fun x => spec_l33Journal.f x }
def spec_l33Journal.cs : List (FuncId × Con) := [(109, spec_l01Next.con), (170, spec_l01Damage.con), (181, spec_l33List.con), (184, spec_l33Code.con), (185, spec_l33Write.con)]
def spec_l33Journal.E : Env := envOf tab spec_l33Journal.cs 1 false
def spec_l33Journal.keep (i : Nat) : List Nat := []
set_option maxRecDepth 100000 in
theorem spec_l33Journal.body (n : Nat) (x : List Int × Int × Int) : bodyF spec_l33Journal.E spec_l33Journal.keep n Try.f186 spec_l33Journal.con x = spec_l33Journal.fn n x := by
  have h : bodyF spec_l33Journal.E spec_l33Journal.keep n Try.f186 spec_l33Journal.con x = spec_l33Journal.top x := by kernel_rfl
  exact h
set_option maxRecDepth 100000 in
theorem spec_l33Journal.good : Good Try.prog 186 spec_l33Journal.con :=
  good_of tabok (cs := spec_l33Journal.cs) ⟨spec_l01Next.good, spec_l01Damage.good, spec_l33List.good, spec_l33Code.good, spec_l33Write.good, trivial⟩ 1 false (fn := Try.f186) Try.func186 rfl (by decide) (by simp [spec_l33Journal.con]) spec_l33Journal.keep NN (fun _ => rfl) (fun x => spec_l33Journal.body NN x)
end
end Go.Ev.Try

namespace Go.Ev.Try
open Go.Proofs Go.Pl
set_option linter.unusedVariables false
noncomputable section
def spec_DrawAppendEntry.con : Con := { ps := [(.val, (.sl 5 (.int .u8)))], rs := [(.val, .str), (.val, (.pair (.int .u8) .str))], F := fun x => spec_DrawAppendEntry.f x }
def spec_DrawAppendEntry.cs : List (FuncId × Con) := [(107, spec_l01From.con), (186, spec_l33Journal.con), (196, spec_l33Entry.con)]
def spec_DrawAppendEntry.E : Env := envOf tab spec_DrawAppendEntry.cs 0 false
def spec_DrawAppendEntry.keep (i : Nat) : List Nat := []
set_option maxRecDepth 100000 in
theorem spec_DrawAppendEntry.body (n : Nat) (x : List Int) : bodyF spec_DrawAppendEntry.E spec_DrawAppendEntry.keep n Try.f92 spec_DrawAppendEntry.con x = spec_DrawAppendEntry.fn n x := by
  have h : bodyF spec_DrawAppendEntry.E spec_DrawAppendEntry.keep n Try.f92 spec_DrawAppendEntry.con x = spec_DrawAppendEntry.top x := by kernel_rfl
  exact h
set_option maxRecDepth 100000 in
theorem spec_DrawAppendEntry.good : Good Try.prog 92 spec_DrawAppendEntry.con :=
  good_of tabok (cs := spec_DrawAppendEntry.cs) ⟨spec_l01From.good, spec_l33Journal.good, spec_l33Entry.good, trivial⟩ 0 false (fn := Try.f92) Try.func92 rfl (by decide) (by simp [spec_DrawAppendEntry.con]) spec_DrawAppendEntry.keep NN (fun _ => rfl) (fun x => spec_DrawAppendEntry.body NN x)
end
end Go.Ev.Try

namespace Go.Ev.Try
open Go.Proofs Go.Pl
set_option linter.unusedVariables false
noncomputable section
def impl_journalOf.st3 (out3 : ByteArray) (check4 : Int) (v7 : List (Int × ByteArray)) (v8 : Int) (v9 : Int) : St := ⟨[.gone, .gone, .gone, .dat .str out3, .dat (.int .i64) check4, .gone, .gone, .dat (.sl 120 (.pair (.int .u8) .str)) v7, .dat (.int .i64) v8, .dat (.int .i64) v9, .gone, .gone, .gone, .gone, .gone, .gone, .gone, .gone, .gone, .gone, .gone, .gone, .gone], []⟩
def impl_journalOf.con : Con := { ps := [(.val, (.sl 120 (.pair (.int .u8) .str)))], rs := [(.val, .str)], F := fun x => impl_journalOf.f x }
def impl_journalOf.cs : List (FuncId × Con) := [(234, impl_nextCheck.con), (235, impl_entryLine.con)]
def impl_journalOf.E : Env := envOf tab impl_journalOf.cs 0 false
def impl_journalOf.keep (i : Nat) : List Nat := if i = 3 then [3, 4, 7, 8, 9] else []
def impl_journalOf.at3 (n : Nat) (x : List (Int × ByteArray)) : Code × (Ex → St → Option (ByteArray)) := ctx impl_journalOf.E impl_journalOf.keep n [.snd, .snd, .fst, .snd, .blk] (codeOf Try.f183) (kEnd impl_journalOf.E Try.f183 impl_journalOf.con x)
def impl_journalOf.LN3 (n : Nat) (x : List (Int × ByteArray)) : Nat → St → Option (ByteArray) := loopN (exec impl_journalOf.E impl_journalOf.keep n (bodyOf (impl_journalOf.at3 n x).1)) (St.norm 0 (impl_journalOf.keep 3)) (impl_journalOf.at3 n x).2
set_option maxRecDepth 100000 in
theorem impl_journalOf.lem3 (n : Nat) (x : List (Int × ByteArray)) : ∀ (k : Nat) (out3 : ByteArray) (check4 : Int) (v7 : List (Int × ByteArray)) (v8 : Int) (v9 : Int), impl_journalOf.LN3 n x k (impl_journalOf.st3 out3 check4 v7 v8 v9) = impl_journalOf.l3 n k out3 check4 v7 v8 v9 := by
  intro k
  induction k with
  | zero => intro out3 check4 v7 v8 v9; rfl
  | succ k ih =>
    intro out3 check4 v7 v8 v9
    have h : impl_journalOf.LN3 n x (k + 1) (impl_journalOf.st3 out3 check4 v7 v8 v9) = impl_journalOf.g3 (fun out3 check4 v7 v8 v9 => impl_journalOf.LN3 n x k (impl_journalOf.st3 out3 check4 v7 v8 v9)) out3 check4 v7 v8 v9 := by kernel_rfl
    rw [h]
    simp only [ih]
    rfl
set_option maxRecDepth 100000 in
theorem impl_journalOf.body (n : Nat) (x : List (Int × ByteArray)) : bodyF impl_journalOf.E impl_journalOf.keep n Try.f183 impl_journalOf.con x = impl_journalOf.fn n x := by
  have h : bodyF impl_journalOf.E impl_journalOf.keep n Try.f183 impl_journalOf.con x = impl_journalOf.top (fun out3 check4 v7 v8 v9 => impl_journalOf.LN3 n x n (impl_journalOf.st3 out3 check4 v7 v8 v9)) x := by kernel_rfl
  rw [h]
  simp only [impl_journalOf.lem3]
  rfl
set_option maxRecDepth 100000 in
theorem impl_journalOf.good : Good Try.prog 183 impl_journalOf.con :=
  good_of tabok (cs := impl_journalOf.cs) ⟨impl_nextCheck.good, impl_entryLine.good, trivial⟩ 0 false (fn := Try.f183) Try.func183 rfl (by decide) (by simp [impl_journalOf.con]) impl_journalOf.keep NN (fun _ => rfl) (fun x => impl_journalOf.body NN x)
end
end Go.Ev.Try

namespace Go.Ev.Try
open Go.Proofs Go.Pl
set_option linter.unusedVariables false
noncomputable section
def impl_AppendEntry.con : Con := { ps := [(.val, .str), (.val, (.pair (.int .u8) .str))], rs := [(.val, .str), (.val, (.int .i64))], F := fun x => impl_AppendEntry.f x.1 x.2 }
def impl_AppendEntry.cs : List (FuncId × Con) := [(183, impl_journalOf.con), (187, impl_readJournal.con), (197, impl_isEntry.con)]
def impl_AppendEntry.E : Env := envOf tab impl_AppendEntry.cs 0 false
def impl_AppendEntry.keep (i : Nat) : List Nat := []
set_option maxRecDepth 100000 in
theorem impl_AppendEntry.body (n : Nat) (x : ByteArray × Int × ByteArray) : bodyF impl_AppendEntry.E impl_AppendEntry.keep n Try.f93 impl_AppendEntry.con x = impl_AppendEntry.fn n x.1 x.2 := by
  have h : bodyF impl_AppendEntry.E impl_AppendEntry.keep n Try.f93 impl_AppendEntry.con x = impl_AppendEntry.top x.1 x.2 := by kernel_rfl
  exact h
set_option maxRecDepth 100000 in
theorem impl_AppendEntry.good : Good Try.prog 93 impl_AppendEntry.con :=
  good_of tabok (cs := impl_AppendEntry.cs) ⟨impl_journalOf.good, impl_readJournal.good, impl_isEntry.good, trivial⟩ 0 false (fn := Try.f93) Try.func93 rfl (by decide) (by simp [impl_AppendEntry.con]) impl_AppendEntry.keep NN (fun _ => rfl) (fun x => impl_AppendEntry.body NN x)
end
end Go.Ev.Try

namespace Go.Ev.Try
open Go.Proofs Go.Pl
set_option linter.unusedVariables false
noncomputable section
def spec_AppendEntry.con : Con := { ps := [(.val, .str), (.val, (.pair (.int .u8) .str))], rs := [(.val, .str), (.val, (.int .i64))], F := fun x => spec_AppendEntry.f x.1 x.2 }
def spec_AppendEntry.cs : List (FuncId × Con) := [(184, spec_l33Code.con), (185, spec_l33Write.con), (188, spec_l33Read.con)]
def spec_AppendEntry.E : Env := envOf tab spec_AppendEntry.cs 0 false
def spec_AppendEntry.keep (i : Nat) : List Nat := []
set_option maxRecDepth 100000 in
theorem spec_AppendEntry.body (n : Nat) (x : ByteArray × Int × ByteArray) : bodyF spec_AppendEntry.E spec_AppendEntry.keep n Try.f94 spec_AppendEntry.con x = spec_AppendEntry.fn n x.1 x.2 := by
  have h : bodyF spec_AppendEntry.E spec_AppendEntry.keep n Try.f94 spec_AppendEntry.con x = spec_AppendEntry.top x.1 x.2 := by kernel_rfl
  exact h
set_option maxRecDepth 100000 in
theorem spec_AppendEntry.good : Good Try.prog 94 spec_AppendEntry.con :=
  good_of tabok (cs := spec_AppendEntry.cs) ⟨spec_l33Code.good, spec_l33Write.good, spec_l33Read.good, trivial⟩ 0 false (fn := Try.f94) Try.func94 rfl (by decide) (by simp [spec_AppendEntry.con]) spec_AppendEntry.keep NN (fun _ => rfl) (fun x => spec_AppendEntry.body NN x)
end
end Go.Ev.Try

namespace Go.Ev.Try
open Go.Proofs Go.Pl
set_option linter.unusedVariables false
noncomputable section
def spec_DrawFirstDifference.con : Con := { ps := [(.val, (.sl 5 (.int .u8)))], rs := [(.val, .str), (.val, .str)], F := fun x => spec_DrawFirstDifference.f x }
def spec_DrawFirstDifference.cs : List (FuncId × Con) := [(107, spec_l01From.con), (109, spec_l01Next.con), (186, spec_l33Journal.con)]
def spec_DrawFirstDifference.E : Env := envOf tab spec_DrawFirstDifference.cs 0 false
def spec_DrawFirstDifference.keep (i : Nat) : List Nat := []
set_option maxRecDepth 100000 in
theorem spec_DrawFirstDifference.body (n : Nat) (x : List Int) : bodyF spec_DrawFirstDifference.E spec_DrawFirstDifference.keep n Try.f95 spec_DrawFirstDifference.con x = spec_DrawFirstDifference.fn n x := by
  have h : bodyF spec_DrawFirstDifference.E spec_DrawFirstDifference.keep n Try.f95 spec_DrawFirstDifference.con x = spec_DrawFirstDifference.top x := by kernel_rfl
  exact h
set_option maxRecDepth 100000 in
theorem spec_DrawFirstDifference.good : Good Try.prog 95 spec_DrawFirstDifference.con :=
  good_of tabok (cs := spec_DrawFirstDifference.cs) ⟨spec_l01From.good, spec_l01Next.good, spec_l33Journal.good, trivial⟩ 0 false (fn := Try.f95) Try.func95 rfl (by decide) (by simp [spec_DrawFirstDifference.con]) spec_DrawFirstDifference.keep NN (fun _ => rfl) (fun x => spec_DrawFirstDifference.body NN x)
end
end Go.Ev.Try

namespace Go.Ev.Try
open Go.Proofs Go.Pl
set_option linter.unusedVariables false
noncomputable section
def impl_FirstDifference.st4 (i10 : Int) (x6 : List (Int × ByteArray)) (y8 : List (Int × ByteArray)) : St := ⟨[.gone, .gone, .gone, .gone, .gone, .gone, .ref 0, .gone, .ref 1, .gone, .dat (.int .i64) i10, .gone, .gone, .gone, .gone, .gone, .gone, .gone, .gone, .gone, .gone, .gone, .gone, .gone, .gone, .gone, .gone, .gone, .gone, .gone, .gone, .gone, .gone, .gone, .gone, .gone, .gone, .gone, .gone, .gone, .gone, .gone, .gone, .gone, .gone, .gone, .gone, .gone, .gone, .gone, .gone, .gone, .gone, .gone, .gone], [.row 120 (.pair (.int .u8) .str) x6 none, .row 120 (.pair (.int .u8) .str) y8 none]⟩
def impl_FirstDifference.con : Con := { ps := [(.val, .str), (.val, .str)], rs := [(.val, (.int .i64)), (.val, (.int .i64))], F := fun x => impl_FirstDifference.f x.1 x.2 }
def impl_FirstDifference.cs : List (FuncId × Con) := [(187, impl_readJournal.con)]
def impl_FirstDifference.E : Env := envOf tab impl_FirstDifference.cs 0 false
def impl_FirstDifference.keep (i : Nat) : List Nat := if i = 4 then [6, 8, 10] else []
def impl_FirstDifference.at4 (n : Nat) (x : ByteArray × ByteArray) : Code × (Ex → St → Option ((Int × Int))) := ctx impl_FirstDifference.E impl_FirstDifference.keep n [.snd, .snd, .snd, .fst, .snd, .blk] (codeOf Try.f96) (kEnd impl_FirstDifference.E Try.f96 impl_FirstDifference.con x)
def impl_FirstDifference.LN4 (n : Nat) (x : ByteArray × ByteArray) : Nat → St → Option ((Int × Int)) := loopN (exec impl_FirstDifference.E impl_FirstDifference.keep n (bodyOf (impl_FirstDifference.at4 n x).1)) (St.norm 0 (impl_FirstDifference.keep 4)) (impl_FirstDifference.at4 n x).2
set_option maxRecDepth 100000 in
theorem impl_FirstDifference.lem4 (n : Nat) (x : ByteArray × ByteArray) : ∀ (k : Nat) (i10 : Int) (x6 : List (Int × ByteArray)) (y8 : List (Int × ByteArray)), impl_FirstDifference.LN4 n x k (impl_FirstDifference.st4 i10 x6 y8) = impl_FirstDifference.l4 n k i10 x6 y8 := by
  intro k
  induction k with
  | zero => intro i10 x6 y8; rfl
  | succ k ih =>
    intro i10 x6 y8
    have h : impl_FirstDifference.LN4 n x (k + 1) (impl_FirstDifference.st4 i10 x6 y8) = impl_FirstDifference.g4 (fun i10 x6 y8 => impl_FirstDifference.LN4 n x k (impl_FirstDifference.st4 i10 x6 y8)) i10 x6 y8 := by kernel_rfl
    rw [h]
    simp only [ih]
    rfl
set_option maxRecDepth 100000 in
theorem impl_FirstDifference.body (n : Nat) (x : ByteArray × ByteArray) : bodyF impl_FirstDifference.E impl_FirstDifference.keep n Try.f96 impl_FirstDifference.con x = impl_FirstDifference.fn n x.1 x.2 := by
  have h : bodyF impl_FirstDifference.E impl_FirstDifference.keep n Try.f96 impl_FirstDifference.con x = impl_FirstDifference.top (fun i10 x6 y8 => impl_FirstDifference.LN4 n x n (impl_FirstDifference.st4 i10 x6 y8)) x.1 x.2 := by kernel_rfl
  rw [h]
  simp only [impl_FirstDifference.lem4]
  rfl
set_option maxRecDepth 100000 in
theorem impl_FirstDifference.good : Good Try.prog 96 impl_FirstDifference.con :=
  good_of tabok (cs := impl_FirstDifference.cs) ⟨impl_readJournal.good, trivial⟩ 0 false (fn := Try.f96) Try.func96 rfl (by decide) (by simp [impl_FirstDifference.con]) impl_FirstDifference.keep NN (fun _ => rfl) (fun x => impl_FirstDifference.body NN x)
end
end Go.Ev.Try

namespace Go.Ev.Try
open Go.Proofs Go.Pl
set_option linter.unusedVariables false
noncomputable section
def spec_FirstDifference.st4 (i10 : Int) (x6 : List (Int × ByteArray)) (y8 : List (Int × ByteArray)) : St := ⟨[.gone, .gone, .gone, .gone, .gone, .gone, .ref 0, .gone, .ref 1, .gone, .dat (.int .i64) i10, .gone, .gone, .gone, .gone, .gone, .gone, .gone, .gone, .gone, .gone, .gone, .gone, .gone, .gone, .gone, .gone, .gone, .gone, .gone, .gone, .gone, .gone, .gone, .gone, .gone, .gone, .gone, .gone, .gone, .gone, .gone, .gone, .gone, .gone, .gone, .gone, .gone, .gone, .gone, .gone, .gone, .gone, .gone, .gone], [.row 120 (.pair (.int .u8) .str) x6 none, .row 120 (.pair (.int .u8) .str) y8 none]⟩
def spec_FirstDifference.con : Con := { ps := [(.val, .str), (.val, .str)], rs := [(.val, (.int .i64)), (.val, (.int .i64))], F := fun x => spec_FirstDifference.f x.1 x.2 }
def spec_FirstDifference.cs : List (FuncId × Con) := [(188, spec_l33Read.con)]
def spec_FirstDifference.E : Env := envOf tab spec_FirstDifference.cs 0 false
def spec_FirstDifference.keep (i : Nat) : List Nat := if i = 4 then [6, 8, 10] else []
def spec_FirstDifference.at4 (n : Nat) (x : ByteArray × ByteArray) : Code × (Ex → St → Option ((Int × Int))) := ctx spec_FirstDifference.E spec_FirstDifference.keep n [.snd, .snd, .snd, .fst, .snd, .blk] (codeOf Try.f97) (kEnd spec_FirstDifference.E Try.f97 spec_FirstDifference.con x)
def spec_FirstDifference.LN4 (n : Nat) (x : ByteArray × ByteArray) : Nat → St → Option ((Int × Int)) := loopN (exec spec_FirstDifference.E spec_FirstDifference.keep n (bodyOf (spec_FirstDifference.at4 n x).1)) (St.norm 0 (spec_FirstDifference.keep 4)) (spec_FirstDifference.at4 n x).2
set_option maxRecDepth 100000 in
theorem spec_FirstDifference.lem4 (n : Nat) (x : ByteArray × ByteArray) : ∀ (k : Nat) (i10 : Int) (x6 : List (Int × ByteArray)) (y8 : List (Int × ByteArray)), spec_FirstDifference.LN4 n x k (spec_FirstDifference.st4 i10 x6 y8) = spec_FirstDifference.l4 n k i10 x6 y8 := by
  intro k
  induction k with
  | zero => intro i10 x6 y8; rfl
  | succ k ih =>
    intro i10 x6 y8
    have h : spec_FirstDifference.LN4 n x (k + 1) (spec_FirstDifference.st4 i10 x6 y8) = spec_FirstDifference.g4 (fun i10 x6 y8 => spec_FirstDifference.LN4 n x k (spec_FirstDifference.st4 i10 x6 y8)) i10 x6 y8 := by kernel_rfl
    rw [h]
    simp only [ih]
    rfl
set_option maxRecDepth 100000 in
theorem spec_FirstDifference.body (n : Nat) (x : ByteArray × ByteArray) : bodyF spec_FirstDifference.E spec_FirstDifference.keep n Try.f97 spec_FirstDifference.con x = spec_FirstDifference.fn n x.1 x.2 := by
  have h : bodyF spec_FirstDifference.E spec_FirstDifference.keep n Try.f97 spec_FirstDifference.con x = spec_FirstDifference.top (fun i10 x6 y8 => spec_FirstDifference.LN4 n x n (spec_FirstDifference.st4 i10 x6 y8)) x.1 x.2 := by kernel_rfl
  rw [h]
  simp only [spec_FirstDifference.lem4]
  rfl
set_option maxRecDepth 100000 in
theorem spec_FirstDifference.good : Good Try.prog 97 spec_FirstDifference.con :=
  good_of tabok (cs := spec_FirstDifference.cs) ⟨spec_l33Read.good, trivial⟩ 0 false (fn := Try.f97) Try.func97 rfl (by decide) (by simp [spec_FirstDifference.con]) spec_FirstDifference.keep NN (fun _ => rfl) (fun x => spec_FirstDifference.body NN x)
end
end Go.Ev.Try

namespace Go.Ev.Try
open Go.Proofs Go.Pl
set_option linter.unusedVariables false
noncomputable section
def spec_DrawEntriesOf.con : Con := { ps := [(.val, (.sl 5 (.int .u8)))], rs := [(.val, .str), (.val, (.int .u8))], F := fun x => spec_DrawEntriesOf.f x }
def spec_DrawEntriesOf.cs : List (FuncId × Con) := [(107, spec_l01From.con), (109, spec_l01Next.con), (186, spec_l33Journal.con)]
def spec_DrawEntriesOf.E : Env := envOf tab spec_DrawEntriesOf.cs 0 false
def spec_DrawEntriesOf.keep (i : Nat) : List Nat := []
set_option maxRecDepth 100000 in
theorem spec_DrawEntriesOf.body (n : Nat) (x : List Int) : bodyF spec_DrawEntriesOf.E spec_DrawEntriesOf.keep n Try.f98 spec_DrawEntriesOf.con x = spec_DrawEntriesOf.fn n x := by
  have h : bodyF spec_DrawEntriesOf.E spec_DrawEntriesOf.keep n Try.f98 spec_DrawEntriesOf.con x = spec_DrawEntriesOf.top x := by kernel_rfl
  exact h
set_option maxRecDepth 100000 in
theorem spec_DrawEntriesOf.good : Good Try.prog 98 spec_DrawEntriesOf.con :=
  good_of tabok (cs := spec_DrawEntriesOf.cs) ⟨spec_l01From.good, spec_l01Next.good, spec_l33Journal.good, trivial⟩ 0 false (fn := Try.f98) Try.func98 rfl (by decide) (by simp [spec_DrawEntriesOf.con]) spec_DrawEntriesOf.keep NN (fun _ => rfl) (fun x => spec_DrawEntriesOf.body NN x)
end
end Go.Ev.Try

namespace Go.Ev.Try
open Go.Proofs Go.Pl
set_option linter.unusedVariables false
noncomputable section
def impl_EntriesOf.st4 (kind1 : Int) (v16 : Int) (v17 : Int) (out5 : List ByteArray) (v15 : List (Int × ByteArray)) : St := ⟨[.gone, .dat (.int .u8) kind1, .gone, .gone, .gone, .ref 0, .gone, .gone, .gone, .gone, .gone, .gone, .gone, .gone, .gone, .ref 1, .dat (.int .i64) v16, .dat (.int .i64) v17, .gone, .gone, .gone, .gone, .gone, .gone, .gone, .gone, .gone, .gone, .gone, .gone, .gone, .gone], [.row 9 .str out5 none, .row 120 (.pair (.int .u8) .str) v15 none]⟩
def impl_EntriesOf.con : Con := { ps := [(.val, .str), (.val, (.int .u8))], rs := [(.own, (.sl 9 .str))], F := fun x => impl_EntriesOf.f x.1 x.2 }
def impl_EntriesOf.cs : List (FuncId × Con) := [(187, impl_readJournal.con)]
def impl_EntriesOf.E : Env := envOf tab impl_EntriesOf.cs 0 false
def impl_EntriesOf.keep (i : Nat) : List Nat := if i = 4 then [1, 5, 15, 16, 17] else []
def impl_EntriesOf.at4 (n : Nat) (x : ByteArray × Int) : Code × (Ex → St → Option ((List ByteArray))) := ctx impl_EntriesOf.E impl_EntriesOf.keep n [.snd, .snd, .snd, .fst, .snd, .blk] (codeOf Try.f99) (kEnd impl_EntriesOf.E Try.f99 impl_EntriesOf.con x)
def impl_EntriesOf.LN4 (n : Nat) (x : ByteArray × Int) : Nat → St → Option ((List ByteArray)) := loopN (exec impl_EntriesOf.E impl_EntriesOf.keep n (bodyOf (impl_EntriesOf.at4 n x).1)) (St.norm 0 (impl_EntriesOf.keep 4)) (impl_EntriesOf.at4 n x).2
set_option maxRecDepth 100000 in
theorem impl_EntriesOf.lem4 (n : Nat) (x : ByteArray × Int) : ∀ (k : Nat) (kind1 : Int) (v16 : Int) (v17 : Int) (out5 : List ByteArray) (v15 : List (Int × ByteArray)), impl_EntriesOf.LN4 n x k (impl_EntriesOf.st4 kind1 v16 v17 out5 v15) = impl_EntriesOf.l4 n k kind1 v16 v17 out5 v15 := by
  intro k
  induction k with
  | zero => intro kind1 v16 v17 out5 v15; rfl
  | succ k ih =>
    intro kind1 v16 v17 out5 v15
    have h : impl_EntriesOf.LN4 n x (k + 1) (impl_EntriesOf.st4 kind1 v16 v17 out5 v15) = impl_EntriesOf.g4 (fun kind1 v16 v17 out5 v15 => impl_EntriesOf.LN4 n x k (impl_EntriesOf.st4 kind1 v16 v17 out5 v15)) kind1 v16 v17 out5 v15 := by kernel_rfl
    rw [h]
    simp only [ih]
    rfl
set_option maxRecDepth 100000 in
theorem impl_EntriesOf.body (n : Nat) (x : ByteArray × Int) : bodyF impl_EntriesOf.E impl_EntriesOf.keep n Try.f99 impl_EntriesOf.con x = impl_EntriesOf.fn n x.1 x.2 := by
  have h : bodyF impl_EntriesOf.E impl_EntriesOf.keep n Try.f99 impl_EntriesOf.con x = impl_EntriesOf.top (fun kind1 v16 v17 out5 v15 => impl_EntriesOf.LN4 n x n (impl_EntriesOf.st4 kind1 v16 v17 out5 v15)) x.1 x.2 := by kernel_rfl
  rw [h]
  simp only [impl_EntriesOf.lem4]
  rfl
set_option maxRecDepth 100000 in
theorem impl_EntriesOf.good : Good Try.prog 99 impl_EntriesOf.con :=
  good_of tabok (cs := impl_EntriesOf.cs) ⟨impl_readJournal.good, trivial⟩ 0 false (fn := Try.f99) Try.func99 rfl (by decide) (by simp [impl_EntriesOf.con]) impl_EntriesOf.keep NN (fun _ => rfl) (fun x => impl_EntriesOf.body NN x)
end
end Go.Ev.Try

namespace Go.Ev.Try
open Go.Proofs Go.Pl
set_option linter.unusedVariables false
noncomputable section
def spec_EntriesOf.st4 (kind1 : Int) (i8 : Int) (list5 : List (Int × ByteArray)) (out7 : List ByteArray) : St := ⟨[.gone, .dat (.int .u8) kind1, .gone, .gone, .gone, .ref 0, .gone, .ref 1, .dat (.int .i64) i8, .gone, .gone, .gone, .gone, .gone, .gone, .gone, .gone, .gone, .gone, .gone, .gone, .gone, .gone, .gone, .gone, .gone, .gone, .gone, .gone, .gone, .gone, .gone, .gone, .gone, .gone, .gone, .gone], [.row 120 (.pair (.int .u8) .str) list5 none, .row 9 .str out7 none]⟩
def spec_EntriesOf.con : Con := { ps := [(.val, .str), (.val, (.int .u8))], rs := [(.own, (.sl 9 .str))], F := fun x => spec_EntriesOf.f x.1 x.2 }
def spec_EntriesOf.cs : List (FuncId × Con) := [(188, spec_l33Read.con)]
def spec_EntriesOf.E : Env := envOf tab spec_EntriesOf.cs 0 false
def spec_EntriesOf.keep (i : Nat) : List Nat := if i = 4 then [1, 5, 7, 8] else []
def spec_EntriesOf.at4 (n : Nat) (x : ByteArray × Int) : Code × (Ex → St → Option ((List ByteArray))) := ctx spec_EntriesOf.E spec_EntriesOf.keep n [.snd, .snd, .snd, .fst, .snd, .blk] (codeOf Try.f100) (kEnd spec_EntriesOf.E Try.f100 spec_EntriesOf.con x)
def spec_EntriesOf.LN4 (n : Nat) (x : ByteArray × Int) : Nat → St → Option ((List ByteArray)) := loopN (exec spec_EntriesOf.E spec_EntriesOf.keep n (bodyOf (spec_EntriesOf.at4 n x).1)) (St.norm 0 (spec_EntriesOf.keep 4)) (spec_EntriesOf.at4 n x).2
set_option maxRecDepth 100000 in
theorem spec_EntriesOf.lem4 (n : Nat) (x : ByteArray × Int) : ∀ (k : Nat) (kind1 : Int) (i8 : Int) (list5 : List (Int × ByteArray)) (out7 : List ByteArray), spec_EntriesOf.LN4 n x k (spec_EntriesOf.st4 kind1 i8 list5 out7) = spec_EntriesOf.l4 n k kind1 i8 list5 out7 := by
  intro k
  induction k with
  | zero => intro kind1 i8 list5 out7; rfl
  | succ k ih =>
    intro kind1 i8 list5 out7
    have h : spec_EntriesOf.LN4 n x (k + 1) (spec_EntriesOf.st4 kind1 i8 list5 out7) = spec_EntriesOf.g4 (fun kind1 i8 list5 out7 => spec_EntriesOf.LN4 n x k (spec_EntriesOf.st4 kind1 i8 list5 out7)) kind1 i8 list5 out7 := by kernel_rfl
    rw [h]
    simp only [ih]
    rfl
set_option maxRecDepth 100000 in
theorem spec_EntriesOf.body (n : Nat) (x : ByteArray × Int) : bodyF spec_EntriesOf.E spec_EntriesOf.keep n Try.f100 spec_EntriesOf.con x = spec_EntriesOf.fn n x.1 x.2 := by
  have h : bodyF spec_EntriesOf.E spec_EntriesOf.keep n Try.f100 spec_EntriesOf.con x = spec_EntriesOf.top (fun kind1 i8 list5 out7 => spec_EntriesOf.LN4 n x n (spec_EntriesOf.st4 kind1 i8 list5 out7)) x.1 x.2 := by kernel_rfl
  rw [h]
  simp only [spec_EntriesOf.lem4]
  rfl
set_option maxRecDepth 100000 in
theorem spec_EntriesOf.good : Good Try.prog 100 spec_EntriesOf.con :=
  good_of tabok (cs := spec_EntriesOf.cs) ⟨spec_l33Read.good, trivial⟩ 0 false (fn := Try.f100) Try.func100 rfl (by decide) (by simp [spec_EntriesOf.con]) spec_EntriesOf.keep NN (fun _ => rfl) (fun x => spec_EntriesOf.body NN x)
end
end Go.Ev.Try
