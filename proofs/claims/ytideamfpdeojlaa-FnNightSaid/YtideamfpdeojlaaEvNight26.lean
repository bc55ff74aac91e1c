/- Part 26 of what the law FnNight stands on: an evaluator of the model's code, proved sound; the functions as plain texts; their contracts. -/
import Derived.Test.YtideamfpdeojlaaChecked
import Derived.Test.YtideamfpdeojlaaProg
import Derived.Test.YtideamfpdeojlaaRows
import Derived.Below
import Derived.Calls
import Derived.Carry
import Derived.ChangeArms
import Derived.ChangeKeysEq
import Derived.ChangeOld
import Derived.Deep.Quiet
import Derived.KernelRfl
import Derived.Laws.Append
import Derived.Laws.BytesString
import Derived.Laws.MakeOwn
import Derived.Laws.Strings
import Derived.Laws.StructEq
import Derived.OpenShut
import Derived.OrdersHeld
import Derived.ProofKit
import Derived.ShutString
import Derived.SizedLaws
import Derived.Tactics
import Derived.WalkKit
import Derived.WideShapes
import Derived.Test.YtideamfpdeojlaaEvNight25
namespace Go.Pl
open Go.Ev
set_option linter.unusedVariables false
noncomputable section
def spec_l03Names.top  : Option (List ByteArray) :=
  some ([(⟨#[97, 115, 116, 101, 114]⟩ : ByteArray), (⟨#[99, 111, 109, 101, 116]⟩ : ByteArray), (⟨#[100, 97, 104, 108, 105, 97]⟩ : ByteArray), (⟨#[112, 97, 108, 109]⟩ : ByteArray), (⟨#[112, 101, 111, 110, 121]⟩ : ByteArray), (⟨#[119, 105, 108, 108, 111, 119]⟩ : ByteArray)])
def spec_l03Names.fn (n : Nat)  : Option (List ByteArray) := spec_l03Names.top 
def spec_l03Names.f  : Option (List ByteArray) := spec_l03Names.fn NN 
end
end Go.Pl

namespace Go.Pl
open Go.Ev
set_option linter.unusedVariables false
noncomputable section
def spec_l01Good.top (s0 : List Int × Int × Int) : Option (ByteArray × List Int × Int × Int) :=
  (spec_l01Next.f s0 12).bind fun r1 =>
  if (0 : Int) ≤ r1.1 ∧ (r1.1 : Int) < ([(⟨#[97, 100, 97]⟩ : ByteArray), (⟨#[98, 114, 117, 110, 111]⟩ : ByteArray), (⟨#[99, 108, 97, 114, 97]⟩ : ByteArray), (⟨#[100, 111, 114, 97]⟩ : ByteArray), (⟨#[101, 109, 105, 108]⟩ : ByteArray), (⟨#[102, 114, 105, 100, 97]⟩ : ByteArray), (⟨#[103, 117, 115, 116, 97, 118]⟩ : ByteArray), (⟨#[104, 97, 110, 110, 97]⟩ : ByteArray), (⟨#[105, 118, 97, 110]⟩ : ByteArray), (⟨#[106, 97, 110, 97]⟩ : ByteArray), (⟨#[107, 97, 114, 108]⟩ : ByteArray), (⟨#[108, 101, 110, 97]⟩ : ByteArray)]).length then
    some (([(⟨#[97, 100, 97]⟩ : ByteArray), (⟨#[98, 114, 117, 110, 111]⟩ : ByteArray), (⟨#[99, 108, 97, 114, 97]⟩ : ByteArray), (⟨#[100, 111, 114, 97]⟩ : ByteArray), (⟨#[101, 109, 105, 108]⟩ : ByteArray), (⟨#[102, 114, 105, 100, 97]⟩ : ByteArray), (⟨#[103, 117, 115, 116, 97, 118]⟩ : ByteArray), (⟨#[104, 97, 110, 110, 97]⟩ : ByteArray), (⟨#[105, 118, 97, 110]⟩ : ByteArray), (⟨#[106, 97, 110, 97]⟩ : ByteArray), (⟨#[107, 97, 114, 108]⟩ : ByteArray), (⟨#[108, 101, 110, 97]⟩ : ByteArray)]).getD (r1.1 : Int).toNat ByteArray.empty, r1.2)
  else
    none
def spec_l01Good.fn (n : Nat) (s0 : List Int × Int × Int) : Option (ByteArray × List Int × Int × Int) := spec_l01Good.top s0
def spec_l01Good.f (s0 : List Int × Int × Int) : Option (ByteArray × List Int × Int × Int) := spec_l01Good.fn NN s0
end
end Go.Pl

namespace Go.Pl
open Go.Ev
set_option linter.unusedVariables false
noncomputable section
def spec_l01DrawWord.top (s0 : List Int × Int × Int) : Option (ByteArray × List Int × Int × Int) :=
  (spec_l01Next.f s0 24).bind fun r1 =>
  if ((r1.1 : Int) == 0) = true then
    (spec_l01Next.f r1.2 6).bind fun r2 =>
    if (0 : Int) ≤ r2.1 ∧ (r2.1 : Int) < ([(⟨#[]⟩ : ByteArray), (⟨#[65, 100, 97]⟩ : ByteArray), (⟨#[97, 49]⟩ : ByteArray), (⟨#[97, 98, 99, 100, 101, 102, 103, 104, 105, 106, 107, 108, 109, 110, 111, 112]⟩ : ByteArray), (⟨#[97, 98, 99, 100, 101, 102, 103, 104, 105, 106, 107, 108, 109, 110, 111, 112, 113]⟩ : ByteArray), (⟨#[97, 32, 98]⟩ : ByteArray)]).length then
      some (([(⟨#[]⟩ : ByteArray), (⟨#[65, 100, 97]⟩ : ByteArray), (⟨#[97, 49]⟩ : ByteArray), (⟨#[97, 98, 99, 100, 101, 102, 103, 104, 105, 106, 107, 108, 109, 110, 111, 112]⟩ : ByteArray), (⟨#[97, 98, 99, 100, 101, 102, 103, 104, 105, 106, 107, 108, 109, 110, 111, 112, 113]⟩ : ByteArray), (⟨#[97, 32, 98]⟩ : ByteArray)]).getD (r2.1 : Int).toNat ByteArray.empty, r2.2)
    else
      none
  else
    (spec_l01Good.f r1.2).bind fun r3 =>
    some (r3.1, r3.2)
def spec_l01DrawWord.fn (n : Nat) (s0 : List Int × Int × Int) : Option (ByteArray × List Int × Int × Int) := spec_l01DrawWord.top s0
def spec_l01DrawWord.f (s0 : List Int × Int × Int) : Option (ByteArray × List Int × Int × Int) := spec_l01DrawWord.fn NN s0
end
end Go.Pl

namespace Go.Pl
open Go.Ev
set_option linter.unusedVariables false
noncomputable section
def spec_l32Good.g4 (L4 : Int → (List Int × Int × Int) → (List (Int × ByteArray × Int)) → List ByteArray → Option ((List (Int × ByteArray × Int)) × List Int × Int × Int)) (n5 : Int) (s0 : List Int × Int × Int) (out3 : List (Int × ByteArray × Int)) (names4 : List ByteArray) : Option ((List (Int × ByteArray × Int)) × List Int × Int × Int) :=
  if (decide ((0 : Int) < n5)) = true then
    (spec_l01Next.f s0 4).bind fun r3 =>
    (spec_l01Next.f r3.2 4).bind fun r4 =>
    if (0 : Int) ≤ r4.1 ∧ (r4.1 : Int) < names4.length then
      (spec_l01Next.f r4.2 12).bind fun r5 =>
      (spec_l32Left.f out3 (names4.getD (r4.1 : Int).toNat ByteArray.empty) (out3.length : Int)).bind fun r6 =>
      if (decide ((0 : Int) < r3.1)) = true then
        if (decide ((0 : Int) < r6)) = true then
          (spec_l01Next.f r5.2 2).bind fun r7 =>
          if ((r7.1 : Int) == 0) = true then
            if ((r6 : Int) == 0) = true then
              (spec_BookPieces.f out3 (0, (names4.getD (r4.1 : Int).toNat ByteArray.empty, (if r6 < 1000 then r6 else 1000)))).bind fun r8 =>
              if ((r8.2 : Int) == 0) = true then
                L4 (IntKind.i64.wrap (n5 - 1)) r7.2 r8.1 names4
              else
                L4 (IntKind.i64.wrap (n5 - 1)) r7.2 out3 names4
            else
              (spec_BookPieces.f out3 (r3.1, (names4.getD (r4.1 : Int).toNat ByteArray.empty, (if r6 < 1000 then r6 else 1000)))).bind fun r9 =>
              if ((r9.2 : Int) == 0) = true then
                L4 (IntKind.i64.wrap (n5 - 1)) r7.2 r9.1 names4
              else
                L4 (IntKind.i64.wrap (n5 - 1)) r7.2 out3 names4
          else if ((r6 : Int) == 0) = true then
            (spec_BookPieces.f out3 (0, (names4.getD (r4.1 : Int).toNat ByteArray.empty, IntKind.i64.wrap (1 + r5.1)))).bind fun r10 =>
            if ((r10.2 : Int) == 0) = true then
              L4 (IntKind.i64.wrap (n5 - 1)) r7.2 r10.1 names4
            else
              L4 (IntKind.i64.wrap (n5 - 1)) r7.2 out3 names4
          else
            (spec_BookPieces.f out3 (r3.1, (names4.getD (r4.1 : Int).toNat ByteArray.empty, IntKind.i64.wrap (1 + r5.1)))).bind fun r11 =>
            if ((r11.2 : Int) == 0) = true then
              L4 (IntKind.i64.wrap (n5 - 1)) r7.2 r11.1 names4
            else
              L4 (IntKind.i64.wrap (n5 - 1)) r7.2 out3 names4
        else if ((r6 : Int) == 0) = true then
          (spec_BookPieces.f out3 (0, (names4.getD (r4.1 : Int).toNat ByteArray.empty, IntKind.i64.wrap (1 + r5.1)))).bind fun r12 =>
          if ((r12.2 : Int) == 0) = true then
            L4 (IntKind.i64.wrap (n5 - 1)) r5.2 r12.1 names4
          else
            L4 (IntKind.i64.wrap (n5 - 1)) r5.2 out3 names4
        else
          (spec_BookPieces.f out3 (r3.1, (names4.getD (r4.1 : Int).toNat ByteArray.empty, IntKind.i64.wrap (1 + r5.1)))).bind fun r13 =>
          if ((r13.2 : Int) == 0) = true then
            L4 (IntKind.i64.wrap (n5 - 1)) r5.2 r13.1 names4
          else
            L4 (IntKind.i64.wrap (n5 - 1)) r5.2 out3 names4
      else if ((r6 : Int) == 0) = true then
        (spec_BookPieces.f out3 (0, (names4.getD (r4.1 : Int).toNat ByteArray.empty, IntKind.i64.wrap (1 + r5.1)))).bind fun r14 =>
        if ((r14.2 : Int) == 0) = true then
          L4 (IntKind.i64.wrap (n5 - 1)) r5.2 r14.1 names4
        else
          L4 (IntKind.i64.wrap (n5 - 1)) r5.2 out3 names4
      else
        (spec_BookPieces.f out3 (r3.1, (names4.getD (r4.1 : Int).toNat ByteArray.empty, IntKind.i64.wrap (1 + r5.1)))).bind fun r15 =>
        if ((r15.2 : Int) == 0) = true then
          L4 (IntKind.i64.wrap (n5 - 1)) r5.2 r15.1 names4
        else
          L4 (IntKind.i64.wrap (n5 - 1)) r5.2 out3 names4
    else
      none
  else
    some (out3, s0)
def spec_l32Good.l4 (n : Nat) : Nat → Int → (List Int × Int × Int) → (List (Int × ByteArray × Int)) → List ByteArray → Option ((List (Int × ByteArray × Int)) × List Int × Int × Int)
  | 0 => fun _ _ _ _ => none
  | k + 1 => spec_l32Good.g4 (spec_l32Good.l4 n k)
def spec_l32Good.top (I4 : Int → (List Int × Int × Int) → (List (Int × ByteArray × Int)) → List ByteArray → Option ((List (Int × ByteArray × Int)) × List Int × Int × Int)) (s0 : List Int × Int × Int) : Option ((List (Int × ByteArray × Int)) × List Int × Int × Int) :=
  (spec_l03Names.f).bind fun r1 =>
  (spec_l01Next.f s0 10).bind fun r2 =>
  I4 r2.1 r2.2 [] r1
def spec_l32Good.fn (n : Nat) (s0 : List Int × Int × Int) : Option ((List (Int × ByteArray × Int)) × List Int × Int × Int) := spec_l32Good.top (spec_l32Good.l4 n n) s0
def spec_l32Good.f (s0 : List Int × Int × Int) : Option ((List (Int × ByteArray × Int)) × List Int × Int × Int) := spec_l32Good.fn NN s0
end
end Go.Pl

namespace Go.Pl
open Go.Ev
set_option linter.unusedVariables false
noncomputable section
def spec_l32Draw.g6 (L6 : (List Int × Int × Int) → (List (Int × ByteArray × Int)) → Option ((List (Int × ByteArray × Int)) × List Int × Int × Int)) (s0 : List Int × Int × Int) (out3 : List (Int × ByteArray × Int)) : Option ((List (Int × ByteArray × Int)) × List Int × Int × Int) :=
  (spec_l01Next.f s0 2).bind fun r6 =>
  if (decide (((out3.length : Int) : Int) < (IntKind.i64.wrap (60 + r6.1)))) = true then
    if out3.length + ([(0, ((⟨#[112, 97, 108, 109]⟩ : ByteArray), 1))]).length < room 32 then
      L6 r6.2 (out3 ++ ([(0, ((⟨#[112, 97, 108, 109]⟩ : ByteArray), 1))]))
    else
      none
  else
    some (out3, r6.2)
def spec_l32Draw.l6 (n : Nat) : Nat → (List Int × Int × Int) → (List (Int × ByteArray × Int)) → Option ((List (Int × ByteArray × Int)) × List Int × Int × Int)
  | 0 => fun _ _ => none
  | k + 1 => spec_l32Draw.g6 (spec_l32Draw.l6 n k)
def spec_l32Draw.top (I6 : (List Int × Int × Int) → (List (Int × ByteArray × Int)) → Option ((List (Int × ByteArray × Int)) × List Int × Int × Int)) (s0 : List Int × Int × Int) : Option ((List (Int × ByteArray × Int)) × List Int × Int × Int) :=
  (spec_l32Good.f s0).bind fun r1 =>
  (spec_l01Next.f r1.2 30).bind fun r2 =>
  if ((r2.1 : Int) == 0) = true then
    (spec_l01Next.f r2.2 6).bind fun r3 =>
    (spec_l01DrawWord.f r3.2).bind fun r4 =>
    (spec_l01Pick.f r4.2 ([0, 1, 1000, 1001])).bind fun r5 =>
    if r1.1.length + ([(IntKind.i64.wrap (r3.1 - 1), (r4.1, r5.1))]).length < room 32 then
      some (r1.1 ++ ([(IntKind.i64.wrap (r3.1 - 1), (r4.1, r5.1))]), r5.2)
    else
      none
  else if ((r2.1 : Int) == 1) = true then
    I6 r2.2 r1.1
  else if ((r2.1 : Int) == 2) = true then
    if r1.1.length + ([(0, ((⟨#[97, 115, 116, 101, 114]⟩ : ByteArray), 1000)), (0, ((⟨#[97, 115, 116, 101, 114]⟩ : ByteArray), 700))]).length < room 32 then
      some (r1.1 ++ ([(0, ((⟨#[97, 115, 116, 101, 114]⟩ : ByteArray), 1000)), (0, ((⟨#[97, 115, 116, 101, 114]⟩ : ByteArray), 700))]), r2.2)
    else
      none
  else
    some (r1.1, r2.2)
def spec_l32Draw.fn (n : Nat) (s0 : List Int × Int × Int) : Option ((List (Int × ByteArray × Int)) × List Int × Int × Int) := spec_l32Draw.top (spec_l32Draw.l6 n n) s0
def spec_l32Draw.f (s0 : List Int × Int × Int) : Option ((List (Int × ByteArray × Int)) × List Int × Int × Int) := spec_l32Draw.fn NN s0
end
end Go.Pl

namespace Go.Pl
open Go.Ev
set_option linter.unusedVariables false
noncomputable section
def spec_DrawBookPieces.top (code0 : List Int) : Option ((List (Int × ByteArray × Int)) × Int × ByteArray × Int) :=
  (spec_l01From.f code0).bind fun r1 =>
  (spec_l32Draw.f r1).bind fun r2 =>
  (spec_l01Next.f r2.2 4).bind fun r3 =>
  (spec_l03Names.f).bind fun r4 =>
  (spec_l01Next.f r3.2 5).bind fun r5 =>
  if (0 : Int) ≤ r5.1 ∧ (r5.1 : Int) < r4.length then
    (spec_l01Next.f r5.2 12).bind fun r6 =>
    (spec_l01Next.f r6.2 4).bind fun r7 =>
    (spec_l01Pick.f r7.2 ([IntKind.i64.wrap (1 + r6.1), 1, 1000, 1001, IntKind.i64.wrap (1 + r7.1)])).bind fun r8 =>
    some (r2.1, (r3.1, (r4.getD (r5.1 : Int).toNat ByteArray.empty, r8.1)))
  else
    none
def spec_DrawBookPieces.fn (n : Nat) (code0 : List Int) : Option ((List (Int × ByteArray × Int)) × Int × ByteArray × Int) := spec_DrawBookPieces.top code0
def spec_DrawBookPieces.f (code0 : List Int) : Option ((List (Int × ByteArray × Int)) × Int × ByteArray × Int) := spec_DrawBookPieces.fn NN code0
end
end Go.Pl

namespace Go.Pl
open Go.Ev
set_option linter.unusedVariables false
noncomputable section
def spec_DrawPiecesLeft.top (code0 : List Int) : Option ((List (Int × ByteArray × Int)) × ByteArray) :=
  (spec_l01From.f code0).bind fun r1 =>
  (spec_l32Draw.f r1).bind fun r2 =>
  (spec_l01Next.f r2.2 16).bind fun r3 =>
  if ((r3.1 : Int) == 0) = true then
    (spec_l01DrawWord.f r3.2).bind fun r4 =>
    some (r2.1, r4.1)
  else
    (spec_l03Names.f).bind fun r5 =>
    (spec_l01Next.f r3.2 5).bind fun r6 =>
    if (0 : Int) ≤ r6.1 ∧ (r6.1 : Int) < r5.length then
      some (r2.1, r5.getD (r6.1 : Int).toNat ByteArray.empty)
    else
      none
def spec_DrawPiecesLeft.fn (n : Nat) (code0 : List Int) : Option ((List (Int × ByteArray × Int)) × ByteArray) := spec_DrawPiecesLeft.top code0
def spec_DrawPiecesLeft.f (code0 : List Int) : Option ((List (Int × ByteArray × Int)) × ByteArray) := spec_DrawPiecesLeft.fn NN code0
end
end Go.Pl

namespace Go.Pl
open Go.Ev
set_option linter.unusedVariables false
noncomputable section
def spec_DrawTotalsOf.top (code0 : List Int) : Option ((List (Int × ByteArray × Int)) × ByteArray) :=
  (spec_DrawPiecesLeft.f code0).bind fun r1 =>
  some (r1.1, r1.2)
def spec_DrawTotalsOf.fn (n : Nat) (code0 : List Int) : Option ((List (Int × ByteArray × Int)) × ByteArray) := spec_DrawTotalsOf.top code0
def spec_DrawTotalsOf.f (code0 : List Int) : Option ((List (Int × ByteArray × Int)) × ByteArray) := spec_DrawTotalsOf.fn NN code0
end
end Go.Pl

namespace Go.Pl
open Go.Ev
set_option linter.unusedVariables false
set_option linter.unusedSimpArgs false
theorem getB_mem {xs : List ByteArray} {i : Nat} (h : i < xs.length) : xs.getD i ByteArray.empty ∈ xs := by
  rw [List.getD_eq_getElem?_getD, List.getElem?_eq_getElem h]; exact List.getElem_mem h
def names6 : List ByteArray := [(⟨#[97, 115, 116, 101, 114]⟩ : ByteArray), (⟨#[99, 111, 109, 101, 116]⟩ : ByteArray), (⟨#[100, 97, 104, 108, 105, 97]⟩ : ByteArray), (⟨#[112, 97, 108, 109]⟩ : ByteArray), (⟨#[112, 101, 111, 110, 121]⟩ : ByteArray), (⟨#[119, 105, 108, 108, 111, 119]⟩ : ByteArray)]
theorem names_f : spec_l03Names.f = some names6 := rfl
theorem names6_len : names6.length = 6 := rfl
theorem names6_sm : ∀ c ∈ names6, Sm c := by
  intro c hc
  unfold names6 at hc
  simp only [List.mem_cons, List.not_mem_nil, or_false] at hc
  unfold Sm
  rcases hc with h | h | h | h | h | h <;> (rw [h]; exact Nat.le_of_ble_eq_true rfl)
theorem good01_ok {s : List Int × Int × Int} (hs : SrcOk s) : ∃ u s', spec_l01Good.f s = some (u, s') ∧ SrcOk s' ∧ Sm u := by
  unfold spec_l01Good.f spec_l01Good.fn spec_l01Good.top
  obtain ⟨a, s1, e1, o1, a0, a1⟩ := next_ok hs 12 (by omega)
  rw [e1]
  simp only [Option.bind_some]
  rw [if_pos ⟨a0, by simp only [List.length_cons, List.length_nil]; omega⟩]
  refine ⟨_, _, rfl, o1, ?_⟩
  have hm := getB_mem (xs := [(⟨#[97, 100, 97]⟩ : ByteArray), (⟨#[98, 114, 117, 110, 111]⟩ : ByteArray), (⟨#[99, 108, 97, 114, 97]⟩ : ByteArray), (⟨#[100, 111, 114, 97]⟩ : ByteArray), (⟨#[101, 109, 105, 108]⟩ : ByteArray), (⟨#[102, 114, 105, 100, 97]⟩ : ByteArray), (⟨#[103, 117, 115, 116, 97, 118]⟩ : ByteArray), (⟨#[104, 97, 110, 110, 97]⟩ : ByteArray), (⟨#[105, 118, 97, 110]⟩ : ByteArray), (⟨#[106, 97, 110, 97]⟩ : ByteArray), (⟨#[107, 97, 114, 108]⟩ : ByteArray), (⟨#[108, 101, 110, 97]⟩ : ByteArray)]) (i := a.toNat) (by simp only [List.length_cons, List.length_nil]; omega)
  revert hm
  generalize List.getD _ a.toNat ByteArray.empty = c
  intro hc
  simp only [List.mem_cons, List.not_mem_nil, or_false] at hc
  unfold Sm
  rcases hc with h | h | h | h | h | h | h | h | h | h | h | h <;> (rw [h]; exact Nat.le_of_ble_eq_true rfl)
theorem drawWord_ok {s : List Int × Int × Int} (hs : SrcOk s) : ∃ u s', spec_l01DrawWord.f s = some (u, s') ∧ SrcOk s' ∧ Sm u := by
  unfold spec_l01DrawWord.f spec_l01DrawWord.fn spec_l01DrawWord.top
  obtain ⟨a, s1, e1, o1, a0, a1⟩ := next_ok hs 24 (by omega)
  obtain ⟨b, s2, e2, o2, b0, b1⟩ := next_ok o1 6 (by omega)
  obtain ⟨u, s3, e3, o3, u1⟩ := good01_ok o1
  rw [e1]
  simp only [Option.bind_some, e2, e3]
  split
  · rw [if_pos ⟨b0, by simp only [List.length_cons, List.length_nil]; omega⟩]
    refine ⟨_, _, rfl, o2, ?_⟩
    have hm := getB_mem (xs := [(⟨#[]⟩ : ByteArray), (⟨#[65, 100, 97]⟩ : ByteArray), (⟨#[97, 49]⟩ : ByteArray), (⟨#[97, 98, 99, 100, 101, 102, 103, 104, 105, 106, 107, 108, 109, 110, 111, 112]⟩ : ByteArray), (⟨#[97, 98, 99, 100, 101, 102, 103, 104, 105, 106, 107, 108, 109, 110, 111, 112, 113]⟩ : ByteArray), (⟨#[97, 32, 98]⟩ : ByteArray)]) (i := b.toNat) (by simp only [List.length_cons, List.length_nil]; omega)
    revert hm
    generalize List.getD _ b.toNat ByteArray.empty = c
    intro hc
    simp only [List.mem_cons, List.not_mem_nil, or_false] at hc
    unfold Sm
    rcases hc with h | h | h | h | h | h <;> (rw [h]; exact Nat.le_of_ble_eq_true rfl)
  · exact ⟨_, _, rfl, o3, u1⟩
theorem mkB {a c : Int} {n : ByteArray} (h1 : -9223372036854775808 ≤ a ∧ a ≤ 9223372036854775807) (h2 : Sm n) (h3 : -9223372036854775808 ≤ c ∧ c ≤ 9223372036854775807) : OkBooking (a, n, c) := ⟨wf64.2 h1, h2, wf64.2 h3⟩
theorem bookR_zero {xs : List (Int × ByteArray × Int)} {b : Int × ByteArray × Int} (h : (bookR xs b).2 = 0) : booksB xs = true ∧ (bookR xs b).1 = xs ++ [b] ∧ booksB (xs ++ [b]) = true := by
  unfold bookR at h ⊢
  by_cases h1 : booksB xs = true
  · rw [if_pos h1] at h ⊢
    by_cases h2 : xs.length = 60
    · rw [if_pos h2] at h; simp at h
    · rw [if_neg h2] at h ⊢
      by_cases h3 : booksB (xs ++ [b]) = true
      · rw [if_pos h3]; exact ⟨h1, rfl, h3⟩
      · rw [if_neg h3] at h; simp at h
  · rw [if_neg h1] at h; simp at h
theorem bookR_one (xs : List (Int × ByteArray × Int)) (b : Int × ByteArray × Int) : ((bookR xs b).2 != 1) = booksB xs := by
  unfold bookR
  cases h1 : booksB xs
  · rfl
  · by_cases h2 : xs.length = 60
    · simp [h2]
    · by_cases h3 : booksB (xs ++ [b]) = true
      · simp [h2, h3]
      · simp [h2, h3]
theorem good32_l : ∀ (d k : Nat) (s : List Int × Int × Int) (out : List (Int × ByteArray × Int)), d < k → d ≤ 1000 → SrcOk s → booksB out = true → Lm OkBooking out →
    ∃ o' s', spec_l32Good.l4 NN k d s out names6 = some (o', s') ∧ SrcOk s' ∧ booksB o' = true ∧ Lm OkBooking o' := by
  intro d
  induction d with
  | zero =>
    intro k s out hk _ hs hb hl
    obtain ⟨k, rfl⟩ : ∃ j, k = j + 1 := ⟨k - 1, by omega⟩
    exact ⟨out, s, by simp [spec_l32Good.l4, spec_l32Good.g4], hs, hb, hl⟩
  | succ d ih =>
    intro k s out hk hd hs hb hl
    obtain ⟨k, rfl⟩ : ∃ j, k = j + 1 := ⟨k - 1, by omega⟩
    obtain ⟨a, s1, e1, o1, a0, a1⟩ := next_ok hs 4 (by omega)
    obtain ⟨c, s2, e2, o2, c0, c1⟩ := next_ok o1 4 (by omega)
    obtain ⟨n, s3, e3, o3, n0, n1⟩ := next_ok o2 12 (by omega)
    obtain ⟨f, s4, e4, o4, f0, f1⟩ := next_ok o3 2 (by omega)
    have hv := booksB_val hb
    have hc : c < (names6.length : Int) := by rw [names6_len]; omega
    have hm := names6_sm _ (getB_mem (show c.toNat < names6.length by rw [names6_len]; omega))
    have hleft := leftOf_le (names6.getD c.toNat ByteArray.empty) out hv.1
    have z := l32Left_all out (names6.getD c.toNat ByteArray.empty) hv.1 (by omega)
    have hv2 := hv.2
    have w1 : IntKind.i64.wrap (((d + 1 : Nat) : Int) - 1) = (d : Int) := by rw [w64 (by omega) (by omega)]; omega
    have w2 := w64 (n := 1 + n) (by omega) (by omega)
    have bk : ∀ (b : Int × ByteArray × Int) (s' : List Int × Int × Int), OkBooking b → SrcOk s' → ∃ o' s'', ((spec_BookPieces.f out b).bind fun r => if ((r.2 : Int) == 0) = true then spec_l32Good.l4 NN k d s' r.1 names6 else spec_l32Good.l4 NN k d s' out names6) = some (o', s'') ∧ SrcOk s'' ∧ booksB o' = true ∧ Lm OkBooking o' := by
      intro b s' hb' hs'
      rw [spec_BookPieces_f out b hl hb']
      simp only [Option.bind_some]
      by_cases h0 : (bookR out b).2 = 0
      · rw [if_pos (by rw [h0]; rfl)]
        have := bookR_zero h0
        exact ih k s' _ (by omega) (by omega) hs' (by rw [this.2.1]; exact this.2.2) (bookR_ok out b hl hb')
      · rw [if_neg (by simpa using h0)]
        exact ih k s' out (by omega) (by omega) hs' hb hl
    simp only [spec_l32Good.l4, spec_l32Good.g4, show (0 : Int) < ((d + 1 : Nat) : Int) from by omega, decide_true, if_true, e1, e2, e3, e4, z, hc, c0, and_self, Option.bind_some, w1, w2]
    generalize names6.getD c.toNat ByteArray.empty = nm at hm hleft
    generalize leftOf out nm = lf at hleft
    have hmin : -9223372036854775808 ≤ (if lf < 1000 then lf else 1000) ∧ (if lf < 1000 then lf else 1000) ≤ 9223372036854775807 := by split <;> omega
    generalize (if lf < 1000 then lf else 1000) = mn at hmin
    by_cases h1 : 0 < a
    · by_cases h2 : 0 < lf
      · have f4 : (lf == 0) = false := by rw [beq_eq_false_iff_ne]; omega
        by_cases h3 : f = 0
        · have f3 : (f == 0) = true := by rw [h3]; rfl
          simp only [decide_eq_true h1, decide_eq_true h2, f3, f4, if_true, Bool.false_eq_true, if_false]
          exact bk (a, nm, mn) s4 (mkB (by omega) hm hmin) o4
        · have f3 : (f == 0) = false := by rw [beq_eq_false_iff_ne]; exact h3
          simp only [decide_eq_true h1, decide_eq_true h2, f3, f4, if_true, Bool.false_eq_true, if_false]
          exact bk (a, nm, 1 + n) s4 (mkB (by omega) hm (by omega)) o4
      · by_cases h4 : lf = 0
        · have f4 : (lf == 0) = true := by rw [h4]; rfl
          simp only [decide_eq_true h1, decide_eq_false h2, f4, if_true, Bool.false_eq_true, if_false]
          exact bk (0, nm, 1 + n) s3 (mkB (by omega) hm (by omega)) o3
        · have f4 : (lf == 0) = false := by rw [beq_eq_false_iff_ne]; exact h4
          simp only [decide_eq_true h1, decide_eq_false h2, f4, if_true, Bool.false_eq_true, if_false]
          exact bk (a, nm, 1 + n) s3 (mkB (by omega) hm (by omega)) o3
    · by_cases h4 : lf = 0
      · have f4 : (lf == 0) = true := by rw [h4]; rfl
        simp only [decide_eq_false h1, f4, if_true, Bool.false_eq_true, if_false]
        exact bk (0, nm, 1 + n) s3 (mkB (by omega) hm (by omega)) o3
      · have f4 : (lf == 0) = false := by rw [beq_eq_false_iff_ne]; exact h4
        simp only [decide_eq_false h1, f4, if_true, Bool.false_eq_true, if_false]
        exact bk (a, nm, 1 + n) s3 (mkB (by omega) hm (by omega)) o3
theorem good32_ok {s : List Int × Int × Int} (hs : SrcOk s) : ∃ o s', spec_l32Good.f s = some (o, s') ∧ SrcOk s' ∧ booksB o = true ∧ Lm OkBooking o := by
  unfold spec_l32Good.f spec_l32Good.fn spec_l32Good.top
  obtain ⟨n, s1, e1, o1, n0, n1⟩ := next_ok hs 10 (by omega)
  obtain ⟨N, hN⟩ := Int.eq_ofNat_of_zero_le n0
  subst hN
  simp only [names_f, e1, Option.bind_some]
  exact good32_l N NN s1 [] (NN_lt (by omega)) (by omega) o1 rfl ⟨by simp, by simp⟩
theorem draw32_l : ∀ (d k : Nat) (s : List Int × Int × Int) (out : List (Int × ByteArray × Int)), out.length + d = 62 → d < k → SrcOk s → Lm OkBooking out →
    ∃ o s', spec_l32Draw.l6 NN k s out = some (o, s') ∧ SrcOk s' ∧ Lm OkBooking o := by
  intro d
  induction d with
  | zero =>
    intro k s out hd hk hs hl
    obtain ⟨k, rfl⟩ : ∃ j, k = j + 1 := ⟨k - 1, by omega⟩
    obtain ⟨a, s1, e1, o1, a0, a1⟩ := next_ok hs 2 (by omega)
    have w := w64 (n := 60 + a) (by omega) (by omega)
    have n1 : ¬ (out.length : Int) < 60 + a := by omega
    simp only [spec_l32Draw.l6, spec_l32Draw.g6, e1, Option.bind_some, w, n1, decide_false, Bool.false_eq_true, if_false]
    exact ⟨_, _, rfl, o1, hl⟩
  | succ d ih =>
    intro k s out hd hk hs hl
    obtain ⟨k, rfl⟩ : ∃ j, k = j + 1 := ⟨k - 1, by omega⟩
    obtain ⟨a, s1, e1, o1, a0, a1⟩ := next_ok hs 2 (by omega)
    have w := w64 (n := 60 + a) (by omega) (by omega)
    by_cases n1 : (out.length : Int) < 60 + a
    · simp only [spec_l32Draw.l6, spec_l32Draw.g6, e1, Option.bind_some, w, n1, decide_true, if_true]
      rw [if_pos (by rw [room32]; simp; omega)]
      exact ih k s1 _ (by simp; omega) (by omega) o1 (ok_snoc hl (mkB (by omega) (Nat.le_of_ble_eq_true rfl) (by omega)) (by omega))
    · simp only [spec_l32Draw.l6, spec_l32Draw.g6, e1, Option.bind_some, w, n1, decide_false, Bool.false_eq_true, if_false]
      exact ⟨_, _, rfl, o1, hl⟩
theorem draw32_ok {s : List Int × Int × Int} (hs : SrcOk s) : ∃ o s', spec_l32Draw.f s = some (o, s') ∧ SrcOk s' ∧ Lm OkBooking o := by
  unfold spec_l32Draw.f spec_l32Draw.fn spec_l32Draw.top
  obtain ⟨o, s1, e1, o1, b1, l1⟩ := good32_ok hs
  have hv := (booksB_val b1).2
  obtain ⟨x, s2, e2, o2, x0, x1⟩ := next_ok o1 30 (by omega)
  obtain ⟨y, s3, e3, o3, y0, y1⟩ := next_ok o2 6 (by omega)
  obtain ⟨u, s4, e4, o4, u1⟩ := drawWord_ok o3
  obtain ⟨c, s5, e5, o5, c1⟩ := pick_ok o4 [0, 1, 1000, 1001] (by simp) (by simp)
  have hc : 0 ≤ c ∧ c ≤ 1001 := by simp at c1; omega
  have w := w64 (n := y - 1) (by omega) (by omega)
  simp only [e1, e2, e3, e4, e5, Option.bind_some, w]
  by_cases h0 : x = 0
  · simp only [h0, beq_self_eq_true, if_true]
    rw [if_pos (by rw [room32]; simp; omega)]
    exact ⟨_, _, rfl, o5, ok_snoc l1 (mkB (by omega) u1 (by omega)) (by omega)⟩
  · by_cases h1 : x = 1
    · simp only [h1, beq_iff_eq, show ¬ (1 : Int) = 0 from by omega, if_true, if_false]
      exact draw32_l (62 - o.length) NN s2 o (by omega) (NN_lt (by omega)) o2 l1
    · by_cases h2 : x = 2
      · simp only [h2, beq_iff_eq, show ¬ (2 : Int) = 0 from by omega, show ¬ (2 : Int) = 1 from by omega, if_true, if_false]
        rw [if_pos (by rw [room32]; simp; omega)]
        refine ⟨_, _, rfl, o2, ?_⟩
        have q1 := ok_snoc l1 (mkB (a := 0) (n := (⟨#[97, 115, 116, 101, 114]⟩ : ByteArray)) (c := 1000) (by omega) (Nat.le_of_ble_eq_true rfl) (by omega)) (by omega)
        have q2 := ok_snoc q1 (mkB (a := 0) (n := (⟨#[97, 115, 116, 101, 114]⟩ : ByteArray)) (c := 700) (by omega) (Nat.le_of_ble_eq_true rfl) (by omega)) (by simp; omega)
        rw [List.append_assoc] at q2
        exact q2
      · simp only [h0, h1, h2, beq_iff_eq, if_false]
        exact ⟨_, _, rfl, o2, l1⟩
theorem drawBook_ok {code : List Int} (h : CodeOk code) : ∃ o b, spec_DrawBookPieces.f code = some (o, b) ∧ Lm OkBooking o ∧ OkBooking b := by
  unfold spec_DrawBookPieces.f spec_DrawBookPieces.fn spec_DrawBookPieces.top
  obtain ⟨s, e, ho⟩ := from_ok h
  obtain ⟨o, s1, e1, o1, l1⟩ := draw32_ok ho
  obtain ⟨x, s2, e2, o2, x0, x1⟩ := next_ok o1 4 (by omega)
  obtain ⟨y, s3, e3, o3, y0, y1⟩ := next_ok o2 5 (by omega)
  obtain ⟨m, s4, e4, o4, m0, m1⟩ := next_ok o3 12 (by omega)
  obtain ⟨n, s5, e5, o5, n0, n1⟩ := next_ok o4 4 (by omega)
  have w1 := w64 (n := 1 + m) (by omega) (by omega)
  have w2 := w64 (n := 1 + n) (by omega) (by omega)
  obtain ⟨c, s6, e6, o6, c1⟩ := pick_ok o5 [1 + m, 1, 1000, 1001, 1 + n] (by simp) (by simp)
  have hc : 0 ≤ c ∧ c ≤ 1001 := by simp at c1; omega
  have hy : y < (names6.length : Int) := by rw [names6_len]; omega
  have hm := names6_sm _ (getB_mem (show y.toNat < names6.length by rw [names6_len]; omega))
  simp only [e, e1, e2, e3, e4, e5, w1, w2, e6, names_f, Option.bind_some, y0, hy, and_self, if_true]
  exact ⟨_, _, rfl, l1, mkB (by omega) hm (by omega)⟩
theorem drawPieces_ok {code : List Int} (h : CodeOk code) : ∃ o b, spec_DrawPiecesLeft.f code = some (o, b) ∧ Lm OkBooking o ∧ Sm b := by
  unfold spec_DrawPiecesLeft.f spec_DrawPiecesLeft.fn spec_DrawPiecesLeft.top
  obtain ⟨s, e, ho⟩ := from_ok h
  obtain ⟨o, s1, e1, o1, l1⟩ := draw32_ok ho
  obtain ⟨x, s2, e2, o2, x0, x1⟩ := next_ok o1 16 (by omega)
  obtain ⟨u, s3, e3, o3, u1⟩ := drawWord_ok o2
  obtain ⟨y, s4, e4, o4, y0, y1⟩ := next_ok o2 5 (by omega)
  have hy : y < (names6.length : Int) := by rw [names6_len]; omega
  have hm := names6_sm _ (getB_mem (show y.toNat < names6.length by rw [names6_len]; omega))
  simp only [e, e1, e2, e3, e4, names_f, Option.bind_some, y0, hy, and_self, if_true]
  split
  · exact ⟨_, _, rfl, l1, u1⟩
  · exact ⟨_, _, rfl, l1, hm⟩
theorem likeBookings_self (a : List (Int × ByteArray × Int)) (hl : a.length ≤ 140737488355328) : laws_likeBookings.f a a = some true := by
  unfold laws_likeBookings.f laws_likeBookings.fn laws_likeBookings.top
  simp only [bne_self_eq_false, Bool.false_eq_true, if_false]
  refine eqS_loop (E := fun _ => True) (fun k a b i => laws_likeBookings.l4 NN k a b i) a (fun _ _ => trivial) ?_ ?_ NN (NN_lt (by omega))
  · intro k p x r hx ha
    subst ha
    have hm := mid_len p r x
    have c1 : (p.length : Int) < ((p ++ x :: r).length : Int) := by omega
    have c0 : (0 : Int) ≤ (p.length : Int) := by omega
    have cw := w64 (n := (p.length : Int) + 1) (by omega) (by omega)
    simp only [laws_likeBookings.l4, laws_likeBookings.g4, c0, c1, cw, and_self, and_true, true_and, decide_true, decide_false, if_true, if_false, mid_get, mid_set, mid_getn, mid_setn, bt_mid, Option.bind_some, Bool.not_true, Bool.not_false, Bool.false_eq_true, Bool.true_eq_false, beq_self_eq_true, bne_self_eq_false, Int.toNat_natCast]
    simp
  · intro k
    simp [laws_likeBookings.l4, laws_likeBookings.g4]
theorem leftOf_nonneg : ∀ (r p : List (Int × ByteArray × Int)) (a : ByteArray), okFrom p r = true → 0 ≤ leftOf p a → 0 ≤ leftOf (p ++ r) a := by
  intro r
  induction r with
  | nil => intro p a _ h; rwa [List.append_nil]
  | cons b r ih =>
    intro p a h hp
    simp only [okFrom, Bool.and_eq_true, decide_eq_true_eq] at h
    have := ih (p ++ [b]) a h.2 (by
      by_cases ha : b.2.1 = a
      · rw [← ha]; exact h.1.2
      · rw [leftOf_snoc]; unfold addL; rw [if_neg ha]; exact hp)
    rwa [List.append_assoc] at this
theorem tot0_mono (a : ByteArray) : ∀ (r p : List (Int × ByteArray × Int)), (∀ b ∈ p ++ r, valB b = true) → (totL p a).getD 0 0 ≤ (totL (p ++ r) a).getD 0 0 := by
  intro r
  induction r with
  | nil => intro p _; rw [List.append_nil]; exact Int.le_refl _
  | cons b r ih =>
    intro p h
    have h1 := ih (p ++ [b]) (by rw [List.append_assoc]; exact h)
    rw [List.append_assoc] at h1
    refine Int.le_trans ?_ h1
    have hv := valB_count (h b (by simp))
    obtain ⟨t0, t1, t2, t3, q1, q2⟩ := totL_shape a p (fun x hx => h x (by simp [hx]))
    rw [totL_snoc, q1]
    unfold addT
    split
    · obtain h | h | h | h : b.1 = 0 ∨ b.1 = 1 ∨ b.1 = 2 ∨ b.1 = 3 := by omega
      all_goals (rw [h]; simp)
      omega
    · exact Int.le_refl _
theorem left_tot0 (xs : List (Int × ByteArray × Int)) (a : ByteArray) (h : ∀ b ∈ xs, valB b = true) (n : Nat) : leftOf (xs.take n) a ≤ (totL xs a).getD 0 0 := by
  have h1 := tot0_mono a (xs.drop n) (xs.take n) (by rw [List.take_append_drop]; exact h)
  rw [List.take_append_drop] at h1
  obtain ⟨t0, t1, t2, t3, q1, q2, q3, q4, q5, q6, q7⟩ := totL_shape a (xs.take n) (fun x hx => h x (List.mem_of_mem_take hx))
  rw [q1] at h1
  have : ([t0, t1, t2, t3] : List Int).getD 0 0 = t0 := rfl
  rw [this] at h1
  omega
theorem most_le (xs : List (Int × ByteArray × Int)) (a : ByteArray) (h : ∀ b ∈ xs, valB b = true) (B : Int) (hB : ∀ n, leftOf (xs.take n) a ≤ B) : ∀ (r : List (Int × ByteArray × Int)) (i : Nat) (st : Int), st ≤ B → foldi (fun i st (_ : Int × ByteArray × Int) => mostF xs a i st) i st r ≤ B := by
  intro r
  induction r with
  | nil => intro i st hs; exact hs
  | cons b r ih =>
    intro i st hs
    refine ih (i + 1) _ ?_
    have := hB (i + 1)
    show mostF xs a i st ≤ B
    unfold mostF; split <;> omega
theorem most_ge (xs : List (Int × ByteArray × Int)) (a : ByteArray) : ∀ (r : List (Int × ByteArray × Int)) (i : Nat) (st : Int), st ≤ foldi (fun i st (_ : Int × ByteArray × Int) => mostF xs a i st) i st r ∧ (0 < r.length → leftOf (xs.take (i + r.length)) a ≤ foldi (fun i st (_ : Int × ByteArray × Int) => mostF xs a i st) i st r) := by
  intro r
  induction r with
  | nil => intro i st; exact ⟨Int.le_refl _, fun h => by simp at h⟩
  | cons b r ih =>
    intro i st
    have h1 := ih (i + 1) (mostF xs a i st)
    have h2 : st ≤ mostF xs a i st ∧ leftOf (xs.take (i + 1)) a ≤ mostF xs a i st := by unfold mostF; split <;> omega
    refine ⟨Int.le_trans h2.1 h1.1, fun _ => ?_⟩
    cases r with
    | nil => exact Int.le_trans h2.2 h1.1
    | cons c r =>
      have := h1.2 (by simp)
      rw [show i + (b :: c :: r).length = i + 1 + (c :: r).length by simp only [List.length_cons]; omega]
      exact this
theorem most_bd (xs : List (Int × ByteArray × Int)) (a : ByteArray) (h : booksB xs = true) : 0 ≤ leftOf xs a ∧ leftOf xs a ≤ mostL xs a ∧ mostL xs a ≤ (totL xs a).getD 0 0 := by
  have hv := booksB_val h
  have hok : okFrom [] xs = true := by
    unfold booksB at h
    simp only [Bool.and_eq_true] at h
    exact h.2
  have h0 := leftOf_nonneg xs [] a hok (Int.le_refl 0)
  rw [List.nil_append] at h0
  have ht := left_tot0 xs a hv.1
  refine ⟨h0, ?_, ?_⟩
  · have := most_ge xs a xs 0 0
    unfold mostL
    cases xs with
    | nil => exact Int.le_refl 0
    | cons b r =>
      have h2 := this.2 (by simp)
      rw [Nat.zero_add, List.take_length] at h2
      exact h2
  · unfold mostL
    refine most_le xs a hv.1 _ ht xs 0 0 ?_
    have := ht 0
    rw [List.take_zero] at this
    exact this
end Go.Pl

namespace Go.Pl
open Go.Ev
set_option linter.unusedVariables false
set_option linter.unusedSimpArgs false
theorem night_l17 (books : List Bk) (x : Show) : ∀ (r p : List Int) (acc : List Int) (k : Nat), p.length + r.length ≤ 1000000 → acc.length ≤ p.length → r.length < k →
    laws_FnNight.l17 NN k books p.length x (p ++ r) acc = laws_FnNight.l1000021 NN NN books x (acc ++ idxP p.length r) := by
  intro r
  induction r with
  | nil =>
    intro p acc k _ _ hk
    obtain ⟨k, rfl⟩ : ∃ j, k = j + 1 := ⟨k - 1, by omega⟩
    simp only [List.append_nil, idxP, laws_FnNight.l17, laws_FnNight.g17, Int.lt_irrefl, and_self, and_true, true_and, decide_true, decide_false, if_true, if_false, mid_get, mid_set, mid_getn, mid_setn, bt_mid, Option.bind_some, Bool.not_true, Bool.not_false, Bool.false_eq_true, Bool.true_eq_false, beq_self_eq_true, bne_self_eq_false, Int.toNat_natCast]
  | cons t r ih =>
    intro p acc k hl ha hk
    simp only [List.length_cons] at hl hk
    obtain ⟨k, rfl⟩ : ∃ j, k = j + 1 := ⟨k - 1, by omega⟩
    have hln := mid_len p r t
    have c0 : (0 : Int) ≤ (p.length : Int) := by omega
    have c1 : (p.length : Int) < ((p ++ t :: r).length : Int) := by omega
    have cw := w64 (n := (p.length : Int) + 1) (by omega) (by omega)
    have i := fun a h => ih (p ++ [t]) a k (by simp; omega) h (by omega)
    simp only [mid_snoc, snoc_len] at i
    have e2 : (p ++ [t]).length = p.length + 1 := by simp
    rw [e2] at i
    simp only [laws_FnNight.l17, laws_FnNight.g17, c1, and_self, and_true, true_and, decide_true, decide_false, if_true, if_false, mid_get, mid_set, mid_getn, mid_setn, bt_mid, Option.bind_some, Bool.not_true, Bool.not_false, Bool.false_eq_true, Bool.true_eq_false, beq_self_eq_true, bne_self_eq_false, Int.toNat_natCast]
    rw [laws_FnNight.c1000019 nn0]
    unfold laws_FnNight.g1000019
    simp only [c0, c1, and_self, and_true, true_and, decide_true, decide_false, if_true, if_false, mid_get, mid_set, mid_getn, mid_setn, bt_mid, Option.bind_some, Bool.not_true, Bool.not_false, Bool.false_eq_true, Bool.true_eq_false, beq_self_eq_true, bne_self_eq_false, Int.toNat_natCast, laws_FnNight.c1000018 nn0, laws_FnNight.g1000018, cw]
    by_cases h : 0 ≤ t
    · have hro := room8a acc (p.length : Int) (by omega)
      simp only [h, hro, and_self, and_true, true_and, decide_true, decide_false, if_true, if_false, mid_get, mid_set, mid_getn, mid_setn, bt_mid, Option.bind_some, Bool.not_true, Bool.not_false, Bool.false_eq_true, Bool.true_eq_false, beq_self_eq_true, bne_self_eq_false, Int.toNat_natCast, idxP]
      rw [i _ (by simp; omega), List.append_assoc]; rfl
    · simp only [h, and_self, and_true, true_and, decide_true, decide_false, if_true, if_false, mid_get, mid_set, mid_getn, mid_setn, bt_mid, Option.bind_some, Bool.not_true, Bool.not_false, Bool.false_eq_true, Bool.true_eq_false, beq_self_eq_true, bne_self_eq_false, Int.toNat_natCast, idxP]
      rw [i _ (by omega)]
theorem night_l30 (L26 : List Bk → Int → Int → Show → List Int → List Bk → Option Bool) (books : List Bk) (x : Show) (kk : Nat) (a : Art) (hkk : kk < x.2.1.length) (ha : ∀ z, x.2.1.getD kk z = a) (b : List Bk) (fired : List Int) (hf : ∀ f ∈ fired, 0 ≤ f ∧ f < (x.2.2.length : Int)) (hl : fired.length ≤ 1000000) :
    laws_FnNight.l30 NN L26 NN books 0 kk 0 0 x fired b = laws_FnNight.l1000034 NN L26 NN books 0 kk (cntN x fired a.1 : Int) x fired b := by
  have := (fold_fix (E := fun f : Int => 0 ≤ f ∧ f < (x.2.2.length : Int)) (fun p (st : Int) => st = (cntN x p a.1 : Int)) (fun _ st f => if cueA x f = a.1 then st + 1 else st) (fun st => laws_FnNight.l1000034 NN L26 NN books 0 kk st x fired b) (fun k i st => laws_FnNight.l30 NN L26 k books 0 kk st i x fired b) fired ?_ ?_ 0 hf rfl (by omega) NN (NN_lt (by omega)))
  · refine this.2.trans ?_
    rw [this.1]
  · intro k st _
    simp only [laws_FnNight.l30, laws_FnNight.g30, Int.lt_irrefl, and_self, and_true, true_and, decide_true, decide_false, if_true, if_false, mid_get, mid_set, mid_getn, mid_setn, bt_mid, Option.bind_some, Bool.not_true, Bool.not_false, Bool.false_eq_true, Bool.true_eq_false, beq_self_eq_true, bne_self_eq_false, Int.toNat_natCast]
  · intro k p f r st hx hff hst c0 c1 c2 cw g
    have hp := cntN_le x p a.1
    have hpl : p.length ≤ 1000000 := by rw [hx] at hl; simp at hl; omega
    have w := w64 (n := st + 1) (by omega) (by omega)
    have d0 : (0 : Int) ≤ (kk : Int) := by omega
    have d1 : (kk : Int) < (x.2.1.length : Int) := by omega
    refine ⟨by rw [cntN_snoc, hst]; split <;> simp, ?_⟩
    simp only [laws_FnNight.l30, laws_FnNight.g30, c1, and_self, and_true, true_and, decide_true, decide_false, if_true, if_false, mid_get, mid_set, mid_getn, mid_setn, bt_mid, Option.bind_some, Bool.not_true, Bool.not_false, Bool.false_eq_true, Bool.true_eq_false, beq_self_eq_true, bne_self_eq_false, Int.toNat_natCast]
    rw [laws_FnNight.c1000032 nn0]
    unfold laws_FnNight.g1000032
    simp only [c0, c1, g, hff.1, hff.2, d0, d1, ha, and_self, and_true, true_and, decide_true, decide_false, if_true, if_false, mid_get, mid_set, mid_getn, mid_setn, bt_mid, Option.bind_some, Bool.not_true, Bool.not_false, Bool.false_eq_true, Bool.true_eq_false, beq_self_eq_true, bne_self_eq_false, Int.toNat_natCast, laws_FnNight.c1000031 nn0, laws_FnNight.g1000031, cw, ba_beq, w]
    have e : (x.2.2.getD f.toNat (0, (0, (ByteArray.empty, 0)))).2.2.1 = cueA x f := rfl
    rw [e]
    by_cases h : cueA x f = a.1 <;> simp [h]
theorem night_l26 (books : List Bk) (x : Show) (fired : List Int) (hf : ∀ f ∈ fired, 0 ≤ f ∧ f < (x.2.2.length : Int)) (hl : fired.length ≤ 1000000) (hx : artsB x.2.1 = true) (hb : booksB books = true) (hb2 : booksB (books ++ extF x fired x.2.1) = true) : ∀ (r p : List Art) (k : Nat), x.2.1 = p ++ r → r.length < k →
    laws_FnNight.l26 NN k books 0 p.length x fired (books ++ extF x fired x.2.1) = some true := by
  intro r
  induction r with
  | nil =>
    intro p k hp hk
    obtain ⟨k, rfl⟩ : ∃ j, k = j + 1 := ⟨k - 1, by omega⟩
    have c1 : ¬ (p.length : Int) < (x.2.1.length : Int) := by rw [hp]; simp
    simp only [laws_FnNight.l26, laws_FnNight.g26, c1, and_self, and_true, true_and, decide_true, decide_false, if_true, if_false, mid_get, mid_set, mid_getn, mid_setn, bt_mid, Option.bind_some, Bool.not_true, Bool.not_false, Bool.false_eq_true, Bool.true_eq_false, beq_self_eq_true, bne_self_eq_false, Int.toNat_natCast]
  | cons a r ih =>
    intro p k hp hk
    simp only [List.length_cons] at hk
    obtain ⟨k, rfl⟩ : ∃ j, k = j + 1 := ⟨k - 1, by omega⟩
    have hlen := (artsB_ok hx).1
    have hpl : p.length < x.2.1.length := by rw [hp]; simp
    have c0 : (0 : Int) ≤ (p.length : Int) := by omega
    have c1 : (p.length : Int) < (x.2.1.length : Int) := by omega
    have cw := w64 (n := (p.length : Int) + 1) (by omega) (by omega)
    have g : ∀ z, x.2.1.getD p.length z = a := fun z => by rw [hp]; exact mid_getn p r a z
    have hwa : wordB a.1 = true := (artB_iff ((artsB_ok hx).2 a (by rw [hp]; simp))).1
    have hws := wordB_size hwa
    have hsm : Sm a.1 := Nat.le_trans hws.2 (by omega)
    obtain ⟨n1, n2⟩ := arts_ne hx hp
    have hcn := cntN_le x fired a.1
    have hL : leftOf (books ++ extF x fired x.2.1) a.1 = leftOf books a.1 - (cntN x fired a.1 : Int) := by
      unfold leftOf
      rw [List.foldl_append, hp, ext_left x fired p r a n1 n2]
    have v1 := booksB_val hb
    have b1 := leftOf_le a.1 books v1.1
    have w := w64 (n := leftOf books a.1 - (cntN x fired a.1 : Int)) (by omega) (by omega)
    have i := ih (p ++ [a]) k (by rw [hp, mid_snoc]) (by omega)
    rw [snoc_len] at i
    have e0 : ((0 : Int) == 0) = true := rfl
    have e1 : ((0 : Int) != 0) = false := rfl
    simp only [laws_FnNight.l26, laws_FnNight.g26, c1, e0, and_self, and_true, true_and, decide_true, decide_false, if_true, if_false, mid_get, mid_set, mid_getn, mid_setn, bt_mid, Option.bind_some, Bool.not_true, Bool.not_false, Bool.false_eq_true, Bool.true_eq_false, beq_self_eq_true, bne_self_eq_false, Int.toNat_natCast]
    rw [laws_FnNight.c1000028 nn0]
    unfold laws_FnNight.g1000028
    rw [night_l30 _ books x p.length a hpl g _ fired hf hl, laws_FnNight.c1000034 nn0]
    unfold laws_FnNight.g1000034
    simp only [c0, c1, g, and_self, and_true, true_and, decide_true, decide_false, if_true, if_false, mid_get, mid_set, mid_getn, mid_setn, bt_mid, Option.bind_some, Bool.not_true, Bool.not_false, Bool.false_eq_true, Bool.true_eq_false, beq_self_eq_true, bne_self_eq_false, Int.toNat_natCast]
    rw [(PiecesLeft_both books a.1 (books_lm hb) hsm).2, (PiecesLeft_both _ a.1 (books_lm hb2) hsm).2]
    unfold leftR
    rw [if_pos ⟨hb, hwa⟩, if_pos ⟨hb2, hwa⟩]
    simp only [e1, and_self, and_true, true_and, decide_true, decide_false, if_true, if_false, mid_get, mid_set, mid_getn, mid_setn, bt_mid, Option.bind_some, Bool.not_true, Bool.not_false, Bool.false_eq_true, Bool.true_eq_false, beq_self_eq_true, bne_self_eq_false, Int.toNat_natCast, hL, w, laws_FnNight.c1000027 nn0, laws_FnNight.g1000027, cw]
    exact i
theorem FnNight_true (books : List Bk) (x : Show) (l : List Sig) (ms : List Mov) (zs : List ByteArray) (hyp : Ls PlBooking books ∧ PlShow x ∧ Ls PlSignal l ∧ Ls PlMove ms ∧ Ls Sz zs) : laws_FnNight.f books x l ms zs = some true := by
  obtain ⟨hB, hX, hS, hM, hZs⟩ := hyp
  unfold laws_FnNight.f laws_FnNight.fn laws_FnNight.top
  rw [laws_FnNight.c1000001 nn0]
  unfold laws_FnNight.g1000001
  by_cases h1 : (65536 : Int) < (books.length : Int)
  · rw [if_neg (by rw [decide_eq_true h1]; simp)]
  rw [if_pos (decide_eq_false h1)]
  by_cases h2 : (65536 : Int) < (x.2.2.length : Int)
  · rw [if_neg (by rw [decide_eq_true h2]; simp)]
  rw [if_pos (decide_eq_false h2)]
  by_cases h3 : (65536 : Int) < (l.length : Int)
  · rw [if_neg (by rw [decide_eq_true h3]; simp)]
  rw [if_pos (decide_eq_false h3)]
  by_cases h4 : (65536 : Int) < (ms.length : Int)
  · rw [if_neg (by rw [decide_eq_true h4]; simp)]
  rw [if_pos (decide_eq_false h4)]
  by_cases h5 : (65536 : Int) < (zs.length : Int)
  · rw [if_pos (decide_eq_true h5)]
  rw [if_neg (by simpa using h5)]
  have hz : ∀ b ∈ books, Sz b.2.1 := fun b h => (hB.2 b h).2.1
  have hZ : ShowZ x := ⟨hX.1.1, ⟨hX.2.1.1, fun a ha => (hX.2.1.2 a ha).1⟩, hX.2.2.1⟩
  obtain ⟨t1, t2⟩ := FireTimes_both x hZ
  rw [laws_FnNight.c1000003 nn0]
  unfold laws_FnNight.g1000003
  rw [t1, Option.bind_some, laws_FnNight.c1000004 nn0]
  unfold laws_FnNight.g1000004
  rw [t2, Option.bind_some, laws_FnNight.c1000005 nn0]
  unfold laws_FnNight.g1000005
  have ht : (timR x).1.length ≤ 1000000 := by
    unfold timR
    split
    · rw [List.length_map]; omega
    · simp
  rw [if_pos (show ((timR x).2 != (timR x).2) = false by simp), likeInts_self _ (by omega), Option.bind_some, if_neg (by simp), laws_FnNight.c1000007 nn0]
  unfold laws_FnNight.g1000007
  by_cases q1 : ((timR x).2 != 0) = true
  · rw [if_pos q1]
  rw [if_neg q1]
  obtain ⟨s1, s2⟩ := FiredSafely_both (timR x).1 l ms zs ht (by omega) (by omega) (fun m hm => (hM.2 m hm).2.1) (by omega) hZs.2
  rw [s1, s2, Option.bind_some, Option.bind_some]
  generalize hF : firR (timR x).1 l ms zs = F
  have hFl : F.1.length ≤ 1000000 := by
    rw [← hF]
    unfold firR
    split
    · rw [List.length_map]; exact ht
    · simp
  rw [if_pos (show (F.2 != F.2) = false by simp), likeInts_self _ (by omega), Option.bind_some, if_neg (by simp), laws_FnNight.c1000013 nn0]
  unfold laws_FnNight.g1000013
  by_cases q2 : (F.2 != 0) = true
  · rw [if_pos q2]
  rw [if_neg q2, laws_FnNight.c1000016 nn0]
  unfold laws_FnNight.g1000016
  have hi := night_l17 books x F.1 [] [] NN (by simpa using hFl) (by simp) (NN_lt (by omega))
  simp only [List.nil_append, List.length_nil] at hi
  refine Eq.trans hi ?_
  have hfl : (idxP 0 F.1).length ≤ 1000000 := Nat.le_trans (idxP_len _ _) hFl
  generalize idxP 0 F.1 = fired at hfl
  rw [laws_FnNight.c1000021 nn0]
  unfold laws_FnNight.g1000021
  rw [impl_BookShow_f books x fired (by omega) hz hZ hfl, spec_BookShow_f books x fired (by omega) hz hZ hfl, Option.bind_some, Option.bind_some]
  rcases bookS_cases books x fired with ⟨b1, b2⟩ | ⟨bb, bs, bf, bbb, be⟩
  · generalize bookS books x fired = w at b1 b2
    rw [if_pos (show (w.2 != w.2) = false by simp), b2, likeBookings_self [] (by simp), Option.bind_some, if_neg (by simp), laws_FnNight.c1000025 nn0]
    unfold laws_FnNight.g1000025
    obtain ⟨k, hk⟩ : ∃ j, NN = j + 1 := ⟨NN - 1, by have := nn0; omega⟩
    have e : (w.2 == 0) = false := by simpa using b1
    rw [show laws_FnNight.l26 NN NN = laws_FnNight.l26 NN (k + 1) by rw [← hk]]
    simp only [laws_FnNight.l26, laws_FnNight.g26, e, and_self, and_true, true_and, decide_true, decide_false, if_true, if_false, mid_get, mid_set, mid_getn, mid_setn, bt_mid, Option.bind_some, Bool.not_true, Bool.not_false, Bool.false_eq_true, Bool.true_eq_false, beq_self_eq_true, bne_self_eq_false, Int.toNat_natCast]
  · have hext : bookL x fired books = books ++ extF x fired x.2.1 := bookL_ext x fired x.2.1 books
    rw [hext] at bbb be
    rw [be]
    have hin : ∀ f ∈ fired, 0 ≤ f ∧ f < (x.2.2.length : Int) := fun f h => by
      unfold firedB at bf
      rw [Bool.and_eq_true] at bf
      have := inB_iff.1 (List.all_eq_true.1 bf.1 f h)
      omega
    have hll := (booksB_val bbb).2
    rw [if_pos (show ((0 : Int) != 0) = false from rfl), likeBookings_self _ (show (books ++ extF x fired x.2.1).length ≤ 140737488355328 by omega), Option.bind_some, if_neg (by simp), laws_FnNight.c1000025 nn0]
    unfold laws_FnNight.g1000025
    exact night_l26 books x fired hin hfl (showB_iff bs).2.1 bb bbb x.2.1 [] NN rfl (NN_lt (by have := (artsB_ok (showB_iff bs).2.1).1; omega))
end Go.Pl
