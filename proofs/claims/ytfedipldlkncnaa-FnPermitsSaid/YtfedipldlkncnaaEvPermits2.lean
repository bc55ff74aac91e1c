/- Part 2 of what the law FnPermits stands on: an evaluator of the model's code, proved sound; the functions as plain texts; their contracts. -/
import Derived.Test.YtfedipldlkncnaaChecked
import Derived.Test.YtfedipldlkncnaaProg
import Derived.Test.YtfedipldlkncnaaRows
import Derived.Below
import Derived.Calls
import Derived.Carry
import Derived.ChangeArms
import Derived.ChangeKeysEq
import Derived.ChangeOld
import Derived.Deep.Quiet
import Derived.KernelRfl
import Derived.Laws.Append
import Derived.Laws.BytesString
import Derived.Laws.MakeOwn
import Derived.Laws.Strings
import Derived.Laws.StructEq
import Derived.OpenShut
import Derived.OrdersHeld
import Derived.ProofKit
import Derived.ShutString
import Derived.SizedLaws
import Derived.Tactics
import Derived.WalkKit
import Derived.WideShapes
import Derived.Test.YtfedipldlkncnaaEvPermits1
namespace Go.Pl
open Go.Ev
set_option linter.unusedVariables false
noncomputable section
def spec_IsPermit.top (p0 : Int × Int × Int × Int × List Int × Int) : Option Bool :=
  (spec_l01In.f p0.1 0 100000).bind fun r1 =>
  if r1 = true then
    (spec_l01In.f p0.2.1 p0.1 100000).bind fun r2 =>
    if r2 = true then
      (spec_l01In.f p0.2.2.1 0 1000000000).bind fun r3 =>
      if r3 = true then
        (spec_l01In.f p0.2.2.2.1 20 300).bind fun r4 =>
        if r4 = true then
          (spec_l01Rises.f p0.2.2.2.2.1 4).bind fun r5 =>
          if r5 = true then
            (spec_l01In.f p0.2.2.2.2.2 0 3).bind fun r6 =>
            some r6
          else
            some false
        else
          some false
      else
        some false
    else
      some false
  else
    some false
def spec_IsPermit.fn (n : Nat) (p0 : Int × Int × Int × Int × List Int × Int) : Option Bool := spec_IsPermit.top p0
def spec_IsPermit.f (p0 : Int × Int × Int × Int × List Int × Int) : Option Bool := spec_IsPermit.fn NN p0
end
end Go.Pl

namespace Go.Pl
open Go.Ev
set_option linter.unusedVariables false
noncomputable section
def spec_l30All.g2 (L2 : (List (Int × Int × Int × Int × List Int × Int)) → Int → Option Bool) (permits0 : List (Int × Int × Int × Int × List Int × Int)) (i3 : Int) : Option Bool :=
  if (decide ((i3 : Int) < (permits0.length : Int))) = true then
    if (0 : Int) ≤ i3 ∧ (i3 : Int) < permits0.length then
      (spec_IsPermit.f (permits0.getD (i3 : Int).toNat (0, (0, (0, (0, ([], 0))))))).bind fun r1 =>
      if (!r1) = true then
        some false
      else
        L2 permits0 (IntKind.i64.wrap (i3 + 1))
    else
      none
  else
    some (decide (((permits0.length : Int) : Int) ≤ 8))
def spec_l30All.l2 (n : Nat) : Nat → (List (Int × Int × Int × Int × List Int × Int)) → Int → Option Bool
  | 0 => fun _ _ => none
  | k + 1 => spec_l30All.g2 (spec_l30All.l2 n k)
def spec_l30All.top (I2 : (List (Int × Int × Int × Int × List Int × Int)) → Int → Option Bool) (permits0 : List (Int × Int × Int × Int × List Int × Int)) : Option Bool :=
  I2 permits0 0
def spec_l30All.fn (n : Nat) (permits0 : List (Int × Int × Int × Int × List Int × Int)) : Option Bool := spec_l30All.top (spec_l30All.l2 n n) permits0
def spec_l30All.f (permits0 : List (Int × Int × Int × Int × List Int × Int)) : Option Bool := spec_l30All.fn NN permits0
end
end Go.Pl

namespace Go.Pl
open Go.Ev
set_option linter.unusedVariables false
noncomputable section
def spec_l30Code.top (permits0 : List (Int × Int × Int × Int × List Int × Int)) (list1 : List (ByteArray × Int × Int × Int × Int × Int × Int × Int × Int)) (counts2 : List Int) (day3 : Int) : Option Int :=
  (spec_l30All.f permits0).bind fun r1 =>
  if (!r1) = true then
    some 1
  else
    (spec_l03Code.f list1 counts2).bind fun r2 =>
    if ((r2 : Int) == 0) = true then
      (spec_l01In.f day3 0 100000).bind fun r3 =>
      if (!r3) = true then
        some 2
      else
        some r2
    else
      some r2
def spec_l30Code.fn (n : Nat) (permits0 : List (Int × Int × Int × Int × List Int × Int)) (list1 : List (ByteArray × Int × Int × Int × Int × Int × Int × Int × Int)) (counts2 : List Int) (day3 : Int) : Option Int := spec_l30Code.top permits0 list1 counts2 day3
def spec_l30Code.f (permits0 : List (Int × Int × Int × Int × List Int × Int)) (list1 : List (ByteArray × Int × Int × Int × Int × Int × Int × Int × Int)) (counts2 : List Int) (day3 : Int) : Option Int := spec_l30Code.fn NN permits0 list1 counts2 day3
end
end Go.Pl

namespace Go.Pl
open Go.Ev
set_option linter.unusedVariables false
noncomputable section
def spec_l01Has.g2 (L2 : List Int → Int → Int → Option Bool) (list0 : List Int) (x1 : Int) (i5 : Int) : Option Bool :=
  if (decide ((i5 : Int) < (list0.length : Int))) = true then
    if (0 : Int) ≤ i5 ∧ (i5 : Int) < list0.length then
      if (((list0.getD (i5 : Int).toNat 0) : Int) == x1) = true then
        some true
      else
        L2 list0 x1 (IntKind.i64.wrap (i5 + 1))
    else
      none
  else
    some false
def spec_l01Has.l2 (n : Nat) : Nat → List Int → Int → Int → Option Bool
  | 0 => fun _ _ _ => none
  | k + 1 => spec_l01Has.g2 (spec_l01Has.l2 n k)
def spec_l01Has.top (I2 : List Int → Int → Int → Option Bool) (list0 : List Int) (x1 : Int) : Option Bool :=
  I2 list0 x1 0
def spec_l01Has.fn (n : Nat) (list0 : List Int) (x1 : Int) : Option Bool := spec_l01Has.top (spec_l01Has.l2 n n) list0 x1
def spec_l01Has.f (list0 : List Int) (x1 : Int) : Option Bool := spec_l01Has.fn NN list0 x1
end
end Go.Pl

namespace Go.Pl
open Go.Ev
set_option linter.unusedVariables false
noncomputable section
def spec_l30Refusals.g14 (L14 : Int → Int → Int → List Bool → Option Int) (n15 : Int) (weight16 : Int) (i17 : Int) (truths14 : List Bool) : Option Int :=
  if (decide ((i17 : Int) < (truths14.length : Int))) = true then
    if (0 : Int) ≤ i17 ∧ (i17 : Int) < truths14.length then
      if (truths14.getD (i17 : Int).toNat false) = true then
        L14 (IntKind.i64.wrap (n15 + weight16)) (IntKind.i64.wrap (2 * weight16)) (IntKind.i64.wrap (i17 + 1)) truths14
      else
        L14 n15 (IntKind.i64.wrap (2 * weight16)) (IntKind.i64.wrap (i17 + 1)) truths14
    else
      none
  else
    some n15
def spec_l30Refusals.l14 (n : Nat) : Nat → Int → Int → Int → List Bool → Option Int
  | 0 => fun _ _ _ _ => none
  | k + 1 => spec_l30Refusals.g14 (spec_l30Refusals.l14 n k)
def spec_l30Refusals.g4 (I14 : Int → Int → Int → List Bool → Option Int) (L4 : (List (ByteArray × Int × Int × Int × Int × Int × Int × Int × Int)) → List Int → Int → Int → Bool → Bool → Bool → Int → (Int × Int × Int × Int × List Int × Int) → Option Int) (list1 : List (ByteArray × Int × Int × Int × Int × Int × Int × Int × Int)) (counts2 : List Int) (day3 : Int) (net9 : Int) (calibre10 : Bool) (kind11 : Bool) (group12 : Bool) (i13 : Int) (p4 : Int × Int × Int × Int × List Int × Int) : Option Int :=
  if (decide ((i13 : Int) < (list1.length : Int))) = true then
    if (0 : Int) ≤ i13 ∧ (i13 : Int) < counts2.length then
      if (((counts2.getD (i13 : Int).toNat 0) : Int) == 0) = true then
        L4 list1 counts2 day3 net9 calibre10 kind11 group12 (IntKind.i64.wrap (i13 + 1)) p4
      else if (0 : Int) ≤ i13 ∧ (i13 : Int) < list1.length then
        if (0 : Int) ≤ i13 ∧ (i13 : Int) < counts2.length then
          if calibre10 = false then
            if (0 : Int) ≤ i13 ∧ (i13 : Int) < list1.length then
              if kind11 = false then
                if (0 : Int) ≤ i13 ∧ (i13 : Int) < list1.length then
                  (spec_l01Has.f p4.2.2.2.2.1 (((list1.getD (i13 : Int).toNat (ByteArray.empty, (0, (0, (0, (0, (0, (0, (0, 0))))))))).2).1)).bind fun r1 =>
                  if group12 = false then
                    if (0 : Int) ≤ i13 ∧ (i13 : Int) < list1.length then
                      L4 list1 counts2 day3 (IntKind.i64.wrap (net9 + (IntKind.i64.wrap ((((((((((list1.getD (i13 : Int).toNat (ByteArray.empty, (0, (0, (0, (0, (0, (0, (0, 0))))))))).2).2).2).2).2).2).2).1) * (counts2.getD (i13 : Int).toNat 0))))) (decide ((p4.2.2.2.1 : Int) < ((((list1.getD (i13 : Int).toNat (ByteArray.empty, (0, (0, (0, (0, (0, (0, (0, 0))))))))).2).2).1))) (!r1) (decide ((p4.2.2.2.2.2 : Int) < (((((((((list1.getD (i13 : Int).toNat (ByteArray.empty, (0, (0, (0, (0, (0, (0, (0, 0))))))))).2).2).2).2).2).2).2).2))) (IntKind.i64.wrap (i13 + 1)) p4
                    else
                      none
                  else
                    L4 list1 counts2 day3 (IntKind.i64.wrap (net9 + (IntKind.i64.wrap ((((((((((list1.getD (i13 : Int).toNat (ByteArray.empty, (0, (0, (0, (0, (0, (0, (0, 0))))))))).2).2).2).2).2).2).2).1) * (counts2.getD (i13 : Int).toNat 0))))) (decide ((p4.2.2.2.1 : Int) < ((((list1.getD (i13 : Int).toNat (ByteArray.empty, (0, (0, (0, (0, (0, (0, (0, 0))))))))).2).2).1))) (!r1) true (IntKind.i64.wrap (i13 + 1)) p4
                else
                  none
              else if group12 = false then
                if (0 : Int) ≤ i13 ∧ (i13 : Int) < list1.length then
                  L4 list1 counts2 day3 (IntKind.i64.wrap (net9 + (IntKind.i64.wrap ((((((((((list1.getD (i13 : Int).toNat (ByteArray.empty, (0, (0, (0, (0, (0, (0, (0, 0))))))))).2).2).2).2).2).2).2).1) * (counts2.getD (i13 : Int).toNat 0))))) (decide ((p4.2.2.2.1 : Int) < ((((list1.getD (i13 : Int).toNat (ByteArray.empty, (0, (0, (0, (0, (0, (0, (0, 0))))))))).2).2).1))) true (decide ((p4.2.2.2.2.2 : Int) < (((((((((list1.getD (i13 : Int).toNat (ByteArray.empty, (0, (0, (0, (0, (0, (0, (0, 0))))))))).2).2).2).2).2).2).2).2))) (IntKind.i64.wrap (i13 + 1)) p4
                else
                  none
              else
                L4 list1 counts2 day3 (IntKind.i64.wrap (net9 + (IntKind.i64.wrap ((((((((((list1.getD (i13 : Int).toNat (ByteArray.empty, (0, (0, (0, (0, (0, (0, (0, 0))))))))).2).2).2).2).2).2).2).1) * (counts2.getD (i13 : Int).toNat 0))))) (decide ((p4.2.2.2.1 : Int) < ((((list1.getD (i13 : Int).toNat (ByteArray.empty, (0, (0, (0, (0, (0, (0, (0, 0))))))))).2).2).1))) true true (IntKind.i64.wrap (i13 + 1)) p4
            else
              none
          else if kind11 = false then
            if (0 : Int) ≤ i13 ∧ (i13 : Int) < list1.length then
              (spec_l01Has.f p4.2.2.2.2.1 (((list1.getD (i13 : Int).toNat (ByteArray.empty, (0, (0, (0, (0, (0, (0, (0, 0))))))))).2).1)).bind fun r2 =>
              if group12 = false then
                if (0 : Int) ≤ i13 ∧ (i13 : Int) < list1.length then
                  L4 list1 counts2 day3 (IntKind.i64.wrap (net9 + (IntKind.i64.wrap ((((((((((list1.getD (i13 : Int).toNat (ByteArray.empty, (0, (0, (0, (0, (0, (0, (0, 0))))))))).2).2).2).2).2).2).2).1) * (counts2.getD (i13 : Int).toNat 0))))) true (!r2) (decide ((p4.2.2.2.2.2 : Int) < (((((((((list1.getD (i13 : Int).toNat (ByteArray.empty, (0, (0, (0, (0, (0, (0, (0, 0))))))))).2).2).2).2).2).2).2).2))) (IntKind.i64.wrap (i13 + 1)) p4
                else
                  none
              else
                L4 list1 counts2 day3 (IntKind.i64.wrap (net9 + (IntKind.i64.wrap ((((((((((list1.getD (i13 : Int).toNat (ByteArray.empty, (0, (0, (0, (0, (0, (0, (0, 0))))))))).2).2).2).2).2).2).2).1) * (counts2.getD (i13 : Int).toNat 0))))) true (!r2) true (IntKind.i64.wrap (i13 + 1)) p4
            else
              none
          else if group12 = false then
            if (0 : Int) ≤ i13 ∧ (i13 : Int) < list1.length then
              L4 list1 counts2 day3 (IntKind.i64.wrap (net9 + (IntKind.i64.wrap ((((((((((list1.getD (i13 : Int).toNat (ByteArray.empty, (0, (0, (0, (0, (0, (0, (0, 0))))))))).2).2).2).2).2).2).2).1) * (counts2.getD (i13 : Int).toNat 0))))) true true (decide ((p4.2.2.2.2.2 : Int) < (((((((((list1.getD (i13 : Int).toNat (ByteArray.empty, (0, (0, (0, (0, (0, (0, (0, 0))))))))).2).2).2).2).2).2).2).2))) (IntKind.i64.wrap (i13 + 1)) p4
            else
              none
          else
            L4 list1 counts2 day3 (IntKind.i64.wrap (net9 + (IntKind.i64.wrap ((((((((((list1.getD (i13 : Int).toNat (ByteArray.empty, (0, (0, (0, (0, (0, (0, (0, 0))))))))).2).2).2).2).2).2).2).1) * (counts2.getD (i13 : Int).toNat 0))))) true true true (IntKind.i64.wrap (i13 + 1)) p4
        else
          none
      else
        none
    else
      none
  else
    (spec_l01In.f day3 p4.1 p4.2.1).bind fun r3 =>
    I14 0 1 0 ([!r3, decide ((p4.2.2.1 : Int) < net9), calibre10, kind11, group12])
def spec_l30Refusals.l4 (n : Nat) : Nat → (List (ByteArray × Int × Int × Int × Int × Int × Int × Int × Int)) → List Int → Int → Int → Bool → Bool → Bool → Int → (Int × Int × Int × Int × List Int × Int) → Option Int
  | 0 => fun _ _ _ _ _ _ _ _ _ => none
  | k + 1 => spec_l30Refusals.g4 (spec_l30Refusals.l14 n n) (spec_l30Refusals.l4 n k)
def spec_l30Refusals.top (I4 : (List (ByteArray × Int × Int × Int × Int × Int × Int × Int × Int)) → List Int → Int → Int → Bool → Bool → Bool → Int → (Int × Int × Int × Int × List Int × Int) → Option Int) (p0 : Int × Int × Int × Int × List Int × Int) (list1 : List (ByteArray × Int × Int × Int × Int × Int × Int × Int × Int)) (counts2 : List Int) (day3 : Int) : Option Int :=
  I4 list1 counts2 day3 0 false false false 0 p0
def spec_l30Refusals.fn (n : Nat) (p0 : Int × Int × Int × Int × List Int × Int) (list1 : List (ByteArray × Int × Int × Int × Int × Int × Int × Int × Int)) (counts2 : List Int) (day3 : Int) : Option Int := spec_l30Refusals.top (spec_l30Refusals.l4 n n) p0 list1 counts2 day3
def spec_l30Refusals.f (p0 : Int × Int × Int × Int × List Int × Int) (list1 : List (ByteArray × Int × Int × Int × Int × Int × Int × Int × Int)) (counts2 : List Int) (day3 : Int) : Option Int := spec_l30Refusals.fn NN p0 list1 counts2 day3
end
end Go.Pl

namespace Go.Pl
open Go.Ev
set_option linter.unusedVariables false
noncomputable section
def spec_l30First.g2 (L2 : (List (Int × Int × Int × Int × List Int × Int)) → (List (ByteArray × Int × Int × Int × Int × Int × Int × Int × Int)) → List Int → Int → Int → Option Int) (permits0 : List (Int × Int × Int × Int × List Int × Int)) (list1 : List (ByteArray × Int × Int × Int × Int × Int × Int × Int × Int)) (counts2 : List Int) (day3 : Int) (i9 : Int) : Option Int :=
  if (decide ((i9 : Int) < (permits0.length : Int))) = true then
    if (0 : Int) ≤ i9 ∧ (i9 : Int) < permits0.length then
      (spec_l30Refusals.f (permits0.getD (i9 : Int).toNat (0, (0, (0, (0, ([], 0)))))) list1 counts2 day3).bind fun r1 =>
      if ((r1 : Int) == 0) = true then
        some i9
      else
        L2 permits0 list1 counts2 day3 (IntKind.i64.wrap (i9 + 1))
    else
      none
  else
    some (-1)
def spec_l30First.l2 (n : Nat) : Nat → (List (Int × Int × Int × Int × List Int × Int)) → (List (ByteArray × Int × Int × Int × Int × Int × Int × Int × Int)) → List Int → Int → Int → Option Int
  | 0 => fun _ _ _ _ _ => none
  | k + 1 => spec_l30First.g2 (spec_l30First.l2 n k)
def spec_l30First.top (I2 : (List (Int × Int × Int × Int × List Int × Int)) → (List (ByteArray × Int × Int × Int × Int × Int × Int × Int × Int)) → List Int → Int → Int → Option Int) (permits0 : List (Int × Int × Int × Int × List Int × Int)) (list1 : List (ByteArray × Int × Int × Int × Int × Int × Int × Int × Int)) (counts2 : List Int) (day3 : Int) : Option Int :=
  I2 permits0 list1 counts2 day3 0
def spec_l30First.fn (n : Nat) (permits0 : List (Int × Int × Int × Int × List Int × Int)) (list1 : List (ByteArray × Int × Int × Int × Int × Int × Int × Int × Int)) (counts2 : List Int) (day3 : Int) : Option Int := spec_l30First.top (spec_l30First.l2 n n) permits0 list1 counts2 day3
def spec_l30First.f (permits0 : List (Int × Int × Int × Int × List Int × Int)) (list1 : List (ByteArray × Int × Int × Int × Int × Int × Int × Int × Int)) (counts2 : List Int) (day3 : Int) : Option Int := spec_l30First.fn NN permits0 list1 counts2 day3
end
end Go.Pl

namespace Go.Pl
open Go.Ev
set_option linter.unusedVariables false
noncomputable section
def spec_FirstPermit.top (permits0 : List (Int × Int × Int × Int × List Int × Int)) (list1 : List (ByteArray × Int × Int × Int × Int × Int × Int × Int × Int)) (counts2 : List Int) (day3 : Int) : Option (Int × Int) :=
  (spec_l30Code.f permits0 list1 counts2 day3).bind fun r1 =>
  if ((r1 : Int) != 0) = true then
    some (0, r1)
  else
    (spec_l30First.f permits0 list1 counts2 day3).bind fun r2 =>
    if (decide ((r2 : Int) < 0)) = true then
      some (0, 4)
    else
      some (r2, 0)
def spec_FirstPermit.fn (n : Nat) (permits0 : List (Int × Int × Int × Int × List Int × Int)) (list1 : List (ByteArray × Int × Int × Int × Int × Int × Int × Int × Int)) (counts2 : List Int) (day3 : Int) : Option (Int × Int) := spec_FirstPermit.top permits0 list1 counts2 day3
def spec_FirstPermit.f (permits0 : List (Int × Int × Int × Int × List Int × Int)) (list1 : List (ByteArray × Int × Int × Int × Int × Int × Int × Int × Int)) (counts2 : List Int) (day3 : Int) : Option (Int × Int) := spec_FirstPermit.fn NN permits0 list1 counts2 day3
end
end Go.Pl

namespace Go.Pl
open Go.Ev
set_option linter.unusedVariables false
noncomputable section
def spec_NextDay.g6 (L6 : (List (Int × Int × Int × Int × List Int × Int)) → (List (ByteArray × Int × Int × Int × Int × Int × Int × Int × Int)) → List Int → Int → Int → Int → Option (Int × Int)) (permits0 : List (Int × Int × Int × Int × List Int × Int)) (list1 : List (ByteArray × Int × Int × Int × Int × Int × Int × Int × Int)) (counts2 : List Int) (day3 : Int) (best11 : Int) (i12 : Int) : Option (Int × Int) :=
  if (decide ((i12 : Int) < (permits0.length : Int))) = true then
    if (0 : Int) ≤ i12 ∧ (i12 : Int) < permits0.length then
      if (0 : Int) ≤ i12 ∧ (i12 : Int) < permits0.length then
        (spec_l30Refusals.f (permits0.getD (i12 : Int).toNat (0, (0, (0, (0, ([], 0)))))) list1 counts2 (if ((permits0.getD (i12 : Int).toNat (0, (0, (0, (0, ([], 0)))))).1) > day3 then ((permits0.getD (i12 : Int).toNat (0, (0, (0, (0, ([], 0)))))).1) else day3)).bind fun r2 =>
        if ((r2 : Int) == 0) = true then
          if (decide ((best11 : Int) < 0)) = false then
            if (decide (((if ((permits0.getD (i12 : Int).toNat (0, (0, (0, (0, ([], 0)))))).1) > day3 then ((permits0.getD (i12 : Int).toNat (0, (0, (0, (0, ([], 0)))))).1) else day3) : Int) < best11)) = true then
              L6 permits0 list1 counts2 day3 (if ((permits0.getD (i12 : Int).toNat (0, (0, (0, (0, ([], 0)))))).1) > day3 then ((permits0.getD (i12 : Int).toNat (0, (0, (0, (0, ([], 0)))))).1) else day3) (IntKind.i64.wrap (i12 + 1))
            else
              L6 permits0 list1 counts2 day3 best11 (IntKind.i64.wrap (i12 + 1))
          else
            L6 permits0 list1 counts2 day3 (if ((permits0.getD (i12 : Int).toNat (0, (0, (0, (0, ([], 0)))))).1) > day3 then ((permits0.getD (i12 : Int).toNat (0, (0, (0, (0, ([], 0)))))).1) else day3) (IntKind.i64.wrap (i12 + 1))
        else
          L6 permits0 list1 counts2 day3 best11 (IntKind.i64.wrap (i12 + 1))
      else
        none
    else
      none
  else if (decide ((best11 : Int) < 0)) = true then
    some (0, 4)
  else
    some (best11, 0)
def spec_NextDay.l6 (n : Nat) : Nat → (List (Int × Int × Int × Int × List Int × Int)) → (List (ByteArray × Int × Int × Int × Int × Int × Int × Int × Int)) → List Int → Int → Int → Int → Option (Int × Int)
  | 0 => fun _ _ _ _ _ _ => none
  | k + 1 => spec_NextDay.g6 (spec_NextDay.l6 n k)
def spec_NextDay.top (I6 : (List (Int × Int × Int × Int × List Int × Int)) → (List (ByteArray × Int × Int × Int × Int × Int × Int × Int × Int)) → List Int → Int → Int → Int → Option (Int × Int)) (permits0 : List (Int × Int × Int × Int × List Int × Int)) (list1 : List (ByteArray × Int × Int × Int × Int × Int × Int × Int × Int)) (counts2 : List Int) (day3 : Int) : Option (Int × Int) :=
  (spec_l30Code.f permits0 list1 counts2 day3).bind fun r1 =>
  if ((r1 : Int) != 0) = true then
    some (0, r1)
  else
    I6 permits0 list1 counts2 day3 (-1) 0
def spec_NextDay.fn (n : Nat) (permits0 : List (Int × Int × Int × Int × List Int × Int)) (list1 : List (ByteArray × Int × Int × Int × Int × Int × Int × Int × Int)) (counts2 : List Int) (day3 : Int) : Option (Int × Int) := spec_NextDay.top (spec_NextDay.l6 n n) permits0 list1 counts2 day3
def spec_NextDay.f (permits0 : List (Int × Int × Int × Int × List Int × Int)) (list1 : List (ByteArray × Int × Int × Int × Int × Int × Int × Int × Int)) (counts2 : List Int) (day3 : Int) : Option (Int × Int) := spec_NextDay.fn NN permits0 list1 counts2 day3
end
end Go.Pl

namespace Go.Pl
open Go.Ev
set_option linter.unusedVariables false
noncomputable section
def spec_l03Insert.g2 (L2 : Int → Int → List Int → Option (List Int)) (n1 : Int) (at5 : Int) (list0 : List Int) : Option (List Int) :=
  if (decide ((at5 : Int) < (list0.length : Int))) = true then
    if (0 : Int) ≤ at5 ∧ (at5 : Int) < list0.length then
      if (decide (((list0.getD (at5 : Int).toNat 0) : Int) < n1)) = true then
        L2 n1 (IntKind.i64.wrap (at5 + 1)) list0
      else if (decide ((at5 : Int) < (list0.length : Int))) = true then
        if (0 : Int) ≤ at5 ∧ (at5 : Int) < list0.length then
          if (((list0.getD (at5 : Int).toNat 0) : Int) == n1) = true then
            some list0
          else if (0 : Int) ≤ at5 ∧ (at5 : Int) ≤ list0.length then
            if (0 : Int) ≤ at5 ∧ (at5 : Int) ≤ list0.length then
              if ([] : List Int).length + (list0.take (at5 : Int).toNat).length < room 8 then
                if (([] : List Int) ++ (list0.take (at5 : Int).toNat)).length + ([n1]).length < room 8 then
                  if ((([] : List Int) ++ (list0.take (at5 : Int).toNat)) ++ ([n1])).length + (list0.drop (at5 : Int).toNat).length < room 8 then
                    some (((([] : List Int) ++ (list0.take (at5 : Int).toNat)) ++ ([n1])) ++ (list0.drop (at5 : Int).toNat))
                  else
                    none
                else
                  none
              else
                none
            else
              none
          else
            none
        else
          none
      else if (0 : Int) ≤ at5 ∧ (at5 : Int) ≤ list0.length then
        if (0 : Int) ≤ at5 ∧ (at5 : Int) ≤ list0.length then
          if ([] : List Int).length + (list0.take (at5 : Int).toNat).length < room 8 then
            if (([] : List Int) ++ (list0.take (at5 : Int).toNat)).length + ([n1]).length < room 8 then
              if ((([] : List Int) ++ (list0.take (at5 : Int).toNat)) ++ ([n1])).length + (list0.drop (at5 : Int).toNat).length < room 8 then
                some (((([] : List Int) ++ (list0.take (at5 : Int).toNat)) ++ ([n1])) ++ (list0.drop (at5 : Int).toNat))
              else
                none
            else
              none
          else
            none
        else
          none
      else
        none
    else
      none
  else if (decide ((at5 : Int) < (list0.length : Int))) = true then
    if (0 : Int) ≤ at5 ∧ (at5 : Int) < list0.length then
      if (((list0.getD (at5 : Int).toNat 0) : Int) == n1) = true then
        some list0
      else if (0 : Int) ≤ at5 ∧ (at5 : Int) ≤ list0.length then
        if (0 : Int) ≤ at5 ∧ (at5 : Int) ≤ list0.length then
          if ([] : List Int).length + (list0.take (at5 : Int).toNat).length < room 8 then
            if (([] : List Int) ++ (list0.take (at5 : Int).toNat)).length + ([n1]).length < room 8 then
              if ((([] : List Int) ++ (list0.take (at5 : Int).toNat)) ++ ([n1])).length + (list0.drop (at5 : Int).toNat).length < room 8 then
                some (((([] : List Int) ++ (list0.take (at5 : Int).toNat)) ++ ([n1])) ++ (list0.drop (at5 : Int).toNat))
              else
                none
            else
              none
          else
            none
        else
          none
      else
        none
    else
      none
  else if (0 : Int) ≤ at5 ∧ (at5 : Int) ≤ list0.length then
    if (0 : Int) ≤ at5 ∧ (at5 : Int) ≤ list0.length then
      if ([] : List Int).length + (list0.take (at5 : Int).toNat).length < room 8 then
        if (([] : List Int) ++ (list0.take (at5 : Int).toNat)).length + ([n1]).length < room 8 then
          if ((([] : List Int) ++ (list0.take (at5 : Int).toNat)) ++ ([n1])).length + (list0.drop (at5 : Int).toNat).length < room 8 then
            some (((([] : List Int) ++ (list0.take (at5 : Int).toNat)) ++ ([n1])) ++ (list0.drop (at5 : Int).toNat))
          else
            none
        else
          none
      else
        none
    else
      none
  else
    none
def spec_l03Insert.l2 (n : Nat) : Nat → Int → Int → List Int → Option (List Int)
  | 0 => fun _ _ _ => none
  | k + 1 => spec_l03Insert.g2 (spec_l03Insert.l2 n k)
def spec_l03Insert.top (I2 : Int → Int → List Int → Option (List Int)) (list0 : List Int) (n1 : Int) : Option (List Int) :=
  I2 n1 0 list0
def spec_l03Insert.fn (n : Nat) (list0 : List Int) (n1 : Int) : Option (List Int) := spec_l03Insert.top (spec_l03Insert.l2 n n) list0 n1
def spec_l03Insert.f (list0 : List Int) (n1 : Int) : Option (List Int) := spec_l03Insert.fn NN list0 n1
end
end Go.Pl

namespace Go.Pl
open Go.Ev
set_option linter.unusedVariables false
noncomputable section
def spec_PermitFor.g6 (L6 : (List (ByteArray × Int × Int × Int × Int × Int × Int × Int × Int)) → List Int → Int → Int → Int → Int → Int → Int → Int → Int → Int → Int → Int → List Int → List Int → Option ((Int × Int × Int × Int × List Int × Int) × Int)) (list0 : List (ByteArray × Int × Int × Int × Int × Int × Int × Int × Int)) (counts1 : List Int) (i10 : Int) (v6a : Int) (v6ba : Int) (v6bba : Int) (v6bbba : Int) (v6bbbbb : Int) (p9a : Int) (p9ba : Int) (p9bba : Int) (p9bbba : Int) (p9bbbbb : Int) (w2 : List Int) (w3 : List Int) : Option ((Int × Int × Int × Int × List Int × Int) × Int) :=
  if (decide ((i10 : Int) < (list0.length : Int))) = true then
    if (0 : Int) ≤ i10 ∧ (i10 : Int) < counts1.length then
      if (decide ((0 : Int) < (counts1.getD (i10 : Int).toNat 0))) = true then
        if (0 : Int) ≤ i10 ∧ (i10 : Int) < list0.length then
          if (0 : Int) ≤ i10 ∧ (i10 : Int) < counts1.length then
            if (0 : Int) ≤ i10 ∧ (i10 : Int) < list0.length then
              if (0 : Int) ≤ i10 ∧ (i10 : Int) < list0.length then
                (spec_l03Insert.f w3 (((list0.getD (i10 : Int).toNat (ByteArray.empty, (0, (0, (0, (0, (0, (0, (0, 0))))))))).2).1)).bind fun r2 =>
                if (0 : Int) ≤ i10 ∧ (i10 : Int) < list0.length then
                  L6 list0 counts1 (IntKind.i64.wrap (i10 + 1)) v6a v6ba v6bba v6bbba v6bbbbb p9a p9ba (IntKind.i64.wrap (p9bba + (IntKind.i64.wrap ((((((((((list0.getD (i10 : Int).toNat (ByteArray.empty, (0, (0, (0, (0, (0, (0, (0, 0))))))))).2).2).2).2).2).2).2).1) * (counts1.getD (i10 : Int).toNat 0))))) (if ((((list0.getD (i10 : Int).toNat (ByteArray.empty, (0, (0, (0, (0, (0, (0, (0, 0))))))))).2).2).1) > p9bbba then ((((list0.getD (i10 : Int).toNat (ByteArray.empty, (0, (0, (0, (0, (0, (0, (0, 0))))))))).2).2).1) else p9bbba) (if (((((((((list0.getD (i10 : Int).toNat (ByteArray.empty, (0, (0, (0, (0, (0, (0, (0, 0))))))))).2).2).2).2).2).2).2).2) > p9bbbbb then (((((((((list0.getD (i10 : Int).toNat (ByteArray.empty, (0, (0, (0, (0, (0, (0, (0, 0))))))))).2).2).2).2).2).2).2).2) else p9bbbbb) w2 r2
                else
                  none
              else
                none
            else
              none
          else
            none
        else
          none
      else
        L6 list0 counts1 (IntKind.i64.wrap (i10 + 1)) v6a v6ba v6bba v6bbba v6bbbbb p9a p9ba p9bba p9bbba p9bbbbb w2 w3
    else
      none
  else if (decide ((1000000000 : Int) < p9bba)) = true then
    some ((0, (0, (0, (0, ([], 0))))), 3)
  else
    some ((p9a, (p9ba, (p9bba, (p9bbba, (w3, p9bbbbb))))), 0)
def spec_PermitFor.l6 (n : Nat) : Nat → (List (ByteArray × Int × Int × Int × Int × Int × Int × Int × Int)) → List Int → Int → Int → Int → Int → Int → Int → Int → Int → Int → Int → Int → List Int → List Int → Option ((Int × Int × Int × Int × List Int × Int) × Int)
  | 0 => fun _ _ _ _ _ _ _ _ _ _ _ _ _ _ _ => none
  | k + 1 => spec_PermitFor.g6 (spec_PermitFor.l6 n k)
def spec_PermitFor.top (I6 : (List (ByteArray × Int × Int × Int × Int × Int × Int × Int × Int)) → List Int → Int → Int → Int → Int → Int → Int → Int → Int → Int → Int → Int → List Int → List Int → Option ((Int × Int × Int × Int × List Int × Int) × Int)) (list0 : List (ByteArray × Int × Int × Int × Int × Int × Int × Int × Int)) (counts1 : List Int) (day2 : Int) : Option ((Int × Int × Int × Int × List Int × Int) × Int) :=
  (spec_l30Code.f [] list0 counts1 day2).bind fun r1 =>
  if ((r1 : Int) != 0) = true then
    some ((0, (0, (0, (0, ([], 0))))), r1)
  else
    I6 list0 counts1 0 0 0 0 0 0 day2 day2 0 20 0 [] []
def spec_PermitFor.fn (n : Nat) (list0 : List (ByteArray × Int × Int × Int × Int × Int × Int × Int × Int)) (counts1 : List Int) (day2 : Int) : Option ((Int × Int × Int × Int × List Int × Int) × Int) := spec_PermitFor.top (spec_PermitFor.l6 n n) list0 counts1 day2
def spec_PermitFor.f (list0 : List (ByteArray × Int × Int × Int × Int × Int × Int × Int × Int)) (counts1 : List Int) (day2 : Int) : Option ((Int × Int × Int × Int × List Int × Int) × Int) := spec_PermitFor.fn NN list0 counts1 day2
end
end Go.Pl

namespace Go.Pl
open Go.Ev
set_option linter.unusedVariables false
noncomputable section
def spec_RefusalsOf.top (p0 : Int × Int × Int × Int × List Int × Int) (list1 : List (ByteArray × Int × Int × Int × Int × Int × Int × Int × Int)) (counts2 : List Int) (day3 : Int) : Option (Int × Int) :=
  (spec_l30Code.f ([p0]) list1 counts2 day3).bind fun r1 =>
  if ((r1 : Int) != 0) = true then
    some (0, r1)
  else
    (spec_l30Refusals.f p0 list1 counts2 day3).bind fun r2 =>
    some (r2, 0)
def spec_RefusalsOf.fn (n : Nat) (p0 : Int × Int × Int × Int × List Int × Int) (list1 : List (ByteArray × Int × Int × Int × Int × Int × Int × Int × Int)) (counts2 : List Int) (day3 : Int) : Option (Int × Int) := spec_RefusalsOf.top p0 list1 counts2 day3
def spec_RefusalsOf.f (p0 : Int × Int × Int × Int × List Int × Int) (list1 : List (ByteArray × Int × Int × Int × Int × Int × Int × Int × Int)) (counts2 : List Int) (day3 : Int) : Option (Int × Int) := spec_RefusalsOf.fn NN p0 list1 counts2 day3
end
end Go.Pl

namespace Go.Pl
open Go.Ev
set_option linter.unusedVariables false
noncomputable section
def laws_FnPermits.top (code0 : List Int) : Option Bool :=
  (laws_big.f code0).bind fun r1 =>
  if r1 = true then
    some true
  else
    (spec_DrawPermitFor.f code0).bind fun r2 =>
    (impl_PermitFor.f r2.1 r2.2.1 r2.2.2).bind fun r3 =>
    (spec_PermitFor.f r2.1 r2.2.1 r2.2.2).bind fun r4 =>
    (spec_DrawRefusalsOf.f code0).bind fun r5 =>
    (impl_RefusalsOf.f (r5.1.1, (r5.1.2.1, (r5.1.2.2.1, (r5.1.2.2.2.1, (r5.1.2.2.2.2.1, r5.1.2.2.2.2.2))))) r5.2.1 r5.2.2.1 r5.2.2.2).bind fun r6 =>
    (spec_RefusalsOf.f (r5.1.1, (r5.1.2.1, (r5.1.2.2.1, (r5.1.2.2.2.1, (r5.1.2.2.2.2.1, r5.1.2.2.2.2.2))))) r5.2.1 r5.2.2.1 r5.2.2.2).bind fun r7 =>
    (spec_DrawNextDay.f code0).bind fun r8 =>
    (impl_NextDay.f r8.1 r8.2.1 r8.2.2.1 r8.2.2.2).bind fun r9 =>
    (spec_NextDay.f r8.1 r8.2.1 r8.2.2.1 r8.2.2.2).bind fun r10 =>
    (impl_FirstPermit.f r8.1 r8.2.1 r8.2.2.1 r8.2.2.2).bind fun r11 =>
    (spec_FirstPermit.f r8.1 r8.2.1 r8.2.2.1 r8.2.2.2).bind fun r12 =>
    if ((r3.2 : Int) != r4.2) = false then
      (laws_likePermit.f (r3.1.1, (r3.1.2.1, (r3.1.2.2.1, (r3.1.2.2.2.1, (r3.1.2.2.2.2.1, r3.1.2.2.2.2.2))))) (r4.1.1, (r4.1.2.1, (r4.1.2.2.1, (r4.1.2.2.2.1, (r4.1.2.2.2.2.1, r4.1.2.2.2.2.2)))))).bind fun r13 =>
      if (!r13) = false then
        if ((r6.2 : Int) != r7.2) = false then
          if ((r6.1 : Int) != r7.1) = false then
            if ((r9.2 : Int) != r10.2) = false then
              if ((r9.1 : Int) != r10.1) = false then
                if ((r11.2 : Int) != r12.2) = false then
                  if ((r11.1 : Int) != r12.1) = false then
                    (impl_IsPermit.f (r5.1.1, (r5.1.2.1, (r5.1.2.2.1, (r5.1.2.2.2.1, (r5.1.2.2.2.2.1, r5.1.2.2.2.2.2)))))).bind fun r14 =>
                    (spec_IsPermit.f (r5.1.1, (r5.1.2.1, (r5.1.2.2.1, (r5.1.2.2.2.1, (r5.1.2.2.2.2.1, r5.1.2.2.2.2.2)))))).bind fun r15 =>
                    if (!(r14 == r15)) = true then
                      some false
                    else if ((r11.2 : Int) == 0) = true then
                      if (0 : Int) ≤ r11.1 ∧ (r11.1 : Int) < r8.1.length then
                        (impl_RefusalsOf.f (r8.1.getD (r11.1 : Int).toNat (0, (0, (0, (0, ([], 0)))))) r8.2.1 r8.2.2.1 r8.2.2.2).bind fun r16 =>
                        if ((r16.2 : Int) != 0) = false then
                          if ((r16.1 : Int) != 0) = false then
                            if ((r9.2 : Int) != 0) = false then
                              if ((r9.1 : Int) != r8.2.2.2) = true then
                                some false
                              else if ((r9.2 : Int) == 0) = true then
                                (impl_FirstPermit.f r8.1 r8.2.1 r8.2.2.1 r9.1).bind fun r17 =>
                                if ((r17.2 : Int) != 0) = false then
                                  if (decide ((r9.1 : Int) < r8.2.2.2)) = false then
                                    if (decide ((r8.2.2.2 : Int) < r9.1)) = true then
                                      if ((r11.2 : Int) != 4) = true then
                                        some false
                                      else if ((r3.2 : Int) != 0) = true then
                                        some true
                                      else
                                        (impl_RefusalsOf.f (r3.1.1, (r3.1.2.1, (r3.1.2.2.1, (r3.1.2.2.2.1, (r3.1.2.2.2.2.1, r3.1.2.2.2.2.2))))) r2.1 r2.2.1 r2.2.2).bind fun r18 =>
                                        (impl_NetOfOrder.f r2.1 r2.2.1).bind fun r19 =>
                                        if ((r18.2 : Int) == 0) = true then
                                          if ((r18.1 : Int) == 0) = true then
                                            if ((r19.2 : Int) == 0) = true then
                                              if ((r19.1 : Int) == r3.1.2.2.1) = true then
                                                (impl_IsPermit.f (r3.1.1, (r3.1.2.1, (r3.1.2.2.1, (r3.1.2.2.2.1, (r3.1.2.2.2.2.1, r3.1.2.2.2.2.2)))))).bind fun r20 =>
                                                some r20
                                              else
                                                some false
                                            else
                                              some false
                                          else
                                            some false
                                        else
                                          some false
                                    else if ((r3.2 : Int) != 0) = true then
                                      some true
                                    else
                                      (impl_RefusalsOf.f (r3.1.1, (r3.1.2.1, (r3.1.2.2.1, (r3.1.2.2.2.1, (r3.1.2.2.2.2.1, r3.1.2.2.2.2.2))))) r2.1 r2.2.1 r2.2.2).bind fun r21 =>
                                      (impl_NetOfOrder.f r2.1 r2.2.1).bind fun r22 =>
                                      if ((r21.2 : Int) == 0) = true then
                                        if ((r21.1 : Int) == 0) = true then
                                          if ((r22.2 : Int) == 0) = true then
                                            if ((r22.1 : Int) == r3.1.2.2.1) = true then
                                              (impl_IsPermit.f (r3.1.1, (r3.1.2.1, (r3.1.2.2.1, (r3.1.2.2.2.1, (r3.1.2.2.2.2.1, r3.1.2.2.2.2.2)))))).bind fun r23 =>
                                              some r23
                                            else
                                              some false
                                          else
                                            some false
                                        else
                                          some false
                                      else
                                        some false
                                  else
                                    some false
                                else
                                  some false
                              else if ((r3.2 : Int) != 0) = true then
                                some true
                              else
                                (impl_RefusalsOf.f (r3.1.1, (r3.1.2.1, (r3.1.2.2.1, (r3.1.2.2.2.1, (r3.1.2.2.2.2.1, r3.1.2.2.2.2.2))))) r2.1 r2.2.1 r2.2.2).bind fun r24 =>
                                (impl_NetOfOrder.f r2.1 r2.2.1).bind fun r25 =>
                                if ((r24.2 : Int) == 0) = true then
                                  if ((r24.1 : Int) == 0) = true then
                                    if ((r25.2 : Int) == 0) = true then
                                      if ((r25.1 : Int) == r3.1.2.2.1) = true then
                                        (impl_IsPermit.f (r3.1.1, (r3.1.2.1, (r3.1.2.2.1, (r3.1.2.2.2.1, (r3.1.2.2.2.2.1, r3.1.2.2.2.2.2)))))).bind fun r26 =>
                                        some r26
                                      else
                                        some false
                                    else
                                      some false
                                  else
                                    some false
                                else
                                  some false
                            else
                              some false
                          else
                            some false
                        else
                          some false
                      else
                        none
                    else if ((r9.2 : Int) == 0) = true then
                      (impl_FirstPermit.f r8.1 r8.2.1 r8.2.2.1 r9.1).bind fun r27 =>
                      if ((r27.2 : Int) != 0) = false then
                        if (decide ((r9.1 : Int) < r8.2.2.2)) = false then
                          if (decide ((r8.2.2.2 : Int) < r9.1)) = true then
                            if ((r11.2 : Int) != 4) = true then
                              some false
                            else if ((r3.2 : Int) != 0) = true then
                              some true
                            else
                              (impl_RefusalsOf.f (r3.1.1, (r3.1.2.1, (r3.1.2.2.1, (r3.1.2.2.2.1, (r3.1.2.2.2.2.1, r3.1.2.2.2.2.2))))) r2.1 r2.2.1 r2.2.2).bind fun r28 =>
                              (impl_NetOfOrder.f r2.1 r2.2.1).bind fun r29 =>
                              if ((r28.2 : Int) == 0) = true then
                                if ((r28.1 : Int) == 0) = true then
                                  if ((r29.2 : Int) == 0) = true then
                                    if ((r29.1 : Int) == r3.1.2.2.1) = true then
                                      (impl_IsPermit.f (r3.1.1, (r3.1.2.1, (r3.1.2.2.1, (r3.1.2.2.2.1, (r3.1.2.2.2.2.1, r3.1.2.2.2.2.2)))))).bind fun r30 =>
                                      some r30
                                    else
                                      some false
                                  else
                                    some false
                                else
                                  some false
                              else
                                some false
                          else if ((r3.2 : Int) != 0) = true then
                            some true
                          else
                            (impl_RefusalsOf.f (r3.1.1, (r3.1.2.1, (r3.1.2.2.1, (r3.1.2.2.2.1, (r3.1.2.2.2.2.1, r3.1.2.2.2.2.2))))) r2.1 r2.2.1 r2.2.2).bind fun r31 =>
                            (impl_NetOfOrder.f r2.1 r2.2.1).bind fun r32 =>
                            if ((r31.2 : Int) == 0) = true then
                              if ((r31.1 : Int) == 0) = true then
                                if ((r32.2 : Int) == 0) = true then
                                  if ((r32.1 : Int) == r3.1.2.2.1) = true then
                                    (impl_IsPermit.f (r3.1.1, (r3.1.2.1, (r3.1.2.2.1, (r3.1.2.2.2.1, (r3.1.2.2.2.2.1, r3.1.2.2.2.2.2)))))).bind fun r33 =>
                                    some r33
                                  else
                                    some false
                                else
                                  some false
                              else
                                some false
                            else
                              some false
                        else
                          some false
                      else
                        some false
                    else if ((r3.2 : Int) != 0) = true then
                      some true
                    else
                      (impl_RefusalsOf.f (r3.1.1, (r3.1.2.1, (r3.1.2.2.1, (r3.1.2.2.2.1, (r3.1.2.2.2.2.1, r3.1.2.2.2.2.2))))) r2.1 r2.2.1 r2.2.2).bind fun r34 =>
                      (impl_NetOfOrder.f r2.1 r2.2.1).bind fun r35 =>
                      if ((r34.2 : Int) == 0) = true then
                        if ((r34.1 : Int) == 0) = true then
                          if ((r35.2 : Int) == 0) = true then
                            if ((r35.1 : Int) == r3.1.2.2.1) = true then
                              (impl_IsPermit.f (r3.1.1, (r3.1.2.1, (r3.1.2.2.1, (r3.1.2.2.2.1, (r3.1.2.2.2.2.1, r3.1.2.2.2.2.2)))))).bind fun r36 =>
                              some r36
                            else
                              some false
                          else
                            some false
                        else
                          some false
                      else
                        some false
                  else
                    some false
                else
                  some false
              else
                some false
            else
              some false
          else
            some false
        else
          some false
      else
        some false
    else
      some false
def laws_FnPermits.fn (n : Nat) (code0 : List Int) : Option Bool := laws_FnPermits.top code0
def laws_FnPermits.f (code0 : List Int) : Option Bool := laws_FnPermits.fn NN code0
end
end Go.Pl

namespace Go.Ev.Try
open Go.Proofs Go.Pl
set_option linter.unusedVariables false
noncomputable section
def laws_big.con : Con := { ps := [(.val, (.sl 5 (.int .u8)))], rs := [(.val, .bool)], F := fun x => laws_big.f x }
def laws_big.cs : List (FuncId × Con) := []
def laws_big.E : Env := envOf tab laws_big.cs 0 false
def laws_big.keep (i : Nat) : List Nat := []
set_option maxRecDepth 100000 in
theorem laws_big.body (n : Nat) (x : List Int) : bodyF laws_big.E laws_big.keep n Try.f16 laws_big.con x = laws_big.fn n x := by
  have h : bodyF laws_big.E laws_big.keep n Try.f16 laws_big.con x = laws_big.top x := by kernel_rfl
  exact h
set_option maxRecDepth 100000 in
theorem laws_big.good : Good Try.prog 16 laws_big.con :=
  good_of tabok (cs := laws_big.cs) trivial 0 false (fn := Try.f16) Try.func16 rfl (by decide) (by simp [laws_big.con]) laws_big.keep NN (fun _ => rfl) (fun x => laws_big.body NN x)
end
end Go.Ev.Try

namespace Go.Ev.Try
open Go.Proofs Go.Pl
set_option linter.unusedVariables false
noncomputable section
def spec_l01In.con : Con := { ps := [(.val, (.int .i64)), (.val, (.int .i64)), (.val, (.int .i64))], rs := [(.val, .bool)], F := fun x => spec_l01In.f x.1 x.2.1 x.2.2 }
def spec_l01In.cs : List (FuncId × Con) := []
def spec_l01In.E : Env := envOf tab spec_l01In.cs 0 false
def spec_l01In.keep (i : Nat) : List Nat := []
set_option maxRecDepth 100000 in
theorem spec_l01In.body (n : Nat) (x : Int × Int × Int) : bodyF spec_l01In.E spec_l01In.keep n Try.f72 spec_l01In.con x = spec_l01In.fn n x.1 x.2.1 x.2.2 := by
  have h : bodyF spec_l01In.E spec_l01In.keep n Try.f72 spec_l01In.con x = spec_l01In.top x.1 x.2.1 x.2.2 := by kernel_rfl
  exact h
set_option maxRecDepth 100000 in
theorem spec_l01In.good : Good Try.prog 72 spec_l01In.con :=
  good_of tabok (cs := spec_l01In.cs) trivial 0 false (fn := Try.f72) Try.func72 rfl (by decide) (by simp [spec_l01In.con]) spec_l01In.keep NN (fun _ => rfl) (fun x => spec_l01In.body NN x)
end
end Go.Ev.Try

namespace Go.Ev.Try
open Go.Proofs Go.Pl
set_option linter.unusedVariables false
noncomputable section
def spec_l01Rises.st2 (list0 : List Int) (n1 : Int) (i5 : Int) : St := ⟨[.dat (.sl 2 (.int .i64)) list0, .dat (.int .i64) n1, .gone, .gone, .gone, .dat (.int .i64) i5, .gone, .gone, .gone, .gone, .gone, .gone, .gone, .gone, .gone, .gone, .gone, .gone, .gone, .gone, .gone, .gone, .gone, .gone, .gone, .gone, .gone, .gone, .gone, .gone, .gone, .gone, .gone, .gone, .gone, .gone], []⟩
def spec_l01Rises.con : Con := { ps := [(.val, (.sl 2 (.int .i64))), (.val, (.int .i64))], rs := [(.val, .bool)], F := fun x => spec_l01Rises.f x.1 x.2 }
def spec_l01Rises.cs : List (FuncId × Con) := [(72, spec_l01In.con)]
def spec_l01Rises.E : Env := envOf tab spec_l01Rises.cs 0 false
def spec_l01Rises.keep (i : Nat) : List Nat := if i = 2 then [0, 1, 5] else []
def spec_l01Rises.at2 (n : Nat) (x : List Int × Int) : Code × (Ex → St → Option (Bool)) := ctx spec_l01Rises.E spec_l01Rises.keep n [.snd, .fst, .snd, .blk] (codeOf Try.f96) (kEnd spec_l01Rises.E Try.f96 spec_l01Rises.con x)
def spec_l01Rises.LN2 (n : Nat) (x : List Int × Int) : Nat → St → Option (Bool) := loopN (exec spec_l01Rises.E spec_l01Rises.keep n (bodyOf (spec_l01Rises.at2 n x).1)) (St.norm 0 (spec_l01Rises.keep 2)) (spec_l01Rises.at2 n x).2
set_option maxRecDepth 100000 in
theorem spec_l01Rises.lem2 (n : Nat) (x : List Int × Int) : ∀ (k : Nat) (list0 : List Int) (n1 : Int) (i5 : Int), spec_l01Rises.LN2 n x k (spec_l01Rises.st2 list0 n1 i5) = spec_l01Rises.l2 n k list0 n1 i5 := by
  intro k
  induction k with
  | zero => intro list0 n1 i5; rfl
  | succ k ih =>
    intro list0 n1 i5
    have h : spec_l01Rises.LN2 n x (k + 1) (spec_l01Rises.st2 list0 n1 i5) = spec_l01Rises.g2 (fun list0 n1 i5 => spec_l01Rises.LN2 n x k (spec_l01Rises.st2 list0 n1 i5)) list0 n1 i5 := by kernel_rfl
    rw [h]
    simp only [ih]
    rfl
set_option maxRecDepth 100000 in
theorem spec_l01Rises.body (n : Nat) (x : List Int × Int) : bodyF spec_l01Rises.E spec_l01Rises.keep n Try.f96 spec_l01Rises.con x = spec_l01Rises.fn n x.1 x.2 := by
  have h : bodyF spec_l01Rises.E spec_l01Rises.keep n Try.f96 spec_l01Rises.con x = spec_l01Rises.top (fun list0 n1 i5 => spec_l01Rises.LN2 n x n (spec_l01Rises.st2 list0 n1 i5)) x.1 x.2 := by kernel_rfl
  rw [h]
  simp only [spec_l01Rises.lem2]
  rfl
set_option maxRecDepth 100000 in
theorem spec_l01Rises.good : Good Try.prog 96 spec_l01Rises.con :=
  good_of tabok (cs := spec_l01Rises.cs) ⟨spec_l01In.good, trivial⟩ 0 false (fn := Try.f96) Try.func96 rfl (by decide) (by simp [spec_l01Rises.con]) spec_l01Rises.keep NN (fun _ => rfl) (fun x => spec_l01Rises.body NN x)
end
end Go.Ev.Try

namespace Go.Ev.Try
open Go.Proofs Go.Pl
set_option linter.unusedVariables false
noncomputable section
def spec_IsPermit.con : Con := { ps := [(.val, (.pair (.int .i64) (.pair (.int .i64) (.pair (.int .i64) (.pair (.int .i64) (.pair (.sl 2 (.int .i64)) (.int .i64)))))))], rs := [(.val, .bool)], F := fun x => spec_IsPermit.f x }
def spec_IsPermit.cs : List (FuncId × Con) := [(72, spec_l01In.con), (96, spec_l01Rises.con)]
def spec_IsPermit.E : Env := envOf tab spec_IsPermit.cs 0 false
def spec_IsPermit.keep (i : Nat) : List Nat := []
set_option maxRecDepth 100000 in
theorem spec_IsPermit.body (n : Nat) (x : Int × Int × Int × Int × List Int × Int) : bodyF spec_IsPermit.E spec_IsPermit.keep n Try.f53 spec_IsPermit.con x = spec_IsPermit.fn n x := by
  have h : bodyF spec_IsPermit.E spec_IsPermit.keep n Try.f53 spec_IsPermit.con x = spec_IsPermit.top x := by kernel_rfl
  exact h
set_option maxRecDepth 100000 in
theorem spec_IsPermit.good : Good Try.prog 53 spec_IsPermit.con :=
  good_of tabok (cs := spec_IsPermit.cs) ⟨spec_l01In.good, spec_l01Rises.good, trivial⟩ 0 false (fn := Try.f53) Try.func53 rfl (by decide) (by simp [spec_IsPermit.con]) spec_IsPermit.keep NN (fun _ => rfl) (fun x => spec_IsPermit.body NN x)
end
end Go.Ev.Try

namespace Go.Ev.Try
open Go.Proofs Go.Pl
set_option linter.unusedVariables false
noncomputable section
def spec_l30All.st2 (permits0 : List (Int × Int × Int × Int × List Int × Int)) (i3 : Int) : St := ⟨[.dat (.sl 42 (.pair (.int .i64) (.pair (.int .i64) (.pair (.int .i64) (.pair (.int .i64) (.pair (.sl 2 (.int .i64)) (.int .i64))))))) permits0, .gone, .gone, .dat (.int .i64) i3, .gone, .gone, .gone, .gone, .gone, .gone, .gone, .gone, .gone, .gone, .gone, .gone, .gone, .gone, .gone], []⟩
def spec_l30All.con : Con := { ps := [(.val, (.sl 42 (.pair (.int .i64) (.pair (.int .i64) (.pair (.int .i64) (.pair (.int .i64) (.pair (.sl 2 (.int .i64)) (.int .i64))))))))], rs := [(.val, .bool)], F := fun x => spec_l30All.f x }
def spec_l30All.cs : List (FuncId × Con) := [(53, spec_IsPermit.con)]
def spec_l30All.E : Env := envOf tab spec_l30All.cs 0 false
def spec_l30All.keep (i : Nat) : List Nat := if i = 2 then [0, 3] else []
def spec_l30All.at2 (n : Nat) (x : List (Int × Int × Int × Int × List Int × Int)) : Code × (Ex → St → Option (Bool)) := ctx spec_l30All.E spec_l30All.keep n [.snd, .fst, .snd, .blk] (codeOf Try.f97) (kEnd spec_l30All.E Try.f97 spec_l30All.con x)
def spec_l30All.LN2 (n : Nat) (x : List (Int × Int × Int × Int × List Int × Int)) : Nat → St → Option (Bool) := loopN (exec spec_l30All.E spec_l30All.keep n (bodyOf (spec_l30All.at2 n x).1)) (St.norm 0 (spec_l30All.keep 2)) (spec_l30All.at2 n x).2
set_option maxRecDepth 100000 in
theorem spec_l30All.lem2 (n : Nat) (x : List (Int × Int × Int × Int × List Int × Int)) : ∀ (k : Nat) (permits0 : List (Int × Int × Int × Int × List Int × Int)) (i3 : Int), spec_l30All.LN2 n x k (spec_l30All.st2 permits0 i3) = spec_l30All.l2 n k permits0 i3 := by
  intro k
  induction k with
  | zero => intro permits0 i3; rfl
  | succ k ih =>
    intro permits0 i3
    have h : spec_l30All.LN2 n x (k + 1) (spec_l30All.st2 permits0 i3) = spec_l30All.g2 (fun permits0 i3 => spec_l30All.LN2 n x k (spec_l30All.st2 permits0 i3)) permits0 i3 := by kernel_rfl
    rw [h]
    simp only [ih]
    rfl
set_option maxRecDepth 100000 in
theorem spec_l30All.body (n : Nat) (x : List (Int × Int × Int × Int × List Int × Int)) : bodyF spec_l30All.E spec_l30All.keep n Try.f97 spec_l30All.con x = spec_l30All.fn n x := by
  have h : bodyF spec_l30All.E spec_l30All.keep n Try.f97 spec_l30All.con x = spec_l30All.top (fun permits0 i3 => spec_l30All.LN2 n x n (spec_l30All.st2 permits0 i3)) x := by kernel_rfl
  rw [h]
  simp only [spec_l30All.lem2]
  rfl
set_option maxRecDepth 100000 in
theorem spec_l30All.good : Good Try.prog 97 spec_l30All.con :=
  good_of tabok (cs := spec_l30All.cs) ⟨spec_IsPermit.good, trivial⟩ 0 false (fn := Try.f97) Try.func97 rfl (by decide) (by simp [spec_l30All.con]) spec_l30All.keep NN (fun _ => rfl) (fun x => spec_l30All.body NN x)
end
end Go.Ev.Try

namespace Go.Ev.Try
open Go.Proofs Go.Pl
set_option linter.unusedVariables false
noncomputable section
def spec_IsWord.st2 (s0 : ByteArray) (i3 : Int) : St := ⟨[.dat .str s0, .gone, .gone, .dat (.int .i64) i3, .gone, .gone, .gone, .gone, .gone, .gone, .gone, .gone, .gone, .gone, .gone, .gone, .gone, .gone, .gone, .gone, .gone, .gone, .gone], []⟩
def spec_IsWord.con : Con := { ps := [(.val, .str)], rs := [(.val, .bool)], F := fun x => spec_IsWord.f x }
def spec_IsWord.cs : List (FuncId × Con) := [(72, spec_l01In.con)]
def spec_IsWord.E : Env := envOf tab spec_IsWord.cs 0 false
def spec_IsWord.keep (i : Nat) : List Nat := if i = 2 then [0, 3] else []
def spec_IsWord.at2 (n : Nat) (x : ByteArray) : Code × (Ex → St → Option (Bool)) := ctx spec_IsWord.E spec_IsWord.keep n [.snd, .fst, .snd, .blk] (codeOf Try.f114) (kEnd spec_IsWord.E Try.f114 spec_IsWord.con x)
def spec_IsWord.LN2 (n : Nat) (x : ByteArray) : Nat → St → Option (Bool) := loopN (exec spec_IsWord.E spec_IsWord.keep n (bodyOf (spec_IsWord.at2 n x).1)) (St.norm 0 (spec_IsWord.keep 2)) (spec_IsWord.at2 n x).2
set_option maxRecDepth 100000 in
theorem spec_IsWord.lem2 (n : Nat) (x : ByteArray) : ∀ (k : Nat) (s0 : ByteArray) (i3 : Int), spec_IsWord.LN2 n x k (spec_IsWord.st2 s0 i3) = spec_IsWord.l2 n k s0 i3 := by
  intro k
  induction k with
  | zero => intro s0 i3; rfl
  | succ k ih =>
    intro s0 i3
    have h : spec_IsWord.LN2 n x (k + 1) (spec_IsWord.st2 s0 i3) = spec_IsWord.g2 (fun s0 i3 => spec_IsWord.LN2 n x k (spec_IsWord.st2 s0 i3)) s0 i3 := by kernel_rfl
    rw [h]
    simp only [ih]
    rfl
set_option maxRecDepth 100000 in
theorem spec_IsWord.body (n : Nat) (x : ByteArray) : bodyF spec_IsWord.E spec_IsWord.keep n Try.f114 spec_IsWord.con x = spec_IsWord.fn n x := by
  have h : bodyF spec_IsWord.E spec_IsWord.keep n Try.f114 spec_IsWord.con x = spec_IsWord.top (fun s0 i3 => spec_IsWord.LN2 n x n (spec_IsWord.st2 s0 i3)) x := by kernel_rfl
  rw [h]
  simp only [spec_IsWord.lem2]
  rfl
set_option maxRecDepth 100000 in
theorem spec_IsWord.good : Good Try.prog 114 spec_IsWord.con :=
  good_of tabok (cs := spec_IsWord.cs) ⟨spec_l01In.good, trivial⟩ 0 false (fn := Try.f114) Try.func114 rfl (by decide) (by simp [spec_IsWord.con]) spec_IsWord.keep NN (fun _ => rfl) (fun x => spec_IsWord.body NN x)
end
end Go.Ev.Try

namespace Go.Ev.Try
open Go.Proofs Go.Pl
set_option linter.unusedVariables false
noncomputable section
def spec_IsArticle.con : Con := { ps := [(.val, (.pair .str (.pair (.int .i64) (.pair (.int .i64) (.pair (.int .i64) (.pair (.int .i64) (.pair (.int .i64) (.pair (.int .i64) (.pair (.int .i64) (.int .i64))))))))))], rs := [(.val, .bool)], F := fun x => spec_IsArticle.f x }
def spec_IsArticle.cs : List (FuncId × Con) := [(72, spec_l01In.con), (114, spec_IsWord.con)]
def spec_IsArticle.E : Env := envOf tab spec_IsArticle.cs 0 false
def spec_IsArticle.keep (i : Nat) : List Nat := []
set_option maxRecDepth 100000 in
theorem spec_IsArticle.body (n : Nat) (x : ByteArray × Int × Int × Int × Int × Int × Int × Int × Int) : bodyF spec_IsArticle.E spec_IsArticle.keep n Try.f112 spec_IsArticle.con x = spec_IsArticle.fn n x := by
  have h : bodyF spec_IsArticle.E spec_IsArticle.keep n Try.f112 spec_IsArticle.con x = spec_IsArticle.top x := by kernel_rfl
  exact h
set_option maxRecDepth 100000 in
theorem spec_IsArticle.good : Good Try.prog 112 spec_IsArticle.con :=
  good_of tabok (cs := spec_IsArticle.cs) ⟨spec_l01In.good, spec_IsWord.good, trivial⟩ 0 false (fn := Try.f112) Try.func112 rfl (by decide) (by simp [spec_IsArticle.con]) spec_IsArticle.keep NN (fun _ => rfl) (fun x => spec_IsArticle.body NN x)
end
end Go.Ev.Try

namespace Go.Ev.Try
open Go.Proofs Go.Pl
set_option linter.unusedVariables false
noncomputable section
def spec_AreArticles.st2 (list0 : List (ByteArray × Int × Int × Int × Int × Int × Int × Int × Int)) (i3 : Int) : St := ⟨[.dat (.sl 95 (.pair .str (.pair (.int .i64) (.pair (.int .i64) (.pair (.int .i64) (.pair (.int .i64) (.pair (.int .i64) (.pair (.int .i64) (.pair (.int .i64) (.int .i64)))))))))) list0, .gone, .gone, .dat (.int .i64) i3, .gone, .gone, .gone, .gone, .gone, .gone, .gone, .gone, .gone, .gone, .gone, .gone, .gone, .gone, .gone, .gone, .gone, .gone, .gone, .gone, .gone, .gone, .gone, .gone, .gone, .gone, .gone, .gone, .gone, .gone, .gone, .gone, .gone], []⟩
def spec_AreArticles.con : Con := { ps := [(.val, (.sl 95 (.pair .str (.pair (.int .i64) (.pair (.int .i64) (.pair (.int .i64) (.pair (.int .i64) (.pair (.int .i64) (.pair (.int .i64) (.pair (.int .i64) (.int .i64)))))))))))], rs := [(.val, .bool)], F := fun x => spec_AreArticles.f x }
def spec_AreArticles.cs : List (FuncId × Con) := [(112, spec_IsArticle.con)]
def spec_AreArticles.E : Env := envOf tab spec_AreArticles.cs 0 false
def spec_AreArticles.keep (i : Nat) : List Nat := if i = 2 then [0, 3] else []
def spec_AreArticles.at2 (n : Nat) (x : List (ByteArray × Int × Int × Int × Int × Int × Int × Int × Int)) : Code × (Ex → St → Option (Bool)) := ctx spec_AreArticles.E spec_AreArticles.keep n [.snd, .fst, .snd, .blk] (codeOf Try.f109) (kEnd spec_AreArticles.E Try.f109 spec_AreArticles.con x)
def spec_AreArticles.LN2 (n : Nat) (x : List (ByteArray × Int × Int × Int × Int × Int × Int × Int × Int)) : Nat → St → Option (Bool) := loopN (exec spec_AreArticles.E spec_AreArticles.keep n (bodyOf (spec_AreArticles.at2 n x).1)) (St.norm 0 (spec_AreArticles.keep 2)) (spec_AreArticles.at2 n x).2
set_option maxRecDepth 100000 in
theorem spec_AreArticles.lem2 (n : Nat) (x : List (ByteArray × Int × Int × Int × Int × Int × Int × Int × Int)) : ∀ (k : Nat) (list0 : List (ByteArray × Int × Int × Int × Int × Int × Int × Int × Int)) (i3 : Int), spec_AreArticles.LN2 n x k (spec_AreArticles.st2 list0 i3) = spec_AreArticles.l2 n k list0 i3 := by
  intro k
  induction k with
  | zero => intro list0 i3; rfl
  | succ k ih =>
    intro list0 i3
    have h : spec_AreArticles.LN2 n x (k + 1) (spec_AreArticles.st2 list0 i3) = spec_AreArticles.g2 (fun list0 i3 => spec_AreArticles.LN2 n x k (spec_AreArticles.st2 list0 i3)) list0 i3 := by kernel_rfl
    rw [h]
    simp only [ih]
    rfl
set_option maxRecDepth 100000 in
theorem spec_AreArticles.body (n : Nat) (x : List (ByteArray × Int × Int × Int × Int × Int × Int × Int × Int)) : bodyF spec_AreArticles.E spec_AreArticles.keep n Try.f109 spec_AreArticles.con x = spec_AreArticles.fn n x := by
  have h : bodyF spec_AreArticles.E spec_AreArticles.keep n Try.f109 spec_AreArticles.con x = spec_AreArticles.top (fun list0 i3 => spec_AreArticles.LN2 n x n (spec_AreArticles.st2 list0 i3)) x := by kernel_rfl
  rw [h]
  simp only [spec_AreArticles.lem2]
  rfl
set_option maxRecDepth 100000 in
theorem spec_AreArticles.good : Good Try.prog 109 spec_AreArticles.con :=
  good_of tabok (cs := spec_AreArticles.cs) ⟨spec_IsArticle.good, trivial⟩ 0 false (fn := Try.f109) Try.func109 rfl (by decide) (by simp [spec_AreArticles.con]) spec_AreArticles.keep NN (fun _ => rfl) (fun x => spec_AreArticles.body NN x)
end
end Go.Ev.Try

namespace Go.Ev.Try
open Go.Proofs Go.Pl
set_option linter.unusedVariables false
noncomputable section
def spec_l03Code.st4 (list0 : List (ByteArray × Int × Int × Int × Int × Int × Int × Int × Int)) (counts1 : List Int) (i5 : Int) : St := ⟨[.dat (.sl 95 (.pair .str (.pair (.int .i64) (.pair (.int .i64) (.pair (.int .i64) (.pair (.int .i64) (.pair (.int .i64) (.pair (.int .i64) (.pair (.int .i64) (.int .i64)))))))))) list0, .dat (.sl 2 (.int .i64)) counts1, .gone, .gone, .gone, .dat (.int .i64) i5, .gone, .gone, .gone, .gone, .gone, .gone, .gone, .gone, .gone, .gone, .gone, .gone, .gone, .gone, .gone, .gone, .gone, .gone, .gone, .gone], []⟩
def spec_l03Code.con : Con := { ps := [(.val, (.sl 95 (.pair .str (.pair (.int .i64) (.pair (.int .i64) (.pair (.int .i64) (.pair (.int .i64) (.pair (.int .i64) (.pair (.int .i64) (.pair (.int .i64) (.int .i64))))))))))), (.val, (.sl 2 (.int .i64)))], rs := [(.val, (.int .i64))], F := fun x => spec_l03Code.f x.1 x.2 }
def spec_l03Code.cs : List (FuncId × Con) := [(72, spec_l01In.con), (109, spec_AreArticles.con)]
def spec_l03Code.E : Env := envOf tab spec_l03Code.cs 0 false
def spec_l03Code.keep (i : Nat) : List Nat := if i = 4 then [0, 1, 5] else []
def spec_l03Code.at4 (n : Nat) (x : (List (ByteArray × Int × Int × Int × Int × Int × Int × Int × Int)) × List Int) : Code × (Ex → St → Option (Int)) := ctx spec_l03Code.E spec_l03Code.keep n [.snd, .snd, .fst, .snd, .blk] (codeOf Try.f100) (kEnd spec_l03Code.E Try.f100 spec_l03Code.con x)
def spec_l03Code.LN4 (n : Nat) (x : (List (ByteArray × Int × Int × Int × Int × Int × Int × Int × Int)) × List Int) : Nat → St → Option (Int) := loopN (exec spec_l03Code.E spec_l03Code.keep n (bodyOf (spec_l03Code.at4 n x).1)) (St.norm 0 (spec_l03Code.keep 4)) (spec_l03Code.at4 n x).2
set_option maxRecDepth 100000 in
theorem spec_l03Code.lem4 (n : Nat) (x : (List (ByteArray × Int × Int × Int × Int × Int × Int × Int × Int)) × List Int) : ∀ (k : Nat) (list0 : List (ByteArray × Int × Int × Int × Int × Int × Int × Int × Int)) (counts1 : List Int) (i5 : Int), spec_l03Code.LN4 n x k (spec_l03Code.st4 list0 counts1 i5) = spec_l03Code.l4 n k list0 counts1 i5 := by
  intro k
  induction k with
  | zero => intro list0 counts1 i5; rfl
  | succ k ih =>
    intro list0 counts1 i5
    have h : spec_l03Code.LN4 n x (k + 1) (spec_l03Code.st4 list0 counts1 i5) = spec_l03Code.g4 (fun list0 counts1 i5 => spec_l03Code.LN4 n x k (spec_l03Code.st4 list0 counts1 i5)) list0 counts1 i5 := by kernel_rfl
    rw [h]
    simp only [ih]
    rfl
set_option maxRecDepth 100000 in
theorem spec_l03Code.body (n : Nat) (x : (List (ByteArray × Int × Int × Int × Int × Int × Int × Int × Int)) × List Int) : bodyF spec_l03Code.E spec_l03Code.keep n Try.f100 spec_l03Code.con x = spec_l03Code.fn n x.1 x.2 := by
  have h : bodyF spec_l03Code.E spec_l03Code.keep n Try.f100 spec_l03Code.con x = spec_l03Code.top (fun list0 counts1 i5 => spec_l03Code.LN4 n x n (spec_l03Code.st4 list0 counts1 i5)) x.1 x.2 := by kernel_rfl
  rw [h]
  simp only [spec_l03Code.lem4]
  rfl
set_option maxRecDepth 100000 in
theorem spec_l03Code.good : Good Try.prog 100 spec_l03Code.con :=
  good_of tabok (cs := spec_l03Code.cs) ⟨spec_l01In.good, spec_AreArticles.good, trivial⟩ 0 false (fn := Try.f100) Try.func100 rfl (by decide) (by simp [spec_l03Code.con]) spec_l03Code.keep NN (fun _ => rfl) (fun x => spec_l03Code.body NN x)
end
end Go.Ev.Try

namespace Go.Ev.Try
open Go.Proofs Go.Pl
set_option linter.unusedVariables false
noncomputable section
def spec_l30Code.con : Con := { ps := [(.val, (.sl 42 (.pair (.int .i64) (.pair (.int .i64) (.pair (.int .i64) (.pair (.int .i64) (.pair (.sl 2 (.int .i64)) (.int .i64)))))))), (.val, (.sl 95 (.pair .str (.pair (.int .i64) (.pair (.int .i64) (.pair (.int .i64) (.pair (.int .i64) (.pair (.int .i64) (.pair (.int .i64) (.pair (.int .i64) (.int .i64))))))))))), (.val, (.sl 2 (.int .i64))), (.val, (.int .i64))], rs := [(.val, (.int .i64))], F := fun x => spec_l30Code.f x.1 x.2.1 x.2.2.1 x.2.2.2 }
def spec_l30Code.cs : List (FuncId × Con) := [(72, spec_l01In.con), (97, spec_l30All.con), (100, spec_l03Code.con)]
def spec_l30Code.E : Env := envOf tab spec_l30Code.cs 0 false
def spec_l30Code.keep (i : Nat) : List Nat := []
set_option maxRecDepth 100000 in
theorem spec_l30Code.body (n : Nat) (x : (List (Int × Int × Int × Int × List Int × Int)) × (List (ByteArray × Int × Int × Int × Int × Int × Int × Int × Int)) × List Int × Int) : bodyF spec_l30Code.E spec_l30Code.keep n Try.f76 spec_l30Code.con x = spec_l30Code.fn n x.1 x.2.1 x.2.2.1 x.2.2.2 := by
  have h : bodyF spec_l30Code.E spec_l30Code.keep n Try.f76 spec_l30Code.con x = spec_l30Code.top x.1 x.2.1 x.2.2.1 x.2.2.2 := by kernel_rfl
  exact h
set_option maxRecDepth 100000 in
theorem spec_l30Code.good : Good Try.prog 76 spec_l30Code.con :=
  good_of tabok (cs := spec_l30Code.cs) ⟨spec_l01In.good, spec_l30All.good, spec_l03Code.good, trivial⟩ 0 false (fn := Try.f76) Try.func76 rfl (by decide) (by simp [spec_l30Code.con]) spec_l30Code.keep NN (fun _ => rfl) (fun x => spec_l30Code.body NN x)
end
end Go.Ev.Try

namespace Go.Ev.Try
open Go.Proofs Go.Pl
set_option linter.unusedVariables false
noncomputable section
def spec_l01Has.st2 (list0 : List Int) (x1 : Int) (i5 : Int) : St := ⟨[.dat (.sl 2 (.int .i64)) list0, .dat (.int .i64) x1, .gone, .gone, .gone, .dat (.int .i64) i5, .gone, .gone, .gone, .gone, .gone, .gone, .gone, .gone, .gone, .gone, .gone, .gone], []⟩
def spec_l01Has.con : Con := { ps := [(.val, (.sl 2 (.int .i64))), (.val, (.int .i64))], rs := [(.val, .bool)], F := fun x => spec_l01Has.f x.1 x.2 }
def spec_l01Has.cs : List (FuncId × Con) := []
def spec_l01Has.E : Env := envOf tab spec_l01Has.cs 0 false
def spec_l01Has.keep (i : Nat) : List Nat := if i = 2 then [0, 1, 5] else []
def spec_l01Has.at2 (n : Nat) (x : List Int × Int) : Code × (Ex → St → Option (Bool)) := ctx spec_l01Has.E spec_l01Has.keep n [.snd, .fst, .snd, .blk] (codeOf Try.f101) (kEnd spec_l01Has.E Try.f101 spec_l01Has.con x)
def spec_l01Has.LN2 (n : Nat) (x : List Int × Int) : Nat → St → Option (Bool) := loopN (exec spec_l01Has.E spec_l01Has.keep n (bodyOf (spec_l01Has.at2 n x).1)) (St.norm 0 (spec_l01Has.keep 2)) (spec_l01Has.at2 n x).2
set_option maxRecDepth 100000 in
theorem spec_l01Has.lem2 (n : Nat) (x : List Int × Int) : ∀ (k : Nat) (list0 : List Int) (x1 : Int) (i5 : Int), spec_l01Has.LN2 n x k (spec_l01Has.st2 list0 x1 i5) = spec_l01Has.l2 n k list0 x1 i5 := by
  intro k
  induction k with
  | zero => intro list0 x1 i5; rfl
  | succ k ih =>
    intro list0 x1 i5
    have h : spec_l01Has.LN2 n x (k + 1) (spec_l01Has.st2 list0 x1 i5) = spec_l01Has.g2 (fun list0 x1 i5 => spec_l01Has.LN2 n x k (spec_l01Has.st2 list0 x1 i5)) list0 x1 i5 := by kernel_rfl
    rw [h]
    simp only [ih]
    rfl
set_option maxRecDepth 100000 in
theorem spec_l01Has.body (n : Nat) (x : List Int × Int) : bodyF spec_l01Has.E spec_l01Has.keep n Try.f101 spec_l01Has.con x = spec_l01Has.fn n x.1 x.2 := by
  have h : bodyF spec_l01Has.E spec_l01Has.keep n Try.f101 spec_l01Has.con x = spec_l01Has.top (fun list0 x1 i5 => spec_l01Has.LN2 n x n (spec_l01Has.st2 list0 x1 i5)) x.1 x.2 := by kernel_rfl
  rw [h]
  simp only [spec_l01Has.lem2]
  rfl
set_option maxRecDepth 100000 in
theorem spec_l01Has.good : Good Try.prog 101 spec_l01Has.con :=
  good_of tabok (cs := spec_l01Has.cs) trivial 0 false (fn := Try.f101) Try.func101 rfl (by decide) (by simp [spec_l01Has.con]) spec_l01Has.keep NN (fun _ => rfl) (fun x => spec_l01Has.body NN x)
end
end Go.Ev.Try

namespace Go.Ev.Try
open Go.Proofs Go.Pl
set_option linter.unusedVariables false
noncomputable section
def spec_l30Refusals.st14 (n15 : Int) (weight16 : Int) (i17 : Int) (truths14 : List Bool) : St := ⟨[.gone, .gone, .gone, .gone, .gone, .gone, .gone, .gone, .gone, .gone, .gone, .gone, .gone, .gone, .ref 0, .dat (.int .i64) n15, .dat (.int .i64) weight16, .dat (.int .i64) i17, .gone, .gone, .gone, .gone, .gone, .gone, .gone, .gone, .gone, .gone, .gone, .gone, .gone, .gone, .gone, .gone, .gone, .gone, .gone, .gone, .gone, .gone, .gone, .gone, .gone, .gone, .gone, .gone, .gone, .gone, .gone, .gone, .gone, .gone, .gone, .gone, .gone, .gone, .gone, .gone, .gone, .gone, .gone, .gone, .gone, .gone, .gone, .gone, .gone, .gone, .gone, .gone, .gone, .gone, .gone, .gone, .gone, .gone, .gone, .gone, .gone, .gone, .gone, .gone, .gone, .gone, .gone, .gone, .gone, .gone, .gone, .gone, .gone, .gone, .gone, .gone, .gone, .gone, .gone, .gone, .gone, .gone, .gone, .gone, .gone, .gone, .gone, .gone], [.row 4 .bool truths14 none]⟩
def spec_l30Refusals.st4 (list1 : List (ByteArray × Int × Int × Int × Int × Int × Int × Int × Int)) (counts2 : List Int) (day3 : Int) (net9 : Int) (calibre10 : Bool) (kind11 : Bool) (group12 : Bool) (i13 : Int) (p4 : Int × Int × Int × Int × List Int × Int) : St := ⟨[.gone, .dat (.sl 95 (.pair .str (.pair (.int .i64) (.pair (.int .i64) (.pair (.int .i64) (.pair (.int .i64) (.pair (.int .i64) (.pair (.int .i64) (.pair (.int .i64) (.int .i64)))))))))) list1, .dat (.sl 2 (.int .i64)) counts2, .dat (.int .i64) day3, .ptr 0 [], .gone, .gone, .gone, .gone, .dat (.int .i64) net9, .dat .bool calibre10, .dat .bool kind11, .dat .bool group12, .dat (.int .i64) i13, .gone, .gone, .gone, .gone, .gone, .gone, .gone, .gone, .gone, .gone, .gone, .gone, .gone, .gone, .gone, .gone, .gone, .gone, .gone, .gone, .gone, .gone, .gone, .gone, .gone, .gone, .gone, .gone, .gone, .gone, .gone, .gone, .gone, .gone, .gone, .gone, .gone, .gone, .gone, .gone, .gone, .gone, .gone, .gone, .gone, .gone, .gone, .gone, .gone, .gone, .gone, .gone, .gone, .gone, .gone, .gone, .gone, .gone, .gone, .gone, .gone, .gone, .gone, .gone, .gone, .gone, .gone, .gone, .gone, .gone, .gone, .gone, .gone, .gone, .gone, .gone, .gone, .gone, .gone, .gone, .gone, .gone, .gone, .gone, .gone, .gone, .gone, .gone, .gone, .gone, .gone, .gone], [.box 42 (.pair (.int .i64) (.pair (.int .i64) (.pair (.int .i64) (.pair (.int .i64) (.pair (.sl 2 (.int .i64)) (.int .i64)))))) (.dat (.pair (.int .i64) (.pair (.int .i64) (.pair (.int .i64) (.pair (.int .i64) (.pair (.sl 2 (.int .i64)) (.int .i64)))))) p4)]⟩
def spec_l30Refusals.con : Con := { ps := [(.val, (.pair (.int .i64) (.pair (.int .i64) (.pair (.int .i64) (.pair (.int .i64) (.pair (.sl 2 (.int .i64)) (.int .i64))))))), (.val, (.sl 95 (.pair .str (.pair (.int .i64) (.pair (.int .i64) (.pair (.int .i64) (.pair (.int .i64) (.pair (.int .i64) (.pair (.int .i64) (.pair (.int .i64) (.int .i64))))))))))), (.val, (.sl 2 (.int .i64))), (.val, (.int .i64))], rs := [(.val, (.int .i64))], F := fun x => spec_l30Refusals.f x.1 x.2.1 x.2.2.1 x.2.2.2 }
def spec_l30Refusals.cs : List (FuncId × Con) := [(72, spec_l01In.con), (101, spec_l01Has.con)]
def spec_l30Refusals.E : Env := envOf tab spec_l30Refusals.cs 0 false
def spec_l30Refusals.keep (i : Nat) : List Nat := if i = 14 then [14, 15, 16, 17] else if i = 4 then [1, 2, 3, 4, 9, 10, 11, 12, 13] else []
def spec_l30Refusals.at14 (n : Nat) (x : (Int × Int × Int × Int × List Int × Int) × (List (ByteArray × Int × Int × Int × Int × Int × Int × Int × Int)) × List Int × Int) : Code × (Ex → St → Option (Int)) := ctx spec_l30Refusals.E spec_l30Refusals.keep n [.snd, .snd, .snd, .snd, .snd, .snd, .fst, .snd, .blk] (codeOf Try.f77) (kEnd spec_l30Refusals.E Try.f77 spec_l30Refusals.con x)
def spec_l30Refusals.LN14 (n : Nat) (x : (Int × Int × Int × Int × List Int × Int) × (List (ByteArray × Int × Int × Int × Int × Int × Int × Int × Int)) × List Int × Int) : Nat → St → Option (Int) := loopN (exec spec_l30Refusals.E spec_l30Refusals.keep n (bodyOf (spec_l30Refusals.at14 n x).1)) (St.norm 0 (spec_l30Refusals.keep 14)) (spec_l30Refusals.at14 n x).2
def spec_l30Refusals.at4 (n : Nat) (x : (Int × Int × Int × Int × List Int × Int) × (List (ByteArray × Int × Int × Int × Int × Int × Int × Int × Int)) × List Int × Int) : Code × (Ex → St → Option (Int)) := ctx spec_l30Refusals.E spec_l30Refusals.keep n [.snd, .snd, .snd, .fst, .snd, .blk] (codeOf Try.f77) (kEnd spec_l30Refusals.E Try.f77 spec_l30Refusals.con x)
def spec_l30Refusals.LN4 (n : Nat) (x : (Int × Int × Int × Int × List Int × Int) × (List (ByteArray × Int × Int × Int × Int × Int × Int × Int × Int)) × List Int × Int) : Nat → St → Option (Int) := loopN (exec spec_l30Refusals.E spec_l30Refusals.keep n (bodyOf (spec_l30Refusals.at4 n x).1)) (St.norm 0 (spec_l30Refusals.keep 4)) (spec_l30Refusals.at4 n x).2
set_option maxRecDepth 100000 in
theorem spec_l30Refusals.lem14 (n : Nat) (x : (Int × Int × Int × Int × List Int × Int) × (List (ByteArray × Int × Int × Int × Int × Int × Int × Int × Int)) × List Int × Int) : ∀ (k : Nat) (n15 : Int) (weight16 : Int) (i17 : Int) (truths14 : List Bool), spec_l30Refusals.LN14 n x k (spec_l30Refusals.st14 n15 weight16 i17 truths14) = spec_l30Refusals.l14 n k n15 weight16 i17 truths14 := by
  intro k
  induction k with
  | zero => intro n15 weight16 i17 truths14; rfl
  | succ k ih =>
    intro n15 weight16 i17 truths14
    have h : spec_l30Refusals.LN14 n x (k + 1) (spec_l30Refusals.st14 n15 weight16 i17 truths14) = spec_l30Refusals.g14 (fun n15 weight16 i17 truths14 => spec_l30Refusals.LN14 n x k (spec_l30Refusals.st14 n15 weight16 i17 truths14)) n15 weight16 i17 truths14 := by kernel_rfl
    rw [h]
    simp only [ih]
    rfl
set_option maxRecDepth 100000 in
theorem spec_l30Refusals.lem4 (n : Nat) (x : (Int × Int × Int × Int × List Int × Int) × (List (ByteArray × Int × Int × Int × Int × Int × Int × Int × Int)) × List Int × Int) : ∀ (k : Nat) (list1 : List (ByteArray × Int × Int × Int × Int × Int × Int × Int × Int)) (counts2 : List Int) (day3 : Int) (net9 : Int) (calibre10 : Bool) (kind11 : Bool) (group12 : Bool) (i13 : Int) (p4 : Int × Int × Int × Int × List Int × Int), spec_l30Refusals.LN4 n x k (spec_l30Refusals.st4 list1 counts2 day3 net9 calibre10 kind11 group12 i13 p4) = spec_l30Refusals.l4 n k list1 counts2 day3 net9 calibre10 kind11 group12 i13 p4 := by
  intro k
  induction k with
  | zero => intro list1 counts2 day3 net9 calibre10 kind11 group12 i13 p4; rfl
  | succ k ih =>
    intro list1 counts2 day3 net9 calibre10 kind11 group12 i13 p4
    have h : spec_l30Refusals.LN4 n x (k + 1) (spec_l30Refusals.st4 list1 counts2 day3 net9 calibre10 kind11 group12 i13 p4) = spec_l30Refusals.g4 (fun n15 weight16 i17 truths14 => spec_l30Refusals.LN14 n x n (spec_l30Refusals.st14 n15 weight16 i17 truths14)) (fun list1 counts2 day3 net9 calibre10 kind11 group12 i13 p4 => spec_l30Refusals.LN4 n x k (spec_l30Refusals.st4 list1 counts2 day3 net9 calibre10 kind11 group12 i13 p4)) list1 counts2 day3 net9 calibre10 kind11 group12 i13 p4 := by kernel_rfl
    rw [h]
    simp only [ih, spec_l30Refusals.lem14]
    rfl
set_option maxRecDepth 100000 in
theorem spec_l30Refusals.body (n : Nat) (x : (Int × Int × Int × Int × List Int × Int) × (List (ByteArray × Int × Int × Int × Int × Int × Int × Int × Int)) × List Int × Int) : bodyF spec_l30Refusals.E spec_l30Refusals.keep n Try.f77 spec_l30Refusals.con x = spec_l30Refusals.fn n x.1 x.2.1 x.2.2.1 x.2.2.2 := by
  have h : bodyF spec_l30Refusals.E spec_l30Refusals.keep n Try.f77 spec_l30Refusals.con x = spec_l30Refusals.top (fun list1 counts2 day3 net9 calibre10 kind11 group12 i13 p4 => spec_l30Refusals.LN4 n x n (spec_l30Refusals.st4 list1 counts2 day3 net9 calibre10 kind11 group12 i13 p4)) x.1 x.2.1 x.2.2.1 x.2.2.2 := by kernel_rfl
  rw [h]
  simp only [spec_l30Refusals.lem4]
  rfl
set_option maxRecDepth 100000 in
theorem spec_l30Refusals.good : Good Try.prog 77 spec_l30Refusals.con :=
  good_of tabok (cs := spec_l30Refusals.cs) ⟨spec_l01In.good, spec_l01Has.good, trivial⟩ 0 false (fn := Try.f77) Try.func77 rfl (by decide) (by simp [spec_l30Refusals.con]) spec_l30Refusals.keep NN (fun _ => rfl) (fun x => spec_l30Refusals.body NN x)
end
end Go.Ev.Try

namespace Go.Ev.Try
open Go.Proofs Go.Pl
set_option linter.unusedVariables false
noncomputable section
def spec_RefusalsOf.con : Con := { ps := [(.val, (.pair (.int .i64) (.pair (.int .i64) (.pair (.int .i64) (.pair (.int .i64) (.pair (.sl 2 (.int .i64)) (.int .i64))))))), (.val, (.sl 95 (.pair .str (.pair (.int .i64) (.pair (.int .i64) (.pair (.int .i64) (.pair (.int .i64) (.pair (.int .i64) (.pair (.int .i64) (.pair (.int .i64) (.int .i64))))))))))), (.val, (.sl 2 (.int .i64))), (.val, (.int .i64))], rs := [(.val, (.int .i64)), (.val, (.int .i64))], F := fun x => spec_RefusalsOf.f x.1 x.2.1 x.2.2.1 x.2.2.2 }
def spec_RefusalsOf.cs : List (FuncId × Con) := [(76, spec_l30Code.con), (77, spec_l30Refusals.con)]
def spec_RefusalsOf.E : Env := envOf tab spec_RefusalsOf.cs 0 false
def spec_RefusalsOf.keep (i : Nat) : List Nat := []
set_option maxRecDepth 100000 in
theorem spec_RefusalsOf.body (n : Nat) (x : (Int × Int × Int × Int × List Int × Int) × (List (ByteArray × Int × Int × Int × Int × Int × Int × Int × Int)) × List Int × Int) : bodyF spec_RefusalsOf.E spec_RefusalsOf.keep n Try.f30 spec_RefusalsOf.con x = spec_RefusalsOf.fn n x.1 x.2.1 x.2.2.1 x.2.2.2 := by
  have h : bodyF spec_RefusalsOf.E spec_RefusalsOf.keep n Try.f30 spec_RefusalsOf.con x = spec_RefusalsOf.top x.1 x.2.1 x.2.2.1 x.2.2.2 := by kernel_rfl
  exact h
set_option maxRecDepth 100000 in
theorem spec_RefusalsOf.good : Good Try.prog 30 spec_RefusalsOf.con :=
  good_of tabok (cs := spec_RefusalsOf.cs) ⟨spec_l30Code.good, spec_l30Refusals.good, trivial⟩ 0 false (fn := Try.f30) Try.func30 rfl (by decide) (by simp [spec_RefusalsOf.con]) spec_RefusalsOf.keep NN (fun _ => rfl) (fun x => spec_RefusalsOf.body NN x)
end
end Go.Ev.Try

namespace Go.Ev.Try
open Go.Proofs Go.Pl
set_option linter.unusedVariables false
noncomputable section
def impl_within.con : Con := { ps := [(.val, (.int .i64)), (.val, (.int .i64)), (.val, (.int .i64))], rs := [(.val, .bool)], F := fun x => impl_within.f x.1 x.2.1 x.2.2 }
def impl_within.cs : List (FuncId × Con) := []
def impl_within.E : Env := envOf tab impl_within.cs 0 false
def impl_within.keep (i : Nat) : List Nat := []
set_option maxRecDepth 100000 in
theorem impl_within.body (n : Nat) (x : Int × Int × Int) : bodyF impl_within.E impl_within.keep n Try.f70 impl_within.con x = impl_within.fn n x.1 x.2.1 x.2.2 := by
  have h : bodyF impl_within.E impl_within.keep n Try.f70 impl_within.con x = impl_within.top x.1 x.2.1 x.2.2 := by kernel_rfl
  exact h
set_option maxRecDepth 100000 in
theorem impl_within.good : Good Try.prog 70 impl_within.con :=
  good_of tabok (cs := impl_within.cs) trivial 0 false (fn := Try.f70) Try.func70 rfl (by decide) (by simp [impl_within.con]) impl_within.keep NN (fun _ => rfl) (fun x => impl_within.body NN x)
end
end Go.Ev.Try

namespace Go.Ev.Try
open Go.Proofs Go.Pl
set_option linter.unusedVariables false
noncomputable section
def impl_isDay.con : Con := { ps := [(.val, (.int .i64))], rs := [(.val, .bool)], F := fun x => impl_isDay.f x }
def impl_isDay.cs : List (FuncId × Con) := [(70, impl_within.con)]
def impl_isDay.E : Env := envOf tab impl_isDay.cs 0 false
def impl_isDay.keep (i : Nat) : List Nat := []
set_option maxRecDepth 100000 in
theorem impl_isDay.body (n : Nat) (x : Int) : bodyF impl_isDay.E impl_isDay.keep n Try.f82 impl_isDay.con x = impl_isDay.fn n x := by
  have h : bodyF impl_isDay.E impl_isDay.keep n Try.f82 impl_isDay.con x = impl_isDay.top x := by kernel_rfl
  exact h
set_option maxRecDepth 100000 in
theorem impl_isDay.good : Good Try.prog 82 impl_isDay.con :=
  good_of tabok (cs := impl_isDay.cs) ⟨impl_within.good, trivial⟩ 0 false (fn := Try.f82) Try.func82 rfl (by decide) (by simp [impl_isDay.con]) impl_isDay.keep NN (fun _ => rfl) (fun x => impl_isDay.body NN x)
end
end Go.Ev.Try

namespace Go.Ev.Try
open Go.Proofs Go.Pl
set_option linter.unusedVariables false
noncomputable section
def impl_isCalibre.con : Con := { ps := [(.val, (.int .i64))], rs := [(.val, .bool)], F := fun x => impl_isCalibre.f x }
def impl_isCalibre.cs : List (FuncId × Con) := [(70, impl_within.con)]
def impl_isCalibre.E : Env := envOf tab impl_isCalibre.cs 0 false
def impl_isCalibre.keep (i : Nat) : List Nat := []
set_option maxRecDepth 100000 in
theorem impl_isCalibre.body (n : Nat) (x : Int) : bodyF impl_isCalibre.E impl_isCalibre.keep n Try.f94 impl_isCalibre.con x = impl_isCalibre.fn n x := by
  have h : bodyF impl_isCalibre.E impl_isCalibre.keep n Try.f94 impl_isCalibre.con x = impl_isCalibre.top x := by kernel_rfl
  exact h
set_option maxRecDepth 100000 in
theorem impl_isCalibre.good : Good Try.prog 94 impl_isCalibre.con :=
  good_of tabok (cs := impl_isCalibre.cs) ⟨impl_within.good, trivial⟩ 0 false (fn := Try.f94) Try.func94 rfl (by decide) (by simp [impl_isCalibre.con]) impl_isCalibre.keep NN (fun _ => rfl) (fun x => impl_isCalibre.body NN x)
end
end Go.Ev.Try

namespace Go.Ev.Try
open Go.Proofs Go.Pl
set_option linter.unusedVariables false
noncomputable section
def impl_allWithin.st2 (low1 : Int) (high2 : Int) (v9 : List Int) (v10 : Int) (v11 : Int) : St := ⟨[.gone, .dat (.int .i64) low1, .dat (.int .i64) high2, .gone, .gone, .gone, .gone, .gone, .gone, .dat (.sl 2 (.int .i64)) v9, .dat (.int .i64) v10, .dat (.int .i64) v11, .gone, .gone, .gone, .gone, .gone, .gone, .gone, .gone, .gone], []⟩
def impl_allWithin.con : Con := { ps := [(.val, (.sl 2 (.int .i64))), (.val, (.int .i64)), (.val, (.int .i64))], rs := [(.val, .bool)], F := fun x => impl_allWithin.f x.1 x.2.1 x.2.2 }
def impl_allWithin.cs : List (FuncId × Con) := [(70, impl_within.con)]
def impl_allWithin.E : Env := envOf tab impl_allWithin.cs 0 false
def impl_allWithin.keep (i : Nat) : List Nat := if i = 2 then [1, 2, 9, 10, 11] else []
def impl_allWithin.at2 (n : Nat) (x : List Int × Int × Int) : Code × (Ex → St → Option (Bool)) := ctx impl_allWithin.E impl_allWithin.keep n [.snd, .fst, .snd, .blk] (codeOf Try.f95) (kEnd impl_allWithin.E Try.f95 impl_allWithin.con x)
def impl_allWithin.LN2 (n : Nat) (x : List Int × Int × Int) : Nat → St → Option (Bool) := loopN (exec impl_allWithin.E impl_allWithin.keep n (bodyOf (impl_allWithin.at2 n x).1)) (St.norm 0 (impl_allWithin.keep 2)) (impl_allWithin.at2 n x).2
set_option maxRecDepth 100000 in
theorem impl_allWithin.lem2 (n : Nat) (x : List Int × Int × Int) : ∀ (k : Nat) (low1 : Int) (high2 : Int) (v9 : List Int) (v10 : Int) (v11 : Int), impl_allWithin.LN2 n x k (impl_allWithin.st2 low1 high2 v9 v10 v11) = impl_allWithin.l2 n k low1 high2 v9 v10 v11 := by
  intro k
  induction k with
  | zero => intro low1 high2 v9 v10 v11; rfl
  | succ k ih =>
    intro low1 high2 v9 v10 v11
    have h : impl_allWithin.LN2 n x (k + 1) (impl_allWithin.st2 low1 high2 v9 v10 v11) = impl_allWithin.g2 (fun low1 high2 v9 v10 v11 => impl_allWithin.LN2 n x k (impl_allWithin.st2 low1 high2 v9 v10 v11)) low1 high2 v9 v10 v11 := by kernel_rfl
    rw [h]
    simp only [ih]
    rfl
set_option maxRecDepth 100000 in
theorem impl_allWithin.body (n : Nat) (x : List Int × Int × Int) : bodyF impl_allWithin.E impl_allWithin.keep n Try.f95 impl_allWithin.con x = impl_allWithin.fn n x.1 x.2.1 x.2.2 := by
  have h : bodyF impl_allWithin.E impl_allWithin.keep n Try.f95 impl_allWithin.con x = impl_allWithin.top (fun low1 high2 v9 v10 v11 => impl_allWithin.LN2 n x n (impl_allWithin.st2 low1 high2 v9 v10 v11)) x.1 x.2.1 x.2.2 := by kernel_rfl
  rw [h]
  simp only [impl_allWithin.lem2]
  rfl
set_option maxRecDepth 100000 in
theorem impl_allWithin.good : Good Try.prog 95 impl_allWithin.con :=
  good_of tabok (cs := impl_allWithin.cs) ⟨impl_within.good, trivial⟩ 0 false (fn := Try.f95) Try.func95 rfl (by decide) (by simp [impl_allWithin.con]) impl_allWithin.keep NN (fun _ => rfl) (fun x => impl_allWithin.body NN x)
end
end Go.Ev.Try

namespace Go.Ev.Try
open Go.Proofs Go.Pl
set_option linter.unusedVariables false
noncomputable section
def impl_IsPermit.st4 (i3 : Int) (p1 : Int × Int × Int × Int × List Int × Int) : St := ⟨[.gone, .ptr 0 [], .gone, .dat (.int .i64) i3, .gone, .gone, .gone, .gone, .gone, .gone, .gone, .gone, .gone, .gone, .gone, .gone, .gone, .gone, .gone, .gone, .gone, .gone, .gone, .gone, .gone, .gone, .gone, .gone, .gone, .gone, .gone, .gone, .gone, .gone, .gone, .gone, .gone, .gone, .gone, .gone, .gone, .gone, .gone, .gone, .gone, .gone, .gone, .gone, .gone, .gone, .gone, .gone, .gone, .gone, .gone, .gone, .gone, .gone, .gone, .gone, .gone, .gone, .gone, .gone], [.box 42 (.pair (.int .i64) (.pair (.int .i64) (.pair (.int .i64) (.pair (.int .i64) (.pair (.sl 2 (.int .i64)) (.int .i64)))))) (.dat (.pair (.int .i64) (.pair (.int .i64) (.pair (.int .i64) (.pair (.int .i64) (.pair (.sl 2 (.int .i64)) (.int .i64)))))) p1)]⟩
def impl_IsPermit.con : Con := { ps := [(.val, (.pair (.int .i64) (.pair (.int .i64) (.pair (.int .i64) (.pair (.int .i64) (.pair (.sl 2 (.int .i64)) (.int .i64)))))))], rs := [(.val, .bool)], F := fun x => impl_IsPermit.f x }
def impl_IsPermit.cs : List (FuncId × Con) := [(70, impl_within.con), (82, impl_isDay.con), (94, impl_isCalibre.con), (95, impl_allWithin.con)]
def impl_IsPermit.E : Env := envOf tab impl_IsPermit.cs 0 false
def impl_IsPermit.keep (i : Nat) : List Nat := if i = 4 then [1, 3] else []
def impl_IsPermit.at4 (n : Nat) (x : Int × Int × Int × Int × List Int × Int) : Code × (Ex → St → Option (Bool)) := ctx impl_IsPermit.E impl_IsPermit.keep n [.snd, .snd, .fst, .snd, .blk] (codeOf Try.f52) (kEnd impl_IsPermit.E Try.f52 impl_IsPermit.con x)
def impl_IsPermit.LN4 (n : Nat) (x : Int × Int × Int × Int × List Int × Int) : Nat → St → Option (Bool) := loopN (exec impl_IsPermit.E impl_IsPermit.keep n (bodyOf (impl_IsPermit.at4 n x).1)) (St.norm 0 (impl_IsPermit.keep 4)) (impl_IsPermit.at4 n x).2
set_option maxRecDepth 100000 in
theorem impl_IsPermit.lem4 (n : Nat) (x : Int × Int × Int × Int × List Int × Int) : ∀ (k : Nat) (i3 : Int) (p1 : Int × Int × Int × Int × List Int × Int), impl_IsPermit.LN4 n x k (impl_IsPermit.st4 i3 p1) = impl_IsPermit.l4 n k i3 p1 := by
  intro k
  induction k with
  | zero => intro i3 p1; rfl
  | succ k ih =>
    intro i3 p1
    have h : impl_IsPermit.LN4 n x (k + 1) (impl_IsPermit.st4 i3 p1) = impl_IsPermit.g4 (fun i3 p1 => impl_IsPermit.LN4 n x k (impl_IsPermit.st4 i3 p1)) i3 p1 := by kernel_rfl
    rw [h]
    simp only [ih]
    rfl
set_option maxRecDepth 100000 in
theorem impl_IsPermit.body (n : Nat) (x : Int × Int × Int × Int × List Int × Int) : bodyF impl_IsPermit.E impl_IsPermit.keep n Try.f52 impl_IsPermit.con x = impl_IsPermit.fn n x := by
  have h : bodyF impl_IsPermit.E impl_IsPermit.keep n Try.f52 impl_IsPermit.con x = impl_IsPermit.top (fun i3 p1 => impl_IsPermit.LN4 n x n (impl_IsPermit.st4 i3 p1)) x := by kernel_rfl
  rw [h]
  simp only [impl_IsPermit.lem4]
  rfl
set_option maxRecDepth 100000 in
theorem impl_IsPermit.good : Good Try.prog 52 impl_IsPermit.con :=
  good_of tabok (cs := impl_IsPermit.cs) ⟨impl_within.good, impl_isDay.good, impl_isCalibre.good, impl_allWithin.good, trivial⟩ 0 false (fn := Try.f52) Try.func52 rfl (by decide) (by simp [impl_IsPermit.con]) impl_IsPermit.keep NN (fun _ => rfl) (fun x => impl_IsPermit.body NN x)
end
end Go.Ev.Try

namespace Go.Ev.Try
open Go.Proofs Go.Pl
set_option linter.unusedVariables false
noncomputable section
def impl_IsWord.st4 (s0 : ByteArray) (i3 : Int) : St := ⟨[.dat .str s0, .gone, .gone, .dat (.int .i64) i3, .gone, .gone, .gone, .gone, .gone, .gone, .gone, .gone, .gone, .gone, .gone, .gone, .gone, .gone, .gone, .gone, .gone, .gone, .gone, .gone, .gone, .gone, .gone, .gone], []⟩
def impl_IsWord.con : Con := { ps := [(.val, .str)], rs := [(.val, .bool)], F := fun x => impl_IsWord.f x }
def impl_IsWord.cs : List (FuncId × Con) := []
def impl_IsWord.E : Env := envOf tab impl_IsWord.cs 0 false
def impl_IsWord.keep (i : Nat) : List Nat := if i = 4 then [0, 3] else []
def impl_IsWord.at4 (n : Nat) (x : ByteArray) : Code × (Ex → St → Option (Bool)) := ctx impl_IsWord.E impl_IsWord.keep n [.snd, .snd, .fst, .snd, .blk] (codeOf Try.f110) (kEnd impl_IsWord.E Try.f110 impl_IsWord.con x)
def impl_IsWord.LN4 (n : Nat) (x : ByteArray) : Nat → St → Option (Bool) := loopN (exec impl_IsWord.E impl_IsWord.keep n (bodyOf (impl_IsWord.at4 n x).1)) (St.norm 0 (impl_IsWord.keep 4)) (impl_IsWord.at4 n x).2
set_option maxRecDepth 100000 in
theorem impl_IsWord.lem4 (n : Nat) (x : ByteArray) : ∀ (k : Nat) (s0 : ByteArray) (i3 : Int), impl_IsWord.LN4 n x k (impl_IsWord.st4 s0 i3) = impl_IsWord.l4 n k s0 i3 := by
  intro k
  induction k with
  | zero => intro s0 i3; rfl
  | succ k ih =>
    intro s0 i3
    have h : impl_IsWord.LN4 n x (k + 1) (impl_IsWord.st4 s0 i3) = impl_IsWord.g4 (fun s0 i3 => impl_IsWord.LN4 n x k (impl_IsWord.st4 s0 i3)) s0 i3 := by kernel_rfl
    rw [h]
    simp only [ih]
    rfl
set_option maxRecDepth 100000 in
theorem impl_IsWord.body (n : Nat) (x : ByteArray) : bodyF impl_IsWord.E impl_IsWord.keep n Try.f110 impl_IsWord.con x = impl_IsWord.fn n x := by
  have h : bodyF impl_IsWord.E impl_IsWord.keep n Try.f110 impl_IsWord.con x = impl_IsWord.top (fun s0 i3 => impl_IsWord.LN4 n x n (impl_IsWord.st4 s0 i3)) x := by kernel_rfl
  rw [h]
  simp only [impl_IsWord.lem4]
  rfl
set_option maxRecDepth 100000 in
theorem impl_IsWord.good : Good Try.prog 110 impl_IsWord.con :=
  good_of tabok (cs := impl_IsWord.cs) trivial 0 false (fn := Try.f110) Try.func110 rfl (by decide) (by simp [impl_IsWord.con]) impl_IsWord.keep NN (fun _ => rfl) (fun x => impl_IsWord.body NN x)
end
end Go.Ev.Try

namespace Go.Ev.Try
open Go.Proofs Go.Pl
set_option linter.unusedVariables false
noncomputable section
def impl_IsArticle.con : Con := { ps := [(.val, (.pair .str (.pair (.int .i64) (.pair (.int .i64) (.pair (.int .i64) (.pair (.int .i64) (.pair (.int .i64) (.pair (.int .i64) (.pair (.int .i64) (.int .i64))))))))))], rs := [(.val, .bool)], F := fun x => impl_IsArticle.f x }
def impl_IsArticle.cs : List (FuncId × Con) := [(70, impl_within.con), (110, impl_IsWord.con)]
def impl_IsArticle.E : Env := envOf tab impl_IsArticle.cs 0 false
def impl_IsArticle.keep (i : Nat) : List Nat := []
set_option maxRecDepth 100000 in
theorem impl_IsArticle.body (n : Nat) (x : ByteArray × Int × Int × Int × Int × Int × Int × Int × Int) : bodyF impl_IsArticle.E impl_IsArticle.keep n Try.f102 impl_IsArticle.con x = impl_IsArticle.fn n x := by
  have h : bodyF impl_IsArticle.E impl_IsArticle.keep n Try.f102 impl_IsArticle.con x = impl_IsArticle.top x := by kernel_rfl
  exact h
set_option maxRecDepth 100000 in
theorem impl_IsArticle.good : Good Try.prog 102 impl_IsArticle.con :=
  good_of tabok (cs := impl_IsArticle.cs) ⟨impl_within.good, impl_IsWord.good, trivial⟩ 0 false (fn := Try.f102) Try.func102 rfl (by decide) (by simp [impl_IsArticle.con]) impl_IsArticle.keep NN (fun _ => rfl) (fun x => impl_IsArticle.body NN x)
end
end Go.Ev.Try

namespace Go.Ev.Try
open Go.Proofs Go.Pl
set_option linter.unusedVariables false
noncomputable section
def impl_AreArticles.st4 (list0 : List (ByteArray × Int × Int × Int × Int × Int × Int × Int × Int)) (v8 : List (ByteArray × Int × Int × Int × Int × Int × Int × Int × Int)) (v9 : Int) (v10 : Int) : St := ⟨[.dat (.sl 95 (.pair .str (.pair (.int .i64) (.pair (.int .i64) (.pair (.int .i64) (.pair (.int .i64) (.pair (.int .i64) (.pair (.int .i64) (.pair (.int .i64) (.int .i64)))))))))) list0, .gone, .gone, .gone, .gone, .gone, .gone, .gone, .dat (.sl 95 (.pair .str (.pair (.int .i64) (.pair (.int .i64) (.pair (.int .i64) (.pair (.int .i64) (.pair (.int .i64) (.pair (.int .i64) (.pair (.int .i64) (.int .i64)))))))))) v8, .dat (.int .i64) v9, .dat (.int .i64) v10, .gone, .gone, .gone, .gone, .gone, .gone, .gone, .gone, .gone, .gone, .gone, .gone, .gone, .gone, .gone, .gone, .gone, .gone, .gone, .gone, .gone, .gone, .gone], []⟩
def impl_AreArticles.con : Con := { ps := [(.val, (.sl 95 (.pair .str (.pair (.int .i64) (.pair (.int .i64) (.pair (.int .i64) (.pair (.int .i64) (.pair (.int .i64) (.pair (.int .i64) (.pair (.int .i64) (.int .i64)))))))))))], rs := [(.val, .bool)], F := fun x => impl_AreArticles.f x }
def impl_AreArticles.cs : List (FuncId × Con) := [(102, impl_IsArticle.con)]
def impl_AreArticles.E : Env := envOf tab impl_AreArticles.cs 0 false
def impl_AreArticles.keep (i : Nat) : List Nat := if i = 4 then [0, 8, 9, 10] else []
def impl_AreArticles.at4 (n : Nat) (x : List (ByteArray × Int × Int × Int × Int × Int × Int × Int × Int)) : Code × (Ex → St → Option (Bool)) := ctx impl_AreArticles.E impl_AreArticles.keep n [.snd, .snd, .fst, .snd, .blk] (codeOf Try.f80) (kEnd impl_AreArticles.E Try.f80 impl_AreArticles.con x)
def impl_AreArticles.LN4 (n : Nat) (x : List (ByteArray × Int × Int × Int × Int × Int × Int × Int × Int)) : Nat → St → Option (Bool) := loopN (exec impl_AreArticles.E impl_AreArticles.keep n (bodyOf (impl_AreArticles.at4 n x).1)) (St.norm 0 (impl_AreArticles.keep 4)) (impl_AreArticles.at4 n x).2
set_option maxRecDepth 100000 in
theorem impl_AreArticles.lem4 (n : Nat) (x : List (ByteArray × Int × Int × Int × Int × Int × Int × Int × Int)) : ∀ (k : Nat) (list0 : List (ByteArray × Int × Int × Int × Int × Int × Int × Int × Int)) (v8 : List (ByteArray × Int × Int × Int × Int × Int × Int × Int × Int)) (v9 : Int) (v10 : Int), impl_AreArticles.LN4 n x k (impl_AreArticles.st4 list0 v8 v9 v10) = impl_AreArticles.l4 n k list0 v8 v9 v10 := by
  intro k
  induction k with
  | zero => intro list0 v8 v9 v10; rfl
  | succ k ih =>
    intro list0 v8 v9 v10
    have h : impl_AreArticles.LN4 n x (k + 1) (impl_AreArticles.st4 list0 v8 v9 v10) = impl_AreArticles.g4 (fun list0 v8 v9 v10 => impl_AreArticles.LN4 n x k (impl_AreArticles.st4 list0 v8 v9 v10)) list0 v8 v9 v10 := by kernel_rfl
    rw [h]
    simp only [ih]
    rfl
set_option maxRecDepth 100000 in
theorem impl_AreArticles.body (n : Nat) (x : List (ByteArray × Int × Int × Int × Int × Int × Int × Int × Int)) : bodyF impl_AreArticles.E impl_AreArticles.keep n Try.f80 impl_AreArticles.con x = impl_AreArticles.fn n x := by
  have h : bodyF impl_AreArticles.E impl_AreArticles.keep n Try.f80 impl_AreArticles.con x = impl_AreArticles.top (fun list0 v8 v9 v10 => impl_AreArticles.LN4 n x n (impl_AreArticles.st4 list0 v8 v9 v10)) x := by kernel_rfl
  rw [h]
  simp only [impl_AreArticles.lem4]
  rfl
set_option maxRecDepth 100000 in
theorem impl_AreArticles.good : Good Try.prog 80 impl_AreArticles.con :=
  good_of tabok (cs := impl_AreArticles.cs) ⟨impl_IsArticle.good, trivial⟩ 0 false (fn := Try.f80) Try.func80 rfl (by decide) (by simp [impl_AreArticles.con]) impl_AreArticles.keep NN (fun _ => rfl) (fun x => impl_AreArticles.body NN x)
end
end Go.Ev.Try

namespace Go.Ev.Try
open Go.Proofs Go.Pl
set_option linter.unusedVariables false
noncomputable section
def impl_areCounts.con : Con := { ps := [(.val, (.sl 95 (.pair .str (.pair (.int .i64) (.pair (.int .i64) (.pair (.int .i64) (.pair (.int .i64) (.pair (.int .i64) (.pair (.int .i64) (.pair (.int .i64) (.int .i64))))))))))), (.val, (.sl 2 (.int .i64)))], rs := [(.val, .bool)], F := fun x => impl_areCounts.f x.1 x.2 }
def impl_areCounts.cs : List (FuncId × Con) := [(95, impl_allWithin.con)]
def impl_areCounts.E : Env := envOf tab impl_areCounts.cs 0 false
def impl_areCounts.keep (i : Nat) : List Nat := []
set_option maxRecDepth 100000 in
theorem impl_areCounts.body (n : Nat) (x : (List (ByteArray × Int × Int × Int × Int × Int × Int × Int × Int)) × List Int) : bodyF impl_areCounts.E impl_areCounts.keep n Try.f81 impl_areCounts.con x = impl_areCounts.fn n x.1 x.2 := by
  have h : bodyF impl_areCounts.E impl_areCounts.keep n Try.f81 impl_areCounts.con x = impl_areCounts.top x.1 x.2 := by kernel_rfl
  exact h
set_option maxRecDepth 100000 in
theorem impl_areCounts.good : Good Try.prog 81 impl_areCounts.con :=
  good_of tabok (cs := impl_areCounts.cs) ⟨impl_allWithin.good, trivial⟩ 0 false (fn := Try.f81) Try.func81 rfl (by decide) (by simp [impl_areCounts.con]) impl_areCounts.keep NN (fun _ => rfl) (fun x => impl_areCounts.body NN x)
end
end Go.Ev.Try

namespace Go.Ev.Try
open Go.Proofs Go.Pl
set_option linter.unusedVariables false
noncomputable section
def impl_orderNet.st3 (counts1 : List Int) (sum5 : Int) (v8 : List (ByteArray × Int × Int × Int × Int × Int × Int × Int × Int)) (v9 : Int) (v10 : Int) : St := ⟨[.gone, .dat (.sl 2 (.int .i64)) counts1, .gone, .gone, .gone, .dat (.int .i64) sum5, .gone, .gone, .dat (.sl 95 (.pair .str (.pair (.int .i64) (.pair (.int .i64) (.pair (.int .i64) (.pair (.int .i64) (.pair (.int .i64) (.pair (.int .i64) (.pair (.int .i64) (.int .i64)))))))))) v8, .dat (.int .i64) v9, .dat (.int .i64) v10, .gone, .gone, .gone, .gone, .gone, .gone, .gone, .gone, .gone, .gone, .gone, .gone, .gone, .gone, .gone], []⟩
def impl_orderNet.con : Con := { ps := [(.val, (.sl 95 (.pair .str (.pair (.int .i64) (.pair (.int .i64) (.pair (.int .i64) (.pair (.int .i64) (.pair (.int .i64) (.pair (.int .i64) (.pair (.int .i64) (.int .i64))))))))))), (.val, (.sl 2 (.int .i64)))], rs := [(.val, (.int .i64))], F := fun x => impl_orderNet.f x.1 x.2 }
def impl_orderNet.cs : List (FuncId × Con) := []
def impl_orderNet.E : Env := envOf tab impl_orderNet.cs 0 false
def impl_orderNet.keep (i : Nat) : List Nat := if i = 3 then [1, 5, 8, 9, 10] else []
def impl_orderNet.at3 (n : Nat) (x : (List (ByteArray × Int × Int × Int × Int × Int × Int × Int × Int)) × List Int) : Code × (Ex → St → Option (Int)) := ctx impl_orderNet.E impl_orderNet.keep n [.snd, .snd, .fst, .snd, .blk] (codeOf Try.f86) (kEnd impl_orderNet.E Try.f86 impl_orderNet.con x)
def impl_orderNet.LN3 (n : Nat) (x : (List (ByteArray × Int × Int × Int × Int × Int × Int × Int × Int)) × List Int) : Nat → St → Option (Int) := loopN (exec impl_orderNet.E impl_orderNet.keep n (bodyOf (impl_orderNet.at3 n x).1)) (St.norm 0 (impl_orderNet.keep 3)) (impl_orderNet.at3 n x).2
set_option maxRecDepth 100000 in
theorem impl_orderNet.lem3 (n : Nat) (x : (List (ByteArray × Int × Int × Int × Int × Int × Int × Int × Int)) × List Int) : ∀ (k : Nat) (counts1 : List Int) (sum5 : Int) (v8 : List (ByteArray × Int × Int × Int × Int × Int × Int × Int × Int)) (v9 : Int) (v10 : Int), impl_orderNet.LN3 n x k (impl_orderNet.st3 counts1 sum5 v8 v9 v10) = impl_orderNet.l3 n k counts1 sum5 v8 v9 v10 := by
  intro k
  induction k with
  | zero => intro counts1 sum5 v8 v9 v10; rfl
  | succ k ih =>
    intro counts1 sum5 v8 v9 v10
    have h : impl_orderNet.LN3 n x (k + 1) (impl_orderNet.st3 counts1 sum5 v8 v9 v10) = impl_orderNet.g3 (fun counts1 sum5 v8 v9 v10 => impl_orderNet.LN3 n x k (impl_orderNet.st3 counts1 sum5 v8 v9 v10)) counts1 sum5 v8 v9 v10 := by kernel_rfl
    rw [h]
    simp only [ih]
    rfl
set_option maxRecDepth 100000 in
theorem impl_orderNet.body (n : Nat) (x : (List (ByteArray × Int × Int × Int × Int × Int × Int × Int × Int)) × List Int) : bodyF impl_orderNet.E impl_orderNet.keep n Try.f86 impl_orderNet.con x = impl_orderNet.fn n x.1 x.2 := by
  have h : bodyF impl_orderNet.E impl_orderNet.keep n Try.f86 impl_orderNet.con x = impl_orderNet.top (fun counts1 sum5 v8 v9 v10 => impl_orderNet.LN3 n x n (impl_orderNet.st3 counts1 sum5 v8 v9 v10)) x.1 x.2 := by kernel_rfl
  rw [h]
  simp only [impl_orderNet.lem3]
  rfl
set_option maxRecDepth 100000 in
theorem impl_orderNet.good : Good Try.prog 86 impl_orderNet.con :=
  good_of tabok (cs := impl_orderNet.cs) trivial 0 false (fn := Try.f86) Try.func86 rfl (by decide) (by simp [impl_orderNet.con]) impl_orderNet.keep NN (fun _ => rfl) (fun x => impl_orderNet.body NN x)
end
end Go.Ev.Try

namespace Go.Ev.Try
open Go.Proofs Go.Pl
set_option linter.unusedVariables false
noncomputable section
def impl_bit.con : Con := { ps := [(.val, .bool), (.val, (.int .i64))], rs := [(.val, (.int .i64))], F := fun x => impl_bit.f x.1 x.2 }
def impl_bit.cs : List (FuncId × Con) := []
def impl_bit.E : Env := envOf tab impl_bit.cs 0 false
def impl_bit.keep (i : Nat) : List Nat := []
set_option maxRecDepth 100000 in
theorem impl_bit.body (n : Nat) (x : Bool × Int) : bodyF impl_bit.E impl_bit.keep n Try.f103 impl_bit.con x = impl_bit.fn n x.1 x.2 := by
  have h : bodyF impl_bit.E impl_bit.keep n Try.f103 impl_bit.con x = impl_bit.top x.1 x.2 := by kernel_rfl
  exact h
set_option maxRecDepth 100000 in
theorem impl_bit.good : Good Try.prog 103 impl_bit.con :=
  good_of tabok (cs := impl_bit.cs) trivial 0 false (fn := Try.f103) Try.func103 rfl (by decide) (by simp [impl_bit.con]) impl_bit.keep NN (fun _ => rfl) (fun x => impl_bit.body NN x)
end
end Go.Ev.Try

namespace Go.Ev.Try
open Go.Proofs Go.Pl
set_option linter.unusedVariables false
noncomputable section
def impl_refusalsOf.st10 (counts2 : List Int) (kind12 : Bool) (v30 : List (ByteArray × Int × Int × Int × Int × Int × Int × Int × Int)) (v31 : Int) (v32 : Int) (v43 : List Int) (v44 : Int) (v45 : Int) (p4 : Int × Int × Int × Int × List Int × Int) (has9 : List Bool) (a11 : ByteArray × Int × Int × Int × Int × Int × Int × Int × Int) : St := ⟨[.gone, .gone, .dat (.sl 2 (.int .i64)) counts2, .gone, .ptr 0 [], .gone, .gone, .gone, .gone, .ptr 1 [], .gone, .ptr 2 [], .dat .bool kind12, .gone, .gone, .gone, .gone, .gone, .gone, .gone, .gone, .gone, .gone, .gone, .gone, .gone, .gone, .gone, .gone, .gone, .dat (.sl 95 (.pair .str (.pair (.int .i64) (.pair (.int .i64) (.pair (.int .i64) (.pair (.int .i64) (.pair (.int .i64) (.pair (.int .i64) (.pair (.int .i64) (.int .i64)))))))))) v30, .dat (.int .i64) v31, .dat (.int .i64) v32, .gone, .gone, .gone, .gone, .gone, .gone, .gone, .gone, .gone, .gone, .dat (.sl 2 (.int .i64)) v43, .dat (.int .i64) v44, .dat (.int .i64) v45, .gone, .gone, .gone, .gone, .gone, .gone, .gone, .gone, .gone, .gone, .gone, .gone, .gone, .gone, .gone, .gone, .gone, .gone, .gone, .gone, .gone, .gone, .gone, .gone, .gone, .gone, .gone, .gone, .gone, .gone, .gone, .gone, .gone, .gone, .gone, .gone, .gone, .gone, .gone, .gone, .gone, .gone, .gone, .gone, .gone, .gone, .gone, .gone, .gone, .gone, .gone, .gone, .gone, .gone, .gone, .gone, .gone, .gone], [.box 42 (.pair (.int .i64) (.pair (.int .i64) (.pair (.int .i64) (.pair (.int .i64) (.pair (.sl 2 (.int .i64)) (.int .i64)))))) (.dat (.pair (.int .i64) (.pair (.int .i64) (.pair (.int .i64) (.pair (.int .i64) (.pair (.sl 2 (.int .i64)) (.int .i64)))))) p4), .box 117 (.arr 5 .bool) (.dat (.arr 5 .bool) has9), .box 95 (.pair .str (.pair (.int .i64) (.pair (.int .i64) (.pair (.int .i64) (.pair (.int .i64) (.pair (.int .i64) (.pair (.int .i64) (.pair (.int .i64) (.int .i64))))))))) (.dat (.pair .str (.pair (.int .i64) (.pair (.int .i64) (.pair (.int .i64) (.pair (.int .i64) (.pair (.int .i64) (.pair (.int .i64) (.pair (.int .i64) (.int .i64))))))))) a11)]⟩
def impl_refusalsOf.st5 (counts2 : List Int) (v30 : List (ByteArray × Int × Int × Int × Int × Int × Int × Int × Int)) (v31 : Int) (v32 : Int) (p4 : Int × Int × Int × Int × List Int × Int) (has9 : List Bool) : St := ⟨[.gone, .gone, .dat (.sl 2 (.int .i64)) counts2, .gone, .ptr 0 [], .gone, .gone, .gone, .gone, .ptr 1 [], .gone, .gone, .gone, .gone, .gone, .gone, .gone, .gone, .gone, .gone, .gone, .gone, .gone, .gone, .gone, .gone, .gone, .gone, .gone, .gone, .dat (.sl 95 (.pair .str (.pair (.int .i64) (.pair (.int .i64) (.pair (.int .i64) (.pair (.int .i64) (.pair (.int .i64) (.pair (.int .i64) (.pair (.int .i64) (.int .i64)))))))))) v30, .dat (.int .i64) v31, .dat (.int .i64) v32, .gone, .gone, .gone, .gone, .gone, .gone, .gone, .gone, .gone, .gone, .gone, .gone, .gone, .gone, .gone, .gone, .gone, .gone, .gone, .gone, .gone, .gone, .gone, .gone, .gone, .gone, .gone, .gone, .gone, .gone, .gone, .gone, .gone, .gone, .gone, .gone, .gone, .gone, .gone, .gone, .gone, .gone, .gone, .gone, .gone, .gone, .gone, .gone, .gone, .gone, .gone, .gone, .gone, .gone, .gone, .gone, .gone, .gone, .gone, .gone, .gone, .gone, .gone, .gone, .gone, .gone, .gone, .gone, .gone, .gone, .gone], [.box 42 (.pair (.int .i64) (.pair (.int .i64) (.pair (.int .i64) (.pair (.int .i64) (.pair (.sl 2 (.int .i64)) (.int .i64)))))) (.dat (.pair (.int .i64) (.pair (.int .i64) (.pair (.int .i64) (.pair (.int .i64) (.pair (.sl 2 (.int .i64)) (.int .i64)))))) p4), .box 117 (.arr 5 .bool) (.dat (.arr 5 .bool) has9)]⟩
def impl_refusalsOf.con : Con := { ps := [(.val, (.pair (.int .i64) (.pair (.int .i64) (.pair (.int .i64) (.pair (.int .i64) (.pair (.sl 2 (.int .i64)) (.int .i64))))))), (.val, (.sl 95 (.pair .str (.pair (.int .i64) (.pair (.int .i64) (.pair (.int .i64) (.pair (.int .i64) (.pair (.int .i64) (.pair (.int .i64) (.pair (.int .i64) (.int .i64))))))))))), (.val, (.sl 2 (.int .i64))), (.val, (.int .i64))], rs := [(.val, (.int .i64))], F := fun x => impl_refusalsOf.f x.1 x.2.1 x.2.2.1 x.2.2.2 }
def impl_refusalsOf.cs : List (FuncId × Con) := [(70, impl_within.con), (86, impl_orderNet.con), (103, impl_bit.con)]
def impl_refusalsOf.E : Env := envOf tab impl_refusalsOf.cs 0 false
def impl_refusalsOf.keep (i : Nat) : List Nat := if i = 10 then [2, 4, 9, 11, 12, 30, 31, 32, 43, 44, 45] else if i = 5 then [2, 4, 9, 30, 31, 32] else []
def impl_refusalsOf.at10 (n : Nat) (x : (Int × Int × Int × Int × List Int × Int) × (List (ByteArray × Int × Int × Int × Int × Int × Int × Int × Int)) × List Int × Int) (M5 : St → Option (Int)) : Code × (Ex → St → Option (Int)) := ctx impl_refusalsOf.E impl_refusalsOf.keep n [.snd, .snd, .snd, .snd, .fst, .snd, .blk, .rd M5, .snd, .snd, .fst, .blk, .snd, .snd, .snd, .fst, .snd, .blk] (codeOf Try.f83) (kEnd impl_refusalsOf.E Try.f83 impl_refusalsOf.con x)
def impl_refusalsOf.LN10 (n : Nat) (x : (Int × Int × Int × Int × List Int × Int) × (List (ByteArray × Int × Int × Int × Int × Int × Int × Int × Int)) × List Int × Int) (M5 : St → Option (Int)) : Nat → St → Option (Int) := loopN (exec impl_refusalsOf.E impl_refusalsOf.keep n (bodyOf (impl_refusalsOf.at10 n x M5).1)) (St.norm 0 (impl_refusalsOf.keep 10)) (impl_refusalsOf.at10 n x M5).2
def impl_refusalsOf.at5 (n : Nat) (x : (Int × Int × Int × Int × List Int × Int) × (List (ByteArray × Int × Int × Int × Int × Int × Int × Int × Int)) × List Int × Int) : Code × (Ex → St → Option (Int)) := ctx impl_refusalsOf.E impl_refusalsOf.keep n [.snd, .snd, .snd, .snd, .fst, .snd, .blk] (codeOf Try.f83) (kEnd impl_refusalsOf.E Try.f83 impl_refusalsOf.con x)
def impl_refusalsOf.LN5 (n : Nat) (x : (Int × Int × Int × Int × List Int × Int) × (List (ByteArray × Int × Int × Int × Int × Int × Int × Int × Int)) × List Int × Int) : Nat → St → Option (Int) := loopN (exec impl_refusalsOf.E impl_refusalsOf.keep n (bodyOf (impl_refusalsOf.at5 n x).1)) (St.norm 0 (impl_refusalsOf.keep 5)) (impl_refusalsOf.at5 n x).2
set_option maxRecDepth 100000 in
theorem impl_refusalsOf.lem10 (n : Nat) (x : (Int × Int × Int × Int × List Int × Int) × (List (ByteArray × Int × Int × Int × Int × Int × Int × Int × Int)) × List Int × Int) (M5 : St → Option (Int)) : ∀ (k : Nat) (counts2 : List Int) (kind12 : Bool) (v30 : List (ByteArray × Int × Int × Int × Int × Int × Int × Int × Int)) (v31 : Int) (v32 : Int) (v43 : List Int) (v44 : Int) (v45 : Int) (p4 : Int × Int × Int × Int × List Int × Int) (has9 : List Bool) (a11 : ByteArray × Int × Int × Int × Int × Int × Int × Int × Int), impl_refusalsOf.LN10 n x M5 k (impl_refusalsOf.st10 counts2 kind12 v30 v31 v32 v43 v44 v45 p4 has9 a11) = impl_refusalsOf.l10 n (fun counts2 v30 v31 v32 p4 has9 => M5 (impl_refusalsOf.st5 counts2 v30 v31 v32 p4 has9)) k counts2 kind12 v30 v31 v32 v43 v44 v45 p4 has9 a11 := by
  intro k
  induction k with
  | zero => intro counts2 kind12 v30 v31 v32 v43 v44 v45 p4 has9 a11; rfl
  | succ k ih =>
    intro counts2 kind12 v30 v31 v32 v43 v44 v45 p4 has9 a11
    have h : impl_refusalsOf.LN10 n x M5 (k + 1) (impl_refusalsOf.st10 counts2 kind12 v30 v31 v32 v43 v44 v45 p4 has9 a11) = impl_refusalsOf.g10 (fun counts2 v30 v31 v32 p4 has9 => M5 (impl_refusalsOf.st5 counts2 v30 v31 v32 p4 has9)) (fun counts2 kind12 v30 v31 v32 v43 v44 v45 p4 has9 a11 => impl_refusalsOf.LN10 n x M5 k (impl_refusalsOf.st10 counts2 kind12 v30 v31 v32 v43 v44 v45 p4 has9 a11)) counts2 kind12 v30 v31 v32 v43 v44 v45 p4 has9 a11 := by kernel_rfl
    rw [h]
    simp only [ih]
    rfl
set_option maxRecDepth 100000 in
theorem impl_refusalsOf.lem5 (n : Nat) (x : (Int × Int × Int × Int × List Int × Int) × (List (ByteArray × Int × Int × Int × Int × Int × Int × Int × Int)) × List Int × Int) : ∀ (k : Nat) (counts2 : List Int) (v30 : List (ByteArray × Int × Int × Int × Int × Int × Int × Int × Int)) (v31 : Int) (v32 : Int) (p4 : Int × Int × Int × Int × List Int × Int) (has9 : List Bool), impl_refusalsOf.LN5 n x k (impl_refusalsOf.st5 counts2 v30 v31 v32 p4 has9) = impl_refusalsOf.l5 n k counts2 v30 v31 v32 p4 has9 := by
  intro k
  induction k with
  | zero => intro counts2 v30 v31 v32 p4 has9; rfl
  | succ k ih =>
    intro counts2 v30 v31 v32 p4 has9
    have h : impl_refusalsOf.LN5 n x (k + 1) (impl_refusalsOf.st5 counts2 v30 v31 v32 p4 has9) = impl_refusalsOf.g5 (fun counts2 kind12 v30 v31 v32 v43 v44 v45 p4 has9 a11 => impl_refusalsOf.LN10 n x (impl_refusalsOf.LN5 n x k) n (impl_refusalsOf.st10 counts2 kind12 v30 v31 v32 v43 v44 v45 p4 has9 a11)) (fun counts2 v30 v31 v32 p4 has9 => impl_refusalsOf.LN5 n x k (impl_refusalsOf.st5 counts2 v30 v31 v32 p4 has9)) counts2 v30 v31 v32 p4 has9 := by kernel_rfl
    rw [h]
    simp only [ih, impl_refusalsOf.lem10]
    rfl
set_option maxRecDepth 100000 in
theorem impl_refusalsOf.body (n : Nat) (x : (Int × Int × Int × Int × List Int × Int) × (List (ByteArray × Int × Int × Int × Int × Int × Int × Int × Int)) × List Int × Int) : bodyF impl_refusalsOf.E impl_refusalsOf.keep n Try.f83 impl_refusalsOf.con x = impl_refusalsOf.fn n x.1 x.2.1 x.2.2.1 x.2.2.2 := by
  have h : bodyF impl_refusalsOf.E impl_refusalsOf.keep n Try.f83 impl_refusalsOf.con x = impl_refusalsOf.top (fun counts2 v30 v31 v32 p4 has9 => impl_refusalsOf.LN5 n x n (impl_refusalsOf.st5 counts2 v30 v31 v32 p4 has9)) x.1 x.2.1 x.2.2.1 x.2.2.2 := by kernel_rfl
  rw [h]
  simp only [impl_refusalsOf.lem5]
  rfl
set_option maxRecDepth 100000 in
theorem impl_refusalsOf.good : Good Try.prog 83 impl_refusalsOf.con :=
  good_of tabok (cs := impl_refusalsOf.cs) ⟨impl_within.good, impl_orderNet.good, impl_bit.good, trivial⟩ 0 false (fn := Try.f83) Try.func83 rfl (by decide) (by simp [impl_refusalsOf.con]) impl_refusalsOf.keep NN (fun _ => rfl) (fun x => impl_refusalsOf.body NN x)
end
end Go.Ev.Try

namespace Go.Ev.Try
open Go.Proofs Go.Pl
set_option linter.unusedVariables false
noncomputable section
def impl_RefusalsOf.con : Con := { ps := [(.val, (.pair (.int .i64) (.pair (.int .i64) (.pair (.int .i64) (.pair (.int .i64) (.pair (.sl 2 (.int .i64)) (.int .i64))))))), (.val, (.sl 95 (.pair .str (.pair (.int .i64) (.pair (.int .i64) (.pair (.int .i64) (.pair (.int .i64) (.pair (.int .i64) (.pair (.int .i64) (.pair (.int .i64) (.int .i64))))))))))), (.val, (.sl 2 (.int .i64))), (.val, (.int .i64))], rs := [(.val, (.int .i64)), (.val, (.int .i64))], F := fun x => impl_RefusalsOf.f x.1 x.2.1 x.2.2.1 x.2.2.2 }
def impl_RefusalsOf.cs : List (FuncId × Con) := [(52, impl_IsPermit.con), (80, impl_AreArticles.con), (81, impl_areCounts.con), (82, impl_isDay.con), (83, impl_refusalsOf.con)]
def impl_RefusalsOf.E : Env := envOf tab impl_RefusalsOf.cs 0 false
def impl_RefusalsOf.keep (i : Nat) : List Nat := []
set_option maxRecDepth 100000 in
theorem impl_RefusalsOf.body (n : Nat) (x : (Int × Int × Int × Int × List Int × Int) × (List (ByteArray × Int × Int × Int × Int × Int × Int × Int × Int)) × List Int × Int) : bodyF impl_RefusalsOf.E impl_RefusalsOf.keep n Try.f34 impl_RefusalsOf.con x = impl_RefusalsOf.fn n x.1 x.2.1 x.2.2.1 x.2.2.2 := by
  have h : bodyF impl_RefusalsOf.E impl_RefusalsOf.keep n Try.f34 impl_RefusalsOf.con x = impl_RefusalsOf.top x.1 x.2.1 x.2.2.1 x.2.2.2 := by kernel_rfl
  exact h
set_option maxRecDepth 100000 in
theorem impl_RefusalsOf.good : Good Try.prog 34 impl_RefusalsOf.con :=
  good_of tabok (cs := impl_RefusalsOf.cs) ⟨impl_IsPermit.good, impl_AreArticles.good, impl_areCounts.good, impl_isDay.good, impl_refusalsOf.good, trivial⟩ 0 false (fn := Try.f34) Try.func34 rfl (by decide) (by simp [impl_RefusalsOf.con]) impl_RefusalsOf.keep NN (fun _ => rfl) (fun x => impl_RefusalsOf.body NN x)
end
end Go.Ev.Try

namespace Go.Ev.Try
open Go.Proofs Go.Pl
set_option linter.unusedVariables false
noncomputable section
def spec_l03Insert.st2 (n1 : Int) (at5 : Int) (list0 : List Int) : St := ⟨[.ref 0, .dat (.int .i64) n1, .gone, .gone, .gone, .dat (.int .i64) at5, .gone, .gone, .gone, .gone, .gone, .gone, .gone, .gone, .gone, .gone, .gone, .gone, .gone, .gone, .gone, .gone, .gone, .gone, .gone, .gone, .gone, .gone, .gone, .gone, .gone, .gone, .gone, .gone, .gone, .gone, .gone, .gone, .gone, .gone, .gone, .gone, .gone, .gone, .gone], [.row 2 (.int .i64) list0 none]⟩
def spec_l03Insert.g2raw (L2 : Int → Int → List Int → Option (List Int)) (n1 : Int) (at5 : Int) (list0 : List Int) : Option (List Int) :=
  if (decide ((at5 : Int) < (list0.length : Int))) = true then
    if (0 : Int) ≤ at5 ∧ (at5 : Int) < list0.length then
      if (decide (((list0.getD (at5 : Int).toNat 0) : Int) < n1)) = true then
        L2 n1 (IntKind.i64.wrap (at5 + 1)) list0
      else if (decide ((at5 : Int) < (list0.length : Int))) = true then
        if (0 : Int) ≤ at5 ∧ (at5 : Int) < list0.length then
          if (((list0.getD (at5 : Int).toNat 0) : Int) == n1) = true then
            some list0
          else if (0 : Int) ≤ at5 ∧ (at5 : Int) ≤ list0.length then
            if (0 : Int) ≤ at5 ∧ (at5 : Int) ≤ list0.length then
              agree (
                agree (
                  if ([] : List Int).length + (list0.take (at5 : Int).toNat).length < room 8 then
                    if (([] : List Int) ++ (list0.take (at5 : Int).toNat)).length + ([n1]).length < room 8 then
                      if ((([] : List Int) ++ (list0.take (at5 : Int).toNat)) ++ ([n1])).length + (list0.drop (at5 : Int).toNat).length < room 8 then
                        some (((([] : List Int) ++ (list0.take (at5 : Int).toNat)) ++ ([n1])) ++ (list0.drop (at5 : Int).toNat))
                      else
                        none
                    else
                      none
                  else
                    none
                ) (
                  if ([] : List Int).length + (list0.take (at5 : Int).toNat).length < room 8 then
                    if (([] : List Int) ++ (list0.take (at5 : Int).toNat)).length + ([n1]).length < room 8 then
                      if ((([] : List Int) ++ (list0.take (at5 : Int).toNat)) ++ ([n1])).length + (list0.drop (at5 : Int).toNat).length < room 8 then
                        some (((([] : List Int) ++ (list0.take (at5 : Int).toNat)) ++ ([n1])) ++ (list0.drop (at5 : Int).toNat))
                      else
                        none
                    else
                      none
                  else
                    none
                )
              ) (
                if ([] : List Int).length + (list0.take (at5 : Int).toNat).length < room 8 then
                  if (([] : List Int) ++ (list0.take (at5 : Int).toNat)).length + ([n1]).length < room 8 then
                    if ((([] : List Int) ++ (list0.take (at5 : Int).toNat)) ++ ([n1])).length + (list0.drop (at5 : Int).toNat).length < room 8 then
                      some (((([] : List Int) ++ (list0.take (at5 : Int).toNat)) ++ ([n1])) ++ (list0.drop (at5 : Int).toNat))
                    else
                      none
                  else
                    none
                else
                  none
              )
            else
              none
          else
            none
        else
          none
      else if (0 : Int) ≤ at5 ∧ (at5 : Int) ≤ list0.length then
        if (0 : Int) ≤ at5 ∧ (at5 : Int) ≤ list0.length then
          agree (
            agree (
              if ([] : List Int).length + (list0.take (at5 : Int).toNat).length < room 8 then
                if (([] : List Int) ++ (list0.take (at5 : Int).toNat)).length + ([n1]).length < room 8 then
                  if ((([] : List Int) ++ (list0.take (at5 : Int).toNat)) ++ ([n1])).length + (list0.drop (at5 : Int).toNat).length < room 8 then
                    some (((([] : List Int) ++ (list0.take (at5 : Int).toNat)) ++ ([n1])) ++ (list0.drop (at5 : Int).toNat))
                  else
                    none
                else
                  none
              else
                none
            ) (
              if ([] : List Int).length + (list0.take (at5 : Int).toNat).length < room 8 then
                if (([] : List Int) ++ (list0.take (at5 : Int).toNat)).length + ([n1]).length < room 8 then
                  if ((([] : List Int) ++ (list0.take (at5 : Int).toNat)) ++ ([n1])).length + (list0.drop (at5 : Int).toNat).length < room 8 then
                    some (((([] : List Int) ++ (list0.take (at5 : Int).toNat)) ++ ([n1])) ++ (list0.drop (at5 : Int).toNat))
                  else
                    none
                else
                  none
              else
                none
            )
          ) (
            if ([] : List Int).length + (list0.take (at5 : Int).toNat).length < room 8 then
              if (([] : List Int) ++ (list0.take (at5 : Int).toNat)).length + ([n1]).length < room 8 then
                if ((([] : List Int) ++ (list0.take (at5 : Int).toNat)) ++ ([n1])).length + (list0.drop (at5 : Int).toNat).length < room 8 then
                  some (((([] : List Int) ++ (list0.take (at5 : Int).toNat)) ++ ([n1])) ++ (list0.drop (at5 : Int).toNat))
                else
                  none
              else
                none
            else
              none
          )
        else
          none
      else
        none
    else
      none
  else if (decide ((at5 : Int) < (list0.length : Int))) = true then
    if (0 : Int) ≤ at5 ∧ (at5 : Int) < list0.length then
      if (((list0.getD (at5 : Int).toNat 0) : Int) == n1) = true then
        some list0
      else if (0 : Int) ≤ at5 ∧ (at5 : Int) ≤ list0.length then
        if (0 : Int) ≤ at5 ∧ (at5 : Int) ≤ list0.length then
          agree (
            agree (
              if ([] : List Int).length + (list0.take (at5 : Int).toNat).length < room 8 then
                if (([] : List Int) ++ (list0.take (at5 : Int).toNat)).length + ([n1]).length < room 8 then
                  if ((([] : List Int) ++ (list0.take (at5 : Int).toNat)) ++ ([n1])).length + (list0.drop (at5 : Int).toNat).length < room 8 then
                    some (((([] : List Int) ++ (list0.take (at5 : Int).toNat)) ++ ([n1])) ++ (list0.drop (at5 : Int).toNat))
                  else
                    none
                else
                  none
              else
                none
            ) (
              if ([] : List Int).length + (list0.take (at5 : Int).toNat).length < room 8 then
                if (([] : List Int) ++ (list0.take (at5 : Int).toNat)).length + ([n1]).length < room 8 then
                  if ((([] : List Int) ++ (list0.take (at5 : Int).toNat)) ++ ([n1])).length + (list0.drop (at5 : Int).toNat).length < room 8 then
                    some (((([] : List Int) ++ (list0.take (at5 : Int).toNat)) ++ ([n1])) ++ (list0.drop (at5 : Int).toNat))
                  else
                    none
                else
                  none
              else
                none
            )
          ) (
            if ([] : List Int).length + (list0.take (at5 : Int).toNat).length < room 8 then
              if (([] : List Int) ++ (list0.take (at5 : Int).toNat)).length + ([n1]).length < room 8 then
                if ((([] : List Int) ++ (list0.take (at5 : Int).toNat)) ++ ([n1])).length + (list0.drop (at5 : Int).toNat).length < room 8 then
                  some (((([] : List Int) ++ (list0.take (at5 : Int).toNat)) ++ ([n1])) ++ (list0.drop (at5 : Int).toNat))
                else
                  none
              else
                none
            else
              none
          )
        else
          none
      else
        none
    else
      none
  else if (0 : Int) ≤ at5 ∧ (at5 : Int) ≤ list0.length then
    if (0 : Int) ≤ at5 ∧ (at5 : Int) ≤ list0.length then
      agree (
        agree (
          if ([] : List Int).length + (list0.take (at5 : Int).toNat).length < room 8 then
            if (([] : List Int) ++ (list0.take (at5 : Int).toNat)).length + ([n1]).length < room 8 then
              if ((([] : List Int) ++ (list0.take (at5 : Int).toNat)) ++ ([n1])).length + (list0.drop (at5 : Int).toNat).length < room 8 then
                some (((([] : List Int) ++ (list0.take (at5 : Int).toNat)) ++ ([n1])) ++ (list0.drop (at5 : Int).toNat))
              else
                none
            else
              none
          else
            none
        ) (
          if ([] : List Int).length + (list0.take (at5 : Int).toNat).length < room 8 then
            if (([] : List Int) ++ (list0.take (at5 : Int).toNat)).length + ([n1]).length < room 8 then
              if ((([] : List Int) ++ (list0.take (at5 : Int).toNat)) ++ ([n1])).length + (list0.drop (at5 : Int).toNat).length < room 8 then
                some (((([] : List Int) ++ (list0.take (at5 : Int).toNat)) ++ ([n1])) ++ (list0.drop (at5 : Int).toNat))
              else
                none
            else
              none
          else
            none
        )
      ) (
        if ([] : List Int).length + (list0.take (at5 : Int).toNat).length < room 8 then
          if (([] : List Int) ++ (list0.take (at5 : Int).toNat)).length + ([n1]).length < room 8 then
            if ((([] : List Int) ++ (list0.take (at5 : Int).toNat)) ++ ([n1])).length + (list0.drop (at5 : Int).toNat).length < room 8 then
              some (((([] : List Int) ++ (list0.take (at5 : Int).toNat)) ++ ([n1])) ++ (list0.drop (at5 : Int).toNat))
            else
              none
          else
            none
        else
          none
      )
    else
      none
  else
    none
theorem spec_l03Insert.g2raw_eq (L2 : Int → Int → List Int → Option (List Int)) (n1 : Int) (at5 : Int) (list0 : List Int) : spec_l03Insert.g2raw L2 n1 at5 list0 = spec_l03Insert.g2 L2 n1 at5 list0 := by
  unfold spec_l03Insert.g2raw spec_l03Insert.g2
  simp only [agree_self]
def spec_l03Insert.con : Con := { ps := [(.own, (.sl 2 (.int .i64))), (.val, (.int .i64))], rs := [(.own, (.sl 2 (.int .i64)))], gv := true, F := fun x => spec_l03Insert.f x.1 x.2 }
def spec_l03Insert.cs : List (FuncId × Con) := []
def spec_l03Insert.E : Env := envOf tab spec_l03Insert.cs 0 false
def spec_l03Insert.keep (i : Nat) : List Nat := if i = 2 then [0, 1, 5] else []
def spec_l03Insert.at2 (n : Nat) (x : List Int × Int) : Code × (Ex → St → Option ((List Int))) := ctx spec_l03Insert.E spec_l03Insert.keep n [.snd, .snd, .fst, .blk] (codeOf Try.f85) (kEnd spec_l03Insert.E Try.f85 spec_l03Insert.con x)
def spec_l03Insert.LN2 (n : Nat) (x : List Int × Int) : Nat → St → Option ((List Int)) := loopN (exec spec_l03Insert.E spec_l03Insert.keep n (bodyOf (spec_l03Insert.at2 n x).1)) (St.norm 0 (spec_l03Insert.keep 2)) (spec_l03Insert.at2 n x).2
set_option maxRecDepth 100000 in
theorem spec_l03Insert.lem2 (n : Nat) (x : List Int × Int) : ∀ (k : Nat) (n1 : Int) (at5 : Int) (list0 : List Int), spec_l03Insert.LN2 n x k (spec_l03Insert.st2 n1 at5 list0) = spec_l03Insert.l2 n k n1 at5 list0 := by
  intro k
  induction k with
  | zero => intro n1 at5 list0; rfl
  | succ k ih =>
    intro n1 at5 list0
    have h : spec_l03Insert.LN2 n x (k + 1) (spec_l03Insert.st2 n1 at5 list0) = spec_l03Insert.g2raw (fun n1 at5 list0 => spec_l03Insert.LN2 n x k (spec_l03Insert.st2 n1 at5 list0)) n1 at5 list0 := by kernel_rfl
    rw [spec_l03Insert.g2raw_eq] at h
    rw [h]
    simp only [ih]
    rfl
set_option maxRecDepth 100000 in
theorem spec_l03Insert.body (n : Nat) (x : List Int × Int) : bodyF spec_l03Insert.E spec_l03Insert.keep n Try.f85 spec_l03Insert.con x = spec_l03Insert.fn n x.1 x.2 := by
  have h : bodyF spec_l03Insert.E spec_l03Insert.keep n Try.f85 spec_l03Insert.con x = spec_l03Insert.top (fun n1 at5 list0 => spec_l03Insert.LN2 n x n (spec_l03Insert.st2 n1 at5 list0)) x.1 x.2 := by kernel_rfl
  rw [h]
  simp only [spec_l03Insert.lem2]
  rfl
set_option maxRecDepth 100000 in
theorem spec_l03Insert.good : Good Try.prog 85 spec_l03Insert.con :=
  good_of tabok (cs := spec_l03Insert.cs) trivial 0 false (fn := Try.f85) Try.func85 rfl (by decide) (by simp [spec_l03Insert.con]) spec_l03Insert.keep NN (fun _ => rfl) (fun x => spec_l03Insert.body NN x)
end
end Go.Ev.Try

namespace Go.Ev.Try
open Go.Proofs Go.Pl
set_option linter.unusedVariables false
noncomputable section
def spec_PermitFor.st6 (list0 : List (ByteArray × Int × Int × Int × Int × Int × Int × Int × Int)) (counts1 : List Int) (i10 : Int) (v6a : Int) (v6ba : Int) (v6bba : Int) (v6bbba : Int) (v6bbbbb : Int) (p9a : Int) (p9ba : Int) (p9bba : Int) (p9bbba : Int) (p9bbbbb : Int) (w2 : List Int) (w3 : List Int) : St := ⟨[.dat (.sl 95 (.pair .str (.pair (.int .i64) (.pair (.int .i64) (.pair (.int .i64) (.pair (.int .i64) (.pair (.int .i64) (.pair (.int .i64) (.pair (.int .i64) (.int .i64)))))))))) list0, .dat (.sl 2 (.int .i64)) counts1, .gone, .gone, .gone, .gone, .ptr 0 [], .gone, .gone, .ptr 1 [], .dat (.int .i64) i10, .gone, .gone, .gone, .gone, .gone, .gone, .gone, .gone, .gone, .gone, .gone, .gone, .gone, .gone, .gone, .gone, .gone, .gone, .gone, .gone, .gone, .gone, .gone, .gone, .gone, .gone, .gone, .gone, .gone, .gone, .gone, .gone, .gone, .gone, .gone, .gone, .gone, .gone, .gone, .gone, .gone, .gone, .gone, .gone, .gone, .gone, .gone, .gone, .gone, .gone, .gone, .gone, .gone, .gone, .gone, .gone, .gone, .gone, .gone, .gone, .gone, .gone, .gone, .gone, .gone, .gone, .gone, .gone, .gone], [.box 42 (.pair (.int .i64) (.pair (.int .i64) (.pair (.int .i64) (.pair (.int .i64) (.pair (.sl 2 (.int .i64)) (.int .i64)))))) (.pr (.dat (.int .i64) v6a) (.pr (.dat (.int .i64) v6ba) (.pr (.dat (.int .i64) v6bba) (.pr (.dat (.int .i64) v6bbba) (.pr (.ref 2) (.dat (.int .i64) v6bbbbb)))))), .box 42 (.pair (.int .i64) (.pair (.int .i64) (.pair (.int .i64) (.pair (.int .i64) (.pair (.sl 2 (.int .i64)) (.int .i64)))))) (.pr (.dat (.int .i64) p9a) (.pr (.dat (.int .i64) p9ba) (.pr (.dat (.int .i64) p9bba) (.pr (.dat (.int .i64) p9bbba) (.pr (.ref 3) (.dat (.int .i64) p9bbbbb)))))), .row 2 (.int .i64) w2 none, .row 2 (.int .i64) w3 none]⟩
def spec_PermitFor.con : Con := { ps := [(.val, (.sl 95 (.pair .str (.pair (.int .i64) (.pair (.int .i64) (.pair (.int .i64) (.pair (.int .i64) (.pair (.int .i64) (.pair (.int .i64) (.pair (.int .i64) (.int .i64))))))))))), (.val, (.sl 2 (.int .i64))), (.val, (.int .i64))], rs := [(.own, (.pair (.int .i64) (.pair (.int .i64) (.pair (.int .i64) (.pair (.int .i64) (.pair (.sl 2 (.int .i64)) (.int .i64))))))), (.own, (.int .i64))], F := fun x => spec_PermitFor.f x.1 x.2.1 x.2.2 }
def spec_PermitFor.cs : List (FuncId × Con) := [(76, spec_l30Code.con), (85, spec_l03Insert.con)]
def spec_PermitFor.E : Env := envOf tab spec_PermitFor.cs 0 false
def spec_PermitFor.keep (i : Nat) : List Nat := if i = 6 then [0, 1, 6, 9, 10] else []
def spec_PermitFor.at6 (n : Nat) (x : (List (ByteArray × Int × Int × Int × Int × Int × Int × Int × Int)) × List Int × Int) : Code × (Ex → St → Option (((Int × Int × Int × Int × List Int × Int) × Int))) := ctx spec_PermitFor.E spec_PermitFor.keep n [.snd, .snd, .snd, .snd, .fst, .snd, .blk] (codeOf Try.f38) (kEnd spec_PermitFor.E Try.f38 spec_PermitFor.con x)
def spec_PermitFor.LN6 (n : Nat) (x : (List (ByteArray × Int × Int × Int × Int × Int × Int × Int × Int)) × List Int × Int) : Nat → St → Option (((Int × Int × Int × Int × List Int × Int) × Int)) := loopN (exec spec_PermitFor.E spec_PermitFor.keep n (bodyOf (spec_PermitFor.at6 n x).1)) (St.norm 0 (spec_PermitFor.keep 6)) (spec_PermitFor.at6 n x).2
set_option maxRecDepth 100000 in
theorem spec_PermitFor.lem6 (n : Nat) (x : (List (ByteArray × Int × Int × Int × Int × Int × Int × Int × Int)) × List Int × Int) : ∀ (k : Nat) (list0 : List (ByteArray × Int × Int × Int × Int × Int × Int × Int × Int)) (counts1 : List Int) (i10 : Int) (v6a : Int) (v6ba : Int) (v6bba : Int) (v6bbba : Int) (v6bbbbb : Int) (p9a : Int) (p9ba : Int) (p9bba : Int) (p9bbba : Int) (p9bbbbb : Int) (w2 : List Int) (w3 : List Int), spec_PermitFor.LN6 n x k (spec_PermitFor.st6 list0 counts1 i10 v6a v6ba v6bba v6bbba v6bbbbb p9a p9ba p9bba p9bbba p9bbbbb w2 w3) = spec_PermitFor.l6 n k list0 counts1 i10 v6a v6ba v6bba v6bbba v6bbbbb p9a p9ba p9bba p9bbba p9bbbbb w2 w3 := by
  intro k
  induction k with
  | zero => intro list0 counts1 i10 v6a v6ba v6bba v6bbba v6bbbbb p9a p9ba p9bba p9bbba p9bbbbb w2 w3; rfl
  | succ k ih =>
    intro list0 counts1 i10 v6a v6ba v6bba v6bbba v6bbbbb p9a p9ba p9bba p9bbba p9bbbbb w2 w3
    have h : spec_PermitFor.LN6 n x (k + 1) (spec_PermitFor.st6 list0 counts1 i10 v6a v6ba v6bba v6bbba v6bbbbb p9a p9ba p9bba p9bbba p9bbbbb w2 w3) = spec_PermitFor.g6 (fun list0 counts1 i10 v6a v6ba v6bba v6bbba v6bbbbb p9a p9ba p9bba p9bbba p9bbbbb w2 w3 => spec_PermitFor.LN6 n x k (spec_PermitFor.st6 list0 counts1 i10 v6a v6ba v6bba v6bbba v6bbbbb p9a p9ba p9bba p9bbba p9bbbbb w2 w3)) list0 counts1 i10 v6a v6ba v6bba v6bbba v6bbbbb p9a p9ba p9bba p9bbba p9bbbbb w2 w3 := by kernel_rfl
    rw [h]
    simp only [ih]
    rfl
set_option maxRecDepth 100000 in
theorem spec_PermitFor.body (n : Nat) (x : (List (ByteArray × Int × Int × Int × Int × Int × Int × Int × Int)) × List Int × Int) : bodyF spec_PermitFor.E spec_PermitFor.keep n Try.f38 spec_PermitFor.con x = spec_PermitFor.fn n x.1 x.2.1 x.2.2 := by
  have h : bodyF spec_PermitFor.E spec_PermitFor.keep n Try.f38 spec_PermitFor.con x = spec_PermitFor.top (fun list0 counts1 i10 v6a v6ba v6bba v6bbba v6bbbbb p9a p9ba p9bba p9bbba p9bbbbb w2 w3 => spec_PermitFor.LN6 n x n (spec_PermitFor.st6 list0 counts1 i10 v6a v6ba v6bba v6bbba v6bbbbb p9a p9ba p9bba p9bbba p9bbbbb w2 w3)) x.1 x.2.1 x.2.2 := by kernel_rfl
  rw [h]
  simp only [spec_PermitFor.lem6]
  rfl
set_option maxRecDepth 100000 in
theorem spec_PermitFor.good : Good Try.prog 38 spec_PermitFor.con :=
  good_of tabok (cs := spec_PermitFor.cs) ⟨spec_l30Code.good, spec_l03Insert.good, trivial⟩ 0 false (fn := Try.f38) Try.func38 rfl (by decide) (by simp [spec_PermitFor.con]) spec_PermitFor.keep NN (fun _ => rfl) (fun x => spec_PermitFor.body NN x)
end
end Go.Ev.Try

namespace Go.Ev.Try
open Go.Proofs Go.Pl
set_option linter.unusedVariables false
noncomputable section
def impl_PermitFor.st18 (v66 : List Bool) (v67 : Int) (v6a : Int) (v6ba : Int) (v6bba : Int) (v6bbba : Int) (v6bbbbb : Int) (p8a : Int) (p8ba : Int) (p8bba : Int) (p8bbba : Int) (p8bbbbb : Int) (w2 : List Int) (w3 : List Int) : St := ⟨[.gone, .gone, .gone, .gone, .gone, .gone, .ptr 0 [], .gone, .ptr 1 [], .gone, .gone, .gone, .gone, .gone, .gone, .gone, .gone, .gone, .gone, .gone, .gone, .gone, .gone, .gone, .gone, .gone, .gone, .gone, .gone, .gone, .gone, .gone, .gone, .gone, .gone, .gone, .gone, .gone, .gone, .gone, .gone, .gone, .gone, .gone, .gone, .gone, .gone, .gone, .gone, .gone, .gone, .gone, .gone, .gone, .gone, .gone, .gone, .gone, .gone, .gone, .gone, .gone, .gone, .gone, .gone, .gone, .dat (.arr 4 .bool) v66, .dat (.int .i64) v67, .gone, .gone, .gone, .gone, .gone, .gone, .gone, .gone, .gone, .gone, .gone, .gone], [.box 42 (.pair (.int .i64) (.pair (.int .i64) (.pair (.int .i64) (.pair (.int .i64) (.pair (.sl 2 (.int .i64)) (.int .i64)))))) (.pr (.dat (.int .i64) v6a) (.pr (.dat (.int .i64) v6ba) (.pr (.dat (.int .i64) v6bba) (.pr (.dat (.int .i64) v6bbba) (.pr (.ref 2) (.dat (.int .i64) v6bbbbb)))))), .box 42 (.pair (.int .i64) (.pair (.int .i64) (.pair (.int .i64) (.pair (.int .i64) (.pair (.sl 2 (.int .i64)) (.int .i64)))))) (.pr (.dat (.int .i64) p8a) (.pr (.dat (.int .i64) p8ba) (.pr (.dat (.int .i64) p8bba) (.pr (.dat (.int .i64) p8bbba) (.pr (.ref 3) (.dat (.int .i64) p8bbbbb)))))), .row 2 (.int .i64) w2 none, .row 2 (.int .i64) w3 none]⟩
def impl_PermitFor.st10 (counts1 : List Int) (v38 : List (ByteArray × Int × Int × Int × Int × Int × Int × Int × Int)) (v39 : Int) (v40 : Int) (v6a : Int) (v6ba : Int) (v6bba : Int) (v6bbba : Int) (v6bbbbb : Int) (p8a : Int) (p8ba : Int) (p8bba : Int) (p8bbba : Int) (p8bbbbb : Int) (kinds9 : List Bool) (w3 : List Int) (w4 : List Int) : St := ⟨[.gone, .dat (.sl 2 (.int .i64)) counts1, .gone, .gone, .gone, .gone, .ptr 0 [], .gone, .ptr 1 [], .ptr 2 [], .gone, .gone, .gone, .gone, .gone, .gone, .gone, .gone, .gone, .gone, .gone, .gone, .gone, .gone, .gone, .gone, .gone, .gone, .gone, .gone, .gone, .gone, .gone, .gone, .gone, .gone, .gone, .gone, .dat (.sl 95 (.pair .str (.pair (.int .i64) (.pair (.int .i64) (.pair (.int .i64) (.pair (.int .i64) (.pair (.int .i64) (.pair (.int .i64) (.pair (.int .i64) (.int .i64)))))))))) v38, .dat (.int .i64) v39, .dat (.int .i64) v40, .gone, .gone, .gone, .gone, .gone, .gone, .gone, .gone, .gone, .gone, .gone, .gone, .gone, .gone, .gone, .gone, .gone, .gone, .gone, .gone, .gone, .gone, .gone, .gone, .gone, .gone, .gone, .gone, .gone, .gone, .gone, .gone, .gone, .gone, .gone, .gone, .gone, .gone, .gone], [.box 42 (.pair (.int .i64) (.pair (.int .i64) (.pair (.int .i64) (.pair (.int .i64) (.pair (.sl 2 (.int .i64)) (.int .i64)))))) (.pr (.dat (.int .i64) v6a) (.pr (.dat (.int .i64) v6ba) (.pr (.dat (.int .i64) v6bba) (.pr (.dat (.int .i64) v6bbba) (.pr (.ref 3) (.dat (.int .i64) v6bbbbb)))))), .box 42 (.pair (.int .i64) (.pair (.int .i64) (.pair (.int .i64) (.pair (.int .i64) (.pair (.sl 2 (.int .i64)) (.int .i64)))))) (.pr (.dat (.int .i64) p8a) (.pr (.dat (.int .i64) p8ba) (.pr (.dat (.int .i64) p8bba) (.pr (.dat (.int .i64) p8bbba) (.pr (.ref 4) (.dat (.int .i64) p8bbbbb)))))), .box 103 (.arr 4 .bool) (.dat (.arr 4 .bool) kinds9), .row 2 (.int .i64) w3 none, .row 2 (.int .i64) w4 none]⟩
def impl_PermitFor.con : Con := { ps := [(.val, (.sl 95 (.pair .str (.pair (.int .i64) (.pair (.int .i64) (.pair (.int .i64) (.pair (.int .i64) (.pair (.int .i64) (.pair (.int .i64) (.pair (.int .i64) (.int .i64))))))))))), (.val, (.sl 2 (.int .i64))), (.val, (.int .i64))], rs := [(.own, (.pair (.int .i64) (.pair (.int .i64) (.pair (.int .i64) (.pair (.int .i64) (.pair (.sl 2 (.int .i64)) (.int .i64))))))), (.own, (.int .i64))], F := fun x => impl_PermitFor.f x.1 x.2.1 x.2.2 }
def impl_PermitFor.cs : List (FuncId × Con) := [(80, impl_AreArticles.con), (81, impl_areCounts.con), (82, impl_isDay.con), (86, impl_orderNet.con)]
def impl_PermitFor.E : Env := envOf tab impl_PermitFor.cs 0 false
def impl_PermitFor.keep (i : Nat) : List Nat := if i = 18 then [6, 8, 66, 67] else if i = 10 then [1, 6, 8, 9, 38, 39, 40] else []
def impl_PermitFor.at18 (n : Nat) (x : (List (ByteArray × Int × Int × Int × Int × Int × Int × Int × Int)) × List Int × Int) : Code × (Ex → St → Option (((Int × Int × Int × Int × List Int × Int) × Int))) := ctx impl_PermitFor.E impl_PermitFor.keep n [.snd, .snd, .snd, .snd, .snd, .snd, .snd, .fst, .snd, .blk] (codeOf Try.f39) (kEnd impl_PermitFor.E Try.f39 impl_PermitFor.con x)
def impl_PermitFor.LN18 (n : Nat) (x : (List (ByteArray × Int × Int × Int × Int × Int × Int × Int × Int)) × List Int × Int) : Nat → St → Option (((Int × Int × Int × Int × List Int × Int) × Int)) := loopN (exec impl_PermitFor.E impl_PermitFor.keep n (bodyOf (impl_PermitFor.at18 n x).1)) (St.norm 0 (impl_PermitFor.keep 18)) (impl_PermitFor.at18 n x).2
def impl_PermitFor.at10 (n : Nat) (x : (List (ByteArray × Int × Int × Int × Int × Int × Int × Int × Int)) × List Int × Int) : Code × (Ex → St → Option (((Int × Int × Int × Int × List Int × Int) × Int))) := ctx impl_PermitFor.E impl_PermitFor.keep n [.snd, .snd, .snd, .snd, .snd, .snd, .fst, .snd, .blk] (codeOf Try.f39) (kEnd impl_PermitFor.E Try.f39 impl_PermitFor.con x)
def impl_PermitFor.LN10 (n : Nat) (x : (List (ByteArray × Int × Int × Int × Int × Int × Int × Int × Int)) × List Int × Int) : Nat → St → Option (((Int × Int × Int × Int × List Int × Int) × Int)) := loopN (exec impl_PermitFor.E impl_PermitFor.keep n (bodyOf (impl_PermitFor.at10 n x).1)) (St.norm 0 (impl_PermitFor.keep 10)) (impl_PermitFor.at10 n x).2
set_option maxRecDepth 100000 in
theorem impl_PermitFor.lem18 (n : Nat) (x : (List (ByteArray × Int × Int × Int × Int × Int × Int × Int × Int)) × List Int × Int) : ∀ (k : Nat) (v66 : List Bool) (v67 : Int) (v6a : Int) (v6ba : Int) (v6bba : Int) (v6bbba : Int) (v6bbbbb : Int) (p8a : Int) (p8ba : Int) (p8bba : Int) (p8bbba : Int) (p8bbbbb : Int) (w2 : List Int) (w3 : List Int), impl_PermitFor.LN18 n x k (impl_PermitFor.st18 v66 v67 v6a v6ba v6bba v6bbba v6bbbbb p8a p8ba p8bba p8bbba p8bbbbb w2 w3) = impl_PermitFor.l18 n k v66 v67 v6a v6ba v6bba v6bbba v6bbbbb p8a p8ba p8bba p8bbba p8bbbbb w2 w3 := by
  intro k
  induction k with
  | zero => intro v66 v67 v6a v6ba v6bba v6bbba v6bbbbb p8a p8ba p8bba p8bbba p8bbbbb w2 w3; rfl
  | succ k ih =>
    intro v66 v67 v6a v6ba v6bba v6bbba v6bbbbb p8a p8ba p8bba p8bbba p8bbbbb w2 w3
    have h : impl_PermitFor.LN18 n x (k + 1) (impl_PermitFor.st18 v66 v67 v6a v6ba v6bba v6bbba v6bbbbb p8a p8ba p8bba p8bbba p8bbbbb w2 w3) = impl_PermitFor.g18 (fun v66 v67 v6a v6ba v6bba v6bbba v6bbbbb p8a p8ba p8bba p8bbba p8bbbbb w2 w3 => impl_PermitFor.LN18 n x k (impl_PermitFor.st18 v66 v67 v6a v6ba v6bba v6bbba v6bbbbb p8a p8ba p8bba p8bbba p8bbbbb w2 w3)) v66 v67 v6a v6ba v6bba v6bbba v6bbbbb p8a p8ba p8bba p8bbba p8bbbbb w2 w3 := by kernel_rfl
    rw [h]
    simp only [ih]
    rfl
set_option maxRecDepth 100000 in
theorem impl_PermitFor.lem10 (n : Nat) (x : (List (ByteArray × Int × Int × Int × Int × Int × Int × Int × Int)) × List Int × Int) : ∀ (k : Nat) (counts1 : List Int) (v38 : List (ByteArray × Int × Int × Int × Int × Int × Int × Int × Int)) (v39 : Int) (v40 : Int) (v6a : Int) (v6ba : Int) (v6bba : Int) (v6bbba : Int) (v6bbbbb : Int) (p8a : Int) (p8ba : Int) (p8bba : Int) (p8bbba : Int) (p8bbbbb : Int) (kinds9 : List Bool) (w3 : List Int) (w4 : List Int), impl_PermitFor.LN10 n x k (impl_PermitFor.st10 counts1 v38 v39 v40 v6a v6ba v6bba v6bbba v6bbbbb p8a p8ba p8bba p8bbba p8bbbbb kinds9 w3 w4) = impl_PermitFor.l10 n k counts1 v38 v39 v40 v6a v6ba v6bba v6bbba v6bbbbb p8a p8ba p8bba p8bbba p8bbbbb kinds9 w3 w4 := by
  intro k
  induction k with
  | zero => intro counts1 v38 v39 v40 v6a v6ba v6bba v6bbba v6bbbbb p8a p8ba p8bba p8bbba p8bbbbb kinds9 w3 w4; rfl
  | succ k ih =>
    intro counts1 v38 v39 v40 v6a v6ba v6bba v6bbba v6bbbbb p8a p8ba p8bba p8bbba p8bbbbb kinds9 w3 w4
    have h : impl_PermitFor.LN10 n x (k + 1) (impl_PermitFor.st10 counts1 v38 v39 v40 v6a v6ba v6bba v6bbba v6bbbbb p8a p8ba p8bba p8bbba p8bbbbb kinds9 w3 w4) = impl_PermitFor.g10 (fun v66 v67 v6a v6ba v6bba v6bbba v6bbbbb p8a p8ba p8bba p8bbba p8bbbbb w2 w3 => impl_PermitFor.LN18 n x n (impl_PermitFor.st18 v66 v67 v6a v6ba v6bba v6bbba v6bbbbb p8a p8ba p8bba p8bbba p8bbbbb w2 w3)) (fun counts1 v38 v39 v40 v6a v6ba v6bba v6bbba v6bbbbb p8a p8ba p8bba p8bbba p8bbbbb kinds9 w3 w4 => impl_PermitFor.LN10 n x k (impl_PermitFor.st10 counts1 v38 v39 v40 v6a v6ba v6bba v6bbba v6bbbbb p8a p8ba p8bba p8bbba p8bbbbb kinds9 w3 w4)) counts1 v38 v39 v40 v6a v6ba v6bba v6bbba v6bbbbb p8a p8ba p8bba p8bbba p8bbbbb kinds9 w3 w4 := by kernel_rfl
    rw [h]
    simp only [ih, impl_PermitFor.lem18]
    rfl
set_option maxRecDepth 100000 in
theorem impl_PermitFor.body (n : Nat) (x : (List (ByteArray × Int × Int × Int × Int × Int × Int × Int × Int)) × List Int × Int) : bodyF impl_PermitFor.E impl_PermitFor.keep n Try.f39 impl_PermitFor.con x = impl_PermitFor.fn n x.1 x.2.1 x.2.2 := by
  have h : bodyF impl_PermitFor.E impl_PermitFor.keep n Try.f39 impl_PermitFor.con x = impl_PermitFor.top (fun counts1 v38 v39 v40 v6a v6ba v6bba v6bbba v6bbbbb p8a p8ba p8bba p8bbba p8bbbbb kinds9 w3 w4 => impl_PermitFor.LN10 n x n (impl_PermitFor.st10 counts1 v38 v39 v40 v6a v6ba v6bba v6bbba v6bbbbb p8a p8ba p8bba p8bbba p8bbbbb kinds9 w3 w4)) x.1 x.2.1 x.2.2 := by kernel_rfl
  rw [h]
  simp only [impl_PermitFor.lem10]
  rfl
set_option maxRecDepth 100000 in
theorem impl_PermitFor.good : Good Try.prog 39 impl_PermitFor.con :=
  good_of tabok (cs := impl_PermitFor.cs) ⟨impl_AreArticles.good, impl_areCounts.good, impl_isDay.good, impl_orderNet.good, trivial⟩ 0 false (fn := Try.f39) Try.func39 rfl (by decide) (by simp [impl_PermitFor.con]) impl_PermitFor.keep NN (fun _ => rfl) (fun x => impl_PermitFor.body NN x)
end
end Go.Ev.Try

namespace Go.Ev.Try
open Go.Proofs Go.Pl
set_option linter.unusedVariables false
noncomputable section
def spec_l30First.st2 (permits0 : List (Int × Int × Int × Int × List Int × Int)) (list1 : List (ByteArray × Int × Int × Int × Int × Int × Int × Int × Int)) (counts2 : List Int) (day3 : Int) (i9 : Int) : St := ⟨[.dat (.sl 42 (.pair (.int .i64) (.pair (.int .i64) (.pair (.int .i64) (.pair (.int .i64) (.pair (.sl 2 (.int .i64)) (.int .i64))))))) permits0, .dat (.sl 95 (.pair .str (.pair (.int .i64) (.pair (.int .i64) (.pair (.int .i64) (.pair (.int .i64) (.pair (.int .i64) (.pair (.int .i64) (.pair (.int .i64) (.int .i64)))))))))) list1, .dat (.sl 2 (.int .i64)) counts2, .dat (.int .i64) day3, .gone, .gone, .gone, .gone, .gone, .dat (.int .i64) i9, .gone, .gone, .gone, .gone, .gone, .gone, .gone, .gone, .gone, .gone, .gone, .gone, .gone, .gone, .gone, .gone], []⟩
def spec_l30First.con : Con := { ps := [(.val, (.sl 42 (.pair (.int .i64) (.pair (.int .i64) (.pair (.int .i64) (.pair (.int .i64) (.pair (.sl 2 (.int .i64)) (.int .i64)))))))), (.val, (.sl 95 (.pair .str (.pair (.int .i64) (.pair (.int .i64) (.pair (.int .i64) (.pair (.int .i64) (.pair (.int .i64) (.pair (.int .i64) (.pair (.int .i64) (.int .i64))))))))))), (.val, (.sl 2 (.int .i64))), (.val, (.int .i64))], rs := [(.val, (.int .i64))], F := fun x => spec_l30First.f x.1 x.2.1 x.2.2.1 x.2.2.2 }
def spec_l30First.cs : List (FuncId × Con) := [(77, spec_l30Refusals.con)]
def spec_l30First.E : Env := envOf tab spec_l30First.cs 0 false
def spec_l30First.keep (i : Nat) : List Nat := if i = 2 then [0, 1, 2, 3, 9] else []
def spec_l30First.at2 (n : Nat) (x : (List (Int × Int × Int × Int × List Int × Int)) × (List (ByteArray × Int × Int × Int × Int × Int × Int × Int × Int)) × List Int × Int) : Code × (Ex → St → Option (Int)) := ctx spec_l30First.E spec_l30First.keep n [.snd, .fst, .snd, .blk] (codeOf Try.f88) (kEnd spec_l30First.E Try.f88 spec_l30First.con x)
def spec_l30First.LN2 (n : Nat) (x : (List (Int × Int × Int × Int × List Int × Int)) × (List (ByteArray × Int × Int × Int × Int × Int × Int × Int × Int)) × List Int × Int) : Nat → St → Option (Int) := loopN (exec spec_l30First.E spec_l30First.keep n (bodyOf (spec_l30First.at2 n x).1)) (St.norm 0 (spec_l30First.keep 2)) (spec_l30First.at2 n x).2
set_option maxRecDepth 100000 in
theorem spec_l30First.lem2 (n : Nat) (x : (List (Int × Int × Int × Int × List Int × Int)) × (List (ByteArray × Int × Int × Int × Int × Int × Int × Int × Int)) × List Int × Int) : ∀ (k : Nat) (permits0 : List (Int × Int × Int × Int × List Int × Int)) (list1 : List (ByteArray × Int × Int × Int × Int × Int × Int × Int × Int)) (counts2 : List Int) (day3 : Int) (i9 : Int), spec_l30First.LN2 n x k (spec_l30First.st2 permits0 list1 counts2 day3 i9) = spec_l30First.l2 n k permits0 list1 counts2 day3 i9 := by
  intro k
  induction k with
  | zero => intro permits0 list1 counts2 day3 i9; rfl
  | succ k ih =>
    intro permits0 list1 counts2 day3 i9
    have h : spec_l30First.LN2 n x (k + 1) (spec_l30First.st2 permits0 list1 counts2 day3 i9) = spec_l30First.g2 (fun permits0 list1 counts2 day3 i9 => spec_l30First.LN2 n x k (spec_l30First.st2 permits0 list1 counts2 day3 i9)) permits0 list1 counts2 day3 i9 := by kernel_rfl
    rw [h]
    simp only [ih]
    rfl
set_option maxRecDepth 100000 in
theorem spec_l30First.body (n : Nat) (x : (List (Int × Int × Int × Int × List Int × Int)) × (List (ByteArray × Int × Int × Int × Int × Int × Int × Int × Int)) × List Int × Int) : bodyF spec_l30First.E spec_l30First.keep n Try.f88 spec_l30First.con x = spec_l30First.fn n x.1 x.2.1 x.2.2.1 x.2.2.2 := by
  have h : bodyF spec_l30First.E spec_l30First.keep n Try.f88 spec_l30First.con x = spec_l30First.top (fun permits0 list1 counts2 day3 i9 => spec_l30First.LN2 n x n (spec_l30First.st2 permits0 list1 counts2 day3 i9)) x.1 x.2.1 x.2.2.1 x.2.2.2 := by kernel_rfl
  rw [h]
  simp only [spec_l30First.lem2]
  rfl
set_option maxRecDepth 100000 in
theorem spec_l30First.good : Good Try.prog 88 spec_l30First.con :=
  good_of tabok (cs := spec_l30First.cs) ⟨spec_l30Refusals.good, trivial⟩ 0 false (fn := Try.f88) Try.func88 rfl (by decide) (by simp [spec_l30First.con]) spec_l30First.keep NN (fun _ => rfl) (fun x => spec_l30First.body NN x)
end
end Go.Ev.Try

namespace Go.Ev.Try
open Go.Proofs Go.Pl
set_option linter.unusedVariables false
noncomputable section
def spec_FirstPermit.con : Con := { ps := [(.val, (.sl 42 (.pair (.int .i64) (.pair (.int .i64) (.pair (.int .i64) (.pair (.int .i64) (.pair (.sl 2 (.int .i64)) (.int .i64)))))))), (.val, (.sl 95 (.pair .str (.pair (.int .i64) (.pair (.int .i64) (.pair (.int .i64) (.pair (.int .i64) (.pair (.int .i64) (.pair (.int .i64) (.pair (.int .i64) (.int .i64))))))))))), (.val, (.sl 2 (.int .i64))), (.val, (.int .i64))], rs := [(.val, (.int .i64)), (.val, (.int .i64))], F := fun x => spec_FirstPermit.f x.1 x.2.1 x.2.2.1 x.2.2.2 }
def spec_FirstPermit.cs : List (FuncId × Con) := [(76, spec_l30Code.con), (88, spec_l30First.con)]
def spec_FirstPermit.E : Env := envOf tab spec_FirstPermit.cs 0 false
def spec_FirstPermit.keep (i : Nat) : List Nat := []
set_option maxRecDepth 100000 in
theorem spec_FirstPermit.body (n : Nat) (x : (List (Int × Int × Int × Int × List Int × Int)) × (List (ByteArray × Int × Int × Int × Int × Int × Int × Int × Int)) × List Int × Int) : bodyF spec_FirstPermit.E spec_FirstPermit.keep n Try.f44 spec_FirstPermit.con x = spec_FirstPermit.fn n x.1 x.2.1 x.2.2.1 x.2.2.2 := by
  have h : bodyF spec_FirstPermit.E spec_FirstPermit.keep n Try.f44 spec_FirstPermit.con x = spec_FirstPermit.top x.1 x.2.1 x.2.2.1 x.2.2.2 := by kernel_rfl
  exact h
set_option maxRecDepth 100000 in
theorem spec_FirstPermit.good : Good Try.prog 44 spec_FirstPermit.con :=
  good_of tabok (cs := spec_FirstPermit.cs) ⟨spec_l30Code.good, spec_l30First.good, trivial⟩ 0 false (fn := Try.f44) Try.func44 rfl (by decide) (by simp [spec_FirstPermit.con]) spec_FirstPermit.keep NN (fun _ => rfl) (fun x => spec_FirstPermit.body NN x)
end
end Go.Ev.Try

namespace Go.Ev.Try
open Go.Proofs Go.Pl
set_option linter.unusedVariables false
noncomputable section
def impl_arePermits.st4 (v8 : List (Int × Int × Int × Int × List Int × Int)) (v9 : Int) (v10 : Int) : St := ⟨[.gone, .gone, .gone, .gone, .gone, .gone, .gone, .gone, .dat (.sl 42 (.pair (.int .i64) (.pair (.int .i64) (.pair (.int .i64) (.pair (.int .i64) (.pair (.sl 2 (.int .i64)) (.int .i64))))))) v8, .dat (.int .i64) v9, .dat (.int .i64) v10, .gone, .gone, .gone, .gone, .gone, .gone, .gone], []⟩
def impl_arePermits.con : Con := { ps := [(.val, (.sl 42 (.pair (.int .i64) (.pair (.int .i64) (.pair (.int .i64) (.pair (.int .i64) (.pair (.sl 2 (.int .i64)) (.int .i64))))))))], rs := [(.val, .bool)], F := fun x => impl_arePermits.f x }
def impl_arePermits.cs : List (FuncId × Con) := [(52, impl_IsPermit.con)]
def impl_arePermits.E : Env := envOf tab impl_arePermits.cs 0 false
def impl_arePermits.keep (i : Nat) : List Nat := if i = 4 then [8, 9, 10] else []
def impl_arePermits.at4 (n : Nat) (x : List (Int × Int × Int × Int × List Int × Int)) : Code × (Ex → St → Option (Bool)) := ctx impl_arePermits.E impl_arePermits.keep n [.snd, .snd, .fst, .snd, .blk] (codeOf Try.f60) (kEnd impl_arePermits.E Try.f60 impl_arePermits.con x)
def impl_arePermits.LN4 (n : Nat) (x : List (Int × Int × Int × Int × List Int × Int)) : Nat → St → Option (Bool) := loopN (exec impl_arePermits.E impl_arePermits.keep n (bodyOf (impl_arePermits.at4 n x).1)) (St.norm 0 (impl_arePermits.keep 4)) (impl_arePermits.at4 n x).2
set_option maxRecDepth 100000 in
theorem impl_arePermits.lem4 (n : Nat) (x : List (Int × Int × Int × Int × List Int × Int)) : ∀ (k : Nat) (v8 : List (Int × Int × Int × Int × List Int × Int)) (v9 : Int) (v10 : Int), impl_arePermits.LN4 n x k (impl_arePermits.st4 v8 v9 v10) = impl_arePermits.l4 n k v8 v9 v10 := by
  intro k
  induction k with
  | zero => intro v8 v9 v10; rfl
  | succ k ih =>
    intro v8 v9 v10
    have h : impl_arePermits.LN4 n x (k + 1) (impl_arePermits.st4 v8 v9 v10) = impl_arePermits.g4 (fun v8 v9 v10 => impl_arePermits.LN4 n x k (impl_arePermits.st4 v8 v9 v10)) v8 v9 v10 := by kernel_rfl
    rw [h]
    simp only [ih]
    rfl
set_option maxRecDepth 100000 in
theorem impl_arePermits.body (n : Nat) (x : List (Int × Int × Int × Int × List Int × Int)) : bodyF impl_arePermits.E impl_arePermits.keep n Try.f60 impl_arePermits.con x = impl_arePermits.fn n x := by
  have h : bodyF impl_arePermits.E impl_arePermits.keep n Try.f60 impl_arePermits.con x = impl_arePermits.top (fun v8 v9 v10 => impl_arePermits.LN4 n x n (impl_arePermits.st4 v8 v9 v10)) x := by kernel_rfl
  rw [h]
  simp only [impl_arePermits.lem4]
  rfl
set_option maxRecDepth 100000 in
theorem impl_arePermits.good : Good Try.prog 60 impl_arePermits.con :=
  good_of tabok (cs := impl_arePermits.cs) ⟨impl_IsPermit.good, trivial⟩ 0 false (fn := Try.f60) Try.func60 rfl (by decide) (by simp [impl_arePermits.con]) impl_arePermits.keep NN (fun _ => rfl) (fun x => impl_arePermits.body NN x)
end
end Go.Ev.Try

namespace Go.Ev.Try
open Go.Proofs Go.Pl
set_option linter.unusedVariables false
noncomputable section
def impl_FirstPermit.st6 (list1 : List (ByteArray × Int × Int × Int × Int × Int × Int × Int × Int)) (counts2 : List Int) (day3 : Int) (v29 : List (Int × Int × Int × Int × List Int × Int)) (v30 : Int) (v31 : Int) : St := ⟨[.gone, .dat (.sl 95 (.pair .str (.pair (.int .i64) (.pair (.int .i64) (.pair (.int .i64) (.pair (.int .i64) (.pair (.int .i64) (.pair (.int .i64) (.pair (.int .i64) (.int .i64)))))))))) list1, .dat (.sl 2 (.int .i64)) counts2, .dat (.int .i64) day3, .gone, .gone, .gone, .gone, .gone, .gone, .gone, .gone, .gone, .gone, .gone, .gone, .gone, .gone, .gone, .gone, .gone, .gone, .gone, .gone, .gone, .gone, .gone, .gone, .gone, .dat (.sl 42 (.pair (.int .i64) (.pair (.int .i64) (.pair (.int .i64) (.pair (.int .i64) (.pair (.sl 2 (.int .i64)) (.int .i64))))))) v29, .dat (.int .i64) v30, .dat (.int .i64) v31, .gone, .gone, .gone, .gone, .gone, .gone, .gone, .gone, .gone, .gone, .gone, .gone], []⟩
def impl_FirstPermit.con : Con := { ps := [(.val, (.sl 42 (.pair (.int .i64) (.pair (.int .i64) (.pair (.int .i64) (.pair (.int .i64) (.pair (.sl 2 (.int .i64)) (.int .i64)))))))), (.val, (.sl 95 (.pair .str (.pair (.int .i64) (.pair (.int .i64) (.pair (.int .i64) (.pair (.int .i64) (.pair (.int .i64) (.pair (.int .i64) (.pair (.int .i64) (.int .i64))))))))))), (.val, (.sl 2 (.int .i64))), (.val, (.int .i64))], rs := [(.val, (.int .i64)), (.val, (.int .i64))], F := fun x => impl_FirstPermit.f x.1 x.2.1 x.2.2.1 x.2.2.2 }
def impl_FirstPermit.cs : List (FuncId × Con) := [(60, impl_arePermits.con), (80, impl_AreArticles.con), (81, impl_areCounts.con), (82, impl_isDay.con), (83, impl_refusalsOf.con)]
def impl_FirstPermit.E : Env := envOf tab impl_FirstPermit.cs 0 false
def impl_FirstPermit.keep (i : Nat) : List Nat := if i = 6 then [1, 2, 3, 29, 30, 31] else []
def impl_FirstPermit.at6 (n : Nat) (x : (List (Int × Int × Int × Int × List Int × Int)) × (List (ByteArray × Int × Int × Int × Int × Int × Int × Int × Int)) × List Int × Int) : Code × (Ex → St → Option ((Int × Int))) := ctx impl_FirstPermit.E impl_FirstPermit.keep n [.snd, .snd, .snd, .fst, .snd, .blk] (codeOf Try.f45) (kEnd impl_FirstPermit.E Try.f45 impl_FirstPermit.con x)
def impl_FirstPermit.LN6 (n : Nat) (x : (List (Int × Int × Int × Int × List Int × Int)) × (List (ByteArray × Int × Int × Int × Int × Int × Int × Int × Int)) × List Int × Int) : Nat → St → Option ((Int × Int)) := loopN (exec impl_FirstPermit.E impl_FirstPermit.keep n (bodyOf (impl_FirstPermit.at6 n x).1)) (St.norm 0 (impl_FirstPermit.keep 6)) (impl_FirstPermit.at6 n x).2
set_option maxRecDepth 100000 in
theorem impl_FirstPermit.lem6 (n : Nat) (x : (List (Int × Int × Int × Int × List Int × Int)) × (List (ByteArray × Int × Int × Int × Int × Int × Int × Int × Int)) × List Int × Int) : ∀ (k : Nat) (list1 : List (ByteArray × Int × Int × Int × Int × Int × Int × Int × Int)) (counts2 : List Int) (day3 : Int) (v29 : List (Int × Int × Int × Int × List Int × Int)) (v30 : Int) (v31 : Int), impl_FirstPermit.LN6 n x k (impl_FirstPermit.st6 list1 counts2 day3 v29 v30 v31) = impl_FirstPermit.l6 n k list1 counts2 day3 v29 v30 v31 := by
  intro k
  induction k with
  | zero => intro list1 counts2 day3 v29 v30 v31; rfl
  | succ k ih =>
    intro list1 counts2 day3 v29 v30 v31
    have h : impl_FirstPermit.LN6 n x (k + 1) (impl_FirstPermit.st6 list1 counts2 day3 v29 v30 v31) = impl_FirstPermit.g6 (fun list1 counts2 day3 v29 v30 v31 => impl_FirstPermit.LN6 n x k (impl_FirstPermit.st6 list1 counts2 day3 v29 v30 v31)) list1 counts2 day3 v29 v30 v31 := by kernel_rfl
    rw [h]
    simp only [ih]
    rfl
set_option maxRecDepth 100000 in
theorem impl_FirstPermit.body (n : Nat) (x : (List (Int × Int × Int × Int × List Int × Int)) × (List (ByteArray × Int × Int × Int × Int × Int × Int × Int × Int)) × List Int × Int) : bodyF impl_FirstPermit.E impl_FirstPermit.keep n Try.f45 impl_FirstPermit.con x = impl_FirstPermit.fn n x.1 x.2.1 x.2.2.1 x.2.2.2 := by
  have h : bodyF impl_FirstPermit.E impl_FirstPermit.keep n Try.f45 impl_FirstPermit.con x = impl_FirstPermit.top (fun list1 counts2 day3 v29 v30 v31 => impl_FirstPermit.LN6 n x n (impl_FirstPermit.st6 list1 counts2 day3 v29 v30 v31)) x.1 x.2.1 x.2.2.1 x.2.2.2 := by kernel_rfl
  rw [h]
  simp only [impl_FirstPermit.lem6]
  rfl
set_option maxRecDepth 100000 in
theorem impl_FirstPermit.good : Good Try.prog 45 impl_FirstPermit.con :=
  good_of tabok (cs := impl_FirstPermit.cs) ⟨impl_arePermits.good, impl_AreArticles.good, impl_areCounts.good, impl_isDay.good, impl_refusalsOf.good, trivial⟩ 0 false (fn := Try.f45) Try.func45 rfl (by decide) (by simp [impl_FirstPermit.con]) impl_FirstPermit.keep NN (fun _ => rfl) (fun x => impl_FirstPermit.body NN x)
end
end Go.Ev.Try

namespace Go.Ev.Try
open Go.Proofs Go.Pl
set_option linter.unusedVariables false
noncomputable section
def spec_NextDay.st6 (permits0 : List (Int × Int × Int × Int × List Int × Int)) (list1 : List (ByteArray × Int × Int × Int × Int × Int × Int × Int × Int)) (counts2 : List Int) (day3 : Int) (best11 : Int) (i12 : Int) : St := ⟨[.dat (.sl 42 (.pair (.int .i64) (.pair (.int .i64) (.pair (.int .i64) (.pair (.int .i64) (.pair (.sl 2 (.int .i64)) (.int .i64))))))) permits0, .dat (.sl 95 (.pair .str (.pair (.int .i64) (.pair (.int .i64) (.pair (.int .i64) (.pair (.int .i64) (.pair (.int .i64) (.pair (.int .i64) (.pair (.int .i64) (.int .i64)))))))))) list1, .dat (.sl 2 (.int .i64)) counts2, .dat (.int .i64) day3, .gone, .gone, .gone, .gone, .gone, .gone, .gone, .dat (.int .i64) best11, .dat (.int .i64) i12, .gone, .gone, .gone, .gone, .gone, .gone, .gone, .gone, .gone, .gone, .gone, .gone, .gone, .gone, .gone, .gone, .gone, .gone, .gone, .gone, .gone, .gone, .gone, .gone, .gone, .gone, .gone, .gone, .gone, .gone, .gone, .gone, .gone, .gone, .gone, .gone, .gone, .gone, .gone, .gone, .gone, .gone, .gone, .gone], []⟩
def spec_NextDay.con : Con := { ps := [(.val, (.sl 42 (.pair (.int .i64) (.pair (.int .i64) (.pair (.int .i64) (.pair (.int .i64) (.pair (.sl 2 (.int .i64)) (.int .i64)))))))), (.val, (.sl 95 (.pair .str (.pair (.int .i64) (.pair (.int .i64) (.pair (.int .i64) (.pair (.int .i64) (.pair (.int .i64) (.pair (.int .i64) (.pair (.int .i64) (.int .i64))))))))))), (.val, (.sl 2 (.int .i64))), (.val, (.int .i64))], rs := [(.val, (.int .i64)), (.val, (.int .i64))], F := fun x => spec_NextDay.f x.1 x.2.1 x.2.2.1 x.2.2.2 }
def spec_NextDay.cs : List (FuncId × Con) := [(76, spec_l30Code.con), (77, spec_l30Refusals.con)]
def spec_NextDay.E : Env := envOf tab spec_NextDay.cs 0 false
def spec_NextDay.keep (i : Nat) : List Nat := if i = 6 then [0, 1, 2, 3, 11, 12] else []
def spec_NextDay.at6 (n : Nat) (x : (List (Int × Int × Int × Int × List Int × Int)) × (List (ByteArray × Int × Int × Int × Int × Int × Int × Int × Int)) × List Int × Int) : Code × (Ex → St → Option ((Int × Int))) := ctx spec_NextDay.E spec_NextDay.keep n [.snd, .snd, .snd, .snd, .fst, .snd, .blk] (codeOf Try.f46) (kEnd spec_NextDay.E Try.f46 spec_NextDay.con x)
def spec_NextDay.LN6 (n : Nat) (x : (List (Int × Int × Int × Int × List Int × Int)) × (List (ByteArray × Int × Int × Int × Int × Int × Int × Int × Int)) × List Int × Int) : Nat → St → Option ((Int × Int)) := loopN (exec spec_NextDay.E spec_NextDay.keep n (bodyOf (spec_NextDay.at6 n x).1)) (St.norm 0 (spec_NextDay.keep 6)) (spec_NextDay.at6 n x).2
set_option maxRecDepth 100000 in
theorem spec_NextDay.lem6 (n : Nat) (x : (List (Int × Int × Int × Int × List Int × Int)) × (List (ByteArray × Int × Int × Int × Int × Int × Int × Int × Int)) × List Int × Int) : ∀ (k : Nat) (permits0 : List (Int × Int × Int × Int × List Int × Int)) (list1 : List (ByteArray × Int × Int × Int × Int × Int × Int × Int × Int)) (counts2 : List Int) (day3 : Int) (best11 : Int) (i12 : Int), spec_NextDay.LN6 n x k (spec_NextDay.st6 permits0 list1 counts2 day3 best11 i12) = spec_NextDay.l6 n k permits0 list1 counts2 day3 best11 i12 := by
  intro k
  induction k with
  | zero => intro permits0 list1 counts2 day3 best11 i12; rfl
  | succ k ih =>
    intro permits0 list1 counts2 day3 best11 i12
    have h : spec_NextDay.LN6 n x (k + 1) (spec_NextDay.st6 permits0 list1 counts2 day3 best11 i12) = spec_NextDay.g6 (fun permits0 list1 counts2 day3 best11 i12 => spec_NextDay.LN6 n x k (spec_NextDay.st6 permits0 list1 counts2 day3 best11 i12)) permits0 list1 counts2 day3 best11 i12 := by kernel_rfl
    rw [h]
    simp only [ih]
    rfl
set_option maxRecDepth 100000 in
theorem spec_NextDay.body (n : Nat) (x : (List (Int × Int × Int × Int × List Int × Int)) × (List (ByteArray × Int × Int × Int × Int × Int × Int × Int × Int)) × List Int × Int) : bodyF spec_NextDay.E spec_NextDay.keep n Try.f46 spec_NextDay.con x = spec_NextDay.fn n x.1 x.2.1 x.2.2.1 x.2.2.2 := by
  have h : bodyF spec_NextDay.E spec_NextDay.keep n Try.f46 spec_NextDay.con x = spec_NextDay.top (fun permits0 list1 counts2 day3 best11 i12 => spec_NextDay.LN6 n x n (spec_NextDay.st6 permits0 list1 counts2 day3 best11 i12)) x.1 x.2.1 x.2.2.1 x.2.2.2 := by kernel_rfl
  rw [h]
  simp only [spec_NextDay.lem6]
  rfl
set_option maxRecDepth 100000 in
theorem spec_NextDay.good : Good Try.prog 46 spec_NextDay.con :=
  good_of tabok (cs := spec_NextDay.cs) ⟨spec_l30Code.good, spec_l30Refusals.good, trivial⟩ 0 false (fn := Try.f46) Try.func46 rfl (by decide) (by simp [spec_NextDay.con]) spec_NextDay.keep NN (fun _ => rfl) (fun x => spec_NextDay.body NN x)
end
end Go.Ev.Try

namespace Go.Ev.Try
open Go.Proofs Go.Pl
set_option linter.unusedVariables false
noncomputable section
def impl_NextDay.st7 (list1 : List (ByteArray × Int × Int × Int × Int × Int × Int × Int × Int)) (counts2 : List Int) (day3 : Int) (best10 : Int) (v31 : List (Int × Int × Int × Int × List Int × Int)) (v32 : Int) (v33 : Int) : St := ⟨[.gone, .dat (.sl 95 (.pair .str (.pair (.int .i64) (.pair (.int .i64) (.pair (.int .i64) (.pair (.int .i64) (.pair (.int .i64) (.pair (.int .i64) (.pair (.int .i64) (.int .i64)))))))))) list1, .dat (.sl 2 (.int .i64)) counts2, .dat (.int .i64) day3, .gone, .gone, .gone, .gone, .gone, .gone, .dat (.int .i64) best10, .gone, .gone, .gone, .gone, .gone, .gone, .gone, .gone, .gone, .gone, .gone, .gone, .gone, .gone, .gone, .gone, .gone, .gone, .gone, .gone, .dat (.sl 42 (.pair (.int .i64) (.pair (.int .i64) (.pair (.int .i64) (.pair (.int .i64) (.pair (.sl 2 (.int .i64)) (.int .i64))))))) v31, .dat (.int .i64) v32, .dat (.int .i64) v33, .gone, .gone, .gone, .gone, .gone, .gone, .gone, .gone, .gone, .gone, .gone, .gone, .gone, .gone, .gone, .gone, .gone, .gone, .gone, .gone, .gone, .gone, .gone, .gone, .gone, .gone, .gone], []⟩
def impl_NextDay.con : Con := { ps := [(.val, (.sl 42 (.pair (.int .i64) (.pair (.int .i64) (.pair (.int .i64) (.pair (.int .i64) (.pair (.sl 2 (.int .i64)) (.int .i64)))))))), (.val, (.sl 95 (.pair .str (.pair (.int .i64) (.pair (.int .i64) (.pair (.int .i64) (.pair (.int .i64) (.pair (.int .i64) (.pair (.int .i64) (.pair (.int .i64) (.int .i64))))))))))), (.val, (.sl 2 (.int .i64))), (.val, (.int .i64))], rs := [(.val, (.int .i64)), (.val, (.int .i64))], F := fun x => impl_NextDay.f x.1 x.2.1 x.2.2.1 x.2.2.2 }
def impl_NextDay.cs : List (FuncId × Con) := [(60, impl_arePermits.con), (80, impl_AreArticles.con), (81, impl_areCounts.con), (82, impl_isDay.con), (83, impl_refusalsOf.con)]
def impl_NextDay.E : Env := envOf tab impl_NextDay.cs 0 false
def impl_NextDay.keep (i : Nat) : List Nat := if i = 7 then [1, 2, 3, 10, 31, 32, 33] else []
def impl_NextDay.at7 (n : Nat) (x : (List (Int × Int × Int × Int × List Int × Int)) × (List (ByteArray × Int × Int × Int × Int × Int × Int × Int × Int)) × List Int × Int) : Code × (Ex → St → Option ((Int × Int))) := ctx impl_NextDay.E impl_NextDay.keep n [.snd, .snd, .snd, .snd, .fst, .snd, .blk] (codeOf Try.f47) (kEnd impl_NextDay.E Try.f47 impl_NextDay.con x)
def impl_NextDay.LN7 (n : Nat) (x : (List (Int × Int × Int × Int × List Int × Int)) × (List (ByteArray × Int × Int × Int × Int × Int × Int × Int × Int)) × List Int × Int) : Nat → St → Option ((Int × Int)) := loopN (exec impl_NextDay.E impl_NextDay.keep n (bodyOf (impl_NextDay.at7 n x).1)) (St.norm 0 (impl_NextDay.keep 7)) (impl_NextDay.at7 n x).2
set_option maxRecDepth 100000 in
theorem impl_NextDay.lem7 (n : Nat) (x : (List (Int × Int × Int × Int × List Int × Int)) × (List (ByteArray × Int × Int × Int × Int × Int × Int × Int × Int)) × List Int × Int) : ∀ (k : Nat) (list1 : List (ByteArray × Int × Int × Int × Int × Int × Int × Int × Int)) (counts2 : List Int) (day3 : Int) (best10 : Int) (v31 : List (Int × Int × Int × Int × List Int × Int)) (v32 : Int) (v33 : Int), impl_NextDay.LN7 n x k (impl_NextDay.st7 list1 counts2 day3 best10 v31 v32 v33) = impl_NextDay.l7 n k list1 counts2 day3 best10 v31 v32 v33 := by
  intro k
  induction k with
  | zero => intro list1 counts2 day3 best10 v31 v32 v33; rfl
  | succ k ih =>
    intro list1 counts2 day3 best10 v31 v32 v33
    have h : impl_NextDay.LN7 n x (k + 1) (impl_NextDay.st7 list1 counts2 day3 best10 v31 v32 v33) = impl_NextDay.g7 (fun list1 counts2 day3 best10 v31 v32 v33 => impl_NextDay.LN7 n x k (impl_NextDay.st7 list1 counts2 day3 best10 v31 v32 v33)) list1 counts2 day3 best10 v31 v32 v33 := by kernel_rfl
    rw [h]
    simp only [ih]
    rfl
set_option maxRecDepth 100000 in
theorem impl_NextDay.body (n : Nat) (x : (List (Int × Int × Int × Int × List Int × Int)) × (List (ByteArray × Int × Int × Int × Int × Int × Int × Int × Int)) × List Int × Int) : bodyF impl_NextDay.E impl_NextDay.keep n Try.f47 impl_NextDay.con x = impl_NextDay.fn n x.1 x.2.1 x.2.2.1 x.2.2.2 := by
  have h : bodyF impl_NextDay.E impl_NextDay.keep n Try.f47 impl_NextDay.con x = impl_NextDay.top (fun list1 counts2 day3 best10 v31 v32 v33 => impl_NextDay.LN7 n x n (impl_NextDay.st7 list1 counts2 day3 best10 v31 v32 v33)) x.1 x.2.1 x.2.2.1 x.2.2.2 := by kernel_rfl
  rw [h]
  simp only [impl_NextDay.lem7]
  rfl
set_option maxRecDepth 100000 in
theorem impl_NextDay.good : Good Try.prog 47 impl_NextDay.con :=
  good_of tabok (cs := impl_NextDay.cs) ⟨impl_arePermits.good, impl_AreArticles.good, impl_areCounts.good, impl_isDay.good, impl_refusalsOf.good, trivial⟩ 0 false (fn := Try.f47) Try.func47 rfl (by decide) (by simp [impl_NextDay.con]) impl_NextDay.keep NN (fun _ => rfl) (fun x => impl_NextDay.body NN x)
end
end Go.Ev.Try

namespace Go.Ev.Try
open Go.Proofs Go.Pl
set_option linter.unusedVariables false
noncomputable section
def spec_l01From.st3 (code0 : List Int) (i4 : Int) (s3a : List Int) (s3ba : Int) (s3bb : Int) : St := ⟨[.dat (.sl 5 (.int .u8)) code0, .gone, .gone, .ptr 0 [], .dat (.int .i64) i4, .gone, .gone, .gone, .gone, .gone, .gone, .gone, .gone, .gone, .gone, .gone, .gone, .gone, .gone, .gone, .gone, .gone, .gone, .gone, .gone, .gone, .gone, .gone, .gone, .gone, .gone, .gone, .gone, .gone], [.box 112 (.pair (.sl 5 (.int .u8)) (.pair (.int .i64) (.int .i64))) (.pr (.dat (.sl 5 (.int .u8)) s3a) (.pr (.dat (.int .i64) s3ba) (.dat (.int .i64) s3bb)))]⟩
def spec_l01From.con : Con := { ps := [(.val, (.sl 5 (.int .u8)))], rs := [(.bx 112, (.pair (.sl 5 (.int .u8)) (.pair (.int .i64) (.int .i64))))], F := fun x => spec_l01From.f x }
def spec_l01From.cs : List (FuncId × Con) := []
def spec_l01From.E : Env := envOf tab spec_l01From.cs 0 false
def spec_l01From.keep (i : Nat) : List Nat := if i = 3 then [0, 3, 4] else []
def spec_l01From.at3 (n : Nat) (x : List Int) : Code × (Ex → St → Option ((List Int × Int × Int))) := ctx spec_l01From.E spec_l01From.keep n [.snd, .snd, .fst, .snd, .blk] (codeOf Try.f64) (kEnd spec_l01From.E Try.f64 spec_l01From.con x)
def spec_l01From.LN3 (n : Nat) (x : List Int) : Nat → St → Option ((List Int × Int × Int)) := loopN (exec spec_l01From.E spec_l01From.keep n (bodyOf (spec_l01From.at3 n x).1)) (St.norm 0 (spec_l01From.keep 3)) (spec_l01From.at3 n x).2
set_option maxRecDepth 100000 in
theorem spec_l01From.lem3 (n : Nat) (x : List Int) : ∀ (k : Nat) (code0 : List Int) (i4 : Int) (s3a : List Int) (s3ba : Int) (s3bb : Int), spec_l01From.LN3 n x k (spec_l01From.st3 code0 i4 s3a s3ba s3bb) = spec_l01From.l3 n k code0 i4 s3a s3ba s3bb := by
  intro k
  induction k with
  | zero => intro code0 i4 s3a s3ba s3bb; rfl
  | succ k ih =>
    intro code0 i4 s3a s3ba s3bb
    have h : spec_l01From.LN3 n x (k + 1) (spec_l01From.st3 code0 i4 s3a s3ba s3bb) = spec_l01From.g3 (fun code0 i4 s3a s3ba s3bb => spec_l01From.LN3 n x k (spec_l01From.st3 code0 i4 s3a s3ba s3bb)) code0 i4 s3a s3ba s3bb := by kernel_rfl
    rw [h]
    simp only [ih]
    rfl
set_option maxRecDepth 100000 in
theorem spec_l01From.body (n : Nat) (x : List Int) : bodyF spec_l01From.E spec_l01From.keep n Try.f64 spec_l01From.con x = spec_l01From.fn n x := by
  have h : bodyF spec_l01From.E spec_l01From.keep n Try.f64 spec_l01From.con x = spec_l01From.top (fun code0 i4 s3a s3ba s3bb => spec_l01From.LN3 n x n (spec_l01From.st3 code0 i4 s3a s3ba s3bb)) x := by kernel_rfl
  rw [h]
  simp only [spec_l01From.lem3]
  rfl
set_option maxRecDepth 100000 in
theorem spec_l01From.good : Good Try.prog 64 spec_l01From.con :=
  good_of tabok (cs := spec_l01From.cs) trivial 0 false (fn := Try.f64) Try.func64 rfl (by decide) (by simp [spec_l01From.con]) spec_l01From.keep NN (fun _ => rfl) (fun x => spec_l01From.body NN x)
end
end Go.Ev.Try

namespace Go.Ev.Try
open Go.Proofs Go.Pl
set_option linter.unusedVariables false
noncomputable section
def spec_l01Next.con : Con := { ps := [(.bx 112, (.pair (.sl 5 (.int .u8)) (.pair (.int .i64) (.int .i64)))), (.val, (.int .i64))], rs := [(.val, (.int .i64))], F := fun x => spec_l01Next.f x.1 x.2 }
def spec_l01Next.cs : List (FuncId × Con) := []
def spec_l01Next.E : Env := envOf tab spec_l01Next.cs 1 false
def spec_l01Next.keep (i : Nat) : List Nat := []
set_option maxRecDepth 100000 in
theorem spec_l01Next.body (n : Nat) (x : (List Int × Int × Int) × Int) : bodyF spec_l01Next.E spec_l01Next.keep n Try.f66 spec_l01Next.con x = spec_l01Next.fn n x.1 x.2 := by
  have h : bodyF spec_l01Next.E spec_l01Next.keep n Try.f66 spec_l01Next.con x = spec_l01Next.top x.1 x.2 := by kernel_rfl
  exact h
set_option maxRecDepth 100000 in
theorem spec_l01Next.good : Good Try.prog 66 spec_l01Next.con :=
  good_of tabok (cs := spec_l01Next.cs) trivial 1 false (fn := Try.f66) Try.func66 rfl (by decide) (by simp [spec_l01Next.con]) spec_l01Next.keep NN (fun _ => rfl) (fun x => spec_l01Next.body NN x)
end
end Go.Ev.Try

namespace Go.Ev.Try
open Go.Proofs Go.Pl
set_option linter.unusedVariables false
noncomputable section
def spec_l01Pick.con : Con := { ps := [(.bx 112, (.pair (.sl 5 (.int .u8)) (.pair (.int .i64) (.int .i64)))), (.val, (.sl 2 (.int .i64)))], rs := [(.val, (.int .i64))], F := fun x => spec_l01Pick.f x.1 x.2 }
def spec_l01Pick.cs : List (FuncId × Con) := [(66, spec_l01Next.con)]
def spec_l01Pick.E : Env := envOf tab spec_l01Pick.cs 1 false
def spec_l01Pick.keep (i : Nat) : List Nat := []
set_option maxRecDepth 100000 in
theorem spec_l01Pick.body (n : Nat) (x : (List Int × Int × Int) × List Int) : bodyF spec_l01Pick.E spec_l01Pick.keep n Try.f92 spec_l01Pick.con x = spec_l01Pick.fn n x.1 x.2 := by
  have h : bodyF spec_l01Pick.E spec_l01Pick.keep n Try.f92 spec_l01Pick.con x = spec_l01Pick.top x.1 x.2 := by kernel_rfl
  exact h
set_option maxRecDepth 100000 in
theorem spec_l01Pick.good : Good Try.prog 92 spec_l01Pick.con :=
  good_of tabok (cs := spec_l01Pick.cs) ⟨spec_l01Next.good, trivial⟩ 1 false (fn := Try.f92) Try.func92 rfl (by decide) (by simp [spec_l01Pick.con]) spec_l01Pick.keep NN (fun _ => rfl) (fun x => spec_l01Pick.body NN x)
end
end Go.Ev.Try

namespace Go.Ev.Try
open Go.Proofs Go.Pl
set_option linter.unusedVariables false
noncomputable section
def spec_l30Good.st4 (kind4 : Int) (s0 : List Int × Int × Int) (v2a : Int) (v2ba : Int) (v2bba : Int) (v2bbba : Int) (v2bbbbb : Int) (p3a : Int) (p3ba : Int) (p3bba : Int) (p3bbba : Int) (p3bbbbb : Int) (w3 : List Int) (w4 : List Int) : St := ⟨[.ptr 0 [], .gone, .ptr 1 [], .ptr 2 [], .dat (.int .i64) kind4, .gone, .gone, .gone, .gone, .gone, .gone, .gone, .gone, .gone, .gone, .gone, .gone, .gone, .gone, .gone, .gone, .gone, .gone, .gone, .gone, .gone, .gone, .gone, .gone, .gone, .gone, .gone, .gone, .gone, .gone, .gone, .gone, .gone, .gone, .gone, .gone], [.box 112 (.pair (.sl 5 (.int .u8)) (.pair (.int .i64) (.int .i64))) (.dat (.pair (.sl 5 (.int .u8)) (.pair (.int .i64) (.int .i64))) s0), .box 42 (.pair (.int .i64) (.pair (.int .i64) (.pair (.int .i64) (.pair (.int .i64) (.pair (.sl 2 (.int .i64)) (.int .i64)))))) (.pr (.dat (.int .i64) v2a) (.pr (.dat (.int .i64) v2ba) (.pr (.dat (.int .i64) v2bba) (.pr (.dat (.int .i64) v2bbba) (.pr (.ref 3) (.dat (.int .i64) v2bbbbb)))))), .box 42 (.pair (.int .i64) (.pair (.int .i64) (.pair (.int .i64) (.pair (.int .i64) (.pair (.sl 2 (.int .i64)) (.int .i64)))))) (.pr (.dat (.int .i64) p3a) (.pr (.dat (.int .i64) p3ba) (.pr (.dat (.int .i64) p3bba) (.pr (.dat (.int .i64) p3bbba) (.pr (.ref 4) (.dat (.int .i64) p3bbbbb)))))), .row 2 (.int .i64) w3 none, .row 2 (.int .i64) w4 none]⟩
def spec_l30Good.topraw (I4 : Int → (List Int × Int × Int) → Int → Int → Int → Int → Int → Int → Int → Int → Int → Int → List Int → List Int → Option ((Int × Int × Int × Int × List Int × Int) × List Int × Int × Int)) (s0 : List Int × Int × Int) : Option ((Int × Int × Int × Int × List Int × Int) × List Int × Int × Int) :=
  (spec_l01Next.f s0 30).bind fun r1 =>
  (spec_l01Next.f r1.2 40000).bind fun r2 =>
  (spec_l01Pick.f r2.2 ([75, 150, 300])).bind fun r3 =>
  (spec_l01Next.f r3.2 4).bind fun r4 =>
  (spec_l01Pick.f r4.2 ([3, 3, r4.1])).bind fun r5 =>
  agree (
    (spec_l01Next.f r5.2 20).bind fun r6 =>
    I4 0 r6.2 0 0 0 0 0 (IntKind.i64.wrap (100 + r1.1)) (IntKind.i64.wrap ((IntKind.i64.wrap (100 + r1.1)) + r6.1)) (IntKind.i64.wrap (5000 + r2.1)) r3.1 r5.1 [] []
  ) (
    (spec_l01Next.f r5.2 20).bind fun r6 =>
    I4 0 r6.2 0 0 0 0 0 (IntKind.i64.wrap (100 + r1.1)) (IntKind.i64.wrap ((IntKind.i64.wrap (100 + r1.1)) + r6.1)) (IntKind.i64.wrap (5000 + r2.1)) r3.1 r5.1 [] []
  )
theorem spec_l30Good.topraw_eq (I4 : Int → (List Int × Int × Int) → Int → Int → Int → Int → Int → Int → Int → Int → Int → Int → List Int → List Int → Option ((Int × Int × Int × Int × List Int × Int) × List Int × Int × Int)) (s0 : List Int × Int × Int) : spec_l30Good.topraw I4 s0 = spec_l30Good.top I4 s0 := by
  unfold spec_l30Good.topraw spec_l30Good.top
  simp only [agree_self]
def spec_l30Good.con : Con := { ps := [(.bx 112, (.pair (.sl 5 (.int .u8)) (.pair (.int .i64) (.int .i64))))], rs := [(.own, (.pair (.int .i64) (.pair (.int .i64) (.pair (.int .i64) (.pair (.int .i64) (.pair (.sl 2 (.int .i64)) (.int .i64)))))))], F := fun x => spec_l30Good.f x }
def spec_l30Good.cs : List (FuncId × Con) := [(66, spec_l01Next.con), (92, spec_l01Pick.con)]
def spec_l30Good.E : Env := envOf tab spec_l30Good.cs 1 false
def spec_l30Good.keep (i : Nat) : List Nat := if i = 4 then [0, 2, 3, 4] else []
def spec_l30Good.at4 (n : Nat) (x : List Int × Int × Int) : Code × (Ex → St → Option (((Int × Int × Int × Int × List Int × Int) × List Int × Int × Int))) := ctx spec_l30Good.E spec_l30Good.keep n [.snd, .snd, .snd, .fst, .snd, .blk] (codeOf Try.f105) (kEnd spec_l30Good.E Try.f105 spec_l30Good.con x)
def spec_l30Good.LN4 (n : Nat) (x : List Int × Int × Int) : Nat → St → Option (((Int × Int × Int × Int × List Int × Int) × List Int × Int × Int)) := loopN (exec spec_l30Good.E spec_l30Good.keep n (bodyOf (spec_l30Good.at4 n x).1)) (St.norm 1 (spec_l30Good.keep 4)) (spec_l30Good.at4 n x).2
set_option maxRecDepth 100000 in
theorem spec_l30Good.lem4 (n : Nat) (x : List Int × Int × Int) : ∀ (k : Nat) (kind4 : Int) (s0 : List Int × Int × Int) (v2a : Int) (v2ba : Int) (v2bba : Int) (v2bbba : Int) (v2bbbbb : Int) (p3a : Int) (p3ba : Int) (p3bba : Int) (p3bbba : Int) (p3bbbbb : Int) (w3 : List Int) (w4 : List Int), spec_l30Good.LN4 n x k (spec_l30Good.st4 kind4 s0 v2a v2ba v2bba v2bbba v2bbbbb p3a p3ba p3bba p3bbba p3bbbbb w3 w4) = spec_l30Good.l4 n k kind4 s0 v2a v2ba v2bba v2bbba v2bbbbb p3a p3ba p3bba p3bbba p3bbbbb w3 w4 := by
  intro k
  induction k with
  | zero => intro kind4 s0 v2a v2ba v2bba v2bbba v2bbbbb p3a p3ba p3bba p3bbba p3bbbbb w3 w4; rfl
  | succ k ih =>
    intro kind4 s0 v2a v2ba v2bba v2bbba v2bbbbb p3a p3ba p3bba p3bbba p3bbbbb w3 w4
    have h : spec_l30Good.LN4 n x (k + 1) (spec_l30Good.st4 kind4 s0 v2a v2ba v2bba v2bbba v2bbbbb p3a p3ba p3bba p3bbba p3bbbbb w3 w4) = spec_l30Good.g4 (fun kind4 s0 v2a v2ba v2bba v2bbba v2bbbbb p3a p3ba p3bba p3bbba p3bbbbb w3 w4 => spec_l30Good.LN4 n x k (spec_l30Good.st4 kind4 s0 v2a v2ba v2bba v2bbba v2bbbbb p3a p3ba p3bba p3bbba p3bbbbb w3 w4)) kind4 s0 v2a v2ba v2bba v2bbba v2bbbbb p3a p3ba p3bba p3bbba p3bbbbb w3 w4 := by kernel_rfl
    rw [h]
    simp only [ih]
    rfl
set_option maxRecDepth 100000 in
theorem spec_l30Good.body (n : Nat) (x : List Int × Int × Int) : bodyF spec_l30Good.E spec_l30Good.keep n Try.f105 spec_l30Good.con x = spec_l30Good.fn n x := by
  have h : bodyF spec_l30Good.E spec_l30Good.keep n Try.f105 spec_l30Good.con x = spec_l30Good.topraw (fun kind4 s0 v2a v2ba v2bba v2bbba v2bbbbb p3a p3ba p3bba p3bbba p3bbbbb w3 w4 => spec_l30Good.LN4 n x n (spec_l30Good.st4 kind4 s0 v2a v2ba v2bba v2bbba v2bbbbb p3a p3ba p3bba p3bbba p3bbbbb w3 w4)) x := by kernel_rfl
  rw [spec_l30Good.topraw_eq] at h
  rw [h]
  simp only [spec_l30Good.lem4]
  rfl
set_option maxRecDepth 100000 in
theorem spec_l30Good.good : Good Try.prog 105 spec_l30Good.con :=
  good_of tabok (cs := spec_l30Good.cs) ⟨spec_l01Next.good, spec_l01Pick.good, trivial⟩ 1 false (fn := Try.f105) Try.func105 rfl (by decide) (by simp [spec_l30Good.con]) spec_l30Good.keep NN (fun _ => rfl) (fun x => spec_l30Good.body NN x)
end
end Go.Ev.Try

namespace Go.Ev.Try
open Go.Proofs Go.Pl
set_option linter.unusedVariables false
noncomputable section
def spec_l30Draw.topraw (s0 : List Int × Int × Int) : Option ((Int × Int × Int × Int × List Int × Int) × List Int × Int × Int) :=
  (spec_l30Good.f s0).bind fun r1 =>
  (spec_l01Next.f r1.2 40).bind fun r2 =>
  if ((r2.1 : Int) == 0) = true then
    (spec_l01Pick.f r2.2 ([IntKind.i64.wrap (r1.1.1 - 1), 100000, 100001])).bind fun r3 =>
    some ((r1.1.1, (r3.1, (r1.1.2.2.1, (r1.1.2.2.2.1, (r1.1.2.2.2.2.1, r1.1.2.2.2.2.2))))), r3.2)
  else if ((r2.1 : Int) == 1) = true then
    agree (
      (spec_l01Next.f r2.2 6).bind fun r4 =>
      if r1.1.2.2.2.2.1.length + ([r4.1]).length < room 8 then
        some ((r1.1.1, (r1.1.2.1, (r1.1.2.2.1, (r1.1.2.2.2.1, (r1.1.2.2.2.2.1 ++ ([r4.1]), r1.1.2.2.2.2.2))))), r4.2)
      else
        none
    ) (
      (spec_l01Next.f r2.2 6).bind fun r4 =>
      if r1.1.2.2.2.2.1.length + ([r4.1]).length < room 8 then
        some ((r1.1.1, (r1.1.2.1, (r1.1.2.2.1, (r1.1.2.2.2.1, (r1.1.2.2.2.2.1 ++ ([r4.1]), r1.1.2.2.2.2.2))))), r4.2)
      else
        none
    )
  else if ((r2.1 : Int) == 2) = true then
    (spec_l01Pick.f r2.2 ([(-1), 0, 1000000000, 1000000001])).bind fun r5 =>
    some ((r1.1.1, (r1.1.2.1, (r5.1, (r1.1.2.2.2.1, (r1.1.2.2.2.2.1, r1.1.2.2.2.2.2))))), r5.2)
  else
    some ((r1.1.1, (r1.1.2.1, (r1.1.2.2.1, (r1.1.2.2.2.1, (r1.1.2.2.2.2.1, r1.1.2.2.2.2.2))))), r2.2)
theorem spec_l30Draw.topraw_eq (s0 : List Int × Int × Int) : spec_l30Draw.topraw s0 = spec_l30Draw.top s0 := by
  unfold spec_l30Draw.topraw spec_l30Draw.top
  simp only [agree_self]
def spec_l30Draw.con : Con := { ps := [(.bx 112, (.pair (.sl 5 (.int .u8)) (.pair (.int .i64) (.int .i64))))], rs := [(.own, (.pair (.int .i64) (.pair (.int .i64) (.pair (.int .i64) (.pair (.int .i64) (.pair (.sl 2 (.int .i64)) (.int .i64)))))))], F := fun x => spec_l30Draw.f x }
def spec_l30Draw.cs : List (FuncId × Con) := [(66, spec_l01Next.con), (92, spec_l01Pick.con), (105, spec_l30Good.con)]
def spec_l30Draw.E : Env := envOf tab spec_l30Draw.cs 1 false
def spec_l30Draw.keep (i : Nat) : List Nat := []
set_option maxRecDepth 100000 in
theorem spec_l30Draw.body (n : Nat) (x : List Int × Int × Int) : bodyF spec_l30Draw.E spec_l30Draw.keep n Try.f89 spec_l30Draw.con x = spec_l30Draw.fn n x := by
  have h : bodyF spec_l30Draw.E spec_l30Draw.keep n Try.f89 spec_l30Draw.con x = spec_l30Draw.topraw x := by kernel_rfl
  rw [spec_l30Draw.topraw_eq] at h
  exact h
set_option maxRecDepth 100000 in
theorem spec_l30Draw.good : Good Try.prog 89 spec_l30Draw.con :=
  good_of tabok (cs := spec_l30Draw.cs) ⟨spec_l01Next.good, spec_l01Pick.good, spec_l30Good.good, trivial⟩ 1 false (fn := Try.f89) Try.func89 rfl (by decide) (by simp [spec_l30Draw.con]) spec_l30Draw.keep NN (fun _ => rfl) (fun x => spec_l30Draw.body NN x)
end
end Go.Ev.Try

namespace Go.Ev.Try
open Go.Proofs Go.Pl
set_option linter.unusedVariables false
noncomputable section
def spec_l03Names.con : Con := { ps := [], rs := [(.own, (.sl 9 .str))], F := fun x => spec_l03Names.f  }
def spec_l03Names.cs : List (FuncId × Con) := []
def spec_l03Names.E : Env := envOf tab spec_l03Names.cs 0 false
def spec_l03Names.keep (i : Nat) : List Nat := []
set_option maxRecDepth 100000 in
theorem spec_l03Names.body (n : Nat) (x : Unit) : bodyF spec_l03Names.E spec_l03Names.keep n Try.f106 spec_l03Names.con x = spec_l03Names.fn n  := by
  have h : bodyF spec_l03Names.E spec_l03Names.keep n Try.f106 spec_l03Names.con x = spec_l03Names.top  := by kernel_rfl
  exact h
set_option maxRecDepth 100000 in
theorem spec_l03Names.good : Good Try.prog 106 spec_l03Names.con :=
  good_of tabok (cs := spec_l03Names.cs) trivial 0 false (fn := Try.f106) Try.func106 rfl (by decide) (by simp [spec_l03Names.con]) spec_l03Names.keep NN (fun _ => rfl) (fun x => spec_l03Names.body NN x)
end
end Go.Ev.Try

namespace Go.Ev.Try
open Go.Proofs Go.Pl
set_option linter.unusedVariables false
noncomputable section
def spec_l03Good.con : Con := { ps := [(.bx 112, (.pair (.sl 5 (.int .u8)) (.pair (.int .i64) (.int .i64)))), (.val, .str)], rs := [(.val, (.pair .str (.pair (.int .i64) (.pair (.int .i64) (.pair (.int .i64) (.pair (.int .i64) (.pair (.int .i64) (.pair (.int .i64) (.pair (.int .i64) (.int .i64))))))))))], F := fun x => spec_l03Good.f x.1 x.2 }
def spec_l03Good.cs : List (FuncId × Con) := [(66, spec_l01Next.con), (92, spec_l01Pick.con)]
def spec_l03Good.E : Env := envOf tab spec_l03Good.cs 1 false
def spec_l03Good.keep (i : Nat) : List Nat := []
set_option maxRecDepth 100000 in
theorem spec_l03Good.body (n : Nat) (x : (List Int × Int × Int) × ByteArray) : bodyF spec_l03Good.E spec_l03Good.keep n Try.f108 spec_l03Good.con x = spec_l03Good.fn n x.1 x.2 := by
  have h : bodyF spec_l03Good.E spec_l03Good.keep n Try.f108 spec_l03Good.con x = spec_l03Good.top x.1 x.2 := by kernel_rfl
  exact h
set_option maxRecDepth 100000 in
theorem spec_l03Good.good : Good Try.prog 108 spec_l03Good.con :=
  good_of tabok (cs := spec_l03Good.cs) ⟨spec_l01Next.good, spec_l01Pick.good, trivial⟩ 1 false (fn := Try.f108) Try.func108 rfl (by decide) (by simp [spec_l03Good.con]) spec_l03Good.keep NN (fun _ => rfl) (fun x => spec_l03Good.body NN x)
end
end Go.Ev.Try

namespace Go.Ev.Try
open Go.Proofs Go.Pl
set_option linter.unusedVariables false
noncomputable section
def spec_l01Good.con : Con := { ps := [(.bx 112, (.pair (.sl 5 (.int .u8)) (.pair (.int .i64) (.int .i64))))], rs := [(.val, .str)], F := fun x => spec_l01Good.f x }
def spec_l01Good.cs : List (FuncId × Con) := [(66, spec_l01Next.con)]
def spec_l01Good.E : Env := envOf tab spec_l01Good.cs 1 false
def spec_l01Good.keep (i : Nat) : List Nat := []
set_option maxRecDepth 100000 in
theorem spec_l01Good.body (n : Nat) (x : List Int × Int × Int) : bodyF spec_l01Good.E spec_l01Good.keep n Try.f113 spec_l01Good.con x = spec_l01Good.fn n x := by
  have h : bodyF spec_l01Good.E spec_l01Good.keep n Try.f113 spec_l01Good.con x = spec_l01Good.top x := by kernel_rfl
  exact h
set_option maxRecDepth 100000 in
theorem spec_l01Good.good : Good Try.prog 113 spec_l01Good.con :=
  good_of tabok (cs := spec_l01Good.cs) ⟨spec_l01Next.good, trivial⟩ 1 false (fn := Try.f113) Try.func113 rfl (by decide) (by simp [spec_l01Good.con]) spec_l01Good.keep NN (fun _ => rfl) (fun x => spec_l01Good.body NN x)
end
end Go.Ev.Try

namespace Go.Ev.Try
open Go.Proofs Go.Pl
set_option linter.unusedVariables false
noncomputable section
def spec_l01DrawWord.con : Con := { ps := [(.bx 112, (.pair (.sl 5 (.int .u8)) (.pair (.int .i64) (.int .i64))))], rs := [(.val, .str)], F := fun x => spec_l01DrawWord.f x }
def spec_l01DrawWord.cs : List (FuncId × Con) := [(66, spec_l01Next.con), (113, spec_l01Good.con)]
def spec_l01DrawWord.E : Env := envOf tab spec_l01DrawWord.cs 1 false
def spec_l01DrawWord.keep (i : Nat) : List Nat := []
set_option maxRecDepth 100000 in
theorem spec_l01DrawWord.body (n : Nat) (x : List Int × Int × Int) : bodyF spec_l01DrawWord.E spec_l01DrawWord.keep n Try.f111 spec_l01DrawWord.con x = spec_l01DrawWord.fn n x := by
  have h : bodyF spec_l01DrawWord.E spec_l01DrawWord.keep n Try.f111 spec_l01DrawWord.con x = spec_l01DrawWord.top x := by kernel_rfl
  exact h
set_option maxRecDepth 100000 in
theorem spec_l01DrawWord.good : Good Try.prog 111 spec_l01DrawWord.con :=
  good_of tabok (cs := spec_l01DrawWord.cs) ⟨spec_l01Next.good, spec_l01Good.good, trivial⟩ 1 false (fn := Try.f111) Try.func111 rfl (by decide) (by simp [spec_l01DrawWord.con]) spec_l01DrawWord.keep NN (fun _ => rfl) (fun x => spec_l01DrawWord.body NN x)
end
end Go.Ev.Try

namespace Go.Ev.Try
open Go.Proofs Go.Pl
set_option linter.unusedVariables false
noncomputable section
def spec_l03Draw.con : Con := { ps := [(.bx 112, (.pair (.sl 5 (.int .u8)) (.pair (.int .i64) (.int .i64)))), (.val, .str)], rs := [(.val, (.pair .str (.pair (.int .i64) (.pair (.int .i64) (.pair (.int .i64) (.pair (.int .i64) (.pair (.int .i64) (.pair (.int .i64) (.pair (.int .i64) (.int .i64))))))))))], F := fun x => spec_l03Draw.f x.1 x.2 }
def spec_l03Draw.cs : List (FuncId × Con) := [(66, spec_l01Next.con), (92, spec_l01Pick.con), (108, spec_l03Good.con), (111, spec_l01DrawWord.con)]
def spec_l03Draw.E : Env := envOf tab spec_l03Draw.cs 1 false
def spec_l03Draw.keep (i : Nat) : List Nat := []
set_option maxRecDepth 100000 in
theorem spec_l03Draw.body (n : Nat) (x : (List Int × Int × Int) × ByteArray) : bodyF spec_l03Draw.E spec_l03Draw.keep n Try.f107 spec_l03Draw.con x = spec_l03Draw.fn n x.1 x.2 := by
  have h : bodyF spec_l03Draw.E spec_l03Draw.keep n Try.f107 spec_l03Draw.con x = spec_l03Draw.top x.1 x.2 := by kernel_rfl
  exact h
set_option maxRecDepth 100000 in
theorem spec_l03Draw.good : Good Try.prog 107 spec_l03Draw.con :=
  good_of tabok (cs := spec_l03Draw.cs) ⟨spec_l01Next.good, spec_l01Pick.good, spec_l03Good.good, spec_l01DrawWord.good, trivial⟩ 1 false (fn := Try.f107) Try.func107 rfl (by decide) (by simp [spec_l03Draw.con]) spec_l03Draw.keep NN (fun _ => rfl) (fun x => spec_l03Draw.body NN x)
end
end Go.Ev.Try

namespace Go.Ev.Try
open Go.Proofs Go.Pl
set_option linter.unusedVariables false
noncomputable section
def spec_l03List.st13 (k6 : Int) (s0 : List Int × Int × Int) (out3 : List (ByteArray × Int × Int × Int × Int × Int × Int × Int × Int)) : St := ⟨[.ptr 0 [], .gone, .gone, .ref 1, .gone, .gone, .dat (.int .i64) k6, .gone, .gone, .gone, .gone, .gone, .gone, .gone, .gone, .gone, .gone, .gone, .gone, .gone, .gone, .gone, .gone, .gone, .gone, .gone, .gone, .gone, .gone, .gone, .gone, .gone, .gone, .gone, .gone, .gone, .gone, .gone, .gone, .gone, .gone, .gone, .gone, .gone, .gone, .gone, .gone, .gone, .gone, .gone, .gone, .gone, .gone, .gone, .gone, .gone, .gone, .gone, .gone, .gone, .gone], [.box 112 (.pair (.sl 5 (.int .u8)) (.pair (.int .i64) (.int .i64))) (.dat (.pair (.sl 5 (.int .u8)) (.pair (.int .i64) (.int .i64))) s0), .row 95 (.pair .str (.pair (.int .i64) (.pair (.int .i64) (.pair (.int .i64) (.pair (.int .i64) (.pair (.int .i64) (.pair (.int .i64) (.pair (.int .i64) (.int .i64))))))))) out3 none]⟩
def spec_l03List.st4 (i5 : Int) (s0 : List Int × Int × Int) (out3 : List (ByteArray × Int × Int × Int × Int × Int × Int × Int × Int)) (names4 : List ByteArray) : St := ⟨[.ptr 0 [], .gone, .gone, .ref 1, .ref 2, .dat (.int .i64) i5, .gone, .gone, .gone, .gone, .gone, .gone, .gone, .gone, .gone, .gone, .gone, .gone, .gone, .gone, .gone, .gone, .gone, .gone, .gone, .gone, .gone, .gone, .gone, .gone, .gone, .gone, .gone, .gone, .gone, .gone, .gone, .gone, .gone, .gone, .gone, .gone, .gone, .gone, .gone, .gone, .gone, .gone, .gone, .gone, .gone, .gone, .gone, .gone, .gone, .gone, .gone, .gone, .gone, .gone, .gone], [.box 112 (.pair (.sl 5 (.int .u8)) (.pair (.int .i64) (.int .i64))) (.dat (.pair (.sl 5 (.int .u8)) (.pair (.int .i64) (.int .i64))) s0), .row 95 (.pair .str (.pair (.int .i64) (.pair (.int .i64) (.pair (.int .i64) (.pair (.int .i64) (.pair (.int .i64) (.pair (.int .i64) (.pair (.int .i64) (.int .i64))))))))) out3 none, .row 9 .str names4 none]⟩
def spec_l03List.con : Con := { ps := [(.bx 112, (.pair (.sl 5 (.int .u8)) (.pair (.int .i64) (.int .i64))))], rs := [(.own, (.sl 95 (.pair .str (.pair (.int .i64) (.pair (.int .i64) (.pair (.int .i64) (.pair (.int .i64) (.pair (.int .i64) (.pair (.int .i64) (.pair (.int .i64) (.int .i64)))))))))))], F := fun x => spec_l03List.f x }
def spec_l03List.cs : List (FuncId × Con) := [(66, spec_l01Next.con), (106, spec_l03Names.con), (107, spec_l03Draw.con), (108, spec_l03Good.con)]
def spec_l03List.E : Env := envOf tab spec_l03List.cs 1 false
def spec_l03List.keep (i : Nat) : List Nat := if i = 13 then [0, 3, 6] else if i = 4 then [0, 3, 4, 5] else []
def spec_l03List.at13 (n : Nat) (x : List Int × Int × Int) : Code × (Ex → St → Option (((List (ByteArray × Int × Int × Int × Int × Int × Int × Int × Int)) × List Int × Int × Int))) := ctx spec_l03List.E spec_l03List.keep n [.snd, .snd, .snd, .snd, .fst, .snd, .blk, .snd, .no, .snd, .yes, .snd, .blk] (codeOf Try.f90) (kEnd spec_l03List.E Try.f90 spec_l03List.con x)
def spec_l03List.LN13 (n : Nat) (x : List Int × Int × Int) : Nat → St → Option (((List (ByteArray × Int × Int × Int × Int × Int × Int × Int × Int)) × List Int × Int × Int)) := loopN (exec spec_l03List.E spec_l03List.keep n (bodyOf (spec_l03List.at13 n x).1)) (St.norm 1 (spec_l03List.keep 13)) (spec_l03List.at13 n x).2
def spec_l03List.at4 (n : Nat) (x : List Int × Int × Int) : Code × (Ex → St → Option (((List (ByteArray × Int × Int × Int × Int × Int × Int × Int × Int)) × List Int × Int × Int))) := ctx spec_l03List.E spec_l03List.keep n [.snd, .snd, .snd, .fst, .snd, .blk] (codeOf Try.f90) (kEnd spec_l03List.E Try.f90 spec_l03List.con x)
def spec_l03List.LN4 (n : Nat) (x : List Int × Int × Int) : Nat → St → Option (((List (ByteArray × Int × Int × Int × Int × Int × Int × Int × Int)) × List Int × Int × Int)) := loopN (exec spec_l03List.E spec_l03List.keep n (bodyOf (spec_l03List.at4 n x).1)) (St.norm 1 (spec_l03List.keep 4)) (spec_l03List.at4 n x).2
set_option maxRecDepth 100000 in
theorem spec_l03List.lem13 (n : Nat) (x : List Int × Int × Int) : ∀ (k : Nat) (k6 : Int) (s0 : List Int × Int × Int) (out3 : List (ByteArray × Int × Int × Int × Int × Int × Int × Int × Int)), spec_l03List.LN13 n x k (spec_l03List.st13 k6 s0 out3) = spec_l03List.l13 n k k6 s0 out3 := by
  intro k
  induction k with
  | zero => intro k6 s0 out3; rfl
  | succ k ih =>
    intro k6 s0 out3
    have h : spec_l03List.LN13 n x (k + 1) (spec_l03List.st13 k6 s0 out3) = spec_l03List.g13 (fun k6 s0 out3 => spec_l03List.LN13 n x k (spec_l03List.st13 k6 s0 out3)) k6 s0 out3 := by kernel_rfl
    rw [h]
    simp only [ih]
    rfl
set_option maxRecDepth 100000 in
theorem spec_l03List.lem4 (n : Nat) (x : List Int × Int × Int) : ∀ (k : Nat) (i5 : Int) (s0 : List Int × Int × Int) (out3 : List (ByteArray × Int × Int × Int × Int × Int × Int × Int × Int)) (names4 : List ByteArray), spec_l03List.LN4 n x k (spec_l03List.st4 i5 s0 out3 names4) = spec_l03List.l4 n k i5 s0 out3 names4 := by
  intro k
  induction k with
  | zero => intro i5 s0 out3 names4; rfl
  | succ k ih =>
    intro i5 s0 out3 names4
    have h : spec_l03List.LN4 n x (k + 1) (spec_l03List.st4 i5 s0 out3 names4) = spec_l03List.g4 (fun k6 s0 out3 => spec_l03List.LN13 n x n (spec_l03List.st13 k6 s0 out3)) (fun i5 s0 out3 names4 => spec_l03List.LN4 n x k (spec_l03List.st4 i5 s0 out3 names4)) i5 s0 out3 names4 := by kernel_rfl
    rw [h]
    simp only [ih, spec_l03List.lem13]
    rfl
set_option maxRecDepth 100000 in
theorem spec_l03List.body (n : Nat) (x : List Int × Int × Int) : bodyF spec_l03List.E spec_l03List.keep n Try.f90 spec_l03List.con x = spec_l03List.fn n x := by
  have h : bodyF spec_l03List.E spec_l03List.keep n Try.f90 spec_l03List.con x = spec_l03List.top (fun i5 s0 out3 names4 => spec_l03List.LN4 n x n (spec_l03List.st4 i5 s0 out3 names4)) x := by kernel_rfl
  rw [h]
  simp only [spec_l03List.lem4]
  rfl
set_option maxRecDepth 100000 in
theorem spec_l03List.good : Good Try.prog 90 spec_l03List.con :=
  good_of tabok (cs := spec_l03List.cs) ⟨spec_l01Next.good, spec_l03Names.good, spec_l03Draw.good, spec_l03Good.good, trivial⟩ 1 false (fn := Try.f90) Try.func90 rfl (by decide) (by simp [spec_l03List.con]) spec_l03List.keep NN (fun _ => rfl) (fun x => spec_l03List.body NN x)
end
end Go.Ev.Try

namespace Go.Ev.Try
open Go.Proofs Go.Pl
set_option linter.unusedVariables false
noncomputable section
def spec_l03Counts.st3 (n1 : Int) (i6 : Int) (s0 : List Int × Int × Int) (out5 : List Int) : St := ⟨[.ptr 0 [], .dat (.int .i64) n1, .gone, .gone, .gone, .ref 1, .dat (.int .i64) i6, .gone, .gone, .gone, .gone, .gone, .gone, .gone, .gone, .gone, .gone, .gone, .gone, .gone, .gone, .gone, .gone, .gone, .gone, .gone, .gone, .gone, .gone, .gone, .gone, .gone, .gone, .gone, .gone, .gone, .gone, .gone, .gone, .gone], [.box 112 (.pair (.sl 5 (.int .u8)) (.pair (.int .i64) (.int .i64))) (.dat (.pair (.sl 5 (.int .u8)) (.pair (.int .i64) (.int .i64))) s0), .row 2 (.int .i64) out5 none]⟩
def spec_l03Counts.con : Con := { ps := [(.bx 112, (.pair (.sl 5 (.int .u8)) (.pair (.int .i64) (.int .i64)))), (.val, (.int .i64))], rs := [(.own, (.sl 2 (.int .i64)))], F := fun x => spec_l03Counts.f x.1 x.2 }
def spec_l03Counts.cs : List (FuncId × Con) := [(66, spec_l01Next.con), (92, spec_l01Pick.con)]
def spec_l03Counts.E : Env := envOf tab spec_l03Counts.cs 1 false
def spec_l03Counts.keep (i : Nat) : List Nat := if i = 3 then [0, 1, 5, 6] else []
def spec_l03Counts.at3 (n : Nat) (x : (List Int × Int × Int) × Int) : Code × (Ex → St → Option ((List Int × List Int × Int × Int))) := ctx spec_l03Counts.E spec_l03Counts.keep n [.snd, .snd, .fst, .snd, .blk] (codeOf Try.f91) (kEnd spec_l03Counts.E Try.f91 spec_l03Counts.con x)
def spec_l03Counts.LN3 (n : Nat) (x : (List Int × Int × Int) × Int) : Nat → St → Option ((List Int × List Int × Int × Int)) := loopN (exec spec_l03Counts.E spec_l03Counts.keep n (bodyOf (spec_l03Counts.at3 n x).1)) (St.norm 1 (spec_l03Counts.keep 3)) (spec_l03Counts.at3 n x).2
set_option maxRecDepth 100000 in
theorem spec_l03Counts.lem3 (n : Nat) (x : (List Int × Int × Int) × Int) : ∀ (k : Nat) (n1 : Int) (i6 : Int) (s0 : List Int × Int × Int) (out5 : List Int), spec_l03Counts.LN3 n x k (spec_l03Counts.st3 n1 i6 s0 out5) = spec_l03Counts.l3 n k n1 i6 s0 out5 := by
  intro k
  induction k with
  | zero => intro n1 i6 s0 out5; rfl
  | succ k ih =>
    intro n1 i6 s0 out5
    have h : spec_l03Counts.LN3 n x (k + 1) (spec_l03Counts.st3 n1 i6 s0 out5) = spec_l03Counts.g3 (fun n1 i6 s0 out5 => spec_l03Counts.LN3 n x k (spec_l03Counts.st3 n1 i6 s0 out5)) n1 i6 s0 out5 := by kernel_rfl
    rw [h]
    simp only [ih]
    rfl
set_option maxRecDepth 100000 in
theorem spec_l03Counts.body (n : Nat) (x : (List Int × Int × Int) × Int) : bodyF spec_l03Counts.E spec_l03Counts.keep n Try.f91 spec_l03Counts.con x = spec_l03Counts.fn n x.1 x.2 := by
  have h : bodyF spec_l03Counts.E spec_l03Counts.keep n Try.f91 spec_l03Counts.con x = spec_l03Counts.top (fun n1 i6 s0 out5 => spec_l03Counts.LN3 n x n (spec_l03Counts.st3 n1 i6 s0 out5)) x.1 x.2 := by kernel_rfl
  rw [h]
  simp only [spec_l03Counts.lem3]
  rfl
set_option maxRecDepth 100000 in
theorem spec_l03Counts.good : Good Try.prog 91 spec_l03Counts.con :=
  good_of tabok (cs := spec_l03Counts.cs) ⟨spec_l01Next.good, spec_l01Pick.good, trivial⟩ 1 false (fn := Try.f91) Try.func91 rfl (by decide) (by simp [spec_l03Counts.con]) spec_l03Counts.keep NN (fun _ => rfl) (fun x => spec_l03Counts.body NN x)
end
end Go.Ev.Try

namespace Go.Ev.Try
open Go.Proofs Go.Pl
set_option linter.unusedVariables false
noncomputable section
def spec_DrawRefusalsOf.topraw (code0 : List Int) : Option ((Int × Int × Int × Int × List Int × Int) × (List (ByteArray × Int × Int × Int × Int × Int × Int × Int × Int)) × List Int × Int) :=
  (spec_l01From.f code0).bind fun r1 =>
  (spec_l30Draw.f r1).bind fun r2 =>
  (spec_l03List.f r2.2).bind fun r3 =>
  (spec_l03Counts.f r3.2 (r3.1.length : Int)).bind fun r4 =>
  agree (
    agree (
      (spec_l01Next.f r4.2 50).bind fun r5 =>
      agree (
        agree (
          (spec_l01Pick.f r5.2 ([IntKind.i64.wrap (100 + r5.1), r2.1.1, r2.1.2.1, IntKind.i64.wrap (r2.1.2.1 + 1), 100000, 100001])).bind fun r6 =>
          some ((r2.1.1, (r2.1.2.1, (r2.1.2.2.1, (r2.1.2.2.2.1, (r2.1.2.2.2.2.1, r2.1.2.2.2.2.2))))), r3.1, r4.1, r6.1)
        ) (
          (spec_l01Pick.f r5.2 ([IntKind.i64.wrap (100 + r5.1), r2.1.1, r2.1.2.1, IntKind.i64.wrap (r2.1.2.1 + 1), 100000, 100001])).bind fun r6 =>
          some ((r2.1.1, (r2.1.2.1, (r2.1.2.2.1, (r2.1.2.2.2.1, (r2.1.2.2.2.2.1, r2.1.2.2.2.2.2))))), r3.1, r4.1, r6.1)
        )
      ) (
        agree (
          agree (
            (spec_l01Pick.f r5.2 ([IntKind.i64.wrap (100 + r5.1), r2.1.1, r2.1.2.1, IntKind.i64.wrap (r2.1.2.1 + 1), 100000, 100001])).bind fun r6 =>
            some ((r2.1.1, (r2.1.2.1, (r2.1.2.2.1, (r2.1.2.2.2.1, (r2.1.2.2.2.2.1, r2.1.2.2.2.2.2))))), r3.1, r4.1, r6.1)
          ) (
            (spec_l01Pick.f r5.2 ([IntKind.i64.wrap (100 + r5.1), r2.1.1, r2.1.2.1, IntKind.i64.wrap (r2.1.2.1 + 1), 100000, 100001])).bind fun r6 =>
            some ((r2.1.1, (r2.1.2.1, (r2.1.2.2.1, (r2.1.2.2.2.1, (r2.1.2.2.2.2.1, r2.1.2.2.2.2.2))))), r3.1, r4.1, r6.1)
          )
        ) (
          agree (
            (spec_l01Pick.f r5.2 ([IntKind.i64.wrap (100 + r5.1), r2.1.1, r2.1.2.1, IntKind.i64.wrap (r2.1.2.1 + 1), 100000, 100001])).bind fun r6 =>
            some ((r2.1.1, (r2.1.2.1, (r2.1.2.2.1, (r2.1.2.2.2.1, (r2.1.2.2.2.2.1, r2.1.2.2.2.2.2))))), r3.1, r4.1, r6.1)
          ) (
            (spec_l01Pick.f r5.2 ([IntKind.i64.wrap (100 + r5.1), r2.1.1, r2.1.2.1, IntKind.i64.wrap (r2.1.2.1 + 1), 100000, 100001])).bind fun r6 =>
            some ((r2.1.1, (r2.1.2.1, (r2.1.2.2.1, (r2.1.2.2.2.1, (r2.1.2.2.2.2.1, r2.1.2.2.2.2.2))))), r3.1, r4.1, r6.1)
          )
        )
      )
    ) (
      agree (
        agree (
          (spec_l01Next.f r4.2 50).bind fun r5 =>
          agree (
            (spec_l01Pick.f r5.2 ([IntKind.i64.wrap (100 + r5.1), r2.1.1, r2.1.2.1, IntKind.i64.wrap (r2.1.2.1 + 1), 100000, 100001])).bind fun r6 =>
            some ((r2.1.1, (r2.1.2.1, (r2.1.2.2.1, (r2.1.2.2.2.1, (r2.1.2.2.2.2.1, r2.1.2.2.2.2.2))))), r3.1, r4.1, r6.1)
          ) (
            (spec_l01Pick.f r5.2 ([IntKind.i64.wrap (100 + r5.1), r2.1.1, r2.1.2.1, IntKind.i64.wrap (r2.1.2.1 + 1), 100000, 100001])).bind fun r6 =>
            some ((r2.1.1, (r2.1.2.1, (r2.1.2.2.1, (r2.1.2.2.2.1, (r2.1.2.2.2.2.1, r2.1.2.2.2.2.2))))), r3.1, r4.1, r6.1)
          )
        ) (
          agree (
            agree (
              (spec_l01Next.f r4.2 50).bind fun r5 =>
              (spec_l01Pick.f r5.2 ([IntKind.i64.wrap (100 + r5.1), r2.1.1, r2.1.2.1, IntKind.i64.wrap (r2.1.2.1 + 1), 100000, 100001])).bind fun r6 =>
              some ((r2.1.1, (r2.1.2.1, (r2.1.2.2.1, (r2.1.2.2.2.1, (r2.1.2.2.2.2.1, r2.1.2.2.2.2.2))))), r3.1, r4.1, r6.1)
            ) (
              (spec_l01Next.f r4.2 50).bind fun r5 =>
              (spec_l01Pick.f r5.2 ([IntKind.i64.wrap (100 + r5.1), r2.1.1, r2.1.2.1, IntKind.i64.wrap (r2.1.2.1 + 1), 100000, 100001])).bind fun r6 =>
              some ((r2.1.1, (r2.1.2.1, (r2.1.2.2.1, (r2.1.2.2.2.1, (r2.1.2.2.2.2.1, r2.1.2.2.2.2.2))))), r3.1, r4.1, r6.1)
            )
          ) (
            agree (
              (spec_l01Next.f r4.2 50).bind fun r5 =>
              (spec_l01Pick.f r5.2 ([IntKind.i64.wrap (100 + r5.1), r2.1.1, r2.1.2.1, IntKind.i64.wrap (r2.1.2.1 + 1), 100000, 100001])).bind fun r6 =>
              some ((r2.1.1, (r2.1.2.1, (r2.1.2.2.1, (r2.1.2.2.2.1, (r2.1.2.2.2.2.1, r2.1.2.2.2.2.2))))), r3.1, r4.1, r6.1)
            ) (
              (spec_l01Next.f r4.2 50).bind fun r5 =>
              (spec_l01Pick.f r5.2 ([IntKind.i64.wrap (100 + r5.1), r2.1.1, r2.1.2.1, IntKind.i64.wrap (r2.1.2.1 + 1), 100000, 100001])).bind fun r6 =>
              some ((r2.1.1, (r2.1.2.1, (r2.1.2.2.1, (r2.1.2.2.2.1, (r2.1.2.2.2.2.1, r2.1.2.2.2.2.2))))), r3.1, r4.1, r6.1)
            )
          )
        )
      ) (
        agree (
          agree (
            (spec_l01Next.f r4.2 50).bind fun r5 =>
            agree (
              (spec_l01Pick.f r5.2 ([IntKind.i64.wrap (100 + r5.1), r2.1.1, r2.1.2.1, IntKind.i64.wrap (r2.1.2.1 + 1), 100000, 100001])).bind fun r6 =>
              some ((r2.1.1, (r2.1.2.1, (r2.1.2.2.1, (r2.1.2.2.2.1, (r2.1.2.2.2.2.1, r2.1.2.2.2.2.2))))), r3.1, r4.1, r6.1)
            ) (
              (spec_l01Pick.f r5.2 ([IntKind.i64.wrap (100 + r5.1), r2.1.1, r2.1.2.1, IntKind.i64.wrap (r2.1.2.1 + 1), 100000, 100001])).bind fun r6 =>
              some ((r2.1.1, (r2.1.2.1, (r2.1.2.2.1, (r2.1.2.2.2.1, (r2.1.2.2.2.2.1, r2.1.2.2.2.2.2))))), r3.1, r4.1, r6.1)
            )
          ) (
            agree (
              agree (
                (spec_l01Next.f r4.2 50).bind fun r5 =>
                (spec_l01Pick.f r5.2 ([IntKind.i64.wrap (100 + r5.1), r2.1.1, r2.1.2.1, IntKind.i64.wrap (r2.1.2.1 + 1), 100000, 100001])).bind fun r6 =>
                some ((r2.1.1, (r2.1.2.1, (r2.1.2.2.1, (r2.1.2.2.2.1, (r2.1.2.2.2.2.1, r2.1.2.2.2.2.2))))), r3.1, r4.1, r6.1)
              ) (
                (spec_l01Next.f r4.2 50).bind fun r5 =>
                (spec_l01Pick.f r5.2 ([IntKind.i64.wrap (100 + r5.1), r2.1.1, r2.1.2.1, IntKind.i64.wrap (r2.1.2.1 + 1), 100000, 100001])).bind fun r6 =>
                some ((r2.1.1, (r2.1.2.1, (r2.1.2.2.1, (r2.1.2.2.2.1, (r2.1.2.2.2.2.1, r2.1.2.2.2.2.2))))), r3.1, r4.1, r6.1)
              )
            ) (
              agree (
                (spec_l01Next.f r4.2 50).bind fun r5 =>
                (spec_l01Pick.f r5.2 ([IntKind.i64.wrap (100 + r5.1), r2.1.1, r2.1.2.1, IntKind.i64.wrap (r2.1.2.1 + 1), 100000, 100001])).bind fun r6 =>
                some ((r2.1.1, (r2.1.2.1, (r2.1.2.2.1, (r2.1.2.2.2.1, (r2.1.2.2.2.2.1, r2.1.2.2.2.2.2))))), r3.1, r4.1, r6.1)
              ) (
                (spec_l01Next.f r4.2 50).bind fun r5 =>
                (spec_l01Pick.f r5.2 ([IntKind.i64.wrap (100 + r5.1), r2.1.1, r2.1.2.1, IntKind.i64.wrap (r2.1.2.1 + 1), 100000, 100001])).bind fun r6 =>
                some ((r2.1.1, (r2.1.2.1, (r2.1.2.2.1, (r2.1.2.2.2.1, (r2.1.2.2.2.2.1, r2.1.2.2.2.2.2))))), r3.1, r4.1, r6.1)
              )
            )
          )
        ) (
          agree (
            (spec_l01Next.f r4.2 50).bind fun r5 =>
            agree (
              (spec_l01Pick.f r5.2 ([IntKind.i64.wrap (100 + r5.1), r2.1.1, r2.1.2.1, IntKind.i64.wrap (r2.1.2.1 + 1), 100000, 100001])).bind fun r6 =>
              some ((r2.1.1, (r2.1.2.1, (r2.1.2.2.1, (r2.1.2.2.2.1, (r2.1.2.2.2.2.1, r2.1.2.2.2.2.2))))), r3.1, r4.1, r6.1)
            ) (
              (spec_l01Pick.f r5.2 ([IntKind.i64.wrap (100 + r5.1), r2.1.1, r2.1.2.1, IntKind.i64.wrap (r2.1.2.1 + 1), 100000, 100001])).bind fun r6 =>
              some ((r2.1.1, (r2.1.2.1, (r2.1.2.2.1, (r2.1.2.2.2.1, (r2.1.2.2.2.2.1, r2.1.2.2.2.2.2))))), r3.1, r4.1, r6.1)
            )
          ) (
            agree (
              agree (
                (spec_l01Next.f r4.2 50).bind fun r5 =>
                (spec_l01Pick.f r5.2 ([IntKind.i64.wrap (100 + r5.1), r2.1.1, r2.1.2.1, IntKind.i64.wrap (r2.1.2.1 + 1), 100000, 100001])).bind fun r6 =>
                some ((r2.1.1, (r2.1.2.1, (r2.1.2.2.1, (r2.1.2.2.2.1, (r2.1.2.2.2.2.1, r2.1.2.2.2.2.2))))), r3.1, r4.1, r6.1)
              ) (
                (spec_l01Next.f r4.2 50).bind fun r5 =>
                (spec_l01Pick.f r5.2 ([IntKind.i64.wrap (100 + r5.1), r2.1.1, r2.1.2.1, IntKind.i64.wrap (r2.1.2.1 + 1), 100000, 100001])).bind fun r6 =>
                some ((r2.1.1, (r2.1.2.1, (r2.1.2.2.1, (r2.1.2.2.2.1, (r2.1.2.2.2.2.1, r2.1.2.2.2.2.2))))), r3.1, r4.1, r6.1)
              )
            ) (
              agree (
                (spec_l01Next.f r4.2 50).bind fun r5 =>
                (spec_l01Pick.f r5.2 ([IntKind.i64.wrap (100 + r5.1), r2.1.1, r2.1.2.1, IntKind.i64.wrap (r2.1.2.1 + 1), 100000, 100001])).bind fun r6 =>
                some ((r2.1.1, (r2.1.2.1, (r2.1.2.2.1, (r2.1.2.2.2.1, (r2.1.2.2.2.2.1, r2.1.2.2.2.2.2))))), r3.1, r4.1, r6.1)
              ) (
                (spec_l01Next.f r4.2 50).bind fun r5 =>
                (spec_l01Pick.f r5.2 ([IntKind.i64.wrap (100 + r5.1), r2.1.1, r2.1.2.1, IntKind.i64.wrap (r2.1.2.1 + 1), 100000, 100001])).bind fun r6 =>
                some ((r2.1.1, (r2.1.2.1, (r2.1.2.2.1, (r2.1.2.2.2.1, (r2.1.2.2.2.2.1, r2.1.2.2.2.2.2))))), r3.1, r4.1, r6.1)
              )
            )
          )
        )
      )
    )
  ) (
    agree (
      (spec_l01Next.f r4.2 50).bind fun r5 =>
      agree (
        agree (
          agree (
            (spec_l01Pick.f r5.2 ([IntKind.i64.wrap (100 + r5.1), r2.1.1, r2.1.2.1, IntKind.i64.wrap (r2.1.2.1 + 1), 100000, 100001])).bind fun r6 =>
            some ((r2.1.1, (r2.1.2.1, (r2.1.2.2.1, (r2.1.2.2.2.1, (r2.1.2.2.2.2.1, r2.1.2.2.2.2.2))))), r3.1, r4.1, r6.1)
          ) (
            (spec_l01Pick.f r5.2 ([IntKind.i64.wrap (100 + r5.1), r2.1.1, r2.1.2.1, IntKind.i64.wrap (r2.1.2.1 + 1), 100000, 100001])).bind fun r6 =>
            some ((r2.1.1, (r2.1.2.1, (r2.1.2.2.1, (r2.1.2.2.2.1, (r2.1.2.2.2.2.1, r2.1.2.2.2.2.2))))), r3.1, r4.1, r6.1)
          )
        ) (
          agree (
            agree (
              (spec_l01Pick.f r5.2 ([IntKind.i64.wrap (100 + r5.1), r2.1.1, r2.1.2.1, IntKind.i64.wrap (r2.1.2.1 + 1), 100000, 100001])).bind fun r6 =>
              some ((r2.1.1, (r2.1.2.1, (r2.1.2.2.1, (r2.1.2.2.2.1, (r2.1.2.2.2.2.1, r2.1.2.2.2.2.2))))), r3.1, r4.1, r6.1)
            ) (
              (spec_l01Pick.f r5.2 ([IntKind.i64.wrap (100 + r5.1), r2.1.1, r2.1.2.1, IntKind.i64.wrap (r2.1.2.1 + 1), 100000, 100001])).bind fun r6 =>
              some ((r2.1.1, (r2.1.2.1, (r2.1.2.2.1, (r2.1.2.2.2.1, (r2.1.2.2.2.2.1, r2.1.2.2.2.2.2))))), r3.1, r4.1, r6.1)
            )
          ) (
            agree (
              (spec_l01Pick.f r5.2 ([IntKind.i64.wrap (100 + r5.1), r2.1.1, r2.1.2.1, IntKind.i64.wrap (r2.1.2.1 + 1), 100000, 100001])).bind fun r6 =>
              some ((r2.1.1, (r2.1.2.1, (r2.1.2.2.1, (r2.1.2.2.2.1, (r2.1.2.2.2.2.1, r2.1.2.2.2.2.2))))), r3.1, r4.1, r6.1)
            ) (
              (spec_l01Pick.f r5.2 ([IntKind.i64.wrap (100 + r5.1), r2.1.1, r2.1.2.1, IntKind.i64.wrap (r2.1.2.1 + 1), 100000, 100001])).bind fun r6 =>
              some ((r2.1.1, (r2.1.2.1, (r2.1.2.2.1, (r2.1.2.2.2.1, (r2.1.2.2.2.2.1, r2.1.2.2.2.2.2))))), r3.1, r4.1, r6.1)
            )
          )
        )
      ) (
        agree (
          agree (
            agree (
              (spec_l01Pick.f r5.2 ([IntKind.i64.wrap (100 + r5.1), r2.1.1, r2.1.2.1, IntKind.i64.wrap (r2.1.2.1 + 1), 100000, 100001])).bind fun r6 =>
              some ((r2.1.1, (r2.1.2.1, (r2.1.2.2.1, (r2.1.2.2.2.1, (r2.1.2.2.2.2.1, r2.1.2.2.2.2.2))))), r3.1, r4.1, r6.1)
            ) (
              (spec_l01Pick.f r5.2 ([IntKind.i64.wrap (100 + r5.1), r2.1.1, r2.1.2.1, IntKind.i64.wrap (r2.1.2.1 + 1), 100000, 100001])).bind fun r6 =>
              some ((r2.1.1, (r2.1.2.1, (r2.1.2.2.1, (r2.1.2.2.2.1, (r2.1.2.2.2.2.1, r2.1.2.2.2.2.2))))), r3.1, r4.1, r6.1)
            )
          ) (
            agree (
              agree (
                (spec_l01Pick.f r5.2 ([IntKind.i64.wrap (100 + r5.1), r2.1.1, r2.1.2.1, IntKind.i64.wrap (r2.1.2.1 + 1), 100000, 100001])).bind fun r6 =>
                some ((r2.1.1, (r2.1.2.1, (r2.1.2.2.1, (r2.1.2.2.2.1, (r2.1.2.2.2.2.1, r2.1.2.2.2.2.2))))), r3.1, r4.1, r6.1)
              ) (
                agree (
                  (spec_l01Pick.f r5.2 ([IntKind.i64.wrap (100 + r5.1), r2.1.1, r2.1.2.1, IntKind.i64.wrap (r2.1.2.1 + 1), 100000, 100001])).bind fun r6 =>
                  some ((r2.1.1, (r2.1.2.1, (r2.1.2.2.1, (r2.1.2.2.2.1, (r2.1.2.2.2.2.1, r2.1.2.2.2.2.2))))), r3.1, r4.1, r6.1)
                ) (
                  agree (
                    (spec_l01Pick.f r5.2 ([IntKind.i64.wrap (100 + r5.1), r2.1.1, r2.1.2.1, IntKind.i64.wrap (r2.1.2.1 + 1), 100000, 100001])).bind fun r6 =>
                    some ((r2.1.1, (r2.1.2.1, (r2.1.2.2.1, (r2.1.2.2.2.1, (r2.1.2.2.2.2.1, r2.1.2.2.2.2.2))))), r3.1, r4.1, r6.1)
                  ) (
                    (spec_l01Pick.f r5.2 ([IntKind.i64.wrap (100 + r5.1), r2.1.1, r2.1.2.1, IntKind.i64.wrap (r2.1.2.1 + 1), 100000, 100001])).bind fun r6 =>
                    some ((r2.1.1, (r2.1.2.1, (r2.1.2.2.1, (r2.1.2.2.2.1, (r2.1.2.2.2.2.1, r2.1.2.2.2.2.2))))), r3.1, r4.1, r6.1)
                  )
                )
              )
            ) (
              agree (
                (spec_l01Pick.f r5.2 ([IntKind.i64.wrap (100 + r5.1), r2.1.1, r2.1.2.1, IntKind.i64.wrap (r2.1.2.1 + 1), 100000, 100001])).bind fun r6 =>
                some ((r2.1.1, (r2.1.2.1, (r2.1.2.2.1, (r2.1.2.2.2.1, (r2.1.2.2.2.2.1, r2.1.2.2.2.2.2))))), r3.1, r4.1, r6.1)
              ) (
                agree (
                  (spec_l01Pick.f r5.2 ([IntKind.i64.wrap (100 + r5.1), r2.1.1, r2.1.2.1, IntKind.i64.wrap (r2.1.2.1 + 1), 100000, 100001])).bind fun r6 =>
                  some ((r2.1.1, (r2.1.2.1, (r2.1.2.2.1, (r2.1.2.2.2.1, (r2.1.2.2.2.2.1, r2.1.2.2.2.2.2))))), r3.1, r4.1, r6.1)
                ) (
                  agree (
                    (spec_l01Pick.f r5.2 ([IntKind.i64.wrap (100 + r5.1), r2.1.1, r2.1.2.1, IntKind.i64.wrap (r2.1.2.1 + 1), 100000, 100001])).bind fun r6 =>
                    some ((r2.1.1, (r2.1.2.1, (r2.1.2.2.1, (r2.1.2.2.2.1, (r2.1.2.2.2.2.1, r2.1.2.2.2.2.2))))), r3.1, r4.1, r6.1)
                  ) (
                    (spec_l01Pick.f r5.2 ([IntKind.i64.wrap (100 + r5.1), r2.1.1, r2.1.2.1, IntKind.i64.wrap (r2.1.2.1 + 1), 100000, 100001])).bind fun r6 =>
                    some ((r2.1.1, (r2.1.2.1, (r2.1.2.2.1, (r2.1.2.2.2.1, (r2.1.2.2.2.2.1, r2.1.2.2.2.2.2))))), r3.1, r4.1, r6.1)
                  )
                )
              )
            )
          )
        ) (
          agree (
            agree (
              agree (
                (spec_l01Pick.f r5.2 ([IntKind.i64.wrap (100 + r5.1), r2.1.1, r2.1.2.1, IntKind.i64.wrap (r2.1.2.1 + 1), 100000, 100001])).bind fun r6 =>
                some ((r2.1.1, (r2.1.2.1, (r2.1.2.2.1, (r2.1.2.2.2.1, (r2.1.2.2.2.2.1, r2.1.2.2.2.2.2))))), r3.1, r4.1, r6.1)
              ) (
                (spec_l01Pick.f r5.2 ([IntKind.i64.wrap (100 + r5.1), r2.1.1, r2.1.2.1, IntKind.i64.wrap (r2.1.2.1 + 1), 100000, 100001])).bind fun r6 =>
                some ((r2.1.1, (r2.1.2.1, (r2.1.2.2.1, (r2.1.2.2.2.1, (r2.1.2.2.2.2.1, r2.1.2.2.2.2.2))))), r3.1, r4.1, r6.1)
              )
            ) (
              agree (
                agree (
                  (spec_l01Pick.f r5.2 ([IntKind.i64.wrap (100 + r5.1), r2.1.1, r2.1.2.1, IntKind.i64.wrap (r2.1.2.1 + 1), 100000, 100001])).bind fun r6 =>
                  some ((r2.1.1, (r2.1.2.1, (r2.1.2.2.1, (r2.1.2.2.2.1, (r2.1.2.2.2.2.1, r2.1.2.2.2.2.2))))), r3.1, r4.1, r6.1)
                ) (
                  agree (
                    (spec_l01Pick.f r5.2 ([IntKind.i64.wrap (100 + r5.1), r2.1.1, r2.1.2.1, IntKind.i64.wrap (r2.1.2.1 + 1), 100000, 100001])).bind fun r6 =>
                    some ((r2.1.1, (r2.1.2.1, (r2.1.2.2.1, (r2.1.2.2.2.1, (r2.1.2.2.2.2.1, r2.1.2.2.2.2.2))))), r3.1, r4.1, r6.1)
                  ) (
                    agree (
                      (spec_l01Pick.f r5.2 ([IntKind.i64.wrap (100 + r5.1), r2.1.1, r2.1.2.1, IntKind.i64.wrap (r2.1.2.1 + 1), 100000, 100001])).bind fun r6 =>
                      some ((r2.1.1, (r2.1.2.1, (r2.1.2.2.1, (r2.1.2.2.2.1, (r2.1.2.2.2.2.1, r2.1.2.2.2.2.2))))), r3.1, r4.1, r6.1)
                    ) (
                      (spec_l01Pick.f r5.2 ([IntKind.i64.wrap (100 + r5.1), r2.1.1, r2.1.2.1, IntKind.i64.wrap (r2.1.2.1 + 1), 100000, 100001])).bind fun r6 =>
                      some ((r2.1.1, (r2.1.2.1, (r2.1.2.2.1, (r2.1.2.2.2.1, (r2.1.2.2.2.2.1, r2.1.2.2.2.2.2))))), r3.1, r4.1, r6.1)
                    )
                  )
                )
              ) (
                agree (
                  (spec_l01Pick.f r5.2 ([IntKind.i64.wrap (100 + r5.1), r2.1.1, r2.1.2.1, IntKind.i64.wrap (r2.1.2.1 + 1), 100000, 100001])).bind fun r6 =>
                  some ((r2.1.1, (r2.1.2.1, (r2.1.2.2.1, (r2.1.2.2.2.1, (r2.1.2.2.2.2.1, r2.1.2.2.2.2.2))))), r3.1, r4.1, r6.1)
                ) (
                  agree (
                    (spec_l01Pick.f r5.2 ([IntKind.i64.wrap (100 + r5.1), r2.1.1, r2.1.2.1, IntKind.i64.wrap (r2.1.2.1 + 1), 100000, 100001])).bind fun r6 =>
                    some ((r2.1.1, (r2.1.2.1, (r2.1.2.2.1, (r2.1.2.2.2.1, (r2.1.2.2.2.2.1, r2.1.2.2.2.2.2))))), r3.1, r4.1, r6.1)
                  ) (
                    agree (
                      (spec_l01Pick.f r5.2 ([IntKind.i64.wrap (100 + r5.1), r2.1.1, r2.1.2.1, IntKind.i64.wrap (r2.1.2.1 + 1), 100000, 100001])).bind fun r6 =>
                      some ((r2.1.1, (r2.1.2.1, (r2.1.2.2.1, (r2.1.2.2.2.1, (r2.1.2.2.2.2.1, r2.1.2.2.2.2.2))))), r3.1, r4.1, r6.1)
                    ) (
                      (spec_l01Pick.f r5.2 ([IntKind.i64.wrap (100 + r5.1), r2.1.1, r2.1.2.1, IntKind.i64.wrap (r2.1.2.1 + 1), 100000, 100001])).bind fun r6 =>
                      some ((r2.1.1, (r2.1.2.1, (r2.1.2.2.1, (r2.1.2.2.2.1, (r2.1.2.2.2.2.1, r2.1.2.2.2.2.2))))), r3.1, r4.1, r6.1)
                    )
                  )
                )
              )
            )
          ) (
            agree (
              agree (
                (spec_l01Pick.f r5.2 ([IntKind.i64.wrap (100 + r5.1), r2.1.1, r2.1.2.1, IntKind.i64.wrap (r2.1.2.1 + 1), 100000, 100001])).bind fun r6 =>
                some ((r2.1.1, (r2.1.2.1, (r2.1.2.2.1, (r2.1.2.2.2.1, (r2.1.2.2.2.2.1, r2.1.2.2.2.2.2))))), r3.1, r4.1, r6.1)
              ) (
                (spec_l01Pick.f r5.2 ([IntKind.i64.wrap (100 + r5.1), r2.1.1, r2.1.2.1, IntKind.i64.wrap (r2.1.2.1 + 1), 100000, 100001])).bind fun r6 =>
                some ((r2.1.1, (r2.1.2.1, (r2.1.2.2.1, (r2.1.2.2.2.1, (r2.1.2.2.2.2.1, r2.1.2.2.2.2.2))))), r3.1, r4.1, r6.1)
              )
            ) (
              agree (
                agree (
                  (spec_l01Pick.f r5.2 ([IntKind.i64.wrap (100 + r5.1), r2.1.1, r2.1.2.1, IntKind.i64.wrap (r2.1.2.1 + 1), 100000, 100001])).bind fun r6 =>
                  some ((r2.1.1, (r2.1.2.1, (r2.1.2.2.1, (r2.1.2.2.2.1, (r2.1.2.2.2.2.1, r2.1.2.2.2.2.2))))), r3.1, r4.1, r6.1)
                ) (
                  agree (
                    (spec_l01Pick.f r5.2 ([IntKind.i64.wrap (100 + r5.1), r2.1.1, r2.1.2.1, IntKind.i64.wrap (r2.1.2.1 + 1), 100000, 100001])).bind fun r6 =>
                    some ((r2.1.1, (r2.1.2.1, (r2.1.2.2.1, (r2.1.2.2.2.1, (r2.1.2.2.2.2.1, r2.1.2.2.2.2.2))))), r3.1, r4.1, r6.1)
                  ) (
                    agree (
                      (spec_l01Pick.f r5.2 ([IntKind.i64.wrap (100 + r5.1), r2.1.1, r2.1.2.1, IntKind.i64.wrap (r2.1.2.1 + 1), 100000, 100001])).bind fun r6 =>
                      some ((r2.1.1, (r2.1.2.1, (r2.1.2.2.1, (r2.1.2.2.2.1, (r2.1.2.2.2.2.1, r2.1.2.2.2.2.2))))), r3.1, r4.1, r6.1)
                    ) (
                      (spec_l01Pick.f r5.2 ([IntKind.i64.wrap (100 + r5.1), r2.1.1, r2.1.2.1, IntKind.i64.wrap (r2.1.2.1 + 1), 100000, 100001])).bind fun r6 =>
                      some ((r2.1.1, (r2.1.2.1, (r2.1.2.2.1, (r2.1.2.2.2.1, (r2.1.2.2.2.2.1, r2.1.2.2.2.2.2))))), r3.1, r4.1, r6.1)
                    )
                  )
                )
              ) (
                agree (
                  (spec_l01Pick.f r5.2 ([IntKind.i64.wrap (100 + r5.1), r2.1.1, r2.1.2.1, IntKind.i64.wrap (r2.1.2.1 + 1), 100000, 100001])).bind fun r6 =>
                  some ((r2.1.1, (r2.1.2.1, (r2.1.2.2.1, (r2.1.2.2.2.1, (r2.1.2.2.2.2.1, r2.1.2.2.2.2.2))))), r3.1, r4.1, r6.1)
                ) (
                  agree (
                    (spec_l01Pick.f r5.2 ([IntKind.i64.wrap (100 + r5.1), r2.1.1, r2.1.2.1, IntKind.i64.wrap (r2.1.2.1 + 1), 100000, 100001])).bind fun r6 =>
                    some ((r2.1.1, (r2.1.2.1, (r2.1.2.2.1, (r2.1.2.2.2.1, (r2.1.2.2.2.2.1, r2.1.2.2.2.2.2))))), r3.1, r4.1, r6.1)
                  ) (
                    agree (
                      (spec_l01Pick.f r5.2 ([IntKind.i64.wrap (100 + r5.1), r2.1.1, r2.1.2.1, IntKind.i64.wrap (r2.1.2.1 + 1), 100000, 100001])).bind fun r6 =>
                      some ((r2.1.1, (r2.1.2.1, (r2.1.2.2.1, (r2.1.2.2.2.1, (r2.1.2.2.2.2.1, r2.1.2.2.2.2.2))))), r3.1, r4.1, r6.1)
                    ) (
                      (spec_l01Pick.f r5.2 ([IntKind.i64.wrap (100 + r5.1), r2.1.1, r2.1.2.1, IntKind.i64.wrap (r2.1.2.1 + 1), 100000, 100001])).bind fun r6 =>
                      some ((r2.1.1, (r2.1.2.1, (r2.1.2.2.1, (r2.1.2.2.2.1, (r2.1.2.2.2.2.1, r2.1.2.2.2.2.2))))), r3.1, r4.1, r6.1)
                    )
                  )
                )
              )
            )
          )
        )
      )
    ) (
      agree (
        agree (
          agree (
            (spec_l01Next.f r4.2 50).bind fun r5 =>
            agree (
              (spec_l01Pick.f r5.2 ([IntKind.i64.wrap (100 + r5.1), r2.1.1, r2.1.2.1, IntKind.i64.wrap (r2.1.2.1 + 1), 100000, 100001])).bind fun r6 =>
              some ((r2.1.1, (r2.1.2.1, (r2.1.2.2.1, (r2.1.2.2.2.1, (r2.1.2.2.2.2.1, r2.1.2.2.2.2.2))))), r3.1, r4.1, r6.1)
            ) (
              (spec_l01Pick.f r5.2 ([IntKind.i64.wrap (100 + r5.1), r2.1.1, r2.1.2.1, IntKind.i64.wrap (r2.1.2.1 + 1), 100000, 100001])).bind fun r6 =>
              some ((r2.1.1, (r2.1.2.1, (r2.1.2.2.1, (r2.1.2.2.2.1, (r2.1.2.2.2.2.1, r2.1.2.2.2.2.2))))), r3.1, r4.1, r6.1)
            )
          ) (
            agree (
              agree (
                (spec_l01Next.f r4.2 50).bind fun r5 =>
                (spec_l01Pick.f r5.2 ([IntKind.i64.wrap (100 + r5.1), r2.1.1, r2.1.2.1, IntKind.i64.wrap (r2.1.2.1 + 1), 100000, 100001])).bind fun r6 =>
                some ((r2.1.1, (r2.1.2.1, (r2.1.2.2.1, (r2.1.2.2.2.1, (r2.1.2.2.2.2.1, r2.1.2.2.2.2.2))))), r3.1, r4.1, r6.1)
              ) (
                (spec_l01Next.f r4.2 50).bind fun r5 =>
                (spec_l01Pick.f r5.2 ([IntKind.i64.wrap (100 + r5.1), r2.1.1, r2.1.2.1, IntKind.i64.wrap (r2.1.2.1 + 1), 100000, 100001])).bind fun r6 =>
                some ((r2.1.1, (r2.1.2.1, (r2.1.2.2.1, (r2.1.2.2.2.1, (r2.1.2.2.2.2.1, r2.1.2.2.2.2.2))))), r3.1, r4.1, r6.1)
              )
            ) (
              agree (
                (spec_l01Next.f r4.2 50).bind fun r5 =>
                (spec_l01Pick.f r5.2 ([IntKind.i64.wrap (100 + r5.1), r2.1.1, r2.1.2.1, IntKind.i64.wrap (r2.1.2.1 + 1), 100000, 100001])).bind fun r6 =>
                some ((r2.1.1, (r2.1.2.1, (r2.1.2.2.1, (r2.1.2.2.2.1, (r2.1.2.2.2.2.1, r2.1.2.2.2.2.2))))), r3.1, r4.1, r6.1)
              ) (
                (spec_l01Next.f r4.2 50).bind fun r5 =>
                (spec_l01Pick.f r5.2 ([IntKind.i64.wrap (100 + r5.1), r2.1.1, r2.1.2.1, IntKind.i64.wrap (r2.1.2.1 + 1), 100000, 100001])).bind fun r6 =>
                some ((r2.1.1, (r2.1.2.1, (r2.1.2.2.1, (r2.1.2.2.2.1, (r2.1.2.2.2.2.1, r2.1.2.2.2.2.2))))), r3.1, r4.1, r6.1)
              )
            )
          )
        ) (
          agree (
            (spec_l01Next.f r4.2 50).bind fun r5 =>
            agree (
              agree (
                (spec_l01Pick.f r5.2 ([IntKind.i64.wrap (100 + r5.1), r2.1.1, r2.1.2.1, IntKind.i64.wrap (r2.1.2.1 + 1), 100000, 100001])).bind fun r6 =>
                some ((r2.1.1, (r2.1.2.1, (r2.1.2.2.1, (r2.1.2.2.2.1, (r2.1.2.2.2.2.1, r2.1.2.2.2.2.2))))), r3.1, r4.1, r6.1)
              ) (
                (spec_l01Pick.f r5.2 ([IntKind.i64.wrap (100 + r5.1), r2.1.1, r2.1.2.1, IntKind.i64.wrap (r2.1.2.1 + 1), 100000, 100001])).bind fun r6 =>
                some ((r2.1.1, (r2.1.2.1, (r2.1.2.2.1, (r2.1.2.2.2.1, (r2.1.2.2.2.2.1, r2.1.2.2.2.2.2))))), r3.1, r4.1, r6.1)
              )
            ) (
              agree (
                agree (
                  (spec_l01Pick.f r5.2 ([IntKind.i64.wrap (100 + r5.1), r2.1.1, r2.1.2.1, IntKind.i64.wrap (r2.1.2.1 + 1), 100000, 100001])).bind fun r6 =>
                  some ((r2.1.1, (r2.1.2.1, (r2.1.2.2.1, (r2.1.2.2.2.1, (r2.1.2.2.2.2.1, r2.1.2.2.2.2.2))))), r3.1, r4.1, r6.1)
                ) (
                  agree (
                    (spec_l01Pick.f r5.2 ([IntKind.i64.wrap (100 + r5.1), r2.1.1, r2.1.2.1, IntKind.i64.wrap (r2.1.2.1 + 1), 100000, 100001])).bind fun r6 =>
                    some ((r2.1.1, (r2.1.2.1, (r2.1.2.2.1, (r2.1.2.2.2.1, (r2.1.2.2.2.2.1, r2.1.2.2.2.2.2))))), r3.1, r4.1, r6.1)
                  ) (
                    agree (
                      (spec_l01Pick.f r5.2 ([IntKind.i64.wrap (100 + r5.1), r2.1.1, r2.1.2.1, IntKind.i64.wrap (r2.1.2.1 + 1), 100000, 100001])).bind fun r6 =>
                      some ((r2.1.1, (r2.1.2.1, (r2.1.2.2.1, (r2.1.2.2.2.1, (r2.1.2.2.2.2.1, r2.1.2.2.2.2.2))))), r3.1, r4.1, r6.1)
                    ) (
                      (spec_l01Pick.f r5.2 ([IntKind.i64.wrap (100 + r5.1), r2.1.1, r2.1.2.1, IntKind.i64.wrap (r2.1.2.1 + 1), 100000, 100001])).bind fun r6 =>
                      some ((r2.1.1, (r2.1.2.1, (r2.1.2.2.1, (r2.1.2.2.2.1, (r2.1.2.2.2.2.1, r2.1.2.2.2.2.2))))), r3.1, r4.1, r6.1)
                    )
                  )
                )
              ) (
                agree (
                  (spec_l01Pick.f r5.2 ([IntKind.i64.wrap (100 + r5.1), r2.1.1, r2.1.2.1, IntKind.i64.wrap (r2.1.2.1 + 1), 100000, 100001])).bind fun r6 =>
                  some ((r2.1.1, (r2.1.2.1, (r2.1.2.2.1, (r2.1.2.2.2.1, (r2.1.2.2.2.2.1, r2.1.2.2.2.2.2))))), r3.1, r4.1, r6.1)
                ) (
                  agree (
                    (spec_l01Pick.f r5.2 ([IntKind.i64.wrap (100 + r5.1), r2.1.1, r2.1.2.1, IntKind.i64.wrap (r2.1.2.1 + 1), 100000, 100001])).bind fun r6 =>
                    some ((r2.1.1, (r2.1.2.1, (r2.1.2.2.1, (r2.1.2.2.2.1, (r2.1.2.2.2.2.1, r2.1.2.2.2.2.2))))), r3.1, r4.1, r6.1)
                  ) (
                    agree (
                      (spec_l01Pick.f r5.2 ([IntKind.i64.wrap (100 + r5.1), r2.1.1, r2.1.2.1, IntKind.i64.wrap (r2.1.2.1 + 1), 100000, 100001])).bind fun r6 =>
                      some ((r2.1.1, (r2.1.2.1, (r2.1.2.2.1, (r2.1.2.2.2.1, (r2.1.2.2.2.2.1, r2.1.2.2.2.2.2))))), r3.1, r4.1, r6.1)
                    ) (
                      (spec_l01Pick.f r5.2 ([IntKind.i64.wrap (100 + r5.1), r2.1.1, r2.1.2.1, IntKind.i64.wrap (r2.1.2.1 + 1), 100000, 100001])).bind fun r6 =>
                      some ((r2.1.1, (r2.1.2.1, (r2.1.2.2.1, (r2.1.2.2.2.1, (r2.1.2.2.2.2.1, r2.1.2.2.2.2.2))))), r3.1, r4.1, r6.1)
                    )
                  )
                )
              )
            )
          ) (
            agree (
              agree (
                agree (
                  (spec_l01Next.f r4.2 50).bind fun r5 =>
                  (spec_l01Pick.f r5.2 ([IntKind.i64.wrap (100 + r5.1), r2.1.1, r2.1.2.1, IntKind.i64.wrap (r2.1.2.1 + 1), 100000, 100001])).bind fun r6 =>
                  some ((r2.1.1, (r2.1.2.1, (r2.1.2.2.1, (r2.1.2.2.2.1, (r2.1.2.2.2.2.1, r2.1.2.2.2.2.2))))), r3.1, r4.1, r6.1)
                ) (
                  (spec_l01Next.f r4.2 50).bind fun r5 =>
                  (spec_l01Pick.f r5.2 ([IntKind.i64.wrap (100 + r5.1), r2.1.1, r2.1.2.1, IntKind.i64.wrap (r2.1.2.1 + 1), 100000, 100001])).bind fun r6 =>
                  some ((r2.1.1, (r2.1.2.1, (r2.1.2.2.1, (r2.1.2.2.2.1, (r2.1.2.2.2.2.1, r2.1.2.2.2.2.2))))), r3.1, r4.1, r6.1)
                )
              ) (
                agree (
                  (spec_l01Next.f r4.2 50).bind fun r5 =>
                  agree (
                    (spec_l01Pick.f r5.2 ([IntKind.i64.wrap (100 + r5.1), r2.1.1, r2.1.2.1, IntKind.i64.wrap (r2.1.2.1 + 1), 100000, 100001])).bind fun r6 =>
                    some ((r2.1.1, (r2.1.2.1, (r2.1.2.2.1, (r2.1.2.2.2.1, (r2.1.2.2.2.2.1, r2.1.2.2.2.2.2))))), r3.1, r4.1, r6.1)
                  ) (
                    agree (
                      (spec_l01Pick.f r5.2 ([IntKind.i64.wrap (100 + r5.1), r2.1.1, r2.1.2.1, IntKind.i64.wrap (r2.1.2.1 + 1), 100000, 100001])).bind fun r6 =>
                      some ((r2.1.1, (r2.1.2.1, (r2.1.2.2.1, (r2.1.2.2.2.1, (r2.1.2.2.2.2.1, r2.1.2.2.2.2.2))))), r3.1, r4.1, r6.1)
                    ) (
                      agree (
                        (spec_l01Pick.f r5.2 ([IntKind.i64.wrap (100 + r5.1), r2.1.1, r2.1.2.1, IntKind.i64.wrap (r2.1.2.1 + 1), 100000, 100001])).bind fun r6 =>
                        some ((r2.1.1, (r2.1.2.1, (r2.1.2.2.1, (r2.1.2.2.2.1, (r2.1.2.2.2.2.1, r2.1.2.2.2.2.2))))), r3.1, r4.1, r6.1)
                      ) (
                        (spec_l01Pick.f r5.2 ([IntKind.i64.wrap (100 + r5.1), r2.1.1, r2.1.2.1, IntKind.i64.wrap (r2.1.2.1 + 1), 100000, 100001])).bind fun r6 =>
                        some ((r2.1.1, (r2.1.2.1, (r2.1.2.2.1, (r2.1.2.2.2.1, (r2.1.2.2.2.2.1, r2.1.2.2.2.2.2))))), r3.1, r4.1, r6.1)
                      )
                    )
                  )
                ) (
                  agree (
                    (spec_l01Next.f r4.2 50).bind fun r5 =>
                    (spec_l01Pick.f r5.2 ([IntKind.i64.wrap (100 + r5.1), r2.1.1, r2.1.2.1, IntKind.i64.wrap (r2.1.2.1 + 1), 100000, 100001])).bind fun r6 =>
                    some ((r2.1.1, (r2.1.2.1, (r2.1.2.2.1, (r2.1.2.2.2.1, (r2.1.2.2.2.2.1, r2.1.2.2.2.2.2))))), r3.1, r4.1, r6.1)
                  ) (
                    (spec_l01Next.f r4.2 50).bind fun r5 =>
                    agree (
                      (spec_l01Pick.f r5.2 ([IntKind.i64.wrap (100 + r5.1), r2.1.1, r2.1.2.1, IntKind.i64.wrap (r2.1.2.1 + 1), 100000, 100001])).bind fun r6 =>
                      some ((r2.1.1, (r2.1.2.1, (r2.1.2.2.1, (r2.1.2.2.2.1, (r2.1.2.2.2.2.1, r2.1.2.2.2.2.2))))), r3.1, r4.1, r6.1)
                    ) (
                      agree (
                        (spec_l01Pick.f r5.2 ([IntKind.i64.wrap (100 + r5.1), r2.1.1, r2.1.2.1, IntKind.i64.wrap (r2.1.2.1 + 1), 100000, 100001])).bind fun r6 =>
                        some ((r2.1.1, (r2.1.2.1, (r2.1.2.2.1, (r2.1.2.2.2.1, (r2.1.2.2.2.2.1, r2.1.2.2.2.2.2))))), r3.1, r4.1, r6.1)
                      ) (
                        (spec_l01Pick.f r5.2 ([IntKind.i64.wrap (100 + r5.1), r2.1.1, r2.1.2.1, IntKind.i64.wrap (r2.1.2.1 + 1), 100000, 100001])).bind fun r6 =>
                        some ((r2.1.1, (r2.1.2.1, (r2.1.2.2.1, (r2.1.2.2.2.1, (r2.1.2.2.2.2.1, r2.1.2.2.2.2.2))))), r3.1, r4.1, r6.1)
                      )
                    )
                  )
                )
              )
            ) (
              agree (
                agree (
                  (spec_l01Next.f r4.2 50).bind fun r5 =>
                  (spec_l01Pick.f r5.2 ([IntKind.i64.wrap (100 + r5.1), r2.1.1, r2.1.2.1, IntKind.i64.wrap (r2.1.2.1 + 1), 100000, 100001])).bind fun r6 =>
                  some ((r2.1.1, (r2.1.2.1, (r2.1.2.2.1, (r2.1.2.2.2.1, (r2.1.2.2.2.2.1, r2.1.2.2.2.2.2))))), r3.1, r4.1, r6.1)
                ) (
                  (spec_l01Next.f r4.2 50).bind fun r5 =>
                  (spec_l01Pick.f r5.2 ([IntKind.i64.wrap (100 + r5.1), r2.1.1, r2.1.2.1, IntKind.i64.wrap (r2.1.2.1 + 1), 100000, 100001])).bind fun r6 =>
                  some ((r2.1.1, (r2.1.2.1, (r2.1.2.2.1, (r2.1.2.2.2.1, (r2.1.2.2.2.2.1, r2.1.2.2.2.2.2))))), r3.1, r4.1, r6.1)
                )
              ) (
                agree (
                  (spec_l01Next.f r4.2 50).bind fun r5 =>
                  agree (
                    (spec_l01Pick.f r5.2 ([IntKind.i64.wrap (100 + r5.1), r2.1.1, r2.1.2.1, IntKind.i64.wrap (r2.1.2.1 + 1), 100000, 100001])).bind fun r6 =>
                    some ((r2.1.1, (r2.1.2.1, (r2.1.2.2.1, (r2.1.2.2.2.1, (r2.1.2.2.2.2.1, r2.1.2.2.2.2.2))))), r3.1, r4.1, r6.1)
                  ) (
                    agree (
                      (spec_l01Pick.f r5.2 ([IntKind.i64.wrap (100 + r5.1), r2.1.1, r2.1.2.1, IntKind.i64.wrap (r2.1.2.1 + 1), 100000, 100001])).bind fun r6 =>
                      some ((r2.1.1, (r2.1.2.1, (r2.1.2.2.1, (r2.1.2.2.2.1, (r2.1.2.2.2.2.1, r2.1.2.2.2.2.2))))), r3.1, r4.1, r6.1)
                    ) (
                      agree (
                        (spec_l01Pick.f r5.2 ([IntKind.i64.wrap (100 + r5.1), r2.1.1, r2.1.2.1, IntKind.i64.wrap (r2.1.2.1 + 1), 100000, 100001])).bind fun r6 =>
                        some ((r2.1.1, (r2.1.2.1, (r2.1.2.2.1, (r2.1.2.2.2.1, (r2.1.2.2.2.2.1, r2.1.2.2.2.2.2))))), r3.1, r4.1, r6.1)
                      ) (
                        (spec_l01Pick.f r5.2 ([IntKind.i64.wrap (100 + r5.1), r2.1.1, r2.1.2.1, IntKind.i64.wrap (r2.1.2.1 + 1), 100000, 100001])).bind fun r6 =>
                        some ((r2.1.1, (r2.1.2.1, (r2.1.2.2.1, (r2.1.2.2.2.1, (r2.1.2.2.2.2.1, r2.1.2.2.2.2.2))))), r3.1, r4.1, r6.1)
                      )
                    )
                  )
                ) (
                  agree (
                    (spec_l01Next.f r4.2 50).bind fun r5 =>
                    (spec_l01Pick.f r5.2 ([IntKind.i64.wrap (100 + r5.1), r2.1.1, r2.1.2.1, IntKind.i64.wrap (r2.1.2.1 + 1), 100000, 100001])).bind fun r6 =>
                    some ((r2.1.1, (r2.1.2.1, (r2.1.2.2.1, (r2.1.2.2.2.1, (r2.1.2.2.2.2.1, r2.1.2.2.2.2.2))))), r3.1, r4.1, r6.1)
                  ) (
                    (spec_l01Next.f r4.2 50).bind fun r5 =>
                    agree (
                      (spec_l01Pick.f r5.2 ([IntKind.i64.wrap (100 + r5.1), r2.1.1, r2.1.2.1, IntKind.i64.wrap (r2.1.2.1 + 1), 100000, 100001])).bind fun r6 =>
                      some ((r2.1.1, (r2.1.2.1, (r2.1.2.2.1, (r2.1.2.2.2.1, (r2.1.2.2.2.2.1, r2.1.2.2.2.2.2))))), r3.1, r4.1, r6.1)
                    ) (
                      agree (
                        (spec_l01Pick.f r5.2 ([IntKind.i64.wrap (100 + r5.1), r2.1.1, r2.1.2.1, IntKind.i64.wrap (r2.1.2.1 + 1), 100000, 100001])).bind fun r6 =>
                        some ((r2.1.1, (r2.1.2.1, (r2.1.2.2.1, (r2.1.2.2.2.1, (r2.1.2.2.2.2.1, r2.1.2.2.2.2.2))))), r3.1, r4.1, r6.1)
                      ) (
                        (spec_l01Pick.f r5.2 ([IntKind.i64.wrap (100 + r5.1), r2.1.1, r2.1.2.1, IntKind.i64.wrap (r2.1.2.1 + 1), 100000, 100001])).bind fun r6 =>
                        some ((r2.1.1, (r2.1.2.1, (r2.1.2.2.1, (r2.1.2.2.2.1, (r2.1.2.2.2.2.1, r2.1.2.2.2.2.2))))), r3.1, r4.1, r6.1)
                      )
                    )
                  )
                )
              )
            )
          )
        )
      ) (
        agree (
          agree (
            agree (
              (spec_l01Next.f r4.2 50).bind fun r5 =>
              agree (
                (spec_l01Pick.f r5.2 ([IntKind.i64.wrap (100 + r5.1), r2.1.1, r2.1.2.1, IntKind.i64.wrap (r2.1.2.1 + 1), 100000, 100001])).bind fun r6 =>
                some ((r2.1.1, (r2.1.2.1, (r2.1.2.2.1, (r2.1.2.2.2.1, (r2.1.2.2.2.2.1, r2.1.2.2.2.2.2))))), r3.1, r4.1, r6.1)
              ) (
                (spec_l01Pick.f r5.2 ([IntKind.i64.wrap (100 + r5.1), r2.1.1, r2.1.2.1, IntKind.i64.wrap (r2.1.2.1 + 1), 100000, 100001])).bind fun r6 =>
                some ((r2.1.1, (r2.1.2.1, (r2.1.2.2.1, (r2.1.2.2.2.1, (r2.1.2.2.2.2.1, r2.1.2.2.2.2.2))))), r3.1, r4.1, r6.1)
              )
            ) (
              agree (
                agree (
                  (spec_l01Next.f r4.2 50).bind fun r5 =>
                  (spec_l01Pick.f r5.2 ([IntKind.i64.wrap (100 + r5.1), r2.1.1, r2.1.2.1, IntKind.i64.wrap (r2.1.2.1 + 1), 100000, 100001])).bind fun r6 =>
                  some ((r2.1.1, (r2.1.2.1, (r2.1.2.2.1, (r2.1.2.2.2.1, (r2.1.2.2.2.2.1, r2.1.2.2.2.2.2))))), r3.1, r4.1, r6.1)
                ) (
                  (spec_l01Next.f r4.2 50).bind fun r5 =>
                  (spec_l01Pick.f r5.2 ([IntKind.i64.wrap (100 + r5.1), r2.1.1, r2.1.2.1, IntKind.i64.wrap (r2.1.2.1 + 1), 100000, 100001])).bind fun r6 =>
                  some ((r2.1.1, (r2.1.2.1, (r2.1.2.2.1, (r2.1.2.2.2.1, (r2.1.2.2.2.2.1, r2.1.2.2.2.2.2))))), r3.1, r4.1, r6.1)
                )
              ) (
                agree (
                  (spec_l01Next.f r4.2 50).bind fun r5 =>
                  (spec_l01Pick.f r5.2 ([IntKind.i64.wrap (100 + r5.1), r2.1.1, r2.1.2.1, IntKind.i64.wrap (r2.1.2.1 + 1), 100000, 100001])).bind fun r6 =>
                  some ((r2.1.1, (r2.1.2.1, (r2.1.2.2.1, (r2.1.2.2.2.1, (r2.1.2.2.2.2.1, r2.1.2.2.2.2.2))))), r3.1, r4.1, r6.1)
                ) (
                  (spec_l01Next.f r4.2 50).bind fun r5 =>
                  (spec_l01Pick.f r5.2 ([IntKind.i64.wrap (100 + r5.1), r2.1.1, r2.1.2.1, IntKind.i64.wrap (r2.1.2.1 + 1), 100000, 100001])).bind fun r6 =>
                  some ((r2.1.1, (r2.1.2.1, (r2.1.2.2.1, (r2.1.2.2.2.1, (r2.1.2.2.2.2.1, r2.1.2.2.2.2.2))))), r3.1, r4.1, r6.1)
                )
              )
            )
          ) (
            agree (
              (spec_l01Next.f r4.2 50).bind fun r5 =>
              agree (
                agree (
                  (spec_l01Pick.f r5.2 ([IntKind.i64.wrap (100 + r5.1), r2.1.1, r2.1.2.1, IntKind.i64.wrap (r2.1.2.1 + 1), 100000, 100001])).bind fun r6 =>
                  some ((r2.1.1, (r2.1.2.1, (r2.1.2.2.1, (r2.1.2.2.2.1, (r2.1.2.2.2.2.1, r2.1.2.2.2.2.2))))), r3.1, r4.1, r6.1)
                ) (
                  (spec_l01Pick.f r5.2 ([IntKind.i64.wrap (100 + r5.1), r2.1.1, r2.1.2.1, IntKind.i64.wrap (r2.1.2.1 + 1), 100000, 100001])).bind fun r6 =>
                  some ((r2.1.1, (r2.1.2.1, (r2.1.2.2.1, (r2.1.2.2.2.1, (r2.1.2.2.2.2.1, r2.1.2.2.2.2.2))))), r3.1, r4.1, r6.1)
                )
              ) (
                agree (
                  agree (
                    (spec_l01Pick.f r5.2 ([IntKind.i64.wrap (100 + r5.1), r2.1.1, r2.1.2.1, IntKind.i64.wrap (r2.1.2.1 + 1), 100000, 100001])).bind fun r6 =>
                    some ((r2.1.1, (r2.1.2.1, (r2.1.2.2.1, (r2.1.2.2.2.1, (r2.1.2.2.2.2.1, r2.1.2.2.2.2.2))))), r3.1, r4.1, r6.1)
                  ) (
                    agree (
                      (spec_l01Pick.f r5.2 ([IntKind.i64.wrap (100 + r5.1), r2.1.1, r2.1.2.1, IntKind.i64.wrap (r2.1.2.1 + 1), 100000, 100001])).bind fun r6 =>
                      some ((r2.1.1, (r2.1.2.1, (r2.1.2.2.1, (r2.1.2.2.2.1, (r2.1.2.2.2.2.1, r2.1.2.2.2.2.2))))), r3.1, r4.1, r6.1)
                    ) (
                      agree (
                        (spec_l01Pick.f r5.2 ([IntKind.i64.wrap (100 + r5.1), r2.1.1, r2.1.2.1, IntKind.i64.wrap (r2.1.2.1 + 1), 100000, 100001])).bind fun r6 =>
                        some ((r2.1.1, (r2.1.2.1, (r2.1.2.2.1, (r2.1.2.2.2.1, (r2.1.2.2.2.2.1, r2.1.2.2.2.2.2))))), r3.1, r4.1, r6.1)
                      ) (
                        (spec_l01Pick.f r5.2 ([IntKind.i64.wrap (100 + r5.1), r2.1.1, r2.1.2.1, IntKind.i64.wrap (r2.1.2.1 + 1), 100000, 100001])).bind fun r6 =>
                        some ((r2.1.1, (r2.1.2.1, (r2.1.2.2.1, (r2.1.2.2.2.1, (r2.1.2.2.2.2.1, r2.1.2.2.2.2.2))))), r3.1, r4.1, r6.1)
                      )
                    )
                  )
                ) (
                  agree (
                    (spec_l01Pick.f r5.2 ([IntKind.i64.wrap (100 + r5.1), r2.1.1, r2.1.2.1, IntKind.i64.wrap (r2.1.2.1 + 1), 100000, 100001])).bind fun r6 =>
                    some ((r2.1.1, (r2.1.2.1, (r2.1.2.2.1, (r2.1.2.2.2.1, (r2.1.2.2.2.2.1, r2.1.2.2.2.2.2))))), r3.1, r4.1, r6.1)
                  ) (
                    agree (
                      (spec_l01Pick.f r5.2 ([IntKind.i64.wrap (100 + r5.1), r2.1.1, r2.1.2.1, IntKind.i64.wrap (r2.1.2.1 + 1), 100000, 100001])).bind fun r6 =>
                      some ((r2.1.1, (r2.1.2.1, (r2.1.2.2.1, (r2.1.2.2.2.1, (r2.1.2.2.2.2.1, r2.1.2.2.2.2.2))))), r3.1, r4.1, r6.1)
                    ) (
                      agree (
                        (spec_l01Pick.f r5.2 ([IntKind.i64.wrap (100 + r5.1), r2.1.1, r2.1.2.1, IntKind.i64.wrap (r2.1.2.1 + 1), 100000, 100001])).bind fun r6 =>
                        some ((r2.1.1, (r2.1.2.1, (r2.1.2.2.1, (r2.1.2.2.2.1, (r2.1.2.2.2.2.1, r2.1.2.2.2.2.2))))), r3.1, r4.1, r6.1)
                      ) (
                        (spec_l01Pick.f r5.2 ([IntKind.i64.wrap (100 + r5.1), r2.1.1, r2.1.2.1, IntKind.i64.wrap (r2.1.2.1 + 1), 100000, 100001])).bind fun r6 =>
                        some ((r2.1.1, (r2.1.2.1, (r2.1.2.2.1, (r2.1.2.2.2.1, (r2.1.2.2.2.2.1, r2.1.2.2.2.2.2))))), r3.1, r4.1, r6.1)
                      )
                    )
                  )
                )
              )
            ) (
              agree (
                agree (
                  agree (
                    (spec_l01Next.f r4.2 50).bind fun r5 =>
                    (spec_l01Pick.f r5.2 ([IntKind.i64.wrap (100 + r5.1), r2.1.1, r2.1.2.1, IntKind.i64.wrap (r2.1.2.1 + 1), 100000, 100001])).bind fun r6 =>
                    some ((r2.1.1, (r2.1.2.1, (r2.1.2.2.1, (r2.1.2.2.2.1, (r2.1.2.2.2.2.1, r2.1.2.2.2.2.2))))), r3.1, r4.1, r6.1)
                  ) (
                    (spec_l01Next.f r4.2 50).bind fun r5 =>
                    (spec_l01Pick.f r5.2 ([IntKind.i64.wrap (100 + r5.1), r2.1.1, r2.1.2.1, IntKind.i64.wrap (r2.1.2.1 + 1), 100000, 100001])).bind fun r6 =>
                    some ((r2.1.1, (r2.1.2.1, (r2.1.2.2.1, (r2.1.2.2.2.1, (r2.1.2.2.2.2.1, r2.1.2.2.2.2.2))))), r3.1, r4.1, r6.1)
                  )
                ) (
                  agree (
                    (spec_l01Next.f r4.2 50).bind fun r5 =>
                    agree (
                      (spec_l01Pick.f r5.2 ([IntKind.i64.wrap (100 + r5.1), r2.1.1, r2.1.2.1, IntKind.i64.wrap (r2.1.2.1 + 1), 100000, 100001])).bind fun r6 =>
                      some ((r2.1.1, (r2.1.2.1, (r2.1.2.2.1, (r2.1.2.2.2.1, (r2.1.2.2.2.2.1, r2.1.2.2.2.2.2))))), r3.1, r4.1, r6.1)
                    ) (
                      agree (
                        (spec_l01Pick.f r5.2 ([IntKind.i64.wrap (100 + r5.1), r2.1.1, r2.1.2.1, IntKind.i64.wrap (r2.1.2.1 + 1), 100000, 100001])).bind fun r6 =>
                        some ((r2.1.1, (r2.1.2.1, (r2.1.2.2.1, (r2.1.2.2.2.1, (r2.1.2.2.2.2.1, r2.1.2.2.2.2.2))))), r3.1, r4.1, r6.1)
                      ) (
                        agree (
                          (spec_l01Pick.f r5.2 ([IntKind.i64.wrap (100 + r5.1), r2.1.1, r2.1.2.1, IntKind.i64.wrap (r2.1.2.1 + 1), 100000, 100001])).bind fun r6 =>
                          some ((r2.1.1, (r2.1.2.1, (r2.1.2.2.1, (r2.1.2.2.2.1, (r2.1.2.2.2.2.1, r2.1.2.2.2.2.2))))), r3.1, r4.1, r6.1)
                        ) (
                          (spec_l01Pick.f r5.2 ([IntKind.i64.wrap (100 + r5.1), r2.1.1, r2.1.2.1, IntKind.i64.wrap (r2.1.2.1 + 1), 100000, 100001])).bind fun r6 =>
                          some ((r2.1.1, (r2.1.2.1, (r2.1.2.2.1, (r2.1.2.2.2.1, (r2.1.2.2.2.2.1, r2.1.2.2.2.2.2))))), r3.1, r4.1, r6.1)
                        )
                      )
                    )
                  ) (
                    agree (
                      (spec_l01Next.f r4.2 50).bind fun r5 =>
                      (spec_l01Pick.f r5.2 ([IntKind.i64.wrap (100 + r5.1), r2.1.1, r2.1.2.1, IntKind.i64.wrap (r2.1.2.1 + 1), 100000, 100001])).bind fun r6 =>
                      some ((r2.1.1, (r2.1.2.1, (r2.1.2.2.1, (r2.1.2.2.2.1, (r2.1.2.2.2.2.1, r2.1.2.2.2.2.2))))), r3.1, r4.1, r6.1)
                    ) (
                      (spec_l01Next.f r4.2 50).bind fun r5 =>
                      agree (
                        (spec_l01Pick.f r5.2 ([IntKind.i64.wrap (100 + r5.1), r2.1.1, r2.1.2.1, IntKind.i64.wrap (r2.1.2.1 + 1), 100000, 100001])).bind fun r6 =>
                        some ((r2.1.1, (r2.1.2.1, (r2.1.2.2.1, (r2.1.2.2.2.1, (r2.1.2.2.2.2.1, r2.1.2.2.2.2.2))))), r3.1, r4.1, r6.1)
                      ) (
                        agree (
                          (spec_l01Pick.f r5.2 ([IntKind.i64.wrap (100 + r5.1), r2.1.1, r2.1.2.1, IntKind.i64.wrap (r2.1.2.1 + 1), 100000, 100001])).bind fun r6 =>
                          some ((r2.1.1, (r2.1.2.1, (r2.1.2.2.1, (r2.1.2.2.2.1, (r2.1.2.2.2.2.1, r2.1.2.2.2.2.2))))), r3.1, r4.1, r6.1)
                        ) (
                          (spec_l01Pick.f r5.2 ([IntKind.i64.wrap (100 + r5.1), r2.1.1, r2.1.2.1, IntKind.i64.wrap (r2.1.2.1 + 1), 100000, 100001])).bind fun r6 =>
                          some ((r2.1.1, (r2.1.2.1, (r2.1.2.2.1, (r2.1.2.2.2.1, (r2.1.2.2.2.2.1, r2.1.2.2.2.2.2))))), r3.1, r4.1, r6.1)
                        )
                      )
                    )
                  )
                )
              ) (
                agree (
                  agree (
                    (spec_l01Next.f r4.2 50).bind fun r5 =>
                    (spec_l01Pick.f r5.2 ([IntKind.i64.wrap (100 + r5.1), r2.1.1, r2.1.2.1, IntKind.i64.wrap (r2.1.2.1 + 1), 100000, 100001])).bind fun r6 =>
                    some ((r2.1.1, (r2.1.2.1, (r2.1.2.2.1, (r2.1.2.2.2.1, (r2.1.2.2.2.2.1, r2.1.2.2.2.2.2))))), r3.1, r4.1, r6.1)
                  ) (
                    (spec_l01Next.f r4.2 50).bind fun r5 =>
                    (spec_l01Pick.f r5.2 ([IntKind.i64.wrap (100 + r5.1), r2.1.1, r2.1.2.1, IntKind.i64.wrap (r2.1.2.1 + 1), 100000, 100001])).bind fun r6 =>
                    some ((r2.1.1, (r2.1.2.1, (r2.1.2.2.1, (r2.1.2.2.2.1, (r2.1.2.2.2.2.1, r2.1.2.2.2.2.2))))), r3.1, r4.1, r6.1)
                  )
                ) (
                  agree (
                    (spec_l01Next.f r4.2 50).bind fun r5 =>
                    agree (
                      (spec_l01Pick.f r5.2 ([IntKind.i64.wrap (100 + r5.1), r2.1.1, r2.1.2.1, IntKind.i64.wrap (r2.1.2.1 + 1), 100000, 100001])).bind fun r6 =>
                      some ((r2.1.1, (r2.1.2.1, (r2.1.2.2.1, (r2.1.2.2.2.1, (r2.1.2.2.2.2.1, r2.1.2.2.2.2.2))))), r3.1, r4.1, r6.1)
                    ) (
                      agree (
                        (spec_l01Pick.f r5.2 ([IntKind.i64.wrap (100 + r5.1), r2.1.1, r2.1.2.1, IntKind.i64.wrap (r2.1.2.1 + 1), 100000, 100001])).bind fun r6 =>
                        some ((r2.1.1, (r2.1.2.1, (r2.1.2.2.1, (r2.1.2.2.2.1, (r2.1.2.2.2.2.1, r2.1.2.2.2.2.2))))), r3.1, r4.1, r6.1)
                      ) (
                        agree (
                          (spec_l01Pick.f r5.2 ([IntKind.i64.wrap (100 + r5.1), r2.1.1, r2.1.2.1, IntKind.i64.wrap (r2.1.2.1 + 1), 100000, 100001])).bind fun r6 =>
                          some ((r2.1.1, (r2.1.2.1, (r2.1.2.2.1, (r2.1.2.2.2.1, (r2.1.2.2.2.2.1, r2.1.2.2.2.2.2))))), r3.1, r4.1, r6.1)
                        ) (
                          (spec_l01Pick.f r5.2 ([IntKind.i64.wrap (100 + r5.1), r2.1.1, r2.1.2.1, IntKind.i64.wrap (r2.1.2.1 + 1), 100000, 100001])).bind fun r6 =>
                          some ((r2.1.1, (r2.1.2.1, (r2.1.2.2.1, (r2.1.2.2.2.1, (r2.1.2.2.2.2.1, r2.1.2.2.2.2.2))))), r3.1, r4.1, r6.1)
                        )
                      )
                    )
                  ) (
                    agree (
                      (spec_l01Next.f r4.2 50).bind fun r5 =>
                      (spec_l01Pick.f r5.2 ([IntKind.i64.wrap (100 + r5.1), r2.1.1, r2.1.2.1, IntKind.i64.wrap (r2.1.2.1 + 1), 100000, 100001])).bind fun r6 =>
                      some ((r2.1.1, (r2.1.2.1, (r2.1.2.2.1, (r2.1.2.2.2.1, (r2.1.2.2.2.2.1, r2.1.2.2.2.2.2))))), r3.1, r4.1, r6.1)
                    ) (
                      (spec_l01Next.f r4.2 50).bind fun r5 =>
                      agree (
                        (spec_l01Pick.f r5.2 ([IntKind.i64.wrap (100 + r5.1), r2.1.1, r2.1.2.1, IntKind.i64.wrap (r2.1.2.1 + 1), 100000, 100001])).bind fun r6 =>
                        some ((r2.1.1, (r2.1.2.1, (r2.1.2.2.1, (r2.1.2.2.2.1, (r2.1.2.2.2.2.1, r2.1.2.2.2.2.2))))), r3.1, r4.1, r6.1)
                      ) (
                        agree (
                          (spec_l01Pick.f r5.2 ([IntKind.i64.wrap (100 + r5.1), r2.1.1, r2.1.2.1, IntKind.i64.wrap (r2.1.2.1 + 1), 100000, 100001])).bind fun r6 =>
                          some ((r2.1.1, (r2.1.2.1, (r2.1.2.2.1, (r2.1.2.2.2.1, (r2.1.2.2.2.2.1, r2.1.2.2.2.2.2))))), r3.1, r4.1, r6.1)
                        ) (
                          (spec_l01Pick.f r5.2 ([IntKind.i64.wrap (100 + r5.1), r2.1.1, r2.1.2.1, IntKind.i64.wrap (r2.1.2.1 + 1), 100000, 100001])).bind fun r6 =>
                          some ((r2.1.1, (r2.1.2.1, (r2.1.2.2.1, (r2.1.2.2.2.1, (r2.1.2.2.2.2.1, r2.1.2.2.2.2.2))))), r3.1, r4.1, r6.1)
                        )
                      )
                    )
                  )
                )
              )
            )
          )
        ) (
          agree (
            agree (
              (spec_l01Next.f r4.2 50).bind fun r5 =>
              agree (
                (spec_l01Pick.f r5.2 ([IntKind.i64.wrap (100 + r5.1), r2.1.1, r2.1.2.1, IntKind.i64.wrap (r2.1.2.1 + 1), 100000, 100001])).bind fun r6 =>
                some ((r2.1.1, (r2.1.2.1, (r2.1.2.2.1, (r2.1.2.2.2.1, (r2.1.2.2.2.2.1, r2.1.2.2.2.2.2))))), r3.1, r4.1, r6.1)
              ) (
                (spec_l01Pick.f r5.2 ([IntKind.i64.wrap (100 + r5.1), r2.1.1, r2.1.2.1, IntKind.i64.wrap (r2.1.2.1 + 1), 100000, 100001])).bind fun r6 =>
                some ((r2.1.1, (r2.1.2.1, (r2.1.2.2.1, (r2.1.2.2.2.1, (r2.1.2.2.2.2.1, r2.1.2.2.2.2.2))))), r3.1, r4.1, r6.1)
              )
            ) (
              agree (
                agree (
                  (spec_l01Next.f r4.2 50).bind fun r5 =>
                  (spec_l01Pick.f r5.2 ([IntKind.i64.wrap (100 + r5.1), r2.1.1, r2.1.2.1, IntKind.i64.wrap (r2.1.2.1 + 1), 100000, 100001])).bind fun r6 =>
                  some ((r2.1.1, (r2.1.2.1, (r2.1.2.2.1, (r2.1.2.2.2.1, (r2.1.2.2.2.2.1, r2.1.2.2.2.2.2))))), r3.1, r4.1, r6.1)
                ) (
                  (spec_l01Next.f r4.2 50).bind fun r5 =>
                  (spec_l01Pick.f r5.2 ([IntKind.i64.wrap (100 + r5.1), r2.1.1, r2.1.2.1, IntKind.i64.wrap (r2.1.2.1 + 1), 100000, 100001])).bind fun r6 =>
                  some ((r2.1.1, (r2.1.2.1, (r2.1.2.2.1, (r2.1.2.2.2.1, (r2.1.2.2.2.2.1, r2.1.2.2.2.2.2))))), r3.1, r4.1, r6.1)
                )
              ) (
                agree (
                  (spec_l01Next.f r4.2 50).bind fun r5 =>
                  (spec_l01Pick.f r5.2 ([IntKind.i64.wrap (100 + r5.1), r2.1.1, r2.1.2.1, IntKind.i64.wrap (r2.1.2.1 + 1), 100000, 100001])).bind fun r6 =>
                  some ((r2.1.1, (r2.1.2.1, (r2.1.2.2.1, (r2.1.2.2.2.1, (r2.1.2.2.2.2.1, r2.1.2.2.2.2.2))))), r3.1, r4.1, r6.1)
                ) (
                  (spec_l01Next.f r4.2 50).bind fun r5 =>
                  (spec_l01Pick.f r5.2 ([IntKind.i64.wrap (100 + r5.1), r2.1.1, r2.1.2.1, IntKind.i64.wrap (r2.1.2.1 + 1), 100000, 100001])).bind fun r6 =>
                  some ((r2.1.1, (r2.1.2.1, (r2.1.2.2.1, (r2.1.2.2.2.1, (r2.1.2.2.2.2.1, r2.1.2.2.2.2.2))))), r3.1, r4.1, r6.1)
                )
              )
            )
          ) (
            agree (
              (spec_l01Next.f r4.2 50).bind fun r5 =>
              agree (
                agree (
                  (spec_l01Pick.f r5.2 ([IntKind.i64.wrap (100 + r5.1), r2.1.1, r2.1.2.1, IntKind.i64.wrap (r2.1.2.1 + 1), 100000, 100001])).bind fun r6 =>
                  some ((r2.1.1, (r2.1.2.1, (r2.1.2.2.1, (r2.1.2.2.2.1, (r2.1.2.2.2.2.1, r2.1.2.2.2.2.2))))), r3.1, r4.1, r6.1)
                ) (
                  (spec_l01Pick.f r5.2 ([IntKind.i64.wrap (100 + r5.1), r2.1.1, r2.1.2.1, IntKind.i64.wrap (r2.1.2.1 + 1), 100000, 100001])).bind fun r6 =>
                  some ((r2.1.1, (r2.1.2.1, (r2.1.2.2.1, (r2.1.2.2.2.1, (r2.1.2.2.2.2.1, r2.1.2.2.2.2.2))))), r3.1, r4.1, r6.1)
                )
              ) (
                agree (
                  agree (
                    (spec_l01Pick.f r5.2 ([IntKind.i64.wrap (100 + r5.1), r2.1.1, r2.1.2.1, IntKind.i64.wrap (r2.1.2.1 + 1), 100000, 100001])).bind fun r6 =>
                    some ((r2.1.1, (r2.1.2.1, (r2.1.2.2.1, (r2.1.2.2.2.1, (r2.1.2.2.2.2.1, r2.1.2.2.2.2.2))))), r3.1, r4.1, r6.1)
                  ) (
                    agree (
                      (spec_l01Pick.f r5.2 ([IntKind.i64.wrap (100 + r5.1), r2.1.1, r2.1.2.1, IntKind.i64.wrap (r2.1.2.1 + 1), 100000, 100001])).bind fun r6 =>
                      some ((r2.1.1, (r2.1.2.1, (r2.1.2.2.1, (r2.1.2.2.2.1, (r2.1.2.2.2.2.1, r2.1.2.2.2.2.2))))), r3.1, r4.1, r6.1)
                    ) (
                      agree (
                        (spec_l01Pick.f r5.2 ([IntKind.i64.wrap (100 + r5.1), r2.1.1, r2.1.2.1, IntKind.i64.wrap (r2.1.2.1 + 1), 100000, 100001])).bind fun r6 =>
                        some ((r2.1.1, (r2.1.2.1, (r2.1.2.2.1, (r2.1.2.2.2.1, (r2.1.2.2.2.2.1, r2.1.2.2.2.2.2))))), r3.1, r4.1, r6.1)
                      ) (
                        (spec_l01Pick.f r5.2 ([IntKind.i64.wrap (100 + r5.1), r2.1.1, r2.1.2.1, IntKind.i64.wrap (r2.1.2.1 + 1), 100000, 100001])).bind fun r6 =>
                        some ((r2.1.1, (r2.1.2.1, (r2.1.2.2.1, (r2.1.2.2.2.1, (r2.1.2.2.2.2.1, r2.1.2.2.2.2.2))))), r3.1, r4.1, r6.1)
                      )
                    )
                  )
                ) (
                  agree (
                    (spec_l01Pick.f r5.2 ([IntKind.i64.wrap (100 + r5.1), r2.1.1, r2.1.2.1, IntKind.i64.wrap (r2.1.2.1 + 1), 100000, 100001])).bind fun r6 =>
                    some ((r2.1.1, (r2.1.2.1, (r2.1.2.2.1, (r2.1.2.2.2.1, (r2.1.2.2.2.2.1, r2.1.2.2.2.2.2))))), r3.1, r4.1, r6.1)
                  ) (
                    agree (
                      (spec_l01Pick.f r5.2 ([IntKind.i64.wrap (100 + r5.1), r2.1.1, r2.1.2.1, IntKind.i64.wrap (r2.1.2.1 + 1), 100000, 100001])).bind fun r6 =>
                      some ((r2.1.1, (r2.1.2.1, (r2.1.2.2.1, (r2.1.2.2.2.1, (r2.1.2.2.2.2.1, r2.1.2.2.2.2.2))))), r3.1, r4.1, r6.1)
                    ) (
                      agree (
                        (spec_l01Pick.f r5.2 ([IntKind.i64.wrap (100 + r5.1), r2.1.1, r2.1.2.1, IntKind.i64.wrap (r2.1.2.1 + 1), 100000, 100001])).bind fun r6 =>
                        some ((r2.1.1, (r2.1.2.1, (r2.1.2.2.1, (r2.1.2.2.2.1, (r2.1.2.2.2.2.1, r2.1.2.2.2.2.2))))), r3.1, r4.1, r6.1)
                      ) (
                        (spec_l01Pick.f r5.2 ([IntKind.i64.wrap (100 + r5.1), r2.1.1, r2.1.2.1, IntKind.i64.wrap (r2.1.2.1 + 1), 100000, 100001])).bind fun r6 =>
                        some ((r2.1.1, (r2.1.2.1, (r2.1.2.2.1, (r2.1.2.2.2.1, (r2.1.2.2.2.2.1, r2.1.2.2.2.2.2))))), r3.1, r4.1, r6.1)
                      )
                    )
                  )
                )
              )
            ) (
              agree (
                agree (
                  agree (
                    (spec_l01Next.f r4.2 50).bind fun r5 =>
                    (spec_l01Pick.f r5.2 ([IntKind.i64.wrap (100 + r5.1), r2.1.1, r2.1.2.1, IntKind.i64.wrap (r2.1.2.1 + 1), 100000, 100001])).bind fun r6 =>
                    some ((r2.1.1, (r2.1.2.1, (r2.1.2.2.1, (r2.1.2.2.2.1, (r2.1.2.2.2.2.1, r2.1.2.2.2.2.2))))), r3.1, r4.1, r6.1)
                  ) (
                    (spec_l01Next.f r4.2 50).bind fun r5 =>
                    (spec_l01Pick.f r5.2 ([IntKind.i64.wrap (100 + r5.1), r2.1.1, r2.1.2.1, IntKind.i64.wrap (r2.1.2.1 + 1), 100000, 100001])).bind fun r6 =>
                    some ((r2.1.1, (r2.1.2.1, (r2.1.2.2.1, (r2.1.2.2.2.1, (r2.1.2.2.2.2.1, r2.1.2.2.2.2.2))))), r3.1, r4.1, r6.1)
                  )
                ) (
                  agree (
                    (spec_l01Next.f r4.2 50).bind fun r5 =>
                    agree (
                      (spec_l01Pick.f r5.2 ([IntKind.i64.wrap (100 + r5.1), r2.1.1, r2.1.2.1, IntKind.i64.wrap (r2.1.2.1 + 1), 100000, 100001])).bind fun r6 =>
                      some ((r2.1.1, (r2.1.2.1, (r2.1.2.2.1, (r2.1.2.2.2.1, (r2.1.2.2.2.2.1, r2.1.2.2.2.2.2))))), r3.1, r4.1, r6.1)
                    ) (
                      agree (
                        (spec_l01Pick.f r5.2 ([IntKind.i64.wrap (100 + r5.1), r2.1.1, r2.1.2.1, IntKind.i64.wrap (r2.1.2.1 + 1), 100000, 100001])).bind fun r6 =>
                        some ((r2.1.1, (r2.1.2.1, (r2.1.2.2.1, (r2.1.2.2.2.1, (r2.1.2.2.2.2.1, r2.1.2.2.2.2.2))))), r3.1, r4.1, r6.1)
                      ) (
                        agree (
                          (spec_l01Pick.f r5.2 ([IntKind.i64.wrap (100 + r5.1), r2.1.1, r2.1.2.1, IntKind.i64.wrap (r2.1.2.1 + 1), 100000, 100001])).bind fun r6 =>
                          some ((r2.1.1, (r2.1.2.1, (r2.1.2.2.1, (r2.1.2.2.2.1, (r2.1.2.2.2.2.1, r2.1.2.2.2.2.2))))), r3.1, r4.1, r6.1)
                        ) (
                          (spec_l01Pick.f r5.2 ([IntKind.i64.wrap (100 + r5.1), r2.1.1, r2.1.2.1, IntKind.i64.wrap (r2.1.2.1 + 1), 100000, 100001])).bind fun r6 =>
                          some ((r2.1.1, (r2.1.2.1, (r2.1.2.2.1, (r2.1.2.2.2.1, (r2.1.2.2.2.2.1, r2.1.2.2.2.2.2))))), r3.1, r4.1, r6.1)
                        )
                      )
                    )
                  ) (
                    agree (
                      (spec_l01Next.f r4.2 50).bind fun r5 =>
                      (spec_l01Pick.f r5.2 ([IntKind.i64.wrap (100 + r5.1), r2.1.1, r2.1.2.1, IntKind.i64.wrap (r2.1.2.1 + 1), 100000, 100001])).bind fun r6 =>
                      some ((r2.1.1, (r2.1.2.1, (r2.1.2.2.1, (r2.1.2.2.2.1, (r2.1.2.2.2.2.1, r2.1.2.2.2.2.2))))), r3.1, r4.1, r6.1)
                    ) (
                      (spec_l01Next.f r4.2 50).bind fun r5 =>
                      agree (
                        (spec_l01Pick.f r5.2 ([IntKind.i64.wrap (100 + r5.1), r2.1.1, r2.1.2.1, IntKind.i64.wrap (r2.1.2.1 + 1), 100000, 100001])).bind fun r6 =>
                        some ((r2.1.1, (r2.1.2.1, (r2.1.2.2.1, (r2.1.2.2.2.1, (r2.1.2.2.2.2.1, r2.1.2.2.2.2.2))))), r3.1, r4.1, r6.1)
                      ) (
                        agree (
                          (spec_l01Pick.f r5.2 ([IntKind.i64.wrap (100 + r5.1), r2.1.1, r2.1.2.1, IntKind.i64.wrap (r2.1.2.1 + 1), 100000, 100001])).bind fun r6 =>
                          some ((r2.1.1, (r2.1.2.1, (r2.1.2.2.1, (r2.1.2.2.2.1, (r2.1.2.2.2.2.1, r2.1.2.2.2.2.2))))), r3.1, r4.1, r6.1)
                        ) (
                          (spec_l01Pick.f r5.2 ([IntKind.i64.wrap (100 + r5.1), r2.1.1, r2.1.2.1, IntKind.i64.wrap (r2.1.2.1 + 1), 100000, 100001])).bind fun r6 =>
                          some ((r2.1.1, (r2.1.2.1, (r2.1.2.2.1, (r2.1.2.2.2.1, (r2.1.2.2.2.2.1, r2.1.2.2.2.2.2))))), r3.1, r4.1, r6.1)
                        )
                      )
                    )
                  )
                )
              ) (
                agree (
                  agree (
                    (spec_l01Next.f r4.2 50).bind fun r5 =>
                    (spec_l01Pick.f r5.2 ([IntKind.i64.wrap (100 + r5.1), r2.1.1, r2.1.2.1, IntKind.i64.wrap (r2.1.2.1 + 1), 100000, 100001])).bind fun r6 =>
                    some ((r2.1.1, (r2.1.2.1, (r2.1.2.2.1, (r2.1.2.2.2.1, (r2.1.2.2.2.2.1, r2.1.2.2.2.2.2))))), r3.1, r4.1, r6.1)
                  ) (
                    (spec_l01Next.f r4.2 50).bind fun r5 =>
                    (spec_l01Pick.f r5.2 ([IntKind.i64.wrap (100 + r5.1), r2.1.1, r2.1.2.1, IntKind.i64.wrap (r2.1.2.1 + 1), 100000, 100001])).bind fun r6 =>
                    some ((r2.1.1, (r2.1.2.1, (r2.1.2.2.1, (r2.1.2.2.2.1, (r2.1.2.2.2.2.1, r2.1.2.2.2.2.2))))), r3.1, r4.1, r6.1)
                  )
                ) (
                  agree (
                    (spec_l01Next.f r4.2 50).bind fun r5 =>
                    agree (
                      (spec_l01Pick.f r5.2 ([IntKind.i64.wrap (100 + r5.1), r2.1.1, r2.1.2.1, IntKind.i64.wrap (r2.1.2.1 + 1), 100000, 100001])).bind fun r6 =>
                      some ((r2.1.1, (r2.1.2.1, (r2.1.2.2.1, (r2.1.2.2.2.1, (r2.1.2.2.2.2.1, r2.1.2.2.2.2.2))))), r3.1, r4.1, r6.1)
                    ) (
                      agree (
                        (spec_l01Pick.f r5.2 ([IntKind.i64.wrap (100 + r5.1), r2.1.1, r2.1.2.1, IntKind.i64.wrap (r2.1.2.1 + 1), 100000, 100001])).bind fun r6 =>
                        some ((r2.1.1, (r2.1.2.1, (r2.1.2.2.1, (r2.1.2.2.2.1, (r2.1.2.2.2.2.1, r2.1.2.2.2.2.2))))), r3.1, r4.1, r6.1)
                      ) (
                        agree (
                          (spec_l01Pick.f r5.2 ([IntKind.i64.wrap (100 + r5.1), r2.1.1, r2.1.2.1, IntKind.i64.wrap (r2.1.2.1 + 1), 100000, 100001])).bind fun r6 =>
                          some ((r2.1.1, (r2.1.2.1, (r2.1.2.2.1, (r2.1.2.2.2.1, (r2.1.2.2.2.2.1, r2.1.2.2.2.2.2))))), r3.1, r4.1, r6.1)
                        ) (
                          (spec_l01Pick.f r5.2 ([IntKind.i64.wrap (100 + r5.1), r2.1.1, r2.1.2.1, IntKind.i64.wrap (r2.1.2.1 + 1), 100000, 100001])).bind fun r6 =>
                          some ((r2.1.1, (r2.1.2.1, (r2.1.2.2.1, (r2.1.2.2.2.1, (r2.1.2.2.2.2.1, r2.1.2.2.2.2.2))))), r3.1, r4.1, r6.1)
                        )
                      )
                    )
                  ) (
                    agree (
                      (spec_l01Next.f r4.2 50).bind fun r5 =>
                      (spec_l01Pick.f r5.2 ([IntKind.i64.wrap (100 + r5.1), r2.1.1, r2.1.2.1, IntKind.i64.wrap (r2.1.2.1 + 1), 100000, 100001])).bind fun r6 =>
                      some ((r2.1.1, (r2.1.2.1, (r2.1.2.2.1, (r2.1.2.2.2.1, (r2.1.2.2.2.2.1, r2.1.2.2.2.2.2))))), r3.1, r4.1, r6.1)
                    ) (
                      (spec_l01Next.f r4.2 50).bind fun r5 =>
                      agree (
                        (spec_l01Pick.f r5.2 ([IntKind.i64.wrap (100 + r5.1), r2.1.1, r2.1.2.1, IntKind.i64.wrap (r2.1.2.1 + 1), 100000, 100001])).bind fun r6 =>
                        some ((r2.1.1, (r2.1.2.1, (r2.1.2.2.1, (r2.1.2.2.2.1, (r2.1.2.2.2.2.1, r2.1.2.2.2.2.2))))), r3.1, r4.1, r6.1)
                      ) (
                        agree (
                          (spec_l01Pick.f r5.2 ([IntKind.i64.wrap (100 + r5.1), r2.1.1, r2.1.2.1, IntKind.i64.wrap (r2.1.2.1 + 1), 100000, 100001])).bind fun r6 =>
                          some ((r2.1.1, (r2.1.2.1, (r2.1.2.2.1, (r2.1.2.2.2.1, (r2.1.2.2.2.2.1, r2.1.2.2.2.2.2))))), r3.1, r4.1, r6.1)
                        ) (
                          (spec_l01Pick.f r5.2 ([IntKind.i64.wrap (100 + r5.1), r2.1.1, r2.1.2.1, IntKind.i64.wrap (r2.1.2.1 + 1), 100000, 100001])).bind fun r6 =>
                          some ((r2.1.1, (r2.1.2.1, (r2.1.2.2.1, (r2.1.2.2.2.1, (r2.1.2.2.2.2.1, r2.1.2.2.2.2.2))))), r3.1, r4.1, r6.1)
                        )
                      )
                    )
                  )
                )
              )
            )
          )
        )
      )
    )
  )
theorem spec_DrawRefusalsOf.topraw_eq (code0 : List Int) : spec_DrawRefusalsOf.topraw code0 = spec_DrawRefusalsOf.top code0 := by
  unfold spec_DrawRefusalsOf.topraw spec_DrawRefusalsOf.top
  simp only [agree_self]
def spec_DrawRefusalsOf.con : Con := { ps := [(.val, (.sl 5 (.int .u8)))], rs := [(.own, (.pair (.int .i64) (.pair (.int .i64) (.pair (.int .i64) (.pair (.int .i64) (.pair (.sl 2 (.int .i64)) (.int .i64))))))), (.own, (.sl 95 (.pair .str (.pair (.int .i64) (.pair (.int .i64) (.pair (.int .i64) (.pair (.int .i64) (.pair (.int .i64) (.pair (.int .i64) (.pair (.int .i64) (.int .i64))))))))))), (.own, (.sl 2 (.int .i64))), (.own, (.int .i64))], F := fun x => spec_DrawRefusalsOf.f x }
def spec_DrawRefusalsOf.cs : List (FuncId × Con) := [(64, spec_l01From.con), (66, spec_l01Next.con), (89, spec_l30Draw.con), (90, spec_l03List.con), (91, spec_l03Counts.con), (92, spec_l01Pick.con)]
def spec_DrawRefusalsOf.E : Env := envOf tab spec_DrawRefusalsOf.cs 0 false
def spec_DrawRefusalsOf.keep (i : Nat) : List Nat := []
set_option maxRecDepth 100000 in
theorem spec_DrawRefusalsOf.body (n : Nat) (x : List Int) : bodyF spec_DrawRefusalsOf.E spec_DrawRefusalsOf.keep n Try.f49 spec_DrawRefusalsOf.con x = spec_DrawRefusalsOf.fn n x := by
  have h : bodyF spec_DrawRefusalsOf.E spec_DrawRefusalsOf.keep n Try.f49 spec_DrawRefusalsOf.con x = spec_DrawRefusalsOf.topraw x := by kernel_rfl
  rw [spec_DrawRefusalsOf.topraw_eq] at h
  exact h
set_option maxRecDepth 100000 in
theorem spec_DrawRefusalsOf.good : Good Try.prog 49 spec_DrawRefusalsOf.con :=
  good_of tabok (cs := spec_DrawRefusalsOf.cs) ⟨spec_l01From.good, spec_l01Next.good, spec_l30Draw.good, spec_l03List.good, spec_l03Counts.good, spec_l01Pick.good, trivial⟩ 0 false (fn := Try.f49) Try.func49 rfl (by decide) (by simp [spec_DrawRefusalsOf.con]) spec_DrawRefusalsOf.keep NN (fun _ => rfl) (fun x => spec_DrawRefusalsOf.body NN x)
end
end Go.Ev.Try

namespace Go.Ev.Try
open Go.Proofs Go.Pl
set_option linter.unusedVariables false
noncomputable section
def spec_DrawPermitFor.st9 (day9 : Int) (i11 : Int) (list7 : List (ByteArray × Int × Int × Int × Int × Int × Int × Int × Int)) (counts8 : List Int) : St := ⟨[.gone, .gone, .gone, .gone, .gone, .gone, .gone, .ref 0, .ref 1, .dat (.int .i64) day9, .gone, .dat (.int .i64) i11, .gone, .gone, .gone, .gone, .gone, .gone, .gone, .gone, .gone, .gone, .gone, .gone, .gone, .gone, .gone, .gone, .gone, .gone, .gone, .gone, .gone, .gone, .gone, .gone, .gone, .gone, .gone, .gone, .gone, .gone, .gone, .gone, .gone, .gone], [.row 95 (.pair .str (.pair (.int .i64) (.pair (.int .i64) (.pair (.int .i64) (.pair (.int .i64) (.pair (.int .i64) (.pair (.int .i64) (.pair (.int .i64) (.int .i64))))))))) list7 none, .row 2 (.int .i64) counts8 none]⟩
def spec_DrawPermitFor.st5 (day9 : Int) (i10 : Int) (list7 : List (ByteArray × Int × Int × Int × Int × Int × Int × Int × Int)) (counts8 : List Int) : St := ⟨[.gone, .gone, .gone, .gone, .gone, .gone, .gone, .ref 0, .ref 1, .dat (.int .i64) day9, .dat (.int .i64) i10, .gone, .gone, .gone, .gone, .gone, .gone, .gone, .gone, .gone, .gone, .gone, .gone, .gone, .gone, .gone, .gone, .gone, .gone, .gone, .gone, .gone, .gone, .gone, .gone, .gone, .gone, .gone, .gone, .gone, .gone, .gone, .gone, .gone, .gone, .gone], [.row 95 (.pair .str (.pair (.int .i64) (.pair (.int .i64) (.pair (.int .i64) (.pair (.int .i64) (.pair (.int .i64) (.pair (.int .i64) (.pair (.int .i64) (.int .i64))))))))) list7 none, .row 2 (.int .i64) counts8 none]⟩
def spec_DrawPermitFor.con : Con := { ps := [(.val, (.sl 5 (.int .u8)))], rs := [(.own, (.sl 95 (.pair .str (.pair (.int .i64) (.pair (.int .i64) (.pair (.int .i64) (.pair (.int .i64) (.pair (.int .i64) (.pair (.int .i64) (.pair (.int .i64) (.int .i64))))))))))), (.own, (.sl 2 (.int .i64))), (.own, (.int .i64))], F := fun x => spec_DrawPermitFor.f x }
def spec_DrawPermitFor.cs : List (FuncId × Con) := [(49, spec_DrawRefusalsOf.con), (64, spec_l01From.con), (66, spec_l01Next.con)]
def spec_DrawPermitFor.E : Env := envOf tab spec_DrawPermitFor.cs 0 false
def spec_DrawPermitFor.keep (i : Nat) : List Nat := if i = 9 then [7, 8, 9, 11] else if i = 5 then [7, 8, 9, 10] else []
def spec_DrawPermitFor.at9 (n : Nat) (x : List Int) : Code × (Ex → St → Option (((List (ByteArray × Int × Int × Int × Int × Int × Int × Int × Int)) × List Int × Int))) := ctx spec_DrawPermitFor.E spec_DrawPermitFor.keep n [.snd, .snd, .snd, .fst, .snd, .yes, .snd, .snd, .blk] (codeOf Try.f48) (kEnd spec_DrawPermitFor.E Try.f48 spec_DrawPermitFor.con x)
def spec_DrawPermitFor.LN9 (n : Nat) (x : List Int) : Nat → St → Option (((List (ByteArray × Int × Int × Int × Int × Int × Int × Int × Int)) × List Int × Int)) := loopN (exec spec_DrawPermitFor.E spec_DrawPermitFor.keep n (bodyOf (spec_DrawPermitFor.at9 n x).1)) (St.norm 0 (spec_DrawPermitFor.keep 9)) (spec_DrawPermitFor.at9 n x).2
def spec_DrawPermitFor.at5 (n : Nat) (x : List Int) : Code × (Ex → St → Option (((List (ByteArray × Int × Int × Int × Int × Int × Int × Int × Int)) × List Int × Int))) := ctx spec_DrawPermitFor.E spec_DrawPermitFor.keep n [.snd, .snd, .snd, .fst, .snd, .yes, .fst, .snd, .blk] (codeOf Try.f48) (kEnd spec_DrawPermitFor.E Try.f48 spec_DrawPermitFor.con x)
def spec_DrawPermitFor.LN5 (n : Nat) (x : List Int) : Nat → St → Option (((List (ByteArray × Int × Int × Int × Int × Int × Int × Int × Int)) × List Int × Int)) := loopN (exec spec_DrawPermitFor.E spec_DrawPermitFor.keep n (bodyOf (spec_DrawPermitFor.at5 n x).1)) (St.norm 0 (spec_DrawPermitFor.keep 5)) (spec_DrawPermitFor.at5 n x).2
set_option maxRecDepth 100000 in
theorem spec_DrawPermitFor.lem9 (n : Nat) (x : List Int) : ∀ (k : Nat) (day9 : Int) (i11 : Int) (list7 : List (ByteArray × Int × Int × Int × Int × Int × Int × Int × Int)) (counts8 : List Int), spec_DrawPermitFor.LN9 n x k (spec_DrawPermitFor.st9 day9 i11 list7 counts8) = spec_DrawPermitFor.l9 n k day9 i11 list7 counts8 := by
  intro k
  induction k with
  | zero => intro day9 i11 list7 counts8; rfl
  | succ k ih =>
    intro day9 i11 list7 counts8
    have h : spec_DrawPermitFor.LN9 n x (k + 1) (spec_DrawPermitFor.st9 day9 i11 list7 counts8) = spec_DrawPermitFor.g9 (fun day9 i11 list7 counts8 => spec_DrawPermitFor.LN9 n x k (spec_DrawPermitFor.st9 day9 i11 list7 counts8)) day9 i11 list7 counts8 := by kernel_rfl
    rw [h]
    simp only [ih]
    rfl
set_option maxRecDepth 100000 in
theorem spec_DrawPermitFor.lem5 (n : Nat) (x : List Int) : ∀ (k : Nat) (day9 : Int) (i10 : Int) (list7 : List (ByteArray × Int × Int × Int × Int × Int × Int × Int × Int)) (counts8 : List Int), spec_DrawPermitFor.LN5 n x k (spec_DrawPermitFor.st5 day9 i10 list7 counts8) = spec_DrawPermitFor.l5 n k day9 i10 list7 counts8 := by
  intro k
  induction k with
  | zero => intro day9 i10 list7 counts8; rfl
  | succ k ih =>
    intro day9 i10 list7 counts8
    have h : spec_DrawPermitFor.LN5 n x (k + 1) (spec_DrawPermitFor.st5 day9 i10 list7 counts8) = spec_DrawPermitFor.g5 (fun day9 i11 list7 counts8 => spec_DrawPermitFor.LN9 n x n (spec_DrawPermitFor.st9 day9 i11 list7 counts8)) (fun day9 i10 list7 counts8 => spec_DrawPermitFor.LN5 n x k (spec_DrawPermitFor.st5 day9 i10 list7 counts8)) day9 i10 list7 counts8 := by kernel_rfl
    rw [h]
    simp only [ih, spec_DrawPermitFor.lem9]
    rfl
set_option maxRecDepth 100000 in
theorem spec_DrawPermitFor.body (n : Nat) (x : List Int) : bodyF spec_DrawPermitFor.E spec_DrawPermitFor.keep n Try.f48 spec_DrawPermitFor.con x = spec_DrawPermitFor.fn n x := by
  have h : bodyF spec_DrawPermitFor.E spec_DrawPermitFor.keep n Try.f48 spec_DrawPermitFor.con x = spec_DrawPermitFor.top (fun day9 i10 list7 counts8 => spec_DrawPermitFor.LN5 n x n (spec_DrawPermitFor.st5 day9 i10 list7 counts8)) x := by kernel_rfl
  rw [h]
  simp only [spec_DrawPermitFor.lem5]
  rfl
set_option maxRecDepth 100000 in
theorem spec_DrawPermitFor.good : Good Try.prog 48 spec_DrawPermitFor.con :=
  good_of tabok (cs := spec_DrawPermitFor.cs) ⟨spec_DrawRefusalsOf.good, spec_l01From.good, spec_l01Next.good, trivial⟩ 0 false (fn := Try.f48) Try.func48 rfl (by decide) (by simp [spec_DrawPermitFor.con]) spec_DrawPermitFor.keep NN (fun _ => rfl) (fun x => spec_DrawPermitFor.body NN x)
end
end Go.Ev.Try

namespace Go.Ev.Try
open Go.Proofs Go.Pl
set_option linter.unusedVariables false
noncomputable section
def spec_l30List.st8 (s0 : List Int × Int × Int) (out3 : List (Int × Int × Int × Int × List Int × Int)) (p5a : Int) (p5ba : Int) (p5bba : Int) (p5bbba : Int) (p5bbbba : List Int) (p5bbbbb : Int) : St := ⟨[.ptr 0 [], .gone, .gone, .ref 1, .gone, .ptr 2 [], .gone, .gone, .gone, .gone, .gone, .gone, .gone, .gone, .gone, .gone, .gone, .gone, .gone, .gone, .gone, .gone, .gone, .gone, .gone, .gone, .gone, .gone, .gone, .gone, .gone, .gone, .gone, .gone], [.box 112 (.pair (.sl 5 (.int .u8)) (.pair (.int .i64) (.int .i64))) (.dat (.pair (.sl 5 (.int .u8)) (.pair (.int .i64) (.int .i64))) s0), .row 42 (.pair (.int .i64) (.pair (.int .i64) (.pair (.int .i64) (.pair (.int .i64) (.pair (.sl 2 (.int .i64)) (.int .i64)))))) out3 none, .box 42 (.pair (.int .i64) (.pair (.int .i64) (.pair (.int .i64) (.pair (.int .i64) (.pair (.sl 2 (.int .i64)) (.int .i64)))))) (.pr (.dat (.int .i64) p5a) (.pr (.dat (.int .i64) p5ba) (.pr (.dat (.int .i64) p5bba) (.pr (.dat (.int .i64) p5bbba) (.pr (.dat (.sl 2 (.int .i64)) p5bbbba) (.dat (.int .i64) p5bbbbb))))))]⟩
def spec_l30List.st3 (n4 : Int) (s0 : List Int × Int × Int) (out3 : List (Int × Int × Int × Int × List Int × Int)) : St := ⟨[.ptr 0 [], .gone, .gone, .ref 1, .dat (.int .i64) n4, .gone, .gone, .gone, .gone, .gone, .gone, .gone, .gone, .gone, .gone, .gone, .gone, .gone, .gone, .gone, .gone, .gone, .gone, .gone, .gone, .gone, .gone, .gone, .gone, .gone, .gone, .gone, .gone, .gone], [.box 112 (.pair (.sl 5 (.int .u8)) (.pair (.int .i64) (.int .i64))) (.dat (.pair (.sl 5 (.int .u8)) (.pair (.int .i64) (.int .i64))) s0), .row 42 (.pair (.int .i64) (.pair (.int .i64) (.pair (.int .i64) (.pair (.int .i64) (.pair (.sl 2 (.int .i64)) (.int .i64)))))) out3 none]⟩
def spec_l30List.con : Con := { ps := [(.bx 112, (.pair (.sl 5 (.int .u8)) (.pair (.int .i64) (.int .i64))))], rs := [(.own, (.sl 42 (.pair (.int .i64) (.pair (.int .i64) (.pair (.int .i64) (.pair (.int .i64) (.pair (.sl 2 (.int .i64)) (.int .i64))))))))], F := fun x => spec_l30List.f x }
def spec_l30List.cs : List (FuncId × Con) := [(66, spec_l01Next.con), (89, spec_l30Draw.con), (105, spec_l30Good.con)]
def spec_l30List.E : Env := envOf tab spec_l30List.cs 1 false
def spec_l30List.keep (i : Nat) : List Nat := if i = 8 then [0, 3, 5, 100005] else if i = 3 then [0, 3, 4] else []
def spec_l30List.at8 (n : Nat) (x : List Int × Int × Int) : Code × (Ex → St → Option (((List (Int × Int × Int × Int × List Int × Int)) × List Int × Int × Int))) := ctx spec_l30List.E spec_l30List.keep n [.snd, .snd, .snd, .fst, .snd, .yes, .snd, .blk] (codeOf Try.f98) (kEnd spec_l30List.E Try.f98 spec_l30List.con x)
def spec_l30List.LN8 (n : Nat) (x : List Int × Int × Int) : Nat → St → Option (((List (Int × Int × Int × Int × List Int × Int)) × List Int × Int × Int)) := loopN (exec spec_l30List.E spec_l30List.keep n (bodyOf (spec_l30List.at8 n x).1)) (St.norm 1 (spec_l30List.keep 8)) (spec_l30List.at8 n x).2
def spec_l30List.at3 (n : Nat) (x : List Int × Int × Int) : Code × (Ex → St → Option (((List (Int × Int × Int × Int × List Int × Int)) × List Int × Int × Int))) := ctx spec_l30List.E spec_l30List.keep n [.snd, .snd, .fst, .snd, .blk] (codeOf Try.f98) (kEnd spec_l30List.E Try.f98 spec_l30List.con x)
def spec_l30List.LN3 (n : Nat) (x : List Int × Int × Int) : Nat → St → Option (((List (Int × Int × Int × Int × List Int × Int)) × List Int × Int × Int)) := loopN (exec spec_l30List.E spec_l30List.keep n (bodyOf (spec_l30List.at3 n x).1)) (St.norm 1 (spec_l30List.keep 3)) (spec_l30List.at3 n x).2
set_option maxRecDepth 100000 in
theorem spec_l30List.lem8 (n : Nat) (x : List Int × Int × Int) : ∀ (k : Nat) (s0 : List Int × Int × Int) (out3 : List (Int × Int × Int × Int × List Int × Int)) (p5a : Int) (p5ba : Int) (p5bba : Int) (p5bbba : Int) (p5bbbba : List Int) (p5bbbbb : Int), spec_l30List.LN8 n x k (spec_l30List.st8 s0 out3 p5a p5ba p5bba p5bbba p5bbbba p5bbbbb) = spec_l30List.l8 n k s0 out3 p5a p5ba p5bba p5bbba p5bbbba p5bbbbb := by
  intro k
  induction k with
  | zero => intro s0 out3 p5a p5ba p5bba p5bbba p5bbbba p5bbbbb; rfl
  | succ k ih =>
    intro s0 out3 p5a p5ba p5bba p5bbba p5bbbba p5bbbbb
    have h : spec_l30List.LN8 n x (k + 1) (spec_l30List.st8 s0 out3 p5a p5ba p5bba p5bbba p5bbbba p5bbbbb) = spec_l30List.g8 (fun s0 out3 p5a p5ba p5bba p5bbba p5bbbba p5bbbbb => spec_l30List.LN8 n x k (spec_l30List.st8 s0 out3 p5a p5ba p5bba p5bbba p5bbbba p5bbbbb)) s0 out3 p5a p5ba p5bba p5bbba p5bbbba p5bbbbb := by kernel_rfl
    rw [h]
    simp only [ih]
    rfl
set_option maxRecDepth 100000 in
theorem spec_l30List.lem3 (n : Nat) (x : List Int × Int × Int) : ∀ (k : Nat) (n4 : Int) (s0 : List Int × Int × Int) (out3 : List (Int × Int × Int × Int × List Int × Int)), spec_l30List.LN3 n x k (spec_l30List.st3 n4 s0 out3) = spec_l30List.l3 n k n4 s0 out3 := by
  intro k
  induction k with
  | zero => intro n4 s0 out3; rfl
  | succ k ih =>
    intro n4 s0 out3
    have h : spec_l30List.LN3 n x (k + 1) (spec_l30List.st3 n4 s0 out3) = spec_l30List.g3 (fun s0 out3 p5a p5ba p5bba p5bbba p5bbbba p5bbbbb => spec_l30List.LN8 n x n (spec_l30List.st8 s0 out3 p5a p5ba p5bba p5bbba p5bbbba p5bbbbb)) (fun n4 s0 out3 => spec_l30List.LN3 n x k (spec_l30List.st3 n4 s0 out3)) n4 s0 out3 := by kernel_rfl
    rw [h]
    simp only [ih, spec_l30List.lem8]
    rfl
set_option maxRecDepth 100000 in
theorem spec_l30List.body (n : Nat) (x : List Int × Int × Int) : bodyF spec_l30List.E spec_l30List.keep n Try.f98 spec_l30List.con x = spec_l30List.fn n x := by
  have h : bodyF spec_l30List.E spec_l30List.keep n Try.f98 spec_l30List.con x = spec_l30List.top (fun n4 s0 out3 => spec_l30List.LN3 n x n (spec_l30List.st3 n4 s0 out3)) x := by kernel_rfl
  rw [h]
  simp only [spec_l30List.lem3]
  rfl
set_option maxRecDepth 100000 in
theorem spec_l30List.good : Good Try.prog 98 spec_l30List.con :=
  good_of tabok (cs := spec_l30List.cs) ⟨spec_l01Next.good, spec_l30Draw.good, spec_l30Good.good, trivial⟩ 1 false (fn := Try.f98) Try.func98 rfl (by decide) (by simp [spec_l30List.con]) spec_l30List.keep NN (fun _ => rfl) (fun x => spec_l30List.body NN x)
end
end Go.Ev.Try

namespace Go.Ev.Try
open Go.Proofs Go.Pl
set_option linter.unusedVariables false
noncomputable section
def spec_DrawFirstPermit.st6 (day11 : Int) (i12 : Int) (permits7 : List (Int × Int × Int × Int × List Int × Int)) (list9 : List (ByteArray × Int × Int × Int × Int × Int × Int × Int × Int)) (counts10 : List Int) : St := ⟨[.gone, .gone, .gone, .gone, .gone, .gone, .gone, .ref 0, .gone, .ref 1, .ref 2, .dat (.int .i64) day11, .dat (.int .i64) i12, .gone, .gone, .gone, .gone, .gone, .gone, .gone, .gone, .gone, .gone, .gone, .gone, .gone, .gone, .gone, .gone, .gone, .gone, .gone, .gone, .gone, .gone, .gone, .gone, .gone, .gone, .gone, .gone, .gone, .gone, .gone, .gone], [.row 42 (.pair (.int .i64) (.pair (.int .i64) (.pair (.int .i64) (.pair (.int .i64) (.pair (.sl 2 (.int .i64)) (.int .i64)))))) permits7 none, .row 95 (.pair .str (.pair (.int .i64) (.pair (.int .i64) (.pair (.int .i64) (.pair (.int .i64) (.pair (.int .i64) (.pair (.int .i64) (.pair (.int .i64) (.int .i64))))))))) list9 none, .row 2 (.int .i64) counts10 none]⟩
def spec_DrawFirstPermit.con : Con := { ps := [(.val, (.sl 5 (.int .u8)))], rs := [(.own, (.sl 42 (.pair (.int .i64) (.pair (.int .i64) (.pair (.int .i64) (.pair (.int .i64) (.pair (.sl 2 (.int .i64)) (.int .i64)))))))), (.own, (.sl 95 (.pair .str (.pair (.int .i64) (.pair (.int .i64) (.pair (.int .i64) (.pair (.int .i64) (.pair (.int .i64) (.pair (.int .i64) (.pair (.int .i64) (.int .i64))))))))))), (.own, (.sl 2 (.int .i64))), (.own, (.int .i64))], F := fun x => spec_DrawFirstPermit.f x }
def spec_DrawFirstPermit.cs : List (FuncId × Con) := [(49, spec_DrawRefusalsOf.con), (64, spec_l01From.con), (66, spec_l01Next.con), (98, spec_l30List.con)]
def spec_DrawFirstPermit.E : Env := envOf tab spec_DrawFirstPermit.cs 0 false
def spec_DrawFirstPermit.keep (i : Nat) : List Nat := if i = 6 then [7, 9, 10, 11, 12] else []
def spec_DrawFirstPermit.at6 (n : Nat) (x : List Int) : Code × (Ex → St → Option (((List (Int × Int × Int × Int × List Int × Int)) × (List (ByteArray × Int × Int × Int × Int × Int × Int × Int × Int)) × List Int × Int))) := ctx spec_DrawFirstPermit.E spec_DrawFirstPermit.keep n [.snd, .snd, .snd, .snd, .fst, .snd, .yes, .snd, .blk] (codeOf Try.f93) (kEnd spec_DrawFirstPermit.E Try.f93 spec_DrawFirstPermit.con x)
def spec_DrawFirstPermit.LN6 (n : Nat) (x : List Int) : Nat → St → Option (((List (Int × Int × Int × Int × List Int × Int)) × (List (ByteArray × Int × Int × Int × Int × Int × Int × Int × Int)) × List Int × Int)) := loopN (exec spec_DrawFirstPermit.E spec_DrawFirstPermit.keep n (bodyOf (spec_DrawFirstPermit.at6 n x).1)) (St.norm 0 (spec_DrawFirstPermit.keep 6)) (spec_DrawFirstPermit.at6 n x).2
set_option maxRecDepth 100000 in
theorem spec_DrawFirstPermit.lem6 (n : Nat) (x : List Int) : ∀ (k : Nat) (day11 : Int) (i12 : Int) (permits7 : List (Int × Int × Int × Int × List Int × Int)) (list9 : List (ByteArray × Int × Int × Int × Int × Int × Int × Int × Int)) (counts10 : List Int), spec_DrawFirstPermit.LN6 n x k (spec_DrawFirstPermit.st6 day11 i12 permits7 list9 counts10) = spec_DrawFirstPermit.l6 n k day11 i12 permits7 list9 counts10 := by
  intro k
  induction k with
  | zero => intro day11 i12 permits7 list9 counts10; rfl
  | succ k ih =>
    intro day11 i12 permits7 list9 counts10
    have h : spec_DrawFirstPermit.LN6 n x (k + 1) (spec_DrawFirstPermit.st6 day11 i12 permits7 list9 counts10) = spec_DrawFirstPermit.g6 (fun day11 i12 permits7 list9 counts10 => spec_DrawFirstPermit.LN6 n x k (spec_DrawFirstPermit.st6 day11 i12 permits7 list9 counts10)) day11 i12 permits7 list9 counts10 := by kernel_rfl
    rw [h]
    simp only [ih]
    rfl
set_option maxRecDepth 100000 in
theorem spec_DrawFirstPermit.body (n : Nat) (x : List Int) : bodyF spec_DrawFirstPermit.E spec_DrawFirstPermit.keep n Try.f93 spec_DrawFirstPermit.con x = spec_DrawFirstPermit.fn n x := by
  have h : bodyF spec_DrawFirstPermit.E spec_DrawFirstPermit.keep n Try.f93 spec_DrawFirstPermit.con x = spec_DrawFirstPermit.top (fun day11 i12 permits7 list9 counts10 => spec_DrawFirstPermit.LN6 n x n (spec_DrawFirstPermit.st6 day11 i12 permits7 list9 counts10)) x := by kernel_rfl
  rw [h]
  simp only [spec_DrawFirstPermit.lem6]
  rfl
set_option maxRecDepth 100000 in
theorem spec_DrawFirstPermit.good : Good Try.prog 93 spec_DrawFirstPermit.con :=
  good_of tabok (cs := spec_DrawFirstPermit.cs) ⟨spec_DrawRefusalsOf.good, spec_l01From.good, spec_l01Next.good, spec_l30List.good, trivial⟩ 0 false (fn := Try.f93) Try.func93 rfl (by decide) (by simp [spec_DrawFirstPermit.con]) spec_DrawFirstPermit.keep NN (fun _ => rfl) (fun x => spec_DrawFirstPermit.body NN x)
end
end Go.Ev.Try

namespace Go.Ev.Try
open Go.Proofs Go.Pl
set_option linter.unusedVariables false
noncomputable section
def spec_DrawNextDay.con : Con := { ps := [(.val, (.sl 5 (.int .u8)))], rs := [(.own, (.sl 42 (.pair (.int .i64) (.pair (.int .i64) (.pair (.int .i64) (.pair (.int .i64) (.pair (.sl 2 (.int .i64)) (.int .i64)))))))), (.own, (.sl 95 (.pair .str (.pair (.int .i64) (.pair (.int .i64) (.pair (.int .i64) (.pair (.int .i64) (.pair (.int .i64) (.pair (.int .i64) (.pair (.int .i64) (.int .i64))))))))))), (.own, (.sl 2 (.int .i64))), (.own, (.int .i64))], F := fun x => spec_DrawNextDay.f x }
def spec_DrawNextDay.cs : List (FuncId × Con) := [(93, spec_DrawFirstPermit.con)]
def spec_DrawNextDay.E : Env := envOf tab spec_DrawNextDay.cs 0 false
def spec_DrawNextDay.keep (i : Nat) : List Nat := []
set_option maxRecDepth 100000 in
theorem spec_DrawNextDay.body (n : Nat) (x : List Int) : bodyF spec_DrawNextDay.E spec_DrawNextDay.keep n Try.f50 spec_DrawNextDay.con x = spec_DrawNextDay.fn n x := by
  have h : bodyF spec_DrawNextDay.E spec_DrawNextDay.keep n Try.f50 spec_DrawNextDay.con x = spec_DrawNextDay.top x := by kernel_rfl
  exact h
set_option maxRecDepth 100000 in
theorem spec_DrawNextDay.good : Good Try.prog 50 spec_DrawNextDay.con :=
  good_of tabok (cs := spec_DrawNextDay.cs) ⟨spec_DrawFirstPermit.good, trivial⟩ 0 false (fn := Try.f50) Try.func50 rfl (by decide) (by simp [spec_DrawNextDay.con]) spec_DrawNextDay.keep NN (fun _ => rfl) (fun x => spec_DrawNextDay.body NN x)
end
end Go.Ev.Try

namespace Go.Ev.Try
open Go.Proofs Go.Pl
set_option linter.unusedVariables false
noncomputable section
def laws_likeInts.st4 (a0 : List Int) (b1 : List Int) (i5 : Int) : St := ⟨[.dat (.sl 2 (.int .i64)) a0, .dat (.sl 2 (.int .i64)) b1, .gone, .gone, .gone, .dat (.int .i64) i5, .gone, .gone, .gone, .gone, .gone, .gone, .gone, .gone, .gone, .gone, .gone, .gone, .gone, .gone, .gone, .gone, .gone, .gone, .gone, .gone], []⟩
def laws_likeInts.con : Con := { ps := [(.val, (.sl 2 (.int .i64))), (.val, (.sl 2 (.int .i64)))], rs := [(.val, .bool)], F := fun x => laws_likeInts.f x.1 x.2 }
def laws_likeInts.cs : List (FuncId × Con) := []
def laws_likeInts.E : Env := envOf tab laws_likeInts.cs 0 false
def laws_likeInts.keep (i : Nat) : List Nat := if i = 4 then [0, 1, 5] else []
def laws_likeInts.at4 (n : Nat) (x : List Int × List Int) : Code × (Ex → St → Option (Bool)) := ctx laws_likeInts.E laws_likeInts.keep n [.snd, .snd, .fst, .snd, .blk] (codeOf Try.f23) (kEnd laws_likeInts.E Try.f23 laws_likeInts.con x)
def laws_likeInts.LN4 (n : Nat) (x : List Int × List Int) : Nat → St → Option (Bool) := loopN (exec laws_likeInts.E laws_likeInts.keep n (bodyOf (laws_likeInts.at4 n x).1)) (St.norm 0 (laws_likeInts.keep 4)) (laws_likeInts.at4 n x).2
set_option maxRecDepth 100000 in
theorem laws_likeInts.lem4 (n : Nat) (x : List Int × List Int) : ∀ (k : Nat) (a0 : List Int) (b1 : List Int) (i5 : Int), laws_likeInts.LN4 n x k (laws_likeInts.st4 a0 b1 i5) = laws_likeInts.l4 n k a0 b1 i5 := by
  intro k
  induction k with
  | zero => intro a0 b1 i5; rfl
  | succ k ih =>
    intro a0 b1 i5
    have h : laws_likeInts.LN4 n x (k + 1) (laws_likeInts.st4 a0 b1 i5) = laws_likeInts.g4 (fun a0 b1 i5 => laws_likeInts.LN4 n x k (laws_likeInts.st4 a0 b1 i5)) a0 b1 i5 := by kernel_rfl
    rw [h]
    simp only [ih]
    rfl
set_option maxRecDepth 100000 in
theorem laws_likeInts.body (n : Nat) (x : List Int × List Int) : bodyF laws_likeInts.E laws_likeInts.keep n Try.f23 laws_likeInts.con x = laws_likeInts.fn n x.1 x.2 := by
  have h : bodyF laws_likeInts.E laws_likeInts.keep n Try.f23 laws_likeInts.con x = laws_likeInts.top (fun a0 b1 i5 => laws_likeInts.LN4 n x n (laws_likeInts.st4 a0 b1 i5)) x.1 x.2 := by kernel_rfl
  rw [h]
  simp only [laws_likeInts.lem4]
  rfl
set_option maxRecDepth 100000 in
theorem laws_likeInts.good : Good Try.prog 23 laws_likeInts.con :=
  good_of tabok (cs := laws_likeInts.cs) trivial 0 false (fn := Try.f23) Try.func23 rfl (by decide) (by simp [laws_likeInts.con]) laws_likeInts.keep NN (fun _ => rfl) (fun x => laws_likeInts.body NN x)
end
end Go.Ev.Try

namespace Go.Ev.Try
open Go.Proofs Go.Pl
set_option linter.unusedVariables false
noncomputable section
def laws_likePermit.con : Con := { ps := [(.val, (.pair (.int .i64) (.pair (.int .i64) (.pair (.int .i64) (.pair (.int .i64) (.pair (.sl 2 (.int .i64)) (.int .i64))))))), (.val, (.pair (.int .i64) (.pair (.int .i64) (.pair (.int .i64) (.pair (.int .i64) (.pair (.sl 2 (.int .i64)) (.int .i64)))))))], rs := [(.val, .bool)], F := fun x => laws_likePermit.f x.1 x.2 }
def laws_likePermit.cs : List (FuncId × Con) := [(23, laws_likeInts.con)]
def laws_likePermit.E : Env := envOf tab laws_likePermit.cs 0 false
def laws_likePermit.keep (i : Nat) : List Nat := []
set_option maxRecDepth 100000 in
theorem laws_likePermit.body (n : Nat) (x : (Int × Int × Int × Int × List Int × Int) × Int × Int × Int × Int × List Int × Int) : bodyF laws_likePermit.E laws_likePermit.keep n Try.f51 laws_likePermit.con x = laws_likePermit.fn n x.1 x.2 := by
  have h : bodyF laws_likePermit.E laws_likePermit.keep n Try.f51 laws_likePermit.con x = laws_likePermit.top x.1 x.2 := by kernel_rfl
  exact h
set_option maxRecDepth 100000 in
theorem laws_likePermit.good : Good Try.prog 51 laws_likePermit.con :=
  good_of tabok (cs := laws_likePermit.cs) ⟨laws_likeInts.good, trivial⟩ 0 false (fn := Try.f51) Try.func51 rfl (by decide) (by simp [laws_likePermit.con]) laws_likePermit.keep NN (fun _ => rfl) (fun x => laws_likePermit.body NN x)
end
end Go.Ev.Try

namespace Go.Ev.Try
open Go.Proofs Go.Pl
set_option linter.unusedVariables false
noncomputable section
def impl_NetOfOrder.st7 (counts1 : List Int) (sum6 : Int) (v16 : List (ByteArray × Int × Int × Int × Int × Int × Int × Int × Int)) (v17 : Int) (v18 : Int) : St := ⟨[.gone, .dat (.sl 2 (.int .i64)) counts1, .gone, .gone, .gone, .gone, .dat (.int .i64) sum6, .gone, .gone, .gone, .gone, .gone, .gone, .gone, .gone, .gone, .dat (.sl 95 (.pair .str (.pair (.int .i64) (.pair (.int .i64) (.pair (.int .i64) (.pair (.int .i64) (.pair (.int .i64) (.pair (.int .i64) (.pair (.int .i64) (.int .i64)))))))))) v16, .dat (.int .i64) v17, .dat (.int .i64) v18, .gone, .gone, .gone, .gone, .gone, .gone, .gone, .gone, .gone, .gone, .gone, .gone, .gone, .gone, .gone], []⟩
def impl_NetOfOrder.con : Con := { ps := [(.val, (.sl 95 (.pair .str (.pair (.int .i64) (.pair (.int .i64) (.pair (.int .i64) (.pair (.int .i64) (.pair (.int .i64) (.pair (.int .i64) (.pair (.int .i64) (.int .i64))))))))))), (.val, (.sl 2 (.int .i64)))], rs := [(.val, (.int .i64)), (.val, (.int .i64))], F := fun x => impl_NetOfOrder.f x.1 x.2 }
def impl_NetOfOrder.cs : List (FuncId × Con) := [(80, impl_AreArticles.con), (81, impl_areCounts.con)]
def impl_NetOfOrder.E : Env := envOf tab impl_NetOfOrder.cs 0 false
def impl_NetOfOrder.keep (i : Nat) : List Nat := if i = 7 then [1, 6, 16, 17, 18] else []
def impl_NetOfOrder.at7 (n : Nat) (x : (List (ByteArray × Int × Int × Int × Int × Int × Int × Int × Int)) × List Int) : Code × (Ex → St → Option ((Int × Int))) := ctx impl_NetOfOrder.E impl_NetOfOrder.keep n [.snd, .snd, .snd, .snd, .fst, .snd, .blk] (codeOf Try.f54) (kEnd impl_NetOfOrder.E Try.f54 impl_NetOfOrder.con x)
def impl_NetOfOrder.LN7 (n : Nat) (x : (List (ByteArray × Int × Int × Int × Int × Int × Int × Int × Int)) × List Int) : Nat → St → Option ((Int × Int)) := loopN (exec impl_NetOfOrder.E impl_NetOfOrder.keep n (bodyOf (impl_NetOfOrder.at7 n x).1)) (St.norm 0 (impl_NetOfOrder.keep 7)) (impl_NetOfOrder.at7 n x).2
set_option maxRecDepth 100000 in
theorem impl_NetOfOrder.lem7 (n : Nat) (x : (List (ByteArray × Int × Int × Int × Int × Int × Int × Int × Int)) × List Int) : ∀ (k : Nat) (counts1 : List Int) (sum6 : Int) (v16 : List (ByteArray × Int × Int × Int × Int × Int × Int × Int × Int)) (v17 : Int) (v18 : Int), impl_NetOfOrder.LN7 n x k (impl_NetOfOrder.st7 counts1 sum6 v16 v17 v18) = impl_NetOfOrder.l7 n k counts1 sum6 v16 v17 v18 := by
  intro k
  induction k with
  | zero => intro counts1 sum6 v16 v17 v18; rfl
  | succ k ih =>
    intro counts1 sum6 v16 v17 v18
    have h : impl_NetOfOrder.LN7 n x (k + 1) (impl_NetOfOrder.st7 counts1 sum6 v16 v17 v18) = impl_NetOfOrder.g7 (fun counts1 sum6 v16 v17 v18 => impl_NetOfOrder.LN7 n x k (impl_NetOfOrder.st7 counts1 sum6 v16 v17 v18)) counts1 sum6 v16 v17 v18 := by kernel_rfl
    rw [h]
    simp only [ih]
    rfl
set_option maxRecDepth 100000 in
theorem impl_NetOfOrder.body (n : Nat) (x : (List (ByteArray × Int × Int × Int × Int × Int × Int × Int × Int)) × List Int) : bodyF impl_NetOfOrder.E impl_NetOfOrder.keep n Try.f54 impl_NetOfOrder.con x = impl_NetOfOrder.fn n x.1 x.2 := by
  have h : bodyF impl_NetOfOrder.E impl_NetOfOrder.keep n Try.f54 impl_NetOfOrder.con x = impl_NetOfOrder.top (fun counts1 sum6 v16 v17 v18 => impl_NetOfOrder.LN7 n x n (impl_NetOfOrder.st7 counts1 sum6 v16 v17 v18)) x.1 x.2 := by kernel_rfl
  rw [h]
  simp only [impl_NetOfOrder.lem7]
  rfl
set_option maxRecDepth 100000 in
theorem impl_NetOfOrder.good : Good Try.prog 54 impl_NetOfOrder.con :=
  good_of tabok (cs := impl_NetOfOrder.cs) ⟨impl_AreArticles.good, impl_areCounts.good, trivial⟩ 0 false (fn := Try.f54) Try.func54 rfl (by decide) (by simp [impl_NetOfOrder.con]) impl_NetOfOrder.keep NN (fun _ => rfl) (fun x => impl_NetOfOrder.body NN x)
end
end Go.Ev.Try
