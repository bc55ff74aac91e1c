/- Part 2 of what the law FnNight stands on: an evaluator of the model's code, proved sound; the functions as plain texts; their contracts. -/
import Derived.Test.YtideamfpdeojlaaChecked
import Derived.Test.YtideamfpdeojlaaProg
import Derived.Test.YtideamfpdeojlaaRows
import Derived.Below
import Derived.Calls
import Derived.Carry
import Derived.ChangeArms
import Derived.ChangeKeysEq
import Derived.ChangeOld
import Derived.Deep.Quiet
import Derived.KernelRfl
import Derived.Laws.Append
import Derived.Laws.BytesString
import Derived.Laws.MakeOwn
import Derived.Laws.Strings
import Derived.Laws.StructEq
import Derived.OpenShut
import Derived.OrdersHeld
import Derived.ProofKit
import Derived.ShutString
import Derived.SizedLaws
import Derived.Tactics
import Derived.WalkKit
import Derived.WideShapes
import Derived.Test.YtideamfpdeojlaaEvNight1
namespace Go.Pl
open Go.Ev
set_option linter.unusedVariables false
noncomputable section
def spec_IsScore.g2 (L2 : (List (Int × Int)) → Int → Option Bool) (list0 : List (Int × Int)) (i3 : Int) : Option Bool :=
  if (decide ((i3 : Int) < (list0.length : Int))) = true then
    if (0 : Int) ≤ i3 ∧ (i3 : Int) < list0.length then
      (spec_l01In.f ((list0.getD (i3 : Int).toNat (0, 0)).1) 1 16).bind fun r1 =>
      if (!r1) = false then
        if (0 : Int) ≤ i3 ∧ (i3 : Int) < list0.length then
          (spec_l01In.f ((list0.getD (i3 : Int).toNat (0, 0)).2) 100 5000).bind fun r2 =>
          if (!r2) = true then
            some false
          else
            L2 list0 (IntKind.i64.wrap (i3 + 1))
        else
          none
      else
        some false
    else
      none
  else
    (spec_l01In.f (list0.length : Int) 1 20).bind fun r3 =>
    some r3
def spec_IsScore.l2 (n : Nat) : Nat → (List (Int × Int)) → Int → Option Bool
  | 0 => fun _ _ => none
  | k + 1 => spec_IsScore.g2 (spec_IsScore.l2 n k)
def spec_IsScore.top (I2 : (List (Int × Int)) → Int → Option Bool) (list0 : List (Int × Int)) : Option Bool :=
  I2 list0 0
def spec_IsScore.fn (n : Nat) (list0 : List (Int × Int)) : Option Bool := spec_IsScore.top (spec_IsScore.l2 n n) list0
def spec_IsScore.f (list0 : List (Int × Int)) : Option Bool := spec_IsScore.fn NN list0
end
end Go.Pl

namespace Go.Pl
open Go.Ev
set_option linter.unusedVariables false
noncomputable section
def spec_l03Find.g2 (L2 : (List (ByteArray × Int × Int × Int × Int × Int × Int × Int × Int)) → ByteArray → Int → Option Int) (list0 : List (ByteArray × Int × Int × Int × Int × Int × Int × Int × Int)) (code1 : ByteArray) (i5 : Int) : Option Int :=
  if (decide ((i5 : Int) < (list0.length : Int))) = true then
    if (0 : Int) ≤ i5 ∧ (i5 : Int) < list0.length then
      if (((list0.getD (i5 : Int).toNat (ByteArray.empty, (0, (0, (0, (0, (0, (0, (0, 0))))))))).1).toList == code1.toList) = true then
        some i5
      else
        L2 list0 code1 (IntKind.i64.wrap (i5 + 1))
    else
      none
  else
    some (-1)
def spec_l03Find.l2 (n : Nat) : Nat → (List (ByteArray × Int × Int × Int × Int × Int × Int × Int × Int)) → ByteArray → Int → Option Int
  | 0 => fun _ _ _ => none
  | k + 1 => spec_l03Find.g2 (spec_l03Find.l2 n k)
def spec_l03Find.top (I2 : (List (ByteArray × Int × Int × Int × Int × Int × Int × Int × Int)) → ByteArray → Int → Option Int) (list0 : List (ByteArray × Int × Int × Int × Int × Int × Int × Int × Int)) (code1 : ByteArray) : Option Int :=
  I2 list0 code1 0
def spec_l03Find.fn (n : Nat) (list0 : List (ByteArray × Int × Int × Int × Int × Int × Int × Int × Int)) (code1 : ByteArray) : Option Int := spec_l03Find.top (spec_l03Find.l2 n n) list0 code1
def spec_l03Find.f (list0 : List (ByteArray × Int × Int × Int × Int × Int × Int × Int × Int)) (code1 : ByteArray) : Option Int := spec_l03Find.fn NN list0 code1
end
end Go.Pl

namespace Go.Pl
open Go.Ev
set_option linter.unusedVariables false
noncomputable section
def spec_l07Has.top (list0 : List (Int × Int)) (bar1 : Int) (beat2 : Int) : Option Bool :=
  (spec_l01In.f bar1 0 (IntKind.i64.wrap ((list0.length : Int) - 1))).bind fun r1 =>
  if r1 = true then
    if (0 : Int) ≤ bar1 ∧ (bar1 : Int) < list0.length then
      (spec_l01In.f beat2 0 (IntKind.i64.wrap (((list0.getD (bar1 : Int).toNat (0, 0)).1) - 1))).bind fun r2 =>
      some r2
    else
      none
  else
    some false
def spec_l07Has.fn (n : Nat) (list0 : List (Int × Int)) (bar1 : Int) (beat2 : Int) : Option Bool := spec_l07Has.top list0 bar1 beat2
def spec_l07Has.f (list0 : List (Int × Int)) (bar1 : Int) (beat2 : Int) : Option Bool := spec_l07Has.fn NN list0 bar1 beat2
end
end Go.Pl

namespace Go.Pl
open Go.Ev
set_option linter.unusedVariables false
noncomputable section
def spec_l07Time.g3 (L3 : (List (Int × Int)) → Int → Int → Int → Int → Option Int) (list0 : List (Int × Int)) (bar1 : Int) (beat2 : Int) (t7 : Int) (i8 : Int) : Option Int :=
  if (decide ((i8 : Int) < bar1)) = true then
    if (0 : Int) ≤ i8 ∧ (i8 : Int) < list0.length then
      if (0 : Int) ≤ i8 ∧ (i8 : Int) < list0.length then
        L3 list0 bar1 beat2 (IntKind.i64.wrap (t7 + (IntKind.i64.wrap (((list0.getD (i8 : Int).toNat (0, 0)).1) * ((list0.getD (i8 : Int).toNat (0, 0)).2))))) (IntKind.i64.wrap (i8 + 1))
      else
        none
    else
      none
  else if (0 : Int) ≤ bar1 ∧ (bar1 : Int) < list0.length then
    some (IntKind.i64.wrap (t7 + (IntKind.i64.wrap (beat2 * ((list0.getD (bar1 : Int).toNat (0, 0)).2)))))
  else
    none
def spec_l07Time.l3 (n : Nat) : Nat → (List (Int × Int)) → Int → Int → Int → Int → Option Int
  | 0 => fun _ _ _ _ _ => none
  | k + 1 => spec_l07Time.g3 (spec_l07Time.l3 n k)
def spec_l07Time.top (I3 : (List (Int × Int)) → Int → Int → Int → Int → Option Int) (list0 : List (Int × Int)) (bar1 : Int) (beat2 : Int) : Option Int :=
  I3 list0 bar1 beat2 0 0
def spec_l07Time.fn (n : Nat) (list0 : List (Int × Int)) (bar1 : Int) (beat2 : Int) : Option Int := spec_l07Time.top (spec_l07Time.l3 n n) list0 bar1 beat2
def spec_l07Time.f (list0 : List (Int × Int)) (bar1 : Int) (beat2 : Int) : Option Int := spec_l07Time.fn NN list0 bar1 beat2
end
end Go.Pl

namespace Go.Pl
open Go.Ev
set_option linter.unusedVariables false
noncomputable section
def spec_l08Time.top (x0 : (List (Int × Int)) × (List (ByteArray × Int × Int × Int × Int × Int × Int × Int × Int)) × List (Int × Int × ByteArray × Int)) (c1 : Int × Int × ByteArray × Int) : Option Int :=
  (spec_l07Time.f x0.1 c1.1 c1.2.1).bind fun r1 =>
  (spec_l03Find.f x0.2.1 c1.2.2.1).bind fun r2 =>
  if (0 : Int) ≤ r2 ∧ (r2 : Int) < x0.2.1.length then
    some (IntKind.i64.wrap (r1 - (((((x0.2.1.getD (r2 : Int).toNat (ByteArray.empty, (0, (0, (0, (0, (0, (0, (0, 0))))))))).2).2).2).1)))
  else
    none
def spec_l08Time.fn (n : Nat) (x0 : (List (Int × Int)) × (List (ByteArray × Int × Int × Int × Int × Int × Int × Int × Int)) × List (Int × Int × ByteArray × Int)) (c1 : Int × Int × ByteArray × Int) : Option Int := spec_l08Time.top x0 c1
def spec_l08Time.f (x0 : (List (Int × Int)) × (List (ByteArray × Int × Int × Int × Int × Int × Int × Int × Int)) × List (Int × Int × ByteArray × Int)) (c1 : Int × Int × ByteArray × Int) : Option Int := spec_l08Time.fn NN x0 c1
end
end Go.Pl

namespace Go.Pl
open Go.Ev
set_option linter.unusedVariables false
noncomputable section
def spec_IsShow.g4 (L4 : Int → ((List (Int × Int)) × (List (ByteArray × Int × Int × Int × Int × Int × Int × Int × Int)) × List (Int × Int × ByteArray × Int)) → Option Bool) (i3 : Int) (x1 : (List (Int × Int)) × (List (ByteArray × Int × Int × Int × Int × Int × Int × Int × Int)) × List (Int × Int × ByteArray × Int)) : Option Bool :=
  if (decide ((i3 : Int) < (x1.2.2.length : Int))) = true then
    if (0 : Int) ≤ i3 ∧ (i3 : Int) < x1.2.2.length then
      (spec_l07Has.f x1.1 ((x1.2.2.getD (i3 : Int).toNat (0, (0, (ByteArray.empty, 0)))).1) (((x1.2.2.getD (i3 : Int).toNat (0, (0, (ByteArray.empty, 0)))).2).1)).bind fun r3 =>
      if (!r3) = false then
        (spec_l03Find.f x1.2.1 ((((x1.2.2.getD (i3 : Int).toNat (0, (0, (ByteArray.empty, 0)))).2).2).1)).bind fun r4 =>
        if (decide ((r4 : Int) < 0)) = false then
          (spec_l01In.f ((((x1.2.2.getD (i3 : Int).toNat (0, (0, (ByteArray.empty, 0)))).2).2).2) 0 11).bind fun r5 =>
          if (!r5) = false then
            (spec_l08Time.f x1 (x1.2.2.getD (i3 : Int).toNat (0, (0, (ByteArray.empty, 0))))).bind fun r6 =>
            if (decide ((r6 : Int) < 0)) = true then
              some false
            else
              L4 (IntKind.i64.wrap (i3 + 1)) x1
          else
            some false
        else
          some false
      else
        some false
    else
      none
  else
    some true
def spec_IsShow.l4 (n : Nat) : Nat → Int → ((List (Int × Int)) × (List (ByteArray × Int × Int × Int × Int × Int × Int × Int × Int)) × List (Int × Int × ByteArray × Int)) → Option Bool
  | 0 => fun _ _ => none
  | k + 1 => spec_IsShow.g4 (spec_IsShow.l4 n k)
def spec_IsShow.top (I4 : Int → ((List (Int × Int)) × (List (ByteArray × Int × Int × Int × Int × Int × Int × Int × Int)) × List (Int × Int × ByteArray × Int)) → Option Bool) (x0 : (List (Int × Int)) × (List (ByteArray × Int × Int × Int × Int × Int × Int × Int × Int)) × List (Int × Int × ByteArray × Int)) : Option Bool :=
  (spec_IsScore.f x0.1).bind fun r1 =>
  if (!r1) = false then
    (spec_AreArticles.f x0.2.1).bind fun r2 =>
    if (!r2) = false then
      if (decide ((20 : Int) < (x0.2.2.length : Int))) = true then
        some false
      else
        I4 0 x0
    else
      some false
  else
    some false
def spec_IsShow.fn (n : Nat) (x0 : (List (Int × Int)) × (List (ByteArray × Int × Int × Int × Int × Int × Int × Int × Int)) × List (Int × Int × ByteArray × Int)) : Option Bool := spec_IsShow.top (spec_IsShow.l4 n n) x0
def spec_IsShow.f (x0 : (List (Int × Int)) × (List (ByteArray × Int × Int × Int × Int × Int × Int × Int × Int)) × List (Int × Int × ByteArray × Int)) : Option Bool := spec_IsShow.fn NN x0
end
end Go.Pl

namespace Go.Pl
open Go.Ev
set_option linter.unusedVariables false
noncomputable section
def spec_l01Rises.g2 (L2 : List Int → Int → Int → Option Bool) (list0 : List Int) (n1 : Int) (i5 : Int) : Option Bool :=
  if (decide ((i5 : Int) < (list0.length : Int))) = true then
    if (0 : Int) ≤ i5 ∧ (i5 : Int) < list0.length then
      (spec_l01In.f (list0.getD (i5 : Int).toNat 0) 0 (IntKind.i64.wrap (n1 - 1))).bind fun r1 =>
      if (!r1) = false then
        if (decide ((0 : Int) < i5)) = true then
          if (0 : Int) ≤ i5 ∧ (i5 : Int) < list0.length then
            if (0 : Int) ≤ (IntKind.i64.wrap (i5 - 1)) ∧ ((IntKind.i64.wrap (i5 - 1)) : Int) < list0.length then
              if (decide (((list0.getD (i5 : Int).toNat 0) : Int) ≤ (list0.getD ((IntKind.i64.wrap (i5 - 1)) : Int).toNat 0))) = true then
                some false
              else
                L2 list0 n1 (IntKind.i64.wrap (i5 + 1))
            else
              none
          else
            none
        else
          L2 list0 n1 (IntKind.i64.wrap (i5 + 1))
      else
        some false
    else
      none
  else
    some true
def spec_l01Rises.l2 (n : Nat) : Nat → List Int → Int → Int → Option Bool
  | 0 => fun _ _ _ => none
  | k + 1 => spec_l01Rises.g2 (spec_l01Rises.l2 n k)
def spec_l01Rises.top (I2 : List Int → Int → Int → Option Bool) (list0 : List Int) (n1 : Int) : Option Bool :=
  I2 list0 n1 0
def spec_l01Rises.fn (n : Nat) (list0 : List Int) (n1 : Int) : Option Bool := spec_l01Rises.top (spec_l01Rises.l2 n n) list0 n1
def spec_l01Rises.f (list0 : List Int) (n1 : Int) : Option Bool := spec_l01Rises.fn NN list0 n1
end
end Go.Pl

namespace Go.Pl
open Go.Ev
set_option linter.unusedVariables false
noncomputable section
def spec_l32Limits.top (out0 : List (Int × ByteArray × Int)) : Option Int :=
  if (decide ((60 : Int) < (out0.length : Int))) = true then
    some 3
  else
    (spec_AreBookings.f out0).bind fun r1 =>
    if (!r1) = true then
      some 5
    else
      some 0
def spec_l32Limits.fn (n : Nat) (out0 : List (Int × ByteArray × Int)) : Option Int := spec_l32Limits.top out0
def spec_l32Limits.f (out0 : List (Int × ByteArray × Int)) : Option Int := spec_l32Limits.fn NN out0
end
end Go.Pl

namespace Go.Pl
open Go.Ev
set_option linter.unusedVariables false
noncomputable section
def spec_BookShow.g11 (L7 : List Int → Int → ((List (Int × Int)) × (List (ByteArray × Int × Int × Int × Int × Int × Int × Int × Int)) × List (Int × Int × ByteArray × Int)) → (List (Int × ByteArray × Int)) → Option ((List (Int × ByteArray × Int)) × Int)) (L11 : List Int → Int → Int → Int → ((List (Int × Int)) × (List (ByteArray × Int × Int × Int × Int × Int × Int × Int × Int)) × List (Int × Int × ByteArray × Int)) → (List (Int × ByteArray × Int)) → Option ((List (Int × ByteArray × Int)) × Int)) (fired2 : List Int) (k9 : Int) (n10 : Int) (i11 : Int) (x4 : (List (Int × Int)) × (List (ByteArray × Int × Int × Int × Int × Int × Int × Int × Int)) × List (Int × Int × ByteArray × Int)) (out8 : List (Int × ByteArray × Int)) : Option ((List (Int × ByteArray × Int)) × Int) :=
  if (decide ((i11 : Int) < (fired2.length : Int))) = true then
    if (0 : Int) ≤ i11 ∧ (i11 : Int) < fired2.length then
      if (0 : Int) ≤ (fired2.getD (i11 : Int).toNat 0) ∧ ((fired2.getD (i11 : Int).toNat 0) : Int) < x4.2.2.length then
        if (0 : Int) ≤ k9 ∧ (k9 : Int) < x4.2.1.length then
          if (((((x4.2.2.getD ((fired2.getD (i11 : Int).toNat 0) : Int).toNat (0, (0, (ByteArray.empty, 0)))).2).2).1).toList == ((x4.2.1.getD (k9 : Int).toNat (ByteArray.empty, (0, (0, (0, (0, (0, (0, (0, 0))))))))).1).toList) = true then
            L11 fired2 k9 (IntKind.i64.wrap (n10 + 1)) (IntKind.i64.wrap (i11 + 1)) x4 out8
          else
            L11 fired2 k9 n10 (IntKind.i64.wrap (i11 + 1)) x4 out8
        else
          none
      else
        none
    else
      none
  else if (decide ((0 : Int) < n10)) = true then
    if (0 : Int) ≤ k9 ∧ (k9 : Int) < x4.2.1.length then
      if out8.length + ([(1, ((x4.2.1.getD (k9 : Int).toNat (ByteArray.empty, (0, (0, (0, (0, (0, (0, (0, 0))))))))).1, n10))]).length < room 32 then
        L7 fired2 (IntKind.i64.wrap (k9 + 1)) x4 (out8 ++ ([(1, ((x4.2.1.getD (k9 : Int).toNat (ByteArray.empty, (0, (0, (0, (0, (0, (0, (0, 0))))))))).1, n10))]))
      else
        none
    else
      none
  else
    L7 fired2 (IntKind.i64.wrap (k9 + 1)) x4 out8
def spec_BookShow.l11 (n : Nat) (L7 : List Int → Int → ((List (Int × Int)) × (List (ByteArray × Int × Int × Int × Int × Int × Int × Int × Int)) × List (Int × Int × ByteArray × Int)) → (List (Int × ByteArray × Int)) → Option ((List (Int × ByteArray × Int)) × Int)) : Nat → List Int → Int → Int → Int → ((List (Int × Int)) × (List (ByteArray × Int × Int × Int × Int × Int × Int × Int × Int)) × List (Int × Int × ByteArray × Int)) → (List (Int × ByteArray × Int)) → Option ((List (Int × ByteArray × Int)) × Int)
  | 0 => fun _ _ _ _ _ _ => none
  | k + 1 => spec_BookShow.g11 L7 (spec_BookShow.l11 n L7 k)
def spec_BookShow.g7 (I11 : List Int → Int → Int → Int → ((List (Int × Int)) × (List (ByteArray × Int × Int × Int × Int × Int × Int × Int × Int)) × List (Int × Int × ByteArray × Int)) → (List (Int × ByteArray × Int)) → Option ((List (Int × ByteArray × Int)) × Int)) (L7 : List Int → Int → ((List (Int × Int)) × (List (ByteArray × Int × Int × Int × Int × Int × Int × Int × Int)) × List (Int × Int × ByteArray × Int)) → (List (Int × ByteArray × Int)) → Option ((List (Int × ByteArray × Int)) × Int)) (fired2 : List Int) (k9 : Int) (x4 : (List (Int × Int)) × (List (ByteArray × Int × Int × Int × Int × Int × Int × Int × Int)) × List (Int × Int × ByteArray × Int)) (out8 : List (Int × ByteArray × Int)) : Option ((List (Int × ByteArray × Int)) × Int) :=
  if (decide ((k9 : Int) < (x4.2.1.length : Int))) = true then
    I11 fired2 k9 0 0 x4 out8
  else
    (spec_l32Limits.f out8).bind fun r4 =>
    if ((r4 : Int) != 0) = true then
      some ([], r4)
    else
      some (out8, 0)
def spec_BookShow.l7 (n : Nat) : Nat → List Int → Int → ((List (Int × Int)) × (List (ByteArray × Int × Int × Int × Int × Int × Int × Int × Int)) × List (Int × Int × ByteArray × Int)) → (List (Int × ByteArray × Int)) → Option ((List (Int × ByteArray × Int)) × Int)
  | 0 => fun _ _ _ _ => none
  | k + 1 => spec_BookShow.g7 (spec_BookShow.l11 n (spec_BookShow.l7 n k) n) (spec_BookShow.l7 n k)
def spec_BookShow.top (I7 : List Int → Int → ((List (Int × Int)) × (List (ByteArray × Int × Int × Int × Int × Int × Int × Int × Int)) × List (Int × Int × ByteArray × Int)) → (List (Int × ByteArray × Int)) → Option ((List (Int × ByteArray × Int)) × Int)) (list0 : List (Int × ByteArray × Int)) (x1 : (List (Int × Int)) × (List (ByteArray × Int × Int × Int × Int × Int × Int × Int × Int)) × List (Int × Int × ByteArray × Int)) (fired2 : List Int) : Option ((List (Int × ByteArray × Int)) × Int) :=
  (spec_AreBookings.f list0).bind fun r1 =>
  if (!r1) = false then
    (spec_IsShow.f x1).bind fun r2 =>
    if (!r2) = true then
      some ([], 1)
    else
      (spec_l01Rises.f fired2 (x1.2.2.length : Int)).bind fun r3 =>
      if (!r3) = true then
        some ([], 2)
      else if ([] : List (Int × ByteArray × Int)).length + list0.length < room 32 then
        I7 fired2 0 x1 (([] : List (Int × ByteArray × Int)) ++ list0)
      else
        none
  else
    some ([], 1)
def spec_BookShow.fn (n : Nat) (list0 : List (Int × ByteArray × Int)) (x1 : (List (Int × Int)) × (List (ByteArray × Int × Int × Int × Int × Int × Int × Int × Int)) × List (Int × Int × ByteArray × Int)) (fired2 : List Int) : Option ((List (Int × ByteArray × Int)) × Int) := spec_BookShow.top (spec_BookShow.l7 n n) list0 x1 fired2
def spec_BookShow.f (list0 : List (Int × ByteArray × Int)) (x1 : (List (Int × Int)) × (List (ByteArray × Int × Int × Int × Int × Int × Int × Int × Int)) × List (Int × Int × ByteArray × Int)) (fired2 : List Int) : Option ((List (Int × ByteArray × Int)) × Int) := spec_BookShow.fn NN list0 x1 fired2
end
end Go.Pl

namespace Go.Pl
open Go.Ev
set_option linter.unusedVariables false
noncomputable section
def spec_l08Times.g3 (L3 : Int → ((List (Int × Int)) × (List (ByteArray × Int × Int × Int × Int × Int × Int × Int × Int)) × List (Int × Int × ByteArray × Int)) → List Int → Option (List Int)) (i4 : Int) (x1 : (List (Int × Int)) × (List (ByteArray × Int × Int × Int × Int × Int × Int × Int × Int)) × List (Int × Int × ByteArray × Int)) (out3 : List Int) : Option (List Int) :=
  if (decide ((i4 : Int) < (x1.2.2.length : Int))) = true then
    if (0 : Int) ≤ i4 ∧ (i4 : Int) < x1.2.2.length then
      (spec_l08Time.f x1 (x1.2.2.getD (i4 : Int).toNat (0, (0, (ByteArray.empty, 0))))).bind fun r1 =>
      if out3.length + ([r1]).length < room 8 then
        L3 (IntKind.i64.wrap (i4 + 1)) x1 (out3 ++ ([r1]))
      else
        none
    else
      none
  else
    some out3
def spec_l08Times.l3 (n : Nat) : Nat → Int → ((List (Int × Int)) × (List (ByteArray × Int × Int × Int × Int × Int × Int × Int × Int)) × List (Int × Int × ByteArray × Int)) → List Int → Option (List Int)
  | 0 => fun _ _ _ => none
  | k + 1 => spec_l08Times.g3 (spec_l08Times.l3 n k)
def spec_l08Times.top (I3 : Int → ((List (Int × Int)) × (List (ByteArray × Int × Int × Int × Int × Int × Int × Int × Int)) × List (Int × Int × ByteArray × Int)) → List Int → Option (List Int)) (x0 : (List (Int × Int)) × (List (ByteArray × Int × Int × Int × Int × Int × Int × Int × Int)) × List (Int × Int × ByteArray × Int)) : Option (List Int) :=
  I3 0 x0 []
def spec_l08Times.fn (n : Nat) (x0 : (List (Int × Int)) × (List (ByteArray × Int × Int × Int × Int × Int × Int × Int × Int)) × List (Int × Int × ByteArray × Int)) : Option (List Int) := spec_l08Times.top (spec_l08Times.l3 n n) x0
def spec_l08Times.f (x0 : (List (Int × Int)) × (List (ByteArray × Int × Int × Int × Int × Int × Int × Int × Int)) × List (Int × Int × ByteArray × Int)) : Option (List Int) := spec_l08Times.fn NN x0
end
end Go.Pl

namespace Go.Pl
open Go.Ev
set_option linter.unusedVariables false
noncomputable section
def spec_FireTimes.top (x0 : (List (Int × Int)) × (List (ByteArray × Int × Int × Int × Int × Int × Int × Int × Int)) × List (Int × Int × ByteArray × Int)) : Option (List Int × Int) :=
  (spec_IsShow.f x0).bind fun r1 =>
  if (!r1) = true then
    some ([], 1)
  else
    (spec_l08Times.f x0).bind fun r2 =>
    some (r2, 0)
def spec_FireTimes.fn (n : Nat) (x0 : (List (Int × Int)) × (List (ByteArray × Int × Int × Int × Int × Int × Int × Int × Int)) × List (Int × Int × ByteArray × Int)) : Option (List Int × Int) := spec_FireTimes.top x0
def spec_FireTimes.f (x0 : (List (Int × Int)) × (List (ByteArray × Int × Int × Int × Int × Int × Int × Int × Int)) × List (Int × Int × ByteArray × Int)) : Option (List Int × Int) := spec_FireTimes.fn NN x0
end
end Go.Pl

namespace Go.Pl
open Go.Ev
set_option linter.unusedVariables false
noncomputable section
def spec_l20People.g3 (L3 : (List (Int × ByteArray × Int)) → ByteArray → Int → Int → Int → Option Int) (list0 : List (Int × ByteArray × Int)) (zone1 : ByteArray) (n2 : Int) (people7 : Int) (i8 : Int) : Option Int :=
  if (decide ((i8 : Int) < n2)) = true then
    if (0 : Int) ≤ i8 ∧ (i8 : Int) < list0.length then
      if ((((list0.getD (i8 : Int).toNat (0, (ByteArray.empty, 0))).2).1).toList == zone1.toList) = true then
        if (0 : Int) ≤ i8 ∧ (i8 : Int) < list0.length then
          L3 list0 zone1 n2 (IntKind.i64.wrap (people7 + (((list0.getD (i8 : Int).toNat (0, (ByteArray.empty, 0))).2).2))) (IntKind.i64.wrap (i8 + 1))
        else
          none
      else
        L3 list0 zone1 n2 people7 (IntKind.i64.wrap (i8 + 1))
    else
      none
  else
    some people7
def spec_l20People.l3 (n : Nat) : Nat → (List (Int × ByteArray × Int)) → ByteArray → Int → Int → Int → Option Int
  | 0 => fun _ _ _ _ _ => none
  | k + 1 => spec_l20People.g3 (spec_l20People.l3 n k)
def spec_l20People.top (I3 : (List (Int × ByteArray × Int)) → ByteArray → Int → Int → Int → Option Int) (list0 : List (Int × ByteArray × Int)) (zone1 : ByteArray) (n2 : Int) : Option Int :=
  I3 list0 zone1 n2 0 0
def spec_l20People.fn (n : Nat) (list0 : List (Int × ByteArray × Int)) (zone1 : ByteArray) (n2 : Int) : Option Int := spec_l20People.top (spec_l20People.l3 n n) list0 zone1 n2
def spec_l20People.f (list0 : List (Int × ByteArray × Int)) (zone1 : ByteArray) (n2 : Int) : Option Int := spec_l20People.fn NN list0 zone1 n2
end
end Go.Pl

namespace Go.Pl
open Go.Ev
set_option linter.unusedVariables false
noncomputable section
def spec_l20Upto.g2 (L2 : (List (Int × ByteArray × Int)) → Int → Int → Option Int) (list0 : List (Int × ByteArray × Int)) (t1 : Int) (n5 : Int) : Option Int :=
  if (decide ((n5 : Int) < (list0.length : Int))) = true then
    if (0 : Int) ≤ n5 ∧ (n5 : Int) < list0.length then
      if (decide ((((list0.getD (n5 : Int).toNat (0, (ByteArray.empty, 0))).1) : Int) ≤ t1)) = true then
        L2 list0 t1 (IntKind.i64.wrap (n5 + 1))
      else
        some n5
    else
      none
  else
    some n5
def spec_l20Upto.l2 (n : Nat) : Nat → (List (Int × ByteArray × Int)) → Int → Int → Option Int
  | 0 => fun _ _ _ => none
  | k + 1 => spec_l20Upto.g2 (spec_l20Upto.l2 n k)
def spec_l20Upto.top (I2 : (List (Int × ByteArray × Int)) → Int → Int → Option Int) (list0 : List (Int × ByteArray × Int)) (t1 : Int) : Option Int :=
  I2 list0 t1 0
def spec_l20Upto.fn (n : Nat) (list0 : List (Int × ByteArray × Int)) (t1 : Int) : Option Int := spec_l20Upto.top (spec_l20Upto.l2 n n) list0 t1
def spec_l20Upto.f (list0 : List (Int × ByteArray × Int)) (t1 : Int) : Option Int := spec_l20Upto.fn NN list0 t1
end
end Go.Pl

namespace Go.Pl
open Go.Ev
set_option linter.unusedVariables false
noncomputable section
def spec_l20Clear.g3 (L3 : (List (Int × ByteArray × Int)) → ByteArray → Int → Int → Int → Option Bool) (list0 : List (Int × ByteArray × Int)) (zone1 : ByteArray) (t2 : Int) (n7 : Int) (i8 : Int) : Option Bool :=
  if (decide ((i8 : Int) < n7)) = true then
    if (0 : Int) ≤ i8 ∧ (i8 : Int) < list0.length then
      if ((((list0.getD (i8 : Int).toNat (0, (ByteArray.empty, 0))).2).1).toList == zone1.toList) = true then
        if (0 : Int) ≤ i8 ∧ (i8 : Int) < list0.length then
          if (decide ((t2 : Int) < (IntKind.i64.wrap (((list0.getD (i8 : Int).toNat (0, (ByteArray.empty, 0))).1) + 30000)))) = true then
            some false
          else
            L3 list0 zone1 t2 n7 (IntKind.i64.wrap (i8 + 1))
        else
          none
      else
        L3 list0 zone1 t2 n7 (IntKind.i64.wrap (i8 + 1))
    else
      none
  else
    (spec_l20People.f list0 zone1 n7).bind fun r2 =>
    some ((r2 : Int) == 0)
def spec_l20Clear.l3 (n : Nat) : Nat → (List (Int × ByteArray × Int)) → ByteArray → Int → Int → Int → Option Bool
  | 0 => fun _ _ _ _ _ => none
  | k + 1 => spec_l20Clear.g3 (spec_l20Clear.l3 n k)
def spec_l20Clear.top (I3 : (List (Int × ByteArray × Int)) → ByteArray → Int → Int → Int → Option Bool) (list0 : List (Int × ByteArray × Int)) (zone1 : ByteArray) (t2 : Int) : Option Bool :=
  (spec_l20Upto.f list0 t2).bind fun r1 =>
  I3 list0 zone1 t2 r1 0
def spec_l20Clear.fn (n : Nat) (list0 : List (Int × ByteArray × Int)) (zone1 : ByteArray) (t2 : Int) : Option Bool := spec_l20Clear.top (spec_l20Clear.l3 n n) list0 zone1 t2
def spec_l20Clear.f (list0 : List (Int × ByteArray × Int)) (zone1 : ByteArray) (t2 : Int) : Option Bool := spec_l20Clear.fn NN list0 zone1 t2
end
end Go.Pl

namespace Go.Pl
open Go.Ev
set_option linter.unusedVariables false
noncomputable section
def spec_l21Off.top (c0 : Bool × Bool × Bool × Bool × Bool × Int) : Option (Bool × Bool × Bool × Bool × Bool × Int) :=
  some (c0.1, (c0.2.1, (false, (false, c0.2.2.2.2))))
def spec_l21Off.fn (n : Nat) (c0 : Bool × Bool × Bool × Bool × Bool × Int) : Option (Bool × Bool × Bool × Bool × Bool × Int) := spec_l21Off.top c0
def spec_l21Off.f (c0 : Bool × Bool × Bool × Bool × Bool × Int) : Option (Bool × Bool × Bool × Bool × Bool × Int) := spec_l21Off.fn NN c0
end
end Go.Pl

namespace Go.Pl
open Go.Ev
set_option linter.unusedVariables false
noncomputable section
def spec_l21Give.top (c0 : Bool × Bool × Bool × Bool × Bool × Int) (input1 : Int) : Option ((Bool × Bool × Bool × Bool × Bool × Int) × Bool) :=
  if ((input1 : Int) == 0) = true then
    if (!(!c0.1)) = true then
      (spec_l21Off.f (!c0.1, c0.2)).bind fun r1 =>
      some (r1, true)
    else
      some ((!c0.1, c0.2), true)
  else if ((input1 : Int) == 1) = true then
    if (!(!c0.2.1)) = true then
      (spec_l21Off.f (c0.1, (!c0.2.1, c0.2.2))).bind fun r2 =>
      some (r2, true)
    else
      some ((c0.1, (!c0.2.1, c0.2.2)), true)
  else if ((input1 : Int) == 2) = true then
    if (!c0.1) = false then
      if (!c0.2.1) = false then
        if c0.2.2.2.2.1 = true then
          some (c0, false)
        else
          some ((c0.1, (c0.2.1, (true, (false, (c0.2.2.2.2.1, 0))))), true)
      else
        some (c0, false)
    else
      some (c0, false)
  else if ((input1 : Int) == 3) = true then
    (spec_l21Off.f c0).bind fun r3 =>
    some (r3, true)
  else if ((input1 : Int) == 4) = true then
    if (!c0.2.2.1) = false then
      if c0.2.2.2.1 = true then
        some (c0, false)
      else
        some ((c0.1, (c0.2.1, (c0.2.2.1, (true, c0.2.2.2.2)))), true)
    else
      some (c0, false)
  else if ((input1 : Int) == 5) = true then
    if (!c0.2.2.2.1) = true then
      some (c0, false)
    else
      some ((c0.1, (c0.2.1, (c0.2.2.1, (false, c0.2.2.2.2)))), true)
  else if ((input1 : Int) == 6) = true then
    (spec_l21Off.f c0).bind fun r4 =>
    some ((r4.1, (r4.2.1, (r4.2.2.1, (r4.2.2.2.1, (true, r4.2.2.2.2.2))))), true)
  else if ((input1 : Int) == 7) = true then
    some ((c0.1, (c0.2.1, (c0.2.2.1, (c0.2.2.2.1, (c0.2.2.2.2.1, 0))))), true)
  else if ((input1 : Int) == 8) = true then
    if (decide ((3 : Int) < (if (IntKind.i64.wrap (c0.2.2.2.2.2 + 1)) < 4 then (IntKind.i64.wrap (c0.2.2.2.2.2 + 1)) else 4))) = true then
      (spec_l21Off.f (c0.1, (c0.2.1, (c0.2.2.1, (c0.2.2.2.1, (c0.2.2.2.2.1, (if (IntKind.i64.wrap (c0.2.2.2.2.2 + 1)) < 4 then (IntKind.i64.wrap (c0.2.2.2.2.2 + 1)) else 4))))))).bind fun r5 =>
      some (r5, true)
    else
      some ((c0.1, (c0.2.1, (c0.2.2.1, (c0.2.2.2.1, (c0.2.2.2.2.1, (if (IntKind.i64.wrap (c0.2.2.2.2.2 + 1)) < 4 then (IntKind.i64.wrap (c0.2.2.2.2.2 + 1)) else 4)))))), true)
  else if (!c0.2.2.2.2.1) = false then
    if c0.1 = false then
      if c0.2.1 = true then
        some (c0, false)
      else
        some ((c0.1, (c0.2.1, (c0.2.2.1, (c0.2.2.2.1, (false, c0.2.2.2.2.2))))), true)
    else
      some (c0, false)
  else
    some (c0, false)
def spec_l21Give.fn (n : Nat) (c0 : Bool × Bool × Bool × Bool × Bool × Int) (input1 : Int) : Option ((Bool × Bool × Bool × Bool × Bool × Int) × Bool) := spec_l21Give.top c0 input1
def spec_l21Give.f (c0 : Bool × Bool × Bool × Bool × Bool × Int) (input1 : Int) : Option ((Bool × Bool × Bool × Bool × Bool × Int) × Bool) := spec_l21Give.fn NN c0 input1
end
end Go.Pl

namespace Go.Pl
open Go.Ev
set_option linter.unusedVariables false
noncomputable section
def spec_l22Ticks.g2 (L2 : Int → (Bool × Bool × Bool × Bool × Bool × Int) → Bool → Bool → Bool → Bool → Bool → Int → Option (Bool × Bool × Bool × Bool × Bool × Int)) (k5 : Int) (c2 : Bool × Bool × Bool × Bool × Bool × Int) (v4a : Bool) (v4ba : Bool) (v4bba : Bool) (v4bbba : Bool) (v4bbbba : Bool) (v4bbbbb : Int) : Option (Bool × Bool × Bool × Bool × Bool × Int) :=
  if (decide ((0 : Int) < k5)) = true then
    (spec_l21Give.f c2 8).bind fun r1 =>
    L2 (IntKind.i64.wrap (k5 - 1)) r1.1 v4a v4ba v4bba v4bbba v4bbbba v4bbbbb
  else
    some c2
def spec_l22Ticks.l2 (n : Nat) : Nat → Int → (Bool × Bool × Bool × Bool × Bool × Int) → Bool → Bool → Bool → Bool → Bool → Int → Option (Bool × Bool × Bool × Bool × Bool × Int)
  | 0 => fun _ _ _ _ _ _ _ _ => none
  | k + 1 => spec_l22Ticks.g2 (spec_l22Ticks.l2 n k)
def spec_l22Ticks.top (I2 : Int → (Bool × Bool × Bool × Bool × Bool × Int) → Bool → Bool → Bool → Bool → Bool → Int → Option (Bool × Bool × Bool × Bool × Bool × Int)) (c0 : Bool × Bool × Bool × Bool × Bool × Int) (n1 : Int) : Option (Bool × Bool × Bool × Bool × Bool × Int) :=
  I2 (if 5 < n1 then 5 else n1) c0 false false false false false 0
def spec_l22Ticks.fn (n : Nat) (c0 : Bool × Bool × Bool × Bool × Bool × Int) (n1 : Int) : Option (Bool × Bool × Bool × Bool × Bool × Int) := spec_l22Ticks.top (spec_l22Ticks.l2 n n) c0 n1
def spec_l22Ticks.f (c0 : Bool × Bool × Bool × Bool × Bool × Int) (n1 : Int) : Option (Bool × Bool × Bool × Bool × Bool × Int) := spec_l22Ticks.fn NN c0 n1
end
end Go.Pl

namespace Go.Pl
open Go.Ev
set_option linter.unusedVariables false
noncomputable section
def spec_l22At.g4 (L4 : (List (Int × Int)) → Int → Int → Int → Bool → Bool → Bool → Bool → Bool → Int → (Bool × Bool × Bool × Bool × Bool × Int) → List Int → Option ((Bool × Bool × Bool × Bool × Bool × Int) × List Int)) (list0 : List (Int × Int)) (tick1 : Int) (now7 : Int) (i9 : Int) (v4a : Bool) (v4ba : Bool) (v4bba : Bool) (v4bbba : Bool) (v4bbbba : Bool) (v4bbbbb : Int) (c6 : Bool × Bool × Bool × Bool × Bool × Int) (refused8 : List Int) : Option ((Bool × Bool × Bool × Bool × Bool × Int) × List Int) :=
  if (decide ((i9 : Int) < (list0.length : Int))) = true then
    if (0 : Int) ≤ i9 ∧ (i9 : Int) < list0.length then
      if (decide ((((list0.getD (i9 : Int).toNat (0, 0)).1) : Int) ≤ tick1)) = true then
        if (0 : Int) ≤ i9 ∧ (i9 : Int) < list0.length then
          (spec_l22Ticks.f c6 (IntKind.i64.wrap (((list0.getD (i9 : Int).toNat (0, 0)).1) - now7))).bind fun r1 =>
          if (0 : Int) ≤ i9 ∧ (i9 : Int) < list0.length then
            if (0 : Int) ≤ i9 ∧ (i9 : Int) < list0.length then
              (spec_l21Give.f r1 ((list0.getD (i9 : Int).toNat (0, 0)).2)).bind fun r2 =>
              if r2.2 = true then
                L4 list0 tick1 ((list0.getD (i9 : Int).toNat (0, 0)).1) (IntKind.i64.wrap (i9 + 1)) v4a v4ba v4bba v4bbba v4bbbba v4bbbbb r2.1 refused8
              else if refused8.length + ([i9]).length < room 8 then
                L4 list0 tick1 ((list0.getD (i9 : Int).toNat (0, 0)).1) (IntKind.i64.wrap (i9 + 1)) v4a v4ba v4bba v4bbba v4bbbba v4bbbbb r1 (refused8 ++ ([i9]))
              else
                none
            else
              none
          else
            none
        else
          none
      else
        (spec_l22Ticks.f c6 (IntKind.i64.wrap (tick1 - now7))).bind fun r3 =>
        some (r3, refused8)
    else
      none
  else
    (spec_l22Ticks.f c6 (IntKind.i64.wrap (tick1 - now7))).bind fun r4 =>
    some (r4, refused8)
def spec_l22At.l4 (n : Nat) : Nat → (List (Int × Int)) → Int → Int → Int → Bool → Bool → Bool → Bool → Bool → Int → (Bool × Bool × Bool × Bool × Bool × Int) → List Int → Option ((Bool × Bool × Bool × Bool × Bool × Int) × List Int)
  | 0 => fun _ _ _ _ _ _ _ _ _ _ _ _ => none
  | k + 1 => spec_l22At.g4 (spec_l22At.l4 n k)
def spec_l22At.top (I4 : (List (Int × Int)) → Int → Int → Int → Bool → Bool → Bool → Bool → Bool → Int → (Bool × Bool × Bool × Bool × Bool × Int) → List Int → Option ((Bool × Bool × Bool × Bool × Bool × Int) × List Int)) (list0 : List (Int × Int)) (tick1 : Int) : Option ((Bool × Bool × Bool × Bool × Bool × Int) × List Int) :=
  I4 list0 tick1 0 0 false false false false false 0 (false, (false, (false, (false, (false, 0))))) []
def spec_l22At.fn (n : Nat) (list0 : List (Int × Int)) (tick1 : Int) : Option ((Bool × Bool × Bool × Bool × Bool × Int) × List Int) := spec_l22At.top (spec_l22At.l4 n n) list0 tick1
def spec_l22At.f (list0 : List (Int × Int)) (tick1 : Int) : Option ((Bool × Bool × Bool × Bool × Bool × Int) × List Int) := spec_l22At.fn NN list0 tick1
end
end Go.Pl

namespace Go.Pl
open Go.Ev
set_option linter.unusedVariables false
noncomputable section
def spec_l22Fired.g9 (L3 : List Int → (List (Int × Int)) → (List (Int × ByteArray × Int)) → List ByteArray → Int → List Int → Option (List Int)) (L9 : List Int → (List (Int × Int)) → (List (Int × ByteArray × Int)) → List ByteArray → Int → Int → Bool → Int → List Int → Option (List Int)) (times0 : List Int) (list1 : List (Int × Int)) (moves2 : List (Int × ByteArray × Int)) (zones3 : List ByteArray) (i10 : Int) (tick11 : Int) (fired14 : Bool) (k15 : Int) (out9 : List Int) : Option (List Int) :=
  if (decide ((k15 : Int) < (zones3.length : Int))) = true then
    if fired14 = true then
      if (0 : Int) ≤ k15 ∧ (k15 : Int) < zones3.length then
        (spec_l20Clear.f moves2 (zones3.getD (k15 : Int).toNat ByteArray.empty) (IntKind.i64.wrap (tick11 * 100))).bind fun r2 =>
        L9 times0 list1 moves2 zones3 i10 tick11 r2 (IntKind.i64.wrap (k15 + 1)) out9
      else
        none
    else
      L9 times0 list1 moves2 zones3 i10 tick11 false (IntKind.i64.wrap (k15 + 1)) out9
  else if fired14 = true then
    if out9.length + ([tick11]).length < room 8 then
      L3 times0 list1 moves2 zones3 (IntKind.i64.wrap (i10 + 1)) (out9 ++ ([tick11]))
    else
      none
  else if out9.length + ([(-1)]).length < room 8 then
    L3 times0 list1 moves2 zones3 (IntKind.i64.wrap (i10 + 1)) (out9 ++ ([(-1)]))
  else
    none
def spec_l22Fired.l9 (n : Nat) (L3 : List Int → (List (Int × Int)) → (List (Int × ByteArray × Int)) → List ByteArray → Int → List Int → Option (List Int)) : Nat → List Int → (List (Int × Int)) → (List (Int × ByteArray × Int)) → List ByteArray → Int → Int → Bool → Int → List Int → Option (List Int)
  | 0 => fun _ _ _ _ _ _ _ _ _ => none
  | k + 1 => spec_l22Fired.g9 L3 (spec_l22Fired.l9 n L3 k)
def spec_l22Fired.g3 (I9 : List Int → (List (Int × Int)) → (List (Int × ByteArray × Int)) → List ByteArray → Int → Int → Bool → Int → List Int → Option (List Int)) (L3 : List Int → (List (Int × Int)) → (List (Int × ByteArray × Int)) → List ByteArray → Int → List Int → Option (List Int)) (times0 : List Int) (list1 : List (Int × Int)) (moves2 : List (Int × ByteArray × Int)) (zones3 : List ByteArray) (i10 : Int) (out9 : List Int) : Option (List Int) :=
  if (decide ((i10 : Int) < (times0.length : Int))) = true then
    if (0 : Int) ≤ i10 ∧ (i10 : Int) < times0.length then
      (spec_l22At.f list1 (IntKind.i64.wrap (Int.tdiv (times0.getD (i10 : Int).toNat 0) 100))).bind fun r1 =>
      if r1.1.2.2.1 = true then
        I9 times0 list1 moves2 zones3 i10 (IntKind.i64.wrap (Int.tdiv (times0.getD (i10 : Int).toNat 0) 100)) (!r1.1.2.2.2.1) 0 out9
      else
        I9 times0 list1 moves2 zones3 i10 (IntKind.i64.wrap (Int.tdiv (times0.getD (i10 : Int).toNat 0) 100)) false 0 out9
    else
      none
  else
    some out9
def spec_l22Fired.l3 (n : Nat) : Nat → List Int → (List (Int × Int)) → (List (Int × ByteArray × Int)) → List ByteArray → Int → List Int → Option (List Int)
  | 0 => fun _ _ _ _ _ _ => none
  | k + 1 => spec_l22Fired.g3 (spec_l22Fired.l9 n (spec_l22Fired.l3 n k) n) (spec_l22Fired.l3 n k)
def spec_l22Fired.top (I3 : List Int → (List (Int × Int)) → (List (Int × ByteArray × Int)) → List ByteArray → Int → List Int → Option (List Int)) (times0 : List Int) (list1 : List (Int × Int)) (moves2 : List (Int × ByteArray × Int)) (zones3 : List ByteArray) : Option (List Int) :=
  I3 times0 list1 moves2 zones3 0 []
def spec_l22Fired.fn (n : Nat) (times0 : List Int) (list1 : List (Int × Int)) (moves2 : List (Int × ByteArray × Int)) (zones3 : List ByteArray) : Option (List Int) := spec_l22Fired.top (spec_l22Fired.l3 n n) times0 list1 moves2 zones3
def spec_l22Fired.f (times0 : List Int) (list1 : List (Int × Int)) (moves2 : List (Int × ByteArray × Int)) (zones3 : List ByteArray) : Option (List Int) := spec_l22Fired.fn NN times0 list1 moves2 zones3
end
end Go.Pl

namespace Go.Pl
open Go.Ev
set_option linter.unusedVariables false
noncomputable section
def spec_l01IsTime.top (t0 : Int) : Option Bool :=
  (spec_l01In.f t0 0 10000000).bind fun r1 =>
  some r1
def spec_l01IsTime.fn (n : Nat) (t0 : Int) : Option Bool := spec_l01IsTime.top t0
def spec_l01IsTime.f (t0 : Int) : Option Bool := spec_l01IsTime.fn NN t0
end
end Go.Pl

namespace Go.Pl
open Go.Ev
set_option linter.unusedVariables false
noncomputable section
def spec_AreMoves.g2 (L2 : (List (Int × ByteArray × Int)) → Int → Option Bool) (list0 : List (Int × ByteArray × Int)) (i3 : Int) : Option Bool :=
  if (decide ((i3 : Int) < (list0.length : Int))) = true then
    if (0 : Int) ≤ i3 ∧ (i3 : Int) < list0.length then
      (spec_l01IsTime.f ((list0.getD (i3 : Int).toNat (0, (ByteArray.empty, 0))).1)).bind fun r1 =>
      if (!r1) = false then
        (spec_IsWord.f (((list0.getD (i3 : Int).toNat (0, (ByteArray.empty, 0))).2).1)).bind fun r2 =>
        if (!r2) = false then
          (spec_l01In.f (((list0.getD (i3 : Int).toNat (0, (ByteArray.empty, 0))).2).2) (-1000) 1000).bind fun r3 =>
          if (!r3) = false then
            if (((((list0.getD (i3 : Int).toNat (0, (ByteArray.empty, 0))).2).2) : Int) == 0) = false then
              if (decide ((0 : Int) < i3)) = true then
                if (0 : Int) ≤ (IntKind.i64.wrap (i3 - 1)) ∧ ((IntKind.i64.wrap (i3 - 1)) : Int) < list0.length then
                  if (decide ((((list0.getD (i3 : Int).toNat (0, (ByteArray.empty, 0))).1) : Int) < ((list0.getD ((IntKind.i64.wrap (i3 - 1)) : Int).toNat (0, (ByteArray.empty, 0))).1))) = false then
                    (spec_l20People.f list0 (((list0.getD (i3 : Int).toNat (0, (ByteArray.empty, 0))).2).1) (IntKind.i64.wrap (i3 + 1))).bind fun r4 =>
                    if (decide ((r4 : Int) < 0)) = true then
                      some false
                    else
                      L2 list0 (IntKind.i64.wrap (i3 + 1))
                  else
                    some false
                else
                  none
              else
                (spec_l20People.f list0 (((list0.getD (i3 : Int).toNat (0, (ByteArray.empty, 0))).2).1) (IntKind.i64.wrap (i3 + 1))).bind fun r5 =>
                if (decide ((r5 : Int) < 0)) = true then
                  some false
                else
                  L2 list0 (IntKind.i64.wrap (i3 + 1))
            else
              some false
          else
            some false
        else
          some false
      else
        some false
    else
      none
  else
    some (decide (((list0.length : Int) : Int) ≤ 40))
def spec_AreMoves.l2 (n : Nat) : Nat → (List (Int × ByteArray × Int)) → Int → Option Bool
  | 0 => fun _ _ => none
  | k + 1 => spec_AreMoves.g2 (spec_AreMoves.l2 n k)
def spec_AreMoves.top (I2 : (List (Int × ByteArray × Int)) → Int → Option Bool) (list0 : List (Int × ByteArray × Int)) : Option Bool :=
  I2 list0 0
def spec_AreMoves.fn (n : Nat) (list0 : List (Int × ByteArray × Int)) : Option Bool := spec_AreMoves.top (spec_AreMoves.l2 n n) list0
def spec_AreMoves.f (list0 : List (Int × ByteArray × Int)) : Option Bool := spec_AreMoves.fn NN list0
end
end Go.Pl

namespace Go.Pl
open Go.Ev
set_option linter.unusedVariables false
noncomputable section
def spec_AreSignals.g2 (L2 : (List (Int × Int)) → Int → Option Bool) (list0 : List (Int × Int)) (i3 : Int) : Option Bool :=
  if (decide ((i3 : Int) < (list0.length : Int))) = true then
    if (0 : Int) ≤ i3 ∧ (i3 : Int) < list0.length then
      (spec_l01In.f ((list0.getD (i3 : Int).toNat (0, 0)).1) 0 100000).bind fun r1 =>
      if (!r1) = false then
        (spec_l01In.f ((list0.getD (i3 : Int).toNat (0, 0)).2) 0 9).bind fun r2 =>
        if (!r2) = false then
          if ((((list0.getD (i3 : Int).toNat (0, 0)).2) : Int) == 8) = false then
            if (decide ((0 : Int) < i3)) = true then
              if (0 : Int) ≤ (IntKind.i64.wrap (i3 - 1)) ∧ ((IntKind.i64.wrap (i3 - 1)) : Int) < list0.length then
                if (decide ((((list0.getD (i3 : Int).toNat (0, 0)).1) : Int) < ((list0.getD ((IntKind.i64.wrap (i3 - 1)) : Int).toNat (0, 0)).1))) = true then
                  some false
                else
                  L2 list0 (IntKind.i64.wrap (i3 + 1))
              else
                none
            else
              L2 list0 (IntKind.i64.wrap (i3 + 1))
          else
            some false
        else
          some false
      else
        some false
    else
      none
  else
    some (decide (((list0.length : Int) : Int) ≤ 40))
def spec_AreSignals.l2 (n : Nat) : Nat → (List (Int × Int)) → Int → Option Bool
  | 0 => fun _ _ => none
  | k + 1 => spec_AreSignals.g2 (spec_AreSignals.l2 n k)
def spec_AreSignals.top (I2 : (List (Int × Int)) → Int → Option Bool) (list0 : List (Int × Int)) : Option Bool :=
  I2 list0 0
def spec_AreSignals.fn (n : Nat) (list0 : List (Int × Int)) : Option Bool := spec_AreSignals.top (spec_AreSignals.l2 n n) list0
def spec_AreSignals.f (list0 : List (Int × Int)) : Option Bool := spec_AreSignals.fn NN list0
end
end Go.Pl

namespace Go.Pl
open Go.Ev
set_option linter.unusedVariables false
noncomputable section
def spec_l01All.g2 (L2 : List ByteArray → Int → Option Bool) (words0 : List ByteArray) (i3 : Int) : Option Bool :=
  if (decide ((i3 : Int) < (words0.length : Int))) = true then
    if (0 : Int) ≤ i3 ∧ (i3 : Int) < words0.length then
      (spec_IsWord.f (words0.getD (i3 : Int).toNat ByteArray.empty)).bind fun r1 =>
      if (!r1) = true then
        some false
      else
        L2 words0 (IntKind.i64.wrap (i3 + 1))
    else
      none
  else
    some true
def spec_l01All.l2 (n : Nat) : Nat → List ByteArray → Int → Option Bool
  | 0 => fun _ _ => none
  | k + 1 => spec_l01All.g2 (spec_l01All.l2 n k)
def spec_l01All.top (I2 : List ByteArray → Int → Option Bool) (words0 : List ByteArray) : Option Bool :=
  I2 words0 0
def spec_l01All.fn (n : Nat) (words0 : List ByteArray) : Option Bool := spec_l01All.top (spec_l01All.l2 n n) words0
def spec_l01All.f (words0 : List ByteArray) : Option Bool := spec_l01All.fn NN words0
end
end Go.Pl

namespace Go.Pl
open Go.Ev
set_option linter.unusedVariables false
noncomputable section
def spec_l22Times.g2 (L2 : List Int → (List (Int × Int)) → (List (Int × ByteArray × Int)) → List ByteArray → Int → Option Int) (times0 : List Int) (list1 : List (Int × Int)) (moves2 : List (Int × ByteArray × Int)) (zones3 : List ByteArray) (i9 : Int) : Option Int :=
  if (decide ((i9 : Int) < (times0.length : Int))) = true then
    if (0 : Int) ≤ i9 ∧ (i9 : Int) < times0.length then
      (spec_l01IsTime.f (times0.getD (i9 : Int).toNat 0)).bind fun r1 =>
      if (!r1) = true then
        some 1
      else
        L2 times0 list1 moves2 zones3 (IntKind.i64.wrap (i9 + 1))
    else
      none
  else if (decide ((20 : Int) < (times0.length : Int))) = false then
    (spec_AreSignals.f list1).bind fun r2 =>
    if (!r2) = false then
      (spec_AreMoves.f moves2).bind fun r3 =>
      if (!r3) = false then
        (spec_l01All.f zones3).bind fun r4 =>
        if (!r4) = false then
          if (decide ((60 : Int) < (zones3.length : Int))) = true then
            some 1
          else
            some 0
        else
          some 1
      else
        some 1
    else
      some 1
  else
    some 1
def spec_l22Times.l2 (n : Nat) : Nat → List Int → (List (Int × Int)) → (List (Int × ByteArray × Int)) → List ByteArray → Int → Option Int
  | 0 => fun _ _ _ _ _ => none
  | k + 1 => spec_l22Times.g2 (spec_l22Times.l2 n k)
def spec_l22Times.top (I2 : List Int → (List (Int × Int)) → (List (Int × ByteArray × Int)) → List ByteArray → Int → Option Int) (times0 : List Int) (list1 : List (Int × Int)) (moves2 : List (Int × ByteArray × Int)) (zones3 : List ByteArray) : Option Int :=
  I2 times0 list1 moves2 zones3 0
def spec_l22Times.fn (n : Nat) (times0 : List Int) (list1 : List (Int × Int)) (moves2 : List (Int × ByteArray × Int)) (zones3 : List ByteArray) : Option Int := spec_l22Times.top (spec_l22Times.l2 n n) times0 list1 moves2 zones3
def spec_l22Times.f (times0 : List Int) (list1 : List (Int × Int)) (moves2 : List (Int × ByteArray × Int)) (zones3 : List ByteArray) : Option Int := spec_l22Times.fn NN times0 list1 moves2 zones3
end
end Go.Pl

namespace Go.Pl
open Go.Ev
set_option linter.unusedVariables false
noncomputable section
def spec_FiredSafely.top (times0 : List Int) (list1 : List (Int × Int)) (moves2 : List (Int × ByteArray × Int)) (zones3 : List ByteArray) : Option (List Int × Int) :=
  (spec_l22Times.f times0 list1 moves2 zones3).bind fun r1 =>
  if ((r1 : Int) != 0) = true then
    some ([], r1)
  else
    (spec_l22Fired.f times0 list1 moves2 zones3).bind fun r2 =>
    some (r2, 0)
def spec_FiredSafely.fn (n : Nat) (times0 : List Int) (list1 : List (Int × Int)) (moves2 : List (Int × ByteArray × Int)) (zones3 : List ByteArray) : Option (List Int × Int) := spec_FiredSafely.top times0 list1 moves2 zones3
def spec_FiredSafely.f (times0 : List Int) (list1 : List (Int × Int)) (moves2 : List (Int × ByteArray × Int)) (zones3 : List ByteArray) : Option (List Int × Int) := spec_FiredSafely.fn NN times0 list1 moves2 zones3
end
end Go.Pl

namespace Go.Pl
open Go.Ev
set_option linter.unusedVariables false
noncomputable section
def laws_FnNight.g1000018 (L17 : (List (Int × ByteArray × Int)) → Int → ((List (Int × Int)) × (List (ByteArray × Int × Int × Int × Int × Int × Int × Int × Int)) × List (Int × Int × ByteArray × Int)) → List Int → List Int → Option Bool) (L1000018 : (List (Int × ByteArray × Int)) → Int → ((List (Int × Int)) × (List (ByteArray × Int × Int × Int × Int × Int × Int × Int × Int)) × List (Int × Int × ByteArray × Int)) → List Int → List Int → Option Bool) (books0 : List (Int × ByteArray × Int)) (i20 : Int) (x6 : (List (Int × Int)) × (List (ByteArray × Int × Int × Int × Int × Int × Int × Int × Int)) × List (Int × Int × ByteArray × Int)) (f15 : List Int) (fired19 : List Int) : Option Bool :=
  L17 books0 (IntKind.i64.wrap (i20 + 1)) x6 f15 fired19
def laws_FnNight.l1000018 (n : Nat) (L17 : (List (Int × ByteArray × Int)) → Int → ((List (Int × Int)) × (List (ByteArray × Int × Int × Int × Int × Int × Int × Int × Int)) × List (Int × Int × ByteArray × Int)) → List Int → List Int → Option Bool) : Nat → (List (Int × ByteArray × Int)) → Int → ((List (Int × Int)) × (List (ByteArray × Int × Int × Int × Int × Int × Int × Int × Int)) × List (Int × Int × ByteArray × Int)) → List Int → List Int → Option Bool
  | 0 => fun _ _ _ _ _ => none
  | k + 1 => laws_FnNight.g1000018 L17 (laws_FnNight.l1000018 n L17 k)
theorem laws_FnNight.c1000018 {n : Nat} (h : 0 < n) (L17 : (List (Int × ByteArray × Int)) → Int → ((List (Int × Int)) × (List (ByteArray × Int × Int × Int × Int × Int × Int × Int × Int)) × List (Int × Int × ByteArray × Int)) → List Int → List Int → Option Bool) : laws_FnNight.l1000018 n L17 n = laws_FnNight.g1000018 L17 (laws_FnNight.l1000018 n L17 (n - 1)) := by
  cases n with
  | zero => exact absurd h (Nat.lt_irrefl 0)
  | succ n => rfl
def laws_FnNight.g1000019 (I1000018 : (List (Int × ByteArray × Int)) → Int → ((List (Int × Int)) × (List (ByteArray × Int × Int × Int × Int × Int × Int × Int × Int)) × List (Int × Int × ByteArray × Int)) → List Int → List Int → Option Bool) (L17 : (List (Int × ByteArray × Int)) → Int → ((List (Int × Int)) × (List (ByteArray × Int × Int × Int × Int × Int × Int × Int × Int)) × List (Int × Int × ByteArray × Int)) → List Int → List Int → Option Bool) (L1000019 : (List (Int × ByteArray × Int)) → Int → ((List (Int × Int)) × (List (ByteArray × Int × Int × Int × Int × Int × Int × Int × Int)) × List (Int × Int × ByteArray × Int)) → List Int → List Int → Option Bool) (books0 : List (Int × ByteArray × Int)) (i20 : Int) (x6 : (List (Int × Int)) × (List (ByteArray × Int × Int × Int × Int × Int × Int × Int × Int)) × List (Int × Int × ByteArray × Int)) (f15 : List Int) (fired19 : List Int) : Option Bool :=
  if (0 : Int) ≤ i20 ∧ (i20 : Int) < f15.length then
    if (decide ((0 : Int) ≤ (f15.getD (i20 : Int).toNat 0))) = true then
      if fired19.length + ([i20]).length < room 8 then
        I1000018 books0 i20 x6 f15 (fired19 ++ ([i20]))
      else
        none
    else
      I1000018 books0 i20 x6 f15 fired19
  else
    none
def laws_FnNight.l1000019 (n : Nat) (L17 : (List (Int × ByteArray × Int)) → Int → ((List (Int × Int)) × (List (ByteArray × Int × Int × Int × Int × Int × Int × Int × Int)) × List (Int × Int × ByteArray × Int)) → List Int → List Int → Option Bool) : Nat → (List (Int × ByteArray × Int)) → Int → ((List (Int × Int)) × (List (ByteArray × Int × Int × Int × Int × Int × Int × Int × Int)) × List (Int × Int × ByteArray × Int)) → List Int → List Int → Option Bool
  | 0 => fun _ _ _ _ _ => none
  | k + 1 => laws_FnNight.g1000019 (laws_FnNight.l1000018 n L17 n) L17 (laws_FnNight.l1000019 n L17 k)
theorem laws_FnNight.c1000019 {n : Nat} (h : 0 < n) (L17 : (List (Int × ByteArray × Int)) → Int → ((List (Int × Int)) × (List (ByteArray × Int × Int × Int × Int × Int × Int × Int × Int)) × List (Int × Int × ByteArray × Int)) → List Int → List Int → Option Bool) : laws_FnNight.l1000019 n L17 n = laws_FnNight.g1000019 (laws_FnNight.l1000018 n L17 n) L17 (laws_FnNight.l1000019 n L17 (n - 1)) := by
  cases n with
  | zero => exact absurd h (Nat.lt_irrefl 0)
  | succ n => rfl
def laws_FnNight.g1000031 (L26 : (List (Int × ByteArray × Int)) → Int → Int → ((List (Int × Int)) × (List (ByteArray × Int × Int × Int × Int × Int × Int × Int × Int)) × List (Int × Int × ByteArray × Int)) → List Int → (List (Int × ByteArray × Int)) → Option Bool) (L30 : (List (Int × ByteArray × Int)) → Int → Int → Int → Int → ((List (Int × Int)) × (List (ByteArray × Int × Int × Int × Int × Int × Int × Int × Int)) × List (Int × Int × ByteArray × Int)) → List Int → (List (Int × ByteArray × Int)) → Option Bool) (L1000031 : (List (Int × ByteArray × Int)) → Int → Int → Int → Int → ((List (Int × Int)) × (List (ByteArray × Int × Int × Int × Int × Int × Int × Int × Int)) × List (Int × Int × ByteArray × Int)) → List Int → (List (Int × ByteArray × Int)) → Option Bool) (books0 : List (Int × ByteArray × Int)) (three22 : Int) (k25 : Int) (n26 : Int) (i27 : Int) (x6 : (List (Int × Int)) × (List (ByteArray × Int × Int × Int × Int × Int × Int × Int × Int)) × List (Int × Int × ByteArray × Int)) (fired19 : List Int) (b21 : List (Int × ByteArray × Int)) : Option Bool :=
  L30 books0 three22 k25 n26 (IntKind.i64.wrap (i27 + 1)) x6 fired19 b21
def laws_FnNight.l1000031 (n : Nat) (L26 : (List (Int × ByteArray × Int)) → Int → Int → ((List (Int × Int)) × (List (ByteArray × Int × Int × Int × Int × Int × Int × Int × Int)) × List (Int × Int × ByteArray × Int)) → List Int → (List (Int × ByteArray × Int)) → Option Bool) (L30 : (List (Int × ByteArray × Int)) → Int → Int → Int → Int → ((List (Int × Int)) × (List (ByteArray × Int × Int × Int × Int × Int × Int × Int × Int)) × List (Int × Int × ByteArray × Int)) → List Int → (List (Int × ByteArray × Int)) → Option Bool) : Nat → (List (Int × ByteArray × Int)) → Int → Int → Int → Int → ((List (Int × Int)) × (List (ByteArray × Int × Int × Int × Int × Int × Int × Int × Int)) × List (Int × Int × ByteArray × Int)) → List Int → (List (Int × ByteArray × Int)) → Option Bool
  | 0 => fun _ _ _ _ _ _ _ _ => none
  | k + 1 => laws_FnNight.g1000031 L26 L30 (laws_FnNight.l1000031 n L26 L30 k)
theorem laws_FnNight.c1000031 {n : Nat} (h : 0 < n) (L26 : (List (Int × ByteArray × Int)) → Int → Int → ((List (Int × Int)) × (List (ByteArray × Int × Int × Int × Int × Int × Int × Int × Int)) × List (Int × Int × ByteArray × Int)) → List Int → (List (Int × ByteArray × Int)) → Option Bool) (L30 : (List (Int × ByteArray × Int)) → Int → Int → Int → Int → ((List (Int × Int)) × (List (ByteArray × Int × Int × Int × Int × Int × Int × Int × Int)) × List (Int × Int × ByteArray × Int)) → List Int → (List (Int × ByteArray × Int)) → Option Bool) : laws_FnNight.l1000031 n L26 L30 n = laws_FnNight.g1000031 L26 L30 (laws_FnNight.l1000031 n L26 L30 (n - 1)) := by
  cases n with
  | zero => exact absurd h (Nat.lt_irrefl 0)
  | succ n => rfl
def laws_FnNight.g1000032 (I1000031 : (List (Int × ByteArray × Int)) → Int → Int → Int → Int → ((List (Int × Int)) × (List (ByteArray × Int × Int × Int × Int × Int × Int × Int × Int)) × List (Int × Int × ByteArray × Int)) → List Int → (List (Int × ByteArray × Int)) → Option Bool) (L26 : (List (Int × ByteArray × Int)) → Int → Int → ((List (Int × Int)) × (List (ByteArray × Int × Int × Int × Int × Int × Int × Int × Int)) × List (Int × Int × ByteArray × Int)) → List Int → (List (Int × ByteArray × Int)) → Option Bool) (L30 : (List (Int × ByteArray × Int)) → Int → Int → Int → Int → ((List (Int × Int)) × (List (ByteArray × Int × Int × Int × Int × Int × Int × Int × Int)) × List (Int × Int × ByteArray × Int)) → List Int → (List (Int × ByteArray × Int)) → Option Bool) (L1000032 : (List (Int × ByteArray × Int)) → Int → Int → Int → Int → ((List (Int × Int)) × (List (ByteArray × Int × Int × Int × Int × Int × Int × Int × Int)) × List (Int × Int × ByteArray × Int)) → List Int → (List (Int × ByteArray × Int)) → Option Bool) (books0 : List (Int × ByteArray × Int)) (three22 : Int) (k25 : Int) (n26 : Int) (i27 : Int) (x6 : (List (Int × Int)) × (List (ByteArray × Int × Int × Int × Int × Int × Int × Int × Int)) × List (Int × Int × ByteArray × Int)) (fired19 : List Int) (b21 : List (Int × ByteArray × Int)) : Option Bool :=
  if (0 : Int) ≤ i27 ∧ (i27 : Int) < fired19.length then
    if (0 : Int) ≤ (fired19.getD (i27 : Int).toNat 0) ∧ ((fired19.getD (i27 : Int).toNat 0) : Int) < x6.2.2.length then
      if (0 : Int) ≤ k25 ∧ (k25 : Int) < x6.2.1.length then
        if (((((x6.2.2.getD ((fired19.getD (i27 : Int).toNat 0) : Int).toNat (0, (0, (ByteArray.empty, 0)))).2).2).1).toList == ((x6.2.1.getD (k25 : Int).toNat (ByteArray.empty, (0, (0, (0, (0, (0, (0, (0, 0))))))))).1).toList) = true then
          I1000031 books0 three22 k25 (IntKind.i64.wrap (n26 + 1)) i27 x6 fired19 b21
        else
          I1000031 books0 three22 k25 n26 i27 x6 fired19 b21
      else
        none
    else
      none
  else
    none
def laws_FnNight.l1000032 (n : Nat) (L26 : (List (Int × ByteArray × Int)) → Int → Int → ((List (Int × Int)) × (List (ByteArray × Int × Int × Int × Int × Int × Int × Int × Int)) × List (Int × Int × ByteArray × Int)) → List Int → (List (Int × ByteArray × Int)) → Option Bool) (L30 : (List (Int × ByteArray × Int)) → Int → Int → Int → Int → ((List (Int × Int)) × (List (ByteArray × Int × Int × Int × Int × Int × Int × Int × Int)) × List (Int × Int × ByteArray × Int)) → List Int → (List (Int × ByteArray × Int)) → Option Bool) : Nat → (List (Int × ByteArray × Int)) → Int → Int → Int → Int → ((List (Int × Int)) × (List (ByteArray × Int × Int × Int × Int × Int × Int × Int × Int)) × List (Int × Int × ByteArray × Int)) → List Int → (List (Int × ByteArray × Int)) → Option Bool
  | 0 => fun _ _ _ _ _ _ _ _ => none
  | k + 1 => laws_FnNight.g1000032 (laws_FnNight.l1000031 n L26 L30 n) L26 L30 (laws_FnNight.l1000032 n L26 L30 k)
theorem laws_FnNight.c1000032 {n : Nat} (h : 0 < n) (L26 : (List (Int × ByteArray × Int)) → Int → Int → ((List (Int × Int)) × (List (ByteArray × Int × Int × Int × Int × Int × Int × Int × Int)) × List (Int × Int × ByteArray × Int)) → List Int → (List (Int × ByteArray × Int)) → Option Bool) (L30 : (List (Int × ByteArray × Int)) → Int → Int → Int → Int → ((List (Int × Int)) × (List (ByteArray × Int × Int × Int × Int × Int × Int × Int × Int)) × List (Int × Int × ByteArray × Int)) → List Int → (List (Int × ByteArray × Int)) → Option Bool) : laws_FnNight.l1000032 n L26 L30 n = laws_FnNight.g1000032 (laws_FnNight.l1000031 n L26 L30 n) L26 L30 (laws_FnNight.l1000032 n L26 L30 (n - 1)) := by
  cases n with
  | zero => exact absurd h (Nat.lt_irrefl 0)
  | succ n => rfl
def laws_FnNight.g1000027 (L26 : (List (Int × ByteArray × Int)) → Int → Int → ((List (Int × Int)) × (List (ByteArray × Int × Int × Int × Int × Int × Int × Int × Int)) × List (Int × Int × ByteArray × Int)) → List Int → (List (Int × ByteArray × Int)) → Option Bool) (L1000027 : (List (Int × ByteArray × Int)) → Int → Int → ((List (Int × Int)) × (List (ByteArray × Int × Int × Int × Int × Int × Int × Int × Int)) × List (Int × Int × ByteArray × Int)) → List Int → (List (Int × ByteArray × Int)) → Option Bool) (books0 : List (Int × ByteArray × Int)) (three22 : Int) (k25 : Int) (x6 : (List (Int × Int)) × (List (ByteArray × Int × Int × Int × Int × Int × Int × Int × Int)) × List (Int × Int × ByteArray × Int)) (fired19 : List Int) (b21 : List (Int × ByteArray × Int)) : Option Bool :=
  L26 books0 three22 (IntKind.i64.wrap (k25 + 1)) x6 fired19 b21
def laws_FnNight.l1000027 (n : Nat) (L26 : (List (Int × ByteArray × Int)) → Int → Int → ((List (Int × Int)) × (List (ByteArray × Int × Int × Int × Int × Int × Int × Int × Int)) × List (Int × Int × ByteArray × Int)) → List Int → (List (Int × ByteArray × Int)) → Option Bool) : Nat → (List (Int × ByteArray × Int)) → Int → Int → ((List (Int × Int)) × (List (ByteArray × Int × Int × Int × Int × Int × Int × Int × Int)) × List (Int × Int × ByteArray × Int)) → List Int → (List (Int × ByteArray × Int)) → Option Bool
  | 0 => fun _ _ _ _ _ _ => none
  | k + 1 => laws_FnNight.g1000027 L26 (laws_FnNight.l1000027 n L26 k)
theorem laws_FnNight.c1000027 {n : Nat} (h : 0 < n) (L26 : (List (Int × ByteArray × Int)) → Int → Int → ((List (Int × Int)) × (List (ByteArray × Int × Int × Int × Int × Int × Int × Int × Int)) × List (Int × Int × ByteArray × Int)) → List Int → (List (Int × ByteArray × Int)) → Option Bool) : laws_FnNight.l1000027 n L26 n = laws_FnNight.g1000027 L26 (laws_FnNight.l1000027 n L26 (n - 1)) := by
  cases n with
  | zero => exact absurd h (Nat.lt_irrefl 0)
  | succ n => rfl
def laws_FnNight.g1000034 (I1000027 : (List (Int × ByteArray × Int)) → Int → Int → ((List (Int × Int)) × (List (ByteArray × Int × Int × Int × Int × Int × Int × Int × Int)) × List (Int × Int × ByteArray × Int)) → List Int → (List (Int × ByteArray × Int)) → Option Bool) (L26 : (List (Int × ByteArray × Int)) → Int → Int → ((List (Int × Int)) × (List (ByteArray × Int × Int × Int × Int × Int × Int × Int × Int)) × List (Int × Int × ByteArray × Int)) → List Int → (List (Int × ByteArray × Int)) → Option Bool) (L1000034 : (List (Int × ByteArray × Int)) → Int → Int → Int → ((List (Int × Int)) × (List (ByteArray × Int × Int × Int × Int × Int × Int × Int × Int)) × List (Int × Int × ByteArray × Int)) → List Int → (List (Int × ByteArray × Int)) → Option Bool) (books0 : List (Int × ByteArray × Int)) (three22 : Int) (k25 : Int) (n26 : Int) (x6 : (List (Int × Int)) × (List (ByteArray × Int × Int × Int × Int × Int × Int × Int × Int)) × List (Int × Int × ByteArray × Int)) (fired19 : List Int) (b21 : List (Int × ByteArray × Int)) : Option Bool :=
  if (0 : Int) ≤ k25 ∧ (k25 : Int) < x6.2.1.length then
    (impl_PiecesLeft.f books0 ((x6.2.1.getD (k25 : Int).toNat (ByteArray.empty, (0, (0, (0, (0, (0, (0, (0, 0))))))))).1)).bind fun r10 =>
    if (0 : Int) ≤ k25 ∧ (k25 : Int) < x6.2.1.length then
      (impl_PiecesLeft.f b21 ((x6.2.1.getD (k25 : Int).toNat (ByteArray.empty, (0, (0, (0, (0, (0, (0, (0, 0))))))))).1)).bind fun r11 =>
      if ((r10.2 : Int) != 0) = false then
        if ((r11.2 : Int) != 0) = false then
          if ((r11.1 : Int) != (IntKind.i64.wrap (r10.1 - n26))) = true then
            some false
          else
            I1000027 books0 three22 k25 x6 fired19 b21
        else
          some false
      else
        some false
    else
      none
  else
    none
def laws_FnNight.l1000034 (n : Nat) (L26 : (List (Int × ByteArray × Int)) → Int → Int → ((List (Int × Int)) × (List (ByteArray × Int × Int × Int × Int × Int × Int × Int × Int)) × List (Int × Int × ByteArray × Int)) → List Int → (List (Int × ByteArray × Int)) → Option Bool) : Nat → (List (Int × ByteArray × Int)) → Int → Int → Int → ((List (Int × Int)) × (List (ByteArray × Int × Int × Int × Int × Int × Int × Int × Int)) × List (Int × Int × ByteArray × Int)) → List Int → (List (Int × ByteArray × Int)) → Option Bool
  | 0 => fun _ _ _ _ _ _ _ => none
  | k + 1 => laws_FnNight.g1000034 (laws_FnNight.l1000027 n L26 n) L26 (laws_FnNight.l1000034 n L26 k)
theorem laws_FnNight.c1000034 {n : Nat} (h : 0 < n) (L26 : (List (Int × ByteArray × Int)) → Int → Int → ((List (Int × Int)) × (List (ByteArray × Int × Int × Int × Int × Int × Int × Int × Int)) × List (Int × Int × ByteArray × Int)) → List Int → (List (Int × ByteArray × Int)) → Option Bool) : laws_FnNight.l1000034 n L26 n = laws_FnNight.g1000034 (laws_FnNight.l1000027 n L26 n) L26 (laws_FnNight.l1000034 n L26 (n - 1)) := by
  cases n with
  | zero => exact absurd h (Nat.lt_irrefl 0)
  | succ n => rfl
def laws_FnNight.g30 (I1000032 : (List (Int × ByteArray × Int)) → Int → Int → Int → Int → ((List (Int × Int)) × (List (ByteArray × Int × Int × Int × Int × Int × Int × Int × Int)) × List (Int × Int × ByteArray × Int)) → List Int → (List (Int × ByteArray × Int)) → Option Bool) (I1000034 : (List (Int × ByteArray × Int)) → Int → Int → Int → ((List (Int × Int)) × (List (ByteArray × Int × Int × Int × Int × Int × Int × Int × Int)) × List (Int × Int × ByteArray × Int)) → List Int → (List (Int × ByteArray × Int)) → Option Bool) (L26 : (List (Int × ByteArray × Int)) → Int → Int → ((List (Int × Int)) × (List (ByteArray × Int × Int × Int × Int × Int × Int × Int × Int)) × List (Int × Int × ByteArray × Int)) → List Int → (List (Int × ByteArray × Int)) → Option Bool) (L30 : (List (Int × ByteArray × Int)) → Int → Int → Int → Int → ((List (Int × Int)) × (List (ByteArray × Int × Int × Int × Int × Int × Int × Int × Int)) × List (Int × Int × ByteArray × Int)) → List Int → (List (Int × ByteArray × Int)) → Option Bool) (books0 : List (Int × ByteArray × Int)) (three22 : Int) (k25 : Int) (n26 : Int) (i27 : Int) (x6 : (List (Int × Int)) × (List (ByteArray × Int × Int × Int × Int × Int × Int × Int × Int)) × List (Int × Int × ByteArray × Int)) (fired19 : List Int) (b21 : List (Int × ByteArray × Int)) : Option Bool :=
  if (decide ((i27 : Int) < (fired19.length : Int))) = true then
    I1000032 books0 three22 k25 n26 i27 x6 fired19 b21
  else
    I1000034 books0 three22 k25 n26 x6 fired19 b21
def laws_FnNight.l30 (n : Nat) (L26 : (List (Int × ByteArray × Int)) → Int → Int → ((List (Int × Int)) × (List (ByteArray × Int × Int × Int × Int × Int × Int × Int × Int)) × List (Int × Int × ByteArray × Int)) → List Int → (List (Int × ByteArray × Int)) → Option Bool) : Nat → (List (Int × ByteArray × Int)) → Int → Int → Int → Int → ((List (Int × Int)) × (List (ByteArray × Int × Int × Int × Int × Int × Int × Int × Int)) × List (Int × Int × ByteArray × Int)) → List Int → (List (Int × ByteArray × Int)) → Option Bool
  | 0 => fun _ _ _ _ _ _ _ _ => none
  | k + 1 => laws_FnNight.g30 (laws_FnNight.l1000032 n L26 (laws_FnNight.l30 n L26 k) n) (laws_FnNight.l1000034 n L26 n) L26 (laws_FnNight.l30 n L26 k)
def laws_FnNight.g1000028 (I30 : (List (Int × ByteArray × Int)) → Int → Int → Int → Int → ((List (Int × Int)) × (List (ByteArray × Int × Int × Int × Int × Int × Int × Int × Int)) × List (Int × Int × ByteArray × Int)) → List Int → (List (Int × ByteArray × Int)) → Option Bool) (L26 : (List (Int × ByteArray × Int)) → Int → Int → ((List (Int × Int)) × (List (ByteArray × Int × Int × Int × Int × Int × Int × Int × Int)) × List (Int × Int × ByteArray × Int)) → List Int → (List (Int × ByteArray × Int)) → Option Bool) (L1000028 : (List (Int × ByteArray × Int)) → Int → Int → ((List (Int × Int)) × (List (ByteArray × Int × Int × Int × Int × Int × Int × Int × Int)) × List (Int × Int × ByteArray × Int)) → List Int → (List (Int × ByteArray × Int)) → Option Bool) (books0 : List (Int × ByteArray × Int)) (three22 : Int) (k25 : Int) (x6 : (List (Int × Int)) × (List (ByteArray × Int × Int × Int × Int × Int × Int × Int × Int)) × List (Int × Int × ByteArray × Int)) (fired19 : List Int) (b21 : List (Int × ByteArray × Int)) : Option Bool :=
  I30 books0 three22 k25 0 0 x6 fired19 b21
def laws_FnNight.l1000028 (n : Nat) (L26 : (List (Int × ByteArray × Int)) → Int → Int → ((List (Int × Int)) × (List (ByteArray × Int × Int × Int × Int × Int × Int × Int × Int)) × List (Int × Int × ByteArray × Int)) → List Int → (List (Int × ByteArray × Int)) → Option Bool) : Nat → (List (Int × ByteArray × Int)) → Int → Int → ((List (Int × Int)) × (List (ByteArray × Int × Int × Int × Int × Int × Int × Int × Int)) × List (Int × Int × ByteArray × Int)) → List Int → (List (Int × ByteArray × Int)) → Option Bool
  | 0 => fun _ _ _ _ _ _ => none
  | k + 1 => laws_FnNight.g1000028 (laws_FnNight.l30 n L26 n) L26 (laws_FnNight.l1000028 n L26 k)
theorem laws_FnNight.c1000028 {n : Nat} (h : 0 < n) (L26 : (List (Int × ByteArray × Int)) → Int → Int → ((List (Int × Int)) × (List (ByteArray × Int × Int × Int × Int × Int × Int × Int × Int)) × List (Int × Int × ByteArray × Int)) → List Int → (List (Int × ByteArray × Int)) → Option Bool) : laws_FnNight.l1000028 n L26 n = laws_FnNight.g1000028 (laws_FnNight.l30 n L26 n) L26 (laws_FnNight.l1000028 n L26 (n - 1)) := by
  cases n with
  | zero => exact absurd h (Nat.lt_irrefl 0)
  | succ n => rfl
def laws_FnNight.g26 (I1000028 : (List (Int × ByteArray × Int)) → Int → Int → ((List (Int × Int)) × (List (ByteArray × Int × Int × Int × Int × Int × Int × Int × Int)) × List (Int × Int × ByteArray × Int)) → List Int → (List (Int × ByteArray × Int)) → Option Bool) (L26 : (List (Int × ByteArray × Int)) → Int → Int → ((List (Int × Int)) × (List (ByteArray × Int × Int × Int × Int × Int × Int × Int × Int)) × List (Int × Int × ByteArray × Int)) → List Int → (List (Int × ByteArray × Int)) → Option Bool) (books0 : List (Int × ByteArray × Int)) (three22 : Int) (k25 : Int) (x6 : (List (Int × Int)) × (List (ByteArray × Int × Int × Int × Int × Int × Int × Int × Int)) × List (Int × Int × ByteArray × Int)) (fired19 : List Int) (b21 : List (Int × ByteArray × Int)) : Option Bool :=
  if ((three22 : Int) == 0) = true then
    if (decide ((k25 : Int) < (x6.2.1.length : Int))) = true then
      I1000028 books0 three22 k25 x6 fired19 b21
    else
      some true
  else
    some true
def laws_FnNight.l26 (n : Nat) : Nat → (List (Int × ByteArray × Int)) → Int → Int → ((List (Int × Int)) × (List (ByteArray × Int × Int × Int × Int × Int × Int × Int × Int)) × List (Int × Int × ByteArray × Int)) → List Int → (List (Int × ByteArray × Int)) → Option Bool
  | 0 => fun _ _ _ _ _ _ => none
  | k + 1 => laws_FnNight.g26 (laws_FnNight.l1000028 n (laws_FnNight.l26 n k) n) (laws_FnNight.l26 n k)
def laws_FnNight.g1000025 (I26 : (List (Int × ByteArray × Int)) → Int → Int → ((List (Int × Int)) × (List (ByteArray × Int × Int × Int × Int × Int × Int × Int × Int)) × List (Int × Int × ByteArray × Int)) → List Int → (List (Int × ByteArray × Int)) → Option Bool) (L1000025 : (List (Int × ByteArray × Int)) → Int → ((List (Int × Int)) × (List (ByteArray × Int × Int × Int × Int × Int × Int × Int × Int)) × List (Int × Int × ByteArray × Int)) → List Int → (List (Int × ByteArray × Int)) → Option Bool) (books0 : List (Int × ByteArray × Int)) (three22 : Int) (x6 : (List (Int × Int)) × (List (ByteArray × Int × Int × Int × Int × Int × Int × Int × Int)) × List (Int × Int × ByteArray × Int)) (fired19 : List Int) (b21 : List (Int × ByteArray × Int)) : Option Bool :=
  I26 books0 three22 0 x6 fired19 b21
def laws_FnNight.l1000025 (n : Nat) : Nat → (List (Int × ByteArray × Int)) → Int → ((List (Int × Int)) × (List (ByteArray × Int × Int × Int × Int × Int × Int × Int × Int)) × List (Int × Int × ByteArray × Int)) → List Int → (List (Int × ByteArray × Int)) → Option Bool
  | 0 => fun _ _ _ _ _ => none
  | k + 1 => laws_FnNight.g1000025 (laws_FnNight.l26 n n) (laws_FnNight.l1000025 n k)
theorem laws_FnNight.c1000025 {n : Nat} (h : 0 < n) : laws_FnNight.l1000025 n n = laws_FnNight.g1000025 (laws_FnNight.l26 n n) (laws_FnNight.l1000025 n (n - 1)) := by
  cases n with
  | zero => exact absurd h (Nat.lt_irrefl 0)
  | succ n => rfl
def laws_FnNight.g1000021 (I1000025 : (List (Int × ByteArray × Int)) → Int → ((List (Int × Int)) × (List (ByteArray × Int × Int × Int × Int × Int × Int × Int × Int)) × List (Int × Int × ByteArray × Int)) → List Int → (List (Int × ByteArray × Int)) → Option Bool) (L1000021 : (List (Int × ByteArray × Int)) → ((List (Int × Int)) × (List (ByteArray × Int × Int × Int × Int × Int × Int × Int × Int)) × List (Int × Int × ByteArray × Int)) → List Int → Option Bool) (books0 : List (Int × ByteArray × Int)) (x6 : (List (Int × Int)) × (List (ByteArray × Int × Int × Int × Int × Int × Int × Int × Int)) × List (Int × Int × ByteArray × Int)) (fired19 : List Int) : Option Bool :=
  (impl_BookShow.f books0 x6 fired19).bind fun r7 =>
  (spec_BookShow.f books0 x6 fired19).bind fun r8 =>
  if ((r7.2 : Int) != r8.2) = false then
    (laws_likeBookings.f r7.1 r8.1).bind fun r9 =>
    if (!r9) = true then
      some false
    else
      I1000025 books0 r7.2 x6 fired19 r7.1
  else
    some false
def laws_FnNight.l1000021 (n : Nat) : Nat → (List (Int × ByteArray × Int)) → ((List (Int × Int)) × (List (ByteArray × Int × Int × Int × Int × Int × Int × Int × Int)) × List (Int × Int × ByteArray × Int)) → List Int → Option Bool
  | 0 => fun _ _ _ => none
  | k + 1 => laws_FnNight.g1000021 (laws_FnNight.l1000025 n n) (laws_FnNight.l1000021 n k)
theorem laws_FnNight.c1000021 {n : Nat} (h : 0 < n) : laws_FnNight.l1000021 n n = laws_FnNight.g1000021 (laws_FnNight.l1000025 n n) (laws_FnNight.l1000021 n (n - 1)) := by
  cases n with
  | zero => exact absurd h (Nat.lt_irrefl 0)
  | succ n => rfl
def laws_FnNight.g17 (I1000019 : (List (Int × ByteArray × Int)) → Int → ((List (Int × Int)) × (List (ByteArray × Int × Int × Int × Int × Int × Int × Int × Int)) × List (Int × Int × ByteArray × Int)) → List Int → List Int → Option Bool) (I1000021 : (List (Int × ByteArray × Int)) → ((List (Int × Int)) × (List (ByteArray × Int × Int × Int × Int × Int × Int × Int × Int)) × List (Int × Int × ByteArray × Int)) → List Int → Option Bool) (L17 : (List (Int × ByteArray × Int)) → Int → ((List (Int × Int)) × (List (ByteArray × Int × Int × Int × Int × Int × Int × Int × Int)) × List (Int × Int × ByteArray × Int)) → List Int → List Int → Option Bool) (books0 : List (Int × ByteArray × Int)) (i20 : Int) (x6 : (List (Int × Int)) × (List (ByteArray × Int × Int × Int × Int × Int × Int × Int × Int)) × List (Int × Int × ByteArray × Int)) (f15 : List Int) (fired19 : List Int) : Option Bool :=
  if (decide ((i20 : Int) < (f15.length : Int))) = true then
    I1000019 books0 i20 x6 f15 fired19
  else
    I1000021 books0 x6 fired19
def laws_FnNight.l17 (n : Nat) : Nat → (List (Int × ByteArray × Int)) → Int → ((List (Int × Int)) × (List (ByteArray × Int × Int × Int × Int × Int × Int × Int × Int)) × List (Int × Int × ByteArray × Int)) → List Int → List Int → Option Bool
  | 0 => fun _ _ _ _ _ => none
  | k + 1 => laws_FnNight.g17 (laws_FnNight.l1000019 n (laws_FnNight.l17 n k) n) (laws_FnNight.l1000021 n n) (laws_FnNight.l17 n k)
def laws_FnNight.g1000016 (I17 : (List (Int × ByteArray × Int)) → Int → ((List (Int × Int)) × (List (ByteArray × Int × Int × Int × Int × Int × Int × Int × Int)) × List (Int × Int × ByteArray × Int)) → List Int → List Int → Option Bool) (L1000016 : (List (Int × ByteArray × Int)) → ((List (Int × Int)) × (List (ByteArray × Int × Int × Int × Int × Int × Int × Int × Int)) × List (Int × Int × ByteArray × Int)) → List Int → List Int → Option Bool) (books0 : List (Int × ByteArray × Int)) (x6 : (List (Int × Int)) × (List (ByteArray × Int × Int × Int × Int × Int × Int × Int × Int)) × List (Int × Int × ByteArray × Int)) (f15 : List Int) (fired19 : List Int) : Option Bool :=
  I17 books0 0 x6 f15 fired19
def laws_FnNight.l1000016 (n : Nat) : Nat → (List (Int × ByteArray × Int)) → ((List (Int × Int)) × (List (ByteArray × Int × Int × Int × Int × Int × Int × Int × Int)) × List (Int × Int × ByteArray × Int)) → List Int → List Int → Option Bool
  | 0 => fun _ _ _ _ => none
  | k + 1 => laws_FnNight.g1000016 (laws_FnNight.l17 n n) (laws_FnNight.l1000016 n k)
theorem laws_FnNight.c1000016 {n : Nat} (h : 0 < n) : laws_FnNight.l1000016 n n = laws_FnNight.g1000016 (laws_FnNight.l17 n n) (laws_FnNight.l1000016 n (n - 1)) := by
  cases n with
  | zero => exact absurd h (Nat.lt_irrefl 0)
  | succ n => rfl
def laws_FnNight.g1000013 (I1000016 : (List (Int × ByteArray × Int)) → ((List (Int × Int)) × (List (ByteArray × Int × Int × Int × Int × Int × Int × Int × Int)) × List (Int × Int × ByteArray × Int)) → List Int → List Int → Option Bool) (L1000013 : (List (Int × ByteArray × Int)) → Int → ((List (Int × Int)) × (List (ByteArray × Int × Int × Int × Int × Int × Int × Int × Int)) × List (Int × Int × ByteArray × Int)) → List Int → Option Bool) (books0 : List (Int × ByteArray × Int)) (one16 : Int) (x6 : (List (Int × Int)) × (List (ByteArray × Int × Int × Int × Int × Int × Int × Int × Int)) × List (Int × Int × ByteArray × Int)) (f15 : List Int) : Option Bool :=
  if ((one16 : Int) != 0) = true then
    some true
  else
    I1000016 books0 x6 f15 []
def laws_FnNight.l1000013 (n : Nat) : Nat → (List (Int × ByteArray × Int)) → Int → ((List (Int × Int)) × (List (ByteArray × Int × Int × Int × Int × Int × Int × Int × Int)) × List (Int × Int × ByteArray × Int)) → List Int → Option Bool
  | 0 => fun _ _ _ _ => none
  | k + 1 => laws_FnNight.g1000013 (laws_FnNight.l1000016 n n) (laws_FnNight.l1000013 n k)
theorem laws_FnNight.c1000013 {n : Nat} (h : 0 < n) : laws_FnNight.l1000013 n n = laws_FnNight.g1000013 (laws_FnNight.l1000016 n n) (laws_FnNight.l1000013 n (n - 1)) := by
  cases n with
  | zero => exact absurd h (Nat.lt_irrefl 0)
  | succ n => rfl
def laws_FnNight.g1000007 (I1000013 : (List (Int × ByteArray × Int)) → Int → ((List (Int × Int)) × (List (ByteArray × Int × Int × Int × Int × Int × Int × Int × Int)) × List (Int × Int × ByteArray × Int)) → List Int → Option Bool) (L1000007 : (List (Int × ByteArray × Int)) → (List (Int × Int)) → (List (Int × ByteArray × Int)) → List ByteArray → Int → ((List (Int × Int)) × (List (ByteArray × Int × Int × Int × Int × Int × Int × Int × Int)) × List (Int × Int × ByteArray × Int)) → List Int → List Int → Option Bool) (books0 : List (Int × ByteArray × Int)) (list2 : List (Int × Int)) (moves3 : List (Int × ByteArray × Int)) (zones4 : List ByteArray) (bad12 : Int) (x6 : (List (Int × Int)) × (List (ByteArray × Int × Int × Int × Int × Int × Int × Int × Int)) × List (Int × Int × ByteArray × Int)) (times11 : List Int) (due13 : List Int) : Option Bool :=
  if ((bad12 : Int) != 0) = true then
    some true
  else
    (impl_FiredSafely.f times11 list2 moves3 zones4).bind fun r4 =>
    (spec_FiredSafely.f due13 list2 moves3 zones4).bind fun r5 =>
    if ((r4.2 : Int) != r5.2) = false then
      (laws_likeInts.f r4.1 r5.1).bind fun r6 =>
      if (!r6) = true then
        some false
      else
        I1000013 books0 r4.2 x6 r4.1
    else
      some false
def laws_FnNight.l1000007 (n : Nat) : Nat → (List (Int × ByteArray × Int)) → (List (Int × Int)) → (List (Int × ByteArray × Int)) → List ByteArray → Int → ((List (Int × Int)) × (List (ByteArray × Int × Int × Int × Int × Int × Int × Int × Int)) × List (Int × Int × ByteArray × Int)) → List Int → List Int → Option Bool
  | 0 => fun _ _ _ _ _ _ _ _ => none
  | k + 1 => laws_FnNight.g1000007 (laws_FnNight.l1000013 n n) (laws_FnNight.l1000007 n k)
theorem laws_FnNight.c1000007 {n : Nat} (h : 0 < n) : laws_FnNight.l1000007 n n = laws_FnNight.g1000007 (laws_FnNight.l1000013 n n) (laws_FnNight.l1000007 n (n - 1)) := by
  cases n with
  | zero => exact absurd h (Nat.lt_irrefl 0)
  | succ n => rfl
def laws_FnNight.g1000005 (I1000007 : (List (Int × ByteArray × Int)) → (List (Int × Int)) → (List (Int × ByteArray × Int)) → List ByteArray → Int → ((List (Int × Int)) × (List (ByteArray × Int × Int × Int × Int × Int × Int × Int × Int)) × List (Int × Int × ByteArray × Int)) → List Int → List Int → Option Bool) (L1000005 : (List (Int × ByteArray × Int)) → (List (Int × Int)) → (List (Int × ByteArray × Int)) → List ByteArray → Int → Int → ((List (Int × Int)) × (List (ByteArray × Int × Int × Int × Int × Int × Int × Int × Int)) × List (Int × Int × ByteArray × Int)) → List Int → List Int → Option Bool) (books0 : List (Int × ByteArray × Int)) (list2 : List (Int × Int)) (moves3 : List (Int × ByteArray × Int)) (zones4 : List ByteArray) (bad12 : Int) (want14 : Int) (x6 : (List (Int × Int)) × (List (ByteArray × Int × Int × Int × Int × Int × Int × Int × Int)) × List (Int × Int × ByteArray × Int)) (times11 : List Int) (due13 : List Int) : Option Bool :=
  if ((bad12 : Int) != want14) = false then
    (laws_likeInts.f times11 due13).bind fun r3 =>
    if (!r3) = true then
      some false
    else
      I1000007 books0 list2 moves3 zones4 bad12 x6 times11 due13
  else
    some false
def laws_FnNight.l1000005 (n : Nat) : Nat → (List (Int × ByteArray × Int)) → (List (Int × Int)) → (List (Int × ByteArray × Int)) → List ByteArray → Int → Int → ((List (Int × Int)) × (List (ByteArray × Int × Int × Int × Int × Int × Int × Int × Int)) × List (Int × Int × ByteArray × Int)) → List Int → List Int → Option Bool
  | 0 => fun _ _ _ _ _ _ _ _ _ => none
  | k + 1 => laws_FnNight.g1000005 (laws_FnNight.l1000007 n n) (laws_FnNight.l1000005 n k)
theorem laws_FnNight.c1000005 {n : Nat} (h : 0 < n) : laws_FnNight.l1000005 n n = laws_FnNight.g1000005 (laws_FnNight.l1000007 n n) (laws_FnNight.l1000005 n (n - 1)) := by
  cases n with
  | zero => exact absurd h (Nat.lt_irrefl 0)
  | succ n => rfl
def laws_FnNight.g1000004 (I1000005 : (List (Int × ByteArray × Int)) → (List (Int × Int)) → (List (Int × ByteArray × Int)) → List ByteArray → Int → Int → ((List (Int × Int)) × (List (ByteArray × Int × Int × Int × Int × Int × Int × Int × Int)) × List (Int × Int × ByteArray × Int)) → List Int → List Int → Option Bool) (L1000004 : (List (Int × ByteArray × Int)) → (List (Int × Int)) → (List (Int × ByteArray × Int)) → List ByteArray → Int → ((List (Int × Int)) × (List (ByteArray × Int × Int × Int × Int × Int × Int × Int × Int)) × List (Int × Int × ByteArray × Int)) → List Int → Option Bool) (books0 : List (Int × ByteArray × Int)) (list2 : List (Int × Int)) (moves3 : List (Int × ByteArray × Int)) (zones4 : List ByteArray) (bad12 : Int) (x6 : (List (Int × Int)) × (List (ByteArray × Int × Int × Int × Int × Int × Int × Int × Int)) × List (Int × Int × ByteArray × Int)) (times11 : List Int) : Option Bool :=
  (spec_FireTimes.f x6).bind fun r2 =>
  I1000005 books0 list2 moves3 zones4 bad12 r2.2 x6 times11 r2.1
def laws_FnNight.l1000004 (n : Nat) : Nat → (List (Int × ByteArray × Int)) → (List (Int × Int)) → (List (Int × ByteArray × Int)) → List ByteArray → Int → ((List (Int × Int)) × (List (ByteArray × Int × Int × Int × Int × Int × Int × Int × Int)) × List (Int × Int × ByteArray × Int)) → List Int → Option Bool
  | 0 => fun _ _ _ _ _ _ _ => none
  | k + 1 => laws_FnNight.g1000004 (laws_FnNight.l1000005 n n) (laws_FnNight.l1000004 n k)
theorem laws_FnNight.c1000004 {n : Nat} (h : 0 < n) : laws_FnNight.l1000004 n n = laws_FnNight.g1000004 (laws_FnNight.l1000005 n n) (laws_FnNight.l1000004 n (n - 1)) := by
  cases n with
  | zero => exact absurd h (Nat.lt_irrefl 0)
  | succ n => rfl
def laws_FnNight.g1000003 (I1000004 : (List (Int × ByteArray × Int)) → (List (Int × Int)) → (List (Int × ByteArray × Int)) → List ByteArray → Int → ((List (Int × Int)) × (List (ByteArray × Int × Int × Int × Int × Int × Int × Int × Int)) × List (Int × Int × ByteArray × Int)) → List Int → Option Bool) (L1000003 : (List (Int × ByteArray × Int)) → (List (Int × Int)) → (List (Int × ByteArray × Int)) → List ByteArray → ((List (Int × Int)) × (List (ByteArray × Int × Int × Int × Int × Int × Int × Int × Int)) × List (Int × Int × ByteArray × Int)) → Option Bool) (books0 : List (Int × ByteArray × Int)) (list2 : List (Int × Int)) (moves3 : List (Int × ByteArray × Int)) (zones4 : List ByteArray) (x6 : (List (Int × Int)) × (List (ByteArray × Int × Int × Int × Int × Int × Int × Int × Int)) × List (Int × Int × ByteArray × Int)) : Option Bool :=
  (impl_FireTimes.f x6).bind fun r1 =>
  I1000004 books0 list2 moves3 zones4 r1.2 x6 r1.1
def laws_FnNight.l1000003 (n : Nat) : Nat → (List (Int × ByteArray × Int)) → (List (Int × Int)) → (List (Int × ByteArray × Int)) → List ByteArray → ((List (Int × Int)) × (List (ByteArray × Int × Int × Int × Int × Int × Int × Int × Int)) × List (Int × Int × ByteArray × Int)) → Option Bool
  | 0 => fun _ _ _ _ _ => none
  | k + 1 => laws_FnNight.g1000003 (laws_FnNight.l1000004 n n) (laws_FnNight.l1000003 n k)
theorem laws_FnNight.c1000003 {n : Nat} (h : 0 < n) : laws_FnNight.l1000003 n n = laws_FnNight.g1000003 (laws_FnNight.l1000004 n n) (laws_FnNight.l1000003 n (n - 1)) := by
  cases n with
  | zero => exact absurd h (Nat.lt_irrefl 0)
  | succ n => rfl
def laws_FnNight.g1000001 (I1000003 : (List (Int × ByteArray × Int)) → (List (Int × Int)) → (List (Int × ByteArray × Int)) → List ByteArray → ((List (Int × Int)) × (List (ByteArray × Int × Int × Int × Int × Int × Int × Int × Int)) × List (Int × Int × ByteArray × Int)) → Option Bool) (L1000001 : (List (Int × ByteArray × Int)) → (List (Int × Int)) → (List (Int × ByteArray × Int)) → List ByteArray → ((List (Int × Int)) × (List (ByteArray × Int × Int × Int × Int × Int × Int × Int × Int)) × List (Int × Int × ByteArray × Int)) → Option Bool) (books0 : List (Int × ByteArray × Int)) (list2 : List (Int × Int)) (moves3 : List (Int × ByteArray × Int)) (zones4 : List ByteArray) (x6 : (List (Int × Int)) × (List (ByteArray × Int × Int × Int × Int × Int × Int × Int × Int)) × List (Int × Int × ByteArray × Int)) : Option Bool :=
  if (decide ((65536 : Int) < (books0.length : Int))) = false then
    if (decide ((65536 : Int) < (x6.2.2.length : Int))) = false then
      if (decide ((65536 : Int) < (list2.length : Int))) = false then
        if (decide ((65536 : Int) < (moves3.length : Int))) = false then
          if (decide ((65536 : Int) < (zones4.length : Int))) = true then
            some true
          else
            I1000003 books0 list2 moves3 zones4 x6
        else
          some true
      else
        some true
    else
      some true
  else
    some true
def laws_FnNight.l1000001 (n : Nat) : Nat → (List (Int × ByteArray × Int)) → (List (Int × Int)) → (List (Int × ByteArray × Int)) → List ByteArray → ((List (Int × Int)) × (List (ByteArray × Int × Int × Int × Int × Int × Int × Int × Int)) × List (Int × Int × ByteArray × Int)) → Option Bool
  | 0 => fun _ _ _ _ _ => none
  | k + 1 => laws_FnNight.g1000001 (laws_FnNight.l1000003 n n) (laws_FnNight.l1000001 n k)
theorem laws_FnNight.c1000001 {n : Nat} (h : 0 < n) : laws_FnNight.l1000001 n n = laws_FnNight.g1000001 (laws_FnNight.l1000003 n n) (laws_FnNight.l1000001 n (n - 1)) := by
  cases n with
  | zero => exact absurd h (Nat.lt_irrefl 0)
  | succ n => rfl
def laws_FnNight.top (I1000001 : (List (Int × ByteArray × Int)) → (List (Int × Int)) → (List (Int × ByteArray × Int)) → List ByteArray → ((List (Int × Int)) × (List (ByteArray × Int × Int × Int × Int × Int × Int × Int × Int)) × List (Int × Int × ByteArray × Int)) → Option Bool) (books0 : List (Int × ByteArray × Int)) (x1 : (List (Int × Int)) × (List (ByteArray × Int × Int × Int × Int × Int × Int × Int × Int)) × List (Int × Int × ByteArray × Int)) (list2 : List (Int × Int)) (moves3 : List (Int × ByteArray × Int)) (zones4 : List ByteArray) : Option Bool :=
  I1000001 books0 list2 moves3 zones4 x1
def laws_FnNight.fn (n : Nat) (books0 : List (Int × ByteArray × Int)) (x1 : (List (Int × Int)) × (List (ByteArray × Int × Int × Int × Int × Int × Int × Int × Int)) × List (Int × Int × ByteArray × Int)) (list2 : List (Int × Int)) (moves3 : List (Int × ByteArray × Int)) (zones4 : List ByteArray) : Option Bool := laws_FnNight.top (laws_FnNight.l1000001 n n) books0 x1 list2 moves3 zones4
def laws_FnNight.f (books0 : List (Int × ByteArray × Int)) (x1 : (List (Int × Int)) × (List (ByteArray × Int × Int × Int × Int × Int × Int × Int × Int)) × List (Int × Int × ByteArray × Int)) (list2 : List (Int × Int)) (moves3 : List (Int × ByteArray × Int)) (zones4 : List ByteArray) : Option Bool := laws_FnNight.fn NN books0 x1 list2 moves3 zones4
end
end Go.Pl

namespace Go.Ev.Try
open Go.Proofs Go.Pl
set_option linter.unusedVariables false
noncomputable section
def impl_within.con : Con := { ps := [(.val, (.int .i64)), (.val, (.int .i64)), (.val, (.int .i64))], rs := [(.val, .bool)], F := fun x => impl_within.f x.1 x.2.1 x.2.2 }
def impl_within.cs : List (FuncId × Con) := []
def impl_within.E : Env := envOf tab impl_within.cs 0 false
def impl_within.keep (i : Nat) : List Nat := []
set_option maxRecDepth 100000 in
theorem impl_within.body (n : Nat) (x : Int × Int × Int) : bodyF impl_within.E impl_within.keep n Try.f113 impl_within.con x = impl_within.fn n x.1 x.2.1 x.2.2 := by
  have h : bodyF impl_within.E impl_within.keep n Try.f113 impl_within.con x = impl_within.top x.1 x.2.1 x.2.2 := by kernel_rfl
  exact h
set_option maxRecDepth 100000 in
theorem impl_within.good : Good Try.prog 113 impl_within.con :=
  good_of tabok (cs := impl_within.cs) trivial 0 false (fn := Try.f113) Try.func113 rfl (by decide) (by simp [impl_within.con]) impl_within.keep NN (fun _ => rfl) (fun x => impl_within.body NN x)
end
end Go.Ev.Try

namespace Go.Ev.Try
open Go.Proofs Go.Pl
set_option linter.unusedVariables false
noncomputable section
def impl_IsWord.st4 (s0 : ByteArray) (i3 : Int) : St := ⟨[.dat .str s0, .gone, .gone, .dat (.int .i64) i3, .gone, .gone, .gone, .gone, .gone, .gone, .gone, .gone, .gone, .gone, .gone, .gone, .gone, .gone, .gone, .gone, .gone, .gone, .gone, .gone, .gone, .gone, .gone, .gone], []⟩
def impl_IsWord.con : Con := { ps := [(.val, .str)], rs := [(.val, .bool)], F := fun x => impl_IsWord.f x }
def impl_IsWord.cs : List (FuncId × Con) := []
def impl_IsWord.E : Env := envOf tab impl_IsWord.cs 0 false
def impl_IsWord.keep (i : Nat) : List Nat := if i = 4 then [0, 3] else []
def impl_IsWord.at4 (n : Nat) (x : ByteArray) : Code × (Ex → St → Option (Bool)) := ctx impl_IsWord.E impl_IsWord.keep n [.snd, .snd, .fst, .snd, .blk] (codeOf Try.f87) (kEnd impl_IsWord.E Try.f87 impl_IsWord.con x)
def impl_IsWord.LN4 (n : Nat) (x : ByteArray) : Nat → St → Option (Bool) := loopN (exec impl_IsWord.E impl_IsWord.keep n (bodyOf (impl_IsWord.at4 n x).1)) (St.norm 0 (impl_IsWord.keep 4)) (impl_IsWord.at4 n x).2
set_option maxRecDepth 100000 in
theorem impl_IsWord.lem4 (n : Nat) (x : ByteArray) : ∀ (k : Nat) (s0 : ByteArray) (i3 : Int), impl_IsWord.LN4 n x k (impl_IsWord.st4 s0 i3) = impl_IsWord.l4 n k s0 i3 := by
  intro k
  induction k with
  | zero => intro s0 i3; rfl
  | succ k ih =>
    intro s0 i3
    have h : impl_IsWord.LN4 n x (k + 1) (impl_IsWord.st4 s0 i3) = impl_IsWord.g4 (fun s0 i3 => impl_IsWord.LN4 n x k (impl_IsWord.st4 s0 i3)) s0 i3 := by kernel_rfl
    rw [h]
    simp only [ih]
    rfl
set_option maxRecDepth 100000 in
theorem impl_IsWord.body (n : Nat) (x : ByteArray) : bodyF impl_IsWord.E impl_IsWord.keep n Try.f87 impl_IsWord.con x = impl_IsWord.fn n x := by
  have h : bodyF impl_IsWord.E impl_IsWord.keep n Try.f87 impl_IsWord.con x = impl_IsWord.top (fun s0 i3 => impl_IsWord.LN4 n x n (impl_IsWord.st4 s0 i3)) x := by kernel_rfl
  rw [h]
  simp only [impl_IsWord.lem4]
  rfl
set_option maxRecDepth 100000 in
theorem impl_IsWord.good : Good Try.prog 87 impl_IsWord.con :=
  good_of tabok (cs := impl_IsWord.cs) trivial 0 false (fn := Try.f87) Try.func87 rfl (by decide) (by simp [impl_IsWord.con]) impl_IsWord.keep NN (fun _ => rfl) (fun x => impl_IsWord.body NN x)
end
end Go.Ev.Try

namespace Go.Ev.Try
open Go.Proofs Go.Pl
set_option linter.unusedVariables false
noncomputable section
def impl_IsArticle.con : Con := { ps := [(.val, (.pair .str (.pair (.int .i64) (.pair (.int .i64) (.pair (.int .i64) (.pair (.int .i64) (.pair (.int .i64) (.pair (.int .i64) (.pair (.int .i64) (.int .i64))))))))))], rs := [(.val, .bool)], F := fun x => impl_IsArticle.f x }
def impl_IsArticle.cs : List (FuncId × Con) := [(87, impl_IsWord.con), (113, impl_within.con)]
def impl_IsArticle.E : Env := envOf tab impl_IsArticle.cs 0 false
def impl_IsArticle.keep (i : Nat) : List Nat := []
set_option maxRecDepth 100000 in
theorem impl_IsArticle.body (n : Nat) (x : ByteArray × Int × Int × Int × Int × Int × Int × Int × Int) : bodyF impl_IsArticle.E impl_IsArticle.keep n Try.f152 impl_IsArticle.con x = impl_IsArticle.fn n x := by
  have h : bodyF impl_IsArticle.E impl_IsArticle.keep n Try.f152 impl_IsArticle.con x = impl_IsArticle.top x := by kernel_rfl
  exact h
set_option maxRecDepth 100000 in
theorem impl_IsArticle.good : Good Try.prog 152 impl_IsArticle.con :=
  good_of tabok (cs := impl_IsArticle.cs) ⟨impl_IsWord.good, impl_within.good, trivial⟩ 0 false (fn := Try.f152) Try.func152 rfl (by decide) (by simp [impl_IsArticle.con]) impl_IsArticle.keep NN (fun _ => rfl) (fun x => impl_IsArticle.body NN x)
end
end Go.Ev.Try

namespace Go.Ev.Try
open Go.Proofs Go.Pl
set_option linter.unusedVariables false
noncomputable section
def impl_AreArticles.st4 (list0 : List (ByteArray × Int × Int × Int × Int × Int × Int × Int × Int)) (v8 : List (ByteArray × Int × Int × Int × Int × Int × Int × Int × Int)) (v9 : Int) (v10 : Int) : St := ⟨[.dat (.sl 75 (.pair .str (.pair (.int .i64) (.pair (.int .i64) (.pair (.int .i64) (.pair (.int .i64) (.pair (.int .i64) (.pair (.int .i64) (.pair (.int .i64) (.int .i64)))))))))) list0, .gone, .gone, .gone, .gone, .gone, .gone, .gone, .dat (.sl 75 (.pair .str (.pair (.int .i64) (.pair (.int .i64) (.pair (.int .i64) (.pair (.int .i64) (.pair (.int .i64) (.pair (.int .i64) (.pair (.int .i64) (.int .i64)))))))))) v8, .dat (.int .i64) v9, .dat (.int .i64) v10, .gone, .gone, .gone, .gone, .gone, .gone, .gone, .gone, .gone, .gone, .gone, .gone, .gone, .gone, .gone, .gone, .gone, .gone, .gone, .gone, .gone, .gone, .gone], []⟩
def impl_AreArticles.con : Con := { ps := [(.val, (.sl 75 (.pair .str (.pair (.int .i64) (.pair (.int .i64) (.pair (.int .i64) (.pair (.int .i64) (.pair (.int .i64) (.pair (.int .i64) (.pair (.int .i64) (.int .i64)))))))))))], rs := [(.val, .bool)], F := fun x => impl_AreArticles.f x }
def impl_AreArticles.cs : List (FuncId × Con) := [(152, impl_IsArticle.con)]
def impl_AreArticles.E : Env := envOf tab impl_AreArticles.cs 0 false
def impl_AreArticles.keep (i : Nat) : List Nat := if i = 4 then [0, 8, 9, 10] else []
def impl_AreArticles.at4 (n : Nat) (x : List (ByteArray × Int × Int × Int × Int × Int × Int × Int × Int)) : Code × (Ex → St → Option (Bool)) := ctx impl_AreArticles.E impl_AreArticles.keep n [.snd, .snd, .fst, .snd, .blk] (codeOf Try.f123) (kEnd impl_AreArticles.E Try.f123 impl_AreArticles.con x)
def impl_AreArticles.LN4 (n : Nat) (x : List (ByteArray × Int × Int × Int × Int × Int × Int × Int × Int)) : Nat → St → Option (Bool) := loopN (exec impl_AreArticles.E impl_AreArticles.keep n (bodyOf (impl_AreArticles.at4 n x).1)) (St.norm 0 (impl_AreArticles.keep 4)) (impl_AreArticles.at4 n x).2
set_option maxRecDepth 100000 in
theorem impl_AreArticles.lem4 (n : Nat) (x : List (ByteArray × Int × Int × Int × Int × Int × Int × Int × Int)) : ∀ (k : Nat) (list0 : List (ByteArray × Int × Int × Int × Int × Int × Int × Int × Int)) (v8 : List (ByteArray × Int × Int × Int × Int × Int × Int × Int × Int)) (v9 : Int) (v10 : Int), impl_AreArticles.LN4 n x k (impl_AreArticles.st4 list0 v8 v9 v10) = impl_AreArticles.l4 n k list0 v8 v9 v10 := by
  intro k
  induction k with
  | zero => intro list0 v8 v9 v10; rfl
  | succ k ih =>
    intro list0 v8 v9 v10
    have h : impl_AreArticles.LN4 n x (k + 1) (impl_AreArticles.st4 list0 v8 v9 v10) = impl_AreArticles.g4 (fun list0 v8 v9 v10 => impl_AreArticles.LN4 n x k (impl_AreArticles.st4 list0 v8 v9 v10)) list0 v8 v9 v10 := by kernel_rfl
    rw [h]
    simp only [ih]
    rfl
set_option maxRecDepth 100000 in
theorem impl_AreArticles.body (n : Nat) (x : List (ByteArray × Int × Int × Int × Int × Int × Int × Int × Int)) : bodyF impl_AreArticles.E impl_AreArticles.keep n Try.f123 impl_AreArticles.con x = impl_AreArticles.fn n x := by
  have h : bodyF impl_AreArticles.E impl_AreArticles.keep n Try.f123 impl_AreArticles.con x = impl_AreArticles.top (fun list0 v8 v9 v10 => impl_AreArticles.LN4 n x n (impl_AreArticles.st4 list0 v8 v9 v10)) x := by kernel_rfl
  rw [h]
  simp only [impl_AreArticles.lem4]
  rfl
set_option maxRecDepth 100000 in
theorem impl_AreArticles.good : Good Try.prog 123 impl_AreArticles.con :=
  good_of tabok (cs := impl_AreArticles.cs) ⟨impl_IsArticle.good, trivial⟩ 0 false (fn := Try.f123) Try.func123 rfl (by decide) (by simp [impl_AreArticles.con]) impl_AreArticles.keep NN (fun _ => rfl) (fun x => impl_AreArticles.body NN x)
end
end Go.Ev.Try

namespace Go.Ev.Try
open Go.Proofs Go.Pl
set_option linter.unusedVariables false
noncomputable section
def impl_IsScore.st4 (v13 : List (Int × Int)) (v14 : Int) (v15 : Int) : St := ⟨[.gone, .gone, .gone, .gone, .gone, .gone, .gone, .gone, .gone, .gone, .gone, .gone, .gone, .dat (.sl 188 (.pair (.int .i64) (.int .i64))) v13, .dat (.int .i64) v14, .dat (.int .i64) v15, .gone, .gone, .gone, .gone, .gone, .gone, .gone, .gone, .gone, .gone, .gone, .gone, .gone, .gone], []⟩
def impl_IsScore.con : Con := { ps := [(.val, (.sl 188 (.pair (.int .i64) (.int .i64))))], rs := [(.val, .bool)], F := fun x => impl_IsScore.f x }
def impl_IsScore.cs : List (FuncId × Con) := [(113, impl_within.con)]
def impl_IsScore.E : Env := envOf tab impl_IsScore.cs 0 false
def impl_IsScore.keep (i : Nat) : List Nat := if i = 4 then [13, 14, 15] else []
def impl_IsScore.at4 (n : Nat) (x : List (Int × Int)) : Code × (Ex → St → Option (Bool)) := ctx impl_IsScore.E impl_IsScore.keep n [.snd, .snd, .fst, .snd, .blk] (codeOf Try.f127) (kEnd impl_IsScore.E Try.f127 impl_IsScore.con x)
def impl_IsScore.LN4 (n : Nat) (x : List (Int × Int)) : Nat → St → Option (Bool) := loopN (exec impl_IsScore.E impl_IsScore.keep n (bodyOf (impl_IsScore.at4 n x).1)) (St.norm 0 (impl_IsScore.keep 4)) (impl_IsScore.at4 n x).2
set_option maxRecDepth 100000 in
theorem impl_IsScore.lem4 (n : Nat) (x : List (Int × Int)) : ∀ (k : Nat) (v13 : List (Int × Int)) (v14 : Int) (v15 : Int), impl_IsScore.LN4 n x k (impl_IsScore.st4 v13 v14 v15) = impl_IsScore.l4 n k v13 v14 v15 := by
  intro k
  induction k with
  | zero => intro v13 v14 v15; rfl
  | succ k ih =>
    intro v13 v14 v15
    have h : impl_IsScore.LN4 n x (k + 1) (impl_IsScore.st4 v13 v14 v15) = impl_IsScore.g4 (fun v13 v14 v15 => impl_IsScore.LN4 n x k (impl_IsScore.st4 v13 v14 v15)) v13 v14 v15 := by kernel_rfl
    rw [h]
    simp only [ih]
    rfl
set_option maxRecDepth 100000 in
theorem impl_IsScore.body (n : Nat) (x : List (Int × Int)) : bodyF impl_IsScore.E impl_IsScore.keep n Try.f127 impl_IsScore.con x = impl_IsScore.fn n x := by
  have h : bodyF impl_IsScore.E impl_IsScore.keep n Try.f127 impl_IsScore.con x = impl_IsScore.top (fun v13 v14 v15 => impl_IsScore.LN4 n x n (impl_IsScore.st4 v13 v14 v15)) x := by kernel_rfl
  rw [h]
  simp only [impl_IsScore.lem4]
  rfl
set_option maxRecDepth 100000 in
theorem impl_IsScore.good : Good Try.prog 127 impl_IsScore.con :=
  good_of tabok (cs := impl_IsScore.cs) ⟨impl_within.good, trivial⟩ 0 false (fn := Try.f127) Try.func127 rfl (by decide) (by simp [impl_IsScore.con]) impl_IsScore.keep NN (fun _ => rfl) (fun x => impl_IsScore.body NN x)
end
end Go.Ev.Try

namespace Go.Ev.Try
open Go.Proofs Go.Pl
set_option linter.unusedVariables false
noncomputable section
def impl_articleOf.st2 (code1 : ByteArray) (v7 : List (ByteArray × Int × Int × Int × Int × Int × Int × Int × Int)) (v8 : Int) (v9 : Int) : St := ⟨[.gone, .dat .str code1, .gone, .gone, .gone, .gone, .gone, .dat (.sl 75 (.pair .str (.pair (.int .i64) (.pair (.int .i64) (.pair (.int .i64) (.pair (.int .i64) (.pair (.int .i64) (.pair (.int .i64) (.pair (.int .i64) (.int .i64)))))))))) v7, .dat (.int .i64) v8, .dat (.int .i64) v9, .gone, .gone, .gone, .gone, .gone, .gone, .gone, .gone, .gone, .gone], []⟩
def impl_articleOf.con : Con := { ps := [(.val, (.sl 75 (.pair .str (.pair (.int .i64) (.pair (.int .i64) (.pair (.int .i64) (.pair (.int .i64) (.pair (.int .i64) (.pair (.int .i64) (.pair (.int .i64) (.int .i64))))))))))), (.val, .str)], rs := [(.val, (.int .i64))], F := fun x => impl_articleOf.f x.1 x.2 }
def impl_articleOf.cs : List (FuncId × Con) := []
def impl_articleOf.E : Env := envOf tab impl_articleOf.cs 0 false
def impl_articleOf.keep (i : Nat) : List Nat := if i = 2 then [1, 7, 8, 9] else []
def impl_articleOf.at2 (n : Nat) (x : (List (ByteArray × Int × Int × Int × Int × Int × Int × Int × Int)) × ByteArray) : Code × (Ex → St → Option (Int)) := ctx impl_articleOf.E impl_articleOf.keep n [.snd, .fst, .snd, .blk] (codeOf Try.f69) (kEnd impl_articleOf.E Try.f69 impl_articleOf.con x)
def impl_articleOf.LN2 (n : Nat) (x : (List (ByteArray × Int × Int × Int × Int × Int × Int × Int × Int)) × ByteArray) : Nat → St → Option (Int) := loopN (exec impl_articleOf.E impl_articleOf.keep n (bodyOf (impl_articleOf.at2 n x).1)) (St.norm 0 (impl_articleOf.keep 2)) (impl_articleOf.at2 n x).2
set_option maxRecDepth 100000 in
theorem impl_articleOf.lem2 (n : Nat) (x : (List (ByteArray × Int × Int × Int × Int × Int × Int × Int × Int)) × ByteArray) : ∀ (k : Nat) (code1 : ByteArray) (v7 : List (ByteArray × Int × Int × Int × Int × Int × Int × Int × Int)) (v8 : Int) (v9 : Int), impl_articleOf.LN2 n x k (impl_articleOf.st2 code1 v7 v8 v9) = impl_articleOf.l2 n k code1 v7 v8 v9 := by
  intro k
  induction k with
  | zero => intro code1 v7 v8 v9; rfl
  | succ k ih =>
    intro code1 v7 v8 v9
    have h : impl_articleOf.LN2 n x (k + 1) (impl_articleOf.st2 code1 v7 v8 v9) = impl_articleOf.g2 (fun code1 v7 v8 v9 => impl_articleOf.LN2 n x k (impl_articleOf.st2 code1 v7 v8 v9)) code1 v7 v8 v9 := by kernel_rfl
    rw [h]
    simp only [ih]
    rfl
set_option maxRecDepth 100000 in
theorem impl_articleOf.body (n : Nat) (x : (List (ByteArray × Int × Int × Int × Int × Int × Int × Int × Int)) × ByteArray) : bodyF impl_articleOf.E impl_articleOf.keep n Try.f69 impl_articleOf.con x = impl_articleOf.fn n x.1 x.2 := by
  have h : bodyF impl_articleOf.E impl_articleOf.keep n Try.f69 impl_articleOf.con x = impl_articleOf.top (fun code1 v7 v8 v9 => impl_articleOf.LN2 n x n (impl_articleOf.st2 code1 v7 v8 v9)) x.1 x.2 := by kernel_rfl
  rw [h]
  simp only [impl_articleOf.lem2]
  rfl
set_option maxRecDepth 100000 in
theorem impl_articleOf.good : Good Try.prog 69 impl_articleOf.con :=
  good_of tabok (cs := impl_articleOf.cs) trivial 0 false (fn := Try.f69) Try.func69 rfl (by decide) (by simp [impl_articleOf.con]) impl_articleOf.keep NN (fun _ => rfl) (fun x => impl_articleOf.body NN x)
end
end Go.Ev.Try

namespace Go.Ev.Try
open Go.Proofs Go.Pl
set_option linter.unusedVariables false
noncomputable section
def impl_isIndex.con : Con := { ps := [(.val, (.int .i64)), (.val, (.int .i64))], rs := [(.val, .bool)], F := fun x => impl_isIndex.f x.1 x.2 }
def impl_isIndex.cs : List (FuncId × Con) := [(113, impl_within.con)]
def impl_isIndex.E : Env := envOf tab impl_isIndex.cs 0 false
def impl_isIndex.keep (i : Nat) : List Nat := []
set_option maxRecDepth 100000 in
theorem impl_isIndex.body (n : Nat) (x : Int × Int) : bodyF impl_isIndex.E impl_isIndex.keep n Try.f84 impl_isIndex.con x = impl_isIndex.fn n x.1 x.2 := by
  have h : bodyF impl_isIndex.E impl_isIndex.keep n Try.f84 impl_isIndex.con x = impl_isIndex.top x.1 x.2 := by kernel_rfl
  exact h
set_option maxRecDepth 100000 in
theorem impl_isIndex.good : Good Try.prog 84 impl_isIndex.con :=
  good_of tabok (cs := impl_isIndex.cs) ⟨impl_within.good, trivial⟩ 0 false (fn := Try.f84) Try.func84 rfl (by decide) (by simp [impl_isIndex.con]) impl_isIndex.keep NN (fun _ => rfl) (fun x => impl_isIndex.body NN x)
end
end Go.Ev.Try

namespace Go.Ev.Try
open Go.Proofs Go.Pl
set_option linter.unusedVariables false
noncomputable section
def impl_isBeat.con : Con := { ps := [(.val, (.sl 188 (.pair (.int .i64) (.int .i64)))), (.val, (.int .i64)), (.val, (.int .i64))], rs := [(.val, .bool)], F := fun x => impl_isBeat.f x.1 x.2.1 x.2.2 }
def impl_isBeat.cs : List (FuncId × Con) := [(84, impl_isIndex.con), (113, impl_within.con)]
def impl_isBeat.E : Env := envOf tab impl_isBeat.cs 0 false
def impl_isBeat.keep (i : Nat) : List Nat := []
set_option maxRecDepth 100000 in
theorem impl_isBeat.body (n : Nat) (x : (List (Int × Int)) × Int × Int) : bodyF impl_isBeat.E impl_isBeat.keep n Try.f156 impl_isBeat.con x = impl_isBeat.fn n x.1 x.2.1 x.2.2 := by
  have h : bodyF impl_isBeat.E impl_isBeat.keep n Try.f156 impl_isBeat.con x = impl_isBeat.top x.1 x.2.1 x.2.2 := by kernel_rfl
  exact h
set_option maxRecDepth 100000 in
theorem impl_isBeat.good : Good Try.prog 156 impl_isBeat.con :=
  good_of tabok (cs := impl_isBeat.cs) ⟨impl_isIndex.good, impl_within.good, trivial⟩ 0 false (fn := Try.f156) Try.func156 rfl (by decide) (by simp [impl_isBeat.con]) impl_isBeat.keep NN (fun _ => rfl) (fun x => impl_isBeat.body NN x)
end
end Go.Ev.Try

namespace Go.Ev.Try
open Go.Proofs Go.Pl
set_option linter.unusedVariables false
noncomputable section
def impl_beatTime.st3 (list0 : List (Int × Int)) (bar1 : Int) (beat2 : Int) (t7 : Int) (v12 : List (Int × Int)) (v13 : Int) (v14 : Int) : St := ⟨[.dat (.sl 188 (.pair (.int .i64) (.int .i64))) list0, .dat (.int .i64) bar1, .dat (.int .i64) beat2, .gone, .gone, .gone, .gone, .dat (.int .i64) t7, .gone, .gone, .gone, .gone, .dat (.sl 188 (.pair (.int .i64) (.int .i64))) v12, .dat (.int .i64) v13, .dat (.int .i64) v14, .gone, .gone, .gone, .gone, .gone, .gone, .gone, .gone, .gone, .gone, .gone, .gone, .gone, .gone, .gone, .gone, .gone, .gone, .gone, .gone, .gone, .gone, .gone], []⟩
def impl_beatTime.con : Con := { ps := [(.val, (.sl 188 (.pair (.int .i64) (.int .i64)))), (.val, (.int .i64)), (.val, (.int .i64))], rs := [(.val, (.int .i64))], F := fun x => impl_beatTime.f x.1 x.2.1 x.2.2 }
def impl_beatTime.cs : List (FuncId × Con) := []
def impl_beatTime.E : Env := envOf tab impl_beatTime.cs 0 false
def impl_beatTime.keep (i : Nat) : List Nat := if i = 3 then [0, 1, 2, 7, 12, 13, 14] else []
def impl_beatTime.at3 (n : Nat) (x : (List (Int × Int)) × Int × Int) : Code × (Ex → St → Option (Int)) := ctx impl_beatTime.E impl_beatTime.keep n [.snd, .snd, .fst, .snd, .blk] (codeOf Try.f157) (kEnd impl_beatTime.E Try.f157 impl_beatTime.con x)
def impl_beatTime.LN3 (n : Nat) (x : (List (Int × Int)) × Int × Int) : Nat → St → Option (Int) := loopN (exec impl_beatTime.E impl_beatTime.keep n (bodyOf (impl_beatTime.at3 n x).1)) (St.norm 0 (impl_beatTime.keep 3)) (impl_beatTime.at3 n x).2
set_option maxRecDepth 100000 in
theorem impl_beatTime.lem3 (n : Nat) (x : (List (Int × Int)) × Int × Int) : ∀ (k : Nat) (list0 : List (Int × Int)) (bar1 : Int) (beat2 : Int) (t7 : Int) (v12 : List (Int × Int)) (v13 : Int) (v14 : Int), impl_beatTime.LN3 n x k (impl_beatTime.st3 list0 bar1 beat2 t7 v12 v13 v14) = impl_beatTime.l3 n k list0 bar1 beat2 t7 v12 v13 v14 := by
  intro k
  induction k with
  | zero => intro list0 bar1 beat2 t7 v12 v13 v14; rfl
  | succ k ih =>
    intro list0 bar1 beat2 t7 v12 v13 v14
    have h : impl_beatTime.LN3 n x (k + 1) (impl_beatTime.st3 list0 bar1 beat2 t7 v12 v13 v14) = impl_beatTime.g3 (fun list0 bar1 beat2 t7 v12 v13 v14 => impl_beatTime.LN3 n x k (impl_beatTime.st3 list0 bar1 beat2 t7 v12 v13 v14)) list0 bar1 beat2 t7 v12 v13 v14 := by kernel_rfl
    rw [h]
    simp only [ih]
    rfl
set_option maxRecDepth 100000 in
theorem impl_beatTime.body (n : Nat) (x : (List (Int × Int)) × Int × Int) : bodyF impl_beatTime.E impl_beatTime.keep n Try.f157 impl_beatTime.con x = impl_beatTime.fn n x.1 x.2.1 x.2.2 := by
  have h : bodyF impl_beatTime.E impl_beatTime.keep n Try.f157 impl_beatTime.con x = impl_beatTime.top (fun list0 bar1 beat2 t7 v12 v13 v14 => impl_beatTime.LN3 n x n (impl_beatTime.st3 list0 bar1 beat2 t7 v12 v13 v14)) x.1 x.2.1 x.2.2 := by kernel_rfl
  rw [h]
  simp only [impl_beatTime.lem3]
  rfl
set_option maxRecDepth 100000 in
theorem impl_beatTime.good : Good Try.prog 157 impl_beatTime.con :=
  good_of tabok (cs := impl_beatTime.cs) trivial 0 false (fn := Try.f157) Try.func157 rfl (by decide) (by simp [impl_beatTime.con]) impl_beatTime.keep NN (fun _ => rfl) (fun x => impl_beatTime.body NN x)
end
end Go.Ev.Try

namespace Go.Ev.Try
open Go.Proofs Go.Pl
set_option linter.unusedVariables false
noncomputable section
def impl_firedAt.con : Con := { ps := [(.val, (.pair (.sl 188 (.pair (.int .i64) (.int .i64))) (.pair (.sl 75 (.pair .str (.pair (.int .i64) (.pair (.int .i64) (.pair (.int .i64) (.pair (.int .i64) (.pair (.int .i64) (.pair (.int .i64) (.pair (.int .i64) (.int .i64)))))))))) (.sl 73 (.pair (.int .i64) (.pair (.int .i64) (.pair .str (.int .i64)))))))), (.val, (.pair (.int .i64) (.pair (.int .i64) (.pair .str (.int .i64)))))], rs := [(.val, (.int .i64))], F := fun x => impl_firedAt.f x.1 x.2 }
def impl_firedAt.cs : List (FuncId × Con) := [(69, impl_articleOf.con), (156, impl_isBeat.con), (157, impl_beatTime.con)]
def impl_firedAt.E : Env := envOf tab impl_firedAt.cs 0 false
def impl_firedAt.keep (i : Nat) : List Nat := []
set_option maxRecDepth 100000 in
theorem impl_firedAt.body (n : Nat) (x : ((List (Int × Int)) × (List (ByteArray × Int × Int × Int × Int × Int × Int × Int × Int)) × List (Int × Int × ByteArray × Int)) × Int × Int × ByteArray × Int) : bodyF impl_firedAt.E impl_firedAt.keep n Try.f128 impl_firedAt.con x = impl_firedAt.fn n x.1 x.2 := by
  have h : bodyF impl_firedAt.E impl_firedAt.keep n Try.f128 impl_firedAt.con x = impl_firedAt.top x.1 x.2 := by kernel_rfl
  exact h
set_option maxRecDepth 100000 in
theorem impl_firedAt.good : Good Try.prog 128 impl_firedAt.con :=
  good_of tabok (cs := impl_firedAt.cs) ⟨impl_articleOf.good, impl_isBeat.good, impl_beatTime.good, trivial⟩ 0 false (fn := Try.f128) Try.func128 rfl (by decide) (by simp [impl_firedAt.con]) impl_firedAt.keep NN (fun _ => rfl) (fun x => impl_firedAt.body NN x)
end
end Go.Ev.Try

namespace Go.Ev.Try
open Go.Proofs Go.Pl
set_option linter.unusedVariables false
noncomputable section
def impl_IsShow.st4 (v22 : List (Int × Int × ByteArray × Int)) (v23 : Int) (v24 : Int) (x1 : (List (Int × Int)) × (List (ByteArray × Int × Int × Int × Int × Int × Int × Int × Int)) × List (Int × Int × ByteArray × Int)) : St := ⟨[.gone, .ptr 0 [], .gone, .gone, .gone, .gone, .gone, .gone, .gone, .gone, .gone, .gone, .gone, .gone, .gone, .gone, .gone, .gone, .gone, .gone, .gone, .gone, .dat (.sl 73 (.pair (.int .i64) (.pair (.int .i64) (.pair .str (.int .i64))))) v22, .dat (.int .i64) v23, .dat (.int .i64) v24, .gone, .gone, .gone, .gone, .gone, .gone, .gone, .gone, .gone, .gone, .gone, .gone, .gone, .gone], [.box 62 (.pair (.sl 188 (.pair (.int .i64) (.int .i64))) (.pair (.sl 75 (.pair .str (.pair (.int .i64) (.pair (.int .i64) (.pair (.int .i64) (.pair (.int .i64) (.pair (.int .i64) (.pair (.int .i64) (.pair (.int .i64) (.int .i64)))))))))) (.sl 73 (.pair (.int .i64) (.pair (.int .i64) (.pair .str (.int .i64))))))) (.dat (.pair (.sl 188 (.pair (.int .i64) (.int .i64))) (.pair (.sl 75 (.pair .str (.pair (.int .i64) (.pair (.int .i64) (.pair (.int .i64) (.pair (.int .i64) (.pair (.int .i64) (.pair (.int .i64) (.pair (.int .i64) (.int .i64)))))))))) (.sl 73 (.pair (.int .i64) (.pair (.int .i64) (.pair .str (.int .i64))))))) x1)]⟩
def impl_IsShow.con : Con := { ps := [(.val, (.pair (.sl 188 (.pair (.int .i64) (.int .i64))) (.pair (.sl 75 (.pair .str (.pair (.int .i64) (.pair (.int .i64) (.pair (.int .i64) (.pair (.int .i64) (.pair (.int .i64) (.pair (.int .i64) (.pair (.int .i64) (.int .i64)))))))))) (.sl 73 (.pair (.int .i64) (.pair (.int .i64) (.pair .str (.int .i64))))))))], rs := [(.val, .bool)], F := fun x => impl_IsShow.f x }
def impl_IsShow.cs : List (FuncId × Con) := [(113, impl_within.con), (123, impl_AreArticles.con), (127, impl_IsScore.con), (128, impl_firedAt.con)]
def impl_IsShow.E : Env := envOf tab impl_IsShow.cs 0 false
def impl_IsShow.keep (i : Nat) : List Nat := if i = 4 then [1, 22, 23, 24] else []
def impl_IsShow.at4 (n : Nat) (x : (List (Int × Int)) × (List (ByteArray × Int × Int × Int × Int × Int × Int × Int × Int)) × List (Int × Int × ByteArray × Int)) : Code × (Ex → St → Option (Bool)) := ctx impl_IsShow.E impl_IsShow.keep n [.snd, .snd, .fst, .snd, .blk] (codeOf Try.f76) (kEnd impl_IsShow.E Try.f76 impl_IsShow.con x)
def impl_IsShow.LN4 (n : Nat) (x : (List (Int × Int)) × (List (ByteArray × Int × Int × Int × Int × Int × Int × Int × Int)) × List (Int × Int × ByteArray × Int)) : Nat → St → Option (Bool) := loopN (exec impl_IsShow.E impl_IsShow.keep n (bodyOf (impl_IsShow.at4 n x).1)) (St.norm 0 (impl_IsShow.keep 4)) (impl_IsShow.at4 n x).2
set_option maxRecDepth 100000 in
theorem impl_IsShow.lem4 (n : Nat) (x : (List (Int × Int)) × (List (ByteArray × Int × Int × Int × Int × Int × Int × Int × Int)) × List (Int × Int × ByteArray × Int)) : ∀ (k : Nat) (v22 : List (Int × Int × ByteArray × Int)) (v23 : Int) (v24 : Int) (x1 : (List (Int × Int)) × (List (ByteArray × Int × Int × Int × Int × Int × Int × Int × Int)) × List (Int × Int × ByteArray × Int)), impl_IsShow.LN4 n x k (impl_IsShow.st4 v22 v23 v24 x1) = impl_IsShow.l4 n k v22 v23 v24 x1 := by
  intro k
  induction k with
  | zero => intro v22 v23 v24 x1; rfl
  | succ k ih =>
    intro v22 v23 v24 x1
    have h : impl_IsShow.LN4 n x (k + 1) (impl_IsShow.st4 v22 v23 v24 x1) = impl_IsShow.g4 (fun v22 v23 v24 x1 => impl_IsShow.LN4 n x k (impl_IsShow.st4 v22 v23 v24 x1)) v22 v23 v24 x1 := by kernel_rfl
    rw [h]
    simp only [ih]
    rfl
set_option maxRecDepth 100000 in
theorem impl_IsShow.body (n : Nat) (x : (List (Int × Int)) × (List (ByteArray × Int × Int × Int × Int × Int × Int × Int × Int)) × List (Int × Int × ByteArray × Int)) : bodyF impl_IsShow.E impl_IsShow.keep n Try.f76 impl_IsShow.con x = impl_IsShow.fn n x := by
  have h : bodyF impl_IsShow.E impl_IsShow.keep n Try.f76 impl_IsShow.con x = impl_IsShow.top (fun v22 v23 v24 x1 => impl_IsShow.LN4 n x n (impl_IsShow.st4 v22 v23 v24 x1)) x := by kernel_rfl
  rw [h]
  simp only [impl_IsShow.lem4]
  rfl
set_option maxRecDepth 100000 in
theorem impl_IsShow.good : Good Try.prog 76 impl_IsShow.con :=
  good_of tabok (cs := impl_IsShow.cs) ⟨impl_within.good, impl_AreArticles.good, impl_IsScore.good, impl_firedAt.good, trivial⟩ 0 false (fn := Try.f76) Try.func76 rfl (by decide) (by simp [impl_IsShow.con]) impl_IsShow.keep NN (fun _ => rfl) (fun x => impl_IsShow.body NN x)
end
end Go.Ev.Try

namespace Go.Ev.Try
open Go.Proofs Go.Pl
set_option linter.unusedVariables false
noncomputable section
def impl_fireTimes.st3 (v7 : List (Int × Int × ByteArray × Int)) (v8 : Int) (v9 : Int) (x1 : (List (Int × Int)) × (List (ByteArray × Int × Int × Int × Int × Int × Int × Int × Int)) × List (Int × Int × ByteArray × Int)) (out3 : List Int) : St := ⟨[.gone, .ptr 0 [], .gone, .ref 1, .gone, .gone, .gone, .dat (.sl 73 (.pair (.int .i64) (.pair (.int .i64) (.pair .str (.int .i64))))) v7, .dat (.int .i64) v8, .dat (.int .i64) v9, .gone, .gone, .gone, .gone, .gone, .gone, .gone, .gone, .gone, .gone, .gone], [.box 62 (.pair (.sl 188 (.pair (.int .i64) (.int .i64))) (.pair (.sl 75 (.pair .str (.pair (.int .i64) (.pair (.int .i64) (.pair (.int .i64) (.pair (.int .i64) (.pair (.int .i64) (.pair (.int .i64) (.pair (.int .i64) (.int .i64)))))))))) (.sl 73 (.pair (.int .i64) (.pair (.int .i64) (.pair .str (.int .i64))))))) (.dat (.pair (.sl 188 (.pair (.int .i64) (.int .i64))) (.pair (.sl 75 (.pair .str (.pair (.int .i64) (.pair (.int .i64) (.pair (.int .i64) (.pair (.int .i64) (.pair (.int .i64) (.pair (.int .i64) (.pair (.int .i64) (.int .i64)))))))))) (.sl 73 (.pair (.int .i64) (.pair (.int .i64) (.pair .str (.int .i64))))))) x1), .row 2 (.int .i64) out3 none]⟩
def impl_fireTimes.con : Con := { ps := [(.val, (.pair (.sl 188 (.pair (.int .i64) (.int .i64))) (.pair (.sl 75 (.pair .str (.pair (.int .i64) (.pair (.int .i64) (.pair (.int .i64) (.pair (.int .i64) (.pair (.int .i64) (.pair (.int .i64) (.pair (.int .i64) (.int .i64)))))))))) (.sl 73 (.pair (.int .i64) (.pair (.int .i64) (.pair .str (.int .i64))))))))], rs := [(.own, (.sl 2 (.int .i64)))], F := fun x => impl_fireTimes.f x }
def impl_fireTimes.cs : List (FuncId × Con) := [(128, impl_firedAt.con)]
def impl_fireTimes.E : Env := envOf tab impl_fireTimes.cs 0 false
def impl_fireTimes.keep (i : Nat) : List Nat := if i = 3 then [1, 3, 7, 8, 9] else []
def impl_fireTimes.at3 (n : Nat) (x : (List (Int × Int)) × (List (ByteArray × Int × Int × Int × Int × Int × Int × Int × Int)) × List (Int × Int × ByteArray × Int)) : Code × (Ex → St → Option ((List Int))) := ctx impl_fireTimes.E impl_fireTimes.keep n [.snd, .snd, .fst, .snd, .blk] (codeOf Try.f77) (kEnd impl_fireTimes.E Try.f77 impl_fireTimes.con x)
def impl_fireTimes.LN3 (n : Nat) (x : (List (Int × Int)) × (List (ByteArray × Int × Int × Int × Int × Int × Int × Int × Int)) × List (Int × Int × ByteArray × Int)) : Nat → St → Option ((List Int)) := loopN (exec impl_fireTimes.E impl_fireTimes.keep n (bodyOf (impl_fireTimes.at3 n x).1)) (St.norm 0 (impl_fireTimes.keep 3)) (impl_fireTimes.at3 n x).2
set_option maxRecDepth 100000 in
theorem impl_fireTimes.lem3 (n : Nat) (x : (List (Int × Int)) × (List (ByteArray × Int × Int × Int × Int × Int × Int × Int × Int)) × List (Int × Int × ByteArray × Int)) : ∀ (k : Nat) (v7 : List (Int × Int × ByteArray × Int)) (v8 : Int) (v9 : Int) (x1 : (List (Int × Int)) × (List (ByteArray × Int × Int × Int × Int × Int × Int × Int × Int)) × List (Int × Int × ByteArray × Int)) (out3 : List Int), impl_fireTimes.LN3 n x k (impl_fireTimes.st3 v7 v8 v9 x1 out3) = impl_fireTimes.l3 n k v7 v8 v9 x1 out3 := by
  intro k
  induction k with
  | zero => intro v7 v8 v9 x1 out3; rfl
  | succ k ih =>
    intro v7 v8 v9 x1 out3
    have h : impl_fireTimes.LN3 n x (k + 1) (impl_fireTimes.st3 v7 v8 v9 x1 out3) = impl_fireTimes.g3 (fun v7 v8 v9 x1 out3 => impl_fireTimes.LN3 n x k (impl_fireTimes.st3 v7 v8 v9 x1 out3)) v7 v8 v9 x1 out3 := by kernel_rfl
    rw [h]
    simp only [ih]
    rfl
set_option maxRecDepth 100000 in
theorem impl_fireTimes.body (n : Nat) (x : (List (Int × Int)) × (List (ByteArray × Int × Int × Int × Int × Int × Int × Int × Int)) × List (Int × Int × ByteArray × Int)) : bodyF impl_fireTimes.E impl_fireTimes.keep n Try.f77 impl_fireTimes.con x = impl_fireTimes.fn n x := by
  have h : bodyF impl_fireTimes.E impl_fireTimes.keep n Try.f77 impl_fireTimes.con x = impl_fireTimes.top (fun v7 v8 v9 x1 out3 => impl_fireTimes.LN3 n x n (impl_fireTimes.st3 v7 v8 v9 x1 out3)) x := by kernel_rfl
  rw [h]
  simp only [impl_fireTimes.lem3]
  rfl
set_option maxRecDepth 100000 in
theorem impl_fireTimes.good : Good Try.prog 77 impl_fireTimes.con :=
  good_of tabok (cs := impl_fireTimes.cs) ⟨impl_firedAt.good, trivial⟩ 0 false (fn := Try.f77) Try.func77 rfl (by decide) (by simp [impl_fireTimes.con]) impl_fireTimes.keep NN (fun _ => rfl) (fun x => impl_fireTimes.body NN x)
end
end Go.Ev.Try

namespace Go.Ev.Try
open Go.Proofs Go.Pl
set_option linter.unusedVariables false
noncomputable section
def impl_FireTimes.con : Con := { ps := [(.val, (.pair (.sl 188 (.pair (.int .i64) (.int .i64))) (.pair (.sl 75 (.pair .str (.pair (.int .i64) (.pair (.int .i64) (.pair (.int .i64) (.pair (.int .i64) (.pair (.int .i64) (.pair (.int .i64) (.pair (.int .i64) (.int .i64)))))))))) (.sl 73 (.pair (.int .i64) (.pair (.int .i64) (.pair .str (.int .i64))))))))], rs := [(.own, (.sl 2 (.int .i64))), (.own, (.int .i64))], F := fun x => impl_FireTimes.f x }
def impl_FireTimes.cs : List (FuncId × Con) := [(76, impl_IsShow.con), (77, impl_fireTimes.con)]
def impl_FireTimes.E : Env := envOf tab impl_FireTimes.cs 0 false
def impl_FireTimes.keep (i : Nat) : List Nat := []
set_option maxRecDepth 100000 in
theorem impl_FireTimes.body (n : Nat) (x : (List (Int × Int)) × (List (ByteArray × Int × Int × Int × Int × Int × Int × Int × Int)) × List (Int × Int × ByteArray × Int)) : bodyF impl_FireTimes.E impl_FireTimes.keep n Try.f25 impl_FireTimes.con x = impl_FireTimes.fn n x := by
  have h : bodyF impl_FireTimes.E impl_FireTimes.keep n Try.f25 impl_FireTimes.con x = impl_FireTimes.top x := by kernel_rfl
  exact h
set_option maxRecDepth 100000 in
theorem impl_FireTimes.good : Good Try.prog 25 impl_FireTimes.con :=
  good_of tabok (cs := impl_FireTimes.cs) ⟨impl_IsShow.good, impl_fireTimes.good, trivial⟩ 0 false (fn := Try.f25) Try.func25 rfl (by decide) (by simp [impl_FireTimes.con]) impl_FireTimes.keep NN (fun _ => rfl) (fun x => impl_FireTimes.body NN x)
end
end Go.Ev.Try

namespace Go.Ev.Try
open Go.Proofs Go.Pl
set_option linter.unusedVariables false
noncomputable section
def spec_l03Find.st2 (list0 : List (ByteArray × Int × Int × Int × Int × Int × Int × Int × Int)) (code1 : ByteArray) (i5 : Int) : St := ⟨[.dat (.sl 75 (.pair .str (.pair (.int .i64) (.pair (.int .i64) (.pair (.int .i64) (.pair (.int .i64) (.pair (.int .i64) (.pair (.int .i64) (.pair (.int .i64) (.int .i64)))))))))) list0, .dat .str code1, .gone, .gone, .gone, .dat (.int .i64) i5, .gone, .gone, .gone, .gone, .gone, .gone, .gone, .gone, .gone, .gone, .gone, .gone, .gone, .gone], []⟩
def spec_l03Find.con : Con := { ps := [(.val, (.sl 75 (.pair .str (.pair (.int .i64) (.pair (.int .i64) (.pair (.int .i64) (.pair (.int .i64) (.pair (.int .i64) (.pair (.int .i64) (.pair (.int .i64) (.int .i64))))))))))), (.val, .str)], rs := [(.val, (.int .i64))], F := fun x => spec_l03Find.f x.1 x.2 }
def spec_l03Find.cs : List (FuncId × Con) := []
def spec_l03Find.E : Env := envOf tab spec_l03Find.cs 0 false
def spec_l03Find.keep (i : Nat) : List Nat := if i = 2 then [0, 1, 5] else []
def spec_l03Find.at2 (n : Nat) (x : (List (ByteArray × Int × Int × Int × Int × Int × Int × Int × Int)) × ByteArray) : Code × (Ex → St → Option (Int)) := ctx spec_l03Find.E spec_l03Find.keep n [.snd, .fst, .snd, .blk] (codeOf Try.f62) (kEnd spec_l03Find.E Try.f62 spec_l03Find.con x)
def spec_l03Find.LN2 (n : Nat) (x : (List (ByteArray × Int × Int × Int × Int × Int × Int × Int × Int)) × ByteArray) : Nat → St → Option (Int) := loopN (exec spec_l03Find.E spec_l03Find.keep n (bodyOf (spec_l03Find.at2 n x).1)) (St.norm 0 (spec_l03Find.keep 2)) (spec_l03Find.at2 n x).2
set_option maxRecDepth 100000 in
theorem spec_l03Find.lem2 (n : Nat) (x : (List (ByteArray × Int × Int × Int × Int × Int × Int × Int × Int)) × ByteArray) : ∀ (k : Nat) (list0 : List (ByteArray × Int × Int × Int × Int × Int × Int × Int × Int)) (code1 : ByteArray) (i5 : Int), spec_l03Find.LN2 n x k (spec_l03Find.st2 list0 code1 i5) = spec_l03Find.l2 n k list0 code1 i5 := by
  intro k
  induction k with
  | zero => intro list0 code1 i5; rfl
  | succ k ih =>
    intro list0 code1 i5
    have h : spec_l03Find.LN2 n x (k + 1) (spec_l03Find.st2 list0 code1 i5) = spec_l03Find.g2 (fun list0 code1 i5 => spec_l03Find.LN2 n x k (spec_l03Find.st2 list0 code1 i5)) list0 code1 i5 := by kernel_rfl
    rw [h]
    simp only [ih]
    rfl
set_option maxRecDepth 100000 in
theorem spec_l03Find.body (n : Nat) (x : (List (ByteArray × Int × Int × Int × Int × Int × Int × Int × Int)) × ByteArray) : bodyF spec_l03Find.E spec_l03Find.keep n Try.f62 spec_l03Find.con x = spec_l03Find.fn n x.1 x.2 := by
  have h : bodyF spec_l03Find.E spec_l03Find.keep n Try.f62 spec_l03Find.con x = spec_l03Find.top (fun list0 code1 i5 => spec_l03Find.LN2 n x n (spec_l03Find.st2 list0 code1 i5)) x.1 x.2 := by kernel_rfl
  rw [h]
  simp only [spec_l03Find.lem2]
  rfl
set_option maxRecDepth 100000 in
theorem spec_l03Find.good : Good Try.prog 62 spec_l03Find.con :=
  good_of tabok (cs := spec_l03Find.cs) trivial 0 false (fn := Try.f62) Try.func62 rfl (by decide) (by simp [spec_l03Find.con]) spec_l03Find.keep NN (fun _ => rfl) (fun x => spec_l03Find.body NN x)
end
end Go.Ev.Try

namespace Go.Ev.Try
open Go.Proofs Go.Pl
set_option linter.unusedVariables false
noncomputable section
def spec_l01In.con : Con := { ps := [(.val, (.int .i64)), (.val, (.int .i64)), (.val, (.int .i64))], rs := [(.val, .bool)], F := fun x => spec_l01In.f x.1 x.2.1 x.2.2 }
def spec_l01In.cs : List (FuncId × Con) := []
def spec_l01In.E : Env := envOf tab spec_l01In.cs 0 false
def spec_l01In.keep (i : Nat) : List Nat := []
set_option maxRecDepth 100000 in
theorem spec_l01In.body (n : Nat) (x : Int × Int × Int) : bodyF spec_l01In.E spec_l01In.keep n Try.f105 spec_l01In.con x = spec_l01In.fn n x.1 x.2.1 x.2.2 := by
  have h : bodyF spec_l01In.E spec_l01In.keep n Try.f105 spec_l01In.con x = spec_l01In.top x.1 x.2.1 x.2.2 := by kernel_rfl
  exact h
set_option maxRecDepth 100000 in
theorem spec_l01In.good : Good Try.prog 105 spec_l01In.con :=
  good_of tabok (cs := spec_l01In.cs) trivial 0 false (fn := Try.f105) Try.func105 rfl (by decide) (by simp [spec_l01In.con]) spec_l01In.keep NN (fun _ => rfl) (fun x => spec_l01In.body NN x)
end
end Go.Ev.Try

namespace Go.Ev.Try
open Go.Proofs Go.Pl
set_option linter.unusedVariables false
noncomputable section
def spec_IsWord.st2 (s0 : ByteArray) (i3 : Int) : St := ⟨[.dat .str s0, .gone, .gone, .dat (.int .i64) i3, .gone, .gone, .gone, .gone, .gone, .gone, .gone, .gone, .gone, .gone, .gone, .gone, .gone, .gone, .gone, .gone, .gone, .gone, .gone], []⟩
def spec_IsWord.con : Con := { ps := [(.val, .str)], rs := [(.val, .bool)], F := fun x => spec_IsWord.f x }
def spec_IsWord.cs : List (FuncId × Con) := [(105, spec_l01In.con)]
def spec_IsWord.E : Env := envOf tab spec_IsWord.cs 0 false
def spec_IsWord.keep (i : Nat) : List Nat := if i = 2 then [0, 3] else []
def spec_IsWord.at2 (n : Nat) (x : ByteArray) : Code × (Ex → St → Option (Bool)) := ctx spec_IsWord.E spec_IsWord.keep n [.snd, .fst, .snd, .blk] (codeOf Try.f104) (kEnd spec_IsWord.E Try.f104 spec_IsWord.con x)
def spec_IsWord.LN2 (n : Nat) (x : ByteArray) : Nat → St → Option (Bool) := loopN (exec spec_IsWord.E spec_IsWord.keep n (bodyOf (spec_IsWord.at2 n x).1)) (St.norm 0 (spec_IsWord.keep 2)) (spec_IsWord.at2 n x).2
set_option maxRecDepth 100000 in
theorem spec_IsWord.lem2 (n : Nat) (x : ByteArray) : ∀ (k : Nat) (s0 : ByteArray) (i3 : Int), spec_IsWord.LN2 n x k (spec_IsWord.st2 s0 i3) = spec_IsWord.l2 n k s0 i3 := by
  intro k
  induction k with
  | zero => intro s0 i3; rfl
  | succ k ih =>
    intro s0 i3
    have h : spec_IsWord.LN2 n x (k + 1) (spec_IsWord.st2 s0 i3) = spec_IsWord.g2 (fun s0 i3 => spec_IsWord.LN2 n x k (spec_IsWord.st2 s0 i3)) s0 i3 := by kernel_rfl
    rw [h]
    simp only [ih]
    rfl
set_option maxRecDepth 100000 in
theorem spec_IsWord.body (n : Nat) (x : ByteArray) : bodyF spec_IsWord.E spec_IsWord.keep n Try.f104 spec_IsWord.con x = spec_IsWord.fn n x := by
  have h : bodyF spec_IsWord.E spec_IsWord.keep n Try.f104 spec_IsWord.con x = spec_IsWord.top (fun s0 i3 => spec_IsWord.LN2 n x n (spec_IsWord.st2 s0 i3)) x := by kernel_rfl
  rw [h]
  simp only [spec_IsWord.lem2]
  rfl
set_option maxRecDepth 100000 in
theorem spec_IsWord.good : Good Try.prog 104 spec_IsWord.con :=
  good_of tabok (cs := spec_IsWord.cs) ⟨spec_l01In.good, trivial⟩ 0 false (fn := Try.f104) Try.func104 rfl (by decide) (by simp [spec_IsWord.con]) spec_IsWord.keep NN (fun _ => rfl) (fun x => spec_IsWord.body NN x)
end
end Go.Ev.Try

namespace Go.Ev.Try
open Go.Proofs Go.Pl
set_option linter.unusedVariables false
noncomputable section
def spec_IsArticle.con : Con := { ps := [(.val, (.pair .str (.pair (.int .i64) (.pair (.int .i64) (.pair (.int .i64) (.pair (.int .i64) (.pair (.int .i64) (.pair (.int .i64) (.pair (.int .i64) (.int .i64))))))))))], rs := [(.val, .bool)], F := fun x => spec_IsArticle.f x }
def spec_IsArticle.cs : List (FuncId × Con) := [(104, spec_IsWord.con), (105, spec_l01In.con)]
def spec_IsArticle.E : Env := envOf tab spec_IsArticle.cs 0 false
def spec_IsArticle.keep (i : Nat) : List Nat := []
set_option maxRecDepth 100000 in
theorem spec_IsArticle.body (n : Nat) (x : ByteArray × Int × Int × Int × Int × Int × Int × Int × Int) : bodyF spec_IsArticle.E spec_IsArticle.keep n Try.f151 spec_IsArticle.con x = spec_IsArticle.fn n x := by
  have h : bodyF spec_IsArticle.E spec_IsArticle.keep n Try.f151 spec_IsArticle.con x = spec_IsArticle.top x := by kernel_rfl
  exact h
set_option maxRecDepth 100000 in
theorem spec_IsArticle.good : Good Try.prog 151 spec_IsArticle.con :=
  good_of tabok (cs := spec_IsArticle.cs) ⟨spec_IsWord.good, spec_l01In.good, trivial⟩ 0 false (fn := Try.f151) Try.func151 rfl (by decide) (by simp [spec_IsArticle.con]) spec_IsArticle.keep NN (fun _ => rfl) (fun x => spec_IsArticle.body NN x)
end
end Go.Ev.Try

namespace Go.Ev.Try
open Go.Proofs Go.Pl
set_option linter.unusedVariables false
noncomputable section
def spec_AreArticles.st2 (list0 : List (ByteArray × Int × Int × Int × Int × Int × Int × Int × Int)) (i3 : Int) : St := ⟨[.dat (.sl 75 (.pair .str (.pair (.int .i64) (.pair (.int .i64) (.pair (.int .i64) (.pair (.int .i64) (.pair (.int .i64) (.pair (.int .i64) (.pair (.int .i64) (.int .i64)))))))))) list0, .gone, .gone, .dat (.int .i64) i3, .gone, .gone, .gone, .gone, .gone, .gone, .gone, .gone, .gone, .gone, .gone, .gone, .gone, .gone, .gone, .gone, .gone, .gone, .gone, .gone, .gone, .gone, .gone, .gone, .gone, .gone, .gone, .gone, .gone, .gone, .gone, .gone, .gone], []⟩
def spec_AreArticles.con : Con := { ps := [(.val, (.sl 75 (.pair .str (.pair (.int .i64) (.pair (.int .i64) (.pair (.int .i64) (.pair (.int .i64) (.pair (.int .i64) (.pair (.int .i64) (.pair (.int .i64) (.int .i64)))))))))))], rs := [(.val, .bool)], F := fun x => spec_AreArticles.f x }
def spec_AreArticles.cs : List (FuncId × Con) := [(151, spec_IsArticle.con)]
def spec_AreArticles.E : Env := envOf tab spec_AreArticles.cs 0 false
def spec_AreArticles.keep (i : Nat) : List Nat := if i = 2 then [0, 3] else []
def spec_AreArticles.at2 (n : Nat) (x : List (ByteArray × Int × Int × Int × Int × Int × Int × Int × Int)) : Code × (Ex → St → Option (Bool)) := ctx spec_AreArticles.E spec_AreArticles.keep n [.snd, .fst, .snd, .blk] (codeOf Try.f119) (kEnd spec_AreArticles.E Try.f119 spec_AreArticles.con x)
def spec_AreArticles.LN2 (n : Nat) (x : List (ByteArray × Int × Int × Int × Int × Int × Int × Int × Int)) : Nat → St → Option (Bool) := loopN (exec spec_AreArticles.E spec_AreArticles.keep n (bodyOf (spec_AreArticles.at2 n x).1)) (St.norm 0 (spec_AreArticles.keep 2)) (spec_AreArticles.at2 n x).2
set_option maxRecDepth 100000 in
theorem spec_AreArticles.lem2 (n : Nat) (x : List (ByteArray × Int × Int × Int × Int × Int × Int × Int × Int)) : ∀ (k : Nat) (list0 : List (ByteArray × Int × Int × Int × Int × Int × Int × Int × Int)) (i3 : Int), spec_AreArticles.LN2 n x k (spec_AreArticles.st2 list0 i3) = spec_AreArticles.l2 n k list0 i3 := by
  intro k
  induction k with
  | zero => intro list0 i3; rfl
  | succ k ih =>
    intro list0 i3
    have h : spec_AreArticles.LN2 n x (k + 1) (spec_AreArticles.st2 list0 i3) = spec_AreArticles.g2 (fun list0 i3 => spec_AreArticles.LN2 n x k (spec_AreArticles.st2 list0 i3)) list0 i3 := by kernel_rfl
    rw [h]
    simp only [ih]
    rfl
set_option maxRecDepth 100000 in
theorem spec_AreArticles.body (n : Nat) (x : List (ByteArray × Int × Int × Int × Int × Int × Int × Int × Int)) : bodyF spec_AreArticles.E spec_AreArticles.keep n Try.f119 spec_AreArticles.con x = spec_AreArticles.fn n x := by
  have h : bodyF spec_AreArticles.E spec_AreArticles.keep n Try.f119 spec_AreArticles.con x = spec_AreArticles.top (fun list0 i3 => spec_AreArticles.LN2 n x n (spec_AreArticles.st2 list0 i3)) x := by kernel_rfl
  rw [h]
  simp only [spec_AreArticles.lem2]
  rfl
set_option maxRecDepth 100000 in
theorem spec_AreArticles.good : Good Try.prog 119 spec_AreArticles.con :=
  good_of tabok (cs := spec_AreArticles.cs) ⟨spec_IsArticle.good, trivial⟩ 0 false (fn := Try.f119) Try.func119 rfl (by decide) (by simp [spec_AreArticles.con]) spec_AreArticles.keep NN (fun _ => rfl) (fun x => spec_AreArticles.body NN x)
end
end Go.Ev.Try

namespace Go.Ev.Try
open Go.Proofs Go.Pl
set_option linter.unusedVariables false
noncomputable section
def spec_IsScore.st2 (list0 : List (Int × Int)) (i3 : Int) : St := ⟨[.dat (.sl 188 (.pair (.int .i64) (.int .i64))) list0, .gone, .gone, .dat (.int .i64) i3, .gone, .gone, .gone, .gone, .gone, .gone, .gone, .gone, .gone, .gone, .gone, .gone, .gone, .gone, .gone, .gone, .gone, .gone, .gone, .gone, .gone, .gone, .gone, .gone, .gone], []⟩
def spec_IsScore.con : Con := { ps := [(.val, (.sl 188 (.pair (.int .i64) (.int .i64))))], rs := [(.val, .bool)], F := fun x => spec_IsScore.f x }
def spec_IsScore.cs : List (FuncId × Con) := [(105, spec_l01In.con)]
def spec_IsScore.E : Env := envOf tab spec_IsScore.cs 0 false
def spec_IsScore.keep (i : Nat) : List Nat := if i = 2 then [0, 3] else []
def spec_IsScore.at2 (n : Nat) (x : List (Int × Int)) : Code × (Ex → St → Option (Bool)) := ctx spec_IsScore.E spec_IsScore.keep n [.snd, .fst, .snd, .blk] (codeOf Try.f129) (kEnd spec_IsScore.E Try.f129 spec_IsScore.con x)
def spec_IsScore.LN2 (n : Nat) (x : List (Int × Int)) : Nat → St → Option (Bool) := loopN (exec spec_IsScore.E spec_IsScore.keep n (bodyOf (spec_IsScore.at2 n x).1)) (St.norm 0 (spec_IsScore.keep 2)) (spec_IsScore.at2 n x).2
set_option maxRecDepth 100000 in
theorem spec_IsScore.lem2 (n : Nat) (x : List (Int × Int)) : ∀ (k : Nat) (list0 : List (Int × Int)) (i3 : Int), spec_IsScore.LN2 n x k (spec_IsScore.st2 list0 i3) = spec_IsScore.l2 n k list0 i3 := by
  intro k
  induction k with
  | zero => intro list0 i3; rfl
  | succ k ih =>
    intro list0 i3
    have h : spec_IsScore.LN2 n x (k + 1) (spec_IsScore.st2 list0 i3) = spec_IsScore.g2 (fun list0 i3 => spec_IsScore.LN2 n x k (spec_IsScore.st2 list0 i3)) list0 i3 := by kernel_rfl
    rw [h]
    simp only [ih]
    rfl
set_option maxRecDepth 100000 in
theorem spec_IsScore.body (n : Nat) (x : List (Int × Int)) : bodyF spec_IsScore.E spec_IsScore.keep n Try.f129 spec_IsScore.con x = spec_IsScore.fn n x := by
  have h : bodyF spec_IsScore.E spec_IsScore.keep n Try.f129 spec_IsScore.con x = spec_IsScore.top (fun list0 i3 => spec_IsScore.LN2 n x n (spec_IsScore.st2 list0 i3)) x := by kernel_rfl
  rw [h]
  simp only [spec_IsScore.lem2]
  rfl
set_option maxRecDepth 100000 in
theorem spec_IsScore.good : Good Try.prog 129 spec_IsScore.con :=
  good_of tabok (cs := spec_IsScore.cs) ⟨spec_l01In.good, trivial⟩ 0 false (fn := Try.f129) Try.func129 rfl (by decide) (by simp [spec_IsScore.con]) spec_IsScore.keep NN (fun _ => rfl) (fun x => spec_IsScore.body NN x)
end
end Go.Ev.Try

namespace Go.Ev.Try
open Go.Proofs Go.Pl
set_option linter.unusedVariables false
noncomputable section
def spec_l07Has.con : Con := { ps := [(.val, (.sl 188 (.pair (.int .i64) (.int .i64)))), (.val, (.int .i64)), (.val, (.int .i64))], rs := [(.val, .bool)], F := fun x => spec_l07Has.f x.1 x.2.1 x.2.2 }
def spec_l07Has.cs : List (FuncId × Con) := [(105, spec_l01In.con)]
def spec_l07Has.E : Env := envOf tab spec_l07Has.cs 0 false
def spec_l07Has.keep (i : Nat) : List Nat := []
set_option maxRecDepth 100000 in
theorem spec_l07Has.body (n : Nat) (x : (List (Int × Int)) × Int × Int) : bodyF spec_l07Has.E spec_l07Has.keep n Try.f130 spec_l07Has.con x = spec_l07Has.fn n x.1 x.2.1 x.2.2 := by
  have h : bodyF spec_l07Has.E spec_l07Has.keep n Try.f130 spec_l07Has.con x = spec_l07Has.top x.1 x.2.1 x.2.2 := by kernel_rfl
  exact h
set_option maxRecDepth 100000 in
theorem spec_l07Has.good : Good Try.prog 130 spec_l07Has.con :=
  good_of tabok (cs := spec_l07Has.cs) ⟨spec_l01In.good, trivial⟩ 0 false (fn := Try.f130) Try.func130 rfl (by decide) (by simp [spec_l07Has.con]) spec_l07Has.keep NN (fun _ => rfl) (fun x => spec_l07Has.body NN x)
end
end Go.Ev.Try

namespace Go.Ev.Try
open Go.Proofs Go.Pl
set_option linter.unusedVariables false
noncomputable section
def spec_l07Time.st3 (list0 : List (Int × Int)) (bar1 : Int) (beat2 : Int) (t7 : Int) (i8 : Int) : St := ⟨[.dat (.sl 188 (.pair (.int .i64) (.int .i64))) list0, .dat (.int .i64) bar1, .dat (.int .i64) beat2, .gone, .gone, .gone, .gone, .dat (.int .i64) t7, .dat (.int .i64) i8, .gone, .gone, .gone, .gone, .gone, .gone, .gone, .gone, .gone, .gone, .gone, .gone, .gone, .gone, .gone, .gone, .gone, .gone, .gone, .gone, .gone, .gone, .gone, .gone, .gone, .gone, .gone], []⟩
def spec_l07Time.con : Con := { ps := [(.val, (.sl 188 (.pair (.int .i64) (.int .i64)))), (.val, (.int .i64)), (.val, (.int .i64))], rs := [(.val, (.int .i64))], F := fun x => spec_l07Time.f x.1 x.2.1 x.2.2 }
def spec_l07Time.cs : List (FuncId × Con) := []
def spec_l07Time.E : Env := envOf tab spec_l07Time.cs 0 false
def spec_l07Time.keep (i : Nat) : List Nat := if i = 3 then [0, 1, 2, 7, 8] else []
def spec_l07Time.at3 (n : Nat) (x : (List (Int × Int)) × Int × Int) : Code × (Ex → St → Option (Int)) := ctx spec_l07Time.E spec_l07Time.keep n [.snd, .snd, .fst, .snd, .blk] (codeOf Try.f158) (kEnd spec_l07Time.E Try.f158 spec_l07Time.con x)
def spec_l07Time.LN3 (n : Nat) (x : (List (Int × Int)) × Int × Int) : Nat → St → Option (Int) := loopN (exec spec_l07Time.E spec_l07Time.keep n (bodyOf (spec_l07Time.at3 n x).1)) (St.norm 0 (spec_l07Time.keep 3)) (spec_l07Time.at3 n x).2
set_option maxRecDepth 100000 in
theorem spec_l07Time.lem3 (n : Nat) (x : (List (Int × Int)) × Int × Int) : ∀ (k : Nat) (list0 : List (Int × Int)) (bar1 : Int) (beat2 : Int) (t7 : Int) (i8 : Int), spec_l07Time.LN3 n x k (spec_l07Time.st3 list0 bar1 beat2 t7 i8) = spec_l07Time.l3 n k list0 bar1 beat2 t7 i8 := by
  intro k
  induction k with
  | zero => intro list0 bar1 beat2 t7 i8; rfl
  | succ k ih =>
    intro list0 bar1 beat2 t7 i8
    have h : spec_l07Time.LN3 n x (k + 1) (spec_l07Time.st3 list0 bar1 beat2 t7 i8) = spec_l07Time.g3 (fun list0 bar1 beat2 t7 i8 => spec_l07Time.LN3 n x k (spec_l07Time.st3 list0 bar1 beat2 t7 i8)) list0 bar1 beat2 t7 i8 := by kernel_rfl
    rw [h]
    simp only [ih]
    rfl
set_option maxRecDepth 100000 in
theorem spec_l07Time.body (n : Nat) (x : (List (Int × Int)) × Int × Int) : bodyF spec_l07Time.E spec_l07Time.keep n Try.f158 spec_l07Time.con x = spec_l07Time.fn n x.1 x.2.1 x.2.2 := by
  have h : bodyF spec_l07Time.E spec_l07Time.keep n Try.f158 spec_l07Time.con x = spec_l07Time.top (fun list0 bar1 beat2 t7 i8 => spec_l07Time.LN3 n x n (spec_l07Time.st3 list0 bar1 beat2 t7 i8)) x.1 x.2.1 x.2.2 := by kernel_rfl
  rw [h]
  simp only [spec_l07Time.lem3]
  rfl
set_option maxRecDepth 100000 in
theorem spec_l07Time.good : Good Try.prog 158 spec_l07Time.con :=
  good_of tabok (cs := spec_l07Time.cs) trivial 0 false (fn := Try.f158) Try.func158 rfl (by decide) (by simp [spec_l07Time.con]) spec_l07Time.keep NN (fun _ => rfl) (fun x => spec_l07Time.body NN x)
end
end Go.Ev.Try

namespace Go.Ev.Try
open Go.Proofs Go.Pl
set_option linter.unusedVariables false
noncomputable section
def spec_l08Time.con : Con := { ps := [(.val, (.pair (.sl 188 (.pair (.int .i64) (.int .i64))) (.pair (.sl 75 (.pair .str (.pair (.int .i64) (.pair (.int .i64) (.pair (.int .i64) (.pair (.int .i64) (.pair (.int .i64) (.pair (.int .i64) (.pair (.int .i64) (.int .i64)))))))))) (.sl 73 (.pair (.int .i64) (.pair (.int .i64) (.pair .str (.int .i64)))))))), (.val, (.pair (.int .i64) (.pair (.int .i64) (.pair .str (.int .i64)))))], rs := [(.val, (.int .i64))], F := fun x => spec_l08Time.f x.1 x.2 }
def spec_l08Time.cs : List (FuncId × Con) := [(62, spec_l03Find.con), (158, spec_l07Time.con)]
def spec_l08Time.E : Env := envOf tab spec_l08Time.cs 0 false
def spec_l08Time.keep (i : Nat) : List Nat := []
set_option maxRecDepth 100000 in
theorem spec_l08Time.body (n : Nat) (x : ((List (Int × Int)) × (List (ByteArray × Int × Int × Int × Int × Int × Int × Int × Int)) × List (Int × Int × ByteArray × Int)) × Int × Int × ByteArray × Int) : bodyF spec_l08Time.E spec_l08Time.keep n Try.f131 spec_l08Time.con x = spec_l08Time.fn n x.1 x.2 := by
  have h : bodyF spec_l08Time.E spec_l08Time.keep n Try.f131 spec_l08Time.con x = spec_l08Time.top x.1 x.2 := by kernel_rfl
  exact h
set_option maxRecDepth 100000 in
theorem spec_l08Time.good : Good Try.prog 131 spec_l08Time.con :=
  good_of tabok (cs := spec_l08Time.cs) ⟨spec_l03Find.good, spec_l07Time.good, trivial⟩ 0 false (fn := Try.f131) Try.func131 rfl (by decide) (by simp [spec_l08Time.con]) spec_l08Time.keep NN (fun _ => rfl) (fun x => spec_l08Time.body NN x)
end
end Go.Ev.Try

namespace Go.Ev.Try
open Go.Proofs Go.Pl
set_option linter.unusedVariables false
noncomputable section
def spec_IsShow.st4 (i3 : Int) (x1 : (List (Int × Int)) × (List (ByteArray × Int × Int × Int × Int × Int × Int × Int × Int)) × List (Int × Int × ByteArray × Int)) : St := ⟨[.gone, .ptr 0 [], .gone, .dat (.int .i64) i3, .gone, .gone, .gone, .gone, .gone, .gone, .gone, .gone, .gone, .gone, .gone, .gone, .gone, .gone, .gone, .gone, .gone, .gone, .gone, .gone, .gone, .gone, .gone, .gone, .gone, .gone, .gone, .gone, .gone, .gone, .gone, .gone, .gone, .gone, .gone, .gone, .gone, .gone, .gone, .gone, .gone, .gone, .gone, .gone, .gone, .gone, .gone, .gone, .gone, .gone, .gone, .gone, .gone, .gone, .gone, .gone, .gone], [.box 62 (.pair (.sl 188 (.pair (.int .i64) (.int .i64))) (.pair (.sl 75 (.pair .str (.pair (.int .i64) (.pair (.int .i64) (.pair (.int .i64) (.pair (.int .i64) (.pair (.int .i64) (.pair (.int .i64) (.pair (.int .i64) (.int .i64)))))))))) (.sl 73 (.pair (.int .i64) (.pair (.int .i64) (.pair .str (.int .i64))))))) (.dat (.pair (.sl 188 (.pair (.int .i64) (.int .i64))) (.pair (.sl 75 (.pair .str (.pair (.int .i64) (.pair (.int .i64) (.pair (.int .i64) (.pair (.int .i64) (.pair (.int .i64) (.pair (.int .i64) (.pair (.int .i64) (.int .i64)))))))))) (.sl 73 (.pair (.int .i64) (.pair (.int .i64) (.pair .str (.int .i64))))))) x1)]⟩
def spec_IsShow.con : Con := { ps := [(.val, (.pair (.sl 188 (.pair (.int .i64) (.int .i64))) (.pair (.sl 75 (.pair .str (.pair (.int .i64) (.pair (.int .i64) (.pair (.int .i64) (.pair (.int .i64) (.pair (.int .i64) (.pair (.int .i64) (.pair (.int .i64) (.int .i64)))))))))) (.sl 73 (.pair (.int .i64) (.pair (.int .i64) (.pair .str (.int .i64))))))))], rs := [(.val, .bool)], F := fun x => spec_IsShow.f x }
def spec_IsShow.cs : List (FuncId × Con) := [(62, spec_l03Find.con), (105, spec_l01In.con), (119, spec_AreArticles.con), (129, spec_IsScore.con), (130, spec_l07Has.con), (131, spec_l08Time.con)]
def spec_IsShow.E : Env := envOf tab spec_IsShow.cs 0 false
def spec_IsShow.keep (i : Nat) : List Nat := if i = 4 then [1, 3] else []
def spec_IsShow.at4 (n : Nat) (x : (List (Int × Int)) × (List (ByteArray × Int × Int × Int × Int × Int × Int × Int × Int)) × List (Int × Int × ByteArray × Int)) : Code × (Ex → St → Option (Bool)) := ctx spec_IsShow.E spec_IsShow.keep n [.snd, .snd, .fst, .snd, .blk] (codeOf Try.f78) (kEnd spec_IsShow.E Try.f78 spec_IsShow.con x)
def spec_IsShow.LN4 (n : Nat) (x : (List (Int × Int)) × (List (ByteArray × Int × Int × Int × Int × Int × Int × Int × Int)) × List (Int × Int × ByteArray × Int)) : Nat → St → Option (Bool) := loopN (exec spec_IsShow.E spec_IsShow.keep n (bodyOf (spec_IsShow.at4 n x).1)) (St.norm 0 (spec_IsShow.keep 4)) (spec_IsShow.at4 n x).2
set_option maxRecDepth 100000 in
theorem spec_IsShow.lem4 (n : Nat) (x : (List (Int × Int)) × (List (ByteArray × Int × Int × Int × Int × Int × Int × Int × Int)) × List (Int × Int × ByteArray × Int)) : ∀ (k : Nat) (i3 : Int) (x1 : (List (Int × Int)) × (List (ByteArray × Int × Int × Int × Int × Int × Int × Int × Int)) × List (Int × Int × ByteArray × Int)), spec_IsShow.LN4 n x k (spec_IsShow.st4 i3 x1) = spec_IsShow.l4 n k i3 x1 := by
  intro k
  induction k with
  | zero => intro i3 x1; rfl
  | succ k ih =>
    intro i3 x1
    have h : spec_IsShow.LN4 n x (k + 1) (spec_IsShow.st4 i3 x1) = spec_IsShow.g4 (fun i3 x1 => spec_IsShow.LN4 n x k (spec_IsShow.st4 i3 x1)) i3 x1 := by kernel_rfl
    rw [h]
    simp only [ih]
    rfl
set_option maxRecDepth 100000 in
theorem spec_IsShow.body (n : Nat) (x : (List (Int × Int)) × (List (ByteArray × Int × Int × Int × Int × Int × Int × Int × Int)) × List (Int × Int × ByteArray × Int)) : bodyF spec_IsShow.E spec_IsShow.keep n Try.f78 spec_IsShow.con x = spec_IsShow.fn n x := by
  have h : bodyF spec_IsShow.E spec_IsShow.keep n Try.f78 spec_IsShow.con x = spec_IsShow.top (fun i3 x1 => spec_IsShow.LN4 n x n (spec_IsShow.st4 i3 x1)) x := by kernel_rfl
  rw [h]
  simp only [spec_IsShow.lem4]
  rfl
set_option maxRecDepth 100000 in
theorem spec_IsShow.good : Good Try.prog 78 spec_IsShow.con :=
  good_of tabok (cs := spec_IsShow.cs) ⟨spec_l03Find.good, spec_l01In.good, spec_AreArticles.good, spec_IsScore.good, spec_l07Has.good, spec_l08Time.good, trivial⟩ 0 false (fn := Try.f78) Try.func78 rfl (by decide) (by simp [spec_IsShow.con]) spec_IsShow.keep NN (fun _ => rfl) (fun x => spec_IsShow.body NN x)
end
end Go.Ev.Try

namespace Go.Ev.Try
open Go.Proofs Go.Pl
set_option linter.unusedVariables false
noncomputable section
def spec_l08Times.st3 (i4 : Int) (x1 : (List (Int × Int)) × (List (ByteArray × Int × Int × Int × Int × Int × Int × Int × Int)) × List (Int × Int × ByteArray × Int)) (out3 : List Int) : St := ⟨[.gone, .ptr 0 [], .gone, .ref 1, .dat (.int .i64) i4, .gone, .gone, .gone, .gone, .gone, .gone, .gone, .gone, .gone, .gone, .gone, .gone, .gone, .gone, .gone, .gone, .gone, .gone, .gone], [.box 62 (.pair (.sl 188 (.pair (.int .i64) (.int .i64))) (.pair (.sl 75 (.pair .str (.pair (.int .i64) (.pair (.int .i64) (.pair (.int .i64) (.pair (.int .i64) (.pair (.int .i64) (.pair (.int .i64) (.pair (.int .i64) (.int .i64)))))))))) (.sl 73 (.pair (.int .i64) (.pair (.int .i64) (.pair .str (.int .i64))))))) (.dat (.pair (.sl 188 (.pair (.int .i64) (.int .i64))) (.pair (.sl 75 (.pair .str (.pair (.int .i64) (.pair (.int .i64) (.pair (.int .i64) (.pair (.int .i64) (.pair (.int .i64) (.pair (.int .i64) (.pair (.int .i64) (.int .i64)))))))))) (.sl 73 (.pair (.int .i64) (.pair (.int .i64) (.pair .str (.int .i64))))))) x1), .row 2 (.int .i64) out3 none]⟩
def spec_l08Times.con : Con := { ps := [(.val, (.pair (.sl 188 (.pair (.int .i64) (.int .i64))) (.pair (.sl 75 (.pair .str (.pair (.int .i64) (.pair (.int .i64) (.pair (.int .i64) (.pair (.int .i64) (.pair (.int .i64) (.pair (.int .i64) (.pair (.int .i64) (.int .i64)))))))))) (.sl 73 (.pair (.int .i64) (.pair (.int .i64) (.pair .str (.int .i64))))))))], rs := [(.own, (.sl 2 (.int .i64)))], F := fun x => spec_l08Times.f x }
def spec_l08Times.cs : List (FuncId × Con) := [(131, spec_l08Time.con)]
def spec_l08Times.E : Env := envOf tab spec_l08Times.cs 0 false
def spec_l08Times.keep (i : Nat) : List Nat := if i = 3 then [1, 3, 4] else []
def spec_l08Times.at3 (n : Nat) (x : (List (Int × Int)) × (List (ByteArray × Int × Int × Int × Int × Int × Int × Int × Int)) × List (Int × Int × ByteArray × Int)) : Code × (Ex → St → Option ((List Int))) := ctx spec_l08Times.E spec_l08Times.keep n [.snd, .snd, .fst, .snd, .blk] (codeOf Try.f79) (kEnd spec_l08Times.E Try.f79 spec_l08Times.con x)
def spec_l08Times.LN3 (n : Nat) (x : (List (Int × Int)) × (List (ByteArray × Int × Int × Int × Int × Int × Int × Int × Int)) × List (Int × Int × ByteArray × Int)) : Nat → St → Option ((List Int)) := loopN (exec spec_l08Times.E spec_l08Times.keep n (bodyOf (spec_l08Times.at3 n x).1)) (St.norm 0 (spec_l08Times.keep 3)) (spec_l08Times.at3 n x).2
set_option maxRecDepth 100000 in
theorem spec_l08Times.lem3 (n : Nat) (x : (List (Int × Int)) × (List (ByteArray × Int × Int × Int × Int × Int × Int × Int × Int)) × List (Int × Int × ByteArray × Int)) : ∀ (k : Nat) (i4 : Int) (x1 : (List (Int × Int)) × (List (ByteArray × Int × Int × Int × Int × Int × Int × Int × Int)) × List (Int × Int × ByteArray × Int)) (out3 : List Int), spec_l08Times.LN3 n x k (spec_l08Times.st3 i4 x1 out3) = spec_l08Times.l3 n k i4 x1 out3 := by
  intro k
  induction k with
  | zero => intro i4 x1 out3; rfl
  | succ k ih =>
    intro i4 x1 out3
    have h : spec_l08Times.LN3 n x (k + 1) (spec_l08Times.st3 i4 x1 out3) = spec_l08Times.g3 (fun i4 x1 out3 => spec_l08Times.LN3 n x k (spec_l08Times.st3 i4 x1 out3)) i4 x1 out3 := by kernel_rfl
    rw [h]
    simp only [ih]
    rfl
set_option maxRecDepth 100000 in
theorem spec_l08Times.body (n : Nat) (x : (List (Int × Int)) × (List (ByteArray × Int × Int × Int × Int × Int × Int × Int × Int)) × List (Int × Int × ByteArray × Int)) : bodyF spec_l08Times.E spec_l08Times.keep n Try.f79 spec_l08Times.con x = spec_l08Times.fn n x := by
  have h : bodyF spec_l08Times.E spec_l08Times.keep n Try.f79 spec_l08Times.con x = spec_l08Times.top (fun i4 x1 out3 => spec_l08Times.LN3 n x n (spec_l08Times.st3 i4 x1 out3)) x := by kernel_rfl
  rw [h]
  simp only [spec_l08Times.lem3]
  rfl
set_option maxRecDepth 100000 in
theorem spec_l08Times.good : Good Try.prog 79 spec_l08Times.con :=
  good_of tabok (cs := spec_l08Times.cs) ⟨spec_l08Time.good, trivial⟩ 0 false (fn := Try.f79) Try.func79 rfl (by decide) (by simp [spec_l08Times.con]) spec_l08Times.keep NN (fun _ => rfl) (fun x => spec_l08Times.body NN x)
end
end Go.Ev.Try

namespace Go.Ev.Try
open Go.Proofs Go.Pl
set_option linter.unusedVariables false
noncomputable section
def spec_FireTimes.con : Con := { ps := [(.val, (.pair (.sl 188 (.pair (.int .i64) (.int .i64))) (.pair (.sl 75 (.pair .str (.pair (.int .i64) (.pair (.int .i64) (.pair (.int .i64) (.pair (.int .i64) (.pair (.int .i64) (.pair (.int .i64) (.pair (.int .i64) (.int .i64)))))))))) (.sl 73 (.pair (.int .i64) (.pair (.int .i64) (.pair .str (.int .i64))))))))], rs := [(.own, (.sl 2 (.int .i64))), (.own, (.int .i64))], F := fun x => spec_FireTimes.f x }
def spec_FireTimes.cs : List (FuncId × Con) := [(78, spec_IsShow.con), (79, spec_l08Times.con)]
def spec_FireTimes.E : Env := envOf tab spec_FireTimes.cs 0 false
def spec_FireTimes.keep (i : Nat) : List Nat := []
set_option maxRecDepth 100000 in
theorem spec_FireTimes.body (n : Nat) (x : (List (Int × Int)) × (List (ByteArray × Int × Int × Int × Int × Int × Int × Int × Int)) × List (Int × Int × ByteArray × Int)) : bodyF spec_FireTimes.E spec_FireTimes.keep n Try.f26 spec_FireTimes.con x = spec_FireTimes.fn n x := by
  have h : bodyF spec_FireTimes.E spec_FireTimes.keep n Try.f26 spec_FireTimes.con x = spec_FireTimes.top x := by kernel_rfl
  exact h
set_option maxRecDepth 100000 in
theorem spec_FireTimes.good : Good Try.prog 26 spec_FireTimes.con :=
  good_of tabok (cs := spec_FireTimes.cs) ⟨spec_IsShow.good, spec_l08Times.good, trivial⟩ 0 false (fn := Try.f26) Try.func26 rfl (by decide) (by simp [spec_FireTimes.con]) spec_FireTimes.keep NN (fun _ => rfl) (fun x => spec_FireTimes.body NN x)
end
end Go.Ev.Try

namespace Go.Ev.Try
open Go.Proofs Go.Pl
set_option linter.unusedVariables false
noncomputable section
def laws_likeInts.st4 (a0 : List Int) (b1 : List Int) (i5 : Int) : St := ⟨[.dat (.sl 2 (.int .i64)) a0, .dat (.sl 2 (.int .i64)) b1, .gone, .gone, .gone, .dat (.int .i64) i5, .gone, .gone, .gone, .gone, .gone, .gone, .gone, .gone, .gone, .gone, .gone, .gone, .gone, .gone, .gone, .gone, .gone, .gone, .gone, .gone], []⟩
def laws_likeInts.con : Con := { ps := [(.val, (.sl 2 (.int .i64))), (.val, (.sl 2 (.int .i64)))], rs := [(.val, .bool)], F := fun x => laws_likeInts.f x.1 x.2 }
def laws_likeInts.cs : List (FuncId × Con) := []
def laws_likeInts.E : Env := envOf tab laws_likeInts.cs 0 false
def laws_likeInts.keep (i : Nat) : List Nat := if i = 4 then [0, 1, 5] else []
def laws_likeInts.at4 (n : Nat) (x : List Int × List Int) : Code × (Ex → St → Option (Bool)) := ctx laws_likeInts.E laws_likeInts.keep n [.snd, .snd, .fst, .snd, .blk] (codeOf Try.f27) (kEnd laws_likeInts.E Try.f27 laws_likeInts.con x)
def laws_likeInts.LN4 (n : Nat) (x : List Int × List Int) : Nat → St → Option (Bool) := loopN (exec laws_likeInts.E laws_likeInts.keep n (bodyOf (laws_likeInts.at4 n x).1)) (St.norm 0 (laws_likeInts.keep 4)) (laws_likeInts.at4 n x).2
set_option maxRecDepth 100000 in
theorem laws_likeInts.lem4 (n : Nat) (x : List Int × List Int) : ∀ (k : Nat) (a0 : List Int) (b1 : List Int) (i5 : Int), laws_likeInts.LN4 n x k (laws_likeInts.st4 a0 b1 i5) = laws_likeInts.l4 n k a0 b1 i5 := by
  intro k
  induction k with
  | zero => intro a0 b1 i5; rfl
  | succ k ih =>
    intro a0 b1 i5
    have h : laws_likeInts.LN4 n x (k + 1) (laws_likeInts.st4 a0 b1 i5) = laws_likeInts.g4 (fun a0 b1 i5 => laws_likeInts.LN4 n x k (laws_likeInts.st4 a0 b1 i5)) a0 b1 i5 := by kernel_rfl
    rw [h]
    simp only [ih]
    rfl
set_option maxRecDepth 100000 in
theorem laws_likeInts.body (n : Nat) (x : List Int × List Int) : bodyF laws_likeInts.E laws_likeInts.keep n Try.f27 laws_likeInts.con x = laws_likeInts.fn n x.1 x.2 := by
  have h : bodyF laws_likeInts.E laws_likeInts.keep n Try.f27 laws_likeInts.con x = laws_likeInts.top (fun a0 b1 i5 => laws_likeInts.LN4 n x n (laws_likeInts.st4 a0 b1 i5)) x.1 x.2 := by kernel_rfl
  rw [h]
  simp only [laws_likeInts.lem4]
  rfl
set_option maxRecDepth 100000 in
theorem laws_likeInts.good : Good Try.prog 27 laws_likeInts.con :=
  good_of tabok (cs := laws_likeInts.cs) trivial 0 false (fn := Try.f27) Try.func27 rfl (by decide) (by simp [laws_likeInts.con]) laws_likeInts.keep NN (fun _ => rfl) (fun x => laws_likeInts.body NN x)
end
end Go.Ev.Try

namespace Go.Ev.Try
open Go.Proofs Go.Pl
set_option linter.unusedVariables false
noncomputable section
def impl_isTime.con : Con := { ps := [(.val, (.int .i64))], rs := [(.val, .bool)], F := fun x => impl_isTime.f x }
def impl_isTime.cs : List (FuncId × Con) := [(113, impl_within.con)]
def impl_isTime.E : Env := envOf tab impl_isTime.cs 0 false
def impl_isTime.keep (i : Nat) : List Nat := []
set_option maxRecDepth 100000 in
theorem impl_isTime.body (n : Nat) (x : Int) : bodyF impl_isTime.E impl_isTime.keep n Try.f112 impl_isTime.con x = impl_isTime.fn n x := by
  have h : bodyF impl_isTime.E impl_isTime.keep n Try.f112 impl_isTime.con x = impl_isTime.top x := by kernel_rfl
  exact h
set_option maxRecDepth 100000 in
theorem impl_isTime.good : Good Try.prog 112 impl_isTime.con :=
  good_of tabok (cs := impl_isTime.cs) ⟨impl_within.good, trivial⟩ 0 false (fn := Try.f112) Try.func112 rfl (by decide) (by simp [impl_isTime.con]) impl_isTime.keep NN (fun _ => rfl) (fun x => impl_isTime.body NN x)
end
end Go.Ev.Try

namespace Go.Ev.Try
open Go.Proofs Go.Pl
set_option linter.unusedVariables false
noncomputable section
def impl_peopleIn.st3 (zone1 : ByteArray) (t2 : Int) (sum7 : Int) (v10 : List (Int × ByteArray × Int)) (v11 : Int) (v12 : Int) : St := ⟨[.gone, .dat .str zone1, .dat (.int .i64) t2, .gone, .gone, .gone, .gone, .dat (.int .i64) sum7, .gone, .gone, .dat (.sl 148 (.pair (.int .i64) (.pair .str (.int .i64)))) v10, .dat (.int .i64) v11, .dat (.int .i64) v12, .gone, .gone, .gone, .gone, .gone, .gone, .gone, .gone, .gone, .gone, .gone, .gone, .gone, .gone, .gone, .gone, .gone, .gone, .gone], []⟩
def impl_peopleIn.con : Con := { ps := [(.val, (.sl 148 (.pair (.int .i64) (.pair .str (.int .i64))))), (.val, .str), (.val, (.int .i64))], rs := [(.val, (.int .i64))], F := fun x => impl_peopleIn.f x.1 x.2.1 x.2.2 }
def impl_peopleIn.cs : List (FuncId × Con) := []
def impl_peopleIn.E : Env := envOf tab impl_peopleIn.cs 0 false
def impl_peopleIn.keep (i : Nat) : List Nat := if i = 3 then [1, 2, 7, 10, 11, 12] else []
def impl_peopleIn.at3 (n : Nat) (x : (List (Int × ByteArray × Int)) × ByteArray × Int) : Code × (Ex → St → Option (Int)) := ctx impl_peopleIn.E impl_peopleIn.keep n [.snd, .snd, .fst, .snd, .blk] (codeOf Try.f114) (kEnd impl_peopleIn.E Try.f114 impl_peopleIn.con x)
def impl_peopleIn.LN3 (n : Nat) (x : (List (Int × ByteArray × Int)) × ByteArray × Int) : Nat → St → Option (Int) := loopN (exec impl_peopleIn.E impl_peopleIn.keep n (bodyOf (impl_peopleIn.at3 n x).1)) (St.norm 0 (impl_peopleIn.keep 3)) (impl_peopleIn.at3 n x).2
set_option maxRecDepth 100000 in
theorem impl_peopleIn.lem3 (n : Nat) (x : (List (Int × ByteArray × Int)) × ByteArray × Int) : ∀ (k : Nat) (zone1 : ByteArray) (t2 : Int) (sum7 : Int) (v10 : List (Int × ByteArray × Int)) (v11 : Int) (v12 : Int), impl_peopleIn.LN3 n x k (impl_peopleIn.st3 zone1 t2 sum7 v10 v11 v12) = impl_peopleIn.l3 n k zone1 t2 sum7 v10 v11 v12 := by
  intro k
  induction k with
  | zero => intro zone1 t2 sum7 v10 v11 v12; rfl
  | succ k ih =>
    intro zone1 t2 sum7 v10 v11 v12
    have h : impl_peopleIn.LN3 n x (k + 1) (impl_peopleIn.st3 zone1 t2 sum7 v10 v11 v12) = impl_peopleIn.g3 (fun zone1 t2 sum7 v10 v11 v12 => impl_peopleIn.LN3 n x k (impl_peopleIn.st3 zone1 t2 sum7 v10 v11 v12)) zone1 t2 sum7 v10 v11 v12 := by kernel_rfl
    rw [h]
    simp only [ih]
    rfl
set_option maxRecDepth 100000 in
theorem impl_peopleIn.body (n : Nat) (x : (List (Int × ByteArray × Int)) × ByteArray × Int) : bodyF impl_peopleIn.E impl_peopleIn.keep n Try.f114 impl_peopleIn.con x = impl_peopleIn.fn n x.1 x.2.1 x.2.2 := by
  have h : bodyF impl_peopleIn.E impl_peopleIn.keep n Try.f114 impl_peopleIn.con x = impl_peopleIn.top (fun zone1 t2 sum7 v10 v11 v12 => impl_peopleIn.LN3 n x n (impl_peopleIn.st3 zone1 t2 sum7 v10 v11 v12)) x.1 x.2.1 x.2.2 := by kernel_rfl
  rw [h]
  simp only [impl_peopleIn.lem3]
  rfl
set_option maxRecDepth 100000 in
theorem impl_peopleIn.good : Good Try.prog 114 impl_peopleIn.con :=
  good_of tabok (cs := impl_peopleIn.cs) trivial 0 false (fn := Try.f114) Try.func114 rfl (by decide) (by simp [impl_peopleIn.con]) impl_peopleIn.keep NN (fun _ => rfl) (fun x => impl_peopleIn.body NN x)
end
end Go.Ev.Try

namespace Go.Ev.Try
open Go.Proofs Go.Pl
set_option linter.unusedVariables false
noncomputable section
def impl_AreMoves.st4 (list0 : List (Int × ByteArray × Int)) (v8 : List (Int × ByteArray × Int)) (v9 : Int) (v10 : Int) : St := ⟨[.dat (.sl 148 (.pair (.int .i64) (.pair .str (.int .i64)))) list0, .gone, .gone, .gone, .gone, .gone, .gone, .gone, .dat (.sl 148 (.pair (.int .i64) (.pair .str (.int .i64)))) v8, .dat (.int .i64) v9, .dat (.int .i64) v10, .gone, .gone, .gone, .gone, .gone, .gone, .gone, .gone, .gone, .gone, .gone, .gone, .gone, .gone, .gone, .gone, .gone, .gone, .gone, .gone, .gone, .gone, .gone, .gone, .gone, .gone, .gone, .gone, .gone, .gone, .gone, .gone, .gone, .gone, .gone, .gone, .gone, .gone, .gone, .gone, .gone, .gone, .gone, .gone, .gone, .gone, .gone, .gone, .gone, .gone, .gone], []⟩
def impl_AreMoves.con : Con := { ps := [(.val, (.sl 148 (.pair (.int .i64) (.pair .str (.int .i64)))))], rs := [(.val, .bool)], F := fun x => impl_AreMoves.f x }
def impl_AreMoves.cs : List (FuncId × Con) := [(87, impl_IsWord.con), (112, impl_isTime.con), (113, impl_within.con), (114, impl_peopleIn.con)]
def impl_AreMoves.E : Env := envOf tab impl_AreMoves.cs 0 false
def impl_AreMoves.keep (i : Nat) : List Nat := if i = 4 then [0, 8, 9, 10] else []
def impl_AreMoves.at4 (n : Nat) (x : List (Int × ByteArray × Int)) : Code × (Ex → St → Option (Bool)) := ctx impl_AreMoves.E impl_AreMoves.keep n [.snd, .snd, .fst, .snd, .blk] (codeOf Try.f54) (kEnd impl_AreMoves.E Try.f54 impl_AreMoves.con x)
def impl_AreMoves.LN4 (n : Nat) (x : List (Int × ByteArray × Int)) : Nat → St → Option (Bool) := loopN (exec impl_AreMoves.E impl_AreMoves.keep n (bodyOf (impl_AreMoves.at4 n x).1)) (St.norm 0 (impl_AreMoves.keep 4)) (impl_AreMoves.at4 n x).2
set_option maxRecDepth 100000 in
theorem impl_AreMoves.lem4 (n : Nat) (x : List (Int × ByteArray × Int)) : ∀ (k : Nat) (list0 : List (Int × ByteArray × Int)) (v8 : List (Int × ByteArray × Int)) (v9 : Int) (v10 : Int), impl_AreMoves.LN4 n x k (impl_AreMoves.st4 list0 v8 v9 v10) = impl_AreMoves.l4 n k list0 v8 v9 v10 := by
  intro k
  induction k with
  | zero => intro list0 v8 v9 v10; rfl
  | succ k ih =>
    intro list0 v8 v9 v10
    have h : impl_AreMoves.LN4 n x (k + 1) (impl_AreMoves.st4 list0 v8 v9 v10) = impl_AreMoves.g4 (fun list0 v8 v9 v10 => impl_AreMoves.LN4 n x k (impl_AreMoves.st4 list0 v8 v9 v10)) list0 v8 v9 v10 := by kernel_rfl
    rw [h]
    simp only [ih]
    rfl
set_option maxRecDepth 100000 in
theorem impl_AreMoves.body (n : Nat) (x : List (Int × ByteArray × Int)) : bodyF impl_AreMoves.E impl_AreMoves.keep n Try.f54 impl_AreMoves.con x = impl_AreMoves.fn n x := by
  have h : bodyF impl_AreMoves.E impl_AreMoves.keep n Try.f54 impl_AreMoves.con x = impl_AreMoves.top (fun list0 v8 v9 v10 => impl_AreMoves.LN4 n x n (impl_AreMoves.st4 list0 v8 v9 v10)) x := by kernel_rfl
  rw [h]
  simp only [impl_AreMoves.lem4]
  rfl
set_option maxRecDepth 100000 in
theorem impl_AreMoves.good : Good Try.prog 54 impl_AreMoves.con :=
  good_of tabok (cs := impl_AreMoves.cs) ⟨impl_IsWord.good, impl_isTime.good, impl_within.good, impl_peopleIn.good, trivial⟩ 0 false (fn := Try.f54) Try.func54 rfl (by decide) (by simp [impl_AreMoves.con]) impl_AreMoves.keep NN (fun _ => rfl) (fun x => impl_AreMoves.body NN x)
end
end Go.Ev.Try

namespace Go.Ev.Try
open Go.Proofs Go.Pl
set_option linter.unusedVariables false
noncomputable section
def impl_isTick.con : Con := { ps := [(.val, (.int .i64))], rs := [(.val, .bool)], F := fun x => impl_isTick.f x }
def impl_isTick.cs : List (FuncId × Con) := [(113, impl_within.con)]
def impl_isTick.E : Env := envOf tab impl_isTick.cs 0 false
def impl_isTick.keep (i : Nat) : List Nat := []
set_option maxRecDepth 100000 in
theorem impl_isTick.body (n : Nat) (x : Int) : bodyF impl_isTick.E impl_isTick.keep n Try.f115 impl_isTick.con x = impl_isTick.fn n x := by
  have h : bodyF impl_isTick.E impl_isTick.keep n Try.f115 impl_isTick.con x = impl_isTick.top x := by kernel_rfl
  exact h
set_option maxRecDepth 100000 in
theorem impl_isTick.good : Good Try.prog 115 impl_isTick.con :=
  good_of tabok (cs := impl_isTick.cs) ⟨impl_within.good, trivial⟩ 0 false (fn := Try.f115) Try.func115 rfl (by decide) (by simp [impl_isTick.con]) impl_isTick.keep NN (fun _ => rfl) (fun x => impl_isTick.body NN x)
end
end Go.Ev.Try

namespace Go.Ev.Try
open Go.Proofs Go.Pl
set_option linter.unusedVariables false
noncomputable section
def impl_AreSignals.st4 (list0 : List (Int × Int)) (v8 : List (Int × Int)) (v9 : Int) (v10 : Int) : St := ⟨[.dat (.sl 153 (.pair (.int .i64) (.int .i64))) list0, .gone, .gone, .gone, .gone, .gone, .gone, .gone, .dat (.sl 153 (.pair (.int .i64) (.int .i64))) v8, .dat (.int .i64) v9, .dat (.int .i64) v10, .gone, .gone, .gone, .gone, .gone, .gone, .gone, .gone, .gone, .gone, .gone, .gone, .gone, .gone, .gone, .gone, .gone, .gone, .gone, .gone, .gone, .gone, .gone, .gone, .gone, .gone, .gone, .gone, .gone, .gone, .gone, .gone, .gone, .gone, .gone], []⟩
def impl_AreSignals.con : Con := { ps := [(.val, (.sl 153 (.pair (.int .i64) (.int .i64))))], rs := [(.val, .bool)], F := fun x => impl_AreSignals.f x }
def impl_AreSignals.cs : List (FuncId × Con) := [(113, impl_within.con), (115, impl_isTick.con)]
def impl_AreSignals.E : Env := envOf tab impl_AreSignals.cs 0 false
def impl_AreSignals.keep (i : Nat) : List Nat := if i = 4 then [0, 8, 9, 10] else []
def impl_AreSignals.at4 (n : Nat) (x : List (Int × Int)) : Code × (Ex → St → Option (Bool)) := ctx impl_AreSignals.E impl_AreSignals.keep n [.snd, .snd, .fst, .snd, .blk] (codeOf Try.f55) (kEnd impl_AreSignals.E Try.f55 impl_AreSignals.con x)
def impl_AreSignals.LN4 (n : Nat) (x : List (Int × Int)) : Nat → St → Option (Bool) := loopN (exec impl_AreSignals.E impl_AreSignals.keep n (bodyOf (impl_AreSignals.at4 n x).1)) (St.norm 0 (impl_AreSignals.keep 4)) (impl_AreSignals.at4 n x).2
set_option maxRecDepth 100000 in
theorem impl_AreSignals.lem4 (n : Nat) (x : List (Int × Int)) : ∀ (k : Nat) (list0 : List (Int × Int)) (v8 : List (Int × Int)) (v9 : Int) (v10 : Int), impl_AreSignals.LN4 n x k (impl_AreSignals.st4 list0 v8 v9 v10) = impl_AreSignals.l4 n k list0 v8 v9 v10 := by
  intro k
  induction k with
  | zero => intro list0 v8 v9 v10; rfl
  | succ k ih =>
    intro list0 v8 v9 v10
    have h : impl_AreSignals.LN4 n x (k + 1) (impl_AreSignals.st4 list0 v8 v9 v10) = impl_AreSignals.g4 (fun list0 v8 v9 v10 => impl_AreSignals.LN4 n x k (impl_AreSignals.st4 list0 v8 v9 v10)) list0 v8 v9 v10 := by kernel_rfl
    rw [h]
    simp only [ih]
    rfl
set_option maxRecDepth 100000 in
theorem impl_AreSignals.body (n : Nat) (x : List (Int × Int)) : bodyF impl_AreSignals.E impl_AreSignals.keep n Try.f55 impl_AreSignals.con x = impl_AreSignals.fn n x := by
  have h : bodyF impl_AreSignals.E impl_AreSignals.keep n Try.f55 impl_AreSignals.con x = impl_AreSignals.top (fun list0 v8 v9 v10 => impl_AreSignals.LN4 n x n (impl_AreSignals.st4 list0 v8 v9 v10)) x := by kernel_rfl
  rw [h]
  simp only [impl_AreSignals.lem4]
  rfl
set_option maxRecDepth 100000 in
theorem impl_AreSignals.good : Good Try.prog 55 impl_AreSignals.con :=
  good_of tabok (cs := impl_AreSignals.cs) ⟨impl_within.good, impl_isTick.good, trivial⟩ 0 false (fn := Try.f55) Try.func55 rfl (by decide) (by simp [impl_AreSignals.con]) impl_AreSignals.keep NN (fun _ => rfl) (fun x => impl_AreSignals.body NN x)
end
end Go.Ev.Try

namespace Go.Ev.Try
open Go.Proofs Go.Pl
set_option linter.unusedVariables false
noncomputable section
def impl_allWithin.st2 (low1 : Int) (high2 : Int) (v9 : List Int) (v10 : Int) (v11 : Int) : St := ⟨[.gone, .dat (.int .i64) low1, .dat (.int .i64) high2, .gone, .gone, .gone, .gone, .gone, .gone, .dat (.sl 2 (.int .i64)) v9, .dat (.int .i64) v10, .dat (.int .i64) v11, .gone, .gone, .gone, .gone, .gone, .gone, .gone, .gone, .gone], []⟩
def impl_allWithin.con : Con := { ps := [(.val, (.sl 2 (.int .i64))), (.val, (.int .i64)), (.val, (.int .i64))], rs := [(.val, .bool)], F := fun x => impl_allWithin.f x.1 x.2.1 x.2.2 }
def impl_allWithin.cs : List (FuncId × Con) := [(113, impl_within.con)]
def impl_allWithin.E : Env := envOf tab impl_allWithin.cs 0 false
def impl_allWithin.keep (i : Nat) : List Nat := if i = 2 then [1, 2, 9, 10, 11] else []
def impl_allWithin.at2 (n : Nat) (x : List Int × Int × Int) : Code × (Ex → St → Option (Bool)) := ctx impl_allWithin.E impl_allWithin.keep n [.snd, .fst, .snd, .blk] (codeOf Try.f159) (kEnd impl_allWithin.E Try.f159 impl_allWithin.con x)
def impl_allWithin.LN2 (n : Nat) (x : List Int × Int × Int) : Nat → St → Option (Bool) := loopN (exec impl_allWithin.E impl_allWithin.keep n (bodyOf (impl_allWithin.at2 n x).1)) (St.norm 0 (impl_allWithin.keep 2)) (impl_allWithin.at2 n x).2
set_option maxRecDepth 100000 in
theorem impl_allWithin.lem2 (n : Nat) (x : List Int × Int × Int) : ∀ (k : Nat) (low1 : Int) (high2 : Int) (v9 : List Int) (v10 : Int) (v11 : Int), impl_allWithin.LN2 n x k (impl_allWithin.st2 low1 high2 v9 v10 v11) = impl_allWithin.l2 n k low1 high2 v9 v10 v11 := by
  intro k
  induction k with
  | zero => intro low1 high2 v9 v10 v11; rfl
  | succ k ih =>
    intro low1 high2 v9 v10 v11
    have h : impl_allWithin.LN2 n x (k + 1) (impl_allWithin.st2 low1 high2 v9 v10 v11) = impl_allWithin.g2 (fun low1 high2 v9 v10 v11 => impl_allWithin.LN2 n x k (impl_allWithin.st2 low1 high2 v9 v10 v11)) low1 high2 v9 v10 v11 := by kernel_rfl
    rw [h]
    simp only [ih]
    rfl
set_option maxRecDepth 100000 in
theorem impl_allWithin.body (n : Nat) (x : List Int × Int × Int) : bodyF impl_allWithin.E impl_allWithin.keep n Try.f159 impl_allWithin.con x = impl_allWithin.fn n x.1 x.2.1 x.2.2 := by
  have h : bodyF impl_allWithin.E impl_allWithin.keep n Try.f159 impl_allWithin.con x = impl_allWithin.top (fun low1 high2 v9 v10 v11 => impl_allWithin.LN2 n x n (impl_allWithin.st2 low1 high2 v9 v10 v11)) x.1 x.2.1 x.2.2 := by kernel_rfl
  rw [h]
  simp only [impl_allWithin.lem2]
  rfl
set_option maxRecDepth 100000 in
theorem impl_allWithin.good : Good Try.prog 159 impl_allWithin.con :=
  good_of tabok (cs := impl_allWithin.cs) ⟨impl_within.good, trivial⟩ 0 false (fn := Try.f159) Try.func159 rfl (by decide) (by simp [impl_allWithin.con]) impl_allWithin.keep NN (fun _ => rfl) (fun x => impl_allWithin.body NN x)
end
end Go.Ev.Try

namespace Go.Ev.Try
open Go.Proofs Go.Pl
set_option linter.unusedVariables false
noncomputable section
def impl_areCueTimes.con : Con := { ps := [(.val, (.sl 2 (.int .i64)))], rs := [(.val, .bool)], F := fun x => impl_areCueTimes.f x }
def impl_areCueTimes.cs : List (FuncId × Con) := [(159, impl_allWithin.con)]
def impl_areCueTimes.E : Env := envOf tab impl_areCueTimes.cs 0 false
def impl_areCueTimes.keep (i : Nat) : List Nat := []
set_option maxRecDepth 100000 in
theorem impl_areCueTimes.body (n : Nat) (x : List Int) : bodyF impl_areCueTimes.E impl_areCueTimes.keep n Try.f132 impl_areCueTimes.con x = impl_areCueTimes.fn n x := by
  have h : bodyF impl_areCueTimes.E impl_areCueTimes.keep n Try.f132 impl_areCueTimes.con x = impl_areCueTimes.top x := by kernel_rfl
  exact h
set_option maxRecDepth 100000 in
theorem impl_areCueTimes.good : Good Try.prog 132 impl_areCueTimes.con :=
  good_of tabok (cs := impl_areCueTimes.cs) ⟨impl_allWithin.good, trivial⟩ 0 false (fn := Try.f132) Try.func132 rfl (by decide) (by simp [impl_areCueTimes.con]) impl_areCueTimes.keep NN (fun _ => rfl) (fun x => impl_areCueTimes.body NN x)
end
end Go.Ev.Try

namespace Go.Ev.Try
open Go.Proofs Go.Pl
set_option linter.unusedVariables false
noncomputable section
def impl_areZones.st4 (v8 : List ByteArray) (v9 : Int) (v10 : Int) : St := ⟨[.gone, .gone, .gone, .gone, .gone, .gone, .gone, .gone, .dat (.sl 9 .str) v8, .dat (.int .i64) v9, .dat (.int .i64) v10, .gone, .gone, .gone, .gone, .gone, .gone, .gone], []⟩
def impl_areZones.con : Con := { ps := [(.val, (.sl 9 .str))], rs := [(.val, .bool)], F := fun x => impl_areZones.f x }
def impl_areZones.cs : List (FuncId × Con) := [(87, impl_IsWord.con)]
def impl_areZones.E : Env := envOf tab impl_areZones.cs 0 false
def impl_areZones.keep (i : Nat) : List Nat := if i = 4 then [8, 9, 10] else []
def impl_areZones.at4 (n : Nat) (x : List ByteArray) : Code × (Ex → St → Option (Bool)) := ctx impl_areZones.E impl_areZones.keep n [.snd, .snd, .fst, .snd, .blk] (codeOf Try.f133) (kEnd impl_areZones.E Try.f133 impl_areZones.con x)
def impl_areZones.LN4 (n : Nat) (x : List ByteArray) : Nat → St → Option (Bool) := loopN (exec impl_areZones.E impl_areZones.keep n (bodyOf (impl_areZones.at4 n x).1)) (St.norm 0 (impl_areZones.keep 4)) (impl_areZones.at4 n x).2
set_option maxRecDepth 100000 in
theorem impl_areZones.lem4 (n : Nat) (x : List ByteArray) : ∀ (k : Nat) (v8 : List ByteArray) (v9 : Int) (v10 : Int), impl_areZones.LN4 n x k (impl_areZones.st4 v8 v9 v10) = impl_areZones.l4 n k v8 v9 v10 := by
  intro k
  induction k with
  | zero => intro v8 v9 v10; rfl
  | succ k ih =>
    intro v8 v9 v10
    have h : impl_areZones.LN4 n x (k + 1) (impl_areZones.st4 v8 v9 v10) = impl_areZones.g4 (fun v8 v9 v10 => impl_areZones.LN4 n x k (impl_areZones.st4 v8 v9 v10)) v8 v9 v10 := by kernel_rfl
    rw [h]
    simp only [ih]
    rfl
set_option maxRecDepth 100000 in
theorem impl_areZones.body (n : Nat) (x : List ByteArray) : bodyF impl_areZones.E impl_areZones.keep n Try.f133 impl_areZones.con x = impl_areZones.fn n x := by
  have h : bodyF impl_areZones.E impl_areZones.keep n Try.f133 impl_areZones.con x = impl_areZones.top (fun v8 v9 v10 => impl_areZones.LN4 n x n (impl_areZones.st4 v8 v9 v10)) x := by kernel_rfl
  rw [h]
  simp only [impl_areZones.lem4]
  rfl
set_option maxRecDepth 100000 in
theorem impl_areZones.good : Good Try.prog 133 impl_areZones.con :=
  good_of tabok (cs := impl_areZones.cs) ⟨impl_IsWord.good, trivial⟩ 0 false (fn := Try.f133) Try.func133 rfl (by decide) (by simp [impl_areZones.con]) impl_areZones.keep NN (fun _ => rfl) (fun x => impl_areZones.body NN x)
end
end Go.Ev.Try

namespace Go.Ev.Try
open Go.Proofs Go.Pl
set_option linter.unusedVariables false
noncomputable section
def impl_areFired.con : Con := { ps := [(.val, (.sl 2 (.int .i64))), (.val, (.sl 153 (.pair (.int .i64) (.int .i64)))), (.val, (.sl 148 (.pair (.int .i64) (.pair .str (.int .i64))))), (.val, (.sl 9 .str))], rs := [(.val, .bool)], F := fun x => impl_areFired.f x.1 x.2.1 x.2.2.1 x.2.2.2 }
def impl_areFired.cs : List (FuncId × Con) := [(54, impl_AreMoves.con), (55, impl_AreSignals.con), (132, impl_areCueTimes.con), (133, impl_areZones.con)]
def impl_areFired.E : Env := envOf tab impl_areFired.cs 0 false
def impl_areFired.keep (i : Nat) : List Nat := []
set_option maxRecDepth 100000 in
theorem impl_areFired.body (n : Nat) (x : List Int × (List (Int × Int)) × (List (Int × ByteArray × Int)) × List ByteArray) : bodyF impl_areFired.E impl_areFired.keep n Try.f80 impl_areFired.con x = impl_areFired.fn n x.1 x.2.1 x.2.2.1 x.2.2.2 := by
  have h : bodyF impl_areFired.E impl_areFired.keep n Try.f80 impl_areFired.con x = impl_areFired.top x.1 x.2.1 x.2.2.1 x.2.2.2 := by kernel_rfl
  exact h
set_option maxRecDepth 100000 in
theorem impl_areFired.good : Good Try.prog 80 impl_areFired.con :=
  good_of tabok (cs := impl_areFired.cs) ⟨impl_AreMoves.good, impl_AreSignals.good, impl_areCueTimes.good, impl_areZones.good, trivial⟩ 0 false (fn := Try.f80) Try.func80 rfl (by decide) (by simp [impl_areFired.con]) impl_areFired.keep NN (fun _ => rfl) (fun x => impl_areFired.body NN x)
end
end Go.Ev.Try

/- Words for the plain laws. -/
namespace Go.Pl
open Go.Ev
set_option linter.unusedVariables false

theorem wf64 {n : Int} : (Lit.int .i64 n).wf = true ↔ (-9223372036854775808 ≤ n ∧ n ≤ 9223372036854775807) := by
  simp only [Lit.wf, Bool.and_eq_true, decide_eq_true_eq]
  have e1 : IntKind.i64.min = -9223372036854775808 := by decide
  have e2 : IntKind.i64.max = 9223372036854775807 := by decide
  omega
theorem wf8 {n : Int} : (Lit.int .u8 n).wf = true ↔ (0 ≤ n ∧ n ≤ 255) := by
  simp only [Lit.wf, Bool.and_eq_true, decide_eq_true_eq]
  have e1 : IntKind.u8.min = 0 := by decide
  have e2 : IntKind.u8.max = 255 := by decide
  omega
theorem w8 {n : Int} (h1 : 0 ≤ n) (h2 : n < 256) : IntKind.u8.wrap n = n := by
  simp only [IntKind.wrap, IntKind.bits, IntKind.signed]
  simp
  omega
theorem w8_range (n : Int) : 0 ≤ IntKind.u8.wrap n ∧ IntKind.u8.wrap n < 256 := by
  simp only [IntKind.wrap, IntKind.bits, IntKind.signed]
  simp
  omega

/-! Rows, taken apart where a loop stands. -/
theorem mid_get {α : Type} (p r : List α) (x z : α) : (p ++ x :: r).getD (p.length : Int).toNat z = x := by simp
theorem mid_set {α : Type} (p r : List α) (x y : α) : (p ++ x :: r).set (p.length : Int).toNat y = p ++ y :: r := by simp
theorem mid_getn {α : Type} (p r : List α) (x z : α) : (p ++ x :: r).getD p.length z = x := by simp
theorem mid_setn {α : Type} (p r : List α) (x y : α) : (p ++ x :: r).set p.length y = p ++ y :: r := by simp
theorem mid_len {α : Type} (p r : List α) (x : α) : ((p ++ x :: r).length : Int) = (p.length : Int) + r.length + 1 := by simp; omega
theorem mid_nil {α : Type} (p : List α) : p ++ [] = p := by simp
theorem mid_snoc {α : Type} (p r : List α) (x : α) : (p ++ [x]) ++ r = p ++ x :: r := by simp
theorem snoc_len {α : Type} (p : List α) (x : α) : ((p ++ [x]).length : Int) = (p.length : Int) + 1 := by simp
/-- A loop over a row: l stands for its rounds, f for what it comes to. -/
theorem loop_mid {α ρ σ : Type} {B : Nat} (l : Nat → List α → Int → σ → Option ρ) (f : List α → List α → σ → Option ρ)
    (hnil : ∀ k pre st, pre.length ≤ B → l (k + 1) pre (pre.length : Int) st = f pre [] st)
    (hcons : ∀ k pre a r st, pre.length + r.length + 1 ≤ B → (∀ st', l k (pre ++ a :: r) ((pre.length : Int) + 1) st' = f (pre ++ [a]) r st') → l (k + 1) (pre ++ a :: r) (pre.length : Int) st = f pre (a :: r) st) :
    ∀ r pre k st, pre.length + r.length ≤ B → r.length < k → l k (pre ++ r) (pre.length : Int) st = f pre r st := by
  intro r
  induction r with
  | nil =>
    intro pre k st h1 h2
    obtain ⟨k, rfl⟩ : ∃ j, k = j + 1 := ⟨k - 1, by omega⟩
    rw [List.append_nil]
    exact hnil k pre st (by simpa using h1)
  | cons a r ih =>
    intro pre k st h1 h2
    simp only [List.length_cons] at h1 h2
    obtain ⟨k, rfl⟩ : ∃ j, k = j + 1 := ⟨k - 1, by omega⟩
    refine hcons k pre a r st (by omega) fun st' => ?_
    have := ih (pre ++ [a]) k st' (by simp; omega) (by omega)
    rw [mid_snoc, snoc_len] at this
    exact this
/-- The same, where the row itself is written. -/
theorem loop_mid0 {α ρ σ : Type} {B : Nat} (l : Nat → List α → Int → σ → Option ρ) (f : List α → List α → σ → Option ρ)
    (hnil : ∀ k pre st, pre.length ≤ B → l (k + 1) pre (pre.length : Int) st = f pre [] st)
    (hcons : ∀ k pre a r st, pre.length + r.length + 1 ≤ B → (∀ st', l k (pre ++ a :: r) ((pre.length : Int) + 1) st' = f (pre ++ [a]) r st') → l (k + 1) (pre ++ a :: r) (pre.length : Int) st = f pre (a :: r) st)
    (xs : List α) (k : Nat) (st : σ) (h1 : xs.length ≤ B) (h2 : xs.length < k) : l k xs 0 st = f [] xs st := by
  have := loop_mid l f hnil hcons xs [] k st (by simpa using h1) h2
  simpa using this
/-- A loop by a measure. -/
theorem loop_by {ρ σ : Type} (l : Nat → σ → Option ρ) (μ : σ → Nat) (Q : σ → Option ρ → Prop)
    (h : ∀ k st, (∀ st', μ st' < μ st → Q st' (l k st')) → Q st (l (k + 1) st)) : ∀ k st, μ st < k → Q st (l k st) := by
  intro k
  induction k with
  | zero => intro st h; omega
  | succ k ih => intro st hk; exact h k st fun st' h' => ih st' (by omega)

/-! Bytes. -/
theorem ba_toList {a b : ByteArray} : a.toList = b.toList ↔ a = b := by
  rw [ByteArray.toList_eq, ByteArray.toList_eq]
  exact ⟨fun h => ByteArray.ext (Array.toList_inj.mp h), fun h => by rw [h]⟩
theorem ba_beq (a b : ByteArray) : (a.toList == b.toList) = decide (a = b) := by
  by_cases h : a = b
  · subst h; simp
  · rw [decide_eq_false h, beq_eq_false_iff_ne]; exact fun e => h (ba_toList.1 e)
def bl (s : ByteArray) : List UInt8 := s.data.toList
def ob (l : List UInt8) : ByteArray := ⟨l.toArray⟩
theorem bl_ob (l : List UInt8) : bl (ob l) = l := by simp [bl, ob]
theorem ob_bl (s : ByteArray) : ob (bl s) = s := by simp [bl, ob]
theorem bl_inj {a b : ByteArray} (h : bl a = bl b) : a = b := by rw [← ob_bl a, h, ob_bl]
theorem ob_inj {a b : List UInt8} (h : ob a = ob b) : a = b := by rw [← bl_ob a, h, bl_ob]
theorem bl_length (s : ByteArray) : (bl s).length = s.size := by simp only [bl, Array.length_toList]; rfl
theorem ob_size (l : List UInt8) : (ob l).size = l.length := by rw [← bl_length, bl_ob]
theorem bl_append (a b : ByteArray) : bl (a ++ b) = bl a ++ bl b := by simp [bl]
theorem ob_append (a b : List UInt8) : ob a ++ ob b = ob (a ++ b) := by apply bl_inj; rw [bl_append, bl_ob, bl_ob, bl_ob]
theorem bl_lit (a : Array UInt8) : bl (⟨a⟩ : ByteArray) = a.toList := rfl
theorem lit_ob (l : List UInt8) : (⟨l.toArray⟩ : ByteArray) = ob l := rfl
theorem bl_extract (s : ByteArray) (i j : Nat) : bl (s.extract i j) = ((bl s).take j).drop i := by
  simp only [bl, ByteArray.data_extract, Array.toList_extract, List.extract]
  rw [List.drop_take]
theorem ob_extract (l : List UInt8) (i j : Nat) : (ob l).extract i j = ob ((l.take j).drop i) := by apply bl_inj; rw [bl_extract, bl_ob, bl_ob]
theorem ob_toList (l : List UInt8) : (ob l).toList = l := by rw [ByteArray.toList_eq]; rfl
theorem ba_bl (s : ByteArray) : s.toList = bl s := by rw [ByteArray.toList_eq]; rfl
theorem bt_ob (l : List UInt8) (i : Int) : bt (ob l) i = ((l.getD i.toNat 0).toNat : Int) := rfl
theorem bt_mid (p r : List UInt8) (c : UInt8) : bt (ob (p ++ c :: r)) (p.length : Int) = (c.toNat : Int) := by rw [bt_ob, mid_get]
theorem bt_range (s : ByteArray) (i : Int) : 0 ≤ bt s i ∧ bt s i ≤ 255 := by
  unfold bt
  have := UInt8.toNat_lt ((s.data.toList.getD i.toNat 0))
  omega
theorem u8_lt (c : UInt8) : c.toNat < 256 := UInt8.toNat_lt c
theorem u8_eq {a : UInt8} {n : Nat} (h : n < 256) : ((a.toNat : Int) = (n : Int)) ↔ a = UInt8.ofNat n := by
  constructor
  · intro e
    apply UInt8.toNat_inj.mp
    rw [UInt8.toNat_ofNat']; omega
  · rintro rfl
    rw [UInt8.toNat_ofNat']; omega
theorem bytesOf_ob (l : List Int) : bytesOf l = ob (l.map fun n => UInt8.ofNat n.toNat) := rfl
/-- Every string is of bytes. -/
theorem ob_all {P : ByteArray → Prop} (h : ∀ l, P (ob l)) (s : ByteArray) : P s := by rw [← ob_bl s]; exact h _
/-- A loop over a string's bytes. -/
theorem loop_str0 {ρ σ : Type} {B : Nat} (l : Nat → ByteArray → Int → σ → Option ρ) (f : List UInt8 → List UInt8 → σ → Option ρ)
    (hnil : ∀ k pre st, pre.length ≤ B → l (k + 1) (ob pre) (pre.length : Int) st = f pre [] st)
    (hcons : ∀ k pre a r st, pre.length + r.length + 1 ≤ B → (∀ st', l k (ob (pre ++ a :: r)) ((pre.length : Int) + 1) st' = f (pre ++ [a]) r st') → l (k + 1) (ob (pre ++ a :: r)) (pre.length : Int) st = f pre (a :: r) st)
    (s : ByteArray) (k : Nat) (st : σ) (h1 : s.size ≤ B) (h2 : s.size < k) : l k s 0 st = f [] (bl s) st := by
  have := loop_mid0 (fun k xs i st => l k (ob xs) i st) f hnil hcons (bl s) k st (by rw [bl_length]; exact h1) (by rw [bl_length]; exact h2)
  rw [ob_bl] at this
  exact this
theorem room1 : room 1 = 140737488355328 := by decide
theorem room8 : room 8 = 17592186044416 := by decide
theorem room16 : room 16 = 8796093022208 := by decide
theorem room24 : room 24 = 5864062014805 := by decide
theorem room32 : room 32 = 4398046511104 := by decide
theorem room40 : room 40 = 3518437208883 := by decide
theorem NNb : (1000000000000 : Nat) < NN := by rw [NN_eq]; omega
theorem NN_lt {n : Nat} (h : n < 1152921504606846976) : n < NN := by rw [NN_eq]; omega
theorem some_iff {b c : Bool} (h : b = true ↔ c = true) : some b = some c := by
  congr 1; exact Bool.eq_iff_iff.mpr h
end Go.Pl

/- A law's row: what its arguments are, in plain words. -/
namespace Go.Ev
set_option linter.unusedVariables false
set_option linter.unusedSimpArgs false
open Go.RowKit Go.WideShapes Go.ChangeShapes Go.ChangeAt
variable {P : Program}

def Rg (k : IntKind) (n : Int) : Prop := (Lit.int k n).wf = true
def Sz (s : ByteArray) : Prop := s.size ≤ 140737488355328
def Ls {α : Type} (Q : α → Prop) (xs : List α) : Prop := xs.length ≤ 140737488355328 ∧ ∀ x ∈ xs, Q x
def Plain : (t : Ty) → t.I → Prop
  | .int k, n => Rg k n
  | .bool, _ => True
  | .str, s => Sz s
  | .sl _ t, xs => Ls (Plain t) xs
  | .slb _ _, _ => True
  | .pair a b, x => Plain a x.1 ∧ Plain b x.2
  | .arr n t, xs => xs.length = n ∧ ∀ x ∈ xs, Plain t x
def PlainAll : (ts : List Ty) → Tup ts → Prop
  | [], _ => True
  | [t], x => Plain t x
  | t :: u :: r, x => Plain t x.1 ∧ PlainAll (u :: r) x.2
def okE (B : TypeId → Nat) : Ty → Bool
  | .sl e t => decide (1 ≤ B e) && okE B t
  | .slb e t => decide (1 ≤ B e) && okE B t
  | .pair a b => okE B a && okE B b
  | .arr _ t => okE B t
  | _ => true
theorem reach_lt : reachBytes ≤ 140737488355328 := by decide
theorem fit_plain {B : TypeId → Nat} : ∀ (t : Ty) (x : t.I), okE B t = true → Fit B t x → Plain t x := by
  intro t
  induction t with
  | int k => intro x _ h; exact h
  | bool => intro x _ h; trivial
  | str => intro x _ h; exact Nat.le_trans h reach_lt
  | sl e t ih =>
    intro x ho h
    simp only [okE, Bool.and_eq_true, decide_eq_true_eq] at ho
    refine ⟨?_, fun y hy => ih y ho.2 (h.2 y hy)⟩
    have h1 : x.length * 1 ≤ x.length * B e := Nat.mul_le_mul_left _ ho.1
    have h2 := h.1
    have h3 := reach_lt
    omega
  | slb e t ih => intro x ho h; trivial
  | pair a b iha ihb =>
    intro x ho h
    simp only [okE, Bool.and_eq_true] at ho
    exact ⟨iha _ ho.1 h.1, ihb _ ho.2 h.2⟩
  | arr n t ih => intro x ho h; exact ⟨h.1, fun y hy => ih y ho (h.2 y hy)⟩
theorem fit_plainAll {B : TypeId → Nat} : ∀ (ts : List Ty) (x : Tup ts), ts.all (okE B) = true → FitAll B ts x → PlainAll ts x := by
  intro ts
  induction ts with
  | nil => intro x _ _; trivial
  | cons t r ih =>
    intro x ho h
    simp only [List.all_cons, Bool.and_eq_true] at ho
    cases r with
    | nil => exact fit_plain t x ho.1 h
    | cons u r => exact ⟨fit_plain t x.1 ho.1 h.1, ih x.2 ho.2 h.2⟩
theorem ok_all {tab : List TRow} (h : okB P tab = true) : tab.all (rowB P tab) = true := by
  unfold okB at h; simp only [Bool.and_eq_true] at h; exact h.2.2
theorem bytes_sound {tab : List TRow} (h : okB P tab = true) : ∀ t x, tabT tab t = some x → P.bytesOf t = tabB tab t := by
  intro t x ht
  have hs := tab_sound (ok_all h)
  obtain ⟨ty, n⟩ := x
  obtain ⟨i, h1, h2⟩ := (hs.1 t ty n ht).info
  unfold Program.bytesOf
  rw [h1]
  exact hs.2 t _ ht i h1
section
variable {H : Type} {enc : TypeId × Value → H} {w : World} {base : Nat} {spare : Nat → Bool} {held : Bool}
theorem law_row {tab : List TRow} (hok : okB P tab = true) (hpos : posB tab = true) {f : FuncId} {c : Con} (hg : Good P f c) (hps : (c.ps.map (·.2)).map ((Kn.val, ·)) = c.ps) (hE : (c.ps.map (·.2)).all (okE (tabB tab)) = true)
    (hlaw : ∀ x, PlainAll (c.ps.map (·.2)) x → ∃ r, c.F x = some r ∧ kds' c.rs (dats _ r) = [(.val, ⟨.bool, true⟩)])
    {r : Reach} {b0 : Nat} {ts : List TypeId} {args : Array Value} {ds : List (DataW H)} {p : List MemPlace} (hts : tysOf (tabT tab) ts = some (c.ps.map (·.2))) (h : DataW.TrodAll enc P w base spare held ts args.toList ds p)
    (hval : ∀ (j : Nat) t v, ts[j]? = some t → args[j]? = some v → Value.okWide P w r b0 t v) {vt : List TypeId} {gs : List (DataW H)} (hgs : vt = [] ∨ gs = []) (hw : (DataW.weightsEach P (ts ++ vt) (ds ++ gs)).all (· ≤ reachBytes) = true) (hl : ts.length = ds.length) :
    Calls P f args w fun e w' => e = .returned (.bool true) ∧ Below w.heap.size w w' := by
  refine law_calls (tab_sound (ok_all hok)).1 (bytes_sound hok) (posB_sound hpos) hg hps (fun x hx => hlaw x (fit_plainAll _ x hE hx)) hts h (fun j t v hj hv => hval j t v hj (by simpa using hv)) ?_
  have key : ∀ (ts : List TypeId) (ds : List (DataW H)), ts.length = ds.length → ∀ m ∈ DataW.weightsEach P ts ds, m ∈ DataW.weightsEach P (ts ++ vt) (ds ++ gs) := by
    intro ts
    induction ts with
    | nil => intro ds hl m hm; cases ds <;> simp [DataW.weightsEach] at hm
    | cons t ts ih =>
      intro ds hl m hm
      cases ds with
      | nil => simp [DataW.weightsEach] at hm
      | cons d ds =>
        simp only [List.cons_append, DataW.weightsEach, List.mem_append] at hm ⊢
        rcases hm with hm | hm
        · exact .inl hm
        · exact .inr (ih ds (by simpa using hl) m hm)
  intro m hm
  have := List.all_eq_true.1 hw m (key ts ds hl m hm)
  simpa using this
end
end Go.Ev

/- What the laws' own helpers do, loop by loop: sizes, copies, comparisons, marks. -/
namespace Go.Pl
open Go.Ev
set_option linter.unusedVariables false

def Sm (s : ByteArray) : Prop := s.size ≤ 1000000
def Lm {α : Type} (Q : α → Prop) (xs : List α) : Prop := xs.length ≤ 1000000 ∧ ∀ x ∈ xs, Q x

theorem eqS_loop {α : Type} {E : α → Prop} (l : Nat → List α → List α → Int → Option Bool) (a : List α) (hE : ∀ x ∈ a, E x)
    (hs : ∀ k p x r, E x → a = p ++ x :: r → l (k + 1) a a p.length = l k a a ((p.length : Int) + 1)) (he : ∀ k, l (k + 1) a a a.length = some true) :
    ∀ k, a.length < k → l k a a 0 = some true := by
  have key : ∀ (r p : List α) (k : Nat), a = p ++ r → r.length < k → l k a a p.length = some true := by
    intro r
    induction r with
    | nil =>
      intro p k h hk
      obtain ⟨k, rfl⟩ : ∃ j, k = j + 1 := ⟨k - 1, by omega⟩
      rw [List.append_nil] at h
      rw [← h]; exact he k
    | cons x r ih =>
      intro p k h hk
      simp only [List.length_cons] at hk
      obtain ⟨k, rfl⟩ : ∃ j, k = j + 1 := ⟨k - 1, by omega⟩
      rw [hs k p x r (hE x (by rw [h]; simp)) h]
      have := ih (p ++ [x]) k (by rw [h]; simp) (by omega)
      rw [snoc_len] at this
      exact this
  intro k hk
  have := key a [] k (by simp) hk
  simpa using this

theorem szS_loop {α : Type} {Q R : α → Prop} (l : Nat → List α → Int → Int → Option Int)
    (he : ∀ k p left, l (k + 1) p left p.length = some left)
    (hs : ∀ x, Q x → ∀ left, -1000000000000000 ≤ left → left ≤ 1000000 → ∃ s, s ≤ 1000000 ∧ (0 ≤ s → s ≤ left ∧ R x) ∧ ∀ k p r, p.length + r.length + 1 ≤ 140737488355328 → l (k + 1) (p ++ x :: r) left p.length = if s < 0 then some (-1) else l k (p ++ x :: r) s ((p.length : Int) + 1))
    (a : List α) (k : Nat) (left : Int) (h0 : -1000000000000000 ≤ left) (h1 : left ≤ 1000000) (ha : Ls Q a) (hk : a.length < k) : ∃ s, l k a left 0 = some s ∧ s ≤ 1000000 ∧ (0 ≤ s → s ≤ left ∧ ∀ x ∈ a, R x) := by
  have key : ∀ (r p : List α) (k : Nat) (left : Int), p.length + r.length ≤ 140737488355328 → (∀ x ∈ r, Q x) → -1000000000000000 ≤ left → left ≤ 1000000 → r.length < k → ∃ s, l k (p ++ r) left p.length = some s ∧ s ≤ 1000000 ∧ (0 ≤ s → s ≤ left ∧ ∀ x ∈ r, R x) := by
    intro r
    induction r with
    | nil =>
      intro p k left _ _ _ _ hk
      obtain ⟨k, rfl⟩ : ∃ j, k = j + 1 := ⟨k - 1, by omega⟩
      rw [List.append_nil]
      exact ⟨left, he k p left, by omega, fun _ => ⟨by omega, fun x hx => by cases hx⟩⟩
    | cons x r ih =>
      intro p k left hb hq h0 h1 hk
      simp only [List.length_cons] at hk hb
      obtain ⟨k, rfl⟩ : ∃ j, k = j + 1 := ⟨k - 1, by omega⟩
      obtain ⟨s, s1, s2, s3⟩ := hs x (hq x (by simp)) left h0 h1
      rw [s3 k p r (by omega)]
      by_cases hn : s < 0
      · rw [if_pos hn]; exact ⟨-1, rfl, by omega, by omega⟩
      · rw [if_neg hn]
        obtain ⟨u, u1, u2, u3⟩ := ih (p ++ [x]) k s (by simp; omega) (fun y hy => hq y (by simp [hy])) (by omega) (by omega) (by omega)
        rw [mid_snoc, snoc_len] at u1
        refine ⟨u, u1, by omega, fun h => ⟨by have := (u3 h).1; have := (s2 (by omega)).1; omega, fun y hy => ?_⟩⟩
        rcases List.mem_cons.1 hy with rfl | hy
        · exact (s2 (by omega)).2
        · exact (u3 h).2 y hy
  have := key a [] k left (by simpa using ha.1) ha.2 h0 h1 hk
  simpa using this

theorem toS_loop {α : Type} {Z R : α → Prop} (l5 l9 : Nat → List α → Int → List α → Option (List α × List α))
    (he9 : ∀ k a (out : List α), (a.length : Int) ≤ out.length → l9 (k + 1) a out.length out = some (out.take a.length, out.drop a.length))
    (hs9 : ∀ k a (i : Nat) (out : List α), i < out.length → out.length ≤ 140737488355328 → ∃ z, Z z ∧ l9 (k + 1) a i out = l9 k a ((i : Int) + 1) (out.set i z))
    (he5 : ∀ k a (out : List α), l5 (k + 1) a a.length out = l9 NN a a.length out)
    (hs5 : ∀ k (p r : List α) x (q s : List α) y, R x → p.length = q.length → p.length + r.length + 1 ≤ 140737488355328 → p.length + s.length + 1 ≤ 140737488355328 → l5 (k + 1) (p ++ x :: r) p.length (q ++ y :: s) = l5 k (p ++ x :: r) ((p.length : Int) + 1) (q ++ x :: s))
    (a : List α) (out : List α) (k : Nat) (ha : ∀ x ∈ a, R x) (h : a.length ≤ out.length) (hb : out.length ≤ 140737488355328) (hk : a.length < k) :
    ∃ fil, l5 k a 0 out = some (a, fil) ∧ fil.length = out.length - a.length ∧ ∀ x ∈ fil, Z x := by
  have hN : 140737488355328 < NN := NN_lt (by omega)
  have k9 : ∀ (d : Nat) (k : Nat) (i : Nat) (out : List α), out.length ≤ 140737488355328 → i + d = out.length → d < k → a.length ≤ i → out.take a.length = a → (∀ j x, a.length ≤ j → j < i → out[j]? = some x → Z x) →
      ∃ fil, l9 k a i out = some (a, fil) ∧ fil.length = out.length - a.length ∧ ∀ x ∈ fil, Z x := by
    intro d
    induction d with
    | zero =>
      intro k i out hb hi hk ha ht hz
      obtain ⟨k, rfl⟩ : ∃ j, k = j + 1 := ⟨k - 1, by omega⟩
      obtain rfl : i = out.length := by omega
      refine ⟨_, by rw [he9 k a out (by omega), ht], by simp, fun x hx => ?_⟩
      obtain ⟨m, hm⟩ := List.mem_iff_getElem?.1 hx
      rw [List.getElem?_drop] at hm
      exact hz _ x (by omega) (List.getElem?_eq_some_iff.1 hm).1 hm
    | succ d ih =>
      intro k i out hb hi hk ha ht hz
      obtain ⟨k, rfl⟩ : ∃ j, k = j + 1 := ⟨k - 1, by omega⟩
      obtain ⟨z, z1, z2⟩ := hs9 k a i out (by omega) hb
      rw [z2]
      obtain ⟨fil, f1, f2, f3⟩ := ih k (i + 1) (out.set i z) (by simpa using hb) (by simp; omega) (by omega) (by omega) (by rw [List.take_set_of_le ha]; exact ht) (fun j x h1 h2 h3 => by
        by_cases hj : i = j
        · subst hj
          rw [List.getElem?_set_self (by omega)] at h3
          cases h3; exact z1
        · rw [List.getElem?_set_ne hj] at h3
          exact hz j x h1 (by omega) h3)
      exact ⟨fil, f1, by simpa using f2, f3⟩
  have k5 : ∀ (r p : List α) (s : List α) (k : Nat), p ++ r = a → p.length + s.length ≤ 140737488355328 → r.length ≤ s.length → r.length < k → (∀ x ∈ r, R x) →
      ∃ fil, l5 k a p.length (p ++ s) = some (a, fil) ∧ fil.length = p.length + s.length - a.length ∧ ∀ x ∈ fil, Z x := by
    intro r
    induction r with
    | nil =>
      intro p s k h3 h4 h5 hk _
      obtain ⟨k, rfl⟩ : ∃ j, k = j + 1 := ⟨k - 1, by omega⟩
      rw [List.append_nil] at h3
      subst h3
      rw [he5]
      obtain ⟨fil, f1, f2, f3⟩ := k9 s.length NN p.length (p ++ s) (by simp; omega) (by simp) (by omega) (by omega) (by rw [List.take_left' rfl]) (fun j x h1 h2 => by omega)
      exact ⟨fil, f1, by rw [f2]; simp, f3⟩
    | cons x r ih =>
      intro p s k h3 h4 h5 hk hR
      simp only [List.length_cons] at h5 hk
      obtain ⟨k, rfl⟩ : ∃ j, k = j + 1 := ⟨k - 1, by omega⟩
      cases s with
      | nil => simp at h5
      | cons y s =>
        have hs := hs5 k p r x p s y (hR x (by simp)) rfl (by simp only [List.length_cons] at h4 h5; omega) (by simp only [List.length_cons] at h4; omega)
        rw [h3] at hs
        rw [hs]
        obtain ⟨fil, f1, f2, f3⟩ := ih (p ++ [x]) s k (by rw [← h3]; simp) (by simp only [List.length_append, List.length_cons, List.length_nil] at h4 ⊢; omega) (by simp only [List.length_cons] at h5; omega) (by omega) (fun z hz => hR z (by simp [hz]))
        rw [mid_snoc, snoc_len] at f1
        exact ⟨fil, f1, by rw [f2]; simp only [List.length_append, List.length_cons, List.length_nil]; omega, f3⟩
  obtain ⟨fil, f1, f2, f3⟩ := k5 a [] out k rfl (by simpa using hb) h hk ha
  exact ⟨fil, by simpa using f1, by simpa using f2, f3⟩

/-- Rows that are marked, and looked at afterwards. -/
theorem mark_held {α : Type} {Q : α → Prop} (l : Nat → List α → Int → Int → Option (Int × List α)) (lh : Nat → List α → Int → Int → Option Int) (C : Nat) (K : Int)
    (he : ∀ k p n, l (k + 1) p n p.length = some (n, p)) (heh : ∀ k p n, lh (k + 1) p n p.length = some n)
    (hs : ∀ x, Q x → ∀ n, 0 ≤ n → n ≤ K → ∃ x' n', n ≤ n' ∧ n' ≤ n + C ∧ (∀ k p r, p.length + r.length + 1 ≤ 1000000 → l (k + 1) (p ++ x :: r) n p.length = l k (p ++ x' :: r) n' ((p.length : Int) + 1))
      ∧ (∀ k p r, p.length + r.length + 1 ≤ 1000000 → lh (k + 1) (p ++ x' :: r) n p.length = lh k (p ++ x' :: r) n' ((p.length : Int) + 1)))
    (a : List α) (ha : Lm Q a) (n : Int) (h0 : 0 ≤ n) (h1 : n + (1000000 * C : Nat) ≤ K) (k kh : Nat) (hk : 1000000 < k) (hkh : 1000000 < kh) :
    ∃ n' a', l k a n 0 = some (n', a') ∧ lh kh a' n 0 = some n' ∧ n ≤ n' ∧ n' ≤ n + (1000000 * C : Nat) := by
  have key : ∀ (r p : List α) (k : Nat) (n : Int), p.length + r.length ≤ 1000000 → (∀ x ∈ r, Q x) → 0 ≤ n → n + ((r.length * C : Nat) : Int) ≤ K → r.length < k →
      ∃ n' r', l k (p ++ r) n p.length = some (n', p ++ r') ∧ r'.length = r.length ∧ n ≤ n' ∧ n' ≤ n + ((r.length * C : Nat) : Int) ∧ (∀ (q : List α) kh, q.length = p.length → r.length < kh → lh kh (q ++ r') n q.length = some n') := by
    intro r
    induction r with
    | nil =>
      intro p k n _ _ h0 _ hk
      obtain ⟨k, rfl⟩ : ∃ j, k = j + 1 := ⟨k - 1, by omega⟩
      refine ⟨n, [], by rw [List.append_nil]; exact he k p n, rfl, by omega, by simp, fun q kh _ hkh => ?_⟩
      obtain ⟨kh, rfl⟩ : ∃ j, kh = j + 1 := ⟨kh - 1, by simp at hkh; omega⟩
      rw [List.append_nil]; exact heh kh q n
    | cons x r ih =>
      intro p k n hb hq h0 hK hk
      simp only [List.length_cons] at hk hb hK
      obtain ⟨k, rfl⟩ : ∃ j, k = j + 1 := ⟨k - 1, by omega⟩
      have hm : (r.length + 1) * C = r.length * C + C := by rw [Nat.add_mul, Nat.one_mul]
      rw [hm] at hK
      obtain ⟨x', n1, a1, a2, a3, a4⟩ := hs x (hq x (by simp)) n h0 (by omega)
      rw [a3 k p r (by omega)]
      obtain ⟨n', r', b1, b2, b3, b4, b5⟩ := ih (p ++ [x']) k n1 (by simp; omega) (fun y hy => hq y (by simp [hy])) (by omega) (by omega) (by omega)
      rw [mid_snoc, snoc_len] at b1
      refine ⟨n', x' :: r', by rw [b1]; simp, by simp [b2], by omega, by simp only [List.length_cons]; rw [hm]; omega, fun q kh hq' hkh => ?_⟩
      simp only [List.length_cons] at hkh
      obtain ⟨kh, rfl⟩ : ∃ j, kh = j + 1 := ⟨kh - 1, by omega⟩
      rw [a4 kh q r' (by omega)]
      have := b5 (q ++ [x']) kh (by simp [hq']) (by omega)
      rw [mid_snoc, snoc_len] at this
      exact this
  have hle : ((a.length * C : Nat) : Int) ≤ ((1000000 * C : Nat) : Int) := Int.ofNat_le.2 (Nat.mul_le_mul_right _ ha.1)
  obtain ⟨n', r', b1, b2, b3, b4, b5⟩ := key a [] k n (by simpa using ha.1) ha.2 h0 (by omega) (by have := ha.1; omega)
  have := b5 [] kh rfl (by have := ha.1; omega)
  exact ⟨n', r', by simpa using b1, by simpa using this, b3, by omega⟩
theorem mem_mid {α : Type} {a p r : List α} {x : α} (h : a = p ++ x :: r) : x ∈ a := by rw [h]; simp
end Go.Pl

/- Loops of a few sorts, and what they come to. -/
namespace Go.Pl
open Go.Ev
set_option linter.unusedVariables false

/-- false at the first element that fails -/
theorem all_loop {α : Type} {E : α → Prop} (P : α → Bool) (fin : List α → Option Bool) (l : Nat → List α → Int → Option Bool)
    (hn : ∀ k p, l (k + 1) p p.length = fin p)
    (hc : ∀ k p a r, E a → (0 : Int) ≤ (p.length : Int) → (p.length : Int) < ((p ++ a :: r).length : Int) → IntKind.i64.wrap ((p.length : Int) + 1) = (p.length : Int) + 1 → l (k + 1) (p ++ a :: r) p.length = if P a = true then l k (p ++ a :: r) ((p.length : Int) + 1) else some false)
    (xs : List α) (hE : ∀ x ∈ xs, E x) (hB : xs.length ≤ 140737488355328) (k : Nat) (hk : xs.length < k) : l k xs 0 = if xs.all P = true then fin xs else some false := by
  have key : ∀ (r p : List α) (k : Nat), p.length + r.length ≤ 140737488355328 → (∀ x ∈ r, E x) → r.length < k → l k (p ++ r) p.length = if r.all P = true then fin (p ++ r) else some false := by
    intro r
    induction r with
    | nil =>
      intro p k _ _ hk
      obtain ⟨k, rfl⟩ : ∃ j, k = j + 1 := ⟨k - 1, by omega⟩
      rw [List.append_nil, hn]; simp
    | cons a r ih =>
      intro p k hb he hk
      simp only [List.length_cons] at hk hb
      obtain ⟨k, rfl⟩ : ∃ j, k = j + 1 := ⟨k - 1, by omega⟩
      have hm := mid_len p r a
      rw [hc k p a r (he a (by simp)) (by omega) (by omega) (w64 (by omega) (by omega))]
      have := ih (p ++ [a]) k (by simp; omega) (fun y hy => he y (by simp [hy])) (by omega)
      rw [mid_snoc, snoc_len] at this
      rw [this]
      cases h : P a <;> simp [h]
  have := key xs [] k (by simpa using hB) hE hk
  simpa using this
/-- the same over a string's bytes -/
theorem all_loop_str (P : UInt8 → Bool) (fin : ByteArray → Option Bool) (l : Nat → ByteArray → Int → Option Bool)
    (hn : ∀ k p, l (k + 1) (ob p) p.length = fin (ob p))
    (hc : ∀ k p a r, (0 : Int) ≤ (p.length : Int) → (p.length : Int) < ((ob (p ++ a :: r)).size : Int) → IntKind.i64.wrap ((p.length : Int) + 1) = (p.length : Int) + 1 → l (k + 1) (ob (p ++ a :: r)) p.length = if P a = true then l k (ob (p ++ a :: r)) ((p.length : Int) + 1) else some false)
    (s : ByteArray) (hB : s.size ≤ 140737488355328) (k : Nat) (hk : s.size < k) : l k s 0 = if (bl s).all P = true then fin s else some false := by
  have := all_loop (E := fun _ => True) P (fun x => fin (ob x)) (fun k x i => l k (ob x) i) hn (fun k p a r _ h1 h2 h3 => hc k p a r h1 (by rw [ob_size]; exact h2) h3) (bl s) (fun _ _ => trivial) (by rw [bl_length]; exact hB) k (by rw [bl_length]; exact hk)
  rw [ob_bl] at this
  exact this

def foldi {α σ : Type} (f : Nat → σ → α → σ) : Nat → σ → List α → σ
  | _, st, [] => st
  | i, st, a :: r => foldi f (i + 1) (f i st a) r
theorem foldi_foldl {α σ : Type} (f : σ → α → σ) : ∀ (xs : List α) (i : Nat) (st : σ), foldi (fun _ => f) i st xs = xs.foldl f st := by
  intro xs
  induction xs with
  | nil => intro i st; rfl
  | cons a r ih => intro i st; exact ih _ _
theorem foldi_append {α σ : Type} (f : Nat → σ → α → σ) : ∀ (xs ys : List α) (i : Nat) (st : σ), foldi f i st (xs ++ ys) = foldi f (i + xs.length) (foldi f i st xs) ys := by
  intro xs
  induction xs with
  | nil => intro ys i st; rfl
  | cons a r ih => intro ys i st; simp only [List.cons_append, foldi, List.length_cons]; rw [ih, show i + 1 + r.length = i + (r.length + 1) by omega]
/-- a state that goes from element to element; I: what holds of it behind a part of the row -/
theorem fold_loop {α σ ρ : Type} {E : α → Prop} (I : List α → σ → Prop) (f : Nat → σ → α → σ) (fin : List α → σ → Option ρ) (l : Nat → List α → Int → σ → Option ρ)
    (hn : ∀ k p st, I p st → l (k + 1) p p.length st = fin p st)
    (hc : ∀ k p a r st, E a → I p st → (0 : Int) ≤ (p.length : Int) → (p.length : Int) < ((p ++ a :: r).length : Int) → p.length < 140737488355328 → IntKind.i64.wrap ((p.length : Int) + 1) = (p.length : Int) + 1 →
      I (p ++ [a]) (f p.length st a) ∧ l (k + 1) (p ++ a :: r) p.length st = l k (p ++ a :: r) ((p.length : Int) + 1) (f p.length st a))
    (xs : List α) (st : σ) (hE : ∀ x ∈ xs, E x) (hI : I [] st) (hB : xs.length ≤ 140737488355328) (k : Nat) (hk : xs.length < k) :
    I xs (foldi f 0 st xs) ∧ l k xs 0 st = fin xs (foldi f 0 st xs) := by
  have key : ∀ (r p : List α) (k : Nat) (st : σ), p.length + r.length ≤ 140737488355328 → (∀ x ∈ r, E x) → I p st → r.length < k → I (p ++ r) (foldi f p.length st r) ∧ l k (p ++ r) p.length st = fin (p ++ r) (foldi f p.length st r) := by
    intro r
    induction r with
    | nil =>
      intro p k st _ _ hI hk
      obtain ⟨k, rfl⟩ : ∃ j, k = j + 1 := ⟨k - 1, by omega⟩
      rw [List.append_nil]; exact ⟨hI, hn k p st hI⟩
    | cons a r ih =>
      intro p k st hb he hI hk
      simp only [List.length_cons] at hk hb
      obtain ⟨k, rfl⟩ : ∃ j, k = j + 1 := ⟨k - 1, by omega⟩
      have hm := mid_len p r a
      obtain ⟨h1, h2⟩ := hc k p a r st (he a (by simp)) hI (by omega) (by omega) (by omega) (w64 (by omega) (by omega))
      have := ih (p ++ [a]) k (f p.length st a) (by simp; omega) (fun y hy => he y (by simp [hy])) h1 (by omega)
      rw [mid_snoc, snoc_len] at this
      rw [h2]
      simpa [foldi] using this
  have := key xs [] k st (by simpa using hB) hE hI hk
  simpa using this
/-- the same over a string's bytes -/
theorem fold_loop_str {σ ρ : Type} (I : List UInt8 → σ → Prop) (f : Nat → σ → UInt8 → σ) (fin : ByteArray → σ → Option ρ) (l : Nat → ByteArray → Int → σ → Option ρ)
    (hn : ∀ k p st, I p st → l (k + 1) (ob p) p.length st = fin (ob p) st)
    (hc : ∀ k p a r st, I p st → (0 : Int) ≤ (p.length : Int) → (p.length : Int) < ((ob (p ++ a :: r)).size : Int) → p.length < 140737488355328 → IntKind.i64.wrap ((p.length : Int) + 1) = (p.length : Int) + 1 →
      I (p ++ [a]) (f p.length st a) ∧ l (k + 1) (ob (p ++ a :: r)) p.length st = l k (ob (p ++ a :: r)) ((p.length : Int) + 1) (f p.length st a))
    (s : ByteArray) (st : σ) (hI : I [] st) (hB : s.size ≤ 140737488355328) (k : Nat) (hk : s.size < k) :
    I (bl s) (foldi f 0 st (bl s)) ∧ l k s 0 st = fin s (foldi f 0 st (bl s)) := by
  have := fold_loop (E := fun _ => True) I f (fun x => fin (ob x)) (fun k x i st => l k (ob x) i st) hn (fun k p a r st _ hI h1 h2 h3 h4 => hc k p a r st hI h1 (by rw [ob_size]; exact h2) h3 h4) (bl s) st (fun _ _ => trivial) hI (by rw [bl_length]; exact hB) k (by rw [bl_length]; exact hk)
  rw [ob_bl] at this
  exact this
/-- fold_loop, of one row: the rounds may look at it as a whole -/
theorem fold_fix {α σ ρ : Type} {E : α → Prop} (I : List α → σ → Prop) (f : Nat → σ → α → σ) (fin : σ → Option ρ) (l : Nat → Int → σ → Option ρ) (xs : List α)
    (hn : ∀ k st, I xs st → l (k + 1) xs.length st = fin st)
    (hc : ∀ k p a r st, xs = p ++ a :: r → E a → I p st → (0 : Int) ≤ (p.length : Int) → (p.length : Int) < (xs.length : Int) → p.length < 140737488355328 → IntKind.i64.wrap ((p.length : Int) + 1) = (p.length : Int) + 1 → (∀ z, xs.getD p.length z = a) →
      I (p ++ [a]) (f p.length st a) ∧ l (k + 1) p.length st = l k ((p.length : Int) + 1) (f p.length st a))
    (st : σ) (hE : ∀ x ∈ xs, E x) (hI : I [] st) (hB : xs.length ≤ 140737488355328) (k : Nat) (hk : xs.length < k) :
    I xs (foldi f 0 st xs) ∧ l k 0 st = fin (foldi f 0 st xs) := by
  have key : ∀ (r p : List α) (k : Nat) (st : σ), xs = p ++ r → (∀ x ∈ r, E x) → I p st → r.length < k → I xs (foldi f p.length st r) ∧ l k p.length st = fin (foldi f p.length st r) := by
    intro r
    induction r with
    | nil =>
      intro p k st hx _ hI hk
      obtain ⟨k, rfl⟩ : ∃ j, k = j + 1 := ⟨k - 1, by omega⟩
      rw [List.append_nil] at hx
      subst hx; exact ⟨hI, hn k st hI⟩
    | cons a r ih =>
      intro p k st hx he hI hk
      simp only [List.length_cons] at hk
      obtain ⟨k, rfl⟩ : ∃ j, k = j + 1 := ⟨k - 1, by omega⟩
      have hm := mid_len p r a
      have hxl : (xs.length : Int) = ((p ++ a :: r).length : Int) := by rw [hx]
      obtain ⟨h1, h2⟩ := hc k p a r st hx (he a (by simp)) hI (by omega) (by omega) (by omega) (w64 (by omega) (by omega)) (fun z => by rw [hx, mid_getn])
      have := ih (p ++ [a]) k (f p.length st a) (by rw [hx]; simp) (fun y hy => he y (by simp [hy])) h1 (by omega)
      rw [snoc_len] at this
      rw [h2]
      simpa [foldi] using this
  have := key xs [] k st (by simp) hE hI hk
  simpa using this
/-- the first element that is looked for, and its number -/
def firstOf {α : Type} (P : α → Bool) : Nat → List α → Option (Nat × α)
  | _, [] => none
  | i, a :: r => if P a = true then some (i, a) else firstOf P (i + 1) r
theorem find_loop {α ρ : Type} {E : α → Prop} (P : α → Bool) (hit : Nat → α → Option ρ) (fin : List α → Option ρ) (l : Nat → List α → Int → Option ρ)
    (hn : ∀ k p, l (k + 1) p p.length = fin p)
    (hc : ∀ k p a r, E a → (0 : Int) ≤ (p.length : Int) → (p.length : Int) < ((p ++ a :: r).length : Int) → p.length < 140737488355328 → IntKind.i64.wrap ((p.length : Int) + 1) = (p.length : Int) + 1 → l (k + 1) (p ++ a :: r) p.length = if P a = true then hit p.length a else l k (p ++ a :: r) ((p.length : Int) + 1))
    (xs : List α) (hE : ∀ x ∈ xs, E x) (hB : xs.length ≤ 140737488355328) (k : Nat) (hk : xs.length < k) : l k xs 0 = (firstOf P 0 xs).elim (fin xs) (fun x => hit x.1 x.2) := by
  have key : ∀ (r p : List α) (k : Nat), p.length + r.length ≤ 140737488355328 → (∀ x ∈ r, E x) → r.length < k → l k (p ++ r) p.length = (firstOf P p.length r).elim (fin (p ++ r)) (fun x => hit x.1 x.2) := by
    intro r
    induction r with
    | nil =>
      intro p k _ _ hk
      obtain ⟨k, rfl⟩ : ∃ j, k = j + 1 := ⟨k - 1, by omega⟩
      rw [List.append_nil, hn]; rfl
    | cons a r ih =>
      intro p k hb he hk
      simp only [List.length_cons] at hk hb
      obtain ⟨k, rfl⟩ : ∃ j, k = j + 1 := ⟨k - 1, by omega⟩
      have hm := mid_len p r a
      rw [hc k p a r (he a (by simp)) (by omega) (by omega) (by omega) (w64 (by omega) (by omega))]
      have := ih (p ++ [a]) k (by simp; omega) (fun y hy => he y (by simp [hy])) (by omega)
      rw [mid_snoc, snoc_len] at this
      rw [this]
      cases h : P a <;> simp [h, firstOf]
  have := key xs [] k (by simpa using hB) hE hk
  simpa using this
end Go.Pl

/- A call whose body is evaluated in its place. -/
namespace Go.Ev
set_option linter.unusedVariables false
set_option linter.unusedSimpArgs false
variable {ρ : Type} {P : Program}
/-- All numbers in it are below n. -/
def V.lt (n : Nat) : V → Bool
  | .ref i => decide (i < n)
  | .ptr i _ => decide (i < n)
  | .vw i _ => decide (i < n)
  | .pr a b => a.lt n && b.lt n
  | .tp a b => a.lt n && b.lt n
  | _ => true
section
variable {φ φ' : Nat → Value} {hk hk' : Nat → Option Kd} {w w' : World} {S S' : Nat → Prop} {n : Nat}
theorem VC_lt (hφ : ∀ i k, i < n → hk i = some k → φ' i = φ i) (hkk : ∀ i k, i < n → hk i = some k → hk' i = some k ∨ hk' i = some .dead) (h : ∀ b, S b → S' b ∧ w'.heap[b]? = w.heap[b]?) :
    ∀ (t : Ty) (v : V) (cs : List Value), v.lt n = true → VC φ hk w S t v cs → VC φ' hk' w' S' t v cs := by
  intro t v
  induction v generalizing t with
  | dat u x => intro cs _ k; exact VC_dat.2 ⟨(VC_dat.1 k).1, Rs_move h _ _ _ (VC_dat.1 k).2⟩
  | ref id =>
    intro cs hl k
    have hl := of_decide_eq_true hl
    cases t with
    | sl e t =>
      rcases k with ⟨h1, h2⟩ | ⟨h1, rfl, A, n, c, h3⟩
      · exact .inl ⟨(hkk _ _ hl h1).elim (fun h => h) (fun h => h), h2⟩
      · rcases hkk _ _ hl h1 with h4 | h4
        · exact .inr ⟨h4, by rw [hφ _ _ hl h1], A, n, c, by rw [hφ _ _ hl h1, h3]⟩
        · exact .inl ⟨h4, A, n, c, by rw [h3]⟩
    | _ => exact k.elim
  | pr a b iha ihb =>
    intro cs hl k
    simp only [V.lt, Bool.and_eq_true] at hl
    cases t with
    | pair t u => obtain ⟨c0, c1, rfl, h0, h1⟩ := k; exact ⟨c0, c1, rfl, iha _ _ hl.1 h0, ihb _ _ hl.2 h1⟩
    | _ => exact k.elim
  | _ => intro cs _ k; cases t <;> exact k.elim
theorem VR_lt (hφ : ∀ i k, i < n → hk i = some k → φ' i = φ i) (hkk : ∀ i k, i < n → hk i = some k → hk' i = some k ∨ hk' i = some .dead) (h : ∀ b, S b → S' b ∧ w'.heap[b]? = w.heap[b]?) :
    ∀ (v : V), v.lt n = true → (∀ u, VR φ hk w S v u → VR φ' hk' w' S' v u) ∧ (∀ l, VRt φ hk w S v l → VRt φ' hk' w' S' v l) := by
  intro v
  induction v with
  | dat t x => intro _; exact ⟨fun u ⟨cs, h1, h2⟩ => ⟨cs, Rs_move h _ _ _ h1, h2⟩, fun l hl => hl⟩
  | nil => intro _; exact ⟨fun u k => k, fun l hl => hl⟩
  | ref id =>
    intro hl
    have hl := of_decide_eq_true hl
    refine ⟨fun u k => ?_, fun l hl => hl⟩
    rcases k with k | ⟨⟨e, t, k⟩, rfl⟩
    · exact .inl ((hkk _ _ hl k).elim (fun h => h) (fun h => h))
    · rcases hkk _ _ hl k with h4 | h4
      · exact .inr ⟨⟨e, t, h4⟩, (hφ _ _ hl k).symm⟩
      · exact .inl h4
  | ptr id p =>
    intro hl
    have hl := of_decide_eq_true hl
    refine ⟨fun u k => ?_, fun l hl => hl⟩
    rcases k with k | ⟨e, t, g, n, c, i, q, k, h1, h2, h0, h3⟩ | ⟨e, t, g, k, h1, h0, h2⟩
    · exact .inl ((hkk _ _ hl k).elim (fun h => h) (fun h => h))
    · rcases hkk _ _ hl k with h4 | h4
      · exact .inr (.inl ⟨e, t, g, n, c, i, q, h4, (hφ _ _ hl k).trans h1, h2, h0, h3⟩)
      · exact .inl h4
    · rcases hkk _ _ hl k with h4 | h4
      · exact .inr (.inr ⟨e, t, g, h4, (hφ _ _ hl k).trans h1, h0, h2⟩)
      · exact .inl h4
  | dptr t x =>
    intro _
    exact ⟨fun u ⟨p, cs, h1, h2, h3, h4, h5⟩ => ⟨p, cs, h1, h2, (h _ h3).1, Rs_move h _ _ _ h4, fun j u hu => (cell_move (a := ⟨p.block, p.off + j, none⟩) (h _ h3).2).trans (h5 j u hu)⟩, fun l hl => hl⟩
  | pr a b iha ihb => intro hl; exact ⟨fun u ⟨t, cs, h1, h2⟩ => ⟨t, cs, VC_lt hφ hkk h t (.pr a b) cs hl h1, h2⟩, fun l hl => hl⟩
  | tp a b iha ihb =>
    intro hl
    simp only [V.lt, Bool.and_eq_true] at hl
    refine ⟨?_, ?_⟩
    · rintro v ⟨u, r, rfl, h1, h2⟩
      exact ⟨u, r, rfl, (iha hl.1).1 u h1, (ihb hl.2).2 r h2⟩
    · rintro l ⟨u, r, rfl, h1, h2⟩
      exact ⟨u, r, rfl, (iha hl.1).1 u h1, (ihb hl.2).2 r h2⟩
  | vw id l =>
    intro hl
    have hl := of_decide_eq_true hl
    refine ⟨fun u k => ?_, fun l hl => hl⟩
    rcases k with k | ⟨e, t, A, n, c, k, h1, h2, h3⟩
    · exact .inl ((hkk _ _ hl k).elim (fun h => h) (fun h => h))
    · rcases hkk _ _ hl k with h4 | h4
      · exact .inr ⟨e, t, A, n, c, h4, (hφ _ _ hl k).trans h1, h2, h3⟩
      · exact .inl h4
  | und => intro _; exact ⟨fun _ hl => hl, fun l hl => hl⟩
  | gone => intro _; exact ⟨fun _ _ => trivial, fun l hl => hl⟩
end
section
variable {base io : Nat} {W0 : World} {IO Old : Nat → Prop} {φ0 : Nat → Value × Kd} {s s3 : St} {a a3 : Act} {w w3 : World} {ow ow3 : Nat → Option Nat} {φ φ3 : Nat → Value}

/-- What the caller's blocks are, at a call. -/
def atCall (φ : Nat → Value) (hp : List Blk) : Nat → Value × Kd := fun i => (φ i, (kds hp i).getD .dead)

/-- Where the caller's data lie, and its blocks. -/
def OldIn (ow : Nat → Option Nat) (w : World) (Old : Nat → Prop) (base b : Nat) : Prop := Fz ow w Old base b ∨ ∃ id, ow b = some id
theorem Fz_in {b : Nat} (h : Fz ow w Old base b) : Fz ow w (OldIn ow w Old base) w.heap.size b := ⟨h.1, h.2.1, .inl (.inl h)⟩

theorem enter_rel {m : Nat} (hm : m ≤ s.hp.length) (hr : Rel base W0 IO Old io φ0 s a w ow φ) {vs : List V} {us : List Value} (h : All2 (VR φ (kds s.hp) w (Fz ow w Old base)) vs us) (n : Nat) :
    Rel w.heap.size w (fun b => ∃ id, ow b = some id) (OldIn ow w Old base) m (atCall φ s.hp) ⟨vs ++ List.replicate n .und, s.hp⟩ { tmps := (us ++ List.replicate n undef).toArray, defers := [] } w ow φ := by
  have mv : ∀ (v : V) (u : Value), VR φ (kds s.hp) w (Fz ow w Old base) v u → VR φ (kds s.hp) w (Fz ow w (OldIn ow w Old base) w.heap.size) v u := fun v u k => ((VR_move (fun _ _ _ => rfl) (fun i k hk => .inl hk) (fun b hb => ⟨Fz_in hb, rfl⟩)) v).1 u k
  have hl := h.length
  refine ⟨rfl, ?_, ?_, ?_, ?_, ?_, Nat.le_refl _, ⟨rfl, rfl, rfl⟩, hm, fun i _ => rfl, fun i k _ hk => .inr ?_⟩
  · simp [hl]
  · intro i v hv
    by_cases hi : i < vs.length
    · rw [List.getElem?_append_left hi] at hv
      obtain ⟨u, h1, h2⟩ := h.get.2 i v hv
      refine ⟨u, ?_, mv v u h2⟩
      have hi2 : i < us.length := by omega
      simp only [List.getElem?_toArray]
      rw [List.getElem?_append_left hi2]; exact h1
    · rw [List.getElem?_append_right (by omega)] at hv
      obtain ⟨h1, h2⟩ := List.getElem?_eq_some_iff.1 hv
      rw [List.getElem_replicate] at h2
      subst h2
      refine ⟨undef, ?_, rfl⟩
      simp only [List.getElem?_toArray]
      rw [List.getElem?_append_right (by omega), List.getElem?_replicate, if_pos (by simpa [hl] using h1)]
  · intro id b hb
    exact BR_move rfl (fun _ _ _ => rfl) (fun i k hk => .inl hk) (fun b hb => ⟨Fz_in hb, rfl⟩) (fun g hg => ⟨hg, rfl⟩) (hr.hp id b hb)
  · intro b id hb
    have := hr.own b id hb
    exact ⟨this.1, .inr ⟨⟨id, hb⟩, .inr (.inr ⟨id, hb⟩)⟩, this.2.2⟩
  · intro b _ _; rfl
  · show k = (kds s.hp i).getD .dead
    rw [hk]; rfl

theorem leave_rel {m : Nat} (hlt : ∀ v ∈ s.sl, v.lt m = true) (hr : Rel base W0 IO Old 0 φ0 s a w ow φ) (h3 : Rel w.heap.size w (fun b => ∃ id, ow b = some id) (OldIn ow w Old base) m (atCall φ s.hp) s3 a3 w3 ow3 φ3) :
    Rel base W0 IO Old 0 φ0 ⟨s.sl, s3.hp⟩ a w3 ow3 φ3 := by
  have hφ : ∀ i k, i < m → kds s.hp i = some k → φ3 i = φ i := fun i k hi hk => h3.f0 i hi
  have hkk : ∀ i k, i < m → kds s.hp i = some k → kds s3.hp i = some k ∨ kds s3.hp i = some .dead := fun i k hi hk => by
    have hi3 : i < s3.hp.length := Nat.lt_of_lt_of_le hi h3.iol
    obtain ⟨k', hk'⟩ : ∃ k', kds s3.hp i = some k' := ⟨_, kds_some.2 ⟨s3.hp[i], List.getElem?_eq_getElem hi3, rfl⟩⟩
    have := h3.k0 i k' hi hk'
    have e : (atCall φ s.hp i).2 = k := by show (kds s.hp i).getD .dead = k; rw [hk]; rfl
    rw [e] at this
    rcases this with rfl | rfl
    · exact .inr hk'
    · exact .inl hk'
  have hS : ∀ b, Fz ow w Old base b → Fz ow3 w3 Old base b ∧ w3.heap[b]? = w.heap[b]? := fun b hb => by
    have hn : ¬ ∃ id, ow b = some id := fun ⟨id, h⟩ => by rw [hb.1] at h; cases h
    refine ⟨⟨?_, Nat.lt_of_lt_of_le hb.2.1 h3.sz, hb.2.2⟩, h3.fr b hb.2.1 hn⟩
    cases e : ow3 b with
    | none => rfl
    | some id =>
      rcases (h3.own b id e).2.1 with h | h
      · exact absurd hb.2.1 (Nat.not_lt.2 h)
      · exact absurd h.1 hn
  refine ⟨hr.dl, hr.len, ?_, ?_, ?_, ?_, Nat.le_trans hr.sz h3.sz, ⟨h3.mt.1.trans hr.mt.1, h3.mt.2.1.trans hr.mt.2.1, h3.mt.2.2.trans hr.mt.2.2⟩, Nat.zero_le _, fun i hi => absurd hi (Nat.not_lt_zero _), fun i k hi => absurd hi (Nat.not_lt_zero _)⟩
  · intro i v hv
    obtain ⟨u, h1, h2⟩ := hr.sl i v hv
    exact ⟨u, h1, (VR_lt hφ hkk hS v (hlt v (List.mem_of_getElem? hv))).1 u h2⟩
  · intro id b hb
    refine BR_move (F' := Fz ow3 w3 Old base) rfl (fun _ _ _ => rfl) (fun i k hk => .inl hk) (fun b hb => ⟨⟨hb.1, hb.2.1, ?_⟩, rfl⟩) (fun g hg => ⟨hg, rfl⟩) (h3.hp id b hb)
    rcases hb.2.2 with (h | ⟨id0, h⟩) | h
    · exact h.2.2
    · rcases (hr.own b id0 h).2.1 with k | ⟨k1, k2 | k2⟩
      · exact .inr k
      · exact absurd k2 (Nat.not_lt_zero _)
      · exact .inl k2
    · exact .inr (Nat.le_trans hr.sz h)
  · intro b id hb
    have := h3.own b id hb
    refine ⟨this.1, ?_, this.2.2⟩
    rcases this.2.1 with h | ⟨⟨id0, h⟩, _⟩
    · exact .inl (Nat.le_trans hr.sz h)
    · rcases (hr.own b id0 h).2.1 with k | ⟨k1, k2 | k2⟩
      · exact .inl k
      · exact absurd k2 (Nat.not_lt_zero _)
      · exact .inr ⟨k1, .inr k2⟩
  · intro b hb hi
    have hlt : b < w.heap.size := Nat.lt_of_lt_of_le hb hr.sz
    rw [h3.fr b hlt ?_]
    · exact hr.fr b hb hi
    · rintro ⟨id, h⟩
      rcases (hr.own b id h).2.1 with k | ⟨k, _⟩
      · exact absurd hb (Nat.not_lt.2 k)
      · exact hi k
end

/-- A region that ends in a call of a function that stands in its place: without results, no guard. -/
def lastCall (I : FuncId → Option Func) (ops : Array Oper) : Option (List Oper × Oper × FuncId × Func × List Operand) := match ops.toList.reverse with
  | o :: r => match o.guard, o.op with
    | none, .call c => match c.callee with
      | .value (.func f) => match I f with
        | some fn => if fn.results.toList.isEmpty then some (r.reverse, o, f, fn, c.args.toList) else none
        | none => none
      | _ => none
    | _, _ => none
  | [] => none
def evAll (s : St) : List Operand → Option (List V)
  | [] => some []
  | x :: r => match s.ev x, evAll s r with
    | some v, some l => some (v :: l)
    | _, _ => none
/-- Behind a body in its call's place: the caller's slots again. -/
def kIn (k : St → Option ρ) (sl : List V) (dst : Option Tmp) : Ex → St → Option ρ := fun e s3 => match e with
  | .exit _ => none
  | _ => k (({ sl := sl, hp := s3.hp } : St).put dst .gone)
/-- The marks of a body in its call's place: 10000000 for each region ahead. -/
def keepIn (keep : Nat → List Nat) (id : Nat) : Nat → List Nat := fun i => keep (10000000 * (id + 1) + i)
def envIn (E : Env) (io : Nat) : Env := { E with io := io, fr := true }
/-- One more than the greatest number in it. -/
def V.top : V → Nat
  | .ref i => i + 1
  | .ptr i _ => i + 1
  | .vw i _ => i + 1
  | .pr a b => max a.top b.top
  | .tp a b => max a.top b.top
  | _ => 0
def topS (s : St) : Nat := s.sl.foldl (fun m v => max m v.top) 0
noncomputable def inPlace (E : Env) (keep : Nat → List Nat) (n id : Nat) (fn : Func) (args : List Operand) (dst : Option Tmp) (s : St) (k : St → Option ρ) : Option ρ := match evAll s args with
  | some vs => if E.io = 0 ∧ topS s ≤ s.hp.length ∧ (s.sl.all fun v => v.lt (topS s)) = true then exec (envIn E (topS s)) (keepIn keep id) n (codeOf fn) (kIn k s.sl dst) ⟨vs ++ List.replicate (fn.ntmps - vs.length) .und, s.hp⟩ else none
  | none => none
noncomputable def execI (E : Env) (I : FuncId → Option Func) (keep : Nat → List Nat) (n : Nat) : Code → (Ex → St → Option ρ) → St → Option ρ
  | .skip, K, s => K .normal s
  | .seq a b, K, s => execI E I keep n a (kSeq (cutAt E.io (keep (1000000 + firstId b)) n (execI E I keep n b K)) K) s
  | .cond c a b, K, s => match s.ev c with
    | some (.dat .bool c) => if c = true then execI E I keep n a K s else execI E I keep n b K s
    | _ => none
  | .block id c, K, s => execI E I keep n c (kBlock id K) s
  | .loop c, K, s => match s.norm E.io (keep (firstId c)) with
    | some s => loopN (execI E I keep n c) (St.norm E.io (keep (firstId c))) K n s
    | none => none
  | .region id ops false, K, s => match lastCall I ops with
    | some (pre, o, _, fn, args) => evOps E ops pre s fun s => inPlace E keep n id fn args o.dst s (K .normal)
    | none => evOps E ops ops.toList s (K .normal)
  | .region _ ops true, K, s => if Region.noSelect ops = true then evDrawSM E ops ops.size 0 s (K .normal) else none
  | .exit id, K, s => K (.exit id) s
  | .ret, K, s => K .ret s
  | _, _, _ => none

/-- A part of code, and what follows it. -/
noncomputable def ctxI (E : Env) (I : FuncId → Option Func) (keep : Nat → List Nat) (n : Nat) : List (Way ρ) → Code → (Ex → St → Option ρ) → Code × (Ex → St → Option ρ)
  | .fst :: p, .seq a b, K => ctxI E I keep n p a (kSeq (cutAt E.io (keep (1000000 + firstId b)) n (execI E I keep n b K)) K)
  | .snd :: p, .seq _ b, K => ctxI E I keep n p b K
  | .yes :: p, .cond _ a _, K => ctxI E I keep n p a K
  | .no :: p, .cond _ _ b, K => ctxI E I keep n p b K
  | .blk :: p, .block id c, K => ctxI E I keep n p c (kBlock id K)
  | .rd L :: p, .loop c, K => ctxI E I keep n p c (kLoop (St.norm E.io (keep (firstId c))) L K)
  | _, c, K => (c, K)

section
variable {E : Env} {base : Nat} {W0 : World} {IO Old : Nat → Prop} {φ0 : Nat → Value × Kd} {s : St} {a : Act} {w w' : World} {o : Oper} {r : ρ} {ow : Nat → Option Nat} {φ : Nat → Value}
theorem lastCall_some {I : FuncId → Option Func} {ops : Array Oper} {pre : List Oper} {o : Oper} {f : FuncId} {fn : Func} {args : List Operand} (h : lastCall I ops = some (pre, o, f, fn, args)) :
    ops.toList = pre ++ [o] ∧ o.guard = none ∧ I f = some fn ∧ fn.results.toList = [] ∧ ∃ c, o.op = .call c ∧ c.callee = .value (.func f) ∧ c.args.toList = args := by
  unfold lastCall at h
  split at h
  · rename_i o' r he
    split at h
    · rename_i c hg ho
      split at h
      · rename_i f' hc
        split at h
        · rename_i fn' hI
          split at h
          · rename_i hr
            simp only [Option.some.injEq, Prod.mk.injEq] at h
            obtain ⟨rfl, rfl, rfl, rfl, rfl⟩ := h
            have := congrArg List.reverse he
            simp only [List.reverse_reverse, List.reverse_cons] at this
            exact ⟨this, hg, hI, List.isEmpty_iff.1 hr, c, ho, hc, rfl⟩
          · cases h
        · cases h
      · cases h
    · cases h
  · cases h
theorem evAll_sound (hr : Rel base W0 IO Old E.io φ0 s a w ow φ) : ∀ (l : List Operand) (vs : List V), evAll s l = some vs → All2 (VR φ (kds s.hp) w (Fz ow w Old base)) vs (l.map a.eval) := by
  intro l
  induction l with
  | nil => intro vs h; cases h; exact .nil
  | cons x l ih =>
    intro vs h
    simp only [evAll] at h
    split at h
    · rename_i v l' h1 h2
      cases h
      exact .cons (ev_sound hr h1) (ih _ h2)
    · cases h
theorem ops_then (hE : EnvOk P E IO Old) {ops : Array Oper} {Q : Exit → Act → World → Prop} {rest : List Oper} : ∀ (l : List Oper) (s : St) (k : St → Option ρ) (a : Act) (w : World), evOps E ops l s k = some r → RelE base W0 IO Old E.io φ0 s a w →
    (∀ s' a' w', k s' = some r → RelE base W0 IO Old E.io φ0 s' a' w' → wpList P ops Q rest a' w') → wpList P ops Q (l ++ rest) a w := by
  intro l
  induction l with
  | nil => intro s k a w h hr hq; exact hq s a w h hr
  | cons o l ih =>
    intro s k a w h hr hq
    simp only [evOps] at h
    show wpList P ops Q (o :: (l ++ rest)) a w
    unfold wpList
    rcases ev1_sound (Q := Q) (next := wpList P ops Q (l ++ rest)) hE h hr (fun s' a' w' hk hr' => ih s' k a' w' hk hr' hq) with ⟨h1, h2⟩ | ⟨h1, h2⟩
    · rw [if_pos h1]; exact .inl h2.wp
    · rw [if_neg (by simp [h1])]; exact h2
theorem inPlace_sound (hE : EnvOk P E IO Old) {I : FuncId → Option Func} (hI : ∀ f fn, I f = some fn → P.funcs[f]? = some fn ∧ fn.body.isSome = true ∧ fn.name ≠ "runtime.NumGoroutine") {o : Oper} {f : FuncId} {fn : Func} {args : List Operand} {cl : Call}
    (ho : o.op = .call cl) (hc : cl.callee = .value (.func f)) (ha : cl.args.toList = args) (hf : I f = some fn) (hres : fn.results.toList = []) {keep : Nat → List Nat} {n id : Nat} {k : St → Option ρ} (h : inPlace E keep n id fn args o.dst s k = some r) (hr : RelE base W0 IO Old E.io φ0 s a w)
    {next : Act → World → Prop} {Q : Exit → Act → World → Prop} (hn : ∀ s' a' w', k s' = some r → RelE base W0 IO Old E.io φ0 s' a' w' → next a' w') : o.wp P a w next Q := by
  obtain ⟨ow, φ, hr⟩ := hr
  unfold inPlace at h
  split at h
  rotate_left
  · cases h
  rename_i vs hvs
  split at h
  rotate_left
  · cases h
  rename_i hio
  have hall := evAll_sound hr args vs hvs
  obtain ⟨hP, hb, hname⟩ := hI f fn hf
  obtain ⟨code, hcode⟩ := Option.isSome_iff_exists.1 hb
  have hent := enter_rel hio.2.1 hr hall (fn.ntmps - vs.length)
  have hE' : EnvOk P (envIn E (topS s)) (fun b => ∃ id, ow b = some id) (OldIn ow w Old base) := ⟨hE.mo, hE.ty, hE.eq', hE.by', hE.con, fun _ b hb => .inr hb⟩
  have hlen := hall.length
  have hcall : Calls P f (args.map a.eval).toArray w fun e w' => e = .returned (retOf []) ∧ next (a.put o.dst (retOf [])) w' := by
    refine calls_of_wp hP hcode ?_
    have htm : (args.map a.eval).toArray ++ Array.replicate (fn.ntmps - (args.map a.eval).toArray.size) undef = (args.map a.eval ++ List.replicate (fn.ntmps - vs.length) undef).toArray := by
      apply Array.ext'
      simp only [List.length_map] at hlen
      simp [hlen]
    rw [htm]
    have hcd : codeOf fn = code := by unfold codeOf; rw [hcode]
    rw [hcd] at h
    refine exec_sound hE' _ n code _ _ _ _ _ h ⟨ow, φ, hent⟩ fun e s3 a3 w3 hk hr3 => ?_
    obtain ⟨ow3, φ3, hr3⟩ := hr3
    have key : k (({ sl := s.sl, hp := s3.hp } : St).put o.dst .gone) = some r → a3.defers = [] ∧ ∃ v, (results fn a3.tmps).run P w3 = .ok v w3 ∧ ((Ending.returned v = .returned (retOf [])) ∧ next (a.put o.dst (retOf [])) w3) := fun hk => by
      have hr0 := hr
      rw [hio.1] at hr0
      have hl := leave_rel (List.all_eq_true.1 hio.2.2) hr0 hr3
      have hp := Rel.put hl (v := .gone) (u := retOf []) trivial o.dst
      obtain ⟨us, hu, hrun⟩ := results_run hE' hr3 (vs := []) (by rw [hres]; rfl)
      have hu0 : us = [] := List.length_eq_zero_iff.1 (by have := hu.length; simpa using this.symm)
      rw [hu0] at hrun
      exact ⟨hr3.dl, retOf [], hrun, rfl, hn _ _ _ hk ⟨_, _, by rw [hio.1]; exact hp⟩⟩
    cases e with
    | normal => exact key hk
    | exit i => cases hk
    | ret => exact key hk
  have hrun : (execOp a.eval o).run P w = .ok (.enter f (args.map a.eval).toArray) w := by
    have hbn : fn.body.isNone = false := by cases hb : fn.body <;> simp_all
    have e1 : (args.map a.eval).toArray = cl.args.map a.eval := by rw [← ha, ← Array.toList_map]
    rw [e1]
    simp [execOp, ho, resolve, hc, Act.eval, Deferred.ofValue, invoke, callFunc, hP, hname, hbn]
    intro hb
    rw [hb] at hcode
    cases hcode
  unfold Oper.wp
  rw [hrun, Oper.upon_enter]
  refine hcall.mono fun e w' hpost => ?_
  obtain ⟨rfl, h2⟩ := hpost
  exact h2
theorem execI_sound (hE : EnvOk P E IO Old) {I : FuncId → Option Func} (hI : ∀ f fn, I f = some fn → P.funcs[f]? = some fn ∧ fn.body.isSome = true ∧ fn.name ≠ "runtime.NumGoroutine") (keep : Nat → List Nat) (n : Nat) : ∀ (c : Code) (K : Ex → St → Option ρ) (Q : Exit → Act → World → Prop) (s : St) (a : Act) (w : World), execI E I keep n c K s = some r → RelE base W0 IO Old E.io φ0 s a w →
    (∀ e s' a' w', K e s' = some r → RelE base W0 IO Old E.io φ0 s' a' w' → Q e.to a' w') → c.wp P Q a w := by
  intro c
  induction c with
  | skip => intro K Q s a w h hr hq; exact wp_skip (hq .normal s a w h hr)
  | seq x y ihx ihy =>
    intro K Q s a w h hr hq
    refine wp_seq (ihx _ _ s a w h hr fun e s' a' w' hk hr' => ?_)
    cases e with
    | normal =>
      rcases cutAt_some hk with hk | ⟨s2, hs2, hk⟩
      · exact ihy K Q s' a' w' hk hr' hq
      · exact ihy K Q s2 a' w' hk (norm_sound hr' hs2) hq
    | exit i => exact hq _ s' a' w' hk hr'
    | ret => exact hq _ s' a' w' hk hr'
  | cond c x y ihx ihy =>
    intro K Q s a w h hr hq
    simp only [execI] at h
    split at h
    · rename_i b hb
      obtain ⟨ow, φ, hr0⟩ := hr
      have hv := VR_bool (ev_sound hr0 hb)
      split at h
      · rename_i hbt
        subst hbt
        exact wp_cond_true hv (ihx K Q s a w h ⟨ow, φ, hr0⟩ hq)
      · rename_i hbf
        simp only [Bool.not_eq_true] at hbf
        subst hbf
        exact wp_cond_false hv (ihy K Q s a w h ⟨ow, φ, hr0⟩ hq)
    · cases h
  | block id c ih =>
    intro K Q s a w h hr hq
    refine wp_block (ih _ _ s a w h hr fun e s' a' w' hk hr' => ?_)
    cases e with
    | normal => exact hq .normal s' a' w' hk hr'
    | exit i =>
      simp only [kBlock] at hk
      show (if i = id then Q .normal a' w' else Q (.exit i) a' w')
      split at hk
      · rename_i hi; rw [if_pos hi]; exact hq .normal s' a' w' hk hr'
      · rename_i hi; rw [if_neg hi]; exact hq (.exit i) s' a' w' hk hr'
    | ret => exact hq .ret s' a' w' hk hr'
  | loop c ih =>
    intro K Q s a w h hr hq
    simp only [execI] at h
    split at h
    rotate_left
    · cases h
    rename_i s0 hs0
    have hr0 := norm_sound hr hs0
    have key : ∀ m s a w, loopN (execI E I keep n c) (St.norm E.io (keep (firstId c))) K m s = some r → RelE base W0 IO Old E.io φ0 s a w → ∀ b k cs,
        ∃ e a' w', Q e a' w' ∧ Arrives P (lone (b.at a (.code c :: .inLoop c :: k)) cs w) b k cs e a' w' := by
      intro m
      induction m with
      | zero => intro s a w h; cases h
      | succ m ihm =>
        intro s a w h hr b k cs
        simp only [loopN] at h
        obtain ⟨e, a₁, w₁, hq1, harr⟩ := ih _ (fun e a' w' => match e with
          | .normal => ∃ s', RelE base W0 IO Old E.io φ0 s' a' w' ∧ loopN (execI E I keep n c) (St.norm E.io (keep (firstId c))) K m s' = some r
          | e => Q e a' w') s a w h hr (fun e s' a' w' hk hr' => by
            cases e with
            | normal =>
              simp only [kLoop] at hk
              split at hk
              · rename_i s2 hs2; exact ⟨s2, norm_sound hr' hs2, hk⟩
              · cases hk
            | exit i => exact hq _ s' a' w' hk hr'
            | ret => exact hq _ s' a' w' hk hr') b (.inLoop c :: k) cs
        cases e with
        | normal =>
          obtain ⟨s', hr', hl⟩ := hq1
          obtain ⟨e₂, a₂, w₂, hq₂, harr₂⟩ := ihm s' a₁ w₁ hl hr' b k cs
          exact ⟨e₂, a₂, w₂, hq₂, .of_steps (Steps.trans harr (.one step_inLoop)) harr₂⟩
        | exit id => exact ⟨_, a₁, w₁, hq1, .pass (x := .inLoop c) rfl (fun _ _ => .inl (by simp)) harr⟩
        | goto l => exact ⟨_, a₁, w₁, hq1, .pass (x := .inLoop c) rfl (fun _ _ => .inl (by simp)) harr⟩
        | ret => exact ⟨_, a₁, w₁, hq1, .pass (x := .inLoop c) rfl (fun _ _ => .inl (by simp)) harr⟩
        | panic ch => exact ⟨_, a₁, w₁, hq1, .pass (x := .inLoop c) rfl (fun _ _ => .inl (by simp)) harr⟩
        | outgrown => exact ⟨_, a₁, w₁, hq1, .pass (x := .inLoop c) rfl (fun _ _ => .inl (by simp)) harr⟩
    intro b k cs
    obtain ⟨e, a', w', hq', harr⟩ := key n s0 a w h hr0 b k cs
    exact ⟨e, a', w', hq', .of_steps (.one step_loop) harr⟩
  | region id ops draw =>
    intro K Q s a w h hr hq
    cases draw with
    | false =>
      simp only [execI] at h
      split at h
      · rename_i pre o f fn args hl
        obtain ⟨h1, h2, h3, h4, c, h5, h6, h7⟩ := lastCall_some hl
        refine wp_region_list ?_
        rw [h1]
        refine ops_then hE pre s _ a w h hr (fun s' a' w' hk hr' => ?_)
        unfold wpList
        rw [if_pos (by simp [Region.wanted, h2])]
        refine .inl (inPlace_sound hE hI h5 h6 h7 h3 h4 hk hr' fun s2 a2 w2 hk2 hr2 => ?_)
        unfold wpList
        exact hq .normal s2 a2 w2 hk2 hr2
      · exact wp_region_list (ops_sound hE ops.toList s (K .normal) a w h hr (fun s' a' w' hk hr' => hq .normal s' a' w' hk hr'))
    | true =>
      simp only [execI] at h
      split at h
      · rename_i hs
        exact region_sound hE hs h hr (fun s' a' w' hk hr' => hq .normal s' a' w' hk hr')
      · cases h
  | exit id => intro K Q s a w h hr hq; exact wp_exit (hq (.exit id) s a w h hr)
  | ret => intro K Q s a w h hr hq; exact wp_ret (hq .ret s a w h hr)
  | _ => intro K Q s a w h; simp [execI] at h
end
section
variable {E : Env}
theorem sound_of_execI (hE : ∀ IO Old : Nat → Prop, EnvOk P E IO Old) {I : FuncId → Option Func} (hI : ∀ f fn, I f = some fn → P.funcs[f]? = some fn ∧ fn.body.isSome = true ∧ fn.name ≠ "runtime.NumGoroutine") {f : FuncId} {fn : Func} {code : Code} {c : Con} (hf : P.funcs[f]? = some fn) (hb : fn.body = some code) (keep : Nat → List Nat)
    (hio : ∀ x : Tup (c.ps.map (·.2)), ioN c.gv (ksB (kds' c.ps (dats _ x))).length = E.io)
    (h : ∀ x r, c.F x = some r → ∃ n, execI E I keep n code (fun e s => match e with | .exit _ => none | _ => finish E c (kds' c.ps (dats _ x)) fn.results.toList s) (initSt (kds' c.ps (dats _ x)) (fn.ntmps - c.ps.length)) = some r) : Sound P f c := by
  intro x r hF w vs gs Old hO hn hlt hks
  obtain ⟨n, hex⟩ := h x r hF
  have hdx := dats_types _ x
  obtain ⟨φ0, ow, fs, hfs, hφfs, hkfs, hvr0, hgs0, hrel⟩ := entry hks hO hn hlt (fn.ntmps - c.ps.length) c.gv
  rw [hio x] at hrel
  have hvl : vs.length = c.ps.length := by
    have h1 := (KsOk_len _ _ _ hks).1
    have h2 := congrArg List.length hdx
    simp only [List.length_map] at h2
    rw [kds_len _ _ (by omega)] at h1
    exact h1
  refine calls_of_wp hf hb ?_
  have htm : vs.toArray ++ Array.replicate (fn.ntmps - vs.toArray.size) undef = (vs ++ List.replicate (fn.ntmps - c.ps.length) undef).toArray := by
    apply Array.ext'
    simp [hvl]
  rw [htm]
  refine execI_sound (hE _ _) hI keep n code _ _ _ _ _ hex ⟨_, _, hrel⟩ fun e s a w' hk hr => ?_
  have key : finish E c (kds' c.ps (dats _ x)) fn.results.toList s = some r → a.defers = [] ∧ ∃ v, (results fn a.tmps).run P w' = .ok v w' ∧ ∃ us hs, Ending.returned v = .returned (retOf us) ∧ us.length = c.rs.length ∧ (hs.flatten ++ kpG c.gv gs).Nodup ∧ (∀ h ∈ hs.flatten, (w.heap.size ≤ h ∨ h ∈ gvG c.gv gs) ∧ h < w'.heap.size) ∧
      KsOk w' (Aft (fun b => Old b ∨ b ∈ gvG c.gv gs) w w' (hs.flatten ++ kpG c.gv gs)) (kds' c.rs (dats _ r)) us hs ∧
      KsOk w' (Aft (fun b => Old b ∨ b ∈ gvG c.gv gs) w w' (hs.flatten ++ kpG c.gv gs)) (kds' (iosG c.gv c.ps) ((dats _ r).drop c.rs.length)) (ioVsG c.gv c.ps vs) (ioGsG c.gv c.ps gs) ∧
      (∀ b, b < w.heap.size → b ∉ gs.flatten → w'.heap[b]? = w.heap[b]?) ∧ w.heap.size ≤ w'.heap.size ∧ w'.os = w.os ∧ w'.tape = w.tape ∧ w'.output = w.output := by
    intro hfin
    obtain ⟨ow0, φ', hr⟩ := hr
    unfold finish at hfin
    obtain ⟨ow', hr⟩ := freezes_sound (retFrz E c fn.results.toList s) s ow0 φ' (fun i hi => by
      unfold retFrz at hi
      split at hi
      · simpa using (List.mem_filter.1 hi).2
      · cases hi) hr
    generalize s.freezes (retFrz E c fn.results.toList s) = s at hr hfin
    unfold finish0 at hfin
    split at hfin
    rotate_left
    · cases hfin
    rename_i rv hrv
    split at hfin
    rotate_left
    · cases hfin
    rename_i hc
    simp only [Bool.and_eq_true, decide_eq_true_eq] at hc
    obtain ⟨hnd, hrl⟩ := hc
    have hnd := nodupB_sound _ hnd
    obtain ⟨us, hus, hrun⟩ := results_run (hE _ _) hr hrv
    have hul := hus.length
    -- the parameters that were written
    have hlk : (kds (ksB (kds' c.ps (dats _ x)))) = kds (ksB (kds' c.ps (dats _ x))) := rfl
    have hlen : c.gv = false → (ksB (kds' c.ps (dats _ x))).length = E.io := fun hg => by rw [← hio x, hg]; rfl
    have hne : c.gv = false → ∀ id, kds (ksB (kds' c.ps (dats _ x))) id ≠ none → id < E.io := fun hg id hh => by
      cases hk : kds (ksB (kds' c.ps (dats _ x))) id with
      | none => exact absurd hk hh
      | some k => rw [← hlen hg]; exact kds_lt hk
    have hpl : c.ps.length = (ksV (kds' c.ps (dats _ x)) 0).length := by rw [hvr0.length, hvl]
    have hioe : All2 (VR φ' (kds s.hp) w' (Fz ow' w' (fun b => Old b ∨ b ∈ gvG c.gv gs) w.heap.size)) (ioVG c.gv c.ps (ksV (kds' c.ps (dats _ x)) 0)) (ioVsG c.gv c.ps vs) := by
      cases hg : c.gv
      rotate_left
      · exact .nil
      show All2 _ (ioV c.ps (ksV (kds' c.ps (dats _ x)) 0)) (ioVs c.ps vs)
      refine io_exit (φ0 := φ0) ?_ (fun id k hh hk => hr.k0 id k (hne hg id hh) hk) (fun id hh => hr.f0 id (hne hg id hh)) c.ps _ _ hpl hvr0 (fun q hq => ?_)
      · intro id k hk
        refine ⟨hkfs id k hk, ?_⟩
        rintro rfl
        obtain ⟨b, hb1, hb2⟩ := kds_some.1 hk
        obtain ⟨v, _, hv2⟩ := (BlksV_blk _ _ _ hfs).2 id b hb1
        cases b <;> simp [Blk.kd] at hb2
        exact hv2
      · refine finT_each _ _ _ hfin q ?_
        rw [List.zip_append hrl.symm]
        refine List.mem_append_right _ ?_
        rw [hg]; exact hq
    have hall := hus.append hioe
    obtain ⟨_, hown⟩ := finT_sound (S' := fun _ => True) hr.hp (fun _ _ => trivial) _ _ _ _ hall hfin
    have hids : idsL (c.rs ++ iosG c.gv c.ps) (rv ++ ioVG c.gv c.ps (ksV (kds' c.ps (dats _ x)) 0)) = idsL c.rs rv ++ idsL (iosG c.gv c.ps) (ioVG c.gv c.ps (ksV (kds' c.ps (dats _ x)) 0)) := idsL_append _ _ _ _ hrl.symm
    rw [hids] at hown
    have hioids : (idsL (iosG c.gv c.ps) (ioVG c.gv c.ps (ksV (kds' c.ps (dats _ x)) 0))).flatten = List.range E.io := by
      cases hg : c.gv
      · show (idsL (ios c.ps) (ioV c.ps _)).flatten = _
        rw [io_ids _ _ _ hdx, hlen hg, List.range_eq_range']
      · rw [← hio x, hg]; rfl
    have hiog : (idsL (iosG c.gv c.ps) (ioVG c.gv c.ps (ksV (kds' c.ps (dats _ x)) 0))).map (blksOf φ') = ioGsG c.gv c.ps gs := by
      cases hg : c.gv
      rotate_left
      · rfl
      show (idsL (ios c.ps) (ioV c.ps _)).map (blksOf φ') = ioGs c.ps gs
      rw [io_ksI _ _ _ hdx, ioGs_map, hgs0 φ' (fun j v hv => ?_)]
      have hj := (List.getElem?_eq_some_iff.1 hv).1
      rw [BlksV_len _ _ _ hfs, hlen hg] at hj
      rw [hr.f0 j hj]; exact hφfs j v hv
    obtain ⟨hgf, hgl1, hgl2⟩ := ioGs_flat c.ps _ vs gs hdx hks
    let hs := (idsL c.rs rv).map (blksOf φ')
    have hhs : hs.flatten = blksOf φ' (idsL c.rs rv).flatten := blksOf_flat _
    have hgs : kpG c.gv gs = blksOf φ' (List.range E.io) := by
      cases hg : c.gv
      · show gs.flatten = _
        rw [← hgf, ← hioids, ← blksOf_flat, hiog, hg]; rfl
      · rw [← hio x, hg]; rfl
    have hown' : ∀ id ∈ (idsL c.rs rv).flatten ++ List.range E.io, ∀ g, blkOf (φ' id) = some g → ow' g = some id := by
      rw [List.flatten_append, hioids] at hown; exact hown
    have hboth : hs.flatten ++ kpG c.gv gs = blksOf φ' ((idsL c.rs rv).flatten ++ List.range E.io) := by rw [hhs, hgs]; simp [blksOf]
    have hF : ∀ b, Fz ow' w' (fun b => Old b ∨ b ∈ gvG c.gv gs) w.heap.size b → Aft (fun b => Old b ∨ b ∈ gvG c.gv gs) w w' (hs.flatten ++ kpG c.gv gs) b := by
      rintro b ⟨h1, h2, h3⟩
      refine ⟨h3, h2, fun hm => ?_⟩
      rw [hboth] at hm
      obtain ⟨id, i1, i2⟩ := blksOf_mem hm
      rw [hown' id i1 b i2] at h1; cases h1
    obtain ⟨hks', _⟩ := finT_sound (S' := Aft (fun b => Old b ∨ b ∈ gvG c.gv gs) w w' (hs.flatten ++ kpG c.gv gs)) hr.hp hF _ _ _ _ hall hfin
    have hdr := dats_types _ r
    have hdl : c.rs.length ≤ (dats _ r).length := by
      have := congrArg List.length hdr
      simp only [List.length_map, List.length_append] at this
      omega
    rw [hids, List.map_append (f := blksOf φ'), hiog, kds_append _ _ _ hdl] at hks'
    obtain ⟨hk1, hk2⟩ := KsOk_split _ _ _ _ _ _ (by rw [kds_len _ _ hdl, ← hul, hrl]) (by rw [kds_len _ _ hdl, List.length_map, idsL_len _ _ hrl.symm, hrl]) hks'
    refine ⟨hr.dl, _, hrun, us, hs, rfl, by omega, ?_, fun g hg => ?_, hk1, hk2, hr.fr, hr.sz, hr.mt⟩
    · rw [hboth]; exact blksOf_nodup _ hnd hown'
    · rw [hhs] at hg
      obtain ⟨id, i1, i2⟩ := blksOf_mem hg
      have hog := hown' id (List.mem_append_left _ i1) g i2
      obtain ⟨o1, o2, _⟩ := hr.own g id hog
      refine ⟨?_, o1⟩
      rcases o2 with o2 | ⟨o3, o4⟩
      · exact .inl o2
      · refine .inr ?_
        rcases o4 with o4 | o4 | o4
        · exact absurd rfl ((List.nodup_append.1 hnd).2.2 id i1 id (List.mem_range.2 o4))
        · exact absurd o3 (hO g o4).2
        · exact o4
  cases e with
  | normal => exact key hk
  | ret => exact key hk
  | exit id => simp at hk
end
noncomputable def bodyFI (E : Env) (I : FuncId → Option Func) (keep : Nat → List Nat) (n : Nat) (fn : Func) (c : Con) (x : Tup (c.ps.map (·.2))) : Option (Tup ((c.rs ++ iosG c.gv c.ps).map (·.2))) :=
  execI E I keep n (codeOf fn) (kEnd E fn c x) (initSt (kds' c.ps (dats _ x)) (fn.ntmps - c.ps.length))
theorem good_ofI {tab : List TRow} (h : okB P tab = true) {cs : List (FuncId × Con)} (hc : Goods P cs) (io : Nat) (mv : Bool) {f : FuncId} {fn : Func} {c : Con} (hf : P.funcs[f]? = some fn) (hb : fn.body.isSome = true) (hn : fn.name ≠ "runtime.NumGoroutine") (hrs : c.rs ≠ []) (keep : Nat → List Nat) (n : Nat)
    (hio : ∀ x : Tup (c.ps.map (·.2)), ioN c.gv (ksB (kds' c.ps (dats _ x))).length = io) {I : FuncId → Option Func} (hI : ∀ f fn, I f = some fn → P.funcs[f]? = some fn ∧ fn.body.isSome = true ∧ fn.name ≠ "runtime.NumGoroutine") (hx : ∀ x, bodyFI (envOf tab cs io mv) I keep n fn c x = c.F x) : Good P f c :=
  ⟨sound_of_execI (code := codeOf fn) (envOk h hc io mv) hI hf (by unfold codeOf; cases hb' : fn.body <;> simp_all) keep hio (fun x r hr => ⟨n, (hx x).trans hr⟩), fn, hf, hb, hn, hrs⟩
end Go.Ev

namespace Go.Ev.Try
open Go.Proofs Go.Pl
set_option linter.unusedVariables false
noncomputable section
def impl_mayFire.con : Con := { ps := [(.val, (.pair .bool (.pair .bool (.pair .bool (.pair .bool (.pair .bool (.int .i64)))))))], rs := [(.val, .bool)], F := fun x => impl_mayFire.f x }
def impl_mayFire.cs : List (FuncId × Con) := []
def impl_mayFire.E : Env := envOf tab impl_mayFire.cs 0 false
def impl_mayFire.keep (i : Nat) : List Nat := []
set_option maxRecDepth 100000 in
theorem impl_mayFire.body (n : Nat) (x : Bool × Bool × Bool × Bool × Bool × Int) : bodyF impl_mayFire.E impl_mayFire.keep n Try.f135 impl_mayFire.con x = impl_mayFire.fn n x := by
  have h : bodyF impl_mayFire.E impl_mayFire.keep n Try.f135 impl_mayFire.con x = impl_mayFire.top x := by kernel_rfl
  exact h
set_option maxRecDepth 100000 in
theorem impl_mayFire.good : Good Try.prog 135 impl_mayFire.con :=
  good_of tabok (cs := impl_mayFire.cs) trivial 0 false (fn := Try.f135) Try.func135 rfl (by decide) (by simp [impl_mayFire.con]) impl_mayFire.keep NN (fun _ => rfl) (fun x => impl_mayFire.body NN x)
end
end Go.Ev.Try

namespace Go.Ev.Try
open Go.Proofs Go.Pl
set_option linter.unusedVariables false
noncomputable section
def impl_isClear.st2 (list0 : List (Int × ByteArray × Int)) (zone1 : ByteArray) (t2 : Int) (v9 : List (Int × ByteArray × Int)) (v10 : Int) (v11 : Int) : St := ⟨[.dat (.sl 148 (.pair (.int .i64) (.pair .str (.int .i64)))) list0, .dat .str zone1, .dat (.int .i64) t2, .gone, .gone, .gone, .gone, .gone, .gone, .dat (.sl 148 (.pair (.int .i64) (.pair .str (.int .i64)))) v9, .dat (.int .i64) v10, .dat (.int .i64) v11, .gone, .gone, .gone, .gone, .gone, .gone, .gone, .gone, .gone, .gone, .gone, .gone, .gone, .gone, .gone, .gone, .gone, .gone, .gone, .gone, .gone, .gone, .gone, .gone, .gone, .gone], []⟩
def impl_isClear.con : Con := { ps := [(.val, (.sl 148 (.pair (.int .i64) (.pair .str (.int .i64))))), (.val, .str), (.val, (.int .i64))], rs := [(.val, .bool)], F := fun x => impl_isClear.f x.1 x.2.1 x.2.2 }
def impl_isClear.cs : List (FuncId × Con) := [(114, impl_peopleIn.con)]
def impl_isClear.E : Env := envOf tab impl_isClear.cs 0 false
def impl_isClear.keep (i : Nat) : List Nat := if i = 2 then [0, 1, 2, 9, 10, 11] else []
def impl_isClear.at2 (n : Nat) (x : (List (Int × ByteArray × Int)) × ByteArray × Int) : Code × (Ex → St → Option (Bool)) := ctx impl_isClear.E impl_isClear.keep n [.snd, .fst, .snd, .blk] (codeOf Try.f161) (kEnd impl_isClear.E Try.f161 impl_isClear.con x)
def impl_isClear.LN2 (n : Nat) (x : (List (Int × ByteArray × Int)) × ByteArray × Int) : Nat → St → Option (Bool) := loopN (exec impl_isClear.E impl_isClear.keep n (bodyOf (impl_isClear.at2 n x).1)) (St.norm 0 (impl_isClear.keep 2)) (impl_isClear.at2 n x).2
set_option maxRecDepth 100000 in
theorem impl_isClear.lem2 (n : Nat) (x : (List (Int × ByteArray × Int)) × ByteArray × Int) : ∀ (k : Nat) (list0 : List (Int × ByteArray × Int)) (zone1 : ByteArray) (t2 : Int) (v9 : List (Int × ByteArray × Int)) (v10 : Int) (v11 : Int), impl_isClear.LN2 n x k (impl_isClear.st2 list0 zone1 t2 v9 v10 v11) = impl_isClear.l2 n k list0 zone1 t2 v9 v10 v11 := by
  intro k
  induction k with
  | zero => intro list0 zone1 t2 v9 v10 v11; rfl
  | succ k ih =>
    intro list0 zone1 t2 v9 v10 v11
    have h : impl_isClear.LN2 n x (k + 1) (impl_isClear.st2 list0 zone1 t2 v9 v10 v11) = impl_isClear.g2 (fun list0 zone1 t2 v9 v10 v11 => impl_isClear.LN2 n x k (impl_isClear.st2 list0 zone1 t2 v9 v10 v11)) list0 zone1 t2 v9 v10 v11 := by kernel_rfl
    rw [h]
    simp only [ih]
    rfl
set_option maxRecDepth 100000 in
theorem impl_isClear.body (n : Nat) (x : (List (Int × ByteArray × Int)) × ByteArray × Int) : bodyF impl_isClear.E impl_isClear.keep n Try.f161 impl_isClear.con x = impl_isClear.fn n x.1 x.2.1 x.2.2 := by
  have h : bodyF impl_isClear.E impl_isClear.keep n Try.f161 impl_isClear.con x = impl_isClear.top (fun list0 zone1 t2 v9 v10 v11 => impl_isClear.LN2 n x n (impl_isClear.st2 list0 zone1 t2 v9 v10 v11)) x.1 x.2.1 x.2.2 := by kernel_rfl
  rw [h]
  simp only [impl_isClear.lem2]
  rfl
set_option maxRecDepth 100000 in
theorem impl_isClear.good : Good Try.prog 161 impl_isClear.con :=
  good_of tabok (cs := impl_isClear.cs) ⟨impl_peopleIn.good, trivial⟩ 0 false (fn := Try.f161) Try.func161 rfl (by decide) (by simp [impl_isClear.con]) impl_isClear.keep NN (fun _ => rfl) (fun x => impl_isClear.body NN x)
end
end Go.Ev.Try

namespace Go.Ev.Try
open Go.Proofs Go.Pl
set_option linter.unusedVariables false
noncomputable section
def impl_areAllClear.st2 (list0 : List (Int × ByteArray × Int)) (t2 : Int) (v9 : List ByteArray) (v10 : Int) (v11 : Int) : St := ⟨[.dat (.sl 148 (.pair (.int .i64) (.pair .str (.int .i64)))) list0, .gone, .dat (.int .i64) t2, .gone, .gone, .gone, .gone, .gone, .gone, .dat (.sl 9 .str) v9, .dat (.int .i64) v10, .dat (.int .i64) v11, .gone, .gone, .gone, .gone, .gone, .gone, .gone, .gone, .gone], []⟩
def impl_areAllClear.con : Con := { ps := [(.val, (.sl 148 (.pair (.int .i64) (.pair .str (.int .i64))))), (.val, (.sl 9 .str)), (.val, (.int .i64))], rs := [(.val, .bool)], F := fun x => impl_areAllClear.f x.1 x.2.1 x.2.2 }
def impl_areAllClear.cs : List (FuncId × Con) := [(161, impl_isClear.con)]
def impl_areAllClear.E : Env := envOf tab impl_areAllClear.cs 0 false
def impl_areAllClear.keep (i : Nat) : List Nat := if i = 2 then [0, 2, 9, 10, 11] else []
def impl_areAllClear.at2 (n : Nat) (x : (List (Int × ByteArray × Int)) × List ByteArray × Int) : Code × (Ex → St → Option (Bool)) := ctx impl_areAllClear.E impl_areAllClear.keep n [.snd, .fst, .snd, .blk] (codeOf Try.f136) (kEnd impl_areAllClear.E Try.f136 impl_areAllClear.con x)
def impl_areAllClear.LN2 (n : Nat) (x : (List (Int × ByteArray × Int)) × List ByteArray × Int) : Nat → St → Option (Bool) := loopN (exec impl_areAllClear.E impl_areAllClear.keep n (bodyOf (impl_areAllClear.at2 n x).1)) (St.norm 0 (impl_areAllClear.keep 2)) (impl_areAllClear.at2 n x).2
set_option maxRecDepth 100000 in
theorem impl_areAllClear.lem2 (n : Nat) (x : (List (Int × ByteArray × Int)) × List ByteArray × Int) : ∀ (k : Nat) (list0 : List (Int × ByteArray × Int)) (t2 : Int) (v9 : List ByteArray) (v10 : Int) (v11 : Int), impl_areAllClear.LN2 n x k (impl_areAllClear.st2 list0 t2 v9 v10 v11) = impl_areAllClear.l2 n k list0 t2 v9 v10 v11 := by
  intro k
  induction k with
  | zero => intro list0 t2 v9 v10 v11; rfl
  | succ k ih =>
    intro list0 t2 v9 v10 v11
    have h : impl_areAllClear.LN2 n x (k + 1) (impl_areAllClear.st2 list0 t2 v9 v10 v11) = impl_areAllClear.g2 (fun list0 t2 v9 v10 v11 => impl_areAllClear.LN2 n x k (impl_areAllClear.st2 list0 t2 v9 v10 v11)) list0 t2 v9 v10 v11 := by kernel_rfl
    rw [h]
    simp only [ih]
    rfl
set_option maxRecDepth 100000 in
theorem impl_areAllClear.body (n : Nat) (x : (List (Int × ByteArray × Int)) × List ByteArray × Int) : bodyF impl_areAllClear.E impl_areAllClear.keep n Try.f136 impl_areAllClear.con x = impl_areAllClear.fn n x.1 x.2.1 x.2.2 := by
  have h : bodyF impl_areAllClear.E impl_areAllClear.keep n Try.f136 impl_areAllClear.con x = impl_areAllClear.top (fun list0 t2 v9 v10 v11 => impl_areAllClear.LN2 n x n (impl_areAllClear.st2 list0 t2 v9 v10 v11)) x.1 x.2.1 x.2.2 := by kernel_rfl
  rw [h]
  simp only [impl_areAllClear.lem2]
  rfl
set_option maxRecDepth 100000 in
theorem impl_areAllClear.good : Good Try.prog 136 impl_areAllClear.con :=
  good_of tabok (cs := impl_areAllClear.cs) ⟨impl_isClear.good, trivial⟩ 0 false (fn := Try.f136) Try.func136 rfl (by decide) (by simp [impl_areAllClear.con]) impl_areAllClear.keep NN (fun _ => rfl) (fun x => impl_areAllClear.body NN x)
end
end Go.Ev.Try

namespace Go.Ev.Try
open Go.Proofs Go.Pl
set_option linter.unusedVariables false
noncomputable section
def impl_safe.con : Con := { ps := [(.val, (.pair .bool (.pair .bool (.pair .bool (.pair .bool (.pair .bool (.int .i64)))))))], rs := [(.val, (.pair .bool (.pair .bool (.pair .bool (.pair .bool (.pair .bool (.int .i64)))))))], F := fun x => impl_safe.f x }
def impl_safe.cs : List (FuncId × Con) := []
def impl_safe.E : Env := envOf tab impl_safe.cs 0 false
def impl_safe.keep (i : Nat) : List Nat := []
set_option maxRecDepth 100000 in
theorem impl_safe.body (n : Nat) (x : Bool × Bool × Bool × Bool × Bool × Int) : bodyF impl_safe.E impl_safe.keep n Try.f167 impl_safe.con x = impl_safe.fn n x := by
  have h : bodyF impl_safe.E impl_safe.keep n Try.f167 impl_safe.con x = impl_safe.top x := by kernel_rfl
  exact h
set_option maxRecDepth 100000 in
theorem impl_safe.good : Good Try.prog 167 impl_safe.con :=
  good_of tabok (cs := impl_safe.cs) trivial 0 false (fn := Try.f167) Try.func167 rfl (by decide) (by simp [impl_safe.con]) impl_safe.keep NN (fun _ => rfl) (fun x => impl_safe.body NN x)
end
end Go.Ev.Try

namespace Go.Ev.Try
open Go.Proofs Go.Pl
set_option linter.unusedVariables false
noncomputable section
def impl_giveInput.con : Con := { ps := [(.val, (.pair .bool (.pair .bool (.pair .bool (.pair .bool (.pair .bool (.int .i64))))))), (.val, (.int .i64))], rs := [(.val, (.pair .bool (.pair .bool (.pair .bool (.pair .bool (.pair .bool (.int .i64))))))), (.val, (.int .i64))], F := fun x => impl_giveInput.f x.1 x.2 }
def impl_giveInput.cs : List (FuncId × Con) := [(167, impl_safe.con)]
def impl_giveInput.E : Env := envOf tab impl_giveInput.cs 0 false
def impl_giveInput.keep (i : Nat) : List Nat := []
set_option maxRecDepth 100000 in
theorem impl_giveInput.body (n : Nat) (x : (Bool × Bool × Bool × Bool × Bool × Int) × Int) : bodyF impl_giveInput.E impl_giveInput.keep n Try.f160 impl_giveInput.con x = impl_giveInput.fn n x.1 x.2 := by
  have h : bodyF impl_giveInput.E impl_giveInput.keep n Try.f160 impl_giveInput.con x = impl_giveInput.top x.1 x.2 := by kernel_rfl
  exact h
set_option maxRecDepth 100000 in
theorem impl_giveInput.good : Good Try.prog 160 impl_giveInput.con :=
  good_of tabok (cs := impl_giveInput.cs) ⟨impl_safe.good, trivial⟩ 0 false (fn := Try.f160) Try.func160 rfl (by decide) (by simp [impl_giveInput.con]) impl_giveInput.keep NN (fun _ => rfl) (fun x => impl_giveInput.body NN x)
end
end Go.Ev.Try
