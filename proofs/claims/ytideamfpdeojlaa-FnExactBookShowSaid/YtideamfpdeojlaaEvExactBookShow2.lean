/- Part 2 of what the law FnExactBookShow stands on: an evaluator of the model's code, proved sound; the functions as plain texts; their contracts. -/
import Derived.Test.YtideamfpdeojlaaChecked
import Derived.Test.YtideamfpdeojlaaProg
import Derived.Test.YtideamfpdeojlaaRows
import Derived.Below
import Derived.Calls
import Derived.Carry
import Derived.ChangeArms
import Derived.ChangeKeysEq
import Derived.ChangeOld
import Derived.Deep.Quiet
import Derived.KernelRfl
import Derived.Laws.Append
import Derived.Laws.BytesString
import Derived.Laws.MakeOwn
import Derived.Laws.Strings
import Derived.Laws.StructEq
import Derived.OpenShut
import Derived.OrdersHeld
import Derived.ProofKit
import Derived.ShutString
import Derived.SizedLaws
import Derived.Tactics
import Derived.WalkKit
import Derived.WideShapes
import Derived.Test.YtideamfpdeojlaaEvExactBookShow1
namespace Go.Pl
open Go.Ev
set_option linter.unusedVariables false
noncomputable section
def laws_toInt64S.g9 (L9 : List Int → Int → List Int → Option (List Int × List Int)) (a0 : List Int) (i7 : Int) (out5 : List Int) : Option (List Int × List Int) :=
  if (decide ((i7 : Int) < (out5.length : Int))) = true then
    if (0 : Int) ≤ i7 ∧ (i7 : Int) < out5.length then
      L9 a0 (IntKind.i64.wrap (i7 + 1)) (out5.set (i7 : Int).toNat (-7000000000000000101))
    else
      none
  else if (0 : Int) ≤ (a0.length : Int) ∧ ((a0.length : Int) : Int) ≤ out5.length then
    some (out5.take ((a0.length : Int) : Int).toNat, out5.drop ((a0.length : Int) : Int).toNat)
  else
    none
def laws_toInt64S.l9 (n : Nat) : Nat → List Int → Int → List Int → Option (List Int × List Int)
  | 0 => fun _ _ _ => none
  | k + 1 => laws_toInt64S.g9 (laws_toInt64S.l9 n k)
def laws_toInt64S.g5 (I9 : List Int → Int → List Int → Option (List Int × List Int)) (L5 : List Int → Int → List Int → Option (List Int × List Int)) (a0 : List Int) (i6 : Int) (out5 : List Int) : Option (List Int × List Int) :=
  if (decide ((i6 : Int) < (a0.length : Int))) = true then
    if (0 : Int) ≤ i6 ∧ (i6 : Int) < a0.length then
      if (0 : Int) ≤ i6 ∧ (i6 : Int) < out5.length then
        L5 a0 (IntKind.i64.wrap (i6 + 1)) (out5.set (i6 : Int).toNat (a0.getD (i6 : Int).toNat 0))
      else
        none
    else
      none
  else
    I9 a0 (a0.length : Int) out5
def laws_toInt64S.l5 (n : Nat) : Nat → List Int → Int → List Int → Option (List Int × List Int)
  | 0 => fun _ _ _ => none
  | k + 1 => laws_toInt64S.g5 (laws_toInt64S.l9 n n) (laws_toInt64S.l5 n k)
def laws_toInt64S.top (I5 : List Int → Int → List Int → Option (List Int × List Int)) (a0 : List Int) (bare1 : Bool) : Option (List Int × List Int) :=
  if bare1 = true then
    if (((a0.length : Int) : Int) == 0) = true then
      some ([], [])
    else
      (laws_roomBehind.f (a0.length : Int)).bind fun r1 =>
      @ite _ ((0 : Int) ≤ (IntKind.i64.wrap ((a0.length : Int) + r1)) ∧ ((IntKind.i64.wrap ((a0.length : Int) + r1)) : Int) < room 8 ∧ ((IntKind.i64.wrap ((a0.length : Int) + r1)) : Int) = (IntKind.i64.wrap ((a0.length : Int) + r1))) (Classical.propDecidable _) (
        I5 a0 0 (List.replicate ((IntKind.i64.wrap ((a0.length : Int) + r1)) : Int).toNat 0)
      ) (
        none
      )
  else
    (laws_roomBehind.f (a0.length : Int)).bind fun r2 =>
    @ite _ ((0 : Int) ≤ (IntKind.i64.wrap ((a0.length : Int) + r2)) ∧ ((IntKind.i64.wrap ((a0.length : Int) + r2)) : Int) < room 8 ∧ ((IntKind.i64.wrap ((a0.length : Int) + r2)) : Int) = (IntKind.i64.wrap ((a0.length : Int) + r2))) (Classical.propDecidable _) (
      I5 a0 0 (List.replicate ((IntKind.i64.wrap ((a0.length : Int) + r2)) : Int).toNat 0)
    ) (
      none
    )
def laws_toInt64S.fn (n : Nat) (a0 : List Int) (bare1 : Bool) : Option (List Int × List Int) := laws_toInt64S.top (laws_toInt64S.l5 n n) a0 bare1
def laws_toInt64S.f (a0 : List Int) (bare1 : Bool) : Option (List Int × List Int) := laws_toInt64S.fn NN a0 bare1
end
end Go.Pl

namespace Go.Pl
open Go.Ev
set_option linter.unusedVariables false
noncomputable section
def laws_fillerArticle.top  : Option (ByteArray × Int × Int × Int × Int × Int × Int × Int × Int) :=
  some ((⟨#[126, 115, 112, 97, 114, 101, 126]⟩ : ByteArray), ((-7000000000000000101), ((-7000000000000000101), ((-7000000000000000101), ((-7000000000000000101), ((-7000000000000000101), ((-7000000000000000101), ((-7000000000000000101), (-7000000000000000101)))))))))
def laws_fillerArticle.fn (n : Nat)  : Option (ByteArray × Int × Int × Int × Int × Int × Int × Int × Int) := laws_fillerArticle.top 
def laws_fillerArticle.f  : Option (ByteArray × Int × Int × Int × Int × Int × Int × Int × Int) := laws_fillerArticle.fn NN 
end
end Go.Pl

namespace Go.Pl
open Go.Ev
set_option linter.unusedVariables false
noncomputable section
def laws_toArticle.top (a0 : ByteArray × Int × Int × Int × Int × Int × Int × Int × Int) : Option (ByteArray × Int × Int × Int × Int × Int × Int × Int × Int) :=
  some (a0.1, (a0.2.1, (a0.2.2.1, (a0.2.2.2.1, (a0.2.2.2.2.1, (a0.2.2.2.2.2.1, (a0.2.2.2.2.2.2.1, (a0.2.2.2.2.2.2.2.1, a0.2.2.2.2.2.2.2.2))))))))
def laws_toArticle.fn (n : Nat) (a0 : ByteArray × Int × Int × Int × Int × Int × Int × Int × Int) : Option (ByteArray × Int × Int × Int × Int × Int × Int × Int × Int) := laws_toArticle.top a0
def laws_toArticle.f (a0 : ByteArray × Int × Int × Int × Int × Int × Int × Int × Int) : Option (ByteArray × Int × Int × Int × Int × Int × Int × Int × Int) := laws_toArticle.fn NN a0
end
end Go.Pl

namespace Go.Pl
open Go.Ev
set_option linter.unusedVariables false
noncomputable section
def laws_toArticleS.g9 (L9 : (List (ByteArray × Int × Int × Int × Int × Int × Int × Int × Int)) → Int → (List (ByteArray × Int × Int × Int × Int × Int × Int × Int × Int)) → Option (List (ByteArray × Int × Int × Int × Int × Int × Int × Int × Int) × List (ByteArray × Int × Int × Int × Int × Int × Int × Int × Int))) (a0 : List (ByteArray × Int × Int × Int × Int × Int × Int × Int × Int)) (i7 : Int) (out5 : List (ByteArray × Int × Int × Int × Int × Int × Int × Int × Int)) : Option (List (ByteArray × Int × Int × Int × Int × Int × Int × Int × Int) × List (ByteArray × Int × Int × Int × Int × Int × Int × Int × Int)) :=
  if (decide ((i7 : Int) < (out5.length : Int))) = true then
    (laws_fillerArticle.f).bind fun r4 =>
    if (0 : Int) ≤ i7 ∧ (i7 : Int) < out5.length then
      L9 a0 (IntKind.i64.wrap (i7 + 1)) (out5.set (i7 : Int).toNat r4)
    else
      none
  else if (0 : Int) ≤ (a0.length : Int) ∧ ((a0.length : Int) : Int) ≤ out5.length then
    some (out5.take ((a0.length : Int) : Int).toNat, out5.drop ((a0.length : Int) : Int).toNat)
  else
    none
def laws_toArticleS.l9 (n : Nat) : Nat → (List (ByteArray × Int × Int × Int × Int × Int × Int × Int × Int)) → Int → (List (ByteArray × Int × Int × Int × Int × Int × Int × Int × Int)) → Option (List (ByteArray × Int × Int × Int × Int × Int × Int × Int × Int) × List (ByteArray × Int × Int × Int × Int × Int × Int × Int × Int))
  | 0 => fun _ _ _ => none
  | k + 1 => laws_toArticleS.g9 (laws_toArticleS.l9 n k)
def laws_toArticleS.g5 (I9 : (List (ByteArray × Int × Int × Int × Int × Int × Int × Int × Int)) → Int → (List (ByteArray × Int × Int × Int × Int × Int × Int × Int × Int)) → Option (List (ByteArray × Int × Int × Int × Int × Int × Int × Int × Int) × List (ByteArray × Int × Int × Int × Int × Int × Int × Int × Int))) (L5 : (List (ByteArray × Int × Int × Int × Int × Int × Int × Int × Int)) → Int → (List (ByteArray × Int × Int × Int × Int × Int × Int × Int × Int)) → Option (List (ByteArray × Int × Int × Int × Int × Int × Int × Int × Int) × List (ByteArray × Int × Int × Int × Int × Int × Int × Int × Int))) (a0 : List (ByteArray × Int × Int × Int × Int × Int × Int × Int × Int)) (i6 : Int) (out5 : List (ByteArray × Int × Int × Int × Int × Int × Int × Int × Int)) : Option (List (ByteArray × Int × Int × Int × Int × Int × Int × Int × Int) × List (ByteArray × Int × Int × Int × Int × Int × Int × Int × Int)) :=
  if (decide ((i6 : Int) < (a0.length : Int))) = true then
    if (0 : Int) ≤ i6 ∧ (i6 : Int) < a0.length then
      (laws_toArticle.f (a0.getD (i6 : Int).toNat (ByteArray.empty, (0, (0, (0, (0, (0, (0, (0, 0)))))))))).bind fun r3 =>
      if (0 : Int) ≤ i6 ∧ (i6 : Int) < out5.length then
        L5 a0 (IntKind.i64.wrap (i6 + 1)) (out5.set (i6 : Int).toNat (r3.1, (r3.2.1, (r3.2.2.1, (r3.2.2.2.1, (r3.2.2.2.2.1, (r3.2.2.2.2.2.1, (r3.2.2.2.2.2.2.1, (r3.2.2.2.2.2.2.2.1, r3.2.2.2.2.2.2.2.2)))))))))
      else
        none
    else
      none
  else
    I9 a0 (a0.length : Int) out5
def laws_toArticleS.l5 (n : Nat) : Nat → (List (ByteArray × Int × Int × Int × Int × Int × Int × Int × Int)) → Int → (List (ByteArray × Int × Int × Int × Int × Int × Int × Int × Int)) → Option (List (ByteArray × Int × Int × Int × Int × Int × Int × Int × Int) × List (ByteArray × Int × Int × Int × Int × Int × Int × Int × Int))
  | 0 => fun _ _ _ => none
  | k + 1 => laws_toArticleS.g5 (laws_toArticleS.l9 n n) (laws_toArticleS.l5 n k)
def laws_toArticleS.top (I5 : (List (ByteArray × Int × Int × Int × Int × Int × Int × Int × Int)) → Int → (List (ByteArray × Int × Int × Int × Int × Int × Int × Int × Int)) → Option (List (ByteArray × Int × Int × Int × Int × Int × Int × Int × Int) × List (ByteArray × Int × Int × Int × Int × Int × Int × Int × Int))) (a0 : List (ByteArray × Int × Int × Int × Int × Int × Int × Int × Int)) (bare1 : Bool) : Option (List (ByteArray × Int × Int × Int × Int × Int × Int × Int × Int) × List (ByteArray × Int × Int × Int × Int × Int × Int × Int × Int)) :=
  if bare1 = true then
    if (((a0.length : Int) : Int) == 0) = true then
      some ([], [])
    else
      (laws_roomBehind.f (a0.length : Int)).bind fun r1 =>
      @ite _ ((0 : Int) ≤ (IntKind.i64.wrap ((a0.length : Int) + r1)) ∧ ((IntKind.i64.wrap ((a0.length : Int) + r1)) : Int) < room 80 ∧ ((IntKind.i64.wrap ((a0.length : Int) + r1)) : Int) = (IntKind.i64.wrap ((a0.length : Int) + r1))) (Classical.propDecidable _) (
        I5 a0 0 (List.replicate ((IntKind.i64.wrap ((a0.length : Int) + r1)) : Int).toNat (ByteArray.empty, (0, (0, (0, (0, (0, (0, (0, 0)))))))))
      ) (
        none
      )
  else
    (laws_roomBehind.f (a0.length : Int)).bind fun r2 =>
    @ite _ ((0 : Int) ≤ (IntKind.i64.wrap ((a0.length : Int) + r2)) ∧ ((IntKind.i64.wrap ((a0.length : Int) + r2)) : Int) < room 80 ∧ ((IntKind.i64.wrap ((a0.length : Int) + r2)) : Int) = (IntKind.i64.wrap ((a0.length : Int) + r2))) (Classical.propDecidable _) (
      I5 a0 0 (List.replicate ((IntKind.i64.wrap ((a0.length : Int) + r2)) : Int).toNat (ByteArray.empty, (0, (0, (0, (0, (0, (0, (0, 0)))))))))
    ) (
      none
    )
def laws_toArticleS.fn (n : Nat) (a0 : List (ByteArray × Int × Int × Int × Int × Int × Int × Int × Int)) (bare1 : Bool) : Option (List (ByteArray × Int × Int × Int × Int × Int × Int × Int × Int) × List (ByteArray × Int × Int × Int × Int × Int × Int × Int × Int)) := laws_toArticleS.top (laws_toArticleS.l5 n n) a0 bare1
def laws_toArticleS.f (a0 : List (ByteArray × Int × Int × Int × Int × Int × Int × Int × Int)) (bare1 : Bool) : Option (List (ByteArray × Int × Int × Int × Int × Int × Int × Int × Int) × List (ByteArray × Int × Int × Int × Int × Int × Int × Int × Int)) := laws_toArticleS.fn NN a0 bare1
end
end Go.Pl

namespace Go.Pl
open Go.Ev
set_option linter.unusedVariables false
noncomputable section
def laws_fillerBar.top  : Option (Int × Int) :=
  some ((-7000000000000000101), (-7000000000000000101))
def laws_fillerBar.fn (n : Nat)  : Option (Int × Int) := laws_fillerBar.top 
def laws_fillerBar.f  : Option (Int × Int) := laws_fillerBar.fn NN 
end
end Go.Pl

namespace Go.Pl
open Go.Ev
set_option linter.unusedVariables false
noncomputable section
def laws_toBar.top (a0 : Int × Int) : Option (Int × Int) :=
  some (a0.1, a0.2)
def laws_toBar.fn (n : Nat) (a0 : Int × Int) : Option (Int × Int) := laws_toBar.top a0
def laws_toBar.f (a0 : Int × Int) : Option (Int × Int) := laws_toBar.fn NN a0
end
end Go.Pl

namespace Go.Pl
open Go.Ev
set_option linter.unusedVariables false
noncomputable section
def laws_toBarS.g9 (L9 : (List (Int × Int)) → Int → (List (Int × Int)) → Option (List (Int × Int) × List (Int × Int))) (a0 : List (Int × Int)) (i7 : Int) (out5 : List (Int × Int)) : Option (List (Int × Int) × List (Int × Int)) :=
  if (decide ((i7 : Int) < (out5.length : Int))) = true then
    (laws_fillerBar.f).bind fun r4 =>
    if (0 : Int) ≤ i7 ∧ (i7 : Int) < out5.length then
      L9 a0 (IntKind.i64.wrap (i7 + 1)) (out5.set (i7 : Int).toNat r4)
    else
      none
  else if (0 : Int) ≤ (a0.length : Int) ∧ ((a0.length : Int) : Int) ≤ out5.length then
    some (out5.take ((a0.length : Int) : Int).toNat, out5.drop ((a0.length : Int) : Int).toNat)
  else
    none
def laws_toBarS.l9 (n : Nat) : Nat → (List (Int × Int)) → Int → (List (Int × Int)) → Option (List (Int × Int) × List (Int × Int))
  | 0 => fun _ _ _ => none
  | k + 1 => laws_toBarS.g9 (laws_toBarS.l9 n k)
def laws_toBarS.g5 (I9 : (List (Int × Int)) → Int → (List (Int × Int)) → Option (List (Int × Int) × List (Int × Int))) (L5 : (List (Int × Int)) → Int → (List (Int × Int)) → Option (List (Int × Int) × List (Int × Int))) (a0 : List (Int × Int)) (i6 : Int) (out5 : List (Int × Int)) : Option (List (Int × Int) × List (Int × Int)) :=
  if (decide ((i6 : Int) < (a0.length : Int))) = true then
    if (0 : Int) ≤ i6 ∧ (i6 : Int) < a0.length then
      (laws_toBar.f (a0.getD (i6 : Int).toNat (0, 0))).bind fun r3 =>
      if (0 : Int) ≤ i6 ∧ (i6 : Int) < out5.length then
        L5 a0 (IntKind.i64.wrap (i6 + 1)) (out5.set (i6 : Int).toNat (r3.1, r3.2))
      else
        none
    else
      none
  else
    I9 a0 (a0.length : Int) out5
def laws_toBarS.l5 (n : Nat) : Nat → (List (Int × Int)) → Int → (List (Int × Int)) → Option (List (Int × Int) × List (Int × Int))
  | 0 => fun _ _ _ => none
  | k + 1 => laws_toBarS.g5 (laws_toBarS.l9 n n) (laws_toBarS.l5 n k)
def laws_toBarS.top (I5 : (List (Int × Int)) → Int → (List (Int × Int)) → Option (List (Int × Int) × List (Int × Int))) (a0 : List (Int × Int)) (bare1 : Bool) : Option (List (Int × Int) × List (Int × Int)) :=
  if bare1 = true then
    if (((a0.length : Int) : Int) == 0) = true then
      some ([], [])
    else
      (laws_roomBehind.f (a0.length : Int)).bind fun r1 =>
      @ite _ ((0 : Int) ≤ (IntKind.i64.wrap ((a0.length : Int) + r1)) ∧ ((IntKind.i64.wrap ((a0.length : Int) + r1)) : Int) < room 16 ∧ ((IntKind.i64.wrap ((a0.length : Int) + r1)) : Int) = (IntKind.i64.wrap ((a0.length : Int) + r1))) (Classical.propDecidable _) (
        I5 a0 0 (List.replicate ((IntKind.i64.wrap ((a0.length : Int) + r1)) : Int).toNat (0, 0))
      ) (
        none
      )
  else
    (laws_roomBehind.f (a0.length : Int)).bind fun r2 =>
    @ite _ ((0 : Int) ≤ (IntKind.i64.wrap ((a0.length : Int) + r2)) ∧ ((IntKind.i64.wrap ((a0.length : Int) + r2)) : Int) < room 16 ∧ ((IntKind.i64.wrap ((a0.length : Int) + r2)) : Int) = (IntKind.i64.wrap ((a0.length : Int) + r2))) (Classical.propDecidable _) (
      I5 a0 0 (List.replicate ((IntKind.i64.wrap ((a0.length : Int) + r2)) : Int).toNat (0, 0))
    ) (
      none
    )
def laws_toBarS.fn (n : Nat) (a0 : List (Int × Int)) (bare1 : Bool) : Option (List (Int × Int) × List (Int × Int)) := laws_toBarS.top (laws_toBarS.l5 n n) a0 bare1
def laws_toBarS.f (a0 : List (Int × Int)) (bare1 : Bool) : Option (List (Int × Int) × List (Int × Int)) := laws_toBarS.fn NN a0 bare1
end
end Go.Pl

namespace Go.Pl
open Go.Ev
set_option linter.unusedVariables false
noncomputable section
def laws_fillerCue.top  : Option (Int × Int × ByteArray × Int) :=
  some ((-7000000000000000101), ((-7000000000000000101), ((⟨#[126, 115, 112, 97, 114, 101, 126]⟩ : ByteArray), (-7000000000000000101))))
def laws_fillerCue.fn (n : Nat)  : Option (Int × Int × ByteArray × Int) := laws_fillerCue.top 
def laws_fillerCue.f  : Option (Int × Int × ByteArray × Int) := laws_fillerCue.fn NN 
end
end Go.Pl

namespace Go.Pl
open Go.Ev
set_option linter.unusedVariables false
noncomputable section
def laws_toCue.top (a0 : Int × Int × ByteArray × Int) : Option (Int × Int × ByteArray × Int) :=
  some (a0.1, (a0.2.1, (a0.2.2.1, a0.2.2.2)))
def laws_toCue.fn (n : Nat) (a0 : Int × Int × ByteArray × Int) : Option (Int × Int × ByteArray × Int) := laws_toCue.top a0
def laws_toCue.f (a0 : Int × Int × ByteArray × Int) : Option (Int × Int × ByteArray × Int) := laws_toCue.fn NN a0
end
end Go.Pl

namespace Go.Pl
open Go.Ev
set_option linter.unusedVariables false
noncomputable section
def laws_toCueS.g9 (L9 : (List (Int × Int × ByteArray × Int)) → Int → (List (Int × Int × ByteArray × Int)) → Option (List (Int × Int × ByteArray × Int) × List (Int × Int × ByteArray × Int))) (a0 : List (Int × Int × ByteArray × Int)) (i7 : Int) (out5 : List (Int × Int × ByteArray × Int)) : Option (List (Int × Int × ByteArray × Int) × List (Int × Int × ByteArray × Int)) :=
  if (decide ((i7 : Int) < (out5.length : Int))) = true then
    (laws_fillerCue.f).bind fun r4 =>
    if (0 : Int) ≤ i7 ∧ (i7 : Int) < out5.length then
      L9 a0 (IntKind.i64.wrap (i7 + 1)) (out5.set (i7 : Int).toNat r4)
    else
      none
  else if (0 : Int) ≤ (a0.length : Int) ∧ ((a0.length : Int) : Int) ≤ out5.length then
    some (out5.take ((a0.length : Int) : Int).toNat, out5.drop ((a0.length : Int) : Int).toNat)
  else
    none
def laws_toCueS.l9 (n : Nat) : Nat → (List (Int × Int × ByteArray × Int)) → Int → (List (Int × Int × ByteArray × Int)) → Option (List (Int × Int × ByteArray × Int) × List (Int × Int × ByteArray × Int))
  | 0 => fun _ _ _ => none
  | k + 1 => laws_toCueS.g9 (laws_toCueS.l9 n k)
def laws_toCueS.g5 (I9 : (List (Int × Int × ByteArray × Int)) → Int → (List (Int × Int × ByteArray × Int)) → Option (List (Int × Int × ByteArray × Int) × List (Int × Int × ByteArray × Int))) (L5 : (List (Int × Int × ByteArray × Int)) → Int → (List (Int × Int × ByteArray × Int)) → Option (List (Int × Int × ByteArray × Int) × List (Int × Int × ByteArray × Int))) (a0 : List (Int × Int × ByteArray × Int)) (i6 : Int) (out5 : List (Int × Int × ByteArray × Int)) : Option (List (Int × Int × ByteArray × Int) × List (Int × Int × ByteArray × Int)) :=
  if (decide ((i6 : Int) < (a0.length : Int))) = true then
    if (0 : Int) ≤ i6 ∧ (i6 : Int) < a0.length then
      (laws_toCue.f (a0.getD (i6 : Int).toNat (0, (0, (ByteArray.empty, 0))))).bind fun r3 =>
      if (0 : Int) ≤ i6 ∧ (i6 : Int) < out5.length then
        L5 a0 (IntKind.i64.wrap (i6 + 1)) (out5.set (i6 : Int).toNat (r3.1, (r3.2.1, (r3.2.2.1, r3.2.2.2))))
      else
        none
    else
      none
  else
    I9 a0 (a0.length : Int) out5
def laws_toCueS.l5 (n : Nat) : Nat → (List (Int × Int × ByteArray × Int)) → Int → (List (Int × Int × ByteArray × Int)) → Option (List (Int × Int × ByteArray × Int) × List (Int × Int × ByteArray × Int))
  | 0 => fun _ _ _ => none
  | k + 1 => laws_toCueS.g5 (laws_toCueS.l9 n n) (laws_toCueS.l5 n k)
def laws_toCueS.top (I5 : (List (Int × Int × ByteArray × Int)) → Int → (List (Int × Int × ByteArray × Int)) → Option (List (Int × Int × ByteArray × Int) × List (Int × Int × ByteArray × Int))) (a0 : List (Int × Int × ByteArray × Int)) (bare1 : Bool) : Option (List (Int × Int × ByteArray × Int) × List (Int × Int × ByteArray × Int)) :=
  if bare1 = true then
    if (((a0.length : Int) : Int) == 0) = true then
      some ([], [])
    else
      (laws_roomBehind.f (a0.length : Int)).bind fun r1 =>
      @ite _ ((0 : Int) ≤ (IntKind.i64.wrap ((a0.length : Int) + r1)) ∧ ((IntKind.i64.wrap ((a0.length : Int) + r1)) : Int) < room 40 ∧ ((IntKind.i64.wrap ((a0.length : Int) + r1)) : Int) = (IntKind.i64.wrap ((a0.length : Int) + r1))) (Classical.propDecidable _) (
        I5 a0 0 (List.replicate ((IntKind.i64.wrap ((a0.length : Int) + r1)) : Int).toNat (0, (0, (ByteArray.empty, 0))))
      ) (
        none
      )
  else
    (laws_roomBehind.f (a0.length : Int)).bind fun r2 =>
    @ite _ ((0 : Int) ≤ (IntKind.i64.wrap ((a0.length : Int) + r2)) ∧ ((IntKind.i64.wrap ((a0.length : Int) + r2)) : Int) < room 40 ∧ ((IntKind.i64.wrap ((a0.length : Int) + r2)) : Int) = (IntKind.i64.wrap ((a0.length : Int) + r2))) (Classical.propDecidable _) (
      I5 a0 0 (List.replicate ((IntKind.i64.wrap ((a0.length : Int) + r2)) : Int).toNat (0, (0, (ByteArray.empty, 0))))
    ) (
      none
    )
def laws_toCueS.fn (n : Nat) (a0 : List (Int × Int × ByteArray × Int)) (bare1 : Bool) : Option (List (Int × Int × ByteArray × Int) × List (Int × Int × ByteArray × Int)) := laws_toCueS.top (laws_toCueS.l5 n n) a0 bare1
def laws_toCueS.f (a0 : List (Int × Int × ByteArray × Int)) (bare1 : Bool) : Option (List (Int × Int × ByteArray × Int) × List (Int × Int × ByteArray × Int)) := laws_toCueS.fn NN a0 bare1
end
end Go.Pl

namespace Go.Pl
open Go.Ev
set_option linter.unusedVariables false
noncomputable section
def laws_toShow.top (a0 : (List (Int × Int)) × (List (ByteArray × Int × Int × Int × Int × Int × Int × Int × Int)) × List (Int × Int × ByteArray × Int)) (bare1 : Bool) : Option ((List (Int × Int) × List (Int × Int)) × (List (ByteArray × Int × Int × Int × Int × Int × Int × Int × Int) × List (ByteArray × Int × Int × Int × Int × Int × Int × Int × Int)) × List (Int × Int × ByteArray × Int) × List (Int × Int × ByteArray × Int)) :=
  (laws_toBarS.f a0.1 bare1).bind fun r1 =>
  (laws_toArticleS.f a0.2.1 bare1).bind fun r2 =>
  (laws_toCueS.f a0.2.2 bare1).bind fun r3 =>
  some ((r1.1, r1.2), ((r2.1, r2.2), (r3.1, r3.2)))
def laws_toShow.fn (n : Nat) (a0 : (List (Int × Int)) × (List (ByteArray × Int × Int × Int × Int × Int × Int × Int × Int)) × List (Int × Int × ByteArray × Int)) (bare1 : Bool) : Option ((List (Int × Int) × List (Int × Int)) × (List (ByteArray × Int × Int × Int × Int × Int × Int × Int × Int) × List (ByteArray × Int × Int × Int × Int × Int × Int × Int × Int)) × List (Int × Int × ByteArray × Int) × List (Int × Int × ByteArray × Int)) := laws_toShow.top a0 bare1
def laws_toShow.f (a0 : (List (Int × Int)) × (List (ByteArray × Int × Int × Int × Int × Int × Int × Int × Int)) × List (Int × Int × ByteArray × Int)) (bare1 : Bool) : Option ((List (Int × Int) × List (Int × Int)) × (List (ByteArray × Int × Int × Int × Int × Int × Int × Int × Int) × List (ByteArray × Int × Int × Int × Int × Int × Int × Int × Int)) × List (Int × Int × ByteArray × Int) × List (Int × Int × ByteArray × Int)) := laws_toShow.fn NN a0 bare1
end
end Go.Pl

namespace Go.Pl
open Go.Ev
set_option linter.unusedVariables false
noncomputable section
def spec_l01In.top (n0 : Int) (low1 : Int) (high2 : Int) : Option Bool :=
  if (decide ((low1 : Int) ≤ n0)) = true then
    some (decide ((n0 : Int) ≤ high2))
  else
    some false
def spec_l01In.fn (n : Nat) (n0 : Int) (low1 : Int) (high2 : Int) : Option Bool := spec_l01In.top n0 low1 high2
def spec_l01In.f (n0 : Int) (low1 : Int) (high2 : Int) : Option Bool := spec_l01In.fn NN n0 low1 high2
end
end Go.Pl

namespace Go.Pl
open Go.Ev
set_option linter.unusedVariables false
noncomputable section
def spec_IsWord.g2 (L2 : ByteArray → Int → Option Bool) (s0 : ByteArray) (i3 : Int) : Option Bool :=
  if (decide ((i3 : Int) < (s0.size : Int))) = true then
    if (0 : Int) ≤ i3 ∧ (i3 : Int) < s0.size then
      if (decide (((bt s0 i3) : Int) < 97)) = false then
        if (0 : Int) ≤ i3 ∧ (i3 : Int) < s0.size then
          if (decide ((122 : Int) < (bt s0 i3))) = true then
            some false
          else
            L2 s0 (IntKind.i64.wrap (i3 + 1))
        else
          none
      else
        some false
    else
      none
  else
    (spec_l01In.f (s0.size : Int) 1 16).bind fun r1 =>
    some r1
def spec_IsWord.l2 (n : Nat) : Nat → ByteArray → Int → Option Bool
  | 0 => fun _ _ => none
  | k + 1 => spec_IsWord.g2 (spec_IsWord.l2 n k)
def spec_IsWord.top (I2 : ByteArray → Int → Option Bool) (s0 : ByteArray) : Option Bool :=
  I2 s0 0
def spec_IsWord.fn (n : Nat) (s0 : ByteArray) : Option Bool := spec_IsWord.top (spec_IsWord.l2 n n) s0
def spec_IsWord.f (s0 : ByteArray) : Option Bool := spec_IsWord.fn NN s0
end
end Go.Pl

namespace Go.Pl
open Go.Ev
set_option linter.unusedVariables false
noncomputable section
def spec_l32Left.g3 (L3 : (List (Int × ByteArray × Int)) → ByteArray → Int → Int → Int → Option Int) (list0 : List (Int × ByteArray × Int)) (article1 : ByteArray) (n2 : Int) (left7 : Int) (i8 : Int) : Option Int :=
  if (decide ((i8 : Int) < n2)) = true then
    if (0 : Int) ≤ i8 ∧ (i8 : Int) < list0.length then
      if (!((((list0.getD (i8 : Int).toNat (0, (ByteArray.empty, 0))).2).1).toList == article1.toList)) = true then
        L3 list0 article1 n2 left7 (IntKind.i64.wrap (i8 + 1))
      else if (0 : Int) ≤ i8 ∧ (i8 : Int) < list0.length then
        if ((((list0.getD (i8 : Int).toNat (0, (ByteArray.empty, 0))).1) : Int) == 0) = true then
          if (0 : Int) ≤ i8 ∧ (i8 : Int) < list0.length then
            L3 list0 article1 n2 (IntKind.i64.wrap (left7 + (((list0.getD (i8 : Int).toNat (0, (ByteArray.empty, 0))).2).2))) (IntKind.i64.wrap (i8 + 1))
          else
            none
        else if (0 : Int) ≤ i8 ∧ (i8 : Int) < list0.length then
          L3 list0 article1 n2 (IntKind.i64.wrap (left7 - (((list0.getD (i8 : Int).toNat (0, (ByteArray.empty, 0))).2).2))) (IntKind.i64.wrap (i8 + 1))
        else
          none
      else
        none
    else
      none
  else
    some left7
def spec_l32Left.l3 (n : Nat) : Nat → (List (Int × ByteArray × Int)) → ByteArray → Int → Int → Int → Option Int
  | 0 => fun _ _ _ _ _ => none
  | k + 1 => spec_l32Left.g3 (spec_l32Left.l3 n k)
def spec_l32Left.top (I3 : (List (Int × ByteArray × Int)) → ByteArray → Int → Int → Int → Option Int) (list0 : List (Int × ByteArray × Int)) (article1 : ByteArray) (n2 : Int) : Option Int :=
  I3 list0 article1 n2 0 0
def spec_l32Left.fn (n : Nat) (list0 : List (Int × ByteArray × Int)) (article1 : ByteArray) (n2 : Int) : Option Int := spec_l32Left.top (spec_l32Left.l3 n n) list0 article1 n2
def spec_l32Left.f (list0 : List (Int × ByteArray × Int)) (article1 : ByteArray) (n2 : Int) : Option Int := spec_l32Left.fn NN list0 article1 n2
end
end Go.Pl

namespace Go.Pl
open Go.Ev
set_option linter.unusedVariables false
noncomputable section
def spec_AreBookings.g2 (L2 : (List (Int × ByteArray × Int)) → Int → Option Bool) (list0 : List (Int × ByteArray × Int)) (i3 : Int) : Option Bool :=
  if (decide ((i3 : Int) < (list0.length : Int))) = true then
    if (0 : Int) ≤ i3 ∧ (i3 : Int) < list0.length then
      (spec_l01In.f ((list0.getD (i3 : Int).toNat (0, (ByteArray.empty, 0))).1) 0 3).bind fun r1 =>
      if (!r1) = false then
        (spec_IsWord.f (((list0.getD (i3 : Int).toNat (0, (ByteArray.empty, 0))).2).1)).bind fun r2 =>
        if (!r2) = false then
          (spec_l01In.f (((list0.getD (i3 : Int).toNat (0, (ByteArray.empty, 0))).2).2) 1 1000).bind fun r3 =>
          if (!r3) = false then
            (spec_l32Left.f list0 (((list0.getD (i3 : Int).toNat (0, (ByteArray.empty, 0))).2).1) (IntKind.i64.wrap (i3 + 1))).bind fun r4 =>
            if (decide ((r4 : Int) < 0)) = true then
              some false
            else
              L2 list0 (IntKind.i64.wrap (i3 + 1))
          else
            some false
        else
          some false
      else
        some false
    else
      none
  else
    some (decide (((list0.length : Int) : Int) ≤ 60))
def spec_AreBookings.l2 (n : Nat) : Nat → (List (Int × ByteArray × Int)) → Int → Option Bool
  | 0 => fun _ _ => none
  | k + 1 => spec_AreBookings.g2 (spec_AreBookings.l2 n k)
def spec_AreBookings.top (I2 : (List (Int × ByteArray × Int)) → Int → Option Bool) (list0 : List (Int × ByteArray × Int)) : Option Bool :=
  I2 list0 0
def spec_AreBookings.fn (n : Nat) (list0 : List (Int × ByteArray × Int)) : Option Bool := spec_AreBookings.top (spec_AreBookings.l2 n n) list0
def spec_AreBookings.f (list0 : List (Int × ByteArray × Int)) : Option Bool := spec_AreBookings.fn NN list0
end
end Go.Pl

namespace Go.Pl
open Go.Ev
set_option linter.unusedVariables false
noncomputable section
def spec_IsArticle.top (a0 : ByteArray × Int × Int × Int × Int × Int × Int × Int × Int) : Option Bool :=
  (spec_IsWord.f a0.1).bind fun r1 =>
  if r1 = true then
    (spec_l01In.f a0.2.1 0 3).bind fun r2 =>
    if r2 = true then
      (spec_l01In.f a0.2.2.1 20 300).bind fun r3 =>
      if r3 = true then
        (spec_l01In.f a0.2.2.2.1 0 10000).bind fun r4 =>
        if r4 = true then
          (spec_l01In.f a0.2.2.2.2.1 0 a0.2.2.2.1).bind fun r5 =>
          if r5 = true then
            (spec_l01In.f a0.2.2.2.2.2.1 1 50).bind fun r6 =>
            if r6 = true then
              (spec_l01In.f a0.2.2.2.2.2.2.1 0 10000).bind fun r7 =>
              if r7 = true then
                (spec_l01In.f a0.2.2.2.2.2.2.2.1 1 100000).bind fun r8 =>
                if r8 = true then
                  (spec_l01In.f a0.2.2.2.2.2.2.2.2 0 3).bind fun r9 =>
                  some r9
                else
                  some false
              else
                some false
            else
              some false
          else
            some false
        else
          some false
      else
        some false
    else
      some false
  else
    some false
def spec_IsArticle.fn (n : Nat) (a0 : ByteArray × Int × Int × Int × Int × Int × Int × Int × Int) : Option Bool := spec_IsArticle.top a0
def spec_IsArticle.f (a0 : ByteArray × Int × Int × Int × Int × Int × Int × Int × Int) : Option Bool := spec_IsArticle.fn NN a0
end
end Go.Pl

namespace Go.Pl
open Go.Ev
set_option linter.unusedVariables false
noncomputable section
def spec_AreArticles.g2 (L2 : (List (ByteArray × Int × Int × Int × Int × Int × Int × Int × Int)) → Int → Option Bool) (list0 : List (ByteArray × Int × Int × Int × Int × Int × Int × Int × Int)) (i3 : Int) : Option Bool :=
  if (decide ((i3 : Int) < (list0.length : Int))) = true then
    if (0 : Int) ≤ i3 ∧ (i3 : Int) < list0.length then
      (spec_IsArticle.f (list0.getD (i3 : Int).toNat (ByteArray.empty, (0, (0, (0, (0, (0, (0, (0, 0)))))))))).bind fun r1 =>
      if (!r1) = false then
        if (decide ((0 : Int) < i3)) = true then
          if (0 : Int) ≤ (IntKind.i64.wrap (i3 - 1)) ∧ ((IntKind.i64.wrap (i3 - 1)) : Int) < list0.length then
            if (0 : Int) ≤ i3 ∧ (i3 : Int) < list0.length then
              if (!(Op.bytesLess ((list0.getD ((IntKind.i64.wrap (i3 - 1)) : Int).toNat (ByteArray.empty, (0, (0, (0, (0, (0, (0, (0, 0))))))))).1).toList ((list0.getD (i3 : Int).toNat (ByteArray.empty, (0, (0, (0, (0, (0, (0, (0, 0))))))))).1).toList)) = true then
                some false
              else
                L2 list0 (IntKind.i64.wrap (i3 + 1))
            else
              none
          else
            none
        else
          L2 list0 (IntKind.i64.wrap (i3 + 1))
      else
        some false
    else
      none
  else
    some (decide (((list0.length : Int) : Int) ≤ 12))
def spec_AreArticles.l2 (n : Nat) : Nat → (List (ByteArray × Int × Int × Int × Int × Int × Int × Int × Int)) → Int → Option Bool
  | 0 => fun _ _ => none
  | k + 1 => spec_AreArticles.g2 (spec_AreArticles.l2 n k)
def spec_AreArticles.top (I2 : (List (ByteArray × Int × Int × Int × Int × Int × Int × Int × Int)) → Int → Option Bool) (list0 : List (ByteArray × Int × Int × Int × Int × Int × Int × Int × Int)) : Option Bool :=
  I2 list0 0
def spec_AreArticles.fn (n : Nat) (list0 : List (ByteArray × Int × Int × Int × Int × Int × Int × Int × Int)) : Option Bool := spec_AreArticles.top (spec_AreArticles.l2 n n) list0
def spec_AreArticles.f (list0 : List (ByteArray × Int × Int × Int × Int × Int × Int × Int × Int)) : Option Bool := spec_AreArticles.fn NN list0
end
end Go.Pl

namespace Go.Pl
open Go.Ev
set_option linter.unusedVariables false
noncomputable section
def spec_IsScore.g2 (L2 : (List (Int × Int)) → Int → Option Bool) (list0 : List (Int × Int)) (i3 : Int) : Option Bool :=
  if (decide ((i3 : Int) < (list0.length : Int))) = true then
    if (0 : Int) ≤ i3 ∧ (i3 : Int) < list0.length then
      (spec_l01In.f ((list0.getD (i3 : Int).toNat (0, 0)).1) 1 16).bind fun r1 =>
      if (!r1) = false then
        if (0 : Int) ≤ i3 ∧ (i3 : Int) < list0.length then
          (spec_l01In.f ((list0.getD (i3 : Int).toNat (0, 0)).2) 100 5000).bind fun r2 =>
          if (!r2) = true then
            some false
          else
            L2 list0 (IntKind.i64.wrap (i3 + 1))
        else
          none
      else
        some false
    else
      none
  else
    (spec_l01In.f (list0.length : Int) 1 20).bind fun r3 =>
    some r3
def spec_IsScore.l2 (n : Nat) : Nat → (List (Int × Int)) → Int → Option Bool
  | 0 => fun _ _ => none
  | k + 1 => spec_IsScore.g2 (spec_IsScore.l2 n k)
def spec_IsScore.top (I2 : (List (Int × Int)) → Int → Option Bool) (list0 : List (Int × Int)) : Option Bool :=
  I2 list0 0
def spec_IsScore.fn (n : Nat) (list0 : List (Int × Int)) : Option Bool := spec_IsScore.top (spec_IsScore.l2 n n) list0
def spec_IsScore.f (list0 : List (Int × Int)) : Option Bool := spec_IsScore.fn NN list0
end
end Go.Pl

namespace Go.Pl
open Go.Ev
set_option linter.unusedVariables false
noncomputable section
def spec_l03Find.g2 (L2 : (List (ByteArray × Int × Int × Int × Int × Int × Int × Int × Int)) → ByteArray → Int → Option Int) (list0 : List (ByteArray × Int × Int × Int × Int × Int × Int × Int × Int)) (code1 : ByteArray) (i5 : Int) : Option Int :=
  if (decide ((i5 : Int) < (list0.length : Int))) = true then
    if (0 : Int) ≤ i5 ∧ (i5 : Int) < list0.length then
      if (((list0.getD (i5 : Int).toNat (ByteArray.empty, (0, (0, (0, (0, (0, (0, (0, 0))))))))).1).toList == code1.toList) = true then
        some i5
      else
        L2 list0 code1 (IntKind.i64.wrap (i5 + 1))
    else
      none
  else
    some (-1)
def spec_l03Find.l2 (n : Nat) : Nat → (List (ByteArray × Int × Int × Int × Int × Int × Int × Int × Int)) → ByteArray → Int → Option Int
  | 0 => fun _ _ _ => none
  | k + 1 => spec_l03Find.g2 (spec_l03Find.l2 n k)
def spec_l03Find.top (I2 : (List (ByteArray × Int × Int × Int × Int × Int × Int × Int × Int)) → ByteArray → Int → Option Int) (list0 : List (ByteArray × Int × Int × Int × Int × Int × Int × Int × Int)) (code1 : ByteArray) : Option Int :=
  I2 list0 code1 0
def spec_l03Find.fn (n : Nat) (list0 : List (ByteArray × Int × Int × Int × Int × Int × Int × Int × Int)) (code1 : ByteArray) : Option Int := spec_l03Find.top (spec_l03Find.l2 n n) list0 code1
def spec_l03Find.f (list0 : List (ByteArray × Int × Int × Int × Int × Int × Int × Int × Int)) (code1 : ByteArray) : Option Int := spec_l03Find.fn NN list0 code1
end
end Go.Pl

namespace Go.Pl
open Go.Ev
set_option linter.unusedVariables false
noncomputable section
def spec_l07Has.top (list0 : List (Int × Int)) (bar1 : Int) (beat2 : Int) : Option Bool :=
  (spec_l01In.f bar1 0 (IntKind.i64.wrap ((list0.length : Int) - 1))).bind fun r1 =>
  if r1 = true then
    if (0 : Int) ≤ bar1 ∧ (bar1 : Int) < list0.length then
      (spec_l01In.f beat2 0 (IntKind.i64.wrap (((list0.getD (bar1 : Int).toNat (0, 0)).1) - 1))).bind fun r2 =>
      some r2
    else
      none
  else
    some false
def spec_l07Has.fn (n : Nat) (list0 : List (Int × Int)) (bar1 : Int) (beat2 : Int) : Option Bool := spec_l07Has.top list0 bar1 beat2
def spec_l07Has.f (list0 : List (Int × Int)) (bar1 : Int) (beat2 : Int) : Option Bool := spec_l07Has.fn NN list0 bar1 beat2
end
end Go.Pl

namespace Go.Pl
open Go.Ev
set_option linter.unusedVariables false
noncomputable section
def spec_l07Time.g3 (L3 : (List (Int × Int)) → Int → Int → Int → Int → Option Int) (list0 : List (Int × Int)) (bar1 : Int) (beat2 : Int) (t7 : Int) (i8 : Int) : Option Int :=
  if (decide ((i8 : Int) < bar1)) = true then
    if (0 : Int) ≤ i8 ∧ (i8 : Int) < list0.length then
      if (0 : Int) ≤ i8 ∧ (i8 : Int) < list0.length then
        L3 list0 bar1 beat2 (IntKind.i64.wrap (t7 + (IntKind.i64.wrap (((list0.getD (i8 : Int).toNat (0, 0)).1) * ((list0.getD (i8 : Int).toNat (0, 0)).2))))) (IntKind.i64.wrap (i8 + 1))
      else
        none
    else
      none
  else if (0 : Int) ≤ bar1 ∧ (bar1 : Int) < list0.length then
    some (IntKind.i64.wrap (t7 + (IntKind.i64.wrap (beat2 * ((list0.getD (bar1 : Int).toNat (0, 0)).2)))))
  else
    none
def spec_l07Time.l3 (n : Nat) : Nat → (List (Int × Int)) → Int → Int → Int → Int → Option Int
  | 0 => fun _ _ _ _ _ => none
  | k + 1 => spec_l07Time.g3 (spec_l07Time.l3 n k)
def spec_l07Time.top (I3 : (List (Int × Int)) → Int → Int → Int → Int → Option Int) (list0 : List (Int × Int)) (bar1 : Int) (beat2 : Int) : Option Int :=
  I3 list0 bar1 beat2 0 0
def spec_l07Time.fn (n : Nat) (list0 : List (Int × Int)) (bar1 : Int) (beat2 : Int) : Option Int := spec_l07Time.top (spec_l07Time.l3 n n) list0 bar1 beat2
def spec_l07Time.f (list0 : List (Int × Int)) (bar1 : Int) (beat2 : Int) : Option Int := spec_l07Time.fn NN list0 bar1 beat2
end
end Go.Pl

namespace Go.Pl
open Go.Ev
set_option linter.unusedVariables false
noncomputable section
def spec_l08Time.top (x0 : (List (Int × Int)) × (List (ByteArray × Int × Int × Int × Int × Int × Int × Int × Int)) × List (Int × Int × ByteArray × Int)) (c1 : Int × Int × ByteArray × Int) : Option Int :=
  (spec_l07Time.f x0.1 c1.1 c1.2.1).bind fun r1 =>
  (spec_l03Find.f x0.2.1 c1.2.2.1).bind fun r2 =>
  if (0 : Int) ≤ r2 ∧ (r2 : Int) < x0.2.1.length then
    some (IntKind.i64.wrap (r1 - (((((x0.2.1.getD (r2 : Int).toNat (ByteArray.empty, (0, (0, (0, (0, (0, (0, (0, 0))))))))).2).2).2).1)))
  else
    none
def spec_l08Time.fn (n : Nat) (x0 : (List (Int × Int)) × (List (ByteArray × Int × Int × Int × Int × Int × Int × Int × Int)) × List (Int × Int × ByteArray × Int)) (c1 : Int × Int × ByteArray × Int) : Option Int := spec_l08Time.top x0 c1
def spec_l08Time.f (x0 : (List (Int × Int)) × (List (ByteArray × Int × Int × Int × Int × Int × Int × Int × Int)) × List (Int × Int × ByteArray × Int)) (c1 : Int × Int × ByteArray × Int) : Option Int := spec_l08Time.fn NN x0 c1
end
end Go.Pl

namespace Go.Pl
open Go.Ev
set_option linter.unusedVariables false
noncomputable section
def spec_IsShow.g4 (L4 : Int → ((List (Int × Int)) × (List (ByteArray × Int × Int × Int × Int × Int × Int × Int × Int)) × List (Int × Int × ByteArray × Int)) → Option Bool) (i3 : Int) (x1 : (List (Int × Int)) × (List (ByteArray × Int × Int × Int × Int × Int × Int × Int × Int)) × List (Int × Int × ByteArray × Int)) : Option Bool :=
  if (decide ((i3 : Int) < (x1.2.2.length : Int))) = true then
    if (0 : Int) ≤ i3 ∧ (i3 : Int) < x1.2.2.length then
      (spec_l07Has.f x1.1 ((x1.2.2.getD (i3 : Int).toNat (0, (0, (ByteArray.empty, 0)))).1) (((x1.2.2.getD (i3 : Int).toNat (0, (0, (ByteArray.empty, 0)))).2).1)).bind fun r3 =>
      if (!r3) = false then
        (spec_l03Find.f x1.2.1 ((((x1.2.2.getD (i3 : Int).toNat (0, (0, (ByteArray.empty, 0)))).2).2).1)).bind fun r4 =>
        if (decide ((r4 : Int) < 0)) = false then
          (spec_l01In.f ((((x1.2.2.getD (i3 : Int).toNat (0, (0, (ByteArray.empty, 0)))).2).2).2) 0 11).bind fun r5 =>
          if (!r5) = false then
            (spec_l08Time.f x1 (x1.2.2.getD (i3 : Int).toNat (0, (0, (ByteArray.empty, 0))))).bind fun r6 =>
            if (decide ((r6 : Int) < 0)) = true then
              some false
            else
              L4 (IntKind.i64.wrap (i3 + 1)) x1
          else
            some false
        else
          some false
      else
        some false
    else
      none
  else
    some true
def spec_IsShow.l4 (n : Nat) : Nat → Int → ((List (Int × Int)) × (List (ByteArray × Int × Int × Int × Int × Int × Int × Int × Int)) × List (Int × Int × ByteArray × Int)) → Option Bool
  | 0 => fun _ _ => none
  | k + 1 => spec_IsShow.g4 (spec_IsShow.l4 n k)
def spec_IsShow.top (I4 : Int → ((List (Int × Int)) × (List (ByteArray × Int × Int × Int × Int × Int × Int × Int × Int)) × List (Int × Int × ByteArray × Int)) → Option Bool) (x0 : (List (Int × Int)) × (List (ByteArray × Int × Int × Int × Int × Int × Int × Int × Int)) × List (Int × Int × ByteArray × Int)) : Option Bool :=
  (spec_IsScore.f x0.1).bind fun r1 =>
  if (!r1) = false then
    (spec_AreArticles.f x0.2.1).bind fun r2 =>
    if (!r2) = false then
      if (decide ((20 : Int) < (x0.2.2.length : Int))) = true then
        some false
      else
        I4 0 x0
    else
      some false
  else
    some false
def spec_IsShow.fn (n : Nat) (x0 : (List (Int × Int)) × (List (ByteArray × Int × Int × Int × Int × Int × Int × Int × Int)) × List (Int × Int × ByteArray × Int)) : Option Bool := spec_IsShow.top (spec_IsShow.l4 n n) x0
def spec_IsShow.f (x0 : (List (Int × Int)) × (List (ByteArray × Int × Int × Int × Int × Int × Int × Int × Int)) × List (Int × Int × ByteArray × Int)) : Option Bool := spec_IsShow.fn NN x0
end
end Go.Pl

namespace Go.Pl
open Go.Ev
set_option linter.unusedVariables false
noncomputable section
def spec_l01Rises.g2 (L2 : List Int → Int → Int → Option Bool) (list0 : List Int) (n1 : Int) (i5 : Int) : Option Bool :=
  if (decide ((i5 : Int) < (list0.length : Int))) = true then
    if (0 : Int) ≤ i5 ∧ (i5 : Int) < list0.length then
      (spec_l01In.f (list0.getD (i5 : Int).toNat 0) 0 (IntKind.i64.wrap (n1 - 1))).bind fun r1 =>
      if (!r1) = false then
        if (decide ((0 : Int) < i5)) = true then
          if (0 : Int) ≤ i5 ∧ (i5 : Int) < list0.length then
            if (0 : Int) ≤ (IntKind.i64.wrap (i5 - 1)) ∧ ((IntKind.i64.wrap (i5 - 1)) : Int) < list0.length then
              if (decide (((list0.getD (i5 : Int).toNat 0) : Int) ≤ (list0.getD ((IntKind.i64.wrap (i5 - 1)) : Int).toNat 0))) = true then
                some false
              else
                L2 list0 n1 (IntKind.i64.wrap (i5 + 1))
            else
              none
          else
            none
        else
          L2 list0 n1 (IntKind.i64.wrap (i5 + 1))
      else
        some false
    else
      none
  else
    some true
def spec_l01Rises.l2 (n : Nat) : Nat → List Int → Int → Int → Option Bool
  | 0 => fun _ _ _ => none
  | k + 1 => spec_l01Rises.g2 (spec_l01Rises.l2 n k)
def spec_l01Rises.top (I2 : List Int → Int → Int → Option Bool) (list0 : List Int) (n1 : Int) : Option Bool :=
  I2 list0 n1 0
def spec_l01Rises.fn (n : Nat) (list0 : List Int) (n1 : Int) : Option Bool := spec_l01Rises.top (spec_l01Rises.l2 n n) list0 n1
def spec_l01Rises.f (list0 : List Int) (n1 : Int) : Option Bool := spec_l01Rises.fn NN list0 n1
end
end Go.Pl

namespace Go.Pl
open Go.Ev
set_option linter.unusedVariables false
noncomputable section
def spec_l32Limits.top (out0 : List (Int × ByteArray × Int)) : Option Int :=
  if (decide ((60 : Int) < (out0.length : Int))) = true then
    some 3
  else
    (spec_AreBookings.f out0).bind fun r1 =>
    if (!r1) = true then
      some 5
    else
      some 0
def spec_l32Limits.fn (n : Nat) (out0 : List (Int × ByteArray × Int)) : Option Int := spec_l32Limits.top out0
def spec_l32Limits.f (out0 : List (Int × ByteArray × Int)) : Option Int := spec_l32Limits.fn NN out0
end
end Go.Pl

namespace Go.Pl
open Go.Ev
set_option linter.unusedVariables false
noncomputable section
def spec_BookShow.g11 (L7 : List Int → Int → ((List (Int × Int)) × (List (ByteArray × Int × Int × Int × Int × Int × Int × Int × Int)) × List (Int × Int × ByteArray × Int)) → (List (Int × ByteArray × Int)) → Option ((List (Int × ByteArray × Int)) × Int)) (L11 : List Int → Int → Int → Int → ((List (Int × Int)) × (List (ByteArray × Int × Int × Int × Int × Int × Int × Int × Int)) × List (Int × Int × ByteArray × Int)) → (List (Int × ByteArray × Int)) → Option ((List (Int × ByteArray × Int)) × Int)) (fired2 : List Int) (k9 : Int) (n10 : Int) (i11 : Int) (x4 : (List (Int × Int)) × (List (ByteArray × Int × Int × Int × Int × Int × Int × Int × Int)) × List (Int × Int × ByteArray × Int)) (out8 : List (Int × ByteArray × Int)) : Option ((List (Int × ByteArray × Int)) × Int) :=
  if (decide ((i11 : Int) < (fired2.length : Int))) = true then
    if (0 : Int) ≤ i11 ∧ (i11 : Int) < fired2.length then
      if (0 : Int) ≤ (fired2.getD (i11 : Int).toNat 0) ∧ ((fired2.getD (i11 : Int).toNat 0) : Int) < x4.2.2.length then
        if (0 : Int) ≤ k9 ∧ (k9 : Int) < x4.2.1.length then
          if (((((x4.2.2.getD ((fired2.getD (i11 : Int).toNat 0) : Int).toNat (0, (0, (ByteArray.empty, 0)))).2).2).1).toList == ((x4.2.1.getD (k9 : Int).toNat (ByteArray.empty, (0, (0, (0, (0, (0, (0, (0, 0))))))))).1).toList) = true then
            L11 fired2 k9 (IntKind.i64.wrap (n10 + 1)) (IntKind.i64.wrap (i11 + 1)) x4 out8
          else
            L11 fired2 k9 n10 (IntKind.i64.wrap (i11 + 1)) x4 out8
        else
          none
      else
        none
    else
      none
  else if (decide ((0 : Int) < n10)) = true then
    if (0 : Int) ≤ k9 ∧ (k9 : Int) < x4.2.1.length then
      if out8.length + ([(1, ((x4.2.1.getD (k9 : Int).toNat (ByteArray.empty, (0, (0, (0, (0, (0, (0, (0, 0))))))))).1, n10))]).length < room 32 then
        L7 fired2 (IntKind.i64.wrap (k9 + 1)) x4 (out8 ++ ([(1, ((x4.2.1.getD (k9 : Int).toNat (ByteArray.empty, (0, (0, (0, (0, (0, (0, (0, 0))))))))).1, n10))]))
      else
        none
    else
      none
  else
    L7 fired2 (IntKind.i64.wrap (k9 + 1)) x4 out8
def spec_BookShow.l11 (n : Nat) (L7 : List Int → Int → ((List (Int × Int)) × (List (ByteArray × Int × Int × Int × Int × Int × Int × Int × Int)) × List (Int × Int × ByteArray × Int)) → (List (Int × ByteArray × Int)) → Option ((List (Int × ByteArray × Int)) × Int)) : Nat → List Int → Int → Int → Int → ((List (Int × Int)) × (List (ByteArray × Int × Int × Int × Int × Int × Int × Int × Int)) × List (Int × Int × ByteArray × Int)) → (List (Int × ByteArray × Int)) → Option ((List (Int × ByteArray × Int)) × Int)
  | 0 => fun _ _ _ _ _ _ => none
  | k + 1 => spec_BookShow.g11 L7 (spec_BookShow.l11 n L7 k)
def spec_BookShow.g7 (I11 : List Int → Int → Int → Int → ((List (Int × Int)) × (List (ByteArray × Int × Int × Int × Int × Int × Int × Int × Int)) × List (Int × Int × ByteArray × Int)) → (List (Int × ByteArray × Int)) → Option ((List (Int × ByteArray × Int)) × Int)) (L7 : List Int → Int → ((List (Int × Int)) × (List (ByteArray × Int × Int × Int × Int × Int × Int × Int × Int)) × List (Int × Int × ByteArray × Int)) → (List (Int × ByteArray × Int)) → Option ((List (Int × ByteArray × Int)) × Int)) (fired2 : List Int) (k9 : Int) (x4 : (List (Int × Int)) × (List (ByteArray × Int × Int × Int × Int × Int × Int × Int × Int)) × List (Int × Int × ByteArray × Int)) (out8 : List (Int × ByteArray × Int)) : Option ((List (Int × ByteArray × Int)) × Int) :=
  if (decide ((k9 : Int) < (x4.2.1.length : Int))) = true then
    I11 fired2 k9 0 0 x4 out8
  else
    (spec_l32Limits.f out8).bind fun r4 =>
    if ((r4 : Int) != 0) = true then
      some ([], r4)
    else
      some (out8, 0)
def spec_BookShow.l7 (n : Nat) : Nat → List Int → Int → ((List (Int × Int)) × (List (ByteArray × Int × Int × Int × Int × Int × Int × Int × Int)) × List (Int × Int × ByteArray × Int)) → (List (Int × ByteArray × Int)) → Option ((List (Int × ByteArray × Int)) × Int)
  | 0 => fun _ _ _ _ => none
  | k + 1 => spec_BookShow.g7 (spec_BookShow.l11 n (spec_BookShow.l7 n k) n) (spec_BookShow.l7 n k)
def spec_BookShow.top (I7 : List Int → Int → ((List (Int × Int)) × (List (ByteArray × Int × Int × Int × Int × Int × Int × Int × Int)) × List (Int × Int × ByteArray × Int)) → (List (Int × ByteArray × Int)) → Option ((List (Int × ByteArray × Int)) × Int)) (list0 : List (Int × ByteArray × Int)) (x1 : (List (Int × Int)) × (List (ByteArray × Int × Int × Int × Int × Int × Int × Int × Int)) × List (Int × Int × ByteArray × Int)) (fired2 : List Int) : Option ((List (Int × ByteArray × Int)) × Int) :=
  (spec_AreBookings.f list0).bind fun r1 =>
  if (!r1) = false then
    (spec_IsShow.f x1).bind fun r2 =>
    if (!r2) = true then
      some ([], 1)
    else
      (spec_l01Rises.f fired2 (x1.2.2.length : Int)).bind fun r3 =>
      if (!r3) = true then
        some ([], 2)
      else if ([] : List (Int × ByteArray × Int)).length + list0.length < room 32 then
        I7 fired2 0 x1 (([] : List (Int × ByteArray × Int)) ++ list0)
      else
        none
  else
    some ([], 1)
def spec_BookShow.fn (n : Nat) (list0 : List (Int × ByteArray × Int)) (x1 : (List (Int × Int)) × (List (ByteArray × Int × Int × Int × Int × Int × Int × Int × Int)) × List (Int × Int × ByteArray × Int)) (fired2 : List Int) : Option ((List (Int × ByteArray × Int)) × Int) := spec_BookShow.top (spec_BookShow.l7 n n) list0 x1 fired2
def spec_BookShow.f (list0 : List (Int × ByteArray × Int)) (x1 : (List (Int × Int)) × (List (ByteArray × Int × Int × Int × Int × Int × Int × Int × Int)) × List (Int × Int × ByteArray × Int)) (fired2 : List Int) : Option ((List (Int × ByteArray × Int)) × Int) := spec_BookShow.fn NN list0 x1 fired2
end
end Go.Pl

namespace Go.Pl
open Go.Ev
set_option linter.unusedVariables false
noncomputable section
def laws_FnExactBookShow.top (aList0 : List (Int × ByteArray × Int)) (aX1 : (List (Int × Int)) × (List (ByteArray × Int × Int × Int × Int × Int × Int × Int × Int)) × List (Int × Int × ByteArray × Int)) (aFired2 : List Int) : Option Bool :=
  (laws_szBookingS.f aList0 (IntKind.i64.wrap (1000000 - (aFired2.length : Int)))).bind fun r1 =>
  if (decide ((r1 : Int) < 0)) = true then
    some true
  else
    (laws_szShow.f aX1 r1).bind fun r2 =>
    if (decide ((r2 : Int) < 0)) = true then
      some true
    else
      (laws_toBookingS.f aList0 false).bind fun r3 =>
      (laws_toShow.f aX1 false).bind fun r4 =>
      (laws_toInt64S.f aFired2 false).bind fun r5 =>
      (spec_BookShow.f r3.1 (r4.1.1, (r4.2.1.1, r4.2.2.1)) r5.1).bind fun r6 =>
      (laws_toBookingS.f aList0 false).bind fun r7 =>
      (laws_toShow.f aX1 false).bind fun r8 =>
      (laws_toInt64S.f aFired2 false).bind fun r9 =>
      (impl_BookShow.f r7.1 (r8.1.1, (r8.2.1.1, r8.2.2.1)) r9.1).bind fun r10 =>
      (laws_eqBookingS.f r10.1 r6.1).bind fun r11 =>
      if (!r11) = false then
        if ((r10.2 : Int) != r6.2) = true then
          some false
        else
          (laws_toBookingS.f aList0 false).bind fun r12 =>
          (laws_intactBookingS.f (r7.1, r7.2) (r12.1, r12.2)).bind fun r13 =>
          if (!r13) = true then
            some false
          else
            (laws_toShow.f aX1 false).bind fun r14 =>
            (laws_intactShow.f ((r8.1.1, r8.1.2), ((r8.2.1.1, r8.2.1.2), (r8.2.2.1, r8.2.2.2))) ((r14.1.1, r14.1.2), ((r14.2.1.1, r14.2.1.2), (r14.2.2.1, r14.2.2.2)))).bind fun r15 =>
            if (!r15) = true then
              some false
            else
              (laws_toInt64S.f aFired2 false).bind fun r16 =>
              (laws_intactInt64S.f (r9.1, r9.2) (r16.1, r16.2)).bind fun r17 =>
              if (!r17) = true then
                some false
              else
                (laws_markBookingS.f r7.1 101).bind fun r18 =>
                (laws_markShow.f (r8.1.1, (r8.2.1.1, r8.2.2.1)) r18.1).bind fun r19 =>
                (laws_markInt64S.f r9.1 r19.1).bind fun r20 =>
                if (decide ((r20.1 : Int) < 0)) = false then
                  (laws_eqBookingS.f r10.1 r6.1).bind fun r21 =>
                  if (!r21) = false then
                    if ((r10.2 : Int) != r6.2) = true then
                      some false
                    else
                      (laws_markBookingS.f r10.1 101).bind fun r22 =>
                      (laws_heldBookingS.f r22.2 101).bind fun r23 =>
                      if (decide ((r23 : Int) < 0)) = true then
                        some false
                      else if ((r23 : Int) != r22.1) = true then
                        some false
                      else
                        (laws_toBookingS.f aList0 true).bind fun r24 =>
                        (laws_toShow.f aX1 true).bind fun r25 =>
                        (laws_toInt64S.f aFired2 true).bind fun r26 =>
                        (impl_BookShow.f r24.1 (r25.1.1, (r25.2.1.1, r25.2.2.1)) r26.1).bind fun r27 =>
                        (laws_eqBookingS.f r27.1 r6.1).bind fun r28 =>
                        if (!r28) = false then
                          if ((r27.2 : Int) != r6.2) = true then
                            some false
                          else
                            (laws_heldBookingS.f r22.2 101).bind fun r29 =>
                            if (decide ((r29 : Int) < 0)) = true then
                              some false
                            else if ((r29 : Int) != r22.1) = true then
                              some false
                            else
                              some true
                        else
                          some false
                  else
                    some false
                else
                  some false
      else
        some false
def laws_FnExactBookShow.fn (n : Nat) (aList0 : List (Int × ByteArray × Int)) (aX1 : (List (Int × Int)) × (List (ByteArray × Int × Int × Int × Int × Int × Int × Int × Int)) × List (Int × Int × ByteArray × Int)) (aFired2 : List Int) : Option Bool := laws_FnExactBookShow.top aList0 aX1 aFired2
def laws_FnExactBookShow.f (aList0 : List (Int × ByteArray × Int)) (aX1 : (List (Int × Int)) × (List (ByteArray × Int × Int × Int × Int × Int × Int × Int × Int)) × List (Int × Int × ByteArray × Int)) (aFired2 : List Int) : Option Bool := laws_FnExactBookShow.fn NN aList0 aX1 aFired2
end
end Go.Pl

namespace Go.Ev.Try
open Go.Proofs Go.Pl
set_option linter.unusedVariables false
noncomputable section
def impl_IsWord.st4 (s0 : ByteArray) (i3 : Int) : St := ⟨[.dat .str s0, .gone, .gone, .dat (.int .i64) i3, .gone, .gone, .gone, .gone, .gone, .gone, .gone, .gone, .gone, .gone, .gone, .gone, .gone, .gone, .gone, .gone, .gone, .gone, .gone, .gone, .gone, .gone, .gone, .gone], []⟩
def impl_IsWord.con : Con := { ps := [(.val, .str)], rs := [(.val, .bool)], F := fun x => impl_IsWord.f x }
def impl_IsWord.cs : List (FuncId × Con) := []
def impl_IsWord.E : Env := envOf tab impl_IsWord.cs 0 false
def impl_IsWord.keep (i : Nat) : List Nat := if i = 4 then [0, 3] else []
def impl_IsWord.at4 (n : Nat) (x : ByteArray) : Code × (Ex → St → Option (Bool)) := ctx impl_IsWord.E impl_IsWord.keep n [.snd, .snd, .fst, .snd, .blk] (codeOf Try.f87) (kEnd impl_IsWord.E Try.f87 impl_IsWord.con x)
def impl_IsWord.LN4 (n : Nat) (x : ByteArray) : Nat → St → Option (Bool) := loopN (exec impl_IsWord.E impl_IsWord.keep n (bodyOf (impl_IsWord.at4 n x).1)) (St.norm 0 (impl_IsWord.keep 4)) (impl_IsWord.at4 n x).2
set_option maxRecDepth 100000 in
theorem impl_IsWord.lem4 (n : Nat) (x : ByteArray) : ∀ (k : Nat) (s0 : ByteArray) (i3 : Int), impl_IsWord.LN4 n x k (impl_IsWord.st4 s0 i3) = impl_IsWord.l4 n k s0 i3 := by
  intro k
  induction k with
  | zero => intro s0 i3; rfl
  | succ k ih =>
    intro s0 i3
    have h : impl_IsWord.LN4 n x (k + 1) (impl_IsWord.st4 s0 i3) = impl_IsWord.g4 (fun s0 i3 => impl_IsWord.LN4 n x k (impl_IsWord.st4 s0 i3)) s0 i3 := by kernel_rfl
    rw [h]
    simp only [ih]
    rfl
set_option maxRecDepth 100000 in
theorem impl_IsWord.body (n : Nat) (x : ByteArray) : bodyF impl_IsWord.E impl_IsWord.keep n Try.f87 impl_IsWord.con x = impl_IsWord.fn n x := by
  have h : bodyF impl_IsWord.E impl_IsWord.keep n Try.f87 impl_IsWord.con x = impl_IsWord.top (fun s0 i3 => impl_IsWord.LN4 n x n (impl_IsWord.st4 s0 i3)) x := by kernel_rfl
  rw [h]
  simp only [impl_IsWord.lem4]
  rfl
set_option maxRecDepth 100000 in
theorem impl_IsWord.good : Good Try.prog 87 impl_IsWord.con :=
  good_of tabok (cs := impl_IsWord.cs) trivial 0 false (fn := Try.f87) Try.func87 rfl (by decide) (by simp [impl_IsWord.con]) impl_IsWord.keep NN (fun _ => rfl) (fun x => impl_IsWord.body NN x)
end
end Go.Ev.Try

namespace Go.Ev.Try
open Go.Proofs Go.Pl
set_option linter.unusedVariables false
noncomputable section
def impl_totalsOf.st3 (article1 : ByteArray) (v9 : List (Int × ByteArray × Int)) (v10 : Int) (v11 : Int) (out5 : List Int) : St := ⟨[.gone, .dat .str article1, .gone, .gone, .gone, .ref 0, .gone, .gone, .gone, .dat (.sl 127 (.pair (.int .i64) (.pair .str (.int .i64)))) v9, .dat (.int .i64) v10, .dat (.int .i64) v11, .gone, .gone, .gone, .gone, .gone, .gone, .gone, .gone, .gone, .gone, .gone, .gone, .gone, .gone, .gone, .gone, .gone, .gone], [.row 2 (.int .i64) out5 none]⟩
def impl_totalsOf.con : Con := { ps := [(.val, (.sl 127 (.pair (.int .i64) (.pair .str (.int .i64))))), (.val, .str)], rs := [(.own, (.sl 2 (.int .i64)))], F := fun x => impl_totalsOf.f x.1 x.2 }
def impl_totalsOf.cs : List (FuncId × Con) := []
def impl_totalsOf.E : Env := envOf tab impl_totalsOf.cs 0 false
def impl_totalsOf.keep (i : Nat) : List Nat := if i = 3 then [1, 5, 9, 10, 11] else []
def impl_totalsOf.at3 (n : Nat) (x : (List (Int × ByteArray × Int)) × ByteArray) : Code × (Ex → St → Option ((List Int))) := ctx impl_totalsOf.E impl_totalsOf.keep n [.snd, .snd, .fst, .snd, .blk] (codeOf Try.f141) (kEnd impl_totalsOf.E Try.f141 impl_totalsOf.con x)
def impl_totalsOf.LN3 (n : Nat) (x : (List (Int × ByteArray × Int)) × ByteArray) : Nat → St → Option ((List Int)) := loopN (exec impl_totalsOf.E impl_totalsOf.keep n (bodyOf (impl_totalsOf.at3 n x).1)) (St.norm 0 (impl_totalsOf.keep 3)) (impl_totalsOf.at3 n x).2
set_option maxRecDepth 100000 in
theorem impl_totalsOf.lem3 (n : Nat) (x : (List (Int × ByteArray × Int)) × ByteArray) : ∀ (k : Nat) (article1 : ByteArray) (v9 : List (Int × ByteArray × Int)) (v10 : Int) (v11 : Int) (out5 : List Int), impl_totalsOf.LN3 n x k (impl_totalsOf.st3 article1 v9 v10 v11 out5) = impl_totalsOf.l3 n k article1 v9 v10 v11 out5 := by
  intro k
  induction k with
  | zero => intro article1 v9 v10 v11 out5; rfl
  | succ k ih =>
    intro article1 v9 v10 v11 out5
    have h : impl_totalsOf.LN3 n x (k + 1) (impl_totalsOf.st3 article1 v9 v10 v11 out5) = impl_totalsOf.g3 (fun article1 v9 v10 v11 out5 => impl_totalsOf.LN3 n x k (impl_totalsOf.st3 article1 v9 v10 v11 out5)) article1 v9 v10 v11 out5 := by kernel_rfl
    rw [h]
    simp only [ih]
    rfl
set_option maxRecDepth 100000 in
theorem impl_totalsOf.body (n : Nat) (x : (List (Int × ByteArray × Int)) × ByteArray) : bodyF impl_totalsOf.E impl_totalsOf.keep n Try.f141 impl_totalsOf.con x = impl_totalsOf.fn n x.1 x.2 := by
  have h : bodyF impl_totalsOf.E impl_totalsOf.keep n Try.f141 impl_totalsOf.con x = impl_totalsOf.top (fun article1 v9 v10 v11 out5 => impl_totalsOf.LN3 n x n (impl_totalsOf.st3 article1 v9 v10 v11 out5)) x.1 x.2 := by kernel_rfl
  rw [h]
  simp only [impl_totalsOf.lem3]
  rfl
set_option maxRecDepth 100000 in
theorem impl_totalsOf.good : Good Try.prog 141 impl_totalsOf.con :=
  good_of tabok (cs := impl_totalsOf.cs) trivial 0 false (fn := Try.f141) Try.func141 rfl (by decide) (by simp [impl_totalsOf.con]) impl_totalsOf.keep NN (fun _ => rfl) (fun x => impl_totalsOf.body NN x)
end
end Go.Ev.Try

namespace Go.Ev.Try
open Go.Proofs Go.Pl
set_option linter.unusedVariables false
noncomputable section
def impl_piecesLeft.con : Con := { ps := [(.val, (.sl 127 (.pair (.int .i64) (.pair .str (.int .i64))))), (.val, .str)], rs := [(.val, (.int .i64))], F := fun x => impl_piecesLeft.f x.1 x.2 }
def impl_piecesLeft.cs : List (FuncId × Con) := [(141, impl_totalsOf.con)]
def impl_piecesLeft.E : Env := envOf tab impl_piecesLeft.cs 0 false
def impl_piecesLeft.keep (i : Nat) : List Nat := []
set_option maxRecDepth 100000 in
theorem impl_piecesLeft.body (n : Nat) (x : (List (Int × ByteArray × Int)) × ByteArray) : bodyF impl_piecesLeft.E impl_piecesLeft.keep n Try.f88 impl_piecesLeft.con x = impl_piecesLeft.fn n x.1 x.2 := by
  have h : bodyF impl_piecesLeft.E impl_piecesLeft.keep n Try.f88 impl_piecesLeft.con x = impl_piecesLeft.top x.1 x.2 := by kernel_rfl
  exact h
set_option maxRecDepth 100000 in
theorem impl_piecesLeft.good : Good Try.prog 88 impl_piecesLeft.con :=
  good_of tabok (cs := impl_piecesLeft.cs) ⟨impl_totalsOf.good, trivial⟩ 0 false (fn := Try.f88) Try.func88 rfl (by decide) (by simp [impl_piecesLeft.con]) impl_piecesLeft.keep NN (fun _ => rfl) (fun x => impl_piecesLeft.body NN x)
end
end Go.Ev.Try

namespace Go.Ev.Try
open Go.Proofs Go.Pl
set_option linter.unusedVariables false
noncomputable section
def impl_within.con : Con := { ps := [(.val, (.int .i64)), (.val, (.int .i64)), (.val, (.int .i64))], rs := [(.val, .bool)], F := fun x => impl_within.f x.1 x.2.1 x.2.2 }
def impl_within.cs : List (FuncId × Con) := []
def impl_within.E : Env := envOf tab impl_within.cs 0 false
def impl_within.keep (i : Nat) : List Nat := []
set_option maxRecDepth 100000 in
theorem impl_within.body (n : Nat) (x : Int × Int × Int) : bodyF impl_within.E impl_within.keep n Try.f113 impl_within.con x = impl_within.fn n x.1 x.2.1 x.2.2 := by
  have h : bodyF impl_within.E impl_within.keep n Try.f113 impl_within.con x = impl_within.top x.1 x.2.1 x.2.2 := by kernel_rfl
  exact h
set_option maxRecDepth 100000 in
theorem impl_within.good : Good Try.prog 113 impl_within.con :=
  good_of tabok (cs := impl_within.cs) trivial 0 false (fn := Try.f113) Try.func113 rfl (by decide) (by simp [impl_within.con]) impl_within.keep NN (fun _ => rfl) (fun x => impl_within.body NN x)
end
end Go.Ev.Try

namespace Go.Ev.Try
open Go.Proofs Go.Pl
set_option linter.unusedVariables false
noncomputable section
def impl_AreBookings.st4 (list0 : List (Int × ByteArray × Int)) (v8 : List (Int × ByteArray × Int)) (v9 : Int) (v10 : Int) : St := ⟨[.dat (.sl 127 (.pair (.int .i64) (.pair .str (.int .i64)))) list0, .gone, .gone, .gone, .gone, .gone, .gone, .gone, .dat (.sl 127 (.pair (.int .i64) (.pair .str (.int .i64)))) v8, .dat (.int .i64) v9, .dat (.int .i64) v10, .gone, .gone, .gone, .gone, .gone, .gone, .gone, .gone, .gone, .gone, .gone, .gone, .gone, .gone, .gone, .gone, .gone, .gone, .gone, .gone, .gone, .gone, .gone, .gone, .gone, .gone, .gone, .gone, .gone, .gone, .gone], []⟩
def impl_AreBookings.con : Con := { ps := [(.val, (.sl 127 (.pair (.int .i64) (.pair .str (.int .i64)))))], rs := [(.val, .bool)], F := fun x => impl_AreBookings.f x }
def impl_AreBookings.cs : List (FuncId × Con) := [(87, impl_IsWord.con), (88, impl_piecesLeft.con), (113, impl_within.con)]
def impl_AreBookings.E : Env := envOf tab impl_AreBookings.cs 0 false
def impl_AreBookings.keep (i : Nat) : List Nat := if i = 4 then [0, 8, 9, 10] else []
def impl_AreBookings.at4 (n : Nat) (x : List (Int × ByteArray × Int)) : Code × (Ex → St → Option (Bool)) := ctx impl_AreBookings.E impl_AreBookings.keep n [.snd, .snd, .fst, .snd, .blk] (codeOf Try.f56) (kEnd impl_AreBookings.E Try.f56 impl_AreBookings.con x)
def impl_AreBookings.LN4 (n : Nat) (x : List (Int × ByteArray × Int)) : Nat → St → Option (Bool) := loopN (exec impl_AreBookings.E impl_AreBookings.keep n (bodyOf (impl_AreBookings.at4 n x).1)) (St.norm 0 (impl_AreBookings.keep 4)) (impl_AreBookings.at4 n x).2
set_option maxRecDepth 100000 in
theorem impl_AreBookings.lem4 (n : Nat) (x : List (Int × ByteArray × Int)) : ∀ (k : Nat) (list0 : List (Int × ByteArray × Int)) (v8 : List (Int × ByteArray × Int)) (v9 : Int) (v10 : Int), impl_AreBookings.LN4 n x k (impl_AreBookings.st4 list0 v8 v9 v10) = impl_AreBookings.l4 n k list0 v8 v9 v10 := by
  intro k
  induction k with
  | zero => intro list0 v8 v9 v10; rfl
  | succ k ih =>
    intro list0 v8 v9 v10
    have h : impl_AreBookings.LN4 n x (k + 1) (impl_AreBookings.st4 list0 v8 v9 v10) = impl_AreBookings.g4 (fun list0 v8 v9 v10 => impl_AreBookings.LN4 n x k (impl_AreBookings.st4 list0 v8 v9 v10)) list0 v8 v9 v10 := by kernel_rfl
    rw [h]
    simp only [ih]
    rfl
set_option maxRecDepth 100000 in
theorem impl_AreBookings.body (n : Nat) (x : List (Int × ByteArray × Int)) : bodyF impl_AreBookings.E impl_AreBookings.keep n Try.f56 impl_AreBookings.con x = impl_AreBookings.fn n x := by
  have h : bodyF impl_AreBookings.E impl_AreBookings.keep n Try.f56 impl_AreBookings.con x = impl_AreBookings.top (fun list0 v8 v9 v10 => impl_AreBookings.LN4 n x n (impl_AreBookings.st4 list0 v8 v9 v10)) x := by kernel_rfl
  rw [h]
  simp only [impl_AreBookings.lem4]
  rfl
set_option maxRecDepth 100000 in
theorem impl_AreBookings.good : Good Try.prog 56 impl_AreBookings.con :=
  good_of tabok (cs := impl_AreBookings.cs) ⟨impl_IsWord.good, impl_piecesLeft.good, impl_within.good, trivial⟩ 0 false (fn := Try.f56) Try.func56 rfl (by decide) (by simp [impl_AreBookings.con]) impl_AreBookings.keep NN (fun _ => rfl) (fun x => impl_AreBookings.body NN x)
end
end Go.Ev.Try

namespace Go.Ev.Try
open Go.Proofs Go.Pl
set_option linter.unusedVariables false
noncomputable section
def impl_articleOf.st2 (code1 : ByteArray) (v7 : List (ByteArray × Int × Int × Int × Int × Int × Int × Int × Int)) (v8 : Int) (v9 : Int) : St := ⟨[.gone, .dat .str code1, .gone, .gone, .gone, .gone, .gone, .dat (.sl 75 (.pair .str (.pair (.int .i64) (.pair (.int .i64) (.pair (.int .i64) (.pair (.int .i64) (.pair (.int .i64) (.pair (.int .i64) (.pair (.int .i64) (.int .i64)))))))))) v7, .dat (.int .i64) v8, .dat (.int .i64) v9, .gone, .gone, .gone, .gone, .gone, .gone, .gone, .gone, .gone, .gone], []⟩
def impl_articleOf.con : Con := { ps := [(.val, (.sl 75 (.pair .str (.pair (.int .i64) (.pair (.int .i64) (.pair (.int .i64) (.pair (.int .i64) (.pair (.int .i64) (.pair (.int .i64) (.pair (.int .i64) (.int .i64))))))))))), (.val, .str)], rs := [(.val, (.int .i64))], F := fun x => impl_articleOf.f x.1 x.2 }
def impl_articleOf.cs : List (FuncId × Con) := []
def impl_articleOf.E : Env := envOf tab impl_articleOf.cs 0 false
def impl_articleOf.keep (i : Nat) : List Nat := if i = 2 then [1, 7, 8, 9] else []
def impl_articleOf.at2 (n : Nat) (x : (List (ByteArray × Int × Int × Int × Int × Int × Int × Int × Int)) × ByteArray) : Code × (Ex → St → Option (Int)) := ctx impl_articleOf.E impl_articleOf.keep n [.snd, .fst, .snd, .blk] (codeOf Try.f69) (kEnd impl_articleOf.E Try.f69 impl_articleOf.con x)
def impl_articleOf.LN2 (n : Nat) (x : (List (ByteArray × Int × Int × Int × Int × Int × Int × Int × Int)) × ByteArray) : Nat → St → Option (Int) := loopN (exec impl_articleOf.E impl_articleOf.keep n (bodyOf (impl_articleOf.at2 n x).1)) (St.norm 0 (impl_articleOf.keep 2)) (impl_articleOf.at2 n x).2
set_option maxRecDepth 100000 in
theorem impl_articleOf.lem2 (n : Nat) (x : (List (ByteArray × Int × Int × Int × Int × Int × Int × Int × Int)) × ByteArray) : ∀ (k : Nat) (code1 : ByteArray) (v7 : List (ByteArray × Int × Int × Int × Int × Int × Int × Int × Int)) (v8 : Int) (v9 : Int), impl_articleOf.LN2 n x k (impl_articleOf.st2 code1 v7 v8 v9) = impl_articleOf.l2 n k code1 v7 v8 v9 := by
  intro k
  induction k with
  | zero => intro code1 v7 v8 v9; rfl
  | succ k ih =>
    intro code1 v7 v8 v9
    have h : impl_articleOf.LN2 n x (k + 1) (impl_articleOf.st2 code1 v7 v8 v9) = impl_articleOf.g2 (fun code1 v7 v8 v9 => impl_articleOf.LN2 n x k (impl_articleOf.st2 code1 v7 v8 v9)) code1 v7 v8 v9 := by kernel_rfl
    rw [h]
    simp only [ih]
    rfl
set_option maxRecDepth 100000 in
theorem impl_articleOf.body (n : Nat) (x : (List (ByteArray × Int × Int × Int × Int × Int × Int × Int × Int)) × ByteArray) : bodyF impl_articleOf.E impl_articleOf.keep n Try.f69 impl_articleOf.con x = impl_articleOf.fn n x.1 x.2 := by
  have h : bodyF impl_articleOf.E impl_articleOf.keep n Try.f69 impl_articleOf.con x = impl_articleOf.top (fun code1 v7 v8 v9 => impl_articleOf.LN2 n x n (impl_articleOf.st2 code1 v7 v8 v9)) x.1 x.2 := by kernel_rfl
  rw [h]
  simp only [impl_articleOf.lem2]
  rfl
set_option maxRecDepth 100000 in
theorem impl_articleOf.good : Good Try.prog 69 impl_articleOf.con :=
  good_of tabok (cs := impl_articleOf.cs) trivial 0 false (fn := Try.f69) Try.func69 rfl (by decide) (by simp [impl_articleOf.con]) impl_articleOf.keep NN (fun _ => rfl) (fun x => impl_articleOf.body NN x)
end
end Go.Ev.Try

namespace Go.Ev.Try
open Go.Proofs Go.Pl
set_option linter.unusedVariables false
noncomputable section
def impl_IsArticle.con : Con := { ps := [(.val, (.pair .str (.pair (.int .i64) (.pair (.int .i64) (.pair (.int .i64) (.pair (.int .i64) (.pair (.int .i64) (.pair (.int .i64) (.pair (.int .i64) (.int .i64))))))))))], rs := [(.val, .bool)], F := fun x => impl_IsArticle.f x }
def impl_IsArticle.cs : List (FuncId × Con) := [(87, impl_IsWord.con), (113, impl_within.con)]
def impl_IsArticle.E : Env := envOf tab impl_IsArticle.cs 0 false
def impl_IsArticle.keep (i : Nat) : List Nat := []
set_option maxRecDepth 100000 in
theorem impl_IsArticle.body (n : Nat) (x : ByteArray × Int × Int × Int × Int × Int × Int × Int × Int) : bodyF impl_IsArticle.E impl_IsArticle.keep n Try.f152 impl_IsArticle.con x = impl_IsArticle.fn n x := by
  have h : bodyF impl_IsArticle.E impl_IsArticle.keep n Try.f152 impl_IsArticle.con x = impl_IsArticle.top x := by kernel_rfl
  exact h
set_option maxRecDepth 100000 in
theorem impl_IsArticle.good : Good Try.prog 152 impl_IsArticle.con :=
  good_of tabok (cs := impl_IsArticle.cs) ⟨impl_IsWord.good, impl_within.good, trivial⟩ 0 false (fn := Try.f152) Try.func152 rfl (by decide) (by simp [impl_IsArticle.con]) impl_IsArticle.keep NN (fun _ => rfl) (fun x => impl_IsArticle.body NN x)
end
end Go.Ev.Try

namespace Go.Ev.Try
open Go.Proofs Go.Pl
set_option linter.unusedVariables false
noncomputable section
def impl_AreArticles.st4 (list0 : List (ByteArray × Int × Int × Int × Int × Int × Int × Int × Int)) (v8 : List (ByteArray × Int × Int × Int × Int × Int × Int × Int × Int)) (v9 : Int) (v10 : Int) : St := ⟨[.dat (.sl 75 (.pair .str (.pair (.int .i64) (.pair (.int .i64) (.pair (.int .i64) (.pair (.int .i64) (.pair (.int .i64) (.pair (.int .i64) (.pair (.int .i64) (.int .i64)))))))))) list0, .gone, .gone, .gone, .gone, .gone, .gone, .gone, .dat (.sl 75 (.pair .str (.pair (.int .i64) (.pair (.int .i64) (.pair (.int .i64) (.pair (.int .i64) (.pair (.int .i64) (.pair (.int .i64) (.pair (.int .i64) (.int .i64)))))))))) v8, .dat (.int .i64) v9, .dat (.int .i64) v10, .gone, .gone, .gone, .gone, .gone, .gone, .gone, .gone, .gone, .gone, .gone, .gone, .gone, .gone, .gone, .gone, .gone, .gone, .gone, .gone, .gone, .gone, .gone], []⟩
def impl_AreArticles.con : Con := { ps := [(.val, (.sl 75 (.pair .str (.pair (.int .i64) (.pair (.int .i64) (.pair (.int .i64) (.pair (.int .i64) (.pair (.int .i64) (.pair (.int .i64) (.pair (.int .i64) (.int .i64)))))))))))], rs := [(.val, .bool)], F := fun x => impl_AreArticles.f x }
def impl_AreArticles.cs : List (FuncId × Con) := [(152, impl_IsArticle.con)]
def impl_AreArticles.E : Env := envOf tab impl_AreArticles.cs 0 false
def impl_AreArticles.keep (i : Nat) : List Nat := if i = 4 then [0, 8, 9, 10] else []
def impl_AreArticles.at4 (n : Nat) (x : List (ByteArray × Int × Int × Int × Int × Int × Int × Int × Int)) : Code × (Ex → St → Option (Bool)) := ctx impl_AreArticles.E impl_AreArticles.keep n [.snd, .snd, .fst, .snd, .blk] (codeOf Try.f123) (kEnd impl_AreArticles.E Try.f123 impl_AreArticles.con x)
def impl_AreArticles.LN4 (n : Nat) (x : List (ByteArray × Int × Int × Int × Int × Int × Int × Int × Int)) : Nat → St → Option (Bool) := loopN (exec impl_AreArticles.E impl_AreArticles.keep n (bodyOf (impl_AreArticles.at4 n x).1)) (St.norm 0 (impl_AreArticles.keep 4)) (impl_AreArticles.at4 n x).2
set_option maxRecDepth 100000 in
theorem impl_AreArticles.lem4 (n : Nat) (x : List (ByteArray × Int × Int × Int × Int × Int × Int × Int × Int)) : ∀ (k : Nat) (list0 : List (ByteArray × Int × Int × Int × Int × Int × Int × Int × Int)) (v8 : List (ByteArray × Int × Int × Int × Int × Int × Int × Int × Int)) (v9 : Int) (v10 : Int), impl_AreArticles.LN4 n x k (impl_AreArticles.st4 list0 v8 v9 v10) = impl_AreArticles.l4 n k list0 v8 v9 v10 := by
  intro k
  induction k with
  | zero => intro list0 v8 v9 v10; rfl
  | succ k ih =>
    intro list0 v8 v9 v10
    have h : impl_AreArticles.LN4 n x (k + 1) (impl_AreArticles.st4 list0 v8 v9 v10) = impl_AreArticles.g4 (fun list0 v8 v9 v10 => impl_AreArticles.LN4 n x k (impl_AreArticles.st4 list0 v8 v9 v10)) list0 v8 v9 v10 := by kernel_rfl
    rw [h]
    simp only [ih]
    rfl
set_option maxRecDepth 100000 in
theorem impl_AreArticles.body (n : Nat) (x : List (ByteArray × Int × Int × Int × Int × Int × Int × Int × Int)) : bodyF impl_AreArticles.E impl_AreArticles.keep n Try.f123 impl_AreArticles.con x = impl_AreArticles.fn n x := by
  have h : bodyF impl_AreArticles.E impl_AreArticles.keep n Try.f123 impl_AreArticles.con x = impl_AreArticles.top (fun list0 v8 v9 v10 => impl_AreArticles.LN4 n x n (impl_AreArticles.st4 list0 v8 v9 v10)) x := by kernel_rfl
  rw [h]
  simp only [impl_AreArticles.lem4]
  rfl
set_option maxRecDepth 100000 in
theorem impl_AreArticles.good : Good Try.prog 123 impl_AreArticles.con :=
  good_of tabok (cs := impl_AreArticles.cs) ⟨impl_IsArticle.good, trivial⟩ 0 false (fn := Try.f123) Try.func123 rfl (by decide) (by simp [impl_AreArticles.con]) impl_AreArticles.keep NN (fun _ => rfl) (fun x => impl_AreArticles.body NN x)
end
end Go.Ev.Try

namespace Go.Ev.Try
open Go.Proofs Go.Pl
set_option linter.unusedVariables false
noncomputable section
def impl_IsScore.st4 (v13 : List (Int × Int)) (v14 : Int) (v15 : Int) : St := ⟨[.gone, .gone, .gone, .gone, .gone, .gone, .gone, .gone, .gone, .gone, .gone, .gone, .gone, .dat (.sl 188 (.pair (.int .i64) (.int .i64))) v13, .dat (.int .i64) v14, .dat (.int .i64) v15, .gone, .gone, .gone, .gone, .gone, .gone, .gone, .gone, .gone, .gone, .gone, .gone, .gone, .gone], []⟩
def impl_IsScore.con : Con := { ps := [(.val, (.sl 188 (.pair (.int .i64) (.int .i64))))], rs := [(.val, .bool)], F := fun x => impl_IsScore.f x }
def impl_IsScore.cs : List (FuncId × Con) := [(113, impl_within.con)]
def impl_IsScore.E : Env := envOf tab impl_IsScore.cs 0 false
def impl_IsScore.keep (i : Nat) : List Nat := if i = 4 then [13, 14, 15] else []
def impl_IsScore.at4 (n : Nat) (x : List (Int × Int)) : Code × (Ex → St → Option (Bool)) := ctx impl_IsScore.E impl_IsScore.keep n [.snd, .snd, .fst, .snd, .blk] (codeOf Try.f127) (kEnd impl_IsScore.E Try.f127 impl_IsScore.con x)
def impl_IsScore.LN4 (n : Nat) (x : List (Int × Int)) : Nat → St → Option (Bool) := loopN (exec impl_IsScore.E impl_IsScore.keep n (bodyOf (impl_IsScore.at4 n x).1)) (St.norm 0 (impl_IsScore.keep 4)) (impl_IsScore.at4 n x).2
set_option maxRecDepth 100000 in
theorem impl_IsScore.lem4 (n : Nat) (x : List (Int × Int)) : ∀ (k : Nat) (v13 : List (Int × Int)) (v14 : Int) (v15 : Int), impl_IsScore.LN4 n x k (impl_IsScore.st4 v13 v14 v15) = impl_IsScore.l4 n k v13 v14 v15 := by
  intro k
  induction k with
  | zero => intro v13 v14 v15; rfl
  | succ k ih =>
    intro v13 v14 v15
    have h : impl_IsScore.LN4 n x (k + 1) (impl_IsScore.st4 v13 v14 v15) = impl_IsScore.g4 (fun v13 v14 v15 => impl_IsScore.LN4 n x k (impl_IsScore.st4 v13 v14 v15)) v13 v14 v15 := by kernel_rfl
    rw [h]
    simp only [ih]
    rfl
set_option maxRecDepth 100000 in
theorem impl_IsScore.body (n : Nat) (x : List (Int × Int)) : bodyF impl_IsScore.E impl_IsScore.keep n Try.f127 impl_IsScore.con x = impl_IsScore.fn n x := by
  have h : bodyF impl_IsScore.E impl_IsScore.keep n Try.f127 impl_IsScore.con x = impl_IsScore.top (fun v13 v14 v15 => impl_IsScore.LN4 n x n (impl_IsScore.st4 v13 v14 v15)) x := by kernel_rfl
  rw [h]
  simp only [impl_IsScore.lem4]
  rfl
set_option maxRecDepth 100000 in
theorem impl_IsScore.good : Good Try.prog 127 impl_IsScore.con :=
  good_of tabok (cs := impl_IsScore.cs) ⟨impl_within.good, trivial⟩ 0 false (fn := Try.f127) Try.func127 rfl (by decide) (by simp [impl_IsScore.con]) impl_IsScore.keep NN (fun _ => rfl) (fun x => impl_IsScore.body NN x)
end
end Go.Ev.Try

namespace Go.Ev.Try
open Go.Proofs Go.Pl
set_option linter.unusedVariables false
noncomputable section
def impl_isIndex.con : Con := { ps := [(.val, (.int .i64)), (.val, (.int .i64))], rs := [(.val, .bool)], F := fun x => impl_isIndex.f x.1 x.2 }
def impl_isIndex.cs : List (FuncId × Con) := [(113, impl_within.con)]
def impl_isIndex.E : Env := envOf tab impl_isIndex.cs 0 false
def impl_isIndex.keep (i : Nat) : List Nat := []
set_option maxRecDepth 100000 in
theorem impl_isIndex.body (n : Nat) (x : Int × Int) : bodyF impl_isIndex.E impl_isIndex.keep n Try.f84 impl_isIndex.con x = impl_isIndex.fn n x.1 x.2 := by
  have h : bodyF impl_isIndex.E impl_isIndex.keep n Try.f84 impl_isIndex.con x = impl_isIndex.top x.1 x.2 := by kernel_rfl
  exact h
set_option maxRecDepth 100000 in
theorem impl_isIndex.good : Good Try.prog 84 impl_isIndex.con :=
  good_of tabok (cs := impl_isIndex.cs) ⟨impl_within.good, trivial⟩ 0 false (fn := Try.f84) Try.func84 rfl (by decide) (by simp [impl_isIndex.con]) impl_isIndex.keep NN (fun _ => rfl) (fun x => impl_isIndex.body NN x)
end
end Go.Ev.Try

namespace Go.Ev.Try
open Go.Proofs Go.Pl
set_option linter.unusedVariables false
noncomputable section
def impl_isBeat.con : Con := { ps := [(.val, (.sl 188 (.pair (.int .i64) (.int .i64)))), (.val, (.int .i64)), (.val, (.int .i64))], rs := [(.val, .bool)], F := fun x => impl_isBeat.f x.1 x.2.1 x.2.2 }
def impl_isBeat.cs : List (FuncId × Con) := [(84, impl_isIndex.con), (113, impl_within.con)]
def impl_isBeat.E : Env := envOf tab impl_isBeat.cs 0 false
def impl_isBeat.keep (i : Nat) : List Nat := []
set_option maxRecDepth 100000 in
theorem impl_isBeat.body (n : Nat) (x : (List (Int × Int)) × Int × Int) : bodyF impl_isBeat.E impl_isBeat.keep n Try.f156 impl_isBeat.con x = impl_isBeat.fn n x.1 x.2.1 x.2.2 := by
  have h : bodyF impl_isBeat.E impl_isBeat.keep n Try.f156 impl_isBeat.con x = impl_isBeat.top x.1 x.2.1 x.2.2 := by kernel_rfl
  exact h
set_option maxRecDepth 100000 in
theorem impl_isBeat.good : Good Try.prog 156 impl_isBeat.con :=
  good_of tabok (cs := impl_isBeat.cs) ⟨impl_isIndex.good, impl_within.good, trivial⟩ 0 false (fn := Try.f156) Try.func156 rfl (by decide) (by simp [impl_isBeat.con]) impl_isBeat.keep NN (fun _ => rfl) (fun x => impl_isBeat.body NN x)
end
end Go.Ev.Try

namespace Go.Ev.Try
open Go.Proofs Go.Pl
set_option linter.unusedVariables false
noncomputable section
def impl_beatTime.st3 (list0 : List (Int × Int)) (bar1 : Int) (beat2 : Int) (t7 : Int) (v12 : List (Int × Int)) (v13 : Int) (v14 : Int) : St := ⟨[.dat (.sl 188 (.pair (.int .i64) (.int .i64))) list0, .dat (.int .i64) bar1, .dat (.int .i64) beat2, .gone, .gone, .gone, .gone, .dat (.int .i64) t7, .gone, .gone, .gone, .gone, .dat (.sl 188 (.pair (.int .i64) (.int .i64))) v12, .dat (.int .i64) v13, .dat (.int .i64) v14, .gone, .gone, .gone, .gone, .gone, .gone, .gone, .gone, .gone, .gone, .gone, .gone, .gone, .gone, .gone, .gone, .gone, .gone, .gone, .gone, .gone, .gone, .gone], []⟩
def impl_beatTime.con : Con := { ps := [(.val, (.sl 188 (.pair (.int .i64) (.int .i64)))), (.val, (.int .i64)), (.val, (.int .i64))], rs := [(.val, (.int .i64))], F := fun x => impl_beatTime.f x.1 x.2.1 x.2.2 }
def impl_beatTime.cs : List (FuncId × Con) := []
def impl_beatTime.E : Env := envOf tab impl_beatTime.cs 0 false
def impl_beatTime.keep (i : Nat) : List Nat := if i = 3 then [0, 1, 2, 7, 12, 13, 14] else []
def impl_beatTime.at3 (n : Nat) (x : (List (Int × Int)) × Int × Int) : Code × (Ex → St → Option (Int)) := ctx impl_beatTime.E impl_beatTime.keep n [.snd, .snd, .fst, .snd, .blk] (codeOf Try.f157) (kEnd impl_beatTime.E Try.f157 impl_beatTime.con x)
def impl_beatTime.LN3 (n : Nat) (x : (List (Int × Int)) × Int × Int) : Nat → St → Option (Int) := loopN (exec impl_beatTime.E impl_beatTime.keep n (bodyOf (impl_beatTime.at3 n x).1)) (St.norm 0 (impl_beatTime.keep 3)) (impl_beatTime.at3 n x).2
set_option maxRecDepth 100000 in
theorem impl_beatTime.lem3 (n : Nat) (x : (List (Int × Int)) × Int × Int) : ∀ (k : Nat) (list0 : List (Int × Int)) (bar1 : Int) (beat2 : Int) (t7 : Int) (v12 : List (Int × Int)) (v13 : Int) (v14 : Int), impl_beatTime.LN3 n x k (impl_beatTime.st3 list0 bar1 beat2 t7 v12 v13 v14) = impl_beatTime.l3 n k list0 bar1 beat2 t7 v12 v13 v14 := by
  intro k
  induction k with
  | zero => intro list0 bar1 beat2 t7 v12 v13 v14; rfl
  | succ k ih =>
    intro list0 bar1 beat2 t7 v12 v13 v14
    have h : impl_beatTime.LN3 n x (k + 1) (impl_beatTime.st3 list0 bar1 beat2 t7 v12 v13 v14) = impl_beatTime.g3 (fun list0 bar1 beat2 t7 v12 v13 v14 => impl_beatTime.LN3 n x k (impl_beatTime.st3 list0 bar1 beat2 t7 v12 v13 v14)) list0 bar1 beat2 t7 v12 v13 v14 := by kernel_rfl
    rw [h]
    simp only [ih]
    rfl
set_option maxRecDepth 100000 in
theorem impl_beatTime.body (n : Nat) (x : (List (Int × Int)) × Int × Int) : bodyF impl_beatTime.E impl_beatTime.keep n Try.f157 impl_beatTime.con x = impl_beatTime.fn n x.1 x.2.1 x.2.2 := by
  have h : bodyF impl_beatTime.E impl_beatTime.keep n Try.f157 impl_beatTime.con x = impl_beatTime.top (fun list0 bar1 beat2 t7 v12 v13 v14 => impl_beatTime.LN3 n x n (impl_beatTime.st3 list0 bar1 beat2 t7 v12 v13 v14)) x.1 x.2.1 x.2.2 := by kernel_rfl
  rw [h]
  simp only [impl_beatTime.lem3]
  rfl
set_option maxRecDepth 100000 in
theorem impl_beatTime.good : Good Try.prog 157 impl_beatTime.con :=
  good_of tabok (cs := impl_beatTime.cs) trivial 0 false (fn := Try.f157) Try.func157 rfl (by decide) (by simp [impl_beatTime.con]) impl_beatTime.keep NN (fun _ => rfl) (fun x => impl_beatTime.body NN x)
end
end Go.Ev.Try

namespace Go.Ev.Try
open Go.Proofs Go.Pl
set_option linter.unusedVariables false
noncomputable section
def impl_firedAt.con : Con := { ps := [(.val, (.pair (.sl 188 (.pair (.int .i64) (.int .i64))) (.pair (.sl 75 (.pair .str (.pair (.int .i64) (.pair (.int .i64) (.pair (.int .i64) (.pair (.int .i64) (.pair (.int .i64) (.pair (.int .i64) (.pair (.int .i64) (.int .i64)))))))))) (.sl 73 (.pair (.int .i64) (.pair (.int .i64) (.pair .str (.int .i64)))))))), (.val, (.pair (.int .i64) (.pair (.int .i64) (.pair .str (.int .i64)))))], rs := [(.val, (.int .i64))], F := fun x => impl_firedAt.f x.1 x.2 }
def impl_firedAt.cs : List (FuncId × Con) := [(69, impl_articleOf.con), (156, impl_isBeat.con), (157, impl_beatTime.con)]
def impl_firedAt.E : Env := envOf tab impl_firedAt.cs 0 false
def impl_firedAt.keep (i : Nat) : List Nat := []
set_option maxRecDepth 100000 in
theorem impl_firedAt.body (n : Nat) (x : ((List (Int × Int)) × (List (ByteArray × Int × Int × Int × Int × Int × Int × Int × Int)) × List (Int × Int × ByteArray × Int)) × Int × Int × ByteArray × Int) : bodyF impl_firedAt.E impl_firedAt.keep n Try.f128 impl_firedAt.con x = impl_firedAt.fn n x.1 x.2 := by
  have h : bodyF impl_firedAt.E impl_firedAt.keep n Try.f128 impl_firedAt.con x = impl_firedAt.top x.1 x.2 := by kernel_rfl
  exact h
set_option maxRecDepth 100000 in
theorem impl_firedAt.good : Good Try.prog 128 impl_firedAt.con :=
  good_of tabok (cs := impl_firedAt.cs) ⟨impl_articleOf.good, impl_isBeat.good, impl_beatTime.good, trivial⟩ 0 false (fn := Try.f128) Try.func128 rfl (by decide) (by simp [impl_firedAt.con]) impl_firedAt.keep NN (fun _ => rfl) (fun x => impl_firedAt.body NN x)
end
end Go.Ev.Try

namespace Go.Ev.Try
open Go.Proofs Go.Pl
set_option linter.unusedVariables false
noncomputable section
def impl_IsShow.st4 (v22 : List (Int × Int × ByteArray × Int)) (v23 : Int) (v24 : Int) (x1 : (List (Int × Int)) × (List (ByteArray × Int × Int × Int × Int × Int × Int × Int × Int)) × List (Int × Int × ByteArray × Int)) : St := ⟨[.gone, .ptr 0 [], .gone, .gone, .gone, .gone, .gone, .gone, .gone, .gone, .gone, .gone, .gone, .gone, .gone, .gone, .gone, .gone, .gone, .gone, .gone, .gone, .dat (.sl 73 (.pair (.int .i64) (.pair (.int .i64) (.pair .str (.int .i64))))) v22, .dat (.int .i64) v23, .dat (.int .i64) v24, .gone, .gone, .gone, .gone, .gone, .gone, .gone, .gone, .gone, .gone, .gone, .gone, .gone, .gone], [.box 62 (.pair (.sl 188 (.pair (.int .i64) (.int .i64))) (.pair (.sl 75 (.pair .str (.pair (.int .i64) (.pair (.int .i64) (.pair (.int .i64) (.pair (.int .i64) (.pair (.int .i64) (.pair (.int .i64) (.pair (.int .i64) (.int .i64)))))))))) (.sl 73 (.pair (.int .i64) (.pair (.int .i64) (.pair .str (.int .i64))))))) (.dat (.pair (.sl 188 (.pair (.int .i64) (.int .i64))) (.pair (.sl 75 (.pair .str (.pair (.int .i64) (.pair (.int .i64) (.pair (.int .i64) (.pair (.int .i64) (.pair (.int .i64) (.pair (.int .i64) (.pair (.int .i64) (.int .i64)))))))))) (.sl 73 (.pair (.int .i64) (.pair (.int .i64) (.pair .str (.int .i64))))))) x1)]⟩
def impl_IsShow.con : Con := { ps := [(.val, (.pair (.sl 188 (.pair (.int .i64) (.int .i64))) (.pair (.sl 75 (.pair .str (.pair (.int .i64) (.pair (.int .i64) (.pair (.int .i64) (.pair (.int .i64) (.pair (.int .i64) (.pair (.int .i64) (.pair (.int .i64) (.int .i64)))))))))) (.sl 73 (.pair (.int .i64) (.pair (.int .i64) (.pair .str (.int .i64))))))))], rs := [(.val, .bool)], F := fun x => impl_IsShow.f x }
def impl_IsShow.cs : List (FuncId × Con) := [(113, impl_within.con), (123, impl_AreArticles.con), (127, impl_IsScore.con), (128, impl_firedAt.con)]
def impl_IsShow.E : Env := envOf tab impl_IsShow.cs 0 false
def impl_IsShow.keep (i : Nat) : List Nat := if i = 4 then [1, 22, 23, 24] else []
def impl_IsShow.at4 (n : Nat) (x : (List (Int × Int)) × (List (ByteArray × Int × Int × Int × Int × Int × Int × Int × Int)) × List (Int × Int × ByteArray × Int)) : Code × (Ex → St → Option (Bool)) := ctx impl_IsShow.E impl_IsShow.keep n [.snd, .snd, .fst, .snd, .blk] (codeOf Try.f76) (kEnd impl_IsShow.E Try.f76 impl_IsShow.con x)
def impl_IsShow.LN4 (n : Nat) (x : (List (Int × Int)) × (List (ByteArray × Int × Int × Int × Int × Int × Int × Int × Int)) × List (Int × Int × ByteArray × Int)) : Nat → St → Option (Bool) := loopN (exec impl_IsShow.E impl_IsShow.keep n (bodyOf (impl_IsShow.at4 n x).1)) (St.norm 0 (impl_IsShow.keep 4)) (impl_IsShow.at4 n x).2
set_option maxRecDepth 100000 in
theorem impl_IsShow.lem4 (n : Nat) (x : (List (Int × Int)) × (List (ByteArray × Int × Int × Int × Int × Int × Int × Int × Int)) × List (Int × Int × ByteArray × Int)) : ∀ (k : Nat) (v22 : List (Int × Int × ByteArray × Int)) (v23 : Int) (v24 : Int) (x1 : (List (Int × Int)) × (List (ByteArray × Int × Int × Int × Int × Int × Int × Int × Int)) × List (Int × Int × ByteArray × Int)), impl_IsShow.LN4 n x k (impl_IsShow.st4 v22 v23 v24 x1) = impl_IsShow.l4 n k v22 v23 v24 x1 := by
  intro k
  induction k with
  | zero => intro v22 v23 v24 x1; rfl
  | succ k ih =>
    intro v22 v23 v24 x1
    have h : impl_IsShow.LN4 n x (k + 1) (impl_IsShow.st4 v22 v23 v24 x1) = impl_IsShow.g4 (fun v22 v23 v24 x1 => impl_IsShow.LN4 n x k (impl_IsShow.st4 v22 v23 v24 x1)) v22 v23 v24 x1 := by kernel_rfl
    rw [h]
    simp only [ih]
    rfl
set_option maxRecDepth 100000 in
theorem impl_IsShow.body (n : Nat) (x : (List (Int × Int)) × (List (ByteArray × Int × Int × Int × Int × Int × Int × Int × Int)) × List (Int × Int × ByteArray × Int)) : bodyF impl_IsShow.E impl_IsShow.keep n Try.f76 impl_IsShow.con x = impl_IsShow.fn n x := by
  have h : bodyF impl_IsShow.E impl_IsShow.keep n Try.f76 impl_IsShow.con x = impl_IsShow.top (fun v22 v23 v24 x1 => impl_IsShow.LN4 n x n (impl_IsShow.st4 v22 v23 v24 x1)) x := by kernel_rfl
  rw [h]
  simp only [impl_IsShow.lem4]
  rfl
set_option maxRecDepth 100000 in
theorem impl_IsShow.good : Good Try.prog 76 impl_IsShow.con :=
  good_of tabok (cs := impl_IsShow.cs) ⟨impl_within.good, impl_AreArticles.good, impl_IsScore.good, impl_firedAt.good, trivial⟩ 0 false (fn := Try.f76) Try.func76 rfl (by decide) (by simp [impl_IsShow.con]) impl_IsShow.keep NN (fun _ => rfl) (fun x => impl_IsShow.body NN x)
end
end Go.Ev.Try

namespace Go.Ev.Try
open Go.Proofs Go.Pl
set_option linter.unusedVariables false
noncomputable section
def impl_BookShow.st13 (v71 : Int) (v72 : Int) (x4 : (List (Int × Int)) × (List (ByteArray × Int × Int × Int × Int × Int × Int × Int × Int)) × List (Int × Int × ByteArray × Int)) (out11 : List (Int × ByteArray × Int)) (v70 : List Int) : St := ⟨[.gone, .gone, .gone, .gone, .ptr 0 [], .gone, .gone, .gone, .gone, .gone, .gone, .ref 1, .gone, .gone, .gone, .gone, .gone, .gone, .gone, .gone, .gone, .gone, .gone, .gone, .gone, .gone, .gone, .gone, .gone, .gone, .gone, .gone, .gone, .gone, .gone, .gone, .gone, .gone, .gone, .gone, .gone, .gone, .gone, .gone, .gone, .gone, .gone, .gone, .gone, .gone, .gone, .gone, .gone, .gone, .gone, .gone, .gone, .gone, .gone, .gone, .gone, .gone, .gone, .gone, .gone, .gone, .gone, .gone, .gone, .gone, .ref 2, .dat (.int .i64) v71, .dat (.int .i64) v72, .gone, .gone, .gone, .gone, .gone, .gone, .gone, .gone, .gone, .gone, .gone, .gone, .gone, .gone, .gone, .gone, .gone, .gone, .gone, .gone, .gone, .gone, .gone, .gone, .gone], [.box 62 (.pair (.sl 188 (.pair (.int .i64) (.int .i64))) (.pair (.sl 75 (.pair .str (.pair (.int .i64) (.pair (.int .i64) (.pair (.int .i64) (.pair (.int .i64) (.pair (.int .i64) (.pair (.int .i64) (.pair (.int .i64) (.int .i64)))))))))) (.sl 73 (.pair (.int .i64) (.pair (.int .i64) (.pair .str (.int .i64))))))) (.dat (.pair (.sl 188 (.pair (.int .i64) (.int .i64))) (.pair (.sl 75 (.pair .str (.pair (.int .i64) (.pair (.int .i64) (.pair (.int .i64) (.pair (.int .i64) (.pair (.int .i64) (.pair (.int .i64) (.pair (.int .i64) (.int .i64)))))))))) (.sl 73 (.pair (.int .i64) (.pair (.int .i64) (.pair .str (.int .i64))))))) x4), .row 127 (.pair (.int .i64) (.pair .str (.int .i64))) out11 none, .row 2 (.int .i64) v70 none]⟩
def impl_BookShow.st5 (list0 : List (Int × ByteArray × Int)) (fired2 : List Int) (v26 : List Int) (v27 : Int) (v28 : Int) (x4 : (List (Int × Int)) × (List (ByteArray × Int × Int × Int × Int × Int × Int × Int × Int)) × List (Int × Int × ByteArray × Int)) (counts8 : List Int) : St := ⟨[.dat (.sl 127 (.pair (.int .i64) (.pair .str (.int .i64)))) list0, .gone, .dat (.sl 2 (.int .i64)) fired2, .gone, .ptr 0 [], .gone, .gone, .gone, .ref 1, .gone, .gone, .gone, .gone, .gone, .gone, .gone, .gone, .gone, .gone, .gone, .gone, .gone, .gone, .gone, .gone, .gone, .dat (.sl 2 (.int .i64)) v26, .dat (.int .i64) v27, .dat (.int .i64) v28, .gone, .gone, .gone, .gone, .gone, .gone, .gone, .gone, .gone, .gone, .gone, .gone, .gone, .gone, .gone, .gone, .gone, .gone, .gone, .gone, .gone, .gone, .gone, .gone, .gone, .gone, .gone, .gone, .gone, .gone, .gone, .gone, .gone, .gone, .gone, .gone, .gone, .gone, .gone, .gone, .gone, .gone, .gone, .gone, .gone, .gone, .gone, .gone, .gone, .gone, .gone, .gone, .gone, .gone, .gone, .gone, .gone, .gone, .gone, .gone, .gone, .gone, .gone, .gone, .gone, .gone, .gone, .gone, .gone], [.box 62 (.pair (.sl 188 (.pair (.int .i64) (.int .i64))) (.pair (.sl 75 (.pair .str (.pair (.int .i64) (.pair (.int .i64) (.pair (.int .i64) (.pair (.int .i64) (.pair (.int .i64) (.pair (.int .i64) (.pair (.int .i64) (.int .i64)))))))))) (.sl 73 (.pair (.int .i64) (.pair (.int .i64) (.pair .str (.int .i64))))))) (.dat (.pair (.sl 188 (.pair (.int .i64) (.int .i64))) (.pair (.sl 75 (.pair .str (.pair (.int .i64) (.pair (.int .i64) (.pair (.int .i64) (.pair (.int .i64) (.pair (.int .i64) (.pair (.int .i64) (.pair (.int .i64) (.int .i64)))))))))) (.sl 73 (.pair (.int .i64) (.pair (.int .i64) (.pair .str (.int .i64))))))) x4), .row 2 (.int .i64) counts8 none]⟩
def impl_BookShow.con : Con := { ps := [(.val, (.sl 127 (.pair (.int .i64) (.pair .str (.int .i64))))), (.val, (.pair (.sl 188 (.pair (.int .i64) (.int .i64))) (.pair (.sl 75 (.pair .str (.pair (.int .i64) (.pair (.int .i64) (.pair (.int .i64) (.pair (.int .i64) (.pair (.int .i64) (.pair (.int .i64) (.pair (.int .i64) (.int .i64)))))))))) (.sl 73 (.pair (.int .i64) (.pair (.int .i64) (.pair .str (.int .i64)))))))), (.val, (.sl 2 (.int .i64)))], rs := [(.own, (.sl 127 (.pair (.int .i64) (.pair .str (.int .i64))))), (.own, (.int .i64))], F := fun x => impl_BookShow.f x.1 x.2.1 x.2.2 }
def impl_BookShow.cs : List (FuncId × Con) := [(56, impl_AreBookings.con), (69, impl_articleOf.con), (76, impl_IsShow.con), (84, impl_isIndex.con)]
def impl_BookShow.E : Env := envOf tab impl_BookShow.cs 0 false
def impl_BookShow.keep (i : Nat) : List Nat := if i = 13 then [4, 11, 70, 71, 72] else if i = 5 then [0, 2, 4, 8, 26, 27, 28] else []
def impl_BookShow.at13 (n : Nat) (x : (List (Int × ByteArray × Int)) × ((List (Int × Int)) × (List (ByteArray × Int × Int × Int × Int × Int × Int × Int × Int)) × List (Int × Int × ByteArray × Int)) × List Int) : Code × (Ex → St → Option (((List (Int × ByteArray × Int)) × Int))) := ctx impl_BookShow.E impl_BookShow.keep n [.snd, .snd, .snd, .snd, .snd, .fst, .snd, .blk] (codeOf Try.f30) (kEnd impl_BookShow.E Try.f30 impl_BookShow.con x)
def impl_BookShow.LN13 (n : Nat) (x : (List (Int × ByteArray × Int)) × ((List (Int × Int)) × (List (ByteArray × Int × Int × Int × Int × Int × Int × Int × Int)) × List (Int × Int × ByteArray × Int)) × List Int) : Nat → St → Option (((List (Int × ByteArray × Int)) × Int)) := loopN (exec impl_BookShow.E impl_BookShow.keep n (bodyOf (impl_BookShow.at13 n x).1)) (St.norm 0 (impl_BookShow.keep 13)) (impl_BookShow.at13 n x).2
def impl_BookShow.at5 (n : Nat) (x : (List (Int × ByteArray × Int)) × ((List (Int × Int)) × (List (ByteArray × Int × Int × Int × Int × Int × Int × Int × Int)) × List (Int × Int × ByteArray × Int)) × List Int) : Code × (Ex → St → Option (((List (Int × ByteArray × Int)) × Int))) := ctx impl_BookShow.E impl_BookShow.keep n [.snd, .snd, .snd, .fst, .snd, .blk] (codeOf Try.f30) (kEnd impl_BookShow.E Try.f30 impl_BookShow.con x)
def impl_BookShow.LN5 (n : Nat) (x : (List (Int × ByteArray × Int)) × ((List (Int × Int)) × (List (ByteArray × Int × Int × Int × Int × Int × Int × Int × Int)) × List (Int × Int × ByteArray × Int)) × List Int) : Nat → St → Option (((List (Int × ByteArray × Int)) × Int)) := loopN (exec impl_BookShow.E impl_BookShow.keep n (bodyOf (impl_BookShow.at5 n x).1)) (St.norm 0 (impl_BookShow.keep 5)) (impl_BookShow.at5 n x).2
set_option maxRecDepth 100000 in
theorem impl_BookShow.lem13 (n : Nat) (x : (List (Int × ByteArray × Int)) × ((List (Int × Int)) × (List (ByteArray × Int × Int × Int × Int × Int × Int × Int × Int)) × List (Int × Int × ByteArray × Int)) × List Int) : ∀ (k : Nat) (v71 : Int) (v72 : Int) (x4 : (List (Int × Int)) × (List (ByteArray × Int × Int × Int × Int × Int × Int × Int × Int)) × List (Int × Int × ByteArray × Int)) (out11 : List (Int × ByteArray × Int)) (v70 : List Int), impl_BookShow.LN13 n x k (impl_BookShow.st13 v71 v72 x4 out11 v70) = impl_BookShow.l13 n k v71 v72 x4 out11 v70 := by
  intro k
  induction k with
  | zero => intro v71 v72 x4 out11 v70; rfl
  | succ k ih =>
    intro v71 v72 x4 out11 v70
    have h : impl_BookShow.LN13 n x (k + 1) (impl_BookShow.st13 v71 v72 x4 out11 v70) = impl_BookShow.g13 (fun v71 v72 x4 out11 v70 => impl_BookShow.LN13 n x k (impl_BookShow.st13 v71 v72 x4 out11 v70)) v71 v72 x4 out11 v70 := by kernel_rfl
    rw [h]
    simp only [ih]
    rfl
set_option maxRecDepth 100000 in
theorem impl_BookShow.lem5 (n : Nat) (x : (List (Int × ByteArray × Int)) × ((List (Int × Int)) × (List (ByteArray × Int × Int × Int × Int × Int × Int × Int × Int)) × List (Int × Int × ByteArray × Int)) × List Int) : ∀ (k : Nat) (list0 : List (Int × ByteArray × Int)) (fired2 : List Int) (v26 : List Int) (v27 : Int) (v28 : Int) (x4 : (List (Int × Int)) × (List (ByteArray × Int × Int × Int × Int × Int × Int × Int × Int)) × List (Int × Int × ByteArray × Int)) (counts8 : List Int), impl_BookShow.LN5 n x k (impl_BookShow.st5 list0 fired2 v26 v27 v28 x4 counts8) = impl_BookShow.l5 n k list0 fired2 v26 v27 v28 x4 counts8 := by
  intro k
  induction k with
  | zero => intro list0 fired2 v26 v27 v28 x4 counts8; rfl
  | succ k ih =>
    intro list0 fired2 v26 v27 v28 x4 counts8
    have h : impl_BookShow.LN5 n x (k + 1) (impl_BookShow.st5 list0 fired2 v26 v27 v28 x4 counts8) = impl_BookShow.g5 (fun v71 v72 x4 out11 v70 => impl_BookShow.LN13 n x n (impl_BookShow.st13 v71 v72 x4 out11 v70)) (fun list0 fired2 v26 v27 v28 x4 counts8 => impl_BookShow.LN5 n x k (impl_BookShow.st5 list0 fired2 v26 v27 v28 x4 counts8)) list0 fired2 v26 v27 v28 x4 counts8 := by kernel_rfl
    rw [h]
    simp only [ih, impl_BookShow.lem13]
    rfl
set_option maxRecDepth 100000 in
theorem impl_BookShow.body (n : Nat) (x : (List (Int × ByteArray × Int)) × ((List (Int × Int)) × (List (ByteArray × Int × Int × Int × Int × Int × Int × Int × Int)) × List (Int × Int × ByteArray × Int)) × List Int) : bodyF impl_BookShow.E impl_BookShow.keep n Try.f30 impl_BookShow.con x = impl_BookShow.fn n x.1 x.2.1 x.2.2 := by
  have h : bodyF impl_BookShow.E impl_BookShow.keep n Try.f30 impl_BookShow.con x = impl_BookShow.top (fun list0 fired2 v26 v27 v28 x4 counts8 => impl_BookShow.LN5 n x n (impl_BookShow.st5 list0 fired2 v26 v27 v28 x4 counts8)) x.1 x.2.1 x.2.2 := by kernel_rfl
  rw [h]
  simp only [impl_BookShow.lem5]
  rfl
set_option maxRecDepth 100000 in
theorem impl_BookShow.good : Good Try.prog 30 impl_BookShow.con :=
  good_of tabok (cs := impl_BookShow.cs) ⟨impl_AreBookings.good, impl_articleOf.good, impl_IsShow.good, impl_isIndex.good, trivial⟩ 0 false (fn := Try.f30) Try.func30 rfl (by decide) (by simp [impl_BookShow.con]) impl_BookShow.keep NN (fun _ => rfl) (fun x => impl_BookShow.body NN x)
end
end Go.Ev.Try

namespace Go.Ev.Try
open Go.Proofs Go.Pl
set_option linter.unusedVariables false
noncomputable section
def spec_l01In.con : Con := { ps := [(.val, (.int .i64)), (.val, (.int .i64)), (.val, (.int .i64))], rs := [(.val, .bool)], F := fun x => spec_l01In.f x.1 x.2.1 x.2.2 }
def spec_l01In.cs : List (FuncId × Con) := []
def spec_l01In.E : Env := envOf tab spec_l01In.cs 0 false
def spec_l01In.keep (i : Nat) : List Nat := []
set_option maxRecDepth 100000 in
theorem spec_l01In.body (n : Nat) (x : Int × Int × Int) : bodyF spec_l01In.E spec_l01In.keep n Try.f105 spec_l01In.con x = spec_l01In.fn n x.1 x.2.1 x.2.2 := by
  have h : bodyF spec_l01In.E spec_l01In.keep n Try.f105 spec_l01In.con x = spec_l01In.top x.1 x.2.1 x.2.2 := by kernel_rfl
  exact h
set_option maxRecDepth 100000 in
theorem spec_l01In.good : Good Try.prog 105 spec_l01In.con :=
  good_of tabok (cs := spec_l01In.cs) trivial 0 false (fn := Try.f105) Try.func105 rfl (by decide) (by simp [spec_l01In.con]) spec_l01In.keep NN (fun _ => rfl) (fun x => spec_l01In.body NN x)
end
end Go.Ev.Try

namespace Go.Ev.Try
open Go.Proofs Go.Pl
set_option linter.unusedVariables false
noncomputable section
def spec_IsWord.st2 (s0 : ByteArray) (i3 : Int) : St := ⟨[.dat .str s0, .gone, .gone, .dat (.int .i64) i3, .gone, .gone, .gone, .gone, .gone, .gone, .gone, .gone, .gone, .gone, .gone, .gone, .gone, .gone, .gone, .gone, .gone, .gone, .gone], []⟩
def spec_IsWord.con : Con := { ps := [(.val, .str)], rs := [(.val, .bool)], F := fun x => spec_IsWord.f x }
def spec_IsWord.cs : List (FuncId × Con) := [(105, spec_l01In.con)]
def spec_IsWord.E : Env := envOf tab spec_IsWord.cs 0 false
def spec_IsWord.keep (i : Nat) : List Nat := if i = 2 then [0, 3] else []
def spec_IsWord.at2 (n : Nat) (x : ByteArray) : Code × (Ex → St → Option (Bool)) := ctx spec_IsWord.E spec_IsWord.keep n [.snd, .fst, .snd, .blk] (codeOf Try.f104) (kEnd spec_IsWord.E Try.f104 spec_IsWord.con x)
def spec_IsWord.LN2 (n : Nat) (x : ByteArray) : Nat → St → Option (Bool) := loopN (exec spec_IsWord.E spec_IsWord.keep n (bodyOf (spec_IsWord.at2 n x).1)) (St.norm 0 (spec_IsWord.keep 2)) (spec_IsWord.at2 n x).2
set_option maxRecDepth 100000 in
theorem spec_IsWord.lem2 (n : Nat) (x : ByteArray) : ∀ (k : Nat) (s0 : ByteArray) (i3 : Int), spec_IsWord.LN2 n x k (spec_IsWord.st2 s0 i3) = spec_IsWord.l2 n k s0 i3 := by
  intro k
  induction k with
  | zero => intro s0 i3; rfl
  | succ k ih =>
    intro s0 i3
    have h : spec_IsWord.LN2 n x (k + 1) (spec_IsWord.st2 s0 i3) = spec_IsWord.g2 (fun s0 i3 => spec_IsWord.LN2 n x k (spec_IsWord.st2 s0 i3)) s0 i3 := by kernel_rfl
    rw [h]
    simp only [ih]
    rfl
set_option maxRecDepth 100000 in
theorem spec_IsWord.body (n : Nat) (x : ByteArray) : bodyF spec_IsWord.E spec_IsWord.keep n Try.f104 spec_IsWord.con x = spec_IsWord.fn n x := by
  have h : bodyF spec_IsWord.E spec_IsWord.keep n Try.f104 spec_IsWord.con x = spec_IsWord.top (fun s0 i3 => spec_IsWord.LN2 n x n (spec_IsWord.st2 s0 i3)) x := by kernel_rfl
  rw [h]
  simp only [spec_IsWord.lem2]
  rfl
set_option maxRecDepth 100000 in
theorem spec_IsWord.good : Good Try.prog 104 spec_IsWord.con :=
  good_of tabok (cs := spec_IsWord.cs) ⟨spec_l01In.good, trivial⟩ 0 false (fn := Try.f104) Try.func104 rfl (by decide) (by simp [spec_IsWord.con]) spec_IsWord.keep NN (fun _ => rfl) (fun x => spec_IsWord.body NN x)
end
end Go.Ev.Try

namespace Go.Ev.Try
open Go.Proofs Go.Pl
set_option linter.unusedVariables false
noncomputable section
def spec_l32Left.st3 (list0 : List (Int × ByteArray × Int)) (article1 : ByteArray) (n2 : Int) (left7 : Int) (i8 : Int) : St := ⟨[.dat (.sl 127 (.pair (.int .i64) (.pair .str (.int .i64)))) list0, .dat .str article1, .dat (.int .i64) n2, .gone, .gone, .gone, .gone, .dat (.int .i64) left7, .dat (.int .i64) i8, .gone, .gone, .gone, .gone, .gone, .gone, .gone, .gone, .gone, .gone, .gone, .gone, .gone, .gone, .gone, .gone, .gone, .gone, .gone, .gone, .gone, .gone, .gone, .gone, .gone, .gone, .gone, .gone, .gone, .gone, .gone, .gone, .gone, .gone, .gone], []⟩
def spec_l32Left.con : Con := { ps := [(.val, (.sl 127 (.pair (.int .i64) (.pair .str (.int .i64))))), (.val, .str), (.val, (.int .i64))], rs := [(.val, (.int .i64))], F := fun x => spec_l32Left.f x.1 x.2.1 x.2.2 }
def spec_l32Left.cs : List (FuncId × Con) := []
def spec_l32Left.E : Env := envOf tab spec_l32Left.cs 0 false
def spec_l32Left.keep (i : Nat) : List Nat := if i = 3 then [0, 1, 2, 7, 8] else []
def spec_l32Left.at3 (n : Nat) (x : (List (Int × ByteArray × Int)) × ByteArray × Int) : Code × (Ex → St → Option (Int)) := ctx spec_l32Left.E spec_l32Left.keep n [.snd, .snd, .fst, .snd, .blk] (codeOf Try.f107) (kEnd spec_l32Left.E Try.f107 spec_l32Left.con x)
def spec_l32Left.LN3 (n : Nat) (x : (List (Int × ByteArray × Int)) × ByteArray × Int) : Nat → St → Option (Int) := loopN (exec spec_l32Left.E spec_l32Left.keep n (bodyOf (spec_l32Left.at3 n x).1)) (St.norm 0 (spec_l32Left.keep 3)) (spec_l32Left.at3 n x).2
set_option maxRecDepth 100000 in
theorem spec_l32Left.lem3 (n : Nat) (x : (List (Int × ByteArray × Int)) × ByteArray × Int) : ∀ (k : Nat) (list0 : List (Int × ByteArray × Int)) (article1 : ByteArray) (n2 : Int) (left7 : Int) (i8 : Int), spec_l32Left.LN3 n x k (spec_l32Left.st3 list0 article1 n2 left7 i8) = spec_l32Left.l3 n k list0 article1 n2 left7 i8 := by
  intro k
  induction k with
  | zero => intro list0 article1 n2 left7 i8; rfl
  | succ k ih =>
    intro list0 article1 n2 left7 i8
    have h : spec_l32Left.LN3 n x (k + 1) (spec_l32Left.st3 list0 article1 n2 left7 i8) = spec_l32Left.g3 (fun list0 article1 n2 left7 i8 => spec_l32Left.LN3 n x k (spec_l32Left.st3 list0 article1 n2 left7 i8)) list0 article1 n2 left7 i8 := by kernel_rfl
    rw [h]
    simp only [ih]
    rfl
set_option maxRecDepth 100000 in
theorem spec_l32Left.body (n : Nat) (x : (List (Int × ByteArray × Int)) × ByteArray × Int) : bodyF spec_l32Left.E spec_l32Left.keep n Try.f107 spec_l32Left.con x = spec_l32Left.fn n x.1 x.2.1 x.2.2 := by
  have h : bodyF spec_l32Left.E spec_l32Left.keep n Try.f107 spec_l32Left.con x = spec_l32Left.top (fun list0 article1 n2 left7 i8 => spec_l32Left.LN3 n x n (spec_l32Left.st3 list0 article1 n2 left7 i8)) x.1 x.2.1 x.2.2 := by kernel_rfl
  rw [h]
  simp only [spec_l32Left.lem3]
  rfl
set_option maxRecDepth 100000 in
theorem spec_l32Left.good : Good Try.prog 107 spec_l32Left.con :=
  good_of tabok (cs := spec_l32Left.cs) trivial 0 false (fn := Try.f107) Try.func107 rfl (by decide) (by simp [spec_l32Left.con]) spec_l32Left.keep NN (fun _ => rfl) (fun x => spec_l32Left.body NN x)
end
end Go.Ev.Try

namespace Go.Ev.Try
open Go.Proofs Go.Pl
set_option linter.unusedVariables false
noncomputable section
def spec_AreBookings.st2 (list0 : List (Int × ByteArray × Int)) (i3 : Int) : St := ⟨[.dat (.sl 127 (.pair (.int .i64) (.pair .str (.int .i64)))) list0, .gone, .gone, .dat (.int .i64) i3, .gone, .gone, .gone, .gone, .gone, .gone, .gone, .gone, .gone, .gone, .gone, .gone, .gone, .gone, .gone, .gone, .gone, .gone, .gone, .gone, .gone, .gone, .gone, .gone, .gone, .gone, .gone, .gone, .gone, .gone, .gone, .gone, .gone, .gone, .gone, .gone, .gone, .gone, .gone], []⟩
def spec_AreBookings.con : Con := { ps := [(.val, (.sl 127 (.pair (.int .i64) (.pair .str (.int .i64)))))], rs := [(.val, .bool)], F := fun x => spec_AreBookings.f x }
def spec_AreBookings.cs : List (FuncId × Con) := [(104, spec_IsWord.con), (105, spec_l01In.con), (107, spec_l32Left.con)]
def spec_AreBookings.E : Env := envOf tab spec_AreBookings.cs 0 false
def spec_AreBookings.keep (i : Nat) : List Nat := if i = 2 then [0, 3] else []
def spec_AreBookings.at2 (n : Nat) (x : List (Int × ByteArray × Int)) : Code × (Ex → St → Option (Bool)) := ctx spec_AreBookings.E spec_AreBookings.keep n [.snd, .fst, .snd, .blk] (codeOf Try.f51) (kEnd spec_AreBookings.E Try.f51 spec_AreBookings.con x)
def spec_AreBookings.LN2 (n : Nat) (x : List (Int × ByteArray × Int)) : Nat → St → Option (Bool) := loopN (exec spec_AreBookings.E spec_AreBookings.keep n (bodyOf (spec_AreBookings.at2 n x).1)) (St.norm 0 (spec_AreBookings.keep 2)) (spec_AreBookings.at2 n x).2
set_option maxRecDepth 100000 in
theorem spec_AreBookings.lem2 (n : Nat) (x : List (Int × ByteArray × Int)) : ∀ (k : Nat) (list0 : List (Int × ByteArray × Int)) (i3 : Int), spec_AreBookings.LN2 n x k (spec_AreBookings.st2 list0 i3) = spec_AreBookings.l2 n k list0 i3 := by
  intro k
  induction k with
  | zero => intro list0 i3; rfl
  | succ k ih =>
    intro list0 i3
    have h : spec_AreBookings.LN2 n x (k + 1) (spec_AreBookings.st2 list0 i3) = spec_AreBookings.g2 (fun list0 i3 => spec_AreBookings.LN2 n x k (spec_AreBookings.st2 list0 i3)) list0 i3 := by kernel_rfl
    rw [h]
    simp only [ih]
    rfl
set_option maxRecDepth 100000 in
theorem spec_AreBookings.body (n : Nat) (x : List (Int × ByteArray × Int)) : bodyF spec_AreBookings.E spec_AreBookings.keep n Try.f51 spec_AreBookings.con x = spec_AreBookings.fn n x := by
  have h : bodyF spec_AreBookings.E spec_AreBookings.keep n Try.f51 spec_AreBookings.con x = spec_AreBookings.top (fun list0 i3 => spec_AreBookings.LN2 n x n (spec_AreBookings.st2 list0 i3)) x := by kernel_rfl
  rw [h]
  simp only [spec_AreBookings.lem2]
  rfl
set_option maxRecDepth 100000 in
theorem spec_AreBookings.good : Good Try.prog 51 spec_AreBookings.con :=
  good_of tabok (cs := spec_AreBookings.cs) ⟨spec_IsWord.good, spec_l01In.good, spec_l32Left.good, trivial⟩ 0 false (fn := Try.f51) Try.func51 rfl (by decide) (by simp [spec_AreBookings.con]) spec_AreBookings.keep NN (fun _ => rfl) (fun x => spec_AreBookings.body NN x)
end
end Go.Ev.Try

namespace Go.Ev.Try
open Go.Proofs Go.Pl
set_option linter.unusedVariables false
noncomputable section
def spec_l03Find.st2 (list0 : List (ByteArray × Int × Int × Int × Int × Int × Int × Int × Int)) (code1 : ByteArray) (i5 : Int) : St := ⟨[.dat (.sl 75 (.pair .str (.pair (.int .i64) (.pair (.int .i64) (.pair (.int .i64) (.pair (.int .i64) (.pair (.int .i64) (.pair (.int .i64) (.pair (.int .i64) (.int .i64)))))))))) list0, .dat .str code1, .gone, .gone, .gone, .dat (.int .i64) i5, .gone, .gone, .gone, .gone, .gone, .gone, .gone, .gone, .gone, .gone, .gone, .gone, .gone, .gone], []⟩
def spec_l03Find.con : Con := { ps := [(.val, (.sl 75 (.pair .str (.pair (.int .i64) (.pair (.int .i64) (.pair (.int .i64) (.pair (.int .i64) (.pair (.int .i64) (.pair (.int .i64) (.pair (.int .i64) (.int .i64))))))))))), (.val, .str)], rs := [(.val, (.int .i64))], F := fun x => spec_l03Find.f x.1 x.2 }
def spec_l03Find.cs : List (FuncId × Con) := []
def spec_l03Find.E : Env := envOf tab spec_l03Find.cs 0 false
def spec_l03Find.keep (i : Nat) : List Nat := if i = 2 then [0, 1, 5] else []
def spec_l03Find.at2 (n : Nat) (x : (List (ByteArray × Int × Int × Int × Int × Int × Int × Int × Int)) × ByteArray) : Code × (Ex → St → Option (Int)) := ctx spec_l03Find.E spec_l03Find.keep n [.snd, .fst, .snd, .blk] (codeOf Try.f62) (kEnd spec_l03Find.E Try.f62 spec_l03Find.con x)
def spec_l03Find.LN2 (n : Nat) (x : (List (ByteArray × Int × Int × Int × Int × Int × Int × Int × Int)) × ByteArray) : Nat → St → Option (Int) := loopN (exec spec_l03Find.E spec_l03Find.keep n (bodyOf (spec_l03Find.at2 n x).1)) (St.norm 0 (spec_l03Find.keep 2)) (spec_l03Find.at2 n x).2
set_option maxRecDepth 100000 in
theorem spec_l03Find.lem2 (n : Nat) (x : (List (ByteArray × Int × Int × Int × Int × Int × Int × Int × Int)) × ByteArray) : ∀ (k : Nat) (list0 : List (ByteArray × Int × Int × Int × Int × Int × Int × Int × Int)) (code1 : ByteArray) (i5 : Int), spec_l03Find.LN2 n x k (spec_l03Find.st2 list0 code1 i5) = spec_l03Find.l2 n k list0 code1 i5 := by
  intro k
  induction k with
  | zero => intro list0 code1 i5; rfl
  | succ k ih =>
    intro list0 code1 i5
    have h : spec_l03Find.LN2 n x (k + 1) (spec_l03Find.st2 list0 code1 i5) = spec_l03Find.g2 (fun list0 code1 i5 => spec_l03Find.LN2 n x k (spec_l03Find.st2 list0 code1 i5)) list0 code1 i5 := by kernel_rfl
    rw [h]
    simp only [ih]
    rfl
set_option maxRecDepth 100000 in
theorem spec_l03Find.body (n : Nat) (x : (List (ByteArray × Int × Int × Int × Int × Int × Int × Int × Int)) × ByteArray) : bodyF spec_l03Find.E spec_l03Find.keep n Try.f62 spec_l03Find.con x = spec_l03Find.fn n x.1 x.2 := by
  have h : bodyF spec_l03Find.E spec_l03Find.keep n Try.f62 spec_l03Find.con x = spec_l03Find.top (fun list0 code1 i5 => spec_l03Find.LN2 n x n (spec_l03Find.st2 list0 code1 i5)) x.1 x.2 := by kernel_rfl
  rw [h]
  simp only [spec_l03Find.lem2]
  rfl
set_option maxRecDepth 100000 in
theorem spec_l03Find.good : Good Try.prog 62 spec_l03Find.con :=
  good_of tabok (cs := spec_l03Find.cs) trivial 0 false (fn := Try.f62) Try.func62 rfl (by decide) (by simp [spec_l03Find.con]) spec_l03Find.keep NN (fun _ => rfl) (fun x => spec_l03Find.body NN x)
end
end Go.Ev.Try

namespace Go.Ev.Try
open Go.Proofs Go.Pl
set_option linter.unusedVariables false
noncomputable section
def spec_IsArticle.con : Con := { ps := [(.val, (.pair .str (.pair (.int .i64) (.pair (.int .i64) (.pair (.int .i64) (.pair (.int .i64) (.pair (.int .i64) (.pair (.int .i64) (.pair (.int .i64) (.int .i64))))))))))], rs := [(.val, .bool)], F := fun x => spec_IsArticle.f x }
def spec_IsArticle.cs : List (FuncId × Con) := [(104, spec_IsWord.con), (105, spec_l01In.con)]
def spec_IsArticle.E : Env := envOf tab spec_IsArticle.cs 0 false
def spec_IsArticle.keep (i : Nat) : List Nat := []
set_option maxRecDepth 100000 in
theorem spec_IsArticle.body (n : Nat) (x : ByteArray × Int × Int × Int × Int × Int × Int × Int × Int) : bodyF spec_IsArticle.E spec_IsArticle.keep n Try.f151 spec_IsArticle.con x = spec_IsArticle.fn n x := by
  have h : bodyF spec_IsArticle.E spec_IsArticle.keep n Try.f151 spec_IsArticle.con x = spec_IsArticle.top x := by kernel_rfl
  exact h
set_option maxRecDepth 100000 in
theorem spec_IsArticle.good : Good Try.prog 151 spec_IsArticle.con :=
  good_of tabok (cs := spec_IsArticle.cs) ⟨spec_IsWord.good, spec_l01In.good, trivial⟩ 0 false (fn := Try.f151) Try.func151 rfl (by decide) (by simp [spec_IsArticle.con]) spec_IsArticle.keep NN (fun _ => rfl) (fun x => spec_IsArticle.body NN x)
end
end Go.Ev.Try

namespace Go.Ev.Try
open Go.Proofs Go.Pl
set_option linter.unusedVariables false
noncomputable section
def spec_AreArticles.st2 (list0 : List (ByteArray × Int × Int × Int × Int × Int × Int × Int × Int)) (i3 : Int) : St := ⟨[.dat (.sl 75 (.pair .str (.pair (.int .i64) (.pair (.int .i64) (.pair (.int .i64) (.pair (.int .i64) (.pair (.int .i64) (.pair (.int .i64) (.pair (.int .i64) (.int .i64)))))))))) list0, .gone, .gone, .dat (.int .i64) i3, .gone, .gone, .gone, .gone, .gone, .gone, .gone, .gone, .gone, .gone, .gone, .gone, .gone, .gone, .gone, .gone, .gone, .gone, .gone, .gone, .gone, .gone, .gone, .gone, .gone, .gone, .gone, .gone, .gone, .gone, .gone, .gone, .gone], []⟩
def spec_AreArticles.con : Con := { ps := [(.val, (.sl 75 (.pair .str (.pair (.int .i64) (.pair (.int .i64) (.pair (.int .i64) (.pair (.int .i64) (.pair (.int .i64) (.pair (.int .i64) (.pair (.int .i64) (.int .i64)))))))))))], rs := [(.val, .bool)], F := fun x => spec_AreArticles.f x }
def spec_AreArticles.cs : List (FuncId × Con) := [(151, spec_IsArticle.con)]
def spec_AreArticles.E : Env := envOf tab spec_AreArticles.cs 0 false
def spec_AreArticles.keep (i : Nat) : List Nat := if i = 2 then [0, 3] else []
def spec_AreArticles.at2 (n : Nat) (x : List (ByteArray × Int × Int × Int × Int × Int × Int × Int × Int)) : Code × (Ex → St → Option (Bool)) := ctx spec_AreArticles.E spec_AreArticles.keep n [.snd, .fst, .snd, .blk] (codeOf Try.f119) (kEnd spec_AreArticles.E Try.f119 spec_AreArticles.con x)
def spec_AreArticles.LN2 (n : Nat) (x : List (ByteArray × Int × Int × Int × Int × Int × Int × Int × Int)) : Nat → St → Option (Bool) := loopN (exec spec_AreArticles.E spec_AreArticles.keep n (bodyOf (spec_AreArticles.at2 n x).1)) (St.norm 0 (spec_AreArticles.keep 2)) (spec_AreArticles.at2 n x).2
set_option maxRecDepth 100000 in
theorem spec_AreArticles.lem2 (n : Nat) (x : List (ByteArray × Int × Int × Int × Int × Int × Int × Int × Int)) : ∀ (k : Nat) (list0 : List (ByteArray × Int × Int × Int × Int × Int × Int × Int × Int)) (i3 : Int), spec_AreArticles.LN2 n x k (spec_AreArticles.st2 list0 i3) = spec_AreArticles.l2 n k list0 i3 := by
  intro k
  induction k with
  | zero => intro list0 i3; rfl
  | succ k ih =>
    intro list0 i3
    have h : spec_AreArticles.LN2 n x (k + 1) (spec_AreArticles.st2 list0 i3) = spec_AreArticles.g2 (fun list0 i3 => spec_AreArticles.LN2 n x k (spec_AreArticles.st2 list0 i3)) list0 i3 := by kernel_rfl
    rw [h]
    simp only [ih]
    rfl
set_option maxRecDepth 100000 in
theorem spec_AreArticles.body (n : Nat) (x : List (ByteArray × Int × Int × Int × Int × Int × Int × Int × Int)) : bodyF spec_AreArticles.E spec_AreArticles.keep n Try.f119 spec_AreArticles.con x = spec_AreArticles.fn n x := by
  have h : bodyF spec_AreArticles.E spec_AreArticles.keep n Try.f119 spec_AreArticles.con x = spec_AreArticles.top (fun list0 i3 => spec_AreArticles.LN2 n x n (spec_AreArticles.st2 list0 i3)) x := by kernel_rfl
  rw [h]
  simp only [spec_AreArticles.lem2]
  rfl
set_option maxRecDepth 100000 in
theorem spec_AreArticles.good : Good Try.prog 119 spec_AreArticles.con :=
  good_of tabok (cs := spec_AreArticles.cs) ⟨spec_IsArticle.good, trivial⟩ 0 false (fn := Try.f119) Try.func119 rfl (by decide) (by simp [spec_AreArticles.con]) spec_AreArticles.keep NN (fun _ => rfl) (fun x => spec_AreArticles.body NN x)
end
end Go.Ev.Try

namespace Go.Ev.Try
open Go.Proofs Go.Pl
set_option linter.unusedVariables false
noncomputable section
def spec_IsScore.st2 (list0 : List (Int × Int)) (i3 : Int) : St := ⟨[.dat (.sl 188 (.pair (.int .i64) (.int .i64))) list0, .gone, .gone, .dat (.int .i64) i3, .gone, .gone, .gone, .gone, .gone, .gone, .gone, .gone, .gone, .gone, .gone, .gone, .gone, .gone, .gone, .gone, .gone, .gone, .gone, .gone, .gone, .gone, .gone, .gone, .gone], []⟩
def spec_IsScore.con : Con := { ps := [(.val, (.sl 188 (.pair (.int .i64) (.int .i64))))], rs := [(.val, .bool)], F := fun x => spec_IsScore.f x }
def spec_IsScore.cs : List (FuncId × Con) := [(105, spec_l01In.con)]
def spec_IsScore.E : Env := envOf tab spec_IsScore.cs 0 false
def spec_IsScore.keep (i : Nat) : List Nat := if i = 2 then [0, 3] else []
def spec_IsScore.at2 (n : Nat) (x : List (Int × Int)) : Code × (Ex → St → Option (Bool)) := ctx spec_IsScore.E spec_IsScore.keep n [.snd, .fst, .snd, .blk] (codeOf Try.f129) (kEnd spec_IsScore.E Try.f129 spec_IsScore.con x)
def spec_IsScore.LN2 (n : Nat) (x : List (Int × Int)) : Nat → St → Option (Bool) := loopN (exec spec_IsScore.E spec_IsScore.keep n (bodyOf (spec_IsScore.at2 n x).1)) (St.norm 0 (spec_IsScore.keep 2)) (spec_IsScore.at2 n x).2
set_option maxRecDepth 100000 in
theorem spec_IsScore.lem2 (n : Nat) (x : List (Int × Int)) : ∀ (k : Nat) (list0 : List (Int × Int)) (i3 : Int), spec_IsScore.LN2 n x k (spec_IsScore.st2 list0 i3) = spec_IsScore.l2 n k list0 i3 := by
  intro k
  induction k with
  | zero => intro list0 i3; rfl
  | succ k ih =>
    intro list0 i3
    have h : spec_IsScore.LN2 n x (k + 1) (spec_IsScore.st2 list0 i3) = spec_IsScore.g2 (fun list0 i3 => spec_IsScore.LN2 n x k (spec_IsScore.st2 list0 i3)) list0 i3 := by kernel_rfl
    rw [h]
    simp only [ih]
    rfl
set_option maxRecDepth 100000 in
theorem spec_IsScore.body (n : Nat) (x : List (Int × Int)) : bodyF spec_IsScore.E spec_IsScore.keep n Try.f129 spec_IsScore.con x = spec_IsScore.fn n x := by
  have h : bodyF spec_IsScore.E spec_IsScore.keep n Try.f129 spec_IsScore.con x = spec_IsScore.top (fun list0 i3 => spec_IsScore.LN2 n x n (spec_IsScore.st2 list0 i3)) x := by kernel_rfl
  rw [h]
  simp only [spec_IsScore.lem2]
  rfl
set_option maxRecDepth 100000 in
theorem spec_IsScore.good : Good Try.prog 129 spec_IsScore.con :=
  good_of tabok (cs := spec_IsScore.cs) ⟨spec_l01In.good, trivial⟩ 0 false (fn := Try.f129) Try.func129 rfl (by decide) (by simp [spec_IsScore.con]) spec_IsScore.keep NN (fun _ => rfl) (fun x => spec_IsScore.body NN x)
end
end Go.Ev.Try

namespace Go.Ev.Try
open Go.Proofs Go.Pl
set_option linter.unusedVariables false
noncomputable section
def spec_l07Has.con : Con := { ps := [(.val, (.sl 188 (.pair (.int .i64) (.int .i64)))), (.val, (.int .i64)), (.val, (.int .i64))], rs := [(.val, .bool)], F := fun x => spec_l07Has.f x.1 x.2.1 x.2.2 }
def spec_l07Has.cs : List (FuncId × Con) := [(105, spec_l01In.con)]
def spec_l07Has.E : Env := envOf tab spec_l07Has.cs 0 false
def spec_l07Has.keep (i : Nat) : List Nat := []
set_option maxRecDepth 100000 in
theorem spec_l07Has.body (n : Nat) (x : (List (Int × Int)) × Int × Int) : bodyF spec_l07Has.E spec_l07Has.keep n Try.f130 spec_l07Has.con x = spec_l07Has.fn n x.1 x.2.1 x.2.2 := by
  have h : bodyF spec_l07Has.E spec_l07Has.keep n Try.f130 spec_l07Has.con x = spec_l07Has.top x.1 x.2.1 x.2.2 := by kernel_rfl
  exact h
set_option maxRecDepth 100000 in
theorem spec_l07Has.good : Good Try.prog 130 spec_l07Has.con :=
  good_of tabok (cs := spec_l07Has.cs) ⟨spec_l01In.good, trivial⟩ 0 false (fn := Try.f130) Try.func130 rfl (by decide) (by simp [spec_l07Has.con]) spec_l07Has.keep NN (fun _ => rfl) (fun x => spec_l07Has.body NN x)
end
end Go.Ev.Try

namespace Go.Ev.Try
open Go.Proofs Go.Pl
set_option linter.unusedVariables false
noncomputable section
def spec_l07Time.st3 (list0 : List (Int × Int)) (bar1 : Int) (beat2 : Int) (t7 : Int) (i8 : Int) : St := ⟨[.dat (.sl 188 (.pair (.int .i64) (.int .i64))) list0, .dat (.int .i64) bar1, .dat (.int .i64) beat2, .gone, .gone, .gone, .gone, .dat (.int .i64) t7, .dat (.int .i64) i8, .gone, .gone, .gone, .gone, .gone, .gone, .gone, .gone, .gone, .gone, .gone, .gone, .gone, .gone, .gone, .gone, .gone, .gone, .gone, .gone, .gone, .gone, .gone, .gone, .gone, .gone, .gone], []⟩
def spec_l07Time.con : Con := { ps := [(.val, (.sl 188 (.pair (.int .i64) (.int .i64)))), (.val, (.int .i64)), (.val, (.int .i64))], rs := [(.val, (.int .i64))], F := fun x => spec_l07Time.f x.1 x.2.1 x.2.2 }
def spec_l07Time.cs : List (FuncId × Con) := []
def spec_l07Time.E : Env := envOf tab spec_l07Time.cs 0 false
def spec_l07Time.keep (i : Nat) : List Nat := if i = 3 then [0, 1, 2, 7, 8] else []
def spec_l07Time.at3 (n : Nat) (x : (List (Int × Int)) × Int × Int) : Code × (Ex → St → Option (Int)) := ctx spec_l07Time.E spec_l07Time.keep n [.snd, .snd, .fst, .snd, .blk] (codeOf Try.f158) (kEnd spec_l07Time.E Try.f158 spec_l07Time.con x)
def spec_l07Time.LN3 (n : Nat) (x : (List (Int × Int)) × Int × Int) : Nat → St → Option (Int) := loopN (exec spec_l07Time.E spec_l07Time.keep n (bodyOf (spec_l07Time.at3 n x).1)) (St.norm 0 (spec_l07Time.keep 3)) (spec_l07Time.at3 n x).2
set_option maxRecDepth 100000 in
theorem spec_l07Time.lem3 (n : Nat) (x : (List (Int × Int)) × Int × Int) : ∀ (k : Nat) (list0 : List (Int × Int)) (bar1 : Int) (beat2 : Int) (t7 : Int) (i8 : Int), spec_l07Time.LN3 n x k (spec_l07Time.st3 list0 bar1 beat2 t7 i8) = spec_l07Time.l3 n k list0 bar1 beat2 t7 i8 := by
  intro k
  induction k with
  | zero => intro list0 bar1 beat2 t7 i8; rfl
  | succ k ih =>
    intro list0 bar1 beat2 t7 i8
    have h : spec_l07Time.LN3 n x (k + 1) (spec_l07Time.st3 list0 bar1 beat2 t7 i8) = spec_l07Time.g3 (fun list0 bar1 beat2 t7 i8 => spec_l07Time.LN3 n x k (spec_l07Time.st3 list0 bar1 beat2 t7 i8)) list0 bar1 beat2 t7 i8 := by kernel_rfl
    rw [h]
    simp only [ih]
    rfl
set_option maxRecDepth 100000 in
theorem spec_l07Time.body (n : Nat) (x : (List (Int × Int)) × Int × Int) : bodyF spec_l07Time.E spec_l07Time.keep n Try.f158 spec_l07Time.con x = spec_l07Time.fn n x.1 x.2.1 x.2.2 := by
  have h : bodyF spec_l07Time.E spec_l07Time.keep n Try.f158 spec_l07Time.con x = spec_l07Time.top (fun list0 bar1 beat2 t7 i8 => spec_l07Time.LN3 n x n (spec_l07Time.st3 list0 bar1 beat2 t7 i8)) x.1 x.2.1 x.2.2 := by kernel_rfl
  rw [h]
  simp only [spec_l07Time.lem3]
  rfl
set_option maxRecDepth 100000 in
theorem spec_l07Time.good : Good Try.prog 158 spec_l07Time.con :=
  good_of tabok (cs := spec_l07Time.cs) trivial 0 false (fn := Try.f158) Try.func158 rfl (by decide) (by simp [spec_l07Time.con]) spec_l07Time.keep NN (fun _ => rfl) (fun x => spec_l07Time.body NN x)
end
end Go.Ev.Try

namespace Go.Ev.Try
open Go.Proofs Go.Pl
set_option linter.unusedVariables false
noncomputable section
def spec_l08Time.con : Con := { ps := [(.val, (.pair (.sl 188 (.pair (.int .i64) (.int .i64))) (.pair (.sl 75 (.pair .str (.pair (.int .i64) (.pair (.int .i64) (.pair (.int .i64) (.pair (.int .i64) (.pair (.int .i64) (.pair (.int .i64) (.pair (.int .i64) (.int .i64)))))))))) (.sl 73 (.pair (.int .i64) (.pair (.int .i64) (.pair .str (.int .i64)))))))), (.val, (.pair (.int .i64) (.pair (.int .i64) (.pair .str (.int .i64)))))], rs := [(.val, (.int .i64))], F := fun x => spec_l08Time.f x.1 x.2 }
def spec_l08Time.cs : List (FuncId × Con) := [(62, spec_l03Find.con), (158, spec_l07Time.con)]
def spec_l08Time.E : Env := envOf tab spec_l08Time.cs 0 false
def spec_l08Time.keep (i : Nat) : List Nat := []
set_option maxRecDepth 100000 in
theorem spec_l08Time.body (n : Nat) (x : ((List (Int × Int)) × (List (ByteArray × Int × Int × Int × Int × Int × Int × Int × Int)) × List (Int × Int × ByteArray × Int)) × Int × Int × ByteArray × Int) : bodyF spec_l08Time.E spec_l08Time.keep n Try.f131 spec_l08Time.con x = spec_l08Time.fn n x.1 x.2 := by
  have h : bodyF spec_l08Time.E spec_l08Time.keep n Try.f131 spec_l08Time.con x = spec_l08Time.top x.1 x.2 := by kernel_rfl
  exact h
set_option maxRecDepth 100000 in
theorem spec_l08Time.good : Good Try.prog 131 spec_l08Time.con :=
  good_of tabok (cs := spec_l08Time.cs) ⟨spec_l03Find.good, spec_l07Time.good, trivial⟩ 0 false (fn := Try.f131) Try.func131 rfl (by decide) (by simp [spec_l08Time.con]) spec_l08Time.keep NN (fun _ => rfl) (fun x => spec_l08Time.body NN x)
end
end Go.Ev.Try

namespace Go.Ev.Try
open Go.Proofs Go.Pl
set_option linter.unusedVariables false
noncomputable section
def spec_IsShow.st4 (i3 : Int) (x1 : (List (Int × Int)) × (List (ByteArray × Int × Int × Int × Int × Int × Int × Int × Int)) × List (Int × Int × ByteArray × Int)) : St := ⟨[.gone, .ptr 0 [], .gone, .dat (.int .i64) i3, .gone, .gone, .gone, .gone, .gone, .gone, .gone, .gone, .gone, .gone, .gone, .gone, .gone, .gone, .gone, .gone, .gone, .gone, .gone, .gone, .gone, .gone, .gone, .gone, .gone, .gone, .gone, .gone, .gone, .gone, .gone, .gone, .gone, .gone, .gone, .gone, .gone, .gone, .gone, .gone, .gone, .gone, .gone, .gone, .gone, .gone, .gone, .gone, .gone, .gone, .gone, .gone, .gone, .gone, .gone, .gone, .gone], [.box 62 (.pair (.sl 188 (.pair (.int .i64) (.int .i64))) (.pair (.sl 75 (.pair .str (.pair (.int .i64) (.pair (.int .i64) (.pair (.int .i64) (.pair (.int .i64) (.pair (.int .i64) (.pair (.int .i64) (.pair (.int .i64) (.int .i64)))))))))) (.sl 73 (.pair (.int .i64) (.pair (.int .i64) (.pair .str (.int .i64))))))) (.dat (.pair (.sl 188 (.pair (.int .i64) (.int .i64))) (.pair (.sl 75 (.pair .str (.pair (.int .i64) (.pair (.int .i64) (.pair (.int .i64) (.pair (.int .i64) (.pair (.int .i64) (.pair (.int .i64) (.pair (.int .i64) (.int .i64)))))))))) (.sl 73 (.pair (.int .i64) (.pair (.int .i64) (.pair .str (.int .i64))))))) x1)]⟩
def spec_IsShow.con : Con := { ps := [(.val, (.pair (.sl 188 (.pair (.int .i64) (.int .i64))) (.pair (.sl 75 (.pair .str (.pair (.int .i64) (.pair (.int .i64) (.pair (.int .i64) (.pair (.int .i64) (.pair (.int .i64) (.pair (.int .i64) (.pair (.int .i64) (.int .i64)))))))))) (.sl 73 (.pair (.int .i64) (.pair (.int .i64) (.pair .str (.int .i64))))))))], rs := [(.val, .bool)], F := fun x => spec_IsShow.f x }
def spec_IsShow.cs : List (FuncId × Con) := [(62, spec_l03Find.con), (105, spec_l01In.con), (119, spec_AreArticles.con), (129, spec_IsScore.con), (130, spec_l07Has.con), (131, spec_l08Time.con)]
def spec_IsShow.E : Env := envOf tab spec_IsShow.cs 0 false
def spec_IsShow.keep (i : Nat) : List Nat := if i = 4 then [1, 3] else []
def spec_IsShow.at4 (n : Nat) (x : (List (Int × Int)) × (List (ByteArray × Int × Int × Int × Int × Int × Int × Int × Int)) × List (Int × Int × ByteArray × Int)) : Code × (Ex → St → Option (Bool)) := ctx spec_IsShow.E spec_IsShow.keep n [.snd, .snd, .fst, .snd, .blk] (codeOf Try.f78) (kEnd spec_IsShow.E Try.f78 spec_IsShow.con x)
def spec_IsShow.LN4 (n : Nat) (x : (List (Int × Int)) × (List (ByteArray × Int × Int × Int × Int × Int × Int × Int × Int)) × List (Int × Int × ByteArray × Int)) : Nat → St → Option (Bool) := loopN (exec spec_IsShow.E spec_IsShow.keep n (bodyOf (spec_IsShow.at4 n x).1)) (St.norm 0 (spec_IsShow.keep 4)) (spec_IsShow.at4 n x).2
set_option maxRecDepth 100000 in
theorem spec_IsShow.lem4 (n : Nat) (x : (List (Int × Int)) × (List (ByteArray × Int × Int × Int × Int × Int × Int × Int × Int)) × List (Int × Int × ByteArray × Int)) : ∀ (k : Nat) (i3 : Int) (x1 : (List (Int × Int)) × (List (ByteArray × Int × Int × Int × Int × Int × Int × Int × Int)) × List (Int × Int × ByteArray × Int)), spec_IsShow.LN4 n x k (spec_IsShow.st4 i3 x1) = spec_IsShow.l4 n k i3 x1 := by
  intro k
  induction k with
  | zero => intro i3 x1; rfl
  | succ k ih =>
    intro i3 x1
    have h : spec_IsShow.LN4 n x (k + 1) (spec_IsShow.st4 i3 x1) = spec_IsShow.g4 (fun i3 x1 => spec_IsShow.LN4 n x k (spec_IsShow.st4 i3 x1)) i3 x1 := by kernel_rfl
    rw [h]
    simp only [ih]
    rfl
set_option maxRecDepth 100000 in
theorem spec_IsShow.body (n : Nat) (x : (List (Int × Int)) × (List (ByteArray × Int × Int × Int × Int × Int × Int × Int × Int)) × List (Int × Int × ByteArray × Int)) : bodyF spec_IsShow.E spec_IsShow.keep n Try.f78 spec_IsShow.con x = spec_IsShow.fn n x := by
  have h : bodyF spec_IsShow.E spec_IsShow.keep n Try.f78 spec_IsShow.con x = spec_IsShow.top (fun i3 x1 => spec_IsShow.LN4 n x n (spec_IsShow.st4 i3 x1)) x := by kernel_rfl
  rw [h]
  simp only [spec_IsShow.lem4]
  rfl
set_option maxRecDepth 100000 in
theorem spec_IsShow.good : Good Try.prog 78 spec_IsShow.con :=
  good_of tabok (cs := spec_IsShow.cs) ⟨spec_l03Find.good, spec_l01In.good, spec_AreArticles.good, spec_IsScore.good, spec_l07Has.good, spec_l08Time.good, trivial⟩ 0 false (fn := Try.f78) Try.func78 rfl (by decide) (by simp [spec_IsShow.con]) spec_IsShow.keep NN (fun _ => rfl) (fun x => spec_IsShow.body NN x)
end
end Go.Ev.Try

namespace Go.Ev.Try
open Go.Proofs Go.Pl
set_option linter.unusedVariables false
noncomputable section
def spec_l01Rises.st2 (list0 : List Int) (n1 : Int) (i5 : Int) : St := ⟨[.dat (.sl 2 (.int .i64)) list0, .dat (.int .i64) n1, .gone, .gone, .gone, .dat (.int .i64) i5, .gone, .gone, .gone, .gone, .gone, .gone, .gone, .gone, .gone, .gone, .gone, .gone, .gone, .gone, .gone, .gone, .gone, .gone, .gone, .gone, .gone, .gone, .gone, .gone, .gone, .gone, .gone, .gone, .gone, .gone], []⟩
def spec_l01Rises.con : Con := { ps := [(.val, (.sl 2 (.int .i64))), (.val, (.int .i64))], rs := [(.val, .bool)], F := fun x => spec_l01Rises.f x.1 x.2 }
def spec_l01Rises.cs : List (FuncId × Con) := [(105, spec_l01In.con)]
def spec_l01Rises.E : Env := envOf tab spec_l01Rises.cs 0 false
def spec_l01Rises.keep (i : Nat) : List Nat := if i = 2 then [0, 1, 5] else []
def spec_l01Rises.at2 (n : Nat) (x : List Int × Int) : Code × (Ex → St → Option (Bool)) := ctx spec_l01Rises.E spec_l01Rises.keep n [.snd, .fst, .snd, .blk] (codeOf Try.f85) (kEnd spec_l01Rises.E Try.f85 spec_l01Rises.con x)
def spec_l01Rises.LN2 (n : Nat) (x : List Int × Int) : Nat → St → Option (Bool) := loopN (exec spec_l01Rises.E spec_l01Rises.keep n (bodyOf (spec_l01Rises.at2 n x).1)) (St.norm 0 (spec_l01Rises.keep 2)) (spec_l01Rises.at2 n x).2
set_option maxRecDepth 100000 in
theorem spec_l01Rises.lem2 (n : Nat) (x : List Int × Int) : ∀ (k : Nat) (list0 : List Int) (n1 : Int) (i5 : Int), spec_l01Rises.LN2 n x k (spec_l01Rises.st2 list0 n1 i5) = spec_l01Rises.l2 n k list0 n1 i5 := by
  intro k
  induction k with
  | zero => intro list0 n1 i5; rfl
  | succ k ih =>
    intro list0 n1 i5
    have h : spec_l01Rises.LN2 n x (k + 1) (spec_l01Rises.st2 list0 n1 i5) = spec_l01Rises.g2 (fun list0 n1 i5 => spec_l01Rises.LN2 n x k (spec_l01Rises.st2 list0 n1 i5)) list0 n1 i5 := by kernel_rfl
    rw [h]
    simp only [ih]
    rfl
set_option maxRecDepth 100000 in
theorem spec_l01Rises.body (n : Nat) (x : List Int × Int) : bodyF spec_l01Rises.E spec_l01Rises.keep n Try.f85 spec_l01Rises.con x = spec_l01Rises.fn n x.1 x.2 := by
  have h : bodyF spec_l01Rises.E spec_l01Rises.keep n Try.f85 spec_l01Rises.con x = spec_l01Rises.top (fun list0 n1 i5 => spec_l01Rises.LN2 n x n (spec_l01Rises.st2 list0 n1 i5)) x.1 x.2 := by kernel_rfl
  rw [h]
  simp only [spec_l01Rises.lem2]
  rfl
set_option maxRecDepth 100000 in
theorem spec_l01Rises.good : Good Try.prog 85 spec_l01Rises.con :=
  good_of tabok (cs := spec_l01Rises.cs) ⟨spec_l01In.good, trivial⟩ 0 false (fn := Try.f85) Try.func85 rfl (by decide) (by simp [spec_l01Rises.con]) spec_l01Rises.keep NN (fun _ => rfl) (fun x => spec_l01Rises.body NN x)
end
end Go.Ev.Try

namespace Go.Ev.Try
open Go.Proofs Go.Pl
set_option linter.unusedVariables false
noncomputable section
def spec_l32Limits.con : Con := { ps := [(.val, (.sl 127 (.pair (.int .i64) (.pair .str (.int .i64)))))], rs := [(.val, (.int .i64))], F := fun x => spec_l32Limits.f x }
def spec_l32Limits.cs : List (FuncId × Con) := [(51, spec_AreBookings.con)]
def spec_l32Limits.E : Env := envOf tab spec_l32Limits.cs 0 false
def spec_l32Limits.keep (i : Nat) : List Nat := []
set_option maxRecDepth 100000 in
theorem spec_l32Limits.body (n : Nat) (x : List (Int × ByteArray × Int)) : bodyF spec_l32Limits.E spec_l32Limits.keep n Try.f86 spec_l32Limits.con x = spec_l32Limits.fn n x := by
  have h : bodyF spec_l32Limits.E spec_l32Limits.keep n Try.f86 spec_l32Limits.con x = spec_l32Limits.top x := by kernel_rfl
  exact h
set_option maxRecDepth 100000 in
theorem spec_l32Limits.good : Good Try.prog 86 spec_l32Limits.con :=
  good_of tabok (cs := spec_l32Limits.cs) ⟨spec_AreBookings.good, trivial⟩ 0 false (fn := Try.f86) Try.func86 rfl (by decide) (by simp [spec_l32Limits.con]) spec_l32Limits.keep NN (fun _ => rfl) (fun x => spec_l32Limits.body NN x)
end
end Go.Ev.Try

namespace Go.Ev.Try
open Go.Proofs Go.Pl
set_option linter.unusedVariables false
noncomputable section
def spec_BookShow.st11 (fired2 : List Int) (k9 : Int) (n10 : Int) (i11 : Int) (x4 : (List (Int × Int)) × (List (ByteArray × Int × Int × Int × Int × Int × Int × Int × Int)) × List (Int × Int × ByteArray × Int)) (out8 : List (Int × ByteArray × Int)) : St := ⟨[.gone, .gone, .dat (.sl 2 (.int .i64)) fired2, .gone, .ptr 0 [], .gone, .gone, .gone, .ref 1, .dat (.int .i64) k9, .dat (.int .i64) n10, .dat (.int .i64) i11, .gone, .gone, .gone, .gone, .gone, .gone, .gone, .gone, .gone, .gone, .gone, .gone, .gone, .gone, .gone, .gone, .gone, .gone, .gone, .gone, .gone, .gone, .gone, .gone, .gone, .gone, .gone, .gone, .gone, .gone, .gone, .gone, .gone, .gone, .gone, .gone, .gone, .gone, .gone, .gone, .gone, .gone, .gone, .gone, .gone, .gone, .gone, .gone, .gone, .gone, .gone, .gone, .gone, .gone, .gone, .gone, .gone, .gone, .gone, .gone, .gone, .gone, .gone, .gone, .gone, .gone, .gone, .gone], [.box 62 (.pair (.sl 188 (.pair (.int .i64) (.int .i64))) (.pair (.sl 75 (.pair .str (.pair (.int .i64) (.pair (.int .i64) (.pair (.int .i64) (.pair (.int .i64) (.pair (.int .i64) (.pair (.int .i64) (.pair (.int .i64) (.int .i64)))))))))) (.sl 73 (.pair (.int .i64) (.pair (.int .i64) (.pair .str (.int .i64))))))) (.dat (.pair (.sl 188 (.pair (.int .i64) (.int .i64))) (.pair (.sl 75 (.pair .str (.pair (.int .i64) (.pair (.int .i64) (.pair (.int .i64) (.pair (.int .i64) (.pair (.int .i64) (.pair (.int .i64) (.pair (.int .i64) (.int .i64)))))))))) (.sl 73 (.pair (.int .i64) (.pair (.int .i64) (.pair .str (.int .i64))))))) x4), .row 127 (.pair (.int .i64) (.pair .str (.int .i64))) out8 none]⟩
def spec_BookShow.st7 (fired2 : List Int) (k9 : Int) (x4 : (List (Int × Int)) × (List (ByteArray × Int × Int × Int × Int × Int × Int × Int × Int)) × List (Int × Int × ByteArray × Int)) (out8 : List (Int × ByteArray × Int)) : St := ⟨[.gone, .gone, .dat (.sl 2 (.int .i64)) fired2, .gone, .ptr 0 [], .gone, .gone, .gone, .ref 1, .dat (.int .i64) k9, .gone, .gone, .gone, .gone, .gone, .gone, .gone, .gone, .gone, .gone, .gone, .gone, .gone, .gone, .gone, .gone, .gone, .gone, .gone, .gone, .gone, .gone, .gone, .gone, .gone, .gone, .gone, .gone, .gone, .gone, .gone, .gone, .gone, .gone, .gone, .gone, .gone, .gone, .gone, .gone, .gone, .gone, .gone, .gone, .gone, .gone, .gone, .gone, .gone, .gone, .gone, .gone, .gone, .gone, .gone, .gone, .gone, .gone, .gone, .gone, .gone, .gone, .gone, .gone, .gone, .gone, .gone, .gone, .gone, .gone], [.box 62 (.pair (.sl 188 (.pair (.int .i64) (.int .i64))) (.pair (.sl 75 (.pair .str (.pair (.int .i64) (.pair (.int .i64) (.pair (.int .i64) (.pair (.int .i64) (.pair (.int .i64) (.pair (.int .i64) (.pair (.int .i64) (.int .i64)))))))))) (.sl 73 (.pair (.int .i64) (.pair (.int .i64) (.pair .str (.int .i64))))))) (.dat (.pair (.sl 188 (.pair (.int .i64) (.int .i64))) (.pair (.sl 75 (.pair .str (.pair (.int .i64) (.pair (.int .i64) (.pair (.int .i64) (.pair (.int .i64) (.pair (.int .i64) (.pair (.int .i64) (.pair (.int .i64) (.int .i64)))))))))) (.sl 73 (.pair (.int .i64) (.pair (.int .i64) (.pair .str (.int .i64))))))) x4), .row 127 (.pair (.int .i64) (.pair .str (.int .i64))) out8 none]⟩
def spec_BookShow.con : Con := { ps := [(.val, (.sl 127 (.pair (.int .i64) (.pair .str (.int .i64))))), (.val, (.pair (.sl 188 (.pair (.int .i64) (.int .i64))) (.pair (.sl 75 (.pair .str (.pair (.int .i64) (.pair (.int .i64) (.pair (.int .i64) (.pair (.int .i64) (.pair (.int .i64) (.pair (.int .i64) (.pair (.int .i64) (.int .i64)))))))))) (.sl 73 (.pair (.int .i64) (.pair (.int .i64) (.pair .str (.int .i64)))))))), (.val, (.sl 2 (.int .i64)))], rs := [(.own, (.sl 127 (.pair (.int .i64) (.pair .str (.int .i64))))), (.own, (.int .i64))], F := fun x => spec_BookShow.f x.1 x.2.1 x.2.2 }
def spec_BookShow.cs : List (FuncId × Con) := [(51, spec_AreBookings.con), (78, spec_IsShow.con), (85, spec_l01Rises.con), (86, spec_l32Limits.con)]
def spec_BookShow.E : Env := envOf tab spec_BookShow.cs 0 false
def spec_BookShow.keep (i : Nat) : List Nat := if i = 11 then [2, 4, 8, 9, 10, 11] else if i = 7 then [2, 4, 8, 9] else []
def spec_BookShow.at11 (n : Nat) (x : (List (Int × ByteArray × Int)) × ((List (Int × Int)) × (List (ByteArray × Int × Int × Int × Int × Int × Int × Int × Int)) × List (Int × Int × ByteArray × Int)) × List Int) (M7 : St → Option (((List (Int × ByteArray × Int)) × Int))) : Code × (Ex → St → Option (((List (Int × ByteArray × Int)) × Int))) := ctx spec_BookShow.E spec_BookShow.keep n [.snd, .snd, .snd, .snd, .fst, .snd, .blk, .rd M7, .snd, .fst, .blk, .snd, .fst, .snd, .blk] (codeOf Try.f31) (kEnd spec_BookShow.E Try.f31 spec_BookShow.con x)
def spec_BookShow.LN11 (n : Nat) (x : (List (Int × ByteArray × Int)) × ((List (Int × Int)) × (List (ByteArray × Int × Int × Int × Int × Int × Int × Int × Int)) × List (Int × Int × ByteArray × Int)) × List Int) (M7 : St → Option (((List (Int × ByteArray × Int)) × Int))) : Nat → St → Option (((List (Int × ByteArray × Int)) × Int)) := loopN (exec spec_BookShow.E spec_BookShow.keep n (bodyOf (spec_BookShow.at11 n x M7).1)) (St.norm 0 (spec_BookShow.keep 11)) (spec_BookShow.at11 n x M7).2
def spec_BookShow.at7 (n : Nat) (x : (List (Int × ByteArray × Int)) × ((List (Int × Int)) × (List (ByteArray × Int × Int × Int × Int × Int × Int × Int × Int)) × List (Int × Int × ByteArray × Int)) × List Int) : Code × (Ex → St → Option (((List (Int × ByteArray × Int)) × Int))) := ctx spec_BookShow.E spec_BookShow.keep n [.snd, .snd, .snd, .snd, .fst, .snd, .blk] (codeOf Try.f31) (kEnd spec_BookShow.E Try.f31 spec_BookShow.con x)
def spec_BookShow.LN7 (n : Nat) (x : (List (Int × ByteArray × Int)) × ((List (Int × Int)) × (List (ByteArray × Int × Int × Int × Int × Int × Int × Int × Int)) × List (Int × Int × ByteArray × Int)) × List Int) : Nat → St → Option (((List (Int × ByteArray × Int)) × Int)) := loopN (exec spec_BookShow.E spec_BookShow.keep n (bodyOf (spec_BookShow.at7 n x).1)) (St.norm 0 (spec_BookShow.keep 7)) (spec_BookShow.at7 n x).2
set_option maxRecDepth 100000 in
theorem spec_BookShow.lem11 (n : Nat) (x : (List (Int × ByteArray × Int)) × ((List (Int × Int)) × (List (ByteArray × Int × Int × Int × Int × Int × Int × Int × Int)) × List (Int × Int × ByteArray × Int)) × List Int) (M7 : St → Option (((List (Int × ByteArray × Int)) × Int))) : ∀ (k : Nat) (fired2 : List Int) (k9 : Int) (n10 : Int) (i11 : Int) (x4 : (List (Int × Int)) × (List (ByteArray × Int × Int × Int × Int × Int × Int × Int × Int)) × List (Int × Int × ByteArray × Int)) (out8 : List (Int × ByteArray × Int)), spec_BookShow.LN11 n x M7 k (spec_BookShow.st11 fired2 k9 n10 i11 x4 out8) = spec_BookShow.l11 n (fun fired2 k9 x4 out8 => M7 (spec_BookShow.st7 fired2 k9 x4 out8)) k fired2 k9 n10 i11 x4 out8 := by
  intro k
  induction k with
  | zero => intro fired2 k9 n10 i11 x4 out8; rfl
  | succ k ih =>
    intro fired2 k9 n10 i11 x4 out8
    have h : spec_BookShow.LN11 n x M7 (k + 1) (spec_BookShow.st11 fired2 k9 n10 i11 x4 out8) = spec_BookShow.g11 (fun fired2 k9 x4 out8 => M7 (spec_BookShow.st7 fired2 k9 x4 out8)) (fun fired2 k9 n10 i11 x4 out8 => spec_BookShow.LN11 n x M7 k (spec_BookShow.st11 fired2 k9 n10 i11 x4 out8)) fired2 k9 n10 i11 x4 out8 := by kernel_rfl
    rw [h]
    simp only [ih]
    rfl
set_option maxRecDepth 100000 in
theorem spec_BookShow.lem7 (n : Nat) (x : (List (Int × ByteArray × Int)) × ((List (Int × Int)) × (List (ByteArray × Int × Int × Int × Int × Int × Int × Int × Int)) × List (Int × Int × ByteArray × Int)) × List Int) : ∀ (k : Nat) (fired2 : List Int) (k9 : Int) (x4 : (List (Int × Int)) × (List (ByteArray × Int × Int × Int × Int × Int × Int × Int × Int)) × List (Int × Int × ByteArray × Int)) (out8 : List (Int × ByteArray × Int)), spec_BookShow.LN7 n x k (spec_BookShow.st7 fired2 k9 x4 out8) = spec_BookShow.l7 n k fired2 k9 x4 out8 := by
  intro k
  induction k with
  | zero => intro fired2 k9 x4 out8; rfl
  | succ k ih =>
    intro fired2 k9 x4 out8
    have h : spec_BookShow.LN7 n x (k + 1) (spec_BookShow.st7 fired2 k9 x4 out8) = spec_BookShow.g7 (fun fired2 k9 n10 i11 x4 out8 => spec_BookShow.LN11 n x (spec_BookShow.LN7 n x k) n (spec_BookShow.st11 fired2 k9 n10 i11 x4 out8)) (fun fired2 k9 x4 out8 => spec_BookShow.LN7 n x k (spec_BookShow.st7 fired2 k9 x4 out8)) fired2 k9 x4 out8 := by kernel_rfl
    rw [h]
    simp only [ih, spec_BookShow.lem11]
    rfl
set_option maxRecDepth 100000 in
theorem spec_BookShow.body (n : Nat) (x : (List (Int × ByteArray × Int)) × ((List (Int × Int)) × (List (ByteArray × Int × Int × Int × Int × Int × Int × Int × Int)) × List (Int × Int × ByteArray × Int)) × List Int) : bodyF spec_BookShow.E spec_BookShow.keep n Try.f31 spec_BookShow.con x = spec_BookShow.fn n x.1 x.2.1 x.2.2 := by
  have h : bodyF spec_BookShow.E spec_BookShow.keep n Try.f31 spec_BookShow.con x = spec_BookShow.top (fun fired2 k9 x4 out8 => spec_BookShow.LN7 n x n (spec_BookShow.st7 fired2 k9 x4 out8)) x.1 x.2.1 x.2.2 := by kernel_rfl
  rw [h]
  simp only [spec_BookShow.lem7]
  rfl
set_option maxRecDepth 100000 in
theorem spec_BookShow.good : Good Try.prog 31 spec_BookShow.con :=
  good_of tabok (cs := spec_BookShow.cs) ⟨spec_AreBookings.good, spec_IsShow.good, spec_l01Rises.good, spec_l32Limits.good, trivial⟩ 0 false (fn := Try.f31) Try.func31 rfl (by decide) (by simp [spec_BookShow.con]) spec_BookShow.keep NN (fun _ => rfl) (fun x => spec_BookShow.body NN x)
end
end Go.Ev.Try

namespace Go.Ev.Try
open Go.Proofs Go.Pl
set_option linter.unusedVariables false
noncomputable section
def laws_szBooking.con : Con := { ps := [(.val, (.pair (.int .i64) (.pair .str (.int .i64)))), (.val, (.int .i64))], rs := [(.val, (.int .i64))], F := fun x => laws_szBooking.f x.1 x.2 }
def laws_szBooking.cs : List (FuncId × Con) := []
def laws_szBooking.E : Env := envOf tab laws_szBooking.cs 0 false
def laws_szBooking.keep (i : Nat) : List Nat := []
set_option maxRecDepth 100000 in
theorem laws_szBooking.body (n : Nat) (x : (Int × ByteArray × Int) × Int) : bodyF laws_szBooking.E laws_szBooking.keep n Try.f89 laws_szBooking.con x = laws_szBooking.fn n x.1 x.2 := by
  have h : bodyF laws_szBooking.E laws_szBooking.keep n Try.f89 laws_szBooking.con x = laws_szBooking.top x.1 x.2 := by kernel_rfl
  exact h
set_option maxRecDepth 100000 in
theorem laws_szBooking.good : Good Try.prog 89 laws_szBooking.con :=
  good_of tabok (cs := laws_szBooking.cs) trivial 0 false (fn := Try.f89) Try.func89 rfl (by decide) (by simp [laws_szBooking.con]) laws_szBooking.keep NN (fun _ => rfl) (fun x => laws_szBooking.body NN x)
end
end Go.Ev.Try

namespace Go.Ev.Try
open Go.Proofs Go.Pl
set_option linter.unusedVariables false
noncomputable section
def laws_szBookingS.st5 (a0 : List (Int × ByteArray × Int)) (left1 : Int) (i5 : Int) : St := ⟨[.dat (.sl 133 (.pair (.int .i64) (.pair .str (.int .i64)))) a0, .dat (.int .i64) left1, .gone, .gone, .gone, .dat (.int .i64) i5, .gone, .gone, .gone, .gone, .gone, .gone, .gone, .gone, .gone, .gone, .gone, .gone, .gone, .gone, .gone, .gone, .gone, .gone, .gone, .gone, .gone], []⟩
def laws_szBookingS.con : Con := { ps := [(.val, (.sl 133 (.pair (.int .i64) (.pair .str (.int .i64))))), (.val, (.int .i64))], rs := [(.val, (.int .i64))], F := fun x => laws_szBookingS.f x.1 x.2 }
def laws_szBookingS.cs : List (FuncId × Con) := [(89, laws_szBooking.con)]
def laws_szBookingS.E : Env := envOf tab laws_szBookingS.cs 0 false
def laws_szBookingS.keep (i : Nat) : List Nat := if i = 5 then [0, 1, 5] else []
def laws_szBookingS.at5 (n : Nat) (x : (List (Int × ByteArray × Int)) × Int) : Code × (Ex → St → Option (Int)) := ctx laws_szBookingS.E laws_szBookingS.keep n [.snd, .snd, .snd, .fst, .snd, .blk] (codeOf Try.f34) (kEnd laws_szBookingS.E Try.f34 laws_szBookingS.con x)
def laws_szBookingS.LN5 (n : Nat) (x : (List (Int × ByteArray × Int)) × Int) : Nat → St → Option (Int) := loopN (exec laws_szBookingS.E laws_szBookingS.keep n (bodyOf (laws_szBookingS.at5 n x).1)) (St.norm 0 (laws_szBookingS.keep 5)) (laws_szBookingS.at5 n x).2
set_option maxRecDepth 100000 in
theorem laws_szBookingS.lem5 (n : Nat) (x : (List (Int × ByteArray × Int)) × Int) : ∀ (k : Nat) (a0 : List (Int × ByteArray × Int)) (left1 : Int) (i5 : Int), laws_szBookingS.LN5 n x k (laws_szBookingS.st5 a0 left1 i5) = laws_szBookingS.l5 n k a0 left1 i5 := by
  intro k
  induction k with
  | zero => intro a0 left1 i5; rfl
  | succ k ih =>
    intro a0 left1 i5
    have h : laws_szBookingS.LN5 n x (k + 1) (laws_szBookingS.st5 a0 left1 i5) = laws_szBookingS.g5 (fun a0 left1 i5 => laws_szBookingS.LN5 n x k (laws_szBookingS.st5 a0 left1 i5)) a0 left1 i5 := by kernel_rfl
    rw [h]
    simp only [ih]
    rfl
set_option maxRecDepth 100000 in
theorem laws_szBookingS.body (n : Nat) (x : (List (Int × ByteArray × Int)) × Int) : bodyF laws_szBookingS.E laws_szBookingS.keep n Try.f34 laws_szBookingS.con x = laws_szBookingS.fn n x.1 x.2 := by
  have h : bodyF laws_szBookingS.E laws_szBookingS.keep n Try.f34 laws_szBookingS.con x = laws_szBookingS.top (fun a0 left1 i5 => laws_szBookingS.LN5 n x n (laws_szBookingS.st5 a0 left1 i5)) x.1 x.2 := by kernel_rfl
  rw [h]
  simp only [laws_szBookingS.lem5]
  rfl
set_option maxRecDepth 100000 in
theorem laws_szBookingS.good : Good Try.prog 34 laws_szBookingS.con :=
  good_of tabok (cs := laws_szBookingS.cs) ⟨laws_szBooking.good, trivial⟩ 0 false (fn := Try.f34) Try.func34 rfl (by decide) (by simp [laws_szBookingS.con]) laws_szBookingS.keep NN (fun _ => rfl) (fun x => laws_szBookingS.body NN x)
end
end Go.Ev.Try

namespace Go.Ev.Try
open Go.Proofs Go.Pl
set_option linter.unusedVariables false
noncomputable section
def laws_szArticle.con : Con := { ps := [(.val, (.pair .str (.pair (.int .i64) (.pair (.int .i64) (.pair (.int .i64) (.pair (.int .i64) (.pair (.int .i64) (.pair (.int .i64) (.pair (.int .i64) (.int .i64)))))))))), (.val, (.int .i64))], rs := [(.val, (.int .i64))], F := fun x => laws_szArticle.f x.1 x.2 }
def laws_szArticle.cs : List (FuncId × Con) := []
def laws_szArticle.E : Env := envOf tab laws_szArticle.cs 0 false
def laws_szArticle.keep (i : Nat) : List Nat := []
set_option maxRecDepth 100000 in
theorem laws_szArticle.body (n : Nat) (x : (ByteArray × Int × Int × Int × Int × Int × Int × Int × Int) × Int) : bodyF laws_szArticle.E laws_szArticle.keep n Try.f59 laws_szArticle.con x = laws_szArticle.fn n x.1 x.2 := by
  have h : bodyF laws_szArticle.E laws_szArticle.keep n Try.f59 laws_szArticle.con x = laws_szArticle.top x.1 x.2 := by kernel_rfl
  exact h
set_option maxRecDepth 100000 in
theorem laws_szArticle.good : Good Try.prog 59 laws_szArticle.con :=
  good_of tabok (cs := laws_szArticle.cs) trivial 0 false (fn := Try.f59) Try.func59 rfl (by decide) (by simp [laws_szArticle.con]) laws_szArticle.keep NN (fun _ => rfl) (fun x => laws_szArticle.body NN x)
end
end Go.Ev.Try

namespace Go.Ev.Try
open Go.Proofs Go.Pl
set_option linter.unusedVariables false
noncomputable section
def laws_szArticleS.st5 (a0 : List (ByteArray × Int × Int × Int × Int × Int × Int × Int × Int)) (left1 : Int) (i5 : Int) : St := ⟨[.dat (.sl 103 (.pair .str (.pair (.int .i64) (.pair (.int .i64) (.pair (.int .i64) (.pair (.int .i64) (.pair (.int .i64) (.pair (.int .i64) (.pair (.int .i64) (.int .i64)))))))))) a0, .dat (.int .i64) left1, .gone, .gone, .gone, .dat (.int .i64) i5, .gone, .gone, .gone, .gone, .gone, .gone, .gone, .gone, .gone, .gone, .gone, .gone, .gone, .gone, .gone, .gone, .gone, .gone, .gone, .gone, .gone], []⟩
def laws_szArticleS.con : Con := { ps := [(.val, (.sl 103 (.pair .str (.pair (.int .i64) (.pair (.int .i64) (.pair (.int .i64) (.pair (.int .i64) (.pair (.int .i64) (.pair (.int .i64) (.pair (.int .i64) (.int .i64))))))))))), (.val, (.int .i64))], rs := [(.val, (.int .i64))], F := fun x => laws_szArticleS.f x.1 x.2 }
def laws_szArticleS.cs : List (FuncId × Con) := [(59, laws_szArticle.con)]
def laws_szArticleS.E : Env := envOf tab laws_szArticleS.cs 0 false
def laws_szArticleS.keep (i : Nat) : List Nat := if i = 5 then [0, 1, 5] else []
def laws_szArticleS.at5 (n : Nat) (x : (List (ByteArray × Int × Int × Int × Int × Int × Int × Int × Int)) × Int) : Code × (Ex → St → Option (Int)) := ctx laws_szArticleS.E laws_szArticleS.keep n [.snd, .snd, .snd, .fst, .snd, .blk] (codeOf Try.f12) (kEnd laws_szArticleS.E Try.f12 laws_szArticleS.con x)
def laws_szArticleS.LN5 (n : Nat) (x : (List (ByteArray × Int × Int × Int × Int × Int × Int × Int × Int)) × Int) : Nat → St → Option (Int) := loopN (exec laws_szArticleS.E laws_szArticleS.keep n (bodyOf (laws_szArticleS.at5 n x).1)) (St.norm 0 (laws_szArticleS.keep 5)) (laws_szArticleS.at5 n x).2
set_option maxRecDepth 100000 in
theorem laws_szArticleS.lem5 (n : Nat) (x : (List (ByteArray × Int × Int × Int × Int × Int × Int × Int × Int)) × Int) : ∀ (k : Nat) (a0 : List (ByteArray × Int × Int × Int × Int × Int × Int × Int × Int)) (left1 : Int) (i5 : Int), laws_szArticleS.LN5 n x k (laws_szArticleS.st5 a0 left1 i5) = laws_szArticleS.l5 n k a0 left1 i5 := by
  intro k
  induction k with
  | zero => intro a0 left1 i5; rfl
  | succ k ih =>
    intro a0 left1 i5
    have h : laws_szArticleS.LN5 n x (k + 1) (laws_szArticleS.st5 a0 left1 i5) = laws_szArticleS.g5 (fun a0 left1 i5 => laws_szArticleS.LN5 n x k (laws_szArticleS.st5 a0 left1 i5)) a0 left1 i5 := by kernel_rfl
    rw [h]
    simp only [ih]
    rfl
set_option maxRecDepth 100000 in
theorem laws_szArticleS.body (n : Nat) (x : (List (ByteArray × Int × Int × Int × Int × Int × Int × Int × Int)) × Int) : bodyF laws_szArticleS.E laws_szArticleS.keep n Try.f12 laws_szArticleS.con x = laws_szArticleS.fn n x.1 x.2 := by
  have h : bodyF laws_szArticleS.E laws_szArticleS.keep n Try.f12 laws_szArticleS.con x = laws_szArticleS.top (fun a0 left1 i5 => laws_szArticleS.LN5 n x n (laws_szArticleS.st5 a0 left1 i5)) x.1 x.2 := by kernel_rfl
  rw [h]
  simp only [laws_szArticleS.lem5]
  rfl
set_option maxRecDepth 100000 in
theorem laws_szArticleS.good : Good Try.prog 12 laws_szArticleS.con :=
  good_of tabok (cs := laws_szArticleS.cs) ⟨laws_szArticle.good, trivial⟩ 0 false (fn := Try.f12) Try.func12 rfl (by decide) (by simp [laws_szArticleS.con]) laws_szArticleS.keep NN (fun _ => rfl) (fun x => laws_szArticleS.body NN x)
end
end Go.Ev.Try

namespace Go.Ev.Try
open Go.Proofs Go.Pl
set_option linter.unusedVariables false
noncomputable section
def laws_szBarS.con : Con := { ps := [(.val, (.sl 190 (.pair (.int .i64) (.int .i64)))), (.val, (.int .i64))], rs := [(.val, (.int .i64))], F := fun x => laws_szBarS.f x.1 x.2 }
def laws_szBarS.cs : List (FuncId × Con) := []
def laws_szBarS.E : Env := envOf tab laws_szBarS.cs 0 false
def laws_szBarS.keep (i : Nat) : List Nat := []
set_option maxRecDepth 100000 in
theorem laws_szBarS.body (n : Nat) (x : (List (Int × Int)) × Int) : bodyF laws_szBarS.E laws_szBarS.keep n Try.f90 laws_szBarS.con x = laws_szBarS.fn n x.1 x.2 := by
  have h : bodyF laws_szBarS.E laws_szBarS.keep n Try.f90 laws_szBarS.con x = laws_szBarS.top x.1 x.2 := by kernel_rfl
  exact h
set_option maxRecDepth 100000 in
theorem laws_szBarS.good : Good Try.prog 90 laws_szBarS.con :=
  good_of tabok (cs := laws_szBarS.cs) trivial 0 false (fn := Try.f90) Try.func90 rfl (by decide) (by simp [laws_szBarS.con]) laws_szBarS.keep NN (fun _ => rfl) (fun x => laws_szBarS.body NN x)
end
end Go.Ev.Try

namespace Go.Ev.Try
open Go.Proofs Go.Pl
set_option linter.unusedVariables false
noncomputable section
def laws_szCue.con : Con := { ps := [(.val, (.pair (.int .i64) (.pair (.int .i64) (.pair .str (.int .i64))))), (.val, (.int .i64))], rs := [(.val, (.int .i64))], F := fun x => laws_szCue.f x.1 x.2 }
def laws_szCue.cs : List (FuncId × Con) := []
def laws_szCue.E : Env := envOf tab laws_szCue.cs 0 false
def laws_szCue.keep (i : Nat) : List Nat := []
set_option maxRecDepth 100000 in
theorem laws_szCue.body (n : Nat) (x : (Int × Int × ByteArray × Int) × Int) : bodyF laws_szCue.E laws_szCue.keep n Try.f142 laws_szCue.con x = laws_szCue.fn n x.1 x.2 := by
  have h : bodyF laws_szCue.E laws_szCue.keep n Try.f142 laws_szCue.con x = laws_szCue.top x.1 x.2 := by kernel_rfl
  exact h
set_option maxRecDepth 100000 in
theorem laws_szCue.good : Good Try.prog 142 laws_szCue.con :=
  good_of tabok (cs := laws_szCue.cs) trivial 0 false (fn := Try.f142) Try.func142 rfl (by decide) (by simp [laws_szCue.con]) laws_szCue.keep NN (fun _ => rfl) (fun x => laws_szCue.body NN x)
end
end Go.Ev.Try

namespace Go.Ev.Try
open Go.Proofs Go.Pl
set_option linter.unusedVariables false
noncomputable section
def laws_szCueS.st5 (a0 : List (Int × Int × ByteArray × Int)) (left1 : Int) (i5 : Int) : St := ⟨[.dat (.sl 186 (.pair (.int .i64) (.pair (.int .i64) (.pair .str (.int .i64))))) a0, .dat (.int .i64) left1, .gone, .gone, .gone, .dat (.int .i64) i5, .gone, .gone, .gone, .gone, .gone, .gone, .gone, .gone, .gone, .gone, .gone, .gone, .gone, .gone, .gone, .gone, .gone, .gone, .gone, .gone, .gone], []⟩
def laws_szCueS.con : Con := { ps := [(.val, (.sl 186 (.pair (.int .i64) (.pair (.int .i64) (.pair .str (.int .i64)))))), (.val, (.int .i64))], rs := [(.val, (.int .i64))], F := fun x => laws_szCueS.f x.1 x.2 }
def laws_szCueS.cs : List (FuncId × Con) := [(142, laws_szCue.con)]
def laws_szCueS.E : Env := envOf tab laws_szCueS.cs 0 false
def laws_szCueS.keep (i : Nat) : List Nat := if i = 5 then [0, 1, 5] else []
def laws_szCueS.at5 (n : Nat) (x : (List (Int × Int × ByteArray × Int)) × Int) : Code × (Ex → St → Option (Int)) := ctx laws_szCueS.E laws_szCueS.keep n [.snd, .snd, .snd, .fst, .snd, .blk] (codeOf Try.f91) (kEnd laws_szCueS.E Try.f91 laws_szCueS.con x)
def laws_szCueS.LN5 (n : Nat) (x : (List (Int × Int × ByteArray × Int)) × Int) : Nat → St → Option (Int) := loopN (exec laws_szCueS.E laws_szCueS.keep n (bodyOf (laws_szCueS.at5 n x).1)) (St.norm 0 (laws_szCueS.keep 5)) (laws_szCueS.at5 n x).2
set_option maxRecDepth 100000 in
theorem laws_szCueS.lem5 (n : Nat) (x : (List (Int × Int × ByteArray × Int)) × Int) : ∀ (k : Nat) (a0 : List (Int × Int × ByteArray × Int)) (left1 : Int) (i5 : Int), laws_szCueS.LN5 n x k (laws_szCueS.st5 a0 left1 i5) = laws_szCueS.l5 n k a0 left1 i5 := by
  intro k
  induction k with
  | zero => intro a0 left1 i5; rfl
  | succ k ih =>
    intro a0 left1 i5
    have h : laws_szCueS.LN5 n x (k + 1) (laws_szCueS.st5 a0 left1 i5) = laws_szCueS.g5 (fun a0 left1 i5 => laws_szCueS.LN5 n x k (laws_szCueS.st5 a0 left1 i5)) a0 left1 i5 := by kernel_rfl
    rw [h]
    simp only [ih]
    rfl
set_option maxRecDepth 100000 in
theorem laws_szCueS.body (n : Nat) (x : (List (Int × Int × ByteArray × Int)) × Int) : bodyF laws_szCueS.E laws_szCueS.keep n Try.f91 laws_szCueS.con x = laws_szCueS.fn n x.1 x.2 := by
  have h : bodyF laws_szCueS.E laws_szCueS.keep n Try.f91 laws_szCueS.con x = laws_szCueS.top (fun a0 left1 i5 => laws_szCueS.LN5 n x n (laws_szCueS.st5 a0 left1 i5)) x.1 x.2 := by kernel_rfl
  rw [h]
  simp only [laws_szCueS.lem5]
  rfl
set_option maxRecDepth 100000 in
theorem laws_szCueS.good : Good Try.prog 91 laws_szCueS.con :=
  good_of tabok (cs := laws_szCueS.cs) ⟨laws_szCue.good, trivial⟩ 0 false (fn := Try.f91) Try.func91 rfl (by decide) (by simp [laws_szCueS.con]) laws_szCueS.keep NN (fun _ => rfl) (fun x => laws_szCueS.body NN x)
end
end Go.Ev.Try

namespace Go.Ev.Try
open Go.Proofs Go.Pl
set_option linter.unusedVariables false
noncomputable section
def laws_szShow.con : Con := { ps := [(.val, (.pair (.sl 190 (.pair (.int .i64) (.int .i64))) (.pair (.sl 103 (.pair .str (.pair (.int .i64) (.pair (.int .i64) (.pair (.int .i64) (.pair (.int .i64) (.pair (.int .i64) (.pair (.int .i64) (.pair (.int .i64) (.int .i64)))))))))) (.sl 186 (.pair (.int .i64) (.pair (.int .i64) (.pair .str (.int .i64)))))))), (.val, (.int .i64))], rs := [(.val, (.int .i64))], F := fun x => laws_szShow.f x.1 x.2 }
def laws_szShow.cs : List (FuncId × Con) := [(12, laws_szArticleS.con), (90, laws_szBarS.con), (91, laws_szCueS.con)]
def laws_szShow.E : Env := envOf tab laws_szShow.cs 0 false
def laws_szShow.keep (i : Nat) : List Nat := []
set_option maxRecDepth 100000 in
theorem laws_szShow.body (n : Nat) (x : ((List (Int × Int)) × (List (ByteArray × Int × Int × Int × Int × Int × Int × Int × Int)) × List (Int × Int × ByteArray × Int)) × Int) : bodyF laws_szShow.E laws_szShow.keep n Try.f35 laws_szShow.con x = laws_szShow.fn n x.1 x.2 := by
  have h : bodyF laws_szShow.E laws_szShow.keep n Try.f35 laws_szShow.con x = laws_szShow.top x.1 x.2 := by kernel_rfl
  exact h
set_option maxRecDepth 100000 in
theorem laws_szShow.good : Good Try.prog 35 laws_szShow.con :=
  good_of tabok (cs := laws_szShow.cs) ⟨laws_szArticleS.good, laws_szBarS.good, laws_szCueS.good, trivial⟩ 0 false (fn := Try.f35) Try.func35 rfl (by decide) (by simp [laws_szShow.con]) laws_szShow.keep NN (fun _ => rfl) (fun x => laws_szShow.body NN x)
end
end Go.Ev.Try

namespace Go.Ev.Try
open Go.Proofs Go.Pl
set_option linter.unusedVariables false
noncomputable section
def laws_roomBehind.con : Con := { ps := [(.val, (.int .i64))], rs := [(.val, (.int .i64))], F := fun x => laws_roomBehind.f x }
def laws_roomBehind.cs : List (FuncId × Con) := []
def laws_roomBehind.E : Env := envOf tab laws_roomBehind.cs 0 false
def laws_roomBehind.keep (i : Nat) : List Nat := []
set_option maxRecDepth 100000 in
theorem laws_roomBehind.body (n : Nat) (x : Int) : bodyF laws_roomBehind.E laws_roomBehind.keep n Try.f64 laws_roomBehind.con x = laws_roomBehind.fn n x := by
  have h : bodyF laws_roomBehind.E laws_roomBehind.keep n Try.f64 laws_roomBehind.con x = laws_roomBehind.top x := by kernel_rfl
  exact h
set_option maxRecDepth 100000 in
theorem laws_roomBehind.good : Good Try.prog 64 laws_roomBehind.con :=
  good_of tabok (cs := laws_roomBehind.cs) trivial 0 false (fn := Try.f64) Try.func64 rfl (by decide) (by simp [laws_roomBehind.con]) laws_roomBehind.keep NN (fun _ => rfl) (fun x => laws_roomBehind.body NN x)
end
end Go.Ev.Try

namespace Go.Ev.Try
open Go.Proofs Go.Pl
set_option linter.unusedVariables false
noncomputable section
def laws_toBooking.con : Con := { ps := [(.val, (.pair (.int .i64) (.pair .str (.int .i64))))], rs := [(.own, (.pair (.int .i64) (.pair .str (.int .i64))))], F := fun x => laws_toBooking.f x }
def laws_toBooking.cs : List (FuncId × Con) := []
def laws_toBooking.E : Env := envOf tab laws_toBooking.cs 0 true
def laws_toBooking.keep (i : Nat) : List Nat := []
set_option maxRecDepth 100000 in
theorem laws_toBooking.body (n : Nat) (x : Int × ByteArray × Int) : bodyF laws_toBooking.E laws_toBooking.keep n Try.f92 laws_toBooking.con x = laws_toBooking.fn n x := by
  have h : bodyF laws_toBooking.E laws_toBooking.keep n Try.f92 laws_toBooking.con x = laws_toBooking.top x := by kernel_rfl
  exact h
set_option maxRecDepth 100000 in
theorem laws_toBooking.good : Good Try.prog 92 laws_toBooking.con :=
  good_of tabok (cs := laws_toBooking.cs) trivial 0 true (fn := Try.f92) Try.func92 rfl (by decide) (by simp [laws_toBooking.con]) laws_toBooking.keep NN (fun _ => rfl) (fun x => laws_toBooking.body NN x)
end
end Go.Ev.Try

namespace Go.Ev.Try
open Go.Proofs Go.Pl
set_option linter.unusedVariables false
noncomputable section
def laws_fillerBooking.con : Con := { ps := [], rs := [(.val, (.pair (.int .i64) (.pair .str (.int .i64))))], F := fun x => laws_fillerBooking.f  }
def laws_fillerBooking.cs : List (FuncId × Con) := []
def laws_fillerBooking.E : Env := envOf tab laws_fillerBooking.cs 0 false
def laws_fillerBooking.keep (i : Nat) : List Nat := []
set_option maxRecDepth 100000 in
theorem laws_fillerBooking.body (n : Nat) (x : Unit) : bodyF laws_fillerBooking.E laws_fillerBooking.keep n Try.f93 laws_fillerBooking.con x = laws_fillerBooking.fn n  := by
  have h : bodyF laws_fillerBooking.E laws_fillerBooking.keep n Try.f93 laws_fillerBooking.con x = laws_fillerBooking.top  := by kernel_rfl
  exact h
set_option maxRecDepth 100000 in
theorem laws_fillerBooking.good : Good Try.prog 93 laws_fillerBooking.con :=
  good_of tabok (cs := laws_fillerBooking.cs) trivial 0 false (fn := Try.f93) Try.func93 rfl (by decide) (by simp [laws_fillerBooking.con]) laws_fillerBooking.keep NN (fun _ => rfl) (fun x => laws_fillerBooking.body NN x)
end
end Go.Ev.Try

namespace Go.Ev.Try
open Go.Proofs Go.Pl
set_option linter.unusedVariables false
noncomputable section
def laws_toBookingS.st9 (a0 : List (Int × ByteArray × Int)) (i7 : Int) (out5 : List (Int × ByteArray × Int)) : St := ⟨[.dat (.sl 133 (.pair (.int .i64) (.pair .str (.int .i64)))) a0, .gone, .gone, .gone, .gone, .ref 0, .gone, .dat (.int .i64) i7, .gone, .gone, .gone, .gone, .gone, .gone, .gone, .gone, .gone, .gone, .gone, .gone, .gone, .gone, .gone, .gone, .gone, .gone, .gone, .gone, .gone, .gone, .gone, .gone, .gone, .gone, .gone, .gone, .gone, .gone, .gone, .gone, .gone, .gone, .gone, .gone, .gone, .gone, .gone, .gone, .gone, .gone, .gone], [.row 127 (.pair (.int .i64) (.pair .str (.int .i64))) out5 none]⟩
def laws_toBookingS.st5 (a0 : List (Int × ByteArray × Int)) (i6 : Int) (out5 : List (Int × ByteArray × Int)) : St := ⟨[.dat (.sl 133 (.pair (.int .i64) (.pair .str (.int .i64)))) a0, .gone, .gone, .gone, .gone, .ref 0, .dat (.int .i64) i6, .gone, .gone, .gone, .gone, .gone, .gone, .gone, .gone, .gone, .gone, .gone, .gone, .gone, .gone, .gone, .gone, .gone, .gone, .gone, .gone, .gone, .gone, .gone, .gone, .gone, .gone, .gone, .gone, .gone, .gone, .gone, .gone, .gone, .gone, .gone, .gone, .gone, .gone, .gone, .gone, .gone, .gone, .gone, .gone], [.row 127 (.pair (.int .i64) (.pair .str (.int .i64))) out5 none]⟩
def laws_toBookingS.con : Con := { ps := [(.val, (.sl 133 (.pair (.int .i64) (.pair .str (.int .i64))))), (.val, .bool)], rs := [(.own, (.slb 127 (.pair (.int .i64) (.pair .str (.int .i64)))))], F := fun x => laws_toBookingS.f x.1 x.2 }
def laws_toBookingS.cs : List (FuncId × Con) := [(64, laws_roomBehind.con), (92, laws_toBooking.con), (93, laws_fillerBooking.con)]
def laws_toBookingS.E : Env := envOf tab laws_toBookingS.cs 0 true
def laws_toBookingS.keep (i : Nat) : List Nat := if i = 9 then [0, 5, 7] else if i = 5 then [0, 5, 6] else []
def laws_toBookingS.at9 (n : Nat) (x : (List (Int × ByteArray × Int)) × Bool) : Code × (Ex → St → Option ((List (Int × ByteArray × Int) × List (Int × ByteArray × Int)))) := ctx laws_toBookingS.E laws_toBookingS.keep n [.snd, .snd, .snd, .snd, .fst, .snd, .blk] (codeOf Try.f36) (kEnd laws_toBookingS.E Try.f36 laws_toBookingS.con x)
def laws_toBookingS.LN9 (n : Nat) (x : (List (Int × ByteArray × Int)) × Bool) : Nat → St → Option ((List (Int × ByteArray × Int) × List (Int × ByteArray × Int))) := loopN (exec laws_toBookingS.E laws_toBookingS.keep n (bodyOf (laws_toBookingS.at9 n x).1)) (St.norm 0 (laws_toBookingS.keep 9)) (laws_toBookingS.at9 n x).2
def laws_toBookingS.at5 (n : Nat) (x : (List (Int × ByteArray × Int)) × Bool) : Code × (Ex → St → Option ((List (Int × ByteArray × Int) × List (Int × ByteArray × Int)))) := ctx laws_toBookingS.E laws_toBookingS.keep n [.snd, .snd, .snd, .fst, .snd, .blk] (codeOf Try.f36) (kEnd laws_toBookingS.E Try.f36 laws_toBookingS.con x)
def laws_toBookingS.LN5 (n : Nat) (x : (List (Int × ByteArray × Int)) × Bool) : Nat → St → Option ((List (Int × ByteArray × Int) × List (Int × ByteArray × Int))) := loopN (exec laws_toBookingS.E laws_toBookingS.keep n (bodyOf (laws_toBookingS.at5 n x).1)) (St.norm 0 (laws_toBookingS.keep 5)) (laws_toBookingS.at5 n x).2
set_option maxRecDepth 100000 in
theorem laws_toBookingS.lem9 (n : Nat) (x : (List (Int × ByteArray × Int)) × Bool) : ∀ (k : Nat) (a0 : List (Int × ByteArray × Int)) (i7 : Int) (out5 : List (Int × ByteArray × Int)), laws_toBookingS.LN9 n x k (laws_toBookingS.st9 a0 i7 out5) = laws_toBookingS.l9 n k a0 i7 out5 := by
  intro k
  induction k with
  | zero => intro a0 i7 out5; rfl
  | succ k ih =>
    intro a0 i7 out5
    have h : laws_toBookingS.LN9 n x (k + 1) (laws_toBookingS.st9 a0 i7 out5) = laws_toBookingS.g9 (fun a0 i7 out5 => laws_toBookingS.LN9 n x k (laws_toBookingS.st9 a0 i7 out5)) a0 i7 out5 := by kernel_rfl
    rw [h]
    simp only [ih]
    rfl
set_option maxRecDepth 100000 in
theorem laws_toBookingS.lem5 (n : Nat) (x : (List (Int × ByteArray × Int)) × Bool) : ∀ (k : Nat) (a0 : List (Int × ByteArray × Int)) (i6 : Int) (out5 : List (Int × ByteArray × Int)), laws_toBookingS.LN5 n x k (laws_toBookingS.st5 a0 i6 out5) = laws_toBookingS.l5 n k a0 i6 out5 := by
  intro k
  induction k with
  | zero => intro a0 i6 out5; rfl
  | succ k ih =>
    intro a0 i6 out5
    have h : laws_toBookingS.LN5 n x (k + 1) (laws_toBookingS.st5 a0 i6 out5) = laws_toBookingS.g5 (fun a0 i7 out5 => laws_toBookingS.LN9 n x n (laws_toBookingS.st9 a0 i7 out5)) (fun a0 i6 out5 => laws_toBookingS.LN5 n x k (laws_toBookingS.st5 a0 i6 out5)) a0 i6 out5 := by kernel_rfl
    rw [h]
    simp only [ih, laws_toBookingS.lem9]
    rfl
set_option maxRecDepth 100000 in
theorem laws_toBookingS.body (n : Nat) (x : (List (Int × ByteArray × Int)) × Bool) : bodyF laws_toBookingS.E laws_toBookingS.keep n Try.f36 laws_toBookingS.con x = laws_toBookingS.fn n x.1 x.2 := by
  have h : bodyF laws_toBookingS.E laws_toBookingS.keep n Try.f36 laws_toBookingS.con x = laws_toBookingS.top (fun a0 i6 out5 => laws_toBookingS.LN5 n x n (laws_toBookingS.st5 a0 i6 out5)) x.1 x.2 := by kernel_rfl
  rw [h]
  simp only [laws_toBookingS.lem5]
  rfl
set_option maxRecDepth 100000 in
theorem laws_toBookingS.good : Good Try.prog 36 laws_toBookingS.con :=
  good_of tabok (cs := laws_toBookingS.cs) ⟨laws_roomBehind.good, laws_toBooking.good, laws_fillerBooking.good, trivial⟩ 0 true (fn := Try.f36) Try.func36 rfl (by decide) (by simp [laws_toBookingS.con]) laws_toBookingS.keep NN (fun _ => rfl) (fun x => laws_toBookingS.body NN x)
end
end Go.Ev.Try

namespace Go.Ev.Try
open Go.Proofs Go.Pl
set_option linter.unusedVariables false
noncomputable section
def laws_toArticle.con : Con := { ps := [(.val, (.pair .str (.pair (.int .i64) (.pair (.int .i64) (.pair (.int .i64) (.pair (.int .i64) (.pair (.int .i64) (.pair (.int .i64) (.pair (.int .i64) (.int .i64))))))))))], rs := [(.own, (.pair .str (.pair (.int .i64) (.pair (.int .i64) (.pair (.int .i64) (.pair (.int .i64) (.pair (.int .i64) (.pair (.int .i64) (.pair (.int .i64) (.int .i64))))))))))], F := fun x => laws_toArticle.f x }
def laws_toArticle.cs : List (FuncId × Con) := []
def laws_toArticle.E : Env := envOf tab laws_toArticle.cs 0 true
def laws_toArticle.keep (i : Nat) : List Nat := []
set_option maxRecDepth 100000 in
theorem laws_toArticle.body (n : Nat) (x : ByteArray × Int × Int × Int × Int × Int × Int × Int × Int) : bodyF laws_toArticle.E laws_toArticle.keep n Try.f65 laws_toArticle.con x = laws_toArticle.fn n x := by
  have h : bodyF laws_toArticle.E laws_toArticle.keep n Try.f65 laws_toArticle.con x = laws_toArticle.top x := by kernel_rfl
  exact h
set_option maxRecDepth 100000 in
theorem laws_toArticle.good : Good Try.prog 65 laws_toArticle.con :=
  good_of tabok (cs := laws_toArticle.cs) trivial 0 true (fn := Try.f65) Try.func65 rfl (by decide) (by simp [laws_toArticle.con]) laws_toArticle.keep NN (fun _ => rfl) (fun x => laws_toArticle.body NN x)
end
end Go.Ev.Try

namespace Go.Ev.Try
open Go.Proofs Go.Pl
set_option linter.unusedVariables false
noncomputable section
def laws_fillerArticle.con : Con := { ps := [], rs := [(.val, (.pair .str (.pair (.int .i64) (.pair (.int .i64) (.pair (.int .i64) (.pair (.int .i64) (.pair (.int .i64) (.pair (.int .i64) (.pair (.int .i64) (.int .i64))))))))))], F := fun x => laws_fillerArticle.f  }
def laws_fillerArticle.cs : List (FuncId × Con) := []
def laws_fillerArticle.E : Env := envOf tab laws_fillerArticle.cs 0 false
def laws_fillerArticle.keep (i : Nat) : List Nat := []
set_option maxRecDepth 100000 in
theorem laws_fillerArticle.body (n : Nat) (x : Unit) : bodyF laws_fillerArticle.E laws_fillerArticle.keep n Try.f66 laws_fillerArticle.con x = laws_fillerArticle.fn n  := by
  have h : bodyF laws_fillerArticle.E laws_fillerArticle.keep n Try.f66 laws_fillerArticle.con x = laws_fillerArticle.top  := by kernel_rfl
  exact h
set_option maxRecDepth 100000 in
theorem laws_fillerArticle.good : Good Try.prog 66 laws_fillerArticle.con :=
  good_of tabok (cs := laws_fillerArticle.cs) trivial 0 false (fn := Try.f66) Try.func66 rfl (by decide) (by simp [laws_fillerArticle.con]) laws_fillerArticle.keep NN (fun _ => rfl) (fun x => laws_fillerArticle.body NN x)
end
end Go.Ev.Try

namespace Go.Ev.Try
open Go.Proofs Go.Pl
set_option linter.unusedVariables false
noncomputable section
def laws_toArticleS.st9 (a0 : List (ByteArray × Int × Int × Int × Int × Int × Int × Int × Int)) (i7 : Int) (out5 : List (ByteArray × Int × Int × Int × Int × Int × Int × Int × Int)) : St := ⟨[.dat (.sl 103 (.pair .str (.pair (.int .i64) (.pair (.int .i64) (.pair (.int .i64) (.pair (.int .i64) (.pair (.int .i64) (.pair (.int .i64) (.pair (.int .i64) (.int .i64)))))))))) a0, .gone, .gone, .gone, .gone, .ref 0, .gone, .dat (.int .i64) i7, .gone, .gone, .gone, .gone, .gone, .gone, .gone, .gone, .gone, .gone, .gone, .gone, .gone, .gone, .gone, .gone, .gone, .gone, .gone, .gone, .gone, .gone, .gone, .gone, .gone, .gone, .gone, .gone, .gone, .gone, .gone, .gone, .gone, .gone, .gone, .gone, .gone, .gone, .gone, .gone, .gone, .gone, .gone], [.row 75 (.pair .str (.pair (.int .i64) (.pair (.int .i64) (.pair (.int .i64) (.pair (.int .i64) (.pair (.int .i64) (.pair (.int .i64) (.pair (.int .i64) (.int .i64))))))))) out5 none]⟩
def laws_toArticleS.st5 (a0 : List (ByteArray × Int × Int × Int × Int × Int × Int × Int × Int)) (i6 : Int) (out5 : List (ByteArray × Int × Int × Int × Int × Int × Int × Int × Int)) : St := ⟨[.dat (.sl 103 (.pair .str (.pair (.int .i64) (.pair (.int .i64) (.pair (.int .i64) (.pair (.int .i64) (.pair (.int .i64) (.pair (.int .i64) (.pair (.int .i64) (.int .i64)))))))))) a0, .gone, .gone, .gone, .gone, .ref 0, .dat (.int .i64) i6, .gone, .gone, .gone, .gone, .gone, .gone, .gone, .gone, .gone, .gone, .gone, .gone, .gone, .gone, .gone, .gone, .gone, .gone, .gone, .gone, .gone, .gone, .gone, .gone, .gone, .gone, .gone, .gone, .gone, .gone, .gone, .gone, .gone, .gone, .gone, .gone, .gone, .gone, .gone, .gone, .gone, .gone, .gone, .gone], [.row 75 (.pair .str (.pair (.int .i64) (.pair (.int .i64) (.pair (.int .i64) (.pair (.int .i64) (.pair (.int .i64) (.pair (.int .i64) (.pair (.int .i64) (.int .i64))))))))) out5 none]⟩
def laws_toArticleS.con : Con := { ps := [(.val, (.sl 103 (.pair .str (.pair (.int .i64) (.pair (.int .i64) (.pair (.int .i64) (.pair (.int .i64) (.pair (.int .i64) (.pair (.int .i64) (.pair (.int .i64) (.int .i64))))))))))), (.val, .bool)], rs := [(.own, (.slb 75 (.pair .str (.pair (.int .i64) (.pair (.int .i64) (.pair (.int .i64) (.pair (.int .i64) (.pair (.int .i64) (.pair (.int .i64) (.pair (.int .i64) (.int .i64)))))))))))], F := fun x => laws_toArticleS.f x.1 x.2 }
def laws_toArticleS.cs : List (FuncId × Con) := [(64, laws_roomBehind.con), (65, laws_toArticle.con), (66, laws_fillerArticle.con)]
def laws_toArticleS.E : Env := envOf tab laws_toArticleS.cs 0 true
def laws_toArticleS.keep (i : Nat) : List Nat := if i = 9 then [0, 5, 7] else if i = 5 then [0, 5, 6] else []
def laws_toArticleS.at9 (n : Nat) (x : (List (ByteArray × Int × Int × Int × Int × Int × Int × Int × Int)) × Bool) : Code × (Ex → St → Option ((List (ByteArray × Int × Int × Int × Int × Int × Int × Int × Int) × List (ByteArray × Int × Int × Int × Int × Int × Int × Int × Int)))) := ctx laws_toArticleS.E laws_toArticleS.keep n [.snd, .snd, .snd, .snd, .fst, .snd, .blk] (codeOf Try.f15) (kEnd laws_toArticleS.E Try.f15 laws_toArticleS.con x)
def laws_toArticleS.LN9 (n : Nat) (x : (List (ByteArray × Int × Int × Int × Int × Int × Int × Int × Int)) × Bool) : Nat → St → Option ((List (ByteArray × Int × Int × Int × Int × Int × Int × Int × Int) × List (ByteArray × Int × Int × Int × Int × Int × Int × Int × Int))) := loopN (exec laws_toArticleS.E laws_toArticleS.keep n (bodyOf (laws_toArticleS.at9 n x).1)) (St.norm 0 (laws_toArticleS.keep 9)) (laws_toArticleS.at9 n x).2
def laws_toArticleS.at5 (n : Nat) (x : (List (ByteArray × Int × Int × Int × Int × Int × Int × Int × Int)) × Bool) : Code × (Ex → St → Option ((List (ByteArray × Int × Int × Int × Int × Int × Int × Int × Int) × List (ByteArray × Int × Int × Int × Int × Int × Int × Int × Int)))) := ctx laws_toArticleS.E laws_toArticleS.keep n [.snd, .snd, .snd, .fst, .snd, .blk] (codeOf Try.f15) (kEnd laws_toArticleS.E Try.f15 laws_toArticleS.con x)
def laws_toArticleS.LN5 (n : Nat) (x : (List (ByteArray × Int × Int × Int × Int × Int × Int × Int × Int)) × Bool) : Nat → St → Option ((List (ByteArray × Int × Int × Int × Int × Int × Int × Int × Int) × List (ByteArray × Int × Int × Int × Int × Int × Int × Int × Int))) := loopN (exec laws_toArticleS.E laws_toArticleS.keep n (bodyOf (laws_toArticleS.at5 n x).1)) (St.norm 0 (laws_toArticleS.keep 5)) (laws_toArticleS.at5 n x).2
set_option maxRecDepth 100000 in
theorem laws_toArticleS.lem9 (n : Nat) (x : (List (ByteArray × Int × Int × Int × Int × Int × Int × Int × Int)) × Bool) : ∀ (k : Nat) (a0 : List (ByteArray × Int × Int × Int × Int × Int × Int × Int × Int)) (i7 : Int) (out5 : List (ByteArray × Int × Int × Int × Int × Int × Int × Int × Int)), laws_toArticleS.LN9 n x k (laws_toArticleS.st9 a0 i7 out5) = laws_toArticleS.l9 n k a0 i7 out5 := by
  intro k
  induction k with
  | zero => intro a0 i7 out5; rfl
  | succ k ih =>
    intro a0 i7 out5
    have h : laws_toArticleS.LN9 n x (k + 1) (laws_toArticleS.st9 a0 i7 out5) = laws_toArticleS.g9 (fun a0 i7 out5 => laws_toArticleS.LN9 n x k (laws_toArticleS.st9 a0 i7 out5)) a0 i7 out5 := by kernel_rfl
    rw [h]
    simp only [ih]
    rfl
set_option maxRecDepth 100000 in
theorem laws_toArticleS.lem5 (n : Nat) (x : (List (ByteArray × Int × Int × Int × Int × Int × Int × Int × Int)) × Bool) : ∀ (k : Nat) (a0 : List (ByteArray × Int × Int × Int × Int × Int × Int × Int × Int)) (i6 : Int) (out5 : List (ByteArray × Int × Int × Int × Int × Int × Int × Int × Int)), laws_toArticleS.LN5 n x k (laws_toArticleS.st5 a0 i6 out5) = laws_toArticleS.l5 n k a0 i6 out5 := by
  intro k
  induction k with
  | zero => intro a0 i6 out5; rfl
  | succ k ih =>
    intro a0 i6 out5
    have h : laws_toArticleS.LN5 n x (k + 1) (laws_toArticleS.st5 a0 i6 out5) = laws_toArticleS.g5 (fun a0 i7 out5 => laws_toArticleS.LN9 n x n (laws_toArticleS.st9 a0 i7 out5)) (fun a0 i6 out5 => laws_toArticleS.LN5 n x k (laws_toArticleS.st5 a0 i6 out5)) a0 i6 out5 := by kernel_rfl
    rw [h]
    simp only [ih, laws_toArticleS.lem9]
    rfl
set_option maxRecDepth 100000 in
theorem laws_toArticleS.body (n : Nat) (x : (List (ByteArray × Int × Int × Int × Int × Int × Int × Int × Int)) × Bool) : bodyF laws_toArticleS.E laws_toArticleS.keep n Try.f15 laws_toArticleS.con x = laws_toArticleS.fn n x.1 x.2 := by
  have h : bodyF laws_toArticleS.E laws_toArticleS.keep n Try.f15 laws_toArticleS.con x = laws_toArticleS.top (fun a0 i6 out5 => laws_toArticleS.LN5 n x n (laws_toArticleS.st5 a0 i6 out5)) x.1 x.2 := by kernel_rfl
  rw [h]
  simp only [laws_toArticleS.lem5]
  rfl
set_option maxRecDepth 100000 in
theorem laws_toArticleS.good : Good Try.prog 15 laws_toArticleS.con :=
  good_of tabok (cs := laws_toArticleS.cs) ⟨laws_roomBehind.good, laws_toArticle.good, laws_fillerArticle.good, trivial⟩ 0 true (fn := Try.f15) Try.func15 rfl (by decide) (by simp [laws_toArticleS.con]) laws_toArticleS.keep NN (fun _ => rfl) (fun x => laws_toArticleS.body NN x)
end
end Go.Ev.Try

namespace Go.Ev.Try
open Go.Proofs Go.Pl
set_option linter.unusedVariables false
noncomputable section
def laws_toBar.con : Con := { ps := [(.val, (.pair (.int .i64) (.int .i64)))], rs := [(.own, (.pair (.int .i64) (.int .i64)))], F := fun x => laws_toBar.f x }
def laws_toBar.cs : List (FuncId × Con) := []
def laws_toBar.E : Env := envOf tab laws_toBar.cs 0 true
def laws_toBar.keep (i : Nat) : List Nat := []
set_option maxRecDepth 100000 in
theorem laws_toBar.body (n : Nat) (x : Int × Int) : bodyF laws_toBar.E laws_toBar.keep n Try.f143 laws_toBar.con x = laws_toBar.fn n x := by
  have h : bodyF laws_toBar.E laws_toBar.keep n Try.f143 laws_toBar.con x = laws_toBar.top x := by kernel_rfl
  exact h
set_option maxRecDepth 100000 in
theorem laws_toBar.good : Good Try.prog 143 laws_toBar.con :=
  good_of tabok (cs := laws_toBar.cs) trivial 0 true (fn := Try.f143) Try.func143 rfl (by decide) (by simp [laws_toBar.con]) laws_toBar.keep NN (fun _ => rfl) (fun x => laws_toBar.body NN x)
end
end Go.Ev.Try

namespace Go.Ev.Try
open Go.Proofs Go.Pl
set_option linter.unusedVariables false
noncomputable section
def laws_fillerBar.con : Con := { ps := [], rs := [(.val, (.pair (.int .i64) (.int .i64)))], F := fun x => laws_fillerBar.f  }
def laws_fillerBar.cs : List (FuncId × Con) := []
def laws_fillerBar.E : Env := envOf tab laws_fillerBar.cs 0 false
def laws_fillerBar.keep (i : Nat) : List Nat := []
set_option maxRecDepth 100000 in
theorem laws_fillerBar.body (n : Nat) (x : Unit) : bodyF laws_fillerBar.E laws_fillerBar.keep n Try.f144 laws_fillerBar.con x = laws_fillerBar.fn n  := by
  have h : bodyF laws_fillerBar.E laws_fillerBar.keep n Try.f144 laws_fillerBar.con x = laws_fillerBar.top  := by kernel_rfl
  exact h
set_option maxRecDepth 100000 in
theorem laws_fillerBar.good : Good Try.prog 144 laws_fillerBar.con :=
  good_of tabok (cs := laws_fillerBar.cs) trivial 0 false (fn := Try.f144) Try.func144 rfl (by decide) (by simp [laws_fillerBar.con]) laws_fillerBar.keep NN (fun _ => rfl) (fun x => laws_fillerBar.body NN x)
end
end Go.Ev.Try

namespace Go.Ev.Try
open Go.Proofs Go.Pl
set_option linter.unusedVariables false
noncomputable section
def laws_toBarS.st9 (a0 : List (Int × Int)) (i7 : Int) (out5 : List (Int × Int)) : St := ⟨[.dat (.sl 190 (.pair (.int .i64) (.int .i64))) a0, .gone, .gone, .gone, .gone, .ref 0, .gone, .dat (.int .i64) i7, .gone, .gone, .gone, .gone, .gone, .gone, .gone, .gone, .gone, .gone, .gone, .gone, .gone, .gone, .gone, .gone, .gone, .gone, .gone, .gone, .gone, .gone, .gone, .gone, .gone, .gone, .gone, .gone, .gone, .gone, .gone, .gone, .gone, .gone, .gone, .gone, .gone, .gone, .gone, .gone, .gone, .gone, .gone], [.row 188 (.pair (.int .i64) (.int .i64)) out5 none]⟩
def laws_toBarS.st5 (a0 : List (Int × Int)) (i6 : Int) (out5 : List (Int × Int)) : St := ⟨[.dat (.sl 190 (.pair (.int .i64) (.int .i64))) a0, .gone, .gone, .gone, .gone, .ref 0, .dat (.int .i64) i6, .gone, .gone, .gone, .gone, .gone, .gone, .gone, .gone, .gone, .gone, .gone, .gone, .gone, .gone, .gone, .gone, .gone, .gone, .gone, .gone, .gone, .gone, .gone, .gone, .gone, .gone, .gone, .gone, .gone, .gone, .gone, .gone, .gone, .gone, .gone, .gone, .gone, .gone, .gone, .gone, .gone, .gone, .gone, .gone], [.row 188 (.pair (.int .i64) (.int .i64)) out5 none]⟩
def laws_toBarS.con : Con := { ps := [(.val, (.sl 190 (.pair (.int .i64) (.int .i64)))), (.val, .bool)], rs := [(.own, (.slb 188 (.pair (.int .i64) (.int .i64))))], F := fun x => laws_toBarS.f x.1 x.2 }
def laws_toBarS.cs : List (FuncId × Con) := [(64, laws_roomBehind.con), (143, laws_toBar.con), (144, laws_fillerBar.con)]
def laws_toBarS.E : Env := envOf tab laws_toBarS.cs 0 true
def laws_toBarS.keep (i : Nat) : List Nat := if i = 9 then [0, 5, 7] else if i = 5 then [0, 5, 6] else []
def laws_toBarS.at9 (n : Nat) (x : (List (Int × Int)) × Bool) : Code × (Ex → St → Option ((List (Int × Int) × List (Int × Int)))) := ctx laws_toBarS.E laws_toBarS.keep n [.snd, .snd, .snd, .snd, .fst, .snd, .blk] (codeOf Try.f94) (kEnd laws_toBarS.E Try.f94 laws_toBarS.con x)
def laws_toBarS.LN9 (n : Nat) (x : (List (Int × Int)) × Bool) : Nat → St → Option ((List (Int × Int) × List (Int × Int))) := loopN (exec laws_toBarS.E laws_toBarS.keep n (bodyOf (laws_toBarS.at9 n x).1)) (St.norm 0 (laws_toBarS.keep 9)) (laws_toBarS.at9 n x).2
def laws_toBarS.at5 (n : Nat) (x : (List (Int × Int)) × Bool) : Code × (Ex → St → Option ((List (Int × Int) × List (Int × Int)))) := ctx laws_toBarS.E laws_toBarS.keep n [.snd, .snd, .snd, .fst, .snd, .blk] (codeOf Try.f94) (kEnd laws_toBarS.E Try.f94 laws_toBarS.con x)
def laws_toBarS.LN5 (n : Nat) (x : (List (Int × Int)) × Bool) : Nat → St → Option ((List (Int × Int) × List (Int × Int))) := loopN (exec laws_toBarS.E laws_toBarS.keep n (bodyOf (laws_toBarS.at5 n x).1)) (St.norm 0 (laws_toBarS.keep 5)) (laws_toBarS.at5 n x).2
set_option maxRecDepth 100000 in
theorem laws_toBarS.lem9 (n : Nat) (x : (List (Int × Int)) × Bool) : ∀ (k : Nat) (a0 : List (Int × Int)) (i7 : Int) (out5 : List (Int × Int)), laws_toBarS.LN9 n x k (laws_toBarS.st9 a0 i7 out5) = laws_toBarS.l9 n k a0 i7 out5 := by
  intro k
  induction k with
  | zero => intro a0 i7 out5; rfl
  | succ k ih =>
    intro a0 i7 out5
    have h : laws_toBarS.LN9 n x (k + 1) (laws_toBarS.st9 a0 i7 out5) = laws_toBarS.g9 (fun a0 i7 out5 => laws_toBarS.LN9 n x k (laws_toBarS.st9 a0 i7 out5)) a0 i7 out5 := by kernel_rfl
    rw [h]
    simp only [ih]
    rfl
set_option maxRecDepth 100000 in
theorem laws_toBarS.lem5 (n : Nat) (x : (List (Int × Int)) × Bool) : ∀ (k : Nat) (a0 : List (Int × Int)) (i6 : Int) (out5 : List (Int × Int)), laws_toBarS.LN5 n x k (laws_toBarS.st5 a0 i6 out5) = laws_toBarS.l5 n k a0 i6 out5 := by
  intro k
  induction k with
  | zero => intro a0 i6 out5; rfl
  | succ k ih =>
    intro a0 i6 out5
    have h : laws_toBarS.LN5 n x (k + 1) (laws_toBarS.st5 a0 i6 out5) = laws_toBarS.g5 (fun a0 i7 out5 => laws_toBarS.LN9 n x n (laws_toBarS.st9 a0 i7 out5)) (fun a0 i6 out5 => laws_toBarS.LN5 n x k (laws_toBarS.st5 a0 i6 out5)) a0 i6 out5 := by kernel_rfl
    rw [h]
    simp only [ih, laws_toBarS.lem9]
    rfl
set_option maxRecDepth 100000 in
theorem laws_toBarS.body (n : Nat) (x : (List (Int × Int)) × Bool) : bodyF laws_toBarS.E laws_toBarS.keep n Try.f94 laws_toBarS.con x = laws_toBarS.fn n x.1 x.2 := by
  have h : bodyF laws_toBarS.E laws_toBarS.keep n Try.f94 laws_toBarS.con x = laws_toBarS.top (fun a0 i6 out5 => laws_toBarS.LN5 n x n (laws_toBarS.st5 a0 i6 out5)) x.1 x.2 := by kernel_rfl
  rw [h]
  simp only [laws_toBarS.lem5]
  rfl
set_option maxRecDepth 100000 in
theorem laws_toBarS.good : Good Try.prog 94 laws_toBarS.con :=
  good_of tabok (cs := laws_toBarS.cs) ⟨laws_roomBehind.good, laws_toBar.good, laws_fillerBar.good, trivial⟩ 0 true (fn := Try.f94) Try.func94 rfl (by decide) (by simp [laws_toBarS.con]) laws_toBarS.keep NN (fun _ => rfl) (fun x => laws_toBarS.body NN x)
end
end Go.Ev.Try

namespace Go.Ev.Try
open Go.Proofs Go.Pl
set_option linter.unusedVariables false
noncomputable section
def laws_toCue.con : Con := { ps := [(.val, (.pair (.int .i64) (.pair (.int .i64) (.pair .str (.int .i64)))))], rs := [(.own, (.pair (.int .i64) (.pair (.int .i64) (.pair .str (.int .i64)))))], F := fun x => laws_toCue.f x }
def laws_toCue.cs : List (FuncId × Con) := []
def laws_toCue.E : Env := envOf tab laws_toCue.cs 0 true
def laws_toCue.keep (i : Nat) : List Nat := []
set_option maxRecDepth 100000 in
theorem laws_toCue.body (n : Nat) (x : Int × Int × ByteArray × Int) : bodyF laws_toCue.E laws_toCue.keep n Try.f145 laws_toCue.con x = laws_toCue.fn n x := by
  have h : bodyF laws_toCue.E laws_toCue.keep n Try.f145 laws_toCue.con x = laws_toCue.top x := by kernel_rfl
  exact h
set_option maxRecDepth 100000 in
theorem laws_toCue.good : Good Try.prog 145 laws_toCue.con :=
  good_of tabok (cs := laws_toCue.cs) trivial 0 true (fn := Try.f145) Try.func145 rfl (by decide) (by simp [laws_toCue.con]) laws_toCue.keep NN (fun _ => rfl) (fun x => laws_toCue.body NN x)
end
end Go.Ev.Try

namespace Go.Ev.Try
open Go.Proofs Go.Pl
set_option linter.unusedVariables false
noncomputable section
def laws_fillerCue.con : Con := { ps := [], rs := [(.val, (.pair (.int .i64) (.pair (.int .i64) (.pair .str (.int .i64)))))], F := fun x => laws_fillerCue.f  }
def laws_fillerCue.cs : List (FuncId × Con) := []
def laws_fillerCue.E : Env := envOf tab laws_fillerCue.cs 0 false
def laws_fillerCue.keep (i : Nat) : List Nat := []
set_option maxRecDepth 100000 in
theorem laws_fillerCue.body (n : Nat) (x : Unit) : bodyF laws_fillerCue.E laws_fillerCue.keep n Try.f146 laws_fillerCue.con x = laws_fillerCue.fn n  := by
  have h : bodyF laws_fillerCue.E laws_fillerCue.keep n Try.f146 laws_fillerCue.con x = laws_fillerCue.top  := by kernel_rfl
  exact h
set_option maxRecDepth 100000 in
theorem laws_fillerCue.good : Good Try.prog 146 laws_fillerCue.con :=
  good_of tabok (cs := laws_fillerCue.cs) trivial 0 false (fn := Try.f146) Try.func146 rfl (by decide) (by simp [laws_fillerCue.con]) laws_fillerCue.keep NN (fun _ => rfl) (fun x => laws_fillerCue.body NN x)
end
end Go.Ev.Try

namespace Go.Ev.Try
open Go.Proofs Go.Pl
set_option linter.unusedVariables false
noncomputable section
def laws_toCueS.st9 (a0 : List (Int × Int × ByteArray × Int)) (i7 : Int) (out5 : List (Int × Int × ByteArray × Int)) : St := ⟨[.dat (.sl 186 (.pair (.int .i64) (.pair (.int .i64) (.pair .str (.int .i64))))) a0, .gone, .gone, .gone, .gone, .ref 0, .gone, .dat (.int .i64) i7, .gone, .gone, .gone, .gone, .gone, .gone, .gone, .gone, .gone, .gone, .gone, .gone, .gone, .gone, .gone, .gone, .gone, .gone, .gone, .gone, .gone, .gone, .gone, .gone, .gone, .gone, .gone, .gone, .gone, .gone, .gone, .gone, .gone, .gone, .gone, .gone, .gone, .gone, .gone, .gone, .gone, .gone, .gone], [.row 73 (.pair (.int .i64) (.pair (.int .i64) (.pair .str (.int .i64)))) out5 none]⟩
def laws_toCueS.st5 (a0 : List (Int × Int × ByteArray × Int)) (i6 : Int) (out5 : List (Int × Int × ByteArray × Int)) : St := ⟨[.dat (.sl 186 (.pair (.int .i64) (.pair (.int .i64) (.pair .str (.int .i64))))) a0, .gone, .gone, .gone, .gone, .ref 0, .dat (.int .i64) i6, .gone, .gone, .gone, .gone, .gone, .gone, .gone, .gone, .gone, .gone, .gone, .gone, .gone, .gone, .gone, .gone, .gone, .gone, .gone, .gone, .gone, .gone, .gone, .gone, .gone, .gone, .gone, .gone, .gone, .gone, .gone, .gone, .gone, .gone, .gone, .gone, .gone, .gone, .gone, .gone, .gone, .gone, .gone, .gone], [.row 73 (.pair (.int .i64) (.pair (.int .i64) (.pair .str (.int .i64)))) out5 none]⟩
def laws_toCueS.con : Con := { ps := [(.val, (.sl 186 (.pair (.int .i64) (.pair (.int .i64) (.pair .str (.int .i64)))))), (.val, .bool)], rs := [(.own, (.slb 73 (.pair (.int .i64) (.pair (.int .i64) (.pair .str (.int .i64))))))], F := fun x => laws_toCueS.f x.1 x.2 }
def laws_toCueS.cs : List (FuncId × Con) := [(64, laws_roomBehind.con), (145, laws_toCue.con), (146, laws_fillerCue.con)]
def laws_toCueS.E : Env := envOf tab laws_toCueS.cs 0 true
def laws_toCueS.keep (i : Nat) : List Nat := if i = 9 then [0, 5, 7] else if i = 5 then [0, 5, 6] else []
def laws_toCueS.at9 (n : Nat) (x : (List (Int × Int × ByteArray × Int)) × Bool) : Code × (Ex → St → Option ((List (Int × Int × ByteArray × Int) × List (Int × Int × ByteArray × Int)))) := ctx laws_toCueS.E laws_toCueS.keep n [.snd, .snd, .snd, .snd, .fst, .snd, .blk] (codeOf Try.f95) (kEnd laws_toCueS.E Try.f95 laws_toCueS.con x)
def laws_toCueS.LN9 (n : Nat) (x : (List (Int × Int × ByteArray × Int)) × Bool) : Nat → St → Option ((List (Int × Int × ByteArray × Int) × List (Int × Int × ByteArray × Int))) := loopN (exec laws_toCueS.E laws_toCueS.keep n (bodyOf (laws_toCueS.at9 n x).1)) (St.norm 0 (laws_toCueS.keep 9)) (laws_toCueS.at9 n x).2
def laws_toCueS.at5 (n : Nat) (x : (List (Int × Int × ByteArray × Int)) × Bool) : Code × (Ex → St → Option ((List (Int × Int × ByteArray × Int) × List (Int × Int × ByteArray × Int)))) := ctx laws_toCueS.E laws_toCueS.keep n [.snd, .snd, .snd, .fst, .snd, .blk] (codeOf Try.f95) (kEnd laws_toCueS.E Try.f95 laws_toCueS.con x)
def laws_toCueS.LN5 (n : Nat) (x : (List (Int × Int × ByteArray × Int)) × Bool) : Nat → St → Option ((List (Int × Int × ByteArray × Int) × List (Int × Int × ByteArray × Int))) := loopN (exec laws_toCueS.E laws_toCueS.keep n (bodyOf (laws_toCueS.at5 n x).1)) (St.norm 0 (laws_toCueS.keep 5)) (laws_toCueS.at5 n x).2
set_option maxRecDepth 100000 in
theorem laws_toCueS.lem9 (n : Nat) (x : (List (Int × Int × ByteArray × Int)) × Bool) : ∀ (k : Nat) (a0 : List (Int × Int × ByteArray × Int)) (i7 : Int) (out5 : List (Int × Int × ByteArray × Int)), laws_toCueS.LN9 n x k (laws_toCueS.st9 a0 i7 out5) = laws_toCueS.l9 n k a0 i7 out5 := by
  intro k
  induction k with
  | zero => intro a0 i7 out5; rfl
  | succ k ih =>
    intro a0 i7 out5
    have h : laws_toCueS.LN9 n x (k + 1) (laws_toCueS.st9 a0 i7 out5) = laws_toCueS.g9 (fun a0 i7 out5 => laws_toCueS.LN9 n x k (laws_toCueS.st9 a0 i7 out5)) a0 i7 out5 := by kernel_rfl
    rw [h]
    simp only [ih]
    rfl
set_option maxRecDepth 100000 in
theorem laws_toCueS.lem5 (n : Nat) (x : (List (Int × Int × ByteArray × Int)) × Bool) : ∀ (k : Nat) (a0 : List (Int × Int × ByteArray × Int)) (i6 : Int) (out5 : List (Int × Int × ByteArray × Int)), laws_toCueS.LN5 n x k (laws_toCueS.st5 a0 i6 out5) = laws_toCueS.l5 n k a0 i6 out5 := by
  intro k
  induction k with
  | zero => intro a0 i6 out5; rfl
  | succ k ih =>
    intro a0 i6 out5
    have h : laws_toCueS.LN5 n x (k + 1) (laws_toCueS.st5 a0 i6 out5) = laws_toCueS.g5 (fun a0 i7 out5 => laws_toCueS.LN9 n x n (laws_toCueS.st9 a0 i7 out5)) (fun a0 i6 out5 => laws_toCueS.LN5 n x k (laws_toCueS.st5 a0 i6 out5)) a0 i6 out5 := by kernel_rfl
    rw [h]
    simp only [ih, laws_toCueS.lem9]
    rfl
set_option maxRecDepth 100000 in
theorem laws_toCueS.body (n : Nat) (x : (List (Int × Int × ByteArray × Int)) × Bool) : bodyF laws_toCueS.E laws_toCueS.keep n Try.f95 laws_toCueS.con x = laws_toCueS.fn n x.1 x.2 := by
  have h : bodyF laws_toCueS.E laws_toCueS.keep n Try.f95 laws_toCueS.con x = laws_toCueS.top (fun a0 i6 out5 => laws_toCueS.LN5 n x n (laws_toCueS.st5 a0 i6 out5)) x.1 x.2 := by kernel_rfl
  rw [h]
  simp only [laws_toCueS.lem5]
  rfl
set_option maxRecDepth 100000 in
theorem laws_toCueS.good : Good Try.prog 95 laws_toCueS.con :=
  good_of tabok (cs := laws_toCueS.cs) ⟨laws_roomBehind.good, laws_toCue.good, laws_fillerCue.good, trivial⟩ 0 true (fn := Try.f95) Try.func95 rfl (by decide) (by simp [laws_toCueS.con]) laws_toCueS.keep NN (fun _ => rfl) (fun x => laws_toCueS.body NN x)
end
end Go.Ev.Try

namespace Go.Ev.Try
open Go.Proofs Go.Pl
set_option linter.unusedVariables false
noncomputable section
def laws_toShow.con : Con := { ps := [(.val, (.pair (.sl 190 (.pair (.int .i64) (.int .i64))) (.pair (.sl 103 (.pair .str (.pair (.int .i64) (.pair (.int .i64) (.pair (.int .i64) (.pair (.int .i64) (.pair (.int .i64) (.pair (.int .i64) (.pair (.int .i64) (.int .i64)))))))))) (.sl 186 (.pair (.int .i64) (.pair (.int .i64) (.pair .str (.int .i64)))))))), (.val, .bool)], rs := [(.own, (.pair (.slb 188 (.pair (.int .i64) (.int .i64))) (.pair (.slb 75 (.pair .str (.pair (.int .i64) (.pair (.int .i64) (.pair (.int .i64) (.pair (.int .i64) (.pair (.int .i64) (.pair (.int .i64) (.pair (.int .i64) (.int .i64)))))))))) (.slb 73 (.pair (.int .i64) (.pair (.int .i64) (.pair .str (.int .i64))))))))], F := fun x => laws_toShow.f x.1 x.2 }
def laws_toShow.cs : List (FuncId × Con) := [(15, laws_toArticleS.con), (94, laws_toBarS.con), (95, laws_toCueS.con)]
def laws_toShow.E : Env := envOf tab laws_toShow.cs 0 true
def laws_toShow.keep (i : Nat) : List Nat := []
set_option maxRecDepth 100000 in
theorem laws_toShow.body (n : Nat) (x : ((List (Int × Int)) × (List (ByteArray × Int × Int × Int × Int × Int × Int × Int × Int)) × List (Int × Int × ByteArray × Int)) × Bool) : bodyF laws_toShow.E laws_toShow.keep n Try.f37 laws_toShow.con x = laws_toShow.fn n x.1 x.2 := by
  have h : bodyF laws_toShow.E laws_toShow.keep n Try.f37 laws_toShow.con x = laws_toShow.top x.1 x.2 := by kernel_rfl
  exact h
set_option maxRecDepth 100000 in
theorem laws_toShow.good : Good Try.prog 37 laws_toShow.con :=
  good_of tabok (cs := laws_toShow.cs) ⟨laws_toArticleS.good, laws_toBarS.good, laws_toCueS.good, trivial⟩ 0 true (fn := Try.f37) Try.func37 rfl (by decide) (by simp [laws_toShow.con]) laws_toShow.keep NN (fun _ => rfl) (fun x => laws_toShow.body NN x)
end
end Go.Ev.Try

namespace Go.Ev.Try
open Go.Proofs Go.Pl
set_option linter.unusedVariables false
noncomputable section
def laws_toInt64S.st9 (a0 : List Int) (i7 : Int) (out5 : List Int) : St := ⟨[.dat (.sl 2 (.int .i64)) a0, .gone, .gone, .gone, .gone, .ref 0, .gone, .dat (.int .i64) i7, .gone, .gone, .gone, .gone, .gone, .gone, .gone, .gone, .gone, .gone, .gone, .gone, .gone, .gone, .gone, .gone, .gone, .gone, .gone, .gone, .gone, .gone, .gone, .gone, .gone, .gone, .gone, .gone, .gone, .gone, .gone, .gone, .gone, .gone, .gone, .gone, .gone, .gone, .gone, .gone, .gone], [.row 2 (.int .i64) out5 none]⟩
def laws_toInt64S.st5 (a0 : List Int) (i6 : Int) (out5 : List Int) : St := ⟨[.dat (.sl 2 (.int .i64)) a0, .gone, .gone, .gone, .gone, .ref 0, .dat (.int .i64) i6, .gone, .gone, .gone, .gone, .gone, .gone, .gone, .gone, .gone, .gone, .gone, .gone, .gone, .gone, .gone, .gone, .gone, .gone, .gone, .gone, .gone, .gone, .gone, .gone, .gone, .gone, .gone, .gone, .gone, .gone, .gone, .gone, .gone, .gone, .gone, .gone, .gone, .gone, .gone, .gone, .gone, .gone], [.row 2 (.int .i64) out5 none]⟩
def laws_toInt64S.con : Con := { ps := [(.val, (.sl 2 (.int .i64))), (.val, .bool)], rs := [(.own, (.slb 2 (.int .i64)))], F := fun x => laws_toInt64S.f x.1 x.2 }
def laws_toInt64S.cs : List (FuncId × Con) := [(64, laws_roomBehind.con)]
def laws_toInt64S.E : Env := envOf tab laws_toInt64S.cs 0 true
def laws_toInt64S.keep (i : Nat) : List Nat := if i = 9 then [0, 5, 7] else if i = 5 then [0, 5, 6] else []
def laws_toInt64S.at9 (n : Nat) (x : List Int × Bool) : Code × (Ex → St → Option ((List Int × List Int))) := ctx laws_toInt64S.E laws_toInt64S.keep n [.snd, .snd, .snd, .snd, .fst, .snd, .blk] (codeOf Try.f38) (kEnd laws_toInt64S.E Try.f38 laws_toInt64S.con x)
def laws_toInt64S.LN9 (n : Nat) (x : List Int × Bool) : Nat → St → Option ((List Int × List Int)) := loopN (exec laws_toInt64S.E laws_toInt64S.keep n (bodyOf (laws_toInt64S.at9 n x).1)) (St.norm 0 (laws_toInt64S.keep 9)) (laws_toInt64S.at9 n x).2
def laws_toInt64S.at5 (n : Nat) (x : List Int × Bool) : Code × (Ex → St → Option ((List Int × List Int))) := ctx laws_toInt64S.E laws_toInt64S.keep n [.snd, .snd, .snd, .fst, .snd, .blk] (codeOf Try.f38) (kEnd laws_toInt64S.E Try.f38 laws_toInt64S.con x)
def laws_toInt64S.LN5 (n : Nat) (x : List Int × Bool) : Nat → St → Option ((List Int × List Int)) := loopN (exec laws_toInt64S.E laws_toInt64S.keep n (bodyOf (laws_toInt64S.at5 n x).1)) (St.norm 0 (laws_toInt64S.keep 5)) (laws_toInt64S.at5 n x).2
set_option maxRecDepth 100000 in
theorem laws_toInt64S.lem9 (n : Nat) (x : List Int × Bool) : ∀ (k : Nat) (a0 : List Int) (i7 : Int) (out5 : List Int), laws_toInt64S.LN9 n x k (laws_toInt64S.st9 a0 i7 out5) = laws_toInt64S.l9 n k a0 i7 out5 := by
  intro k
  induction k with
  | zero => intro a0 i7 out5; rfl
  | succ k ih =>
    intro a0 i7 out5
    have h : laws_toInt64S.LN9 n x (k + 1) (laws_toInt64S.st9 a0 i7 out5) = laws_toInt64S.g9 (fun a0 i7 out5 => laws_toInt64S.LN9 n x k (laws_toInt64S.st9 a0 i7 out5)) a0 i7 out5 := by kernel_rfl
    rw [h]
    simp only [ih]
    rfl
set_option maxRecDepth 100000 in
theorem laws_toInt64S.lem5 (n : Nat) (x : List Int × Bool) : ∀ (k : Nat) (a0 : List Int) (i6 : Int) (out5 : List Int), laws_toInt64S.LN5 n x k (laws_toInt64S.st5 a0 i6 out5) = laws_toInt64S.l5 n k a0 i6 out5 := by
  intro k
  induction k with
  | zero => intro a0 i6 out5; rfl
  | succ k ih =>
    intro a0 i6 out5
    have h : laws_toInt64S.LN5 n x (k + 1) (laws_toInt64S.st5 a0 i6 out5) = laws_toInt64S.g5 (fun a0 i7 out5 => laws_toInt64S.LN9 n x n (laws_toInt64S.st9 a0 i7 out5)) (fun a0 i6 out5 => laws_toInt64S.LN5 n x k (laws_toInt64S.st5 a0 i6 out5)) a0 i6 out5 := by kernel_rfl
    rw [h]
    simp only [ih, laws_toInt64S.lem9]
    rfl
set_option maxRecDepth 100000 in
theorem laws_toInt64S.body (n : Nat) (x : List Int × Bool) : bodyF laws_toInt64S.E laws_toInt64S.keep n Try.f38 laws_toInt64S.con x = laws_toInt64S.fn n x.1 x.2 := by
  have h : bodyF laws_toInt64S.E laws_toInt64S.keep n Try.f38 laws_toInt64S.con x = laws_toInt64S.top (fun a0 i6 out5 => laws_toInt64S.LN5 n x n (laws_toInt64S.st5 a0 i6 out5)) x.1 x.2 := by kernel_rfl
  rw [h]
  simp only [laws_toInt64S.lem5]
  rfl
set_option maxRecDepth 100000 in
theorem laws_toInt64S.good : Good Try.prog 38 laws_toInt64S.con :=
  good_of tabok (cs := laws_toInt64S.cs) ⟨laws_roomBehind.good, trivial⟩ 0 true (fn := Try.f38) Try.func38 rfl (by decide) (by simp [laws_toInt64S.con]) laws_toInt64S.keep NN (fun _ => rfl) (fun x => laws_toInt64S.body NN x)
end
end Go.Ev.Try

namespace Go.Ev.Try
open Go.Proofs Go.Pl
set_option linter.unusedVariables false
noncomputable section
def laws_eqBooking.con : Con := { ps := [(.val, (.pair (.int .i64) (.pair .str (.int .i64)))), (.val, (.pair (.int .i64) (.pair .str (.int .i64))))], rs := [(.val, .bool)], F := fun x => laws_eqBooking.f x.1 x.2 }
def laws_eqBooking.cs : List (FuncId × Con) := []
def laws_eqBooking.E : Env := envOf tab laws_eqBooking.cs 0 false
def laws_eqBooking.keep (i : Nat) : List Nat := []
set_option maxRecDepth 100000 in
theorem laws_eqBooking.body (n : Nat) (x : (Int × ByteArray × Int) × Int × ByteArray × Int) : bodyF laws_eqBooking.E laws_eqBooking.keep n Try.f96 laws_eqBooking.con x = laws_eqBooking.fn n x.1 x.2 := by
  have h : bodyF laws_eqBooking.E laws_eqBooking.keep n Try.f96 laws_eqBooking.con x = laws_eqBooking.top x.1 x.2 := by kernel_rfl
  exact h
set_option maxRecDepth 100000 in
theorem laws_eqBooking.good : Good Try.prog 96 laws_eqBooking.con :=
  good_of tabok (cs := laws_eqBooking.cs) trivial 0 false (fn := Try.f96) Try.func96 rfl (by decide) (by simp [laws_eqBooking.con]) laws_eqBooking.keep NN (fun _ => rfl) (fun x => laws_eqBooking.body NN x)
end
end Go.Ev.Try

namespace Go.Ev.Try
open Go.Proofs Go.Pl
set_option linter.unusedVariables false
noncomputable section
def laws_eqBookingS.st4 (a0 : List (Int × ByteArray × Int)) (b1 : List (Int × ByteArray × Int)) (i5 : Int) : St := ⟨[.dat (.sl 127 (.pair (.int .i64) (.pair .str (.int .i64)))) a0, .dat (.sl 127 (.pair (.int .i64) (.pair .str (.int .i64)))) b1, .gone, .gone, .gone, .dat (.int .i64) i5, .gone, .gone, .gone, .gone, .gone, .gone, .gone, .gone, .gone, .gone, .gone, .gone, .gone, .gone, .gone, .gone, .gone, .gone, .gone, .gone, .gone], []⟩
def laws_eqBookingS.con : Con := { ps := [(.val, (.sl 127 (.pair (.int .i64) (.pair .str (.int .i64))))), (.val, (.sl 127 (.pair (.int .i64) (.pair .str (.int .i64)))))], rs := [(.val, .bool)], F := fun x => laws_eqBookingS.f x.1 x.2 }
def laws_eqBookingS.cs : List (FuncId × Con) := [(96, laws_eqBooking.con)]
def laws_eqBookingS.E : Env := envOf tab laws_eqBookingS.cs 0 false
def laws_eqBookingS.keep (i : Nat) : List Nat := if i = 4 then [0, 1, 5] else []
def laws_eqBookingS.at4 (n : Nat) (x : (List (Int × ByteArray × Int)) × List (Int × ByteArray × Int)) : Code × (Ex → St → Option (Bool)) := ctx laws_eqBookingS.E laws_eqBookingS.keep n [.snd, .snd, .fst, .snd, .blk] (codeOf Try.f39) (kEnd laws_eqBookingS.E Try.f39 laws_eqBookingS.con x)
def laws_eqBookingS.LN4 (n : Nat) (x : (List (Int × ByteArray × Int)) × List (Int × ByteArray × Int)) : Nat → St → Option (Bool) := loopN (exec laws_eqBookingS.E laws_eqBookingS.keep n (bodyOf (laws_eqBookingS.at4 n x).1)) (St.norm 0 (laws_eqBookingS.keep 4)) (laws_eqBookingS.at4 n x).2
set_option maxRecDepth 100000 in
theorem laws_eqBookingS.lem4 (n : Nat) (x : (List (Int × ByteArray × Int)) × List (Int × ByteArray × Int)) : ∀ (k : Nat) (a0 : List (Int × ByteArray × Int)) (b1 : List (Int × ByteArray × Int)) (i5 : Int), laws_eqBookingS.LN4 n x k (laws_eqBookingS.st4 a0 b1 i5) = laws_eqBookingS.l4 n k a0 b1 i5 := by
  intro k
  induction k with
  | zero => intro a0 b1 i5; rfl
  | succ k ih =>
    intro a0 b1 i5
    have h : laws_eqBookingS.LN4 n x (k + 1) (laws_eqBookingS.st4 a0 b1 i5) = laws_eqBookingS.g4 (fun a0 b1 i5 => laws_eqBookingS.LN4 n x k (laws_eqBookingS.st4 a0 b1 i5)) a0 b1 i5 := by kernel_rfl
    rw [h]
    simp only [ih]
    rfl
set_option maxRecDepth 100000 in
theorem laws_eqBookingS.body (n : Nat) (x : (List (Int × ByteArray × Int)) × List (Int × ByteArray × Int)) : bodyF laws_eqBookingS.E laws_eqBookingS.keep n Try.f39 laws_eqBookingS.con x = laws_eqBookingS.fn n x.1 x.2 := by
  have h : bodyF laws_eqBookingS.E laws_eqBookingS.keep n Try.f39 laws_eqBookingS.con x = laws_eqBookingS.top (fun a0 b1 i5 => laws_eqBookingS.LN4 n x n (laws_eqBookingS.st4 a0 b1 i5)) x.1 x.2 := by kernel_rfl
  rw [h]
  simp only [laws_eqBookingS.lem4]
  rfl
set_option maxRecDepth 100000 in
theorem laws_eqBookingS.good : Good Try.prog 39 laws_eqBookingS.con :=
  good_of tabok (cs := laws_eqBookingS.cs) ⟨laws_eqBooking.good, trivial⟩ 0 false (fn := Try.f39) Try.func39 rfl (by decide) (by simp [laws_eqBookingS.con]) laws_eqBookingS.keep NN (fun _ => rfl) (fun x => laws_eqBookingS.body NN x)
end
end Go.Ev.Try

namespace Go.Ev.Try
open Go.Proofs Go.Pl
set_option linter.unusedVariables false
noncomputable section
def laws_intactBookingS.con : Con := { ps := [(.val, (.slb 127 (.pair (.int .i64) (.pair .str (.int .i64))))), (.val, (.slb 127 (.pair (.int .i64) (.pair .str (.int .i64)))))], rs := [(.val, .bool)], F := fun x => laws_intactBookingS.f x.1 x.2 }
def laws_intactBookingS.cs : List (FuncId × Con) := [(39, laws_eqBookingS.con), (64, laws_roomBehind.con)]
def laws_intactBookingS.E : Env := envOf tab laws_intactBookingS.cs 0 false
def laws_intactBookingS.keep (i : Nat) : List Nat := []
set_option maxRecDepth 100000 in
theorem laws_intactBookingS.body (n : Nat) (x : (List (Int × ByteArray × Int) × List (Int × ByteArray × Int)) × List (Int × ByteArray × Int) × List (Int × ByteArray × Int)) : bodyF laws_intactBookingS.E laws_intactBookingS.keep n Try.f40 laws_intactBookingS.con x = laws_intactBookingS.fn n x.1 x.2 := by
  have h : bodyF laws_intactBookingS.E laws_intactBookingS.keep n Try.f40 laws_intactBookingS.con x = laws_intactBookingS.top x.1 x.2 := by kernel_rfl
  exact h
set_option maxRecDepth 100000 in
theorem laws_intactBookingS.good : Good Try.prog 40 laws_intactBookingS.con :=
  good_of tabok (cs := laws_intactBookingS.cs) ⟨laws_eqBookingS.good, laws_roomBehind.good, trivial⟩ 0 false (fn := Try.f40) Try.func40 rfl (by decide) (by simp [laws_intactBookingS.con]) laws_intactBookingS.keep NN (fun _ => rfl) (fun x => laws_intactBookingS.body NN x)
end
end Go.Ev.Try

namespace Go.Ev.Try
open Go.Proofs Go.Pl
set_option linter.unusedVariables false
noncomputable section
def laws_eqArticle.con : Con := { ps := [(.val, (.pair .str (.pair (.int .i64) (.pair (.int .i64) (.pair (.int .i64) (.pair (.int .i64) (.pair (.int .i64) (.pair (.int .i64) (.pair (.int .i64) (.int .i64)))))))))), (.val, (.pair .str (.pair (.int .i64) (.pair (.int .i64) (.pair (.int .i64) (.pair (.int .i64) (.pair (.int .i64) (.pair (.int .i64) (.pair (.int .i64) (.int .i64))))))))))], rs := [(.val, .bool)], F := fun x => laws_eqArticle.f x.1 x.2 }
def laws_eqArticle.cs : List (FuncId × Con) := []
def laws_eqArticle.E : Env := envOf tab laws_eqArticle.cs 0 false
def laws_eqArticle.keep (i : Nat) : List Nat := []
set_option maxRecDepth 100000 in
theorem laws_eqArticle.body (n : Nat) (x : (ByteArray × Int × Int × Int × Int × Int × Int × Int × Int) × ByteArray × Int × Int × Int × Int × Int × Int × Int × Int) : bodyF laws_eqArticle.E laws_eqArticle.keep n Try.f125 laws_eqArticle.con x = laws_eqArticle.fn n x.1 x.2 := by
  have h : bodyF laws_eqArticle.E laws_eqArticle.keep n Try.f125 laws_eqArticle.con x = laws_eqArticle.top x.1 x.2 := by kernel_rfl
  exact h
set_option maxRecDepth 100000 in
theorem laws_eqArticle.good : Good Try.prog 125 laws_eqArticle.con :=
  good_of tabok (cs := laws_eqArticle.cs) trivial 0 false (fn := Try.f125) Try.func125 rfl (by decide) (by simp [laws_eqArticle.con]) laws_eqArticle.keep NN (fun _ => rfl) (fun x => laws_eqArticle.body NN x)
end
end Go.Ev.Try

namespace Go.Ev.Try
open Go.Proofs Go.Pl
set_option linter.unusedVariables false
noncomputable section
def laws_eqArticleS.st4 (a0 : List (ByteArray × Int × Int × Int × Int × Int × Int × Int × Int)) (b1 : List (ByteArray × Int × Int × Int × Int × Int × Int × Int × Int)) (i5 : Int) : St := ⟨[.dat (.sl 75 (.pair .str (.pair (.int .i64) (.pair (.int .i64) (.pair (.int .i64) (.pair (.int .i64) (.pair (.int .i64) (.pair (.int .i64) (.pair (.int .i64) (.int .i64)))))))))) a0, .dat (.sl 75 (.pair .str (.pair (.int .i64) (.pair (.int .i64) (.pair (.int .i64) (.pair (.int .i64) (.pair (.int .i64) (.pair (.int .i64) (.pair (.int .i64) (.int .i64)))))))))) b1, .gone, .gone, .gone, .dat (.int .i64) i5, .gone, .gone, .gone, .gone, .gone, .gone, .gone, .gone, .gone, .gone, .gone, .gone, .gone, .gone, .gone, .gone, .gone, .gone, .gone, .gone, .gone], []⟩
def laws_eqArticleS.con : Con := { ps := [(.val, (.sl 75 (.pair .str (.pair (.int .i64) (.pair (.int .i64) (.pair (.int .i64) (.pair (.int .i64) (.pair (.int .i64) (.pair (.int .i64) (.pair (.int .i64) (.int .i64))))))))))), (.val, (.sl 75 (.pair .str (.pair (.int .i64) (.pair (.int .i64) (.pair (.int .i64) (.pair (.int .i64) (.pair (.int .i64) (.pair (.int .i64) (.pair (.int .i64) (.int .i64)))))))))))], rs := [(.val, .bool)], F := fun x => laws_eqArticleS.f x.1 x.2 }
def laws_eqArticleS.cs : List (FuncId × Con) := [(125, laws_eqArticle.con)]
def laws_eqArticleS.E : Env := envOf tab laws_eqArticleS.cs 0 false
def laws_eqArticleS.keep (i : Nat) : List Nat := if i = 4 then [0, 1, 5] else []
def laws_eqArticleS.at4 (n : Nat) (x : (List (ByteArray × Int × Int × Int × Int × Int × Int × Int × Int)) × List (ByteArray × Int × Int × Int × Int × Int × Int × Int × Int)) : Code × (Ex → St → Option (Bool)) := ctx laws_eqArticleS.E laws_eqArticleS.keep n [.snd, .snd, .fst, .snd, .blk] (codeOf Try.f72) (kEnd laws_eqArticleS.E Try.f72 laws_eqArticleS.con x)
def laws_eqArticleS.LN4 (n : Nat) (x : (List (ByteArray × Int × Int × Int × Int × Int × Int × Int × Int)) × List (ByteArray × Int × Int × Int × Int × Int × Int × Int × Int)) : Nat → St → Option (Bool) := loopN (exec laws_eqArticleS.E laws_eqArticleS.keep n (bodyOf (laws_eqArticleS.at4 n x).1)) (St.norm 0 (laws_eqArticleS.keep 4)) (laws_eqArticleS.at4 n x).2
set_option maxRecDepth 100000 in
theorem laws_eqArticleS.lem4 (n : Nat) (x : (List (ByteArray × Int × Int × Int × Int × Int × Int × Int × Int)) × List (ByteArray × Int × Int × Int × Int × Int × Int × Int × Int)) : ∀ (k : Nat) (a0 : List (ByteArray × Int × Int × Int × Int × Int × Int × Int × Int)) (b1 : List (ByteArray × Int × Int × Int × Int × Int × Int × Int × Int)) (i5 : Int), laws_eqArticleS.LN4 n x k (laws_eqArticleS.st4 a0 b1 i5) = laws_eqArticleS.l4 n k a0 b1 i5 := by
  intro k
  induction k with
  | zero => intro a0 b1 i5; rfl
  | succ k ih =>
    intro a0 b1 i5
    have h : laws_eqArticleS.LN4 n x (k + 1) (laws_eqArticleS.st4 a0 b1 i5) = laws_eqArticleS.g4 (fun a0 b1 i5 => laws_eqArticleS.LN4 n x k (laws_eqArticleS.st4 a0 b1 i5)) a0 b1 i5 := by kernel_rfl
    rw [h]
    simp only [ih]
    rfl
set_option maxRecDepth 100000 in
theorem laws_eqArticleS.body (n : Nat) (x : (List (ByteArray × Int × Int × Int × Int × Int × Int × Int × Int)) × List (ByteArray × Int × Int × Int × Int × Int × Int × Int × Int)) : bodyF laws_eqArticleS.E laws_eqArticleS.keep n Try.f72 laws_eqArticleS.con x = laws_eqArticleS.fn n x.1 x.2 := by
  have h : bodyF laws_eqArticleS.E laws_eqArticleS.keep n Try.f72 laws_eqArticleS.con x = laws_eqArticleS.top (fun a0 b1 i5 => laws_eqArticleS.LN4 n x n (laws_eqArticleS.st4 a0 b1 i5)) x.1 x.2 := by kernel_rfl
  rw [h]
  simp only [laws_eqArticleS.lem4]
  rfl
set_option maxRecDepth 100000 in
theorem laws_eqArticleS.good : Good Try.prog 72 laws_eqArticleS.con :=
  good_of tabok (cs := laws_eqArticleS.cs) ⟨laws_eqArticle.good, trivial⟩ 0 false (fn := Try.f72) Try.func72 rfl (by decide) (by simp [laws_eqArticleS.con]) laws_eqArticleS.keep NN (fun _ => rfl) (fun x => laws_eqArticleS.body NN x)
end
end Go.Ev.Try

namespace Go.Ev.Try
open Go.Proofs Go.Pl
set_option linter.unusedVariables false
noncomputable section
def laws_intactArticleS.con : Con := { ps := [(.val, (.slb 75 (.pair .str (.pair (.int .i64) (.pair (.int .i64) (.pair (.int .i64) (.pair (.int .i64) (.pair (.int .i64) (.pair (.int .i64) (.pair (.int .i64) (.int .i64))))))))))), (.val, (.slb 75 (.pair .str (.pair (.int .i64) (.pair (.int .i64) (.pair (.int .i64) (.pair (.int .i64) (.pair (.int .i64) (.pair (.int .i64) (.pair (.int .i64) (.int .i64)))))))))))], rs := [(.val, .bool)], F := fun x => laws_intactArticleS.f x.1 x.2 }
def laws_intactArticleS.cs : List (FuncId × Con) := [(64, laws_roomBehind.con), (72, laws_eqArticleS.con)]
def laws_intactArticleS.E : Env := envOf tab laws_intactArticleS.cs 0 false
def laws_intactArticleS.keep (i : Nat) : List Nat := []
set_option maxRecDepth 100000 in
theorem laws_intactArticleS.body (n : Nat) (x : (List (ByteArray × Int × Int × Int × Int × Int × Int × Int × Int) × List (ByteArray × Int × Int × Int × Int × Int × Int × Int × Int)) × List (ByteArray × Int × Int × Int × Int × Int × Int × Int × Int) × List (ByteArray × Int × Int × Int × Int × Int × Int × Int × Int)) : bodyF laws_intactArticleS.E laws_intactArticleS.keep n Try.f19 laws_intactArticleS.con x = laws_intactArticleS.fn n x.1 x.2 := by
  have h : bodyF laws_intactArticleS.E laws_intactArticleS.keep n Try.f19 laws_intactArticleS.con x = laws_intactArticleS.top x.1 x.2 := by kernel_rfl
  exact h
set_option maxRecDepth 100000 in
theorem laws_intactArticleS.good : Good Try.prog 19 laws_intactArticleS.con :=
  good_of tabok (cs := laws_intactArticleS.cs) ⟨laws_roomBehind.good, laws_eqArticleS.good, trivial⟩ 0 false (fn := Try.f19) Try.func19 rfl (by decide) (by simp [laws_intactArticleS.con]) laws_intactArticleS.keep NN (fun _ => rfl) (fun x => laws_intactArticleS.body NN x)
end
end Go.Ev.Try

namespace Go.Ev.Try
open Go.Proofs Go.Pl
set_option linter.unusedVariables false
noncomputable section
def laws_eqBar.con : Con := { ps := [(.val, (.pair (.int .i64) (.int .i64))), (.val, (.pair (.int .i64) (.int .i64)))], rs := [(.val, .bool)], F := fun x => laws_eqBar.f x.1 x.2 }
def laws_eqBar.cs : List (FuncId × Con) := []
def laws_eqBar.E : Env := envOf tab laws_eqBar.cs 0 false
def laws_eqBar.keep (i : Nat) : List Nat := []
set_option maxRecDepth 100000 in
theorem laws_eqBar.body (n : Nat) (x : (Int × Int) × Int × Int) : bodyF laws_eqBar.E laws_eqBar.keep n Try.f165 laws_eqBar.con x = laws_eqBar.fn n x.1 x.2 := by
  have h : bodyF laws_eqBar.E laws_eqBar.keep n Try.f165 laws_eqBar.con x = laws_eqBar.top x.1 x.2 := by kernel_rfl
  exact h
set_option maxRecDepth 100000 in
theorem laws_eqBar.good : Good Try.prog 165 laws_eqBar.con :=
  good_of tabok (cs := laws_eqBar.cs) trivial 0 false (fn := Try.f165) Try.func165 rfl (by decide) (by simp [laws_eqBar.con]) laws_eqBar.keep NN (fun _ => rfl) (fun x => laws_eqBar.body NN x)
end
end Go.Ev.Try

namespace Go.Ev.Try
open Go.Proofs Go.Pl
set_option linter.unusedVariables false
noncomputable section
def laws_eqBarS.st4 (a0 : List (Int × Int)) (b1 : List (Int × Int)) (i5 : Int) : St := ⟨[.dat (.sl 188 (.pair (.int .i64) (.int .i64))) a0, .dat (.sl 188 (.pair (.int .i64) (.int .i64))) b1, .gone, .gone, .gone, .dat (.int .i64) i5, .gone, .gone, .gone, .gone, .gone, .gone, .gone, .gone, .gone, .gone, .gone, .gone, .gone, .gone, .gone, .gone, .gone, .gone, .gone, .gone, .gone], []⟩
def laws_eqBarS.con : Con := { ps := [(.val, (.sl 188 (.pair (.int .i64) (.int .i64)))), (.val, (.sl 188 (.pair (.int .i64) (.int .i64))))], rs := [(.val, .bool)], F := fun x => laws_eqBarS.f x.1 x.2 }
def laws_eqBarS.cs : List (FuncId × Con) := [(165, laws_eqBar.con)]
def laws_eqBarS.E : Env := envOf tab laws_eqBarS.cs 0 false
def laws_eqBarS.keep (i : Nat) : List Nat := if i = 4 then [0, 1, 5] else []
def laws_eqBarS.at4 (n : Nat) (x : (List (Int × Int)) × List (Int × Int)) : Code × (Ex → St → Option (Bool)) := ctx laws_eqBarS.E laws_eqBarS.keep n [.snd, .snd, .fst, .snd, .blk] (codeOf Try.f147) (kEnd laws_eqBarS.E Try.f147 laws_eqBarS.con x)
def laws_eqBarS.LN4 (n : Nat) (x : (List (Int × Int)) × List (Int × Int)) : Nat → St → Option (Bool) := loopN (exec laws_eqBarS.E laws_eqBarS.keep n (bodyOf (laws_eqBarS.at4 n x).1)) (St.norm 0 (laws_eqBarS.keep 4)) (laws_eqBarS.at4 n x).2
set_option maxRecDepth 100000 in
theorem laws_eqBarS.lem4 (n : Nat) (x : (List (Int × Int)) × List (Int × Int)) : ∀ (k : Nat) (a0 : List (Int × Int)) (b1 : List (Int × Int)) (i5 : Int), laws_eqBarS.LN4 n x k (laws_eqBarS.st4 a0 b1 i5) = laws_eqBarS.l4 n k a0 b1 i5 := by
  intro k
  induction k with
  | zero => intro a0 b1 i5; rfl
  | succ k ih =>
    intro a0 b1 i5
    have h : laws_eqBarS.LN4 n x (k + 1) (laws_eqBarS.st4 a0 b1 i5) = laws_eqBarS.g4 (fun a0 b1 i5 => laws_eqBarS.LN4 n x k (laws_eqBarS.st4 a0 b1 i5)) a0 b1 i5 := by kernel_rfl
    rw [h]
    simp only [ih]
    rfl
set_option maxRecDepth 100000 in
theorem laws_eqBarS.body (n : Nat) (x : (List (Int × Int)) × List (Int × Int)) : bodyF laws_eqBarS.E laws_eqBarS.keep n Try.f147 laws_eqBarS.con x = laws_eqBarS.fn n x.1 x.2 := by
  have h : bodyF laws_eqBarS.E laws_eqBarS.keep n Try.f147 laws_eqBarS.con x = laws_eqBarS.top (fun a0 b1 i5 => laws_eqBarS.LN4 n x n (laws_eqBarS.st4 a0 b1 i5)) x.1 x.2 := by kernel_rfl
  rw [h]
  simp only [laws_eqBarS.lem4]
  rfl
set_option maxRecDepth 100000 in
theorem laws_eqBarS.good : Good Try.prog 147 laws_eqBarS.con :=
  good_of tabok (cs := laws_eqBarS.cs) ⟨laws_eqBar.good, trivial⟩ 0 false (fn := Try.f147) Try.func147 rfl (by decide) (by simp [laws_eqBarS.con]) laws_eqBarS.keep NN (fun _ => rfl) (fun x => laws_eqBarS.body NN x)
end
end Go.Ev.Try

namespace Go.Ev.Try
open Go.Proofs Go.Pl
set_option linter.unusedVariables false
noncomputable section
def laws_intactBarS.con : Con := { ps := [(.val, (.slb 188 (.pair (.int .i64) (.int .i64)))), (.val, (.slb 188 (.pair (.int .i64) (.int .i64))))], rs := [(.val, .bool)], F := fun x => laws_intactBarS.f x.1 x.2 }
def laws_intactBarS.cs : List (FuncId × Con) := [(64, laws_roomBehind.con), (147, laws_eqBarS.con)]
def laws_intactBarS.E : Env := envOf tab laws_intactBarS.cs 0 false
def laws_intactBarS.keep (i : Nat) : List Nat := []
set_option maxRecDepth 100000 in
theorem laws_intactBarS.body (n : Nat) (x : (List (Int × Int) × List (Int × Int)) × List (Int × Int) × List (Int × Int)) : bodyF laws_intactBarS.E laws_intactBarS.keep n Try.f97 laws_intactBarS.con x = laws_intactBarS.fn n x.1 x.2 := by
  have h : bodyF laws_intactBarS.E laws_intactBarS.keep n Try.f97 laws_intactBarS.con x = laws_intactBarS.top x.1 x.2 := by kernel_rfl
  exact h
set_option maxRecDepth 100000 in
theorem laws_intactBarS.good : Good Try.prog 97 laws_intactBarS.con :=
  good_of tabok (cs := laws_intactBarS.cs) ⟨laws_roomBehind.good, laws_eqBarS.good, trivial⟩ 0 false (fn := Try.f97) Try.func97 rfl (by decide) (by simp [laws_intactBarS.con]) laws_intactBarS.keep NN (fun _ => rfl) (fun x => laws_intactBarS.body NN x)
end
end Go.Ev.Try

namespace Go.Ev.Try
open Go.Proofs Go.Pl
set_option linter.unusedVariables false
noncomputable section
def laws_eqCue.con : Con := { ps := [(.val, (.pair (.int .i64) (.pair (.int .i64) (.pair .str (.int .i64))))), (.val, (.pair (.int .i64) (.pair (.int .i64) (.pair .str (.int .i64)))))], rs := [(.val, .bool)], F := fun x => laws_eqCue.f x.1 x.2 }
def laws_eqCue.cs : List (FuncId × Con) := []
def laws_eqCue.E : Env := envOf tab laws_eqCue.cs 0 false
def laws_eqCue.keep (i : Nat) : List Nat := []
set_option maxRecDepth 100000 in
theorem laws_eqCue.body (n : Nat) (x : (Int × Int × ByteArray × Int) × Int × Int × ByteArray × Int) : bodyF laws_eqCue.E laws_eqCue.keep n Try.f166 laws_eqCue.con x = laws_eqCue.fn n x.1 x.2 := by
  have h : bodyF laws_eqCue.E laws_eqCue.keep n Try.f166 laws_eqCue.con x = laws_eqCue.top x.1 x.2 := by kernel_rfl
  exact h
set_option maxRecDepth 100000 in
theorem laws_eqCue.good : Good Try.prog 166 laws_eqCue.con :=
  good_of tabok (cs := laws_eqCue.cs) trivial 0 false (fn := Try.f166) Try.func166 rfl (by decide) (by simp [laws_eqCue.con]) laws_eqCue.keep NN (fun _ => rfl) (fun x => laws_eqCue.body NN x)
end
end Go.Ev.Try

namespace Go.Ev.Try
open Go.Proofs Go.Pl
set_option linter.unusedVariables false
noncomputable section
def laws_eqCueS.st4 (a0 : List (Int × Int × ByteArray × Int)) (b1 : List (Int × Int × ByteArray × Int)) (i5 : Int) : St := ⟨[.dat (.sl 73 (.pair (.int .i64) (.pair (.int .i64) (.pair .str (.int .i64))))) a0, .dat (.sl 73 (.pair (.int .i64) (.pair (.int .i64) (.pair .str (.int .i64))))) b1, .gone, .gone, .gone, .dat (.int .i64) i5, .gone, .gone, .gone, .gone, .gone, .gone, .gone, .gone, .gone, .gone, .gone, .gone, .gone, .gone, .gone, .gone, .gone, .gone, .gone, .gone, .gone], []⟩
def laws_eqCueS.con : Con := { ps := [(.val, (.sl 73 (.pair (.int .i64) (.pair (.int .i64) (.pair .str (.int .i64)))))), (.val, (.sl 73 (.pair (.int .i64) (.pair (.int .i64) (.pair .str (.int .i64))))))], rs := [(.val, .bool)], F := fun x => laws_eqCueS.f x.1 x.2 }
def laws_eqCueS.cs : List (FuncId × Con) := [(166, laws_eqCue.con)]
def laws_eqCueS.E : Env := envOf tab laws_eqCueS.cs 0 false
def laws_eqCueS.keep (i : Nat) : List Nat := if i = 4 then [0, 1, 5] else []
def laws_eqCueS.at4 (n : Nat) (x : (List (Int × Int × ByteArray × Int)) × List (Int × Int × ByteArray × Int)) : Code × (Ex → St → Option (Bool)) := ctx laws_eqCueS.E laws_eqCueS.keep n [.snd, .snd, .fst, .snd, .blk] (codeOf Try.f148) (kEnd laws_eqCueS.E Try.f148 laws_eqCueS.con x)
def laws_eqCueS.LN4 (n : Nat) (x : (List (Int × Int × ByteArray × Int)) × List (Int × Int × ByteArray × Int)) : Nat → St → Option (Bool) := loopN (exec laws_eqCueS.E laws_eqCueS.keep n (bodyOf (laws_eqCueS.at4 n x).1)) (St.norm 0 (laws_eqCueS.keep 4)) (laws_eqCueS.at4 n x).2
set_option maxRecDepth 100000 in
theorem laws_eqCueS.lem4 (n : Nat) (x : (List (Int × Int × ByteArray × Int)) × List (Int × Int × ByteArray × Int)) : ∀ (k : Nat) (a0 : List (Int × Int × ByteArray × Int)) (b1 : List (Int × Int × ByteArray × Int)) (i5 : Int), laws_eqCueS.LN4 n x k (laws_eqCueS.st4 a0 b1 i5) = laws_eqCueS.l4 n k a0 b1 i5 := by
  intro k
  induction k with
  | zero => intro a0 b1 i5; rfl
  | succ k ih =>
    intro a0 b1 i5
    have h : laws_eqCueS.LN4 n x (k + 1) (laws_eqCueS.st4 a0 b1 i5) = laws_eqCueS.g4 (fun a0 b1 i5 => laws_eqCueS.LN4 n x k (laws_eqCueS.st4 a0 b1 i5)) a0 b1 i5 := by kernel_rfl
    rw [h]
    simp only [ih]
    rfl
set_option maxRecDepth 100000 in
theorem laws_eqCueS.body (n : Nat) (x : (List (Int × Int × ByteArray × Int)) × List (Int × Int × ByteArray × Int)) : bodyF laws_eqCueS.E laws_eqCueS.keep n Try.f148 laws_eqCueS.con x = laws_eqCueS.fn n x.1 x.2 := by
  have h : bodyF laws_eqCueS.E laws_eqCueS.keep n Try.f148 laws_eqCueS.con x = laws_eqCueS.top (fun a0 b1 i5 => laws_eqCueS.LN4 n x n (laws_eqCueS.st4 a0 b1 i5)) x.1 x.2 := by kernel_rfl
  rw [h]
  simp only [laws_eqCueS.lem4]
  rfl
set_option maxRecDepth 100000 in
theorem laws_eqCueS.good : Good Try.prog 148 laws_eqCueS.con :=
  good_of tabok (cs := laws_eqCueS.cs) ⟨laws_eqCue.good, trivial⟩ 0 false (fn := Try.f148) Try.func148 rfl (by decide) (by simp [laws_eqCueS.con]) laws_eqCueS.keep NN (fun _ => rfl) (fun x => laws_eqCueS.body NN x)
end
end Go.Ev.Try

namespace Go.Ev.Try
open Go.Proofs Go.Pl
set_option linter.unusedVariables false
noncomputable section
def laws_intactCueS.con : Con := { ps := [(.val, (.slb 73 (.pair (.int .i64) (.pair (.int .i64) (.pair .str (.int .i64)))))), (.val, (.slb 73 (.pair (.int .i64) (.pair (.int .i64) (.pair .str (.int .i64))))))], rs := [(.val, .bool)], F := fun x => laws_intactCueS.f x.1 x.2 }
def laws_intactCueS.cs : List (FuncId × Con) := [(64, laws_roomBehind.con), (148, laws_eqCueS.con)]
def laws_intactCueS.E : Env := envOf tab laws_intactCueS.cs 0 false
def laws_intactCueS.keep (i : Nat) : List Nat := []
set_option maxRecDepth 100000 in
theorem laws_intactCueS.body (n : Nat) (x : (List (Int × Int × ByteArray × Int) × List (Int × Int × ByteArray × Int)) × List (Int × Int × ByteArray × Int) × List (Int × Int × ByteArray × Int)) : bodyF laws_intactCueS.E laws_intactCueS.keep n Try.f98 laws_intactCueS.con x = laws_intactCueS.fn n x.1 x.2 := by
  have h : bodyF laws_intactCueS.E laws_intactCueS.keep n Try.f98 laws_intactCueS.con x = laws_intactCueS.top x.1 x.2 := by kernel_rfl
  exact h
set_option maxRecDepth 100000 in
theorem laws_intactCueS.good : Good Try.prog 98 laws_intactCueS.con :=
  good_of tabok (cs := laws_intactCueS.cs) ⟨laws_roomBehind.good, laws_eqCueS.good, trivial⟩ 0 false (fn := Try.f98) Try.func98 rfl (by decide) (by simp [laws_intactCueS.con]) laws_intactCueS.keep NN (fun _ => rfl) (fun x => laws_intactCueS.body NN x)
end
end Go.Ev.Try

namespace Go.Ev.Try
open Go.Proofs Go.Pl
set_option linter.unusedVariables false
noncomputable section
def laws_intactShow.con : Con := { ps := [(.val, (.pair (.slb 188 (.pair (.int .i64) (.int .i64))) (.pair (.slb 75 (.pair .str (.pair (.int .i64) (.pair (.int .i64) (.pair (.int .i64) (.pair (.int .i64) (.pair (.int .i64) (.pair (.int .i64) (.pair (.int .i64) (.int .i64)))))))))) (.slb 73 (.pair (.int .i64) (.pair (.int .i64) (.pair .str (.int .i64)))))))), (.val, (.pair (.slb 188 (.pair (.int .i64) (.int .i64))) (.pair (.slb 75 (.pair .str (.pair (.int .i64) (.pair (.int .i64) (.pair (.int .i64) (.pair (.int .i64) (.pair (.int .i64) (.pair (.int .i64) (.pair (.int .i64) (.int .i64)))))))))) (.slb 73 (.pair (.int .i64) (.pair (.int .i64) (.pair .str (.int .i64))))))))], rs := [(.val, .bool)], F := fun x => laws_intactShow.f x.1 x.2 }
def laws_intactShow.cs : List (FuncId × Con) := [(19, laws_intactArticleS.con), (97, laws_intactBarS.con), (98, laws_intactCueS.con)]
def laws_intactShow.E : Env := envOf tab laws_intactShow.cs 0 false
def laws_intactShow.keep (i : Nat) : List Nat := []
set_option maxRecDepth 100000 in
theorem laws_intactShow.body (n : Nat) (x : ((List (Int × Int) × List (Int × Int)) × (List (ByteArray × Int × Int × Int × Int × Int × Int × Int × Int) × List (ByteArray × Int × Int × Int × Int × Int × Int × Int × Int)) × List (Int × Int × ByteArray × Int) × List (Int × Int × ByteArray × Int)) × (List (Int × Int) × List (Int × Int)) × (List (ByteArray × Int × Int × Int × Int × Int × Int × Int × Int) × List (ByteArray × Int × Int × Int × Int × Int × Int × Int × Int)) × List (Int × Int × ByteArray × Int) × List (Int × Int × ByteArray × Int)) : bodyF laws_intactShow.E laws_intactShow.keep n Try.f41 laws_intactShow.con x = laws_intactShow.fn n x.1 x.2 := by
  have h : bodyF laws_intactShow.E laws_intactShow.keep n Try.f41 laws_intactShow.con x = laws_intactShow.top x.1 x.2 := by kernel_rfl
  exact h
set_option maxRecDepth 100000 in
theorem laws_intactShow.good : Good Try.prog 41 laws_intactShow.con :=
  good_of tabok (cs := laws_intactShow.cs) ⟨laws_intactArticleS.good, laws_intactBarS.good, laws_intactCueS.good, trivial⟩ 0 false (fn := Try.f41) Try.func41 rfl (by decide) (by simp [laws_intactShow.con]) laws_intactShow.keep NN (fun _ => rfl) (fun x => laws_intactShow.body NN x)
end
end Go.Ev.Try

namespace Go.Ev.Try
open Go.Proofs Go.Pl
set_option linter.unusedVariables false
noncomputable section
def laws_eqInt64S.st4 (a0 : List Int) (b1 : List Int) (i5 : Int) : St := ⟨[.dat (.sl 2 (.int .i64)) a0, .dat (.sl 2 (.int .i64)) b1, .gone, .gone, .gone, .dat (.int .i64) i5, .gone, .gone, .gone, .gone, .gone, .gone, .gone, .gone, .gone, .gone, .gone, .gone, .gone, .gone, .gone, .gone, .gone, .gone, .gone, .gone], []⟩
def laws_eqInt64S.con : Con := { ps := [(.val, (.sl 2 (.int .i64))), (.val, (.sl 2 (.int .i64)))], rs := [(.val, .bool)], F := fun x => laws_eqInt64S.f x.1 x.2 }
def laws_eqInt64S.cs : List (FuncId × Con) := []
def laws_eqInt64S.E : Env := envOf tab laws_eqInt64S.cs 0 false
def laws_eqInt64S.keep (i : Nat) : List Nat := if i = 4 then [0, 1, 5] else []
def laws_eqInt64S.at4 (n : Nat) (x : List Int × List Int) : Code × (Ex → St → Option (Bool)) := ctx laws_eqInt64S.E laws_eqInt64S.keep n [.snd, .snd, .fst, .snd, .blk] (codeOf Try.f99) (kEnd laws_eqInt64S.E Try.f99 laws_eqInt64S.con x)
def laws_eqInt64S.LN4 (n : Nat) (x : List Int × List Int) : Nat → St → Option (Bool) := loopN (exec laws_eqInt64S.E laws_eqInt64S.keep n (bodyOf (laws_eqInt64S.at4 n x).1)) (St.norm 0 (laws_eqInt64S.keep 4)) (laws_eqInt64S.at4 n x).2
set_option maxRecDepth 100000 in
theorem laws_eqInt64S.lem4 (n : Nat) (x : List Int × List Int) : ∀ (k : Nat) (a0 : List Int) (b1 : List Int) (i5 : Int), laws_eqInt64S.LN4 n x k (laws_eqInt64S.st4 a0 b1 i5) = laws_eqInt64S.l4 n k a0 b1 i5 := by
  intro k
  induction k with
  | zero => intro a0 b1 i5; rfl
  | succ k ih =>
    intro a0 b1 i5
    have h : laws_eqInt64S.LN4 n x (k + 1) (laws_eqInt64S.st4 a0 b1 i5) = laws_eqInt64S.g4 (fun a0 b1 i5 => laws_eqInt64S.LN4 n x k (laws_eqInt64S.st4 a0 b1 i5)) a0 b1 i5 := by kernel_rfl
    rw [h]
    simp only [ih]
    rfl
set_option maxRecDepth 100000 in
theorem laws_eqInt64S.body (n : Nat) (x : List Int × List Int) : bodyF laws_eqInt64S.E laws_eqInt64S.keep n Try.f99 laws_eqInt64S.con x = laws_eqInt64S.fn n x.1 x.2 := by
  have h : bodyF laws_eqInt64S.E laws_eqInt64S.keep n Try.f99 laws_eqInt64S.con x = laws_eqInt64S.top (fun a0 b1 i5 => laws_eqInt64S.LN4 n x n (laws_eqInt64S.st4 a0 b1 i5)) x.1 x.2 := by kernel_rfl
  rw [h]
  simp only [laws_eqInt64S.lem4]
  rfl
set_option maxRecDepth 100000 in
theorem laws_eqInt64S.good : Good Try.prog 99 laws_eqInt64S.con :=
  good_of tabok (cs := laws_eqInt64S.cs) trivial 0 false (fn := Try.f99) Try.func99 rfl (by decide) (by simp [laws_eqInt64S.con]) laws_eqInt64S.keep NN (fun _ => rfl) (fun x => laws_eqInt64S.body NN x)
end
end Go.Ev.Try

namespace Go.Ev.Try
open Go.Proofs Go.Pl
set_option linter.unusedVariables false
noncomputable section
def laws_intactInt64S.con : Con := { ps := [(.val, (.slb 2 (.int .i64))), (.val, (.slb 2 (.int .i64)))], rs := [(.val, .bool)], F := fun x => laws_intactInt64S.f x.1 x.2 }
def laws_intactInt64S.cs : List (FuncId × Con) := [(64, laws_roomBehind.con), (99, laws_eqInt64S.con)]
def laws_intactInt64S.E : Env := envOf tab laws_intactInt64S.cs 0 false
def laws_intactInt64S.keep (i : Nat) : List Nat := []
set_option maxRecDepth 100000 in
theorem laws_intactInt64S.body (n : Nat) (x : (List Int × List Int) × List Int × List Int) : bodyF laws_intactInt64S.E laws_intactInt64S.keep n Try.f42 laws_intactInt64S.con x = laws_intactInt64S.fn n x.1 x.2 := by
  have h : bodyF laws_intactInt64S.E laws_intactInt64S.keep n Try.f42 laws_intactInt64S.con x = laws_intactInt64S.top x.1 x.2 := by kernel_rfl
  exact h
set_option maxRecDepth 100000 in
theorem laws_intactInt64S.good : Good Try.prog 42 laws_intactInt64S.con :=
  good_of tabok (cs := laws_intactInt64S.cs) ⟨laws_roomBehind.good, laws_eqInt64S.good, trivial⟩ 0 false (fn := Try.f42) Try.func42 rfl (by decide) (by simp [laws_intactInt64S.con]) laws_intactInt64S.keep NN (fun _ => rfl) (fun x => laws_intactInt64S.body NN x)
end
end Go.Ev.Try

namespace Go.Ev.Try
open Go.Proofs Go.Pl
set_option linter.unusedVariables false
noncomputable section
def laws_markText.st4 (k0 : Int) (out3 : ByteArray) : St := ⟨[.dat (.int .i64) k0, .gone, .gone, .dat .str out3, .gone, .gone, .gone, .gone, .gone, .gone, .gone, .gone, .gone, .gone, .gone, .gone, .gone, .gone, .gone, .gone], []⟩
def laws_markText.con : Con := { ps := [(.val, (.int .i64))], rs := [(.val, .str)], F := fun x => laws_markText.f x }
def laws_markText.cs : List (FuncId × Con) := []
def laws_markText.E : Env := envOf tab laws_markText.cs 0 false
def laws_markText.keep (i : Nat) : List Nat := if i = 4 then [0, 3] else []
def laws_markText.at4 (n : Nat) (x : Int) : Code × (Ex → St → Option (ByteArray)) := ctx laws_markText.E laws_markText.keep n [.snd, .snd, .snd, .fst, .blk] (codeOf Try.f74) (kEnd laws_markText.E Try.f74 laws_markText.con x)
def laws_markText.LN4 (n : Nat) (x : Int) : Nat → St → Option (ByteArray) := loopN (exec laws_markText.E laws_markText.keep n (bodyOf (laws_markText.at4 n x).1)) (St.norm 0 (laws_markText.keep 4)) (laws_markText.at4 n x).2
set_option maxRecDepth 100000 in
theorem laws_markText.lem4 (n : Nat) (x : Int) : ∀ (k : Nat) (k0 : Int) (out3 : ByteArray), laws_markText.LN4 n x k (laws_markText.st4 k0 out3) = laws_markText.l4 n k k0 out3 := by
  intro k
  induction k with
  | zero => intro k0 out3; rfl
  | succ k ih =>
    intro k0 out3
    have h : laws_markText.LN4 n x (k + 1) (laws_markText.st4 k0 out3) = laws_markText.g4 (fun k0 out3 => laws_markText.LN4 n x k (laws_markText.st4 k0 out3)) k0 out3 := by kernel_rfl
    rw [h]
    simp only [ih]
    rfl
set_option maxRecDepth 100000 in
theorem laws_markText.body (n : Nat) (x : Int) : bodyF laws_markText.E laws_markText.keep n Try.f74 laws_markText.con x = laws_markText.fn n x := by
  have h : bodyF laws_markText.E laws_markText.keep n Try.f74 laws_markText.con x = laws_markText.top (fun k0 out3 => laws_markText.LN4 n x n (laws_markText.st4 k0 out3)) x := by kernel_rfl
  rw [h]
  simp only [laws_markText.lem4]
  rfl
set_option maxRecDepth 100000 in
theorem laws_markText.good : Good Try.prog 74 laws_markText.con :=
  good_of tabok (cs := laws_markText.cs) trivial 0 false (fn := Try.f74) Try.func74 rfl (by decide) (by simp [laws_markText.con]) laws_markText.keep NN (fun _ => rfl) (fun x => laws_markText.body NN x)
end
end Go.Ev.Try

namespace Go.Ev.Try
open Go.Proofs Go.Pl
set_option linter.unusedVariables false
noncomputable section
def laws_markBookingS.st2 (k1 : Int) (i5 : Int) (a0 : List (Int × ByteArray × Int)) : St := ⟨[.ref 0, .dat (.int .i64) k1, .gone, .gone, .gone, .dat (.int .i64) i5, .gone, .gone, .gone, .gone, .gone, .gone, .gone, .gone, .gone, .gone, .gone, .gone, .gone, .gone, .gone, .gone, .gone, .gone, .gone, .gone, .gone, .gone, .gone, .gone, .gone, .gone, .gone, .gone, .gone], [.row 127 (.pair (.int .i64) (.pair .str (.int .i64))) a0 none]⟩
def laws_markBookingS.con : Con := { ps := [(.own, (.sl 127 (.pair (.int .i64) (.pair .str (.int .i64))))), (.val, (.int .i64))], rs := [(.val, (.int .i64))], F := fun x => laws_markBookingS.f x.1 x.2 }
def laws_markBookingS.cs : List (FuncId × Con) := [(74, laws_markText.con)]
def laws_markBookingS.E : Env := envOf tab laws_markBookingS.cs 1 false
def laws_markBookingS.keep (i : Nat) : List Nat := if i = 2 then [0, 1, 5] else []
def laws_markBookingS.at2 (n : Nat) (x : (List (Int × ByteArray × Int)) × Int) : Code × (Ex → St → Option ((Int × List (Int × ByteArray × Int)))) := ctx laws_markBookingS.E laws_markBookingS.keep n [.snd, .fst, .snd, .blk] (codeOf Try.f43) (kEnd laws_markBookingS.E Try.f43 laws_markBookingS.con x)
def laws_markBookingS.LN2 (n : Nat) (x : (List (Int × ByteArray × Int)) × Int) : Nat → St → Option ((Int × List (Int × ByteArray × Int))) := loopN (exec laws_markBookingS.E laws_markBookingS.keep n (bodyOf (laws_markBookingS.at2 n x).1)) (St.norm 1 (laws_markBookingS.keep 2)) (laws_markBookingS.at2 n x).2
set_option maxRecDepth 100000 in
theorem laws_markBookingS.lem2 (n : Nat) (x : (List (Int × ByteArray × Int)) × Int) : ∀ (k : Nat) (k1 : Int) (i5 : Int) (a0 : List (Int × ByteArray × Int)), laws_markBookingS.LN2 n x k (laws_markBookingS.st2 k1 i5 a0) = laws_markBookingS.l2 n k k1 i5 a0 := by
  intro k
  induction k with
  | zero => intro k1 i5 a0; rfl
  | succ k ih =>
    intro k1 i5 a0
    have h : laws_markBookingS.LN2 n x (k + 1) (laws_markBookingS.st2 k1 i5 a0) = laws_markBookingS.g2 (fun k1 i5 a0 => laws_markBookingS.LN2 n x k (laws_markBookingS.st2 k1 i5 a0)) k1 i5 a0 := by kernel_rfl
    rw [h]
    simp only [ih]
    rfl
set_option maxRecDepth 100000 in
theorem laws_markBookingS.body (n : Nat) (x : (List (Int × ByteArray × Int)) × Int) : bodyF laws_markBookingS.E laws_markBookingS.keep n Try.f43 laws_markBookingS.con x = laws_markBookingS.fn n x.1 x.2 := by
  have h : bodyF laws_markBookingS.E laws_markBookingS.keep n Try.f43 laws_markBookingS.con x = laws_markBookingS.top (fun k1 i5 a0 => laws_markBookingS.LN2 n x n (laws_markBookingS.st2 k1 i5 a0)) x.1 x.2 := by kernel_rfl
  rw [h]
  simp only [laws_markBookingS.lem2]
  rfl
set_option maxRecDepth 100000 in
theorem laws_markBookingS.good : Good Try.prog 43 laws_markBookingS.con :=
  good_of tabok (cs := laws_markBookingS.cs) ⟨laws_markText.good, trivial⟩ 1 false (fn := Try.f43) Try.func43 rfl (by decide) (by simp [laws_markBookingS.con]) laws_markBookingS.keep NN (fun _ => rfl) (fun x => laws_markBookingS.body NN x)
end
end Go.Ev.Try

namespace Go.Ev.Try
open Go.Proofs Go.Pl
set_option linter.unusedVariables false
noncomputable section
def laws_markArticleS.st2 (k1 : Int) (i5 : Int) (a0 : List (ByteArray × Int × Int × Int × Int × Int × Int × Int × Int)) : St := ⟨[.ref 0, .dat (.int .i64) k1, .gone, .gone, .gone, .dat (.int .i64) i5, .gone, .gone, .gone, .gone, .gone, .gone, .gone, .gone, .gone, .gone, .gone, .gone, .gone, .gone, .gone, .gone, .gone, .gone, .gone, .gone, .gone, .gone, .gone, .gone, .gone, .gone, .gone, .gone, .gone, .gone, .gone, .gone, .gone, .gone, .gone, .gone, .gone, .gone, .gone, .gone, .gone, .gone, .gone, .gone, .gone, .gone, .gone, .gone, .gone, .gone, .gone, .gone, .gone, .gone, .gone, .gone, .gone, .gone, .gone, .gone, .gone, .gone, .gone, .gone, .gone, .gone, .gone, .gone, .gone, .gone, .gone], [.row 75 (.pair .str (.pair (.int .i64) (.pair (.int .i64) (.pair (.int .i64) (.pair (.int .i64) (.pair (.int .i64) (.pair (.int .i64) (.pair (.int .i64) (.int .i64))))))))) a0 none]⟩
def laws_markArticleS.con : Con := { ps := [(.own, (.sl 75 (.pair .str (.pair (.int .i64) (.pair (.int .i64) (.pair (.int .i64) (.pair (.int .i64) (.pair (.int .i64) (.pair (.int .i64) (.pair (.int .i64) (.int .i64))))))))))), (.val, (.int .i64))], rs := [(.val, (.int .i64))], F := fun x => laws_markArticleS.f x.1 x.2 }
def laws_markArticleS.cs : List (FuncId × Con) := [(74, laws_markText.con)]
def laws_markArticleS.E : Env := envOf tab laws_markArticleS.cs 1 false
def laws_markArticleS.keep (i : Nat) : List Nat := if i = 2 then [0, 1, 5] else []
def laws_markArticleS.at2 (n : Nat) (x : (List (ByteArray × Int × Int × Int × Int × Int × Int × Int × Int)) × Int) : Code × (Ex → St → Option ((Int × List (ByteArray × Int × Int × Int × Int × Int × Int × Int × Int)))) := ctx laws_markArticleS.E laws_markArticleS.keep n [.snd, .fst, .snd, .blk] (codeOf Try.f21) (kEnd laws_markArticleS.E Try.f21 laws_markArticleS.con x)
def laws_markArticleS.LN2 (n : Nat) (x : (List (ByteArray × Int × Int × Int × Int × Int × Int × Int × Int)) × Int) : Nat → St → Option ((Int × List (ByteArray × Int × Int × Int × Int × Int × Int × Int × Int))) := loopN (exec laws_markArticleS.E laws_markArticleS.keep n (bodyOf (laws_markArticleS.at2 n x).1)) (St.norm 1 (laws_markArticleS.keep 2)) (laws_markArticleS.at2 n x).2
set_option maxRecDepth 100000 in
theorem laws_markArticleS.lem2 (n : Nat) (x : (List (ByteArray × Int × Int × Int × Int × Int × Int × Int × Int)) × Int) : ∀ (k : Nat) (k1 : Int) (i5 : Int) (a0 : List (ByteArray × Int × Int × Int × Int × Int × Int × Int × Int)), laws_markArticleS.LN2 n x k (laws_markArticleS.st2 k1 i5 a0) = laws_markArticleS.l2 n k k1 i5 a0 := by
  intro k
  induction k with
  | zero => intro k1 i5 a0; rfl
  | succ k ih =>
    intro k1 i5 a0
    have h : laws_markArticleS.LN2 n x (k + 1) (laws_markArticleS.st2 k1 i5 a0) = laws_markArticleS.g2 (fun k1 i5 a0 => laws_markArticleS.LN2 n x k (laws_markArticleS.st2 k1 i5 a0)) k1 i5 a0 := by kernel_rfl
    rw [h]
    simp only [ih]
    rfl
set_option maxRecDepth 100000 in
theorem laws_markArticleS.body (n : Nat) (x : (List (ByteArray × Int × Int × Int × Int × Int × Int × Int × Int)) × Int) : bodyF laws_markArticleS.E laws_markArticleS.keep n Try.f21 laws_markArticleS.con x = laws_markArticleS.fn n x.1 x.2 := by
  have h : bodyF laws_markArticleS.E laws_markArticleS.keep n Try.f21 laws_markArticleS.con x = laws_markArticleS.top (fun k1 i5 a0 => laws_markArticleS.LN2 n x n (laws_markArticleS.st2 k1 i5 a0)) x.1 x.2 := by kernel_rfl
  rw [h]
  simp only [laws_markArticleS.lem2]
  rfl
set_option maxRecDepth 100000 in
theorem laws_markArticleS.good : Good Try.prog 21 laws_markArticleS.con :=
  good_of tabok (cs := laws_markArticleS.cs) ⟨laws_markText.good, trivial⟩ 1 false (fn := Try.f21) Try.func21 rfl (by decide) (by simp [laws_markArticleS.con]) laws_markArticleS.keep NN (fun _ => rfl) (fun x => laws_markArticleS.body NN x)
end
end Go.Ev.Try

namespace Go.Ev.Try
open Go.Proofs Go.Pl
set_option linter.unusedVariables false
noncomputable section
def laws_markBarS.st2 (k1 : Int) (i5 : Int) (a0 : List (Int × Int)) : St := ⟨[.ref 0, .dat (.int .i64) k1, .gone, .gone, .gone, .dat (.int .i64) i5, .gone, .gone, .gone, .gone, .gone, .gone, .gone, .gone, .gone, .gone, .gone, .gone, .gone, .gone, .gone, .gone, .gone, .gone, .gone, .gone, .gone], [.row 188 (.pair (.int .i64) (.int .i64)) a0 none]⟩
def laws_markBarS.con : Con := { ps := [(.own, (.sl 188 (.pair (.int .i64) (.int .i64)))), (.val, (.int .i64))], rs := [(.val, (.int .i64))], F := fun x => laws_markBarS.f x.1 x.2 }
def laws_markBarS.cs : List (FuncId × Con) := []
def laws_markBarS.E : Env := envOf tab laws_markBarS.cs 1 false
def laws_markBarS.keep (i : Nat) : List Nat := if i = 2 then [0, 1, 5] else []
def laws_markBarS.at2 (n : Nat) (x : (List (Int × Int)) × Int) : Code × (Ex → St → Option ((Int × List (Int × Int)))) := ctx laws_markBarS.E laws_markBarS.keep n [.snd, .fst, .snd, .blk] (codeOf Try.f100) (kEnd laws_markBarS.E Try.f100 laws_markBarS.con x)
def laws_markBarS.LN2 (n : Nat) (x : (List (Int × Int)) × Int) : Nat → St → Option ((Int × List (Int × Int))) := loopN (exec laws_markBarS.E laws_markBarS.keep n (bodyOf (laws_markBarS.at2 n x).1)) (St.norm 1 (laws_markBarS.keep 2)) (laws_markBarS.at2 n x).2
set_option maxRecDepth 100000 in
theorem laws_markBarS.lem2 (n : Nat) (x : (List (Int × Int)) × Int) : ∀ (k : Nat) (k1 : Int) (i5 : Int) (a0 : List (Int × Int)), laws_markBarS.LN2 n x k (laws_markBarS.st2 k1 i5 a0) = laws_markBarS.l2 n k k1 i5 a0 := by
  intro k
  induction k with
  | zero => intro k1 i5 a0; rfl
  | succ k ih =>
    intro k1 i5 a0
    have h : laws_markBarS.LN2 n x (k + 1) (laws_markBarS.st2 k1 i5 a0) = laws_markBarS.g2 (fun k1 i5 a0 => laws_markBarS.LN2 n x k (laws_markBarS.st2 k1 i5 a0)) k1 i5 a0 := by kernel_rfl
    rw [h]
    simp only [ih]
    rfl
set_option maxRecDepth 100000 in
theorem laws_markBarS.body (n : Nat) (x : (List (Int × Int)) × Int) : bodyF laws_markBarS.E laws_markBarS.keep n Try.f100 laws_markBarS.con x = laws_markBarS.fn n x.1 x.2 := by
  have h : bodyF laws_markBarS.E laws_markBarS.keep n Try.f100 laws_markBarS.con x = laws_markBarS.top (fun k1 i5 a0 => laws_markBarS.LN2 n x n (laws_markBarS.st2 k1 i5 a0)) x.1 x.2 := by kernel_rfl
  rw [h]
  simp only [laws_markBarS.lem2]
  rfl
set_option maxRecDepth 100000 in
theorem laws_markBarS.good : Good Try.prog 100 laws_markBarS.con :=
  good_of tabok (cs := laws_markBarS.cs) trivial 1 false (fn := Try.f100) Try.func100 rfl (by decide) (by simp [laws_markBarS.con]) laws_markBarS.keep NN (fun _ => rfl) (fun x => laws_markBarS.body NN x)
end
end Go.Ev.Try

namespace Go.Ev.Try
open Go.Proofs Go.Pl
set_option linter.unusedVariables false
noncomputable section
def laws_markCueS.st2 (k1 : Int) (i5 : Int) (a0 : List (Int × Int × ByteArray × Int)) : St := ⟨[.ref 0, .dat (.int .i64) k1, .gone, .gone, .gone, .dat (.int .i64) i5, .gone, .gone, .gone, .gone, .gone, .gone, .gone, .gone, .gone, .gone, .gone, .gone, .gone, .gone, .gone, .gone, .gone, .gone, .gone, .gone, .gone, .gone, .gone, .gone, .gone, .gone, .gone, .gone, .gone, .gone, .gone, .gone, .gone, .gone, .gone, .gone], [.row 73 (.pair (.int .i64) (.pair (.int .i64) (.pair .str (.int .i64)))) a0 none]⟩
def laws_markCueS.con : Con := { ps := [(.own, (.sl 73 (.pair (.int .i64) (.pair (.int .i64) (.pair .str (.int .i64)))))), (.val, (.int .i64))], rs := [(.val, (.int .i64))], F := fun x => laws_markCueS.f x.1 x.2 }
def laws_markCueS.cs : List (FuncId × Con) := [(74, laws_markText.con)]
def laws_markCueS.E : Env := envOf tab laws_markCueS.cs 1 false
def laws_markCueS.keep (i : Nat) : List Nat := if i = 2 then [0, 1, 5] else []
def laws_markCueS.at2 (n : Nat) (x : (List (Int × Int × ByteArray × Int)) × Int) : Code × (Ex → St → Option ((Int × List (Int × Int × ByteArray × Int)))) := ctx laws_markCueS.E laws_markCueS.keep n [.snd, .fst, .snd, .blk] (codeOf Try.f101) (kEnd laws_markCueS.E Try.f101 laws_markCueS.con x)
def laws_markCueS.LN2 (n : Nat) (x : (List (Int × Int × ByteArray × Int)) × Int) : Nat → St → Option ((Int × List (Int × Int × ByteArray × Int))) := loopN (exec laws_markCueS.E laws_markCueS.keep n (bodyOf (laws_markCueS.at2 n x).1)) (St.norm 1 (laws_markCueS.keep 2)) (laws_markCueS.at2 n x).2
set_option maxRecDepth 100000 in
theorem laws_markCueS.lem2 (n : Nat) (x : (List (Int × Int × ByteArray × Int)) × Int) : ∀ (k : Nat) (k1 : Int) (i5 : Int) (a0 : List (Int × Int × ByteArray × Int)), laws_markCueS.LN2 n x k (laws_markCueS.st2 k1 i5 a0) = laws_markCueS.l2 n k k1 i5 a0 := by
  intro k
  induction k with
  | zero => intro k1 i5 a0; rfl
  | succ k ih =>
    intro k1 i5 a0
    have h : laws_markCueS.LN2 n x (k + 1) (laws_markCueS.st2 k1 i5 a0) = laws_markCueS.g2 (fun k1 i5 a0 => laws_markCueS.LN2 n x k (laws_markCueS.st2 k1 i5 a0)) k1 i5 a0 := by kernel_rfl
    rw [h]
    simp only [ih]
    rfl
set_option maxRecDepth 100000 in
theorem laws_markCueS.body (n : Nat) (x : (List (Int × Int × ByteArray × Int)) × Int) : bodyF laws_markCueS.E laws_markCueS.keep n Try.f101 laws_markCueS.con x = laws_markCueS.fn n x.1 x.2 := by
  have h : bodyF laws_markCueS.E laws_markCueS.keep n Try.f101 laws_markCueS.con x = laws_markCueS.top (fun k1 i5 a0 => laws_markCueS.LN2 n x n (laws_markCueS.st2 k1 i5 a0)) x.1 x.2 := by kernel_rfl
  rw [h]
  simp only [laws_markCueS.lem2]
  rfl
set_option maxRecDepth 100000 in
theorem laws_markCueS.good : Good Try.prog 101 laws_markCueS.con :=
  good_of tabok (cs := laws_markCueS.cs) ⟨laws_markText.good, trivial⟩ 1 false (fn := Try.f101) Try.func101 rfl (by decide) (by simp [laws_markCueS.con]) laws_markCueS.keep NN (fun _ => rfl) (fun x => laws_markCueS.body NN x)
end
end Go.Ev.Try

namespace Go.Ev.Try
open Go.Proofs Go.Pl
set_option linter.unusedVariables false
noncomputable section
def laws_markShow.con : Con := { ps := [(.own, (.pair (.sl 188 (.pair (.int .i64) (.int .i64))) (.pair (.sl 75 (.pair .str (.pair (.int .i64) (.pair (.int .i64) (.pair (.int .i64) (.pair (.int .i64) (.pair (.int .i64) (.pair (.int .i64) (.pair (.int .i64) (.int .i64)))))))))) (.sl 73 (.pair (.int .i64) (.pair (.int .i64) (.pair .str (.int .i64)))))))), (.val, (.int .i64))], rs := [(.val, (.int .i64))], F := fun x => laws_markShow.f x.1 x.2 }
def laws_markShow.cs : List (FuncId × Con) := [(21, laws_markArticleS.con), (100, laws_markBarS.con), (101, laws_markCueS.con)]
def laws_markShow.E : Env := envOf tab laws_markShow.cs 3 false
def laws_markShow.keep (i : Nat) : List Nat := []
set_option maxRecDepth 100000 in
theorem laws_markShow.body (n : Nat) (x : ((List (Int × Int)) × (List (ByteArray × Int × Int × Int × Int × Int × Int × Int × Int)) × List (Int × Int × ByteArray × Int)) × Int) : bodyF laws_markShow.E laws_markShow.keep n Try.f44 laws_markShow.con x = laws_markShow.fn n x.1 x.2 := by
  have h : bodyF laws_markShow.E laws_markShow.keep n Try.f44 laws_markShow.con x = laws_markShow.top x.1 x.2 := by kernel_rfl
  exact h
set_option maxRecDepth 100000 in
theorem laws_markShow.good : Good Try.prog 44 laws_markShow.con :=
  good_of tabok (cs := laws_markShow.cs) ⟨laws_markArticleS.good, laws_markBarS.good, laws_markCueS.good, trivial⟩ 3 false (fn := Try.f44) Try.func44 rfl (by decide) (by simp [laws_markShow.con]) laws_markShow.keep NN (fun _ => rfl) (fun x => laws_markShow.body NN x)
end
end Go.Ev.Try

namespace Go.Ev.Try
open Go.Proofs Go.Pl
set_option linter.unusedVariables false
noncomputable section
def laws_markInt64S.st2 (k1 : Int) (i5 : Int) (a0 : List Int) : St := ⟨[.ref 0, .dat (.int .i64) k1, .gone, .gone, .gone, .dat (.int .i64) i5, .gone, .gone, .gone, .gone, .gone, .gone, .gone, .gone, .gone, .gone, .gone, .gone, .gone], [.row 2 (.int .i64) a0 none]⟩
def laws_markInt64S.con : Con := { ps := [(.own, (.sl 2 (.int .i64))), (.val, (.int .i64))], rs := [(.val, (.int .i64))], F := fun x => laws_markInt64S.f x.1 x.2 }
def laws_markInt64S.cs : List (FuncId × Con) := []
def laws_markInt64S.E : Env := envOf tab laws_markInt64S.cs 1 false
def laws_markInt64S.keep (i : Nat) : List Nat := if i = 2 then [0, 1, 5] else []
def laws_markInt64S.at2 (n : Nat) (x : List Int × Int) : Code × (Ex → St → Option ((Int × List Int))) := ctx laws_markInt64S.E laws_markInt64S.keep n [.snd, .fst, .snd, .blk] (codeOf Try.f45) (kEnd laws_markInt64S.E Try.f45 laws_markInt64S.con x)
def laws_markInt64S.LN2 (n : Nat) (x : List Int × Int) : Nat → St → Option ((Int × List Int)) := loopN (exec laws_markInt64S.E laws_markInt64S.keep n (bodyOf (laws_markInt64S.at2 n x).1)) (St.norm 1 (laws_markInt64S.keep 2)) (laws_markInt64S.at2 n x).2
set_option maxRecDepth 100000 in
theorem laws_markInt64S.lem2 (n : Nat) (x : List Int × Int) : ∀ (k : Nat) (k1 : Int) (i5 : Int) (a0 : List Int), laws_markInt64S.LN2 n x k (laws_markInt64S.st2 k1 i5 a0) = laws_markInt64S.l2 n k k1 i5 a0 := by
  intro k
  induction k with
  | zero => intro k1 i5 a0; rfl
  | succ k ih =>
    intro k1 i5 a0
    have h : laws_markInt64S.LN2 n x (k + 1) (laws_markInt64S.st2 k1 i5 a0) = laws_markInt64S.g2 (fun k1 i5 a0 => laws_markInt64S.LN2 n x k (laws_markInt64S.st2 k1 i5 a0)) k1 i5 a0 := by kernel_rfl
    rw [h]
    simp only [ih]
    rfl
set_option maxRecDepth 100000 in
theorem laws_markInt64S.body (n : Nat) (x : List Int × Int) : bodyF laws_markInt64S.E laws_markInt64S.keep n Try.f45 laws_markInt64S.con x = laws_markInt64S.fn n x.1 x.2 := by
  have h : bodyF laws_markInt64S.E laws_markInt64S.keep n Try.f45 laws_markInt64S.con x = laws_markInt64S.top (fun k1 i5 a0 => laws_markInt64S.LN2 n x n (laws_markInt64S.st2 k1 i5 a0)) x.1 x.2 := by kernel_rfl
  rw [h]
  simp only [laws_markInt64S.lem2]
  rfl
set_option maxRecDepth 100000 in
theorem laws_markInt64S.good : Good Try.prog 45 laws_markInt64S.con :=
  good_of tabok (cs := laws_markInt64S.cs) trivial 1 false (fn := Try.f45) Try.func45 rfl (by decide) (by simp [laws_markInt64S.con]) laws_markInt64S.keep NN (fun _ => rfl) (fun x => laws_markInt64S.body NN x)
end
end Go.Ev.Try

namespace Go.Ev.Try
open Go.Proofs Go.Pl
set_option linter.unusedVariables false
noncomputable section
def laws_heldBookingS.st2 (a0 : List (Int × ByteArray × Int)) (k1 : Int) (i5 : Int) : St := ⟨[.dat (.sl 127 (.pair (.int .i64) (.pair .str (.int .i64)))) a0, .dat (.int .i64) k1, .gone, .gone, .gone, .dat (.int .i64) i5, .gone, .gone, .gone, .gone, .gone, .gone, .gone, .gone, .gone, .gone, .gone, .gone, .gone, .gone, .gone, .gone, .gone, .gone, .gone, .gone, .gone, .gone, .gone, .gone, .gone, .gone, .gone, .gone, .gone, .gone, .gone, .gone, .gone, .gone, .gone], []⟩
def laws_heldBookingS.con : Con := { ps := [(.val, (.sl 127 (.pair (.int .i64) (.pair .str (.int .i64))))), (.val, (.int .i64))], rs := [(.val, (.int .i64))], F := fun x => laws_heldBookingS.f x.1 x.2 }
def laws_heldBookingS.cs : List (FuncId × Con) := [(74, laws_markText.con)]
def laws_heldBookingS.E : Env := envOf tab laws_heldBookingS.cs 0 false
def laws_heldBookingS.keep (i : Nat) : List Nat := if i = 2 then [0, 1, 5] else []
def laws_heldBookingS.at2 (n : Nat) (x : (List (Int × ByteArray × Int)) × Int) : Code × (Ex → St → Option (Int)) := ctx laws_heldBookingS.E laws_heldBookingS.keep n [.snd, .fst, .snd, .blk] (codeOf Try.f46) (kEnd laws_heldBookingS.E Try.f46 laws_heldBookingS.con x)
def laws_heldBookingS.LN2 (n : Nat) (x : (List (Int × ByteArray × Int)) × Int) : Nat → St → Option (Int) := loopN (exec laws_heldBookingS.E laws_heldBookingS.keep n (bodyOf (laws_heldBookingS.at2 n x).1)) (St.norm 0 (laws_heldBookingS.keep 2)) (laws_heldBookingS.at2 n x).2
set_option maxRecDepth 100000 in
theorem laws_heldBookingS.lem2 (n : Nat) (x : (List (Int × ByteArray × Int)) × Int) : ∀ (k : Nat) (a0 : List (Int × ByteArray × Int)) (k1 : Int) (i5 : Int), laws_heldBookingS.LN2 n x k (laws_heldBookingS.st2 a0 k1 i5) = laws_heldBookingS.l2 n k a0 k1 i5 := by
  intro k
  induction k with
  | zero => intro a0 k1 i5; rfl
  | succ k ih =>
    intro a0 k1 i5
    have h : laws_heldBookingS.LN2 n x (k + 1) (laws_heldBookingS.st2 a0 k1 i5) = laws_heldBookingS.g2 (fun a0 k1 i5 => laws_heldBookingS.LN2 n x k (laws_heldBookingS.st2 a0 k1 i5)) a0 k1 i5 := by kernel_rfl
    rw [h]
    simp only [ih]
    rfl
set_option maxRecDepth 100000 in
theorem laws_heldBookingS.body (n : Nat) (x : (List (Int × ByteArray × Int)) × Int) : bodyF laws_heldBookingS.E laws_heldBookingS.keep n Try.f46 laws_heldBookingS.con x = laws_heldBookingS.fn n x.1 x.2 := by
  have h : bodyF laws_heldBookingS.E laws_heldBookingS.keep n Try.f46 laws_heldBookingS.con x = laws_heldBookingS.top (fun a0 k1 i5 => laws_heldBookingS.LN2 n x n (laws_heldBookingS.st2 a0 k1 i5)) x.1 x.2 := by kernel_rfl
  rw [h]
  simp only [laws_heldBookingS.lem2]
  rfl
set_option maxRecDepth 100000 in
theorem laws_heldBookingS.good : Good Try.prog 46 laws_heldBookingS.con :=
  good_of tabok (cs := laws_heldBookingS.cs) ⟨laws_markText.good, trivial⟩ 0 false (fn := Try.f46) Try.func46 rfl (by decide) (by simp [laws_heldBookingS.con]) laws_heldBookingS.keep NN (fun _ => rfl) (fun x => laws_heldBookingS.body NN x)
end
end Go.Ev.Try

namespace Go.Ev.Try
open Go.Proofs Go.Pl
set_option linter.unusedVariables false
noncomputable section
def laws_FnExactBookShow.con : Con := { ps := [(.val, (.sl 133 (.pair (.int .i64) (.pair .str (.int .i64))))), (.val, (.pair (.sl 190 (.pair (.int .i64) (.int .i64))) (.pair (.sl 103 (.pair .str (.pair (.int .i64) (.pair (.int .i64) (.pair (.int .i64) (.pair (.int .i64) (.pair (.int .i64) (.pair (.int .i64) (.pair (.int .i64) (.int .i64)))))))))) (.sl 186 (.pair (.int .i64) (.pair (.int .i64) (.pair .str (.int .i64)))))))), (.val, (.sl 2 (.int .i64)))], rs := [(.val, .bool)], F := fun x => laws_FnExactBookShow.f x.1 x.2.1 x.2.2 }
def laws_FnExactBookShow.cs : List (FuncId × Con) := [(30, impl_BookShow.con), (31, spec_BookShow.con), (34, laws_szBookingS.con), (35, laws_szShow.con), (36, laws_toBookingS.con), (37, laws_toShow.con), (38, laws_toInt64S.con), (39, laws_eqBookingS.con), (40, laws_intactBookingS.con), (41, laws_intactShow.con), (42, laws_intactInt64S.con), (43, laws_markBookingS.con), (44, laws_markShow.con), (45, laws_markInt64S.con), (46, laws_heldBookingS.con)]
def laws_FnExactBookShow.E : Env := envOf tab laws_FnExactBookShow.cs 0 false
def laws_FnExactBookShow.keep (i : Nat) : List Nat := []
set_option maxRecDepth 100000 in
theorem laws_FnExactBookShow.body (n : Nat) (x : (List (Int × ByteArray × Int)) × ((List (Int × Int)) × (List (ByteArray × Int × Int × Int × Int × Int × Int × Int × Int)) × List (Int × Int × ByteArray × Int)) × List Int) : bodyF laws_FnExactBookShow.E laws_FnExactBookShow.keep n Try.f6 laws_FnExactBookShow.con x = laws_FnExactBookShow.fn n x.1 x.2.1 x.2.2 := by
  have h : bodyF laws_FnExactBookShow.E laws_FnExactBookShow.keep n Try.f6 laws_FnExactBookShow.con x = laws_FnExactBookShow.top x.1 x.2.1 x.2.2 := by kernel_rfl
  exact h
set_option maxRecDepth 100000 in
theorem laws_FnExactBookShow.good : Good Try.prog 6 laws_FnExactBookShow.con :=
  good_of tabok (cs := laws_FnExactBookShow.cs) ⟨impl_BookShow.good, spec_BookShow.good, laws_szBookingS.good, laws_szShow.good, laws_toBookingS.good, laws_toShow.good, laws_toInt64S.good, laws_eqBookingS.good, laws_intactBookingS.good, laws_intactShow.good, laws_intactInt64S.good, laws_markBookingS.good, laws_markShow.good, laws_markInt64S.good, laws_heldBookingS.good, trivial⟩ 0 false (fn := Try.f6) Try.func6 rfl (by decide) (by simp [laws_FnExactBookShow.con]) laws_FnExactBookShow.keep NN (fun _ => rfl) (fun x => laws_FnExactBookShow.body NN x)
end
end Go.Ev.Try

/- Words for the plain laws. -/
namespace Go.Pl
open Go.Ev
set_option linter.unusedVariables false

theorem wf64 {n : Int} : (Lit.int .i64 n).wf = true ↔ (-9223372036854775808 ≤ n ∧ n ≤ 9223372036854775807) := by
  simp only [Lit.wf, Bool.and_eq_true, decide_eq_true_eq]
  have e1 : IntKind.i64.min = -9223372036854775808 := by decide
  have e2 : IntKind.i64.max = 9223372036854775807 := by decide
  omega
theorem wf8 {n : Int} : (Lit.int .u8 n).wf = true ↔ (0 ≤ n ∧ n ≤ 255) := by
  simp only [Lit.wf, Bool.and_eq_true, decide_eq_true_eq]
  have e1 : IntKind.u8.min = 0 := by decide
  have e2 : IntKind.u8.max = 255 := by decide
  omega
theorem w8 {n : Int} (h1 : 0 ≤ n) (h2 : n < 256) : IntKind.u8.wrap n = n := by
  simp only [IntKind.wrap, IntKind.bits, IntKind.signed]
  simp
  omega
theorem w8_range (n : Int) : 0 ≤ IntKind.u8.wrap n ∧ IntKind.u8.wrap n < 256 := by
  simp only [IntKind.wrap, IntKind.bits, IntKind.signed]
  simp
  omega

/-! Rows, taken apart where a loop stands. -/
theorem mid_get {α : Type} (p r : List α) (x z : α) : (p ++ x :: r).getD (p.length : Int).toNat z = x := by simp
theorem mid_set {α : Type} (p r : List α) (x y : α) : (p ++ x :: r).set (p.length : Int).toNat y = p ++ y :: r := by simp
theorem mid_getn {α : Type} (p r : List α) (x z : α) : (p ++ x :: r).getD p.length z = x := by simp
theorem mid_setn {α : Type} (p r : List α) (x y : α) : (p ++ x :: r).set p.length y = p ++ y :: r := by simp
theorem mid_len {α : Type} (p r : List α) (x : α) : ((p ++ x :: r).length : Int) = (p.length : Int) + r.length + 1 := by simp; omega
theorem mid_nil {α : Type} (p : List α) : p ++ [] = p := by simp
theorem mid_snoc {α : Type} (p r : List α) (x : α) : (p ++ [x]) ++ r = p ++ x :: r := by simp
theorem snoc_len {α : Type} (p : List α) (x : α) : ((p ++ [x]).length : Int) = (p.length : Int) + 1 := by simp
/-- A loop over a row: l stands for its rounds, f for what it comes to. -/
theorem loop_mid {α ρ σ : Type} {B : Nat} (l : Nat → List α → Int → σ → Option ρ) (f : List α → List α → σ → Option ρ)
    (hnil : ∀ k pre st, pre.length ≤ B → l (k + 1) pre (pre.length : Int) st = f pre [] st)
    (hcons : ∀ k pre a r st, pre.length + r.length + 1 ≤ B → (∀ st', l k (pre ++ a :: r) ((pre.length : Int) + 1) st' = f (pre ++ [a]) r st') → l (k + 1) (pre ++ a :: r) (pre.length : Int) st = f pre (a :: r) st) :
    ∀ r pre k st, pre.length + r.length ≤ B → r.length < k → l k (pre ++ r) (pre.length : Int) st = f pre r st := by
  intro r
  induction r with
  | nil =>
    intro pre k st h1 h2
    obtain ⟨k, rfl⟩ : ∃ j, k = j + 1 := ⟨k - 1, by omega⟩
    rw [List.append_nil]
    exact hnil k pre st (by simpa using h1)
  | cons a r ih =>
    intro pre k st h1 h2
    simp only [List.length_cons] at h1 h2
    obtain ⟨k, rfl⟩ : ∃ j, k = j + 1 := ⟨k - 1, by omega⟩
    refine hcons k pre a r st (by omega) fun st' => ?_
    have := ih (pre ++ [a]) k st' (by simp; omega) (by omega)
    rw [mid_snoc, snoc_len] at this
    exact this
/-- The same, where the row itself is written. -/
theorem loop_mid0 {α ρ σ : Type} {B : Nat} (l : Nat → List α → Int → σ → Option ρ) (f : List α → List α → σ → Option ρ)
    (hnil : ∀ k pre st, pre.length ≤ B → l (k + 1) pre (pre.length : Int) st = f pre [] st)
    (hcons : ∀ k pre a r st, pre.length + r.length + 1 ≤ B → (∀ st', l k (pre ++ a :: r) ((pre.length : Int) + 1) st' = f (pre ++ [a]) r st') → l (k + 1) (pre ++ a :: r) (pre.length : Int) st = f pre (a :: r) st)
    (xs : List α) (k : Nat) (st : σ) (h1 : xs.length ≤ B) (h2 : xs.length < k) : l k xs 0 st = f [] xs st := by
  have := loop_mid l f hnil hcons xs [] k st (by simpa using h1) h2
  simpa using this
/-- A loop by a measure. -/
theorem loop_by {ρ σ : Type} (l : Nat → σ → Option ρ) (μ : σ → Nat) (Q : σ → Option ρ → Prop)
    (h : ∀ k st, (∀ st', μ st' < μ st → Q st' (l k st')) → Q st (l (k + 1) st)) : ∀ k st, μ st < k → Q st (l k st) := by
  intro k
  induction k with
  | zero => intro st h; omega
  | succ k ih => intro st hk; exact h k st fun st' h' => ih st' (by omega)

/-! Bytes. -/
theorem ba_toList {a b : ByteArray} : a.toList = b.toList ↔ a = b := by
  rw [ByteArray.toList_eq, ByteArray.toList_eq]
  exact ⟨fun h => ByteArray.ext (Array.toList_inj.mp h), fun h => by rw [h]⟩
theorem ba_beq (a b : ByteArray) : (a.toList == b.toList) = decide (a = b) := by
  by_cases h : a = b
  · subst h; simp
  · rw [decide_eq_false h, beq_eq_false_iff_ne]; exact fun e => h (ba_toList.1 e)
def bl (s : ByteArray) : List UInt8 := s.data.toList
def ob (l : List UInt8) : ByteArray := ⟨l.toArray⟩
theorem bl_ob (l : List UInt8) : bl (ob l) = l := by simp [bl, ob]
theorem ob_bl (s : ByteArray) : ob (bl s) = s := by simp [bl, ob]
theorem bl_inj {a b : ByteArray} (h : bl a = bl b) : a = b := by rw [← ob_bl a, h, ob_bl]
theorem ob_inj {a b : List UInt8} (h : ob a = ob b) : a = b := by rw [← bl_ob a, h, bl_ob]
theorem bl_length (s : ByteArray) : (bl s).length = s.size := by simp only [bl, Array.length_toList]; rfl
theorem ob_size (l : List UInt8) : (ob l).size = l.length := by rw [← bl_length, bl_ob]
theorem bl_append (a b : ByteArray) : bl (a ++ b) = bl a ++ bl b := by simp [bl]
theorem ob_append (a b : List UInt8) : ob a ++ ob b = ob (a ++ b) := by apply bl_inj; rw [bl_append, bl_ob, bl_ob, bl_ob]
theorem bl_lit (a : Array UInt8) : bl (⟨a⟩ : ByteArray) = a.toList := rfl
theorem lit_ob (l : List UInt8) : (⟨l.toArray⟩ : ByteArray) = ob l := rfl
theorem bl_extract (s : ByteArray) (i j : Nat) : bl (s.extract i j) = ((bl s).take j).drop i := by
  simp only [bl, ByteArray.data_extract, Array.toList_extract, List.extract]
  rw [List.drop_take]
theorem ob_extract (l : List UInt8) (i j : Nat) : (ob l).extract i j = ob ((l.take j).drop i) := by apply bl_inj; rw [bl_extract, bl_ob, bl_ob]
theorem ob_toList (l : List UInt8) : (ob l).toList = l := by rw [ByteArray.toList_eq]; rfl
theorem ba_bl (s : ByteArray) : s.toList = bl s := by rw [ByteArray.toList_eq]; rfl
theorem bt_ob (l : List UInt8) (i : Int) : bt (ob l) i = ((l.getD i.toNat 0).toNat : Int) := rfl
theorem bt_mid (p r : List UInt8) (c : UInt8) : bt (ob (p ++ c :: r)) (p.length : Int) = (c.toNat : Int) := by rw [bt_ob, mid_get]
theorem bt_range (s : ByteArray) (i : Int) : 0 ≤ bt s i ∧ bt s i ≤ 255 := by
  unfold bt
  have := UInt8.toNat_lt ((s.data.toList.getD i.toNat 0))
  omega
theorem u8_lt (c : UInt8) : c.toNat < 256 := UInt8.toNat_lt c
theorem u8_eq {a : UInt8} {n : Nat} (h : n < 256) : ((a.toNat : Int) = (n : Int)) ↔ a = UInt8.ofNat n := by
  constructor
  · intro e
    apply UInt8.toNat_inj.mp
    rw [UInt8.toNat_ofNat']; omega
  · rintro rfl
    rw [UInt8.toNat_ofNat']; omega
theorem bytesOf_ob (l : List Int) : bytesOf l = ob (l.map fun n => UInt8.ofNat n.toNat) := rfl
/-- Every string is of bytes. -/
theorem ob_all {P : ByteArray → Prop} (h : ∀ l, P (ob l)) (s : ByteArray) : P s := by rw [← ob_bl s]; exact h _
/-- A loop over a string's bytes. -/
theorem loop_str0 {ρ σ : Type} {B : Nat} (l : Nat → ByteArray → Int → σ → Option ρ) (f : List UInt8 → List UInt8 → σ → Option ρ)
    (hnil : ∀ k pre st, pre.length ≤ B → l (k + 1) (ob pre) (pre.length : Int) st = f pre [] st)
    (hcons : ∀ k pre a r st, pre.length + r.length + 1 ≤ B → (∀ st', l k (ob (pre ++ a :: r)) ((pre.length : Int) + 1) st' = f (pre ++ [a]) r st') → l (k + 1) (ob (pre ++ a :: r)) (pre.length : Int) st = f pre (a :: r) st)
    (s : ByteArray) (k : Nat) (st : σ) (h1 : s.size ≤ B) (h2 : s.size < k) : l k s 0 st = f [] (bl s) st := by
  have := loop_mid0 (fun k xs i st => l k (ob xs) i st) f hnil hcons (bl s) k st (by rw [bl_length]; exact h1) (by rw [bl_length]; exact h2)
  rw [ob_bl] at this
  exact this
theorem room1 : room 1 = 140737488355328 := by decide
theorem room8 : room 8 = 17592186044416 := by decide
theorem room16 : room 16 = 8796093022208 := by decide
theorem room24 : room 24 = 5864062014805 := by decide
theorem room32 : room 32 = 4398046511104 := by decide
theorem room40 : room 40 = 3518437208883 := by decide
theorem NNb : (1000000000000 : Nat) < NN := by rw [NN_eq]; omega
theorem NN_lt {n : Nat} (h : n < 1152921504606846976) : n < NN := by rw [NN_eq]; omega
theorem some_iff {b c : Bool} (h : b = true ↔ c = true) : some b = some c := by
  congr 1; exact Bool.eq_iff_iff.mpr h
end Go.Pl

/- A law's row: what its arguments are, in plain words. -/
namespace Go.Ev
set_option linter.unusedVariables false
set_option linter.unusedSimpArgs false
open Go.RowKit Go.WideShapes Go.ChangeShapes Go.ChangeAt
variable {P : Program}

def Rg (k : IntKind) (n : Int) : Prop := (Lit.int k n).wf = true
def Sz (s : ByteArray) : Prop := s.size ≤ 140737488355328
def Ls {α : Type} (Q : α → Prop) (xs : List α) : Prop := xs.length ≤ 140737488355328 ∧ ∀ x ∈ xs, Q x
def Plain : (t : Ty) → t.I → Prop
  | .int k, n => Rg k n
  | .bool, _ => True
  | .str, s => Sz s
  | .sl _ t, xs => Ls (Plain t) xs
  | .slb _ _, _ => True
  | .pair a b, x => Plain a x.1 ∧ Plain b x.2
  | .arr n t, xs => xs.length = n ∧ ∀ x ∈ xs, Plain t x
def PlainAll : (ts : List Ty) → Tup ts → Prop
  | [], _ => True
  | [t], x => Plain t x
  | t :: u :: r, x => Plain t x.1 ∧ PlainAll (u :: r) x.2
def okE (B : TypeId → Nat) : Ty → Bool
  | .sl e t => decide (1 ≤ B e) && okE B t
  | .slb e t => decide (1 ≤ B e) && okE B t
  | .pair a b => okE B a && okE B b
  | .arr _ t => okE B t
  | _ => true
theorem reach_lt : reachBytes ≤ 140737488355328 := by decide
theorem fit_plain {B : TypeId → Nat} : ∀ (t : Ty) (x : t.I), okE B t = true → Fit B t x → Plain t x := by
  intro t
  induction t with
  | int k => intro x _ h; exact h
  | bool => intro x _ h; trivial
  | str => intro x _ h; exact Nat.le_trans h reach_lt
  | sl e t ih =>
    intro x ho h
    simp only [okE, Bool.and_eq_true, decide_eq_true_eq] at ho
    refine ⟨?_, fun y hy => ih y ho.2 (h.2 y hy)⟩
    have h1 : x.length * 1 ≤ x.length * B e := Nat.mul_le_mul_left _ ho.1
    have h2 := h.1
    have h3 := reach_lt
    omega
  | slb e t ih => intro x ho h; trivial
  | pair a b iha ihb =>
    intro x ho h
    simp only [okE, Bool.and_eq_true] at ho
    exact ⟨iha _ ho.1 h.1, ihb _ ho.2 h.2⟩
  | arr n t ih => intro x ho h; exact ⟨h.1, fun y hy => ih y ho (h.2 y hy)⟩
theorem fit_plainAll {B : TypeId → Nat} : ∀ (ts : List Ty) (x : Tup ts), ts.all (okE B) = true → FitAll B ts x → PlainAll ts x := by
  intro ts
  induction ts with
  | nil => intro x _ _; trivial
  | cons t r ih =>
    intro x ho h
    simp only [List.all_cons, Bool.and_eq_true] at ho
    cases r with
    | nil => exact fit_plain t x ho.1 h
    | cons u r => exact ⟨fit_plain t x.1 ho.1 h.1, ih x.2 ho.2 h.2⟩
theorem ok_all {tab : List TRow} (h : okB P tab = true) : tab.all (rowB P tab) = true := by
  unfold okB at h; simp only [Bool.and_eq_true] at h; exact h.2.2
theorem bytes_sound {tab : List TRow} (h : okB P tab = true) : ∀ t x, tabT tab t = some x → P.bytesOf t = tabB tab t := by
  intro t x ht
  have hs := tab_sound (ok_all h)
  obtain ⟨ty, n⟩ := x
  obtain ⟨i, h1, h2⟩ := (hs.1 t ty n ht).info
  unfold Program.bytesOf
  rw [h1]
  exact hs.2 t _ ht i h1
section
variable {H : Type} {enc : TypeId × Value → H} {w : World} {base : Nat} {spare : Nat → Bool} {held : Bool}
theorem law_row {tab : List TRow} (hok : okB P tab = true) (hpos : posB tab = true) {f : FuncId} {c : Con} (hg : Good P f c) (hps : (c.ps.map (·.2)).map ((Kn.val, ·)) = c.ps) (hE : (c.ps.map (·.2)).all (okE (tabB tab)) = true)
    (hlaw : ∀ x, PlainAll (c.ps.map (·.2)) x → ∃ r, c.F x = some r ∧ kds' c.rs (dats _ r) = [(.val, ⟨.bool, true⟩)])
    {r : Reach} {b0 : Nat} {ts : List TypeId} {args : Array Value} {ds : List (DataW H)} {p : List MemPlace} (hts : tysOf (tabT tab) ts = some (c.ps.map (·.2))) (h : DataW.TrodAll enc P w base spare held ts args.toList ds p)
    (hval : ∀ (j : Nat) t v, ts[j]? = some t → args[j]? = some v → Value.okWide P w r b0 t v) {vt : List TypeId} {gs : List (DataW H)} (hgs : vt = [] ∨ gs = []) (hw : (DataW.weightsEach P (ts ++ vt) (ds ++ gs)).all (· ≤ reachBytes) = true) (hl : ts.length = ds.length) :
    Calls P f args w fun e w' => e = .returned (.bool true) ∧ Below w.heap.size w w' := by
  refine law_calls (tab_sound (ok_all hok)).1 (bytes_sound hok) (posB_sound hpos) hg hps (fun x hx => hlaw x (fit_plainAll _ x hE hx)) hts h (fun j t v hj hv => hval j t v hj (by simpa using hv)) ?_
  have key : ∀ (ts : List TypeId) (ds : List (DataW H)), ts.length = ds.length → ∀ m ∈ DataW.weightsEach P ts ds, m ∈ DataW.weightsEach P (ts ++ vt) (ds ++ gs) := by
    intro ts
    induction ts with
    | nil => intro ds hl m hm; cases ds <;> simp [DataW.weightsEach] at hm
    | cons t ts ih =>
      intro ds hl m hm
      cases ds with
      | nil => simp [DataW.weightsEach] at hm
      | cons d ds =>
        simp only [List.cons_append, DataW.weightsEach, List.mem_append] at hm ⊢
        rcases hm with hm | hm
        · exact .inl hm
        · exact .inr (ih ds (by simpa using hl) m hm)
  intro m hm
  have := List.all_eq_true.1 hw m (key ts ds hl m hm)
  simpa using this
end
end Go.Ev

/- What the laws' own helpers do, loop by loop: sizes, copies, comparisons, marks. -/
namespace Go.Pl
open Go.Ev
set_option linter.unusedVariables false

def Sm (s : ByteArray) : Prop := s.size ≤ 1000000
def Lm {α : Type} (Q : α → Prop) (xs : List α) : Prop := xs.length ≤ 1000000 ∧ ∀ x ∈ xs, Q x

theorem eqS_loop {α : Type} {E : α → Prop} (l : Nat → List α → List α → Int → Option Bool) (a : List α) (hE : ∀ x ∈ a, E x)
    (hs : ∀ k p x r, E x → a = p ++ x :: r → l (k + 1) a a p.length = l k a a ((p.length : Int) + 1)) (he : ∀ k, l (k + 1) a a a.length = some true) :
    ∀ k, a.length < k → l k a a 0 = some true := by
  have key : ∀ (r p : List α) (k : Nat), a = p ++ r → r.length < k → l k a a p.length = some true := by
    intro r
    induction r with
    | nil =>
      intro p k h hk
      obtain ⟨k, rfl⟩ : ∃ j, k = j + 1 := ⟨k - 1, by omega⟩
      rw [List.append_nil] at h
      rw [← h]; exact he k
    | cons x r ih =>
      intro p k h hk
      simp only [List.length_cons] at hk
      obtain ⟨k, rfl⟩ : ∃ j, k = j + 1 := ⟨k - 1, by omega⟩
      rw [hs k p x r (hE x (by rw [h]; simp)) h]
      have := ih (p ++ [x]) k (by rw [h]; simp) (by omega)
      rw [snoc_len] at this
      exact this
  intro k hk
  have := key a [] k (by simp) hk
  simpa using this

theorem szS_loop {α : Type} {Q R : α → Prop} (l : Nat → List α → Int → Int → Option Int)
    (he : ∀ k p left, l (k + 1) p left p.length = some left)
    (hs : ∀ x, Q x → ∀ left, -1000000000000000 ≤ left → left ≤ 1000000 → ∃ s, s ≤ 1000000 ∧ (0 ≤ s → s ≤ left ∧ R x) ∧ ∀ k p r, p.length + r.length + 1 ≤ 140737488355328 → l (k + 1) (p ++ x :: r) left p.length = if s < 0 then some (-1) else l k (p ++ x :: r) s ((p.length : Int) + 1))
    (a : List α) (k : Nat) (left : Int) (h0 : -1000000000000000 ≤ left) (h1 : left ≤ 1000000) (ha : Ls Q a) (hk : a.length < k) : ∃ s, l k a left 0 = some s ∧ s ≤ 1000000 ∧ (0 ≤ s → s ≤ left ∧ ∀ x ∈ a, R x) := by
  have key : ∀ (r p : List α) (k : Nat) (left : Int), p.length + r.length ≤ 140737488355328 → (∀ x ∈ r, Q x) → -1000000000000000 ≤ left → left ≤ 1000000 → r.length < k → ∃ s, l k (p ++ r) left p.length = some s ∧ s ≤ 1000000 ∧ (0 ≤ s → s ≤ left ∧ ∀ x ∈ r, R x) := by
    intro r
    induction r with
    | nil =>
      intro p k left _ _ _ _ hk
      obtain ⟨k, rfl⟩ : ∃ j, k = j + 1 := ⟨k - 1, by omega⟩
      rw [List.append_nil]
      exact ⟨left, he k p left, by omega, fun _ => ⟨by omega, fun x hx => by cases hx⟩⟩
    | cons x r ih =>
      intro p k left hb hq h0 h1 hk
      simp only [List.length_cons] at hk hb
      obtain ⟨k, rfl⟩ : ∃ j, k = j + 1 := ⟨k - 1, by omega⟩
      obtain ⟨s, s1, s2, s3⟩ := hs x (hq x (by simp)) left h0 h1
      rw [s3 k p r (by omega)]
      by_cases hn : s < 0
      · rw [if_pos hn]; exact ⟨-1, rfl, by omega, by omega⟩
      · rw [if_neg hn]
        obtain ⟨u, u1, u2, u3⟩ := ih (p ++ [x]) k s (by simp; omega) (fun y hy => hq y (by simp [hy])) (by omega) (by omega) (by omega)
        rw [mid_snoc, snoc_len] at u1
        refine ⟨u, u1, by omega, fun h => ⟨by have := (u3 h).1; have := (s2 (by omega)).1; omega, fun y hy => ?_⟩⟩
        rcases List.mem_cons.1 hy with rfl | hy
        · exact (s2 (by omega)).2
        · exact (u3 h).2 y hy
  have := key a [] k left (by simpa using ha.1) ha.2 h0 h1 hk
  simpa using this

theorem toS_loop {α : Type} {Z R : α → Prop} (l5 l9 : Nat → List α → Int → List α → Option (List α × List α))
    (he9 : ∀ k a (out : List α), (a.length : Int) ≤ out.length → l9 (k + 1) a out.length out = some (out.take a.length, out.drop a.length))
    (hs9 : ∀ k a (i : Nat) (out : List α), i < out.length → out.length ≤ 140737488355328 → ∃ z, Z z ∧ l9 (k + 1) a i out = l9 k a ((i : Int) + 1) (out.set i z))
    (he5 : ∀ k a (out : List α), l5 (k + 1) a a.length out = l9 NN a a.length out)
    (hs5 : ∀ k (p r : List α) x (q s : List α) y, R x → p.length = q.length → p.length + r.length + 1 ≤ 140737488355328 → p.length + s.length + 1 ≤ 140737488355328 → l5 (k + 1) (p ++ x :: r) p.length (q ++ y :: s) = l5 k (p ++ x :: r) ((p.length : Int) + 1) (q ++ x :: s))
    (a : List α) (out : List α) (k : Nat) (ha : ∀ x ∈ a, R x) (h : a.length ≤ out.length) (hb : out.length ≤ 140737488355328) (hk : a.length < k) :
    ∃ fil, l5 k a 0 out = some (a, fil) ∧ fil.length = out.length - a.length ∧ ∀ x ∈ fil, Z x := by
  have hN : 140737488355328 < NN := NN_lt (by omega)
  have k9 : ∀ (d : Nat) (k : Nat) (i : Nat) (out : List α), out.length ≤ 140737488355328 → i + d = out.length → d < k → a.length ≤ i → out.take a.length = a → (∀ j x, a.length ≤ j → j < i → out[j]? = some x → Z x) →
      ∃ fil, l9 k a i out = some (a, fil) ∧ fil.length = out.length - a.length ∧ ∀ x ∈ fil, Z x := by
    intro d
    induction d with
    | zero =>
      intro k i out hb hi hk ha ht hz
      obtain ⟨k, rfl⟩ : ∃ j, k = j + 1 := ⟨k - 1, by omega⟩
      obtain rfl : i = out.length := by omega
      refine ⟨_, by rw [he9 k a out (by omega), ht], by simp, fun x hx => ?_⟩
      obtain ⟨m, hm⟩ := List.mem_iff_getElem?.1 hx
      rw [List.getElem?_drop] at hm
      exact hz _ x (by omega) (List.getElem?_eq_some_iff.1 hm).1 hm
    | succ d ih =>
      intro k i out hb hi hk ha ht hz
      obtain ⟨k, rfl⟩ : ∃ j, k = j + 1 := ⟨k - 1, by omega⟩
      obtain ⟨z, z1, z2⟩ := hs9 k a i out (by omega) hb
      rw [z2]
      obtain ⟨fil, f1, f2, f3⟩ := ih k (i + 1) (out.set i z) (by simpa using hb) (by simp; omega) (by omega) (by omega) (by rw [List.take_set_of_le ha]; exact ht) (fun j x h1 h2 h3 => by
        by_cases hj : i = j
        · subst hj
          rw [List.getElem?_set_self (by omega)] at h3
          cases h3; exact z1
        · rw [List.getElem?_set_ne hj] at h3
          exact hz j x h1 (by omega) h3)
      exact ⟨fil, f1, by simpa using f2, f3⟩
  have k5 : ∀ (r p : List α) (s : List α) (k : Nat), p ++ r = a → p.length + s.length ≤ 140737488355328 → r.length ≤ s.length → r.length < k → (∀ x ∈ r, R x) →
      ∃ fil, l5 k a p.length (p ++ s) = some (a, fil) ∧ fil.length = p.length + s.length - a.length ∧ ∀ x ∈ fil, Z x := by
    intro r
    induction r with
    | nil =>
      intro p s k h3 h4 h5 hk _
      obtain ⟨k, rfl⟩ : ∃ j, k = j + 1 := ⟨k - 1, by omega⟩
      rw [List.append_nil] at h3
      subst h3
      rw [he5]
      obtain ⟨fil, f1, f2, f3⟩ := k9 s.length NN p.length (p ++ s) (by simp; omega) (by simp) (by omega) (by omega) (by rw [List.take_left' rfl]) (fun j x h1 h2 => by omega)
      exact ⟨fil, f1, by rw [f2]; simp, f3⟩
    | cons x r ih =>
      intro p s k h3 h4 h5 hk hR
      simp only [List.length_cons] at h5 hk
      obtain ⟨k, rfl⟩ : ∃ j, k = j + 1 := ⟨k - 1, by omega⟩
      cases s with
      | nil => simp at h5
      | cons y s =>
        have hs := hs5 k p r x p s y (hR x (by simp)) rfl (by simp only [List.length_cons] at h4 h5; omega) (by simp only [List.length_cons] at h4; omega)
        rw [h3] at hs
        rw [hs]
        obtain ⟨fil, f1, f2, f3⟩ := ih (p ++ [x]) s k (by rw [← h3]; simp) (by simp only [List.length_append, List.length_cons, List.length_nil] at h4 ⊢; omega) (by simp only [List.length_cons] at h5; omega) (by omega) (fun z hz => hR z (by simp [hz]))
        rw [mid_snoc, snoc_len] at f1
        exact ⟨fil, f1, by rw [f2]; simp only [List.length_append, List.length_cons, List.length_nil]; omega, f3⟩
  obtain ⟨fil, f1, f2, f3⟩ := k5 a [] out k rfl (by simpa using hb) h hk ha
  exact ⟨fil, by simpa using f1, by simpa using f2, f3⟩

/-- Rows that are marked, and looked at afterwards. -/
theorem mark_held {α : Type} {Q : α → Prop} (l : Nat → List α → Int → Int → Option (Int × List α)) (lh : Nat → List α → Int → Int → Option Int) (C : Nat) (K : Int)
    (he : ∀ k p n, l (k + 1) p n p.length = some (n, p)) (heh : ∀ k p n, lh (k + 1) p n p.length = some n)
    (hs : ∀ x, Q x → ∀ n, 0 ≤ n → n ≤ K → ∃ x' n', n ≤ n' ∧ n' ≤ n + C ∧ (∀ k p r, p.length + r.length + 1 ≤ 1000000 → l (k + 1) (p ++ x :: r) n p.length = l k (p ++ x' :: r) n' ((p.length : Int) + 1))
      ∧ (∀ k p r, p.length + r.length + 1 ≤ 1000000 → lh (k + 1) (p ++ x' :: r) n p.length = lh k (p ++ x' :: r) n' ((p.length : Int) + 1)))
    (a : List α) (ha : Lm Q a) (n : Int) (h0 : 0 ≤ n) (h1 : n + (1000000 * C : Nat) ≤ K) (k kh : Nat) (hk : 1000000 < k) (hkh : 1000000 < kh) :
    ∃ n' a', l k a n 0 = some (n', a') ∧ lh kh a' n 0 = some n' ∧ n ≤ n' ∧ n' ≤ n + (1000000 * C : Nat) := by
  have key : ∀ (r p : List α) (k : Nat) (n : Int), p.length + r.length ≤ 1000000 → (∀ x ∈ r, Q x) → 0 ≤ n → n + ((r.length * C : Nat) : Int) ≤ K → r.length < k →
      ∃ n' r', l k (p ++ r) n p.length = some (n', p ++ r') ∧ r'.length = r.length ∧ n ≤ n' ∧ n' ≤ n + ((r.length * C : Nat) : Int) ∧ (∀ (q : List α) kh, q.length = p.length → r.length < kh → lh kh (q ++ r') n q.length = some n') := by
    intro r
    induction r with
    | nil =>
      intro p k n _ _ h0 _ hk
      obtain ⟨k, rfl⟩ : ∃ j, k = j + 1 := ⟨k - 1, by omega⟩
      refine ⟨n, [], by rw [List.append_nil]; exact he k p n, rfl, by omega, by simp, fun q kh _ hkh => ?_⟩
      obtain ⟨kh, rfl⟩ : ∃ j, kh = j + 1 := ⟨kh - 1, by simp at hkh; omega⟩
      rw [List.append_nil]; exact heh kh q n
    | cons x r ih =>
      intro p k n hb hq h0 hK hk
      simp only [List.length_cons] at hk hb hK
      obtain ⟨k, rfl⟩ : ∃ j, k = j + 1 := ⟨k - 1, by omega⟩
      have hm : (r.length + 1) * C = r.length * C + C := by rw [Nat.add_mul, Nat.one_mul]
      rw [hm] at hK
      obtain ⟨x', n1, a1, a2, a3, a4⟩ := hs x (hq x (by simp)) n h0 (by omega)
      rw [a3 k p r (by omega)]
      obtain ⟨n', r', b1, b2, b3, b4, b5⟩ := ih (p ++ [x']) k n1 (by simp; omega) (fun y hy => hq y (by simp [hy])) (by omega) (by omega) (by omega)
      rw [mid_snoc, snoc_len] at b1
      refine ⟨n', x' :: r', by rw [b1]; simp, by simp [b2], by omega, by simp only [List.length_cons]; rw [hm]; omega, fun q kh hq' hkh => ?_⟩
      simp only [List.length_cons] at hkh
      obtain ⟨kh, rfl⟩ : ∃ j, kh = j + 1 := ⟨kh - 1, by omega⟩
      rw [a4 kh q r' (by omega)]
      have := b5 (q ++ [x']) kh (by simp [hq']) (by omega)
      rw [mid_snoc, snoc_len] at this
      exact this
  have hle : ((a.length * C : Nat) : Int) ≤ ((1000000 * C : Nat) : Int) := Int.ofNat_le.2 (Nat.mul_le_mul_right _ ha.1)
  obtain ⟨n', r', b1, b2, b3, b4, b5⟩ := key a [] k n (by simpa using ha.1) ha.2 h0 (by omega) (by have := ha.1; omega)
  have := b5 [] kh rfl (by have := ha.1; omega)
  exact ⟨n', r', by simpa using b1, by simpa using this, b3, by omega⟩
theorem mem_mid {α : Type} {a p r : List α} {x : α} (h : a = p ++ x :: r) : x ∈ a := by rw [h]; simp
end Go.Pl
