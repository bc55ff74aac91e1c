/- Part 2 of what the law FnExactRunConsole stands on: an evaluator of the model's code, proved sound; the functions as plain texts; their contracts. -/
import Derived.Test.YtijddinlmamclaaGreatChecked
import Derived.Test.YtijddinlmamclaaGreatProg
import Derived.Test.YtijddinlmamclaaGreatRows
import Derived.Below
import Derived.Calls
import Derived.Carry
import Derived.ChangeArms
import Derived.ChangeKeysEq
import Derived.ChangeOld
import Derived.Deep.Quiet
import Derived.KernelRfl
import Derived.Laws.Append
import Derived.Laws.BytesString
import Derived.Laws.MakeOwn
import Derived.Laws.Strings
import Derived.Laws.StructEq
import Derived.OpenShut
import Derived.OrdersHeld
import Derived.ProofKit
import Derived.ShutString
import Derived.SizedLaws
import Derived.Tactics
import Derived.WalkKit
import Derived.WideShapes
import Derived.Test.YtijddinlmamclaaGreatEvExactRunConsole1
namespace Go.Pl
open Go.Ev
set_option linter.unusedVariables false
noncomputable section
def impl_execute.g24 (L24 : YY) (r : List YA) (s : Int) (p : Int) (d2 : YD × YE × List YA) (c3 : ByteArray × List ByteArray × List Int) (q : List ByteArray) (w4 : List YA) (w5 : List YC) (w6 : List YA) : Option YR :=
 if (decide ((p : Int) < s)) = true then
 if (0 : Int) ≤ p ∧ (p : Int) < r.length then
 (impl_putWord.f q (((r.getD (p : Int).toNat (0, (ByteArray.empty, 0))).2).1)).bind fun r21 =>
 L24 r s (IntKind.i64.wrap (p + 1)) d2 c3 r21 w4 w5 w6
 else
 none
 else if (0 : Int) ≤ 0 ∧ (0 : Int) < c3.2.2.length then
 (impl_FiredSafely.f ([c3.2.2.getD (0 : Int).toNat 0]) d2.2.1 d2.1 q).bind fun r22 =>
 if ((r22.2 : Int) != 0) = true then
 some (d2, (⟨#[]⟩ : ByteArray), r22.2)
 else if (0 : Int) ≤ 0 ∧ (0 : Int) < r22.1.length then
 if (decide (((r22.1.getD (0 : Int).toNat 0) : Int) < 0)) = true then
 some (d2, (⟨#[109, 105, 115, 115, 101, 100]⟩ : ByteArray), 0)
 else if (0 : Int) ≤ 0 ∧ (0 : Int) < r22.1.length then
 (impl_decimal.f (r22.1.getD (0 : Int).toNat 0)).bind fun r23 =>
 some (d2, r23, 0)
 else
 none
 else
 none
 else
 none
def impl_execute.l24 (n : Nat) : Nat → YD → Int → Int → YF → YO → List ByteArray → YD → YE → YD → Option YR
 | 0 => fun _ _ _ _ _ _ _ _ _ => none
 | k + 1 => impl_execute.g24 (impl_execute.l24 n k)
def impl_execute.top (I24 : YY) (d0 : YD × YE × List YA) (c1 : ByteArray × List ByteArray × List Int) : Option YR :=
 if (c1.1.toList == (⟨#[112, 101, 111, 112, 108, 101]⟩ : ByteArray).toList) = true then
 if (0 : Int) ≤ 0 ∧ (0 : Int) < c1.2.2.length then
 if (0 : Int) ≤ 0 ∧ (0 : Int) < c1.2.1.length then
 if (0 : Int) ≤ 1 ∧ (1 : Int) < c1.2.2.length then
 (impl_AddMove.f d0.1 (c1.2.2.getD (0 : Int).toNat 0, (c1.2.1.getD (0 : Int).toNat ByteArray.empty, c1.2.2.getD (1 : Int).toNat 0))).bind fun r1 =>
 some ((r1.1, d0.2), (⟨#[111, 107]⟩ : ByteArray), r1.2)
 else
 none
 else
 none
 else
 none
 else if (c1.1.toList == (⟨#[99, 108, 101, 97, 114]⟩ : ByteArray).toList) = true then
 if (0 : Int) ≤ 0 ∧ (0 : Int) < c1.2.1.length then
 if (0 : Int) ≤ 0 ∧ (0 : Int) < c1.2.2.length then
 (impl_IsClear.f d0.1 (c1.2.1.getD (0 : Int).toNat ByteArray.empty) (c1.2.2.getD (0 : Int).toNat 0)).bind fun r2 =>
 if r2.1 = true then
 some (d0, (⟨#[121, 101, 115]⟩ : ByteArray), r2.2)
 else
 some (d0, (⟨#[110, 111]⟩ : ByteArray), r2.2)
 else
 none
 else
 none
 else if (c1.1.toList == (⟨#[115, 105, 103, 110, 97, 108]⟩ : ByteArray).toList) = true then
 if (0 : Int) ≤ 0 ∧ (0 : Int) < c1.2.1.length then
 (impl_inputWords.f).bind fun r3 =>
 (impl_wordIndex.f r3 (c1.2.1.getD (0 : Int).toNat ByteArray.empty)).bind fun r4 =>
 if (decide ((r4 : Int) < 0)) = true then
 some (d0, (⟨#[]⟩ : ByteArray), 6)
 else if (0 : Int) ≤ 0 ∧ (0 : Int) < c1.2.2.length then
 (impl_AddSignal.f d0.2.1 (c1.2.2.getD (0 : Int).toNat 0, r4)).bind fun r5 =>
 some ((d0.1, (r5.1, d0.2.2)), (⟨#[111, 107]⟩ : ByteArray), r5.2)
 else
 none
 else
 none
 else if (c1.1.toList == (⟨#[115, 116, 97, 116, 101]⟩ : ByteArray).toList) = true then
 if (0 : Int) ≤ 0 ∧ (0 : Int) < c1.2.2.length then
 (impl_ControllerAt.f d0.2.1 (c1.2.2.getD (0 : Int).toNat 0)).bind fun r6 =>
 (impl_stateWord.f r6.1).bind fun r7 =>
 some (d0, r7, r6.2)
 else
 none
 else if (c1.1.toList == (⟨#[102, 105, 114, 101]⟩ : ByteArray).toList) = true then
 I24 d0.1 (d0.1.length : Int) 0 d0 c1 [] [] [] []
 else if (c1.1.toList == (⟨#[98, 111, 111, 107]⟩ : ByteArray).toList) = true then
 if (0 : Int) ≤ 0 ∧ (0 : Int) < c1.2.1.length then
 (impl_wordIndex.f ([(⟨#[105, 110]⟩ : ByteArray), (⟨#[102, 105, 114, 101, 100]⟩ : ByteArray), (⟨#[114, 101, 116, 117, 114, 110, 101, 100]⟩ : ByteArray), (⟨#[100, 101, 115, 116, 114, 111, 121, 101, 100]⟩ : ByteArray)]) (c1.2.1.getD (0 : Int).toNat ByteArray.empty)).bind fun r8 =>
 if (decide ((r8 : Int) < 0)) = true then
 some (d0, (⟨#[]⟩ : ByteArray), 6)
 else if (0 : Int) ≤ 1 ∧ (1 : Int) < c1.2.1.length then
 if (0 : Int) ≤ 0 ∧ (0 : Int) < c1.2.2.length then
 (impl_BookPieces.f d0.2.2 (r8, (c1.2.1.getD (1 : Int).toNat ByteArray.empty, c1.2.2.getD (0 : Int).toNat 0))).bind fun r9 =>
 some ((d0.1, (d0.2.1, r9.1)), (⟨#[111, 107]⟩ : ByteArray), r9.2)
 else
 none
 else
 none
 else
 none
 else if (c1.1.toList == (⟨#[108, 101, 102, 116]⟩ : ByteArray).toList) = true then
 if (0 : Int) ≤ 0 ∧ (0 : Int) < c1.2.1.length then
 (impl_PiecesLeft.f d0.2.2 (c1.2.1.getD (0 : Int).toNat ByteArray.empty)).bind fun r10 =>
 (impl_decimal.f r10.1).bind fun r11 =>
 some (d0, r11, r10.2)
 else
 none
 else if (c1.1.toList == (⟨#[111, 112, 101, 110]⟩ : ByteArray).toList) = true then
 (impl_openArticles.f d0.2.2).bind fun r12 =>
 if (((r12.length : Int) : Int) == 0) = true then
 some (d0, (⟨#[45]⟩ : ByteArray), 0)
 else
 (impl_joinWith.f r12 (⟨#[44]⟩ : ByteArray)).bind fun r13 =>
 some (d0, r13, 0)
 else if (c1.1.toList == (⟨#[115, 101, 116, 116, 108, 101]⟩ : ByteArray).toList) = true then
 if (0 : Int) ≤ 0 ∧ (0 : Int) < c1.2.2.length then
 (impl_SettleAll.f d0.2.2 (c1.2.2.getD (0 : Int).toNat 0)).bind fun r14 =>
 some ((d0.1, (d0.2.1, r14.1)), (⟨#[111, 107]⟩ : ByteArray), r14.2)
 else
 none
 else if (c1.1.toList == (⟨#[116, 111, 112]⟩ : ByteArray).toList) = true then
 if (0 : Int) ≤ 0 ∧ (0 : Int) < c1.2.2.length then
 (impl_TopOf.f (c1.2.2.getD (0 : Int).toNat 0)).bind fun r15 =>
 (impl_decimal.f r15.1).bind fun r16 =>
 if r16.size + (⟨#[32]⟩ : ByteArray).size ≤ 9223372036854775807 then
 (impl_decimal.f r15.2.1).bind fun r17 =>
 if (r16 ++ (⟨#[32]⟩ : ByteArray)).size + r17.size ≤ 9223372036854775807 then
 some (d0, (r16 ++ (⟨#[32]⟩ : ByteArray)) ++ r17, r15.2.2)
 else
 none
 else
 none
 else
 none
 else if (c1.1.toList == (⟨#[110, 101, 101, 100]⟩ : ByteArray).toList) = true then
 if (0 : Int) ≤ 0 ∧ (0 : Int) < c1.2.2.length then
 if (0 : Int) ≤ 1 ∧ (1 : Int) < c1.2.2.length then
 (impl_SeparationFor.f (c1.2.2.getD (0 : Int).toNat 0) (c1.2.2.getD (1 : Int).toNat 0)).bind fun r18 =>
 (impl_decimal.f r18.1).bind fun r19 =>
 some (d0, r19, r18.2)
 else
 none
 else
 none
 else if (0 : Int) ≤ 0 ∧ (0 : Int) < c1.2.2.length then
 (impl_TimeText.f (c1.2.2.getD (0 : Int).toNat 0)).bind fun r20 =>
 some (d0, r20.1, r20.2)
 else
 none
def impl_execute.fn (n : Nat) (d0 : YD × YE × List YA) (c1 : ByteArray × List ByteArray × List Int) : Option YR := impl_execute.top (impl_execute.l24 n n) d0 c1
def impl_execute.f (d0 : YD × YE × List YA) (c1 : ByteArray × List ByteArray × List Int) : Option YR := impl_execute.fn NN d0 c1
end
end Go.Pl

namespace Go.Pl
open Go.Ev
set_option linter.unusedVariables false
noncomputable section
def impl_runLines.g11 (L11 : List ByteArray → Int → Int → List ByteArray → YF → YD → YE → YD → Option YAF) (v37 : List ByteArray) (v38 : Int) (v39 : Int) (q : List ByteArray) (d7 : YD × YE × List YA) (w3 : List YA) (w4 : List YC) (w5 : List YA) : Option YAF :=
 if (decide ((v39 : Int) < v38)) = true then
 if (0 : Int) ≤ v39 ∧ (v39 : Int) < v37.length then
 (impl_commandOf.f (v37.getD (v39 : Int).toNat ByteArray.empty)).bind fun r2 =>
 if (!r2.2) = true then
 (impl_decimal.f 6).bind fun r3 =>
 if (⟨#[101, 114, 114, 111, 114, 32]⟩ : ByteArray).size + r3.size ≤ 9223372036854775807 then
 if q.length + ([(⟨#[101, 114, 114, 111, 114, 32]⟩ : ByteArray) ++ r3]).length < room 16 then
 L11 v37 v38 (IntKind.i64.wrap (v39 + 1)) (q ++ ([(⟨#[101, 114, 114, 111, 114, 32]⟩ : ByteArray) ++ r3])) d7 w3 w4 w5
 else
 none
 else
 none
 else
 (impl_execute.f d7 (r2.1.1, (r2.1.2.1, r2.1.2.2))).bind fun r4 =>
 if ((r4.2.2 : Int) != 0) = true then
 (impl_decimal.f r4.2.2).bind fun r5 =>
 if (⟨#[101, 114, 114, 111, 114, 32]⟩ : ByteArray).size + r5.size ≤ 9223372036854775807 then
 if q.length + ([(⟨#[101, 114, 114, 111, 114, 32]⟩ : ByteArray) ++ r5]).length < room 16 then
 L11 v37 v38 (IntKind.i64.wrap (v39 + 1)) (q ++ ([(⟨#[101, 114, 114, 111, 114, 32]⟩ : ByteArray) ++ r5])) d7 w3 w4 w5
 else
 none
 else
 none
 else if q.length + ([r4.2.1]).length < room 16 then
 L11 v37 v38 (IntKind.i64.wrap (v39 + 1)) (q ++ ([r4.2.1])) r4.1 w3 w4 w5
 else
 none
 else
 none
 else
 some (q, d7, 0)
def impl_runLines.l11 (n : Nat) : Nat → List ByteArray → Int → Int → List ByteArray → YF → YD → YE → YD → Option YAF
 | 0 => fun _ _ _ _ _ _ _ _ => none
 | k + 1 => impl_runLines.g11 (impl_runLines.l11 n k)
def impl_runLines.top (I11 : List ByteArray → Int → Int → List ByteArray → YF → YD → YE → YD → Option YAF) (p : ByteArray) : Option YAF :=
 if (decide ((1500 : Int) < (p.size : Int))) = true then
 some ([], ([], ([], [])), 3)
 else
 (impl_splitAt.f p 10).bind fun r1 =>
 if (0 : Int) ≤ (IntKind.i64.wrap ((r1.length : Int) - 1)) ∧ ((IntKind.i64.wrap ((r1.length : Int) - 1)) : Int) < r1.length then
 if ((r1.getD ((IntKind.i64.wrap ((r1.length : Int) - 1)) : Int).toNat ByteArray.empty).toList == (⟨#[]⟩ : ByteArray).toList) = true then
 if (0 : Int) ≤ (IntKind.i64.wrap ((r1.length : Int) - 1)) ∧ ((IntKind.i64.wrap ((r1.length : Int) - 1)) : Int) ≤ r1.length then
 if (decide ((40 : Int) < ((r1.take ((IntKind.i64.wrap ((r1.length : Int) - 1)) : Int).toNat).length : Int))) = true then
 some ([], ([], ([], [])), 3)
 else
 I11 (r1.take ((IntKind.i64.wrap ((r1.length : Int) - 1)) : Int).toNat) ((r1.take ((IntKind.i64.wrap ((r1.length : Int) - 1)) : Int).toNat).length : Int) 0 [] ([], ([], [])) [] [] []
 else
 none
 else if (decide ((40 : Int) < (r1.length : Int))) = true then
 some ([], ([], ([], [])), 3)
 else
 I11 r1 (r1.length : Int) 0 [] ([], ([], [])) [] [] []
 else
 none
def impl_runLines.fn (n : Nat) (p : ByteArray) : Option YAF := impl_runLines.top (impl_runLines.l11 n n) p
def impl_runLines.f (p : ByteArray) : Option YAF := impl_runLines.fn NN p
end
end Go.Pl

namespace Go.Pl
open Go.Ev
set_option linter.unusedVariables false
noncomputable section
def impl_RunConsole.top (p : ByteArray) : Option YAC :=
 (impl_runLines.f p).bind fun r1 =>
 some (r1.1, r1.2.2)
def impl_RunConsole.fn (n : Nat) (p : ByteArray) : Option YAC := impl_RunConsole.top p
def impl_RunConsole.f (p : ByteArray) : Option YAC := impl_RunConsole.fn NN p
end
end Go.Pl

namespace Go.Pl
open Go.Ev
set_option linter.unusedVariables false
noncomputable section
def laws_eqStringS.g4 (L4 : List ByteArray → List ByteArray → Int → Option Bool) (a0 : List ByteArray) (b1 : List ByteArray) (i5 : Int) : Option Bool :=
 if (decide ((i5 : Int) < (a0.length : Int))) = true then
 if (0 : Int) ≤ i5 ∧ (i5 : Int) < a0.length then
 if (0 : Int) ≤ i5 ∧ (i5 : Int) < b1.length then
 if (!((a0.getD (i5 : Int).toNat ByteArray.empty).toList == (b1.getD (i5 : Int).toNat ByteArray.empty).toList)) = true then
 some false
 else
 L4 a0 b1 (IntKind.i64.wrap (i5 + 1))
 else
 none
 else
 none
 else
 some true
def laws_eqStringS.l4 (n : Nat) : Nat → List ByteArray → List ByteArray → Int → Option Bool
 | 0 => fun _ _ _ => none
 | k + 1 => laws_eqStringS.g4 (laws_eqStringS.l4 n k)
def laws_eqStringS.top (I4 : List ByteArray → List ByteArray → Int → Option Bool) (a0 : List ByteArray) (b1 : List ByteArray) : Option Bool :=
 if (((a0.length : Int) : Int) != (b1.length : Int)) = true then
 some false
 else
 I4 a0 b1 0
def laws_eqStringS.fn (n : Nat) (a0 : List ByteArray) (b1 : List ByteArray) : Option Bool := laws_eqStringS.top (laws_eqStringS.l4 n n) a0 b1
def laws_eqStringS.f (a0 : List ByteArray) (b1 : List ByteArray) : Option Bool := laws_eqStringS.fn NN a0 b1
end
end Go.Pl

namespace Go.Pl
open Go.Ev
set_option linter.unusedVariables false
noncomputable section
def laws_markText.g4 (L4 : YAI) (k0 : Int) (p : ByteArray) : Option ByteArray :=
 if (decide ((0 : Int) < k0)) = true then
 if (bytesOf ([IntKind.u8.wrap (IntKind.i64.wrap (48 + (Int.tmod k0 10)))])).size + p.size ≤ 9223372036854775807 then
 L4 (IntKind.i64.wrap (Int.tdiv k0 10)) ((bytesOf ([IntKind.u8.wrap (IntKind.i64.wrap (48 + (Int.tmod k0 10)))])) ++ p)
 else
 none
 else if (⟨#[109]⟩ : ByteArray).size + p.size ≤ 9223372036854775807 then
 some ((⟨#[109]⟩ : ByteArray) ++ p)
 else
 none
def laws_markText.l4 (n : Nat) : Nat → Int → ByteArray → Option ByteArray
 | 0 => fun _ _ => none
 | k + 1 => laws_markText.g4 (laws_markText.l4 n k)
def laws_markText.top (I4 : YAI) (k0 : Int) : Option ByteArray :=
 if (decide ((k0 : Int) ≤ 0)) = true then
 some (⟨#[109, 48]⟩ : ByteArray)
 else
 I4 k0 (⟨#[]⟩ : ByteArray)
def laws_markText.fn (n : Nat) (k0 : Int) : Option ByteArray := laws_markText.top (laws_markText.l4 n n) k0
def laws_markText.f (k0 : Int) : Option ByteArray := laws_markText.fn NN k0
end
end Go.Pl

namespace Go.Pl
open Go.Ev
set_option linter.unusedVariables false
noncomputable section
def laws_heldStringS.g2 (L2 : List ByteArray → Int → Int → Option Int) (a0 : List ByteArray) (k1 : Int) (i5 : Int) : Option Int :=
 if (decide ((i5 : Int) < (a0.length : Int))) = true then
 if (0 : Int) ≤ i5 ∧ (i5 : Int) < a0.length then
 (laws_markText.f k1).bind fun r1 =>
 if (!((a0.getD (i5 : Int).toNat ByteArray.empty).toList == r1.toList)) = true then
 some (-1)
 else
 L2 a0 (IntKind.i64.wrap (k1 + 1)) (IntKind.i64.wrap (i5 + 1))
 else
 none
 else
 some k1
def laws_heldStringS.l2 (n : Nat) : Nat → List ByteArray → Int → Int → Option Int
 | 0 => fun _ _ _ => none
 | k + 1 => laws_heldStringS.g2 (laws_heldStringS.l2 n k)
def laws_heldStringS.top (I2 : List ByteArray → Int → Int → Option Int) (a0 : List ByteArray) (k1 : Int) : Option Int :=
 I2 a0 k1 0
def laws_heldStringS.fn (n : Nat) (a0 : List ByteArray) (k1 : Int) : Option Int := laws_heldStringS.top (laws_heldStringS.l2 n n) a0 k1
def laws_heldStringS.f (a0 : List ByteArray) (k1 : Int) : Option Int := laws_heldStringS.fn NN a0 k1
end
end Go.Pl

namespace Go.Pl
open Go.Ev
set_option linter.unusedVariables false
noncomputable section
def laws_markStringS.g2 (L2 : Int → Int → List ByteArray → Option YAM) (k1 : Int) (i5 : Int) (a0 : List ByteArray) : Option YAM :=
 if (decide ((i5 : Int) < (a0.length : Int))) = true then
 (laws_markText.f k1).bind fun r1 =>
 if (0 : Int) ≤ i5 ∧ (i5 : Int) < a0.length then
 L2 (IntKind.i64.wrap (k1 + 1)) (IntKind.i64.wrap (i5 + 1)) (a0.set (i5 : Int).toNat r1)
 else
 none
 else
 some (k1, a0)
def laws_markStringS.l2 (n : Nat) : Nat → Int → Int → List ByteArray → Option YAM
 | 0 => fun _ _ _ => none
 | k + 1 => laws_markStringS.g2 (laws_markStringS.l2 n k)
def laws_markStringS.top (I2 : Int → Int → List ByteArray → Option YAM) (a0 : List ByteArray) (k1 : Int) : Option YAM :=
 I2 k1 0 a0
def laws_markStringS.fn (n : Nat) (a0 : List ByteArray) (k1 : Int) : Option YAM := laws_markStringS.top (laws_markStringS.l2 n n) a0 k1
def laws_markStringS.f (a0 : List ByteArray) (k1 : Int) : Option YAM := laws_markStringS.fn NN a0 k1
end
end Go.Pl

namespace Go.Pl
open Go.Ev
set_option linter.unusedVariables false
noncomputable section
def spec_l34First.top  : Option YF :=
 some ([], ([], []))
def spec_l34First.fn (n : Nat)  : Option YF := spec_l34First.top 
def spec_l34First.f  : Option YF := spec_l34First.fn NN 
end
end Go.Pl

namespace Go.Pl
open Go.Ev
set_option linter.unusedVariables false
noncomputable section
def spec_l01Dec.top (S : Int → Option ByteArray) (n0 : Int) : Option ByteArray :=
 if (decide ((n0 : Int) < 10)) = true then
 some (bytesOf ([IntKind.u8.wrap (IntKind.i64.wrap (48 + n0))]))
 else
 (S (IntKind.i64.wrap (Int.tdiv n0 10))).bind fun r1 =>
 if r1.size + (bytesOf ([IntKind.u8.wrap (IntKind.i64.wrap (48 + (Int.tmod n0 10)))])).size ≤ 9223372036854775807 then
 some (r1 ++ (bytesOf ([IntKind.u8.wrap (IntKind.i64.wrap (48 + (Int.tmod n0 10)))])))
 else
 none
def spec_l01Dec.fn (S : Int → Option ByteArray) (n : Nat) (n0 : Int) : Option ByteArray := (spec_l01Dec.top S) n0
def spec_l01Dec.rc : Nat → Int → Option ByteArray
 | 0 => fun _ => none
 | k + 1 => (spec_l01Dec.fn (spec_l01Dec.rc k)) NN
def spec_l01Dec.f (n0 : Int) : Option ByteArray := spec_l01Dec.rc NN n0
end
end Go.Pl

namespace Go.Pl
open Go.Ev
set_option linter.unusedVariables false
noncomputable section
def spec_l20People.g3 (L3 : YAO) (p : List YA) (q : ByteArray) (n2 : Int) (r : Int) (i8 : Int) : Option Int :=
 if (decide ((i8 : Int) < n2)) = true then
 if (0 : Int) ≤ i8 ∧ (i8 : Int) < p.length then
 if ((((p.getD (i8 : Int).toNat (0, (ByteArray.empty, 0))).2).1).toList == q.toList) = true then
 if (0 : Int) ≤ i8 ∧ (i8 : Int) < p.length then
 L3 p q n2 (IntKind.i64.wrap (r + (((p.getD (i8 : Int).toNat (0, (ByteArray.empty, 0))).2).2))) (IntKind.i64.wrap (i8 + 1))
 else
 none
 else
 L3 p q n2 r (IntKind.i64.wrap (i8 + 1))
 else
 none
 else
 some r
def spec_l20People.l3 (n : Nat) : Nat → YD → ByteArray → Int → Int → Int → Option Int
 | 0 => fun _ _ _ _ _ => none
 | k + 1 => spec_l20People.g3 (spec_l20People.l3 n k)
def spec_l20People.top (I3 : YAO) (p : List YA) (q : ByteArray) (n2 : Int) : Option Int :=
 I3 p q n2 0 0
def spec_l20People.fn (n : Nat) (p : List YA) (q : ByteArray) (n2 : Int) : Option Int := spec_l20People.top (spec_l20People.l3 n n) p q n2
def spec_l20People.f (p : List YA) (q : ByteArray) (n2 : Int) : Option Int := spec_l20People.fn NN p q n2
end
end Go.Pl

namespace Go.Pl
open Go.Ev
set_option linter.unusedVariables false
noncomputable section
def spec_l20Upto.g2 (L2 : YD → Int → Int → Option Int) (p : List YA) (t1 : Int) (n5 : Int) : Option Int :=
 if (decide ((n5 : Int) < (p.length : Int))) = true then
 if (0 : Int) ≤ n5 ∧ (n5 : Int) < p.length then
 if (decide ((((p.getD (n5 : Int).toNat (0, (ByteArray.empty, 0))).1) : Int) ≤ t1)) = true then
 L2 p t1 (IntKind.i64.wrap (n5 + 1))
 else
 some n5
 else
 none
 else
 some n5
def spec_l20Upto.l2 (n : Nat) : Nat → YD → Int → Int → Option Int
 | 0 => fun _ _ _ => none
 | k + 1 => spec_l20Upto.g2 (spec_l20Upto.l2 n k)
def spec_l20Upto.top (I2 : YD → Int → Int → Option Int) (p : List YA) (t1 : Int) : Option Int :=
 I2 p t1 0
def spec_l20Upto.fn (n : Nat) (p : List YA) (t1 : Int) : Option Int := spec_l20Upto.top (spec_l20Upto.l2 n n) p t1
def spec_l20Upto.f (p : List YA) (t1 : Int) : Option Int := spec_l20Upto.fn NN p t1
end
end Go.Pl

namespace Go.Pl
open Go.Ev
set_option linter.unusedVariables false
noncomputable section
def spec_l20Clear.g3 (L3 : YD → ByteArray → Int → Int → Int → Option Bool) (p : List YA) (q : ByteArray) (t2 : Int) (n7 : Int) (i8 : Int) : Option Bool :=
 if (decide ((i8 : Int) < n7)) = true then
 if (0 : Int) ≤ i8 ∧ (i8 : Int) < p.length then
 if ((((p.getD (i8 : Int).toNat (0, (ByteArray.empty, 0))).2).1).toList == q.toList) = true then
 if (0 : Int) ≤ i8 ∧ (i8 : Int) < p.length then
 if (decide ((t2 : Int) < (IntKind.i64.wrap (((p.getD (i8 : Int).toNat (0, (ByteArray.empty, 0))).1) + 30000)))) = true then
 some false
 else
 L3 p q t2 n7 (IntKind.i64.wrap (i8 + 1))
 else
 none
 else
 L3 p q t2 n7 (IntKind.i64.wrap (i8 + 1))
 else
 none
 else
 (spec_l20People.f p q n7).bind fun r2 =>
 some ((r2 : Int) == 0)
def spec_l20Clear.l3 (n : Nat) : Nat → YD → ByteArray → Int → Int → Int → Option Bool
 | 0 => fun _ _ _ _ _ => none
 | k + 1 => spec_l20Clear.g3 (spec_l20Clear.l3 n k)
def spec_l20Clear.top (I3 : YD → ByteArray → Int → Int → Int → Option Bool) (p : List YA) (q : ByteArray) (t2 : Int) : Option Bool :=
 (spec_l20Upto.f p t2).bind fun r1 =>
 I3 p q t2 r1 0
def spec_l20Clear.fn (n : Nat) (p : List YA) (q : ByteArray) (t2 : Int) : Option Bool := spec_l20Clear.top (spec_l20Clear.l3 n n) p q t2
def spec_l20Clear.f (p : List YA) (q : ByteArray) (t2 : Int) : Option Bool := spec_l20Clear.fn NN p q t2
end
end Go.Pl

namespace Go.Pl
open Go.Ev
set_option linter.unusedVariables false
noncomputable section
def spec_l01In.top (n0 : Int) (q : Int) (p : Int) : Option Bool :=
 if (decide ((q : Int) ≤ n0)) = true then
 some (decide ((n0 : Int) ≤ p))
 else
 some false
def spec_l01In.fn (n : Nat) (n0 : Int) (q : Int) (p : Int) : Option Bool := spec_l01In.top n0 q p
def spec_l01In.f (n0 : Int) (q : Int) (p : Int) : Option Bool := spec_l01In.fn NN n0 q p
end
end Go.Pl

namespace Go.Pl
open Go.Ev
set_option linter.unusedVariables false
noncomputable section
def spec_IsWord.g2 (L2 : ByteArray → Int → Option Bool) (s0 : ByteArray) (i3 : Int) : Option Bool :=
 if (decide ((i3 : Int) < (s0.size : Int))) = true then
 if (0 : Int) ≤ i3 ∧ (i3 : Int) < s0.size then
 if (decide (((bt s0 i3) : Int) < 97)) = false then
 if (0 : Int) ≤ i3 ∧ (i3 : Int) < s0.size then
 if (decide ((122 : Int) < (bt s0 i3))) = true then
 some false
 else
 L2 s0 (IntKind.i64.wrap (i3 + 1))
 else
 none
 else
 some false
 else
 none
 else
 (spec_l01In.f (s0.size : Int) 1 16).bind fun r1 =>
 some r1
def spec_IsWord.l2 (n : Nat) : Nat → ByteArray → Int → Option Bool
 | 0 => fun _ _ => none
 | k + 1 => spec_IsWord.g2 (spec_IsWord.l2 n k)
def spec_IsWord.top (I2 : ByteArray → Int → Option Bool) (s0 : ByteArray) : Option Bool :=
 I2 s0 0
def spec_IsWord.fn (n : Nat) (s0 : ByteArray) : Option Bool := spec_IsWord.top (spec_IsWord.l2 n n) s0
def spec_IsWord.f (s0 : ByteArray) : Option Bool := spec_IsWord.fn NN s0
end
end Go.Pl

namespace Go.Pl
open Go.Ev
set_option linter.unusedVariables false
noncomputable section
def spec_l01IsTime.top (t0 : Int) : Option Bool :=
 (spec_l01In.f t0 0 10000000).bind fun r1 =>
 some r1
def spec_l01IsTime.fn (n : Nat) (t0 : Int) : Option Bool := spec_l01IsTime.top t0
def spec_l01IsTime.f (t0 : Int) : Option Bool := spec_l01IsTime.fn NN t0
end
end Go.Pl

namespace Go.Pl
open Go.Ev
set_option linter.unusedVariables false
noncomputable section
def spec_AreMoves.g2 (L2 : YD → Int → Option Bool) (p : List YA) (i3 : Int) : Option Bool :=
 if (decide ((i3 : Int) < (p.length : Int))) = true then
 if (0 : Int) ≤ i3 ∧ (i3 : Int) < p.length then
 (spec_l01IsTime.f ((p.getD (i3 : Int).toNat (0, (ByteArray.empty, 0))).1)).bind fun r1 =>
 if (!r1) = false then
 (spec_IsWord.f (((p.getD (i3 : Int).toNat (0, (ByteArray.empty, 0))).2).1)).bind fun r2 =>
 if (!r2) = false then
 (spec_l01In.f (((p.getD (i3 : Int).toNat (0, (ByteArray.empty, 0))).2).2) (-1000) 1000).bind fun r3 =>
 if (!r3) = false then
 if (((((p.getD (i3 : Int).toNat (0, (ByteArray.empty, 0))).2).2) : Int) == 0) = false then
 if (decide ((0 : Int) < i3)) = true then
 if (0 : Int) ≤ (IntKind.i64.wrap (i3 - 1)) ∧ ((IntKind.i64.wrap (i3 - 1)) : Int) < p.length then
 if (decide ((((p.getD (i3 : Int).toNat (0, (ByteArray.empty, 0))).1) : Int) < ((p.getD ((IntKind.i64.wrap (i3 - 1)) : Int).toNat (0, (ByteArray.empty, 0))).1))) = false then
 (spec_l20People.f p (((p.getD (i3 : Int).toNat (0, (ByteArray.empty, 0))).2).1) (IntKind.i64.wrap (i3 + 1))).bind fun r4 =>
 if (decide ((r4 : Int) < 0)) = true then
 some false
 else
 L2 p (IntKind.i64.wrap (i3 + 1))
 else
 some false
 else
 none
 else
 (spec_l20People.f p (((p.getD (i3 : Int).toNat (0, (ByteArray.empty, 0))).2).1) (IntKind.i64.wrap (i3 + 1))).bind fun r5 =>
 if (decide ((r5 : Int) < 0)) = true then
 some false
 else
 L2 p (IntKind.i64.wrap (i3 + 1))
 else
 some false
 else
 some false
 else
 some false
 else
 some false
 else
 none
 else
 some (decide (((p.length : Int) : Int) ≤ 40))
def spec_AreMoves.l2 (n : Nat) : Nat → YD → Int → Option Bool
 | 0 => fun _ _ => none
 | k + 1 => spec_AreMoves.g2 (spec_AreMoves.l2 n k)
def spec_AreMoves.top (I2 : YD → Int → Option Bool) (p : List YA) : Option Bool :=
 I2 p 0
def spec_AreMoves.fn (n : Nat) (p : List YA) : Option Bool := spec_AreMoves.top (spec_AreMoves.l2 n n) p
def spec_AreMoves.f (p : List YA) : Option Bool := spec_AreMoves.fn NN p
end
end Go.Pl

namespace Go.Pl
open Go.Ev
set_option linter.unusedVariables false
noncomputable section
def spec_l20Code.top (p : List YA) (q : ByteArray) (t2 : Int) : Option Int :=
 (spec_AreMoves.f p).bind fun r1 =>
 if (!r1) = false then
 (spec_IsWord.f q).bind fun r2 =>
 if (!r2) = true then
 some 1
 else
 (spec_l01IsTime.f t2).bind fun r3 =>
 if (!r3) = true then
 some 2
 else
 some 0
 else
 some 1
def spec_l20Code.fn (n : Nat) (p : List YA) (q : ByteArray) (t2 : Int) : Option Int := spec_l20Code.top p q t2
def spec_l20Code.f (p : List YA) (q : ByteArray) (t2 : Int) : Option Int := spec_l20Code.fn NN p q t2
end
end Go.Pl

namespace Go.Pl
open Go.Ev
set_option linter.unusedVariables false
noncomputable section
def spec_IsClear.top (p : List YA) (q : ByteArray) (t2 : Int) : Option (Bool × Int) :=
 (spec_l20Code.f p q t2).bind fun r1 =>
 if ((r1 : Int) != 0) = true then
 some (false, r1)
 else
 (spec_l20Clear.f p q t2).bind fun r2 =>
 some (r2, 0)
def spec_IsClear.fn (n : Nat) (p : List YA) (q : ByteArray) (t2 : Int) : Option (Bool × Int) := spec_IsClear.top p q t2
def spec_IsClear.f (p : List YA) (q : ByteArray) (t2 : Int) : Option (Bool × Int) := spec_IsClear.fn NN p q t2
end
end Go.Pl

namespace Go.Pl
open Go.Ev
set_option linter.unusedVariables false
noncomputable section
def spec_l32Left.g3 (L3 : YAO) (p : List YA) (q : ByteArray) (n2 : Int) (r : Int) (i8 : Int) : Option Int :=
 if (decide ((i8 : Int) < n2)) = true then
 if (0 : Int) ≤ i8 ∧ (i8 : Int) < p.length then
 if (!((((p.getD (i8 : Int).toNat (0, (ByteArray.empty, 0))).2).1).toList == q.toList)) = true then
 L3 p q n2 r (IntKind.i64.wrap (i8 + 1))
 else if (0 : Int) ≤ i8 ∧ (i8 : Int) < p.length then
 if ((((p.getD (i8 : Int).toNat (0, (ByteArray.empty, 0))).1) : Int) == 0) = true then
 if (0 : Int) ≤ i8 ∧ (i8 : Int) < p.length then
 L3 p q n2 (IntKind.i64.wrap (r + (((p.getD (i8 : Int).toNat (0, (ByteArray.empty, 0))).2).2))) (IntKind.i64.wrap (i8 + 1))
 else
 none
 else if (0 : Int) ≤ i8 ∧ (i8 : Int) < p.length then
 L3 p q n2 (IntKind.i64.wrap (r - (((p.getD (i8 : Int).toNat (0, (ByteArray.empty, 0))).2).2))) (IntKind.i64.wrap (i8 + 1))
 else
 none
 else
 none
 else
 none
 else
 some r
def spec_l32Left.l3 (n : Nat) : Nat → YD → ByteArray → Int → Int → Int → Option Int
 | 0 => fun _ _ _ _ _ => none
 | k + 1 => spec_l32Left.g3 (spec_l32Left.l3 n k)
def spec_l32Left.top (I3 : YAO) (p : List YA) (q : ByteArray) (n2 : Int) : Option Int :=
 I3 p q n2 0 0
def spec_l32Left.fn (n : Nat) (p : List YA) (q : ByteArray) (n2 : Int) : Option Int := spec_l32Left.top (spec_l32Left.l3 n n) p q n2
def spec_l32Left.f (p : List YA) (q : ByteArray) (n2 : Int) : Option Int := spec_l32Left.fn NN p q n2
end
end Go.Pl

namespace Go.Pl
open Go.Ev
set_option linter.unusedVariables false
noncomputable section
def spec_AreBookings.g2 (L2 : YD → Int → Option Bool) (p : List YA) (i3 : Int) : Option Bool :=
 if (decide ((i3 : Int) < (p.length : Int))) = true then
 if (0 : Int) ≤ i3 ∧ (i3 : Int) < p.length then
 (spec_l01In.f ((p.getD (i3 : Int).toNat (0, (ByteArray.empty, 0))).1) 0 3).bind fun r1 =>
 if (!r1) = false then
 (spec_IsWord.f (((p.getD (i3 : Int).toNat (0, (ByteArray.empty, 0))).2).1)).bind fun r2 =>
 if (!r2) = false then
 (spec_l01In.f (((p.getD (i3 : Int).toNat (0, (ByteArray.empty, 0))).2).2) 1 1000).bind fun r3 =>
 if (!r3) = false then
 (spec_l32Left.f p (((p.getD (i3 : Int).toNat (0, (ByteArray.empty, 0))).2).1) (IntKind.i64.wrap (i3 + 1))).bind fun r4 =>
 if (decide ((r4 : Int) < 0)) = true then
 some false
 else
 L2 p (IntKind.i64.wrap (i3 + 1))
 else
 some false
 else
 some false
 else
 some false
 else
 none
 else
 some (decide (((p.length : Int) : Int) ≤ 60))
def spec_AreBookings.l2 (n : Nat) : Nat → YD → Int → Option Bool
 | 0 => fun _ _ => none
 | k + 1 => spec_AreBookings.g2 (spec_AreBookings.l2 n k)
def spec_AreBookings.top (I2 : YD → Int → Option Bool) (p : List YA) : Option Bool :=
 I2 p 0
def spec_AreBookings.fn (n : Nat) (p : List YA) : Option Bool := spec_AreBookings.top (spec_AreBookings.l2 n n) p
def spec_AreBookings.f (p : List YA) : Option Bool := spec_AreBookings.fn NN p
end
end Go.Pl

namespace Go.Pl
open Go.Ev
set_option linter.unusedVariables false
noncomputable section
def spec_PiecesLeft.top (q : List YA) (p : ByteArray) : Option YC :=
 (spec_AreBookings.f q).bind fun r1 =>
 if (!r1) = false then
 (spec_IsWord.f p).bind fun r2 =>
 if (!r2) = true then
 some (0, 1)
 else
 (spec_l32Left.f q p (q.length : Int)).bind fun r3 =>
 some (r3, 0)
 else
 some (0, 1)
def spec_PiecesLeft.fn (n : Nat) (q : List YA) (p : ByteArray) : Option YC := spec_PiecesLeft.top q p
def spec_PiecesLeft.f (q : List YA) (p : ByteArray) : Option YC := spec_PiecesLeft.fn NN q p
end
end Go.Pl

namespace Go.Pl
open Go.Ev
set_option linter.unusedVariables false
noncomputable section
def spec_l27Code.top (p : Int) (q : Int) : Option Int :=
 (spec_l01In.f p 0 500).bind fun r1 =>
 if (!r1) = false then
 (spec_l01In.f q 0 100000000).bind fun r2 =>
 if (!r2) = true then
 some 2
 else
 some 0
 else
 some 2
def spec_l27Code.fn (n : Nat) (p : Int) (q : Int) : Option Int := spec_l27Code.top p q
def spec_l27Code.f (p : Int) (q : Int) : Option Int := spec_l27Code.fn NN p q
end
end Go.Pl

namespace Go.Pl
open Go.Ev
set_option linter.unusedVariables false
noncomputable section
def spec_l27Cube.top (n0 : Int) : Option Int :=
 some (IntKind.i64.wrap ((IntKind.i64.wrap (n0 * n0)) * n0))
def spec_l27Cube.fn (n : Nat) (n0 : Int) : Option Int := spec_l27Cube.top n0
def spec_l27Cube.f (n0 : Int) : Option Int := spec_l27Cube.fn NN n0
end
end Go.Pl

namespace Go.Pl
open Go.Ev
set_option linter.unusedVariables false
noncomputable section
def spec_l27Need.g2 (L2 : Int → Int → Int → Int → Option Int) (p : Int) (q : Int) (s : Int) (r : Int) : Option Int :=
 if (decide (((IntKind.i64.wrap (s + 1)) : Int) < r)) = true then
 (spec_l27Cube.f (IntKind.i64.wrap (Int.tdiv (IntKind.i64.wrap (s + r)) 2))).bind fun r1 =>
 (spec_l27Cube.f p).bind fun r2 =>
 if (decide (((IntKind.i64.wrap (r2 * q)) : Int) ≤ r1)) = true then
 L2 p q s (IntKind.i64.wrap (Int.tdiv (IntKind.i64.wrap (s + r)) 2))
 else
 L2 p q (IntKind.i64.wrap (Int.tdiv (IntKind.i64.wrap (s + r)) 2)) r
 else
 some r
def spec_l27Need.l2 (n : Nat) : Nat → Int → Int → Int → Int → Option Int
 | 0 => fun _ _ _ _ => none
 | k + 1 => spec_l27Need.g2 (spec_l27Need.l2 n k)
def spec_l27Need.top (I2 : Int → Int → Int → Int → Option Int) (p : Int) (q : Int) : Option Int :=
 I2 p q (-1) 300000
def spec_l27Need.fn (n : Nat) (p : Int) (q : Int) : Option Int := spec_l27Need.top (spec_l27Need.l2 n n) p q
def spec_l27Need.f (p : Int) (q : Int) : Option Int := spec_l27Need.fn NN p q
end
end Go.Pl

namespace Go.Pl
open Go.Ev
set_option linter.unusedVariables false
noncomputable section
def spec_SeparationFor.top (p : Int) (q : Int) : Option YC :=
 (spec_l27Code.f p q).bind fun r1 =>
 if ((r1 : Int) != 0) = true then
 some (0, r1)
 else
 (spec_l27Need.f p q).bind fun r2 =>
 some (r2, 0)
def spec_SeparationFor.fn (n : Nat) (p : Int) (q : Int) : Option YC := spec_SeparationFor.top p q
def spec_SeparationFor.f (p : Int) (q : Int) : Option YC := spec_SeparationFor.fn NN p q
end
end Go.Pl

namespace Go.Pl
open Go.Ev
set_option linter.unusedVariables false
noncomputable section
def spec_l01Time.top (t0 : Int) : Option ByteArray :=
 (spec_l01Dec.f (IntKind.i64.wrap (Int.tdiv t0 60000))).bind fun r1 =>
 if r1.size + (⟨#[58]⟩ : ByteArray).size ≤ 9223372036854775807 then
 (spec_l01Dec.f (IntKind.i64.wrap (Int.tdiv (Int.tmod (IntKind.i64.wrap (Int.tdiv t0 1000)) 60) 10))).bind fun r2 =>
 if (r1 ++ (⟨#[58]⟩ : ByteArray)).size + r2.size ≤ 9223372036854775807 then
 (spec_l01Dec.f (Int.tmod (Int.tmod (IntKind.i64.wrap (Int.tdiv t0 1000)) 60) 10)).bind fun r3 =>
 if ((r1 ++ (⟨#[58]⟩ : ByteArray)) ++ r2).size + r3.size ≤ 9223372036854775807 then
 if (((r1 ++ (⟨#[58]⟩ : ByteArray)) ++ r2) ++ r3).size + (⟨#[46]⟩ : ByteArray).size ≤ 9223372036854775807 then
 (spec_l01Dec.f (IntKind.i64.wrap (Int.tdiv (Int.tmod t0 1000) 100))).bind fun r4 =>
 if ((((r1 ++ (⟨#[58]⟩ : ByteArray)) ++ r2) ++ r3) ++ (⟨#[46]⟩ : ByteArray)).size + r4.size ≤ 9223372036854775807 then
 (spec_l01Dec.f (Int.tmod (IntKind.i64.wrap (Int.tdiv (Int.tmod t0 1000) 10)) 10)).bind fun r5 =>
 if (((((r1 ++ (⟨#[58]⟩ : ByteArray)) ++ r2) ++ r3) ++ (⟨#[46]⟩ : ByteArray)) ++ r4).size + r5.size ≤ 9223372036854775807 then
 (spec_l01Dec.f (Int.tmod (Int.tmod t0 1000) 10)).bind fun r6 =>
 if ((((((r1 ++ (⟨#[58]⟩ : ByteArray)) ++ r2) ++ r3) ++ (⟨#[46]⟩ : ByteArray)) ++ r4) ++ r5).size + r6.size ≤ 9223372036854775807 then
 some (((((((r1 ++ (⟨#[58]⟩ : ByteArray)) ++ r2) ++ r3) ++ (⟨#[46]⟩ : ByteArray)) ++ r4) ++ r5) ++ r6)
 else
 none
 else
 none
 else
 none
 else
 none
 else
 none
 else
 none
 else
 none
def spec_l01Time.fn (n : Nat) (t0 : Int) : Option ByteArray := spec_l01Time.top t0
def spec_l01Time.f (t0 : Int) : Option ByteArray := spec_l01Time.fn NN t0
end
end Go.Pl

namespace Go.Pl
open Go.Ev
set_option linter.unusedVariables false
noncomputable section
def spec_TimeText.top (t0 : Int) : Option YP :=
 (spec_l01IsTime.f t0).bind fun r1 =>
 if (!r1) = true then
 some ((⟨#[]⟩ : ByteArray), 2)
 else
 (spec_l01Time.f t0).bind fun r2 =>
 some (r2, 0)
def spec_TimeText.fn (n : Nat) (t0 : Int) : Option YP := spec_TimeText.top t0
def spec_TimeText.f (t0 : Int) : Option YP := spec_TimeText.fn NN t0
end
end Go.Pl

namespace Go.Pl
open Go.Ev
set_option linter.unusedVariables false
noncomputable section
def spec_l04Code.top (up0 : Int) (p : Int) (q : Int) (t3 : Int) : Option Int :=
 (spec_l01In.f up0 0 200000).bind fun r1 =>
 if (!r1) = false then
 (spec_l01In.f p (-50000) 50000).bind fun r2 =>
 if (!r2) = false then
 (spec_l01In.f q (-50000) 50000).bind fun r3 =>
 if (!r3) = false then
 (spec_l01In.f t3 0 60000).bind fun r4 =>
 if (!r4) = true then
 some 2
 else
 some 0
 else
 some 2
 else
 some 2
 else
 some 2
def spec_l04Code.fn (n : Nat) (up0 : Int) (p : Int) (q : Int) (t3 : Int) : Option Int := spec_l04Code.top up0 p q t3
def spec_l04Code.f (up0 : Int) (p : Int) (q : Int) (t3 : Int) : Option Int := spec_l04Code.fn NN up0 p q t3
end
end Go.Pl

namespace Go.Pl
open Go.Ev
set_option linter.unusedVariables false
noncomputable section
def spec_l01Floor.top (a0 : Int) (b1 : Int) : Option Int :=
 if (decide ((b1 : Int) < 0)) = true then
 if (IntKind.i64.wrap (0 - b1)) = 0 then
 none
 else if (IntKind.i64.wrap (0 - b1)) = 0 then
 none
 else if (decide (((Int.tmod (IntKind.i64.wrap (0 - a0)) (IntKind.i64.wrap (0 - b1))) : Int) < 0)) = true then
 some (IntKind.i64.wrap ((IntKind.i64.wrap (Int.tdiv (IntKind.i64.wrap (0 - a0)) (IntKind.i64.wrap (0 - b1)))) - 1))
 else
 some (IntKind.i64.wrap (Int.tdiv (IntKind.i64.wrap (0 - a0)) (IntKind.i64.wrap (0 - b1))))
 else if b1 = 0 then
 none
 else if b1 = 0 then
 none
 else if (decide (((Int.tmod a0 b1) : Int) < 0)) = true then
 some (IntKind.i64.wrap ((IntKind.i64.wrap (Int.tdiv a0 b1)) - 1))
 else
 some (IntKind.i64.wrap (Int.tdiv a0 b1))
def spec_l01Floor.fn (n : Nat) (a0 : Int) (b1 : Int) : Option Int := spec_l01Floor.top a0 b1
def spec_l01Floor.f (a0 : Int) (b1 : Int) : Option Int := spec_l01Floor.fn NN a0 b1
end
end Go.Pl

namespace Go.Pl
open Go.Ev
set_option linter.unusedVariables false
noncomputable section
def spec_l04Height.top (up0 : Int) (t1 : Int) : Option Int :=
 (spec_l01Floor.f (IntKind.i64.wrap ((IntKind.i64.wrap ((IntKind.i64.wrap (2000 * up0)) * t1)) - (IntKind.i64.wrap ((IntKind.i64.wrap (9810 * t1)) * t1)))) 2000000).bind fun r1 =>
 some r1
def spec_l04Height.fn (n : Nat) (up0 : Int) (t1 : Int) : Option Int := spec_l04Height.top up0 t1
def spec_l04Height.f (up0 : Int) (t1 : Int) : Option Int := spec_l04Height.fn NN up0 t1
end
end Go.Pl

namespace Go.Pl
open Go.Ev
set_option linter.unusedVariables false
noncomputable section
def spec_l04Top.g3 (L3 : Int → Int → Int → Option YC) (up0 : Int) (t4 : Int) (p : Int) : Option YC :=
 if (decide ((0 : Int) < t4)) = true then
 (spec_l04Height.f up0 (IntKind.i64.wrap (t4 - 1))).bind fun r3 =>
 if ((r3 : Int) == p) = true then
 L3 up0 (IntKind.i64.wrap (t4 - 1)) p
 else
 (spec_l04Height.f up0 t4).bind fun r4 =>
 if (decide ((r4 : Int) < p)) = true then
 some (IntKind.i64.wrap (t4 + 1), p)
 else
 some (t4, p)
 else
 (spec_l04Height.f up0 t4).bind fun r5 =>
 if (decide ((r5 : Int) < p)) = true then
 some (IntKind.i64.wrap (t4 + 1), p)
 else
 some (t4, p)
def spec_l04Top.l3 (n : Nat) : Nat → Int → Int → Int → Option YC
 | 0 => fun _ _ _ => none
 | k + 1 => spec_l04Top.g3 (spec_l04Top.l3 n k)
def spec_l04Top.top (I3 : Int → Int → Int → Option YC) (up0 : Int) : Option YC :=
 (spec_l04Height.f up0 (IntKind.i64.wrap (Int.tdiv (IntKind.i64.wrap (1000 * up0)) 9810))).bind fun r1 =>
 (spec_l04Height.f up0 (IntKind.i64.wrap ((IntKind.i64.wrap (Int.tdiv (IntKind.i64.wrap (1000 * up0)) 9810)) + 1))).bind fun r2 =>
 I3 up0 (IntKind.i64.wrap (Int.tdiv (IntKind.i64.wrap (1000 * up0)) 9810)) (if r2 > r1 then r2 else r1)
def spec_l04Top.fn (n : Nat) (up0 : Int) : Option YC := spec_l04Top.top (spec_l04Top.l3 n n) up0
def spec_l04Top.f (up0 : Int) : Option YC := spec_l04Top.fn NN up0
end
end Go.Pl

namespace Go.Pl
open Go.Ev
set_option linter.unusedVariables false
noncomputable section
def spec_TopOf.top (up0 : Int) : Option (Int × Int × Int) :=
 (spec_l04Code.f up0 0 0 0).bind fun r1 =>
 if ((r1 : Int) != 0) = true then
 some (0, 0, r1)
 else
 (spec_l04Top.f up0).bind fun r2 =>
 some (r2.1, r2.2, 0)
def spec_TopOf.fn (n : Nat) (up0 : Int) : Option (Int × Int × Int) := spec_TopOf.top up0
def spec_TopOf.f (up0 : Int) : Option (Int × Int × Int) := spec_TopOf.fn NN up0
end
end Go.Pl

namespace Go.Pl
open Go.Ev
set_option linter.unusedVariables false
noncomputable section
def spec_l01Words.g3 (L3 : List ByteArray → ByteArray → ByteArray → Int → Option ByteArray) (p : List ByteArray) (by1 : ByteArray) (q : ByteArray) (i6 : Int) : Option ByteArray :=
 if (decide ((i6 : Int) < (p.length : Int))) = true then
 if (decide ((0 : Int) < i6)) = true then
 if q.size + by1.size ≤ 9223372036854775807 then
 if (0 : Int) ≤ i6 ∧ (i6 : Int) < p.length then
 if (q ++ by1).size + (p.getD (i6 : Int).toNat ByteArray.empty).size ≤ 9223372036854775807 then
 L3 p by1 ((q ++ by1) ++ (p.getD (i6 : Int).toNat ByteArray.empty)) (IntKind.i64.wrap (i6 + 1))
 else
 none
 else
 none
 else
 none
 else if (0 : Int) ≤ i6 ∧ (i6 : Int) < p.length then
 if q.size + (p.getD (i6 : Int).toNat ByteArray.empty).size ≤ 9223372036854775807 then
 L3 p by1 (q ++ (p.getD (i6 : Int).toNat ByteArray.empty)) (IntKind.i64.wrap (i6 + 1))
 else
 none
 else
 none
 else
 some q
def spec_l01Words.l3 (n : Nat) : Nat → List ByteArray → ByteArray → ByteArray → Int → Option ByteArray
 | 0 => fun _ _ _ _ => none
 | k + 1 => spec_l01Words.g3 (spec_l01Words.l3 n k)
def spec_l01Words.top (I3 : List ByteArray → ByteArray → ByteArray → Int → Option ByteArray) (p : List ByteArray) (by1 : ByteArray) : Option ByteArray :=
 I3 p by1 (⟨#[]⟩ : ByteArray) 0
def spec_l01Words.fn (n : Nat) (p : List ByteArray) (by1 : ByteArray) : Option ByteArray := spec_l01Words.top (spec_l01Words.l3 n n) p by1
def spec_l01Words.f (p : List ByteArray) (by1 : ByteArray) : Option ByteArray := spec_l01Words.fn NN p by1
end
end Go.Pl

namespace Go.Pl
open Go.Ev
set_option linter.unusedVariables false
noncomputable section
def spec_l20Insert.g2 (L2 : YZ) (s1 : ByteArray) (at5 : Int) (p : List ByteArray) : Option YG :=
 if (decide ((at5 : Int) < (p.length : Int))) = true then
 if (0 : Int) ≤ at5 ∧ (at5 : Int) < p.length then
 if (Op.bytesLess (p.getD (at5 : Int).toNat ByteArray.empty).toList s1.toList) = true then
 L2 s1 (IntKind.i64.wrap (at5 + 1)) p
 else if (decide ((at5 : Int) < (p.length : Int))) = true then
 if (0 : Int) ≤ at5 ∧ (at5 : Int) < p.length then
 if ((p.getD (at5 : Int).toNat ByteArray.empty).toList == s1.toList) = true then
 some p
 else if (0 : Int) ≤ at5 ∧ (at5 : Int) ≤ p.length then
 if (0 : Int) ≤ at5 ∧ (at5 : Int) ≤ p.length then
 if ([] : List ByteArray).length + (p.take (at5 : Int).toNat).length < room 16 then
 if (([] : List ByteArray) ++ (p.take (at5 : Int).toNat)).length + ([s1]).length < room 16 then
 if ((([] : List ByteArray) ++ (p.take (at5 : Int).toNat)) ++ ([s1])).length + (p.drop (at5 : Int).toNat).length < room 16 then
 some (((([] : List ByteArray) ++ (p.take (at5 : Int).toNat)) ++ ([s1])) ++ (p.drop (at5 : Int).toNat))
 else
 none
 else
 none
 else
 none
 else
 none
 else
 none
 else
 none
 else if (0 : Int) ≤ at5 ∧ (at5 : Int) ≤ p.length then
 if (0 : Int) ≤ at5 ∧ (at5 : Int) ≤ p.length then
 if ([] : List ByteArray).length + (p.take (at5 : Int).toNat).length < room 16 then
 if (([] : List ByteArray) ++ (p.take (at5 : Int).toNat)).length + ([s1]).length < room 16 then
 if ((([] : List ByteArray) ++ (p.take (at5 : Int).toNat)) ++ ([s1])).length + (p.drop (at5 : Int).toNat).length < room 16 then
 some (((([] : List ByteArray) ++ (p.take (at5 : Int).toNat)) ++ ([s1])) ++ (p.drop (at5 : Int).toNat))
 else
 none
 else
 none
 else
 none
 else
 none
 else
 none
 else
 none
 else if (decide ((at5 : Int) < (p.length : Int))) = true then
 if (0 : Int) ≤ at5 ∧ (at5 : Int) < p.length then
 if ((p.getD (at5 : Int).toNat ByteArray.empty).toList == s1.toList) = true then
 some p
 else if (0 : Int) ≤ at5 ∧ (at5 : Int) ≤ p.length then
 if (0 : Int) ≤ at5 ∧ (at5 : Int) ≤ p.length then
 if ([] : List ByteArray).length + (p.take (at5 : Int).toNat).length < room 16 then
 if (([] : List ByteArray) ++ (p.take (at5 : Int).toNat)).length + ([s1]).length < room 16 then
 if ((([] : List ByteArray) ++ (p.take (at5 : Int).toNat)) ++ ([s1])).length + (p.drop (at5 : Int).toNat).length < room 16 then
 some (((([] : List ByteArray) ++ (p.take (at5 : Int).toNat)) ++ ([s1])) ++ (p.drop (at5 : Int).toNat))
 else
 none
 else
 none
 else
 none
 else
 none
 else
 none
 else
 none
 else if (0 : Int) ≤ at5 ∧ (at5 : Int) ≤ p.length then
 if (0 : Int) ≤ at5 ∧ (at5 : Int) ≤ p.length then
 if ([] : List ByteArray).length + (p.take (at5 : Int).toNat).length < room 16 then
 if (([] : List ByteArray) ++ (p.take (at5 : Int).toNat)).length + ([s1]).length < room 16 then
 if ((([] : List ByteArray) ++ (p.take (at5 : Int).toNat)) ++ ([s1])).length + (p.drop (at5 : Int).toNat).length < room 16 then
 some (((([] : List ByteArray) ++ (p.take (at5 : Int).toNat)) ++ ([s1])) ++ (p.drop (at5 : Int).toNat))
 else
 none
 else
 none
 else
 none
 else
 none
 else
 none
def spec_l20Insert.l2 (n : Nat) : Nat → ByteArray → Int → List ByteArray → Option YG
 | 0 => fun _ _ _ => none
 | k + 1 => spec_l20Insert.g2 (spec_l20Insert.l2 n k)
def spec_l20Insert.top (I2 : YZ) (p : List ByteArray) (s1 : ByteArray) : Option YG :=
 I2 s1 0 p
def spec_l20Insert.fn (n : Nat) (p : List ByteArray) (s1 : ByteArray) : Option YG := spec_l20Insert.top (spec_l20Insert.l2 n n) p s1
def spec_l20Insert.f (p : List ByteArray) (s1 : ByteArray) : Option YG := spec_l20Insert.fn NN p s1
end
end Go.Pl

namespace Go.Pl
open Go.Ev
set_option linter.unusedVariables false
noncomputable section
def spec_l32Open.g3 (L3 : YD → Int → List ByteArray → Option YG) (p : List YA) (i4 : Int) (q : List ByteArray) : Option YG :=
 if (decide ((i4 : Int) < (p.length : Int))) = true then
 if (0 : Int) ≤ i4 ∧ (i4 : Int) < p.length then
 (spec_l32Left.f p (((p.getD (i4 : Int).toNat (0, (ByteArray.empty, 0))).2).1) (p.length : Int)).bind fun r1 =>
 if (decide ((0 : Int) < r1)) = true then
 if (0 : Int) ≤ i4 ∧ (i4 : Int) < p.length then
 (spec_l20Insert.f q (((p.getD (i4 : Int).toNat (0, (ByteArray.empty, 0))).2).1)).bind fun r2 =>
 L3 p (IntKind.i64.wrap (i4 + 1)) r2
 else
 none
 else
 L3 p (IntKind.i64.wrap (i4 + 1)) q
 else
 none
 else
 some q
def spec_l32Open.l3 (n : Nat) : Nat → YD → Int → List ByteArray → Option YG
 | 0 => fun _ _ _ => none
 | k + 1 => spec_l32Open.g3 (spec_l32Open.l3 n k)
def spec_l32Open.top (I3 : YD → Int → List ByteArray → Option YG) (p : List YA) : Option YG :=
 I3 p 0 []
def spec_l32Open.fn (n : Nat) (p : List YA) : Option YG := spec_l32Open.top (spec_l32Open.l3 n n) p
def spec_l32Open.f (p : List YA) : Option YG := spec_l32Open.fn NN p
end
end Go.Pl

namespace Go.Pl
open Go.Ev
set_option linter.unusedVariables false
noncomputable section
def spec_l21Off.top (c0 : Bool × Bool × Bool × Bool × Bool × Int) : Option YB :=
 some (c0.1, (c0.2.1, (false, (false, c0.2.2.2.2))))
def spec_l21Off.fn (n : Nat) (c0 : Bool × Bool × Bool × Bool × Bool × Int) : Option YB := spec_l21Off.top c0
def spec_l21Off.f (c0 : Bool × Bool × Bool × Bool × Bool × Int) : Option YB := spec_l21Off.fn NN c0
end
end Go.Pl

namespace Go.Pl
open Go.Ev
set_option linter.unusedVariables false
noncomputable section
def spec_l21Give.top (c0 : Bool × Bool × Bool × Bool × Bool × Int) (p : Int) : Option (YB × Bool) :=
 if ((p : Int) == 0) = true then
 if (!(!c0.1)) = true then
 (spec_l21Off.f (!c0.1, c0.2)).bind fun r1 =>
 some (r1, true)
 else
 some ((!c0.1, c0.2), true)
 else if ((p : Int) == 1) = true then
 if (!(!c0.2.1)) = true then
 (spec_l21Off.f (c0.1, (!c0.2.1, c0.2.2))).bind fun r2 =>
 some (r2, true)
 else
 some ((c0.1, (!c0.2.1, c0.2.2)), true)
 else if ((p : Int) == 2) = true then
 if (!c0.1) = false then
 if (!c0.2.1) = false then
 if c0.2.2.2.2.1 = true then
 some (c0, false)
 else
 some ((c0.1, (c0.2.1, (true, (false, (c0.2.2.2.2.1, 0))))), true)
 else
 some (c0, false)
 else
 some (c0, false)
 else if ((p : Int) == 3) = true then
 (spec_l21Off.f c0).bind fun r3 =>
 some (r3, true)
 else if ((p : Int) == 4) = true then
 if (!c0.2.2.1) = false then
 if c0.2.2.2.1 = true then
 some (c0, false)
 else
 some ((c0.1, (c0.2.1, (c0.2.2.1, (true, c0.2.2.2.2)))), true)
 else
 some (c0, false)
 else if ((p : Int) == 5) = true then
 if (!c0.2.2.2.1) = true then
 some (c0, false)
 else
 some ((c0.1, (c0.2.1, (c0.2.2.1, (false, c0.2.2.2.2)))), true)
 else if ((p : Int) == 6) = true then
 (spec_l21Off.f c0).bind fun r4 =>
 some ((r4.1, (r4.2.1, (r4.2.2.1, (r4.2.2.2.1, (true, r4.2.2.2.2.2))))), true)
 else if ((p : Int) == 7) = true then
 some ((c0.1, (c0.2.1, (c0.2.2.1, (c0.2.2.2.1, (c0.2.2.2.2.1, 0))))), true)
 else if ((p : Int) == 8) = true then
 if (decide ((3 : Int) < (if (IntKind.i64.wrap (c0.2.2.2.2.2 + 1)) < 4 then (IntKind.i64.wrap (c0.2.2.2.2.2 + 1)) else 4))) = true then
 (spec_l21Off.f (c0.1, (c0.2.1, (c0.2.2.1, (c0.2.2.2.1, (c0.2.2.2.2.1, (if (IntKind.i64.wrap (c0.2.2.2.2.2 + 1)) < 4 then (IntKind.i64.wrap (c0.2.2.2.2.2 + 1)) else 4))))))).bind fun r5 =>
 some (r5, true)
 else
 some ((c0.1, (c0.2.1, (c0.2.2.1, (c0.2.2.2.1, (c0.2.2.2.2.1, (if (IntKind.i64.wrap (c0.2.2.2.2.2 + 1)) < 4 then (IntKind.i64.wrap (c0.2.2.2.2.2 + 1)) else 4)))))), true)
 else if (!c0.2.2.2.2.1) = false then
 if c0.1 = false then
 if c0.2.1 = true then
 some (c0, false)
 else
 some ((c0.1, (c0.2.1, (c0.2.2.1, (c0.2.2.2.1, (false, c0.2.2.2.2.2))))), true)
 else
 some (c0, false)
 else
 some (c0, false)
def spec_l21Give.fn (n : Nat) (c0 : Bool × Bool × Bool × Bool × Bool × Int) (p : Int) : Option (YB × Bool) := spec_l21Give.top c0 p
def spec_l21Give.f (c0 : Bool × Bool × Bool × Bool × Bool × Int) (p : Int) : Option (YB × Bool) := spec_l21Give.fn NN c0 p
end
end Go.Pl

namespace Go.Pl
open Go.Ev
set_option linter.unusedVariables false
noncomputable section
def spec_l22Ticks.g2 (L2 : Int → YB → Bool → Bool → Bool → Bool → Bool → Int → Option YB) (k5 : Int) (c2 : Bool × Bool × Bool × Bool × Bool × Int) (v4a : Bool) (t : Bool) (s : Bool) (r : Bool) (p : Bool) (q : Int) : Option YB :=
 if (decide ((0 : Int) < k5)) = true then
 (spec_l21Give.f c2 8).bind fun r1 =>
 L2 (IntKind.i64.wrap (k5 - 1)) r1.1 v4a t s r p q
 else
 some c2
def spec_l22Ticks.l2 (n : Nat) : Nat → Int → YB → Bool → Bool → Bool → Bool → Bool → Int → Option YB
 | 0 => fun _ _ _ _ _ _ _ _ => none
 | k + 1 => spec_l22Ticks.g2 (spec_l22Ticks.l2 n k)
def spec_l22Ticks.top (I2 : Int → YB → Bool → Bool → Bool → Bool → Bool → Int → Option YB) (c0 : Bool × Bool × Bool × Bool × Bool × Int) (n1 : Int) : Option YB :=
 I2 (if 5 < n1 then 5 else n1) c0 false false false false false 0
def spec_l22Ticks.fn (n : Nat) (c0 : Bool × Bool × Bool × Bool × Bool × Int) (n1 : Int) : Option YB := spec_l22Ticks.top (spec_l22Ticks.l2 n n) c0 n1
def spec_l22Ticks.f (c0 : Bool × Bool × Bool × Bool × Bool × Int) (n1 : Int) : Option YB := spec_l22Ticks.fn NN c0 n1
end
end Go.Pl

namespace Go.Pl
open Go.Ev
set_option linter.unusedVariables false
noncomputable section
def spec_l22At.g4 (L4 : YAB) (p : List YC) (q : Int) (v : Int) (i9 : Int) (v4a : Bool) (y : Bool) (w : Bool) (u : Bool) (s : Bool) (t : Int) (c6 : Bool × Bool × Bool × Bool × Bool × Int) (r : List Int) : Option YAA :=
 if (decide ((i9 : Int) < (p.length : Int))) = true then
 if (0 : Int) ≤ i9 ∧ (i9 : Int) < p.length then
 if (decide ((((p.getD (i9 : Int).toNat (0, 0)).1) : Int) ≤ q)) = true then
 if (0 : Int) ≤ i9 ∧ (i9 : Int) < p.length then
 (spec_l22Ticks.f c6 (IntKind.i64.wrap (((p.getD (i9 : Int).toNat (0, 0)).1) - v))).bind fun r1 =>
 if (0 : Int) ≤ i9 ∧ (i9 : Int) < p.length then
 if (0 : Int) ≤ i9 ∧ (i9 : Int) < p.length then
 (spec_l21Give.f r1 ((p.getD (i9 : Int).toNat (0, 0)).2)).bind fun r2 =>
 if r2.2 = true then
 L4 p q ((p.getD (i9 : Int).toNat (0, 0)).1) (IntKind.i64.wrap (i9 + 1)) v4a y w u s t r2.1 r
 else if r.length + ([i9]).length < room 8 then
 L4 p q ((p.getD (i9 : Int).toNat (0, 0)).1) (IntKind.i64.wrap (i9 + 1)) v4a y w u s t r1 (r ++ ([i9]))
 else
 none
 else
 none
 else
 none
 else
 none
 else
 (spec_l22Ticks.f c6 (IntKind.i64.wrap (q - v))).bind fun r3 =>
 some (r3, r)
 else
 none
 else
 (spec_l22Ticks.f c6 (IntKind.i64.wrap (q - v))).bind fun r4 =>
 some (r4, r)
def spec_l22At.l4 (n : Nat) : Nat → YE → Int → Int → Int → Bool → Bool → Bool → Bool → Bool → Int → YB → List Int → Option YAA
 | 0 => fun _ _ _ _ _ _ _ _ _ _ _ _ => none
 | k + 1 => spec_l22At.g4 (spec_l22At.l4 n k)
def spec_l22At.top (I4 : YAB) (p : List YC) (q : Int) : Option YAA :=
 I4 p q 0 0 false false false false false 0 (false, (false, (false, (false, (false, 0))))) []
def spec_l22At.fn (n : Nat) (p : List YC) (q : Int) : Option YAA := spec_l22At.top (spec_l22At.l4 n n) p q
def spec_l22At.f (p : List YC) (q : Int) : Option YAA := spec_l22At.fn NN p q
end
end Go.Pl

namespace Go.Pl
open Go.Ev
set_option linter.unusedVariables false
noncomputable section
def spec_l22Fired.g9 (L3 : YAD) (L9 : List Int → YE → YD → List ByteArray → Int → Int → Bool → Int → List Int → Option YL) (p : List Int) (s : List YC) (r : List YA) (q : List ByteArray) (i10 : Int) (u : Int) (v : Bool) (k15 : Int) (t : List Int) : Option YL :=
 if (decide ((k15 : Int) < (q.length : Int))) = true then
 if v = true then
 if (0 : Int) ≤ k15 ∧ (k15 : Int) < q.length then
 (spec_l20Clear.f r (q.getD (k15 : Int).toNat ByteArray.empty) (IntKind.i64.wrap (u * 100))).bind fun r2 =>
 L9 p s r q i10 u r2 (IntKind.i64.wrap (k15 + 1)) t
 else
 none
 else
 L9 p s r q i10 u false (IntKind.i64.wrap (k15 + 1)) t
 else if v = true then
 if t.length + ([u]).length < room 8 then
 L3 p s r q (IntKind.i64.wrap (i10 + 1)) (t ++ ([u]))
 else
 none
 else if t.length + ([(-1)]).length < room 8 then
 L3 p s r q (IntKind.i64.wrap (i10 + 1)) (t ++ ([(-1)]))
 else
 none
def spec_l22Fired.l9 (n : Nat) (L3 : YAD) : Nat → List Int → YE → YD → List ByteArray → Int → Int → Bool → Int → List Int → Option YL
 | 0 => fun _ _ _ _ _ _ _ _ _ => none
 | k + 1 => spec_l22Fired.g9 L3 (spec_l22Fired.l9 n L3 k)
def spec_l22Fired.g3 (I9 : List Int → YE → YD → List ByteArray → Int → Int → Bool → Int → List Int → Option YL) (L3 : YAD) (p : List Int) (s : List YC) (r : List YA) (q : List ByteArray) (i10 : Int) (t : List Int) : Option YL :=
 if (decide ((i10 : Int) < (p.length : Int))) = true then
 if (0 : Int) ≤ i10 ∧ (i10 : Int) < p.length then
 (spec_l22At.f s (IntKind.i64.wrap (Int.tdiv (p.getD (i10 : Int).toNat 0) 100))).bind fun r1 =>
 if r1.1.2.2.1 = true then
 I9 p s r q i10 (IntKind.i64.wrap (Int.tdiv (p.getD (i10 : Int).toNat 0) 100)) (!r1.1.2.2.2.1) 0 t
 else
 I9 p s r q i10 (IntKind.i64.wrap (Int.tdiv (p.getD (i10 : Int).toNat 0) 100)) false 0 t
 else
 none
 else
 some t
def spec_l22Fired.l3 (n : Nat) : Nat → List Int → YE → YD → List ByteArray → Int → List Int → Option YL
 | 0 => fun _ _ _ _ _ _ => none
 | k + 1 => spec_l22Fired.g3 (spec_l22Fired.l9 n (spec_l22Fired.l3 n k) n) (spec_l22Fired.l3 n k)
def spec_l22Fired.top (I3 : YAD) (p : List Int) (s : List YC) (r : List YA) (q : List ByteArray) : Option YL :=
 I3 p s r q 0 []
def spec_l22Fired.fn (n : Nat) (p : List Int) (s : List YC) (r : List YA) (q : List ByteArray) : Option YL := spec_l22Fired.top (spec_l22Fired.l3 n n) p s r q
def spec_l22Fired.f (p : List Int) (s : List YC) (r : List YA) (q : List ByteArray) : Option YL := spec_l22Fired.fn NN p s r q
end
end Go.Pl

namespace Go.Pl
open Go.Ev
set_option linter.unusedVariables false
noncomputable section
def spec_l34Fire.g5 (L5 : Int → Int → YF → List ByteArray → Option YP) (t1 : Int) (i7 : Int) (d2 : YD × YE × List YA) (p : List ByteArray) : Option YP :=
 if (decide ((i7 : Int) < (d2.1.length : Int))) = true then
 if (0 : Int) ≤ i7 ∧ (i7 : Int) < d2.1.length then
 (spec_l20Insert.f p (((d2.1.getD (i7 : Int).toNat (0, (ByteArray.empty, 0))).2).1)).bind fun r2 =>
 L5 t1 (IntKind.i64.wrap (i7 + 1)) d2 r2
 else
 none
 else
 (spec_l22Fired.f ([t1]) d2.2.1 d2.1 p).bind fun r3 =>
 if (0 : Int) ≤ 0 ∧ (0 : Int) < r3.length then
 if (decide (((r3.getD (0 : Int).toNat 0) : Int) < 0)) = true then
 some ((⟨#[109, 105, 115, 115, 101, 100]⟩ : ByteArray), 0)
 else
 (spec_l01Dec.f (r3.getD (0 : Int).toNat 0)).bind fun r4 =>
 some (r4, 0)
 else
 none
def spec_l34Fire.l5 (n : Nat) : Nat → Int → Int → YF → List ByteArray → Option YP
 | 0 => fun _ _ _ _ => none
 | k + 1 => spec_l34Fire.g5 (spec_l34Fire.l5 n k)
def spec_l34Fire.top (I5 : Int → Int → YF → List ByteArray → Option YP) (d0 : YD × YE × List YA) (t1 : Int) : Option YP :=
 (spec_l01IsTime.f t1).bind fun r1 =>
 if (!r1) = true then
 some ((⟨#[]⟩ : ByteArray), 1)
 else
 I5 t1 0 d0 []
def spec_l34Fire.fn (n : Nat) (d0 : YD × YE × List YA) (t1 : Int) : Option YP := spec_l34Fire.top (spec_l34Fire.l5 n n) d0 t1
def spec_l34Fire.f (d0 : YD × YE × List YA) (t1 : Int) : Option YP := spec_l34Fire.fn NN d0 t1
end
end Go.Pl

namespace Go.Pl
open Go.Ev
set_option linter.unusedVariables false
noncomputable section
def spec_AreSignals.g2 (L2 : YE → Int → Option Bool) (p : List YC) (i3 : Int) : Option Bool :=
 if (decide ((i3 : Int) < (p.length : Int))) = true then
 if (0 : Int) ≤ i3 ∧ (i3 : Int) < p.length then
 (spec_l01In.f ((p.getD (i3 : Int).toNat (0, 0)).1) 0 100000).bind fun r1 =>
 if (!r1) = false then
 (spec_l01In.f ((p.getD (i3 : Int).toNat (0, 0)).2) 0 9).bind fun r2 =>
 if (!r2) = false then
 if ((((p.getD (i3 : Int).toNat (0, 0)).2) : Int) == 8) = false then
 if (decide ((0 : Int) < i3)) = true then
 if (0 : Int) ≤ (IntKind.i64.wrap (i3 - 1)) ∧ ((IntKind.i64.wrap (i3 - 1)) : Int) < p.length then
 if (decide ((((p.getD (i3 : Int).toNat (0, 0)).1) : Int) < ((p.getD ((IntKind.i64.wrap (i3 - 1)) : Int).toNat (0, 0)).1))) = true then
 some false
 else
 L2 p (IntKind.i64.wrap (i3 + 1))
 else
 none
 else
 L2 p (IntKind.i64.wrap (i3 + 1))
 else
 some false
 else
 some false
 else
 some false
 else
 none
 else
 some (decide (((p.length : Int) : Int) ≤ 40))
def spec_AreSignals.l2 (n : Nat) : Nat → YE → Int → Option Bool
 | 0 => fun _ _ => none
 | k + 1 => spec_AreSignals.g2 (spec_AreSignals.l2 n k)
def spec_AreSignals.top (I2 : YE → Int → Option Bool) (p : List YC) : Option Bool :=
 I2 p 0
def spec_AreSignals.fn (n : Nat) (p : List YC) : Option Bool := spec_AreSignals.top (spec_AreSignals.l2 n n) p
def spec_AreSignals.f (p : List YC) : Option Bool := spec_AreSignals.fn NN p
end
end Go.Pl

namespace Go.Pl
open Go.Ev
set_option linter.unusedVariables false
noncomputable section
def spec_l22Code.top (p : List YC) (q : Int) : Option Int :=
 (spec_AreSignals.f p).bind fun r1 =>
 if (!r1) = true then
 some 1
 else
 (spec_l01In.f q 0 100000).bind fun r2 =>
 if (!r2) = true then
 some 2
 else
 some 0
def spec_l22Code.fn (n : Nat) (p : List YC) (q : Int) : Option Int := spec_l22Code.top p q
def spec_l22Code.f (p : List YC) (q : Int) : Option Int := spec_l22Code.fn NN p q
end
end Go.Pl

namespace Go.Pl
open Go.Ev
set_option linter.unusedVariables false
noncomputable section
def spec_ControllerAt.top (p : List YC) (q : Int) : Option YH :=
 (spec_l22Code.f p q).bind fun r1 =>
 if ((r1 : Int) != 0) = true then
 some ((false, (false, (false, (false, (false, 0))))), r1)
 else
 (spec_l22At.f p q).bind fun r2 =>
 some ((r2.1.1, (r2.1.2.1, (r2.1.2.2.1, (r2.1.2.2.2.1, (r2.1.2.2.2.2.1, r2.1.2.2.2.2.2))))), 0)
def spec_ControllerAt.fn (n : Nat) (p : List YC) (q : Int) : Option YH := spec_ControllerAt.top p q
def spec_ControllerAt.f (p : List YC) (q : Int) : Option YH := spec_ControllerAt.fn NN p q
end
end Go.Pl

namespace Go.Pl
open Go.Ev
set_option linter.unusedVariables false
noncomputable section
def spec_l34State.top (d0 : YD × YE × List YA) (p : Int) : Option YP :=
 (spec_ControllerAt.f d0.2.1 p).bind fun r1 =>
 if r1.1.2.2.2.2.1 = true then
 some ((⟨#[115, 116, 111, 112, 112, 101, 100]⟩ : ByteArray), r1.2)
 else if r1.1.2.2.2.1 = true then
 some ((⟨#[104, 101, 108, 100]⟩ : ByteArray), r1.2)
 else if r1.1.2.2.1 = true then
 some ((⟨#[97, 114, 109, 101, 100]⟩ : ByteArray), r1.2)
 else
 some ((⟨#[111, 102, 102]⟩ : ByteArray), r1.2)
def spec_l34State.fn (n : Nat) (d0 : YD × YE × List YA) (p : Int) : Option YP := spec_l34State.top d0 p
def spec_l34State.f (d0 : YD × YE × List YA) (p : Int) : Option YP := spec_l34State.fn NN d0 p
end
end Go.Pl

namespace Go.Pl
open Go.Ev
set_option linter.unusedVariables false
noncomputable section
def spec_l34Ask.top (d0 : YD × YE × List YA) (p : List ByteArray) (n2 : List Int) : Option YP :=
 if (0 : Int) ≤ 0 ∧ (0 : Int) < p.length then
 if ((p.getD (0 : Int).toNat ByteArray.empty).toList == (⟨#[99, 108, 101, 97, 114]⟩ : ByteArray).toList) = true then
 if (0 : Int) ≤ 1 ∧ (1 : Int) < p.length then
 if (0 : Int) ≤ 0 ∧ (0 : Int) < n2.length then
 (spec_IsClear.f d0.1 (p.getD (1 : Int).toNat ByteArray.empty) (n2.getD (0 : Int).toNat 0)).bind fun r1 =>
 if r1.1 = true then
 some ((⟨#[121, 101, 115]⟩ : ByteArray), r1.2)
 else
 some ((⟨#[110, 111]⟩ : ByteArray), r1.2)
 else
 none
 else
 none
 else if ((p.getD (0 : Int).toNat ByteArray.empty).toList == (⟨#[115, 116, 97, 116, 101]⟩ : ByteArray).toList) = true then
 if (0 : Int) ≤ 0 ∧ (0 : Int) < n2.length then
 (spec_l34State.f d0 (n2.getD (0 : Int).toNat 0)).bind fun r2 =>
 some (r2.1, r2.2)
 else
 none
 else if ((p.getD (0 : Int).toNat ByteArray.empty).toList == (⟨#[102, 105, 114, 101]⟩ : ByteArray).toList) = true then
 if (0 : Int) ≤ 0 ∧ (0 : Int) < n2.length then
 (spec_l34Fire.f d0 (n2.getD (0 : Int).toNat 0)).bind fun r3 =>
 some (r3.1, r3.2)
 else
 none
 else if ((p.getD (0 : Int).toNat ByteArray.empty).toList == (⟨#[108, 101, 102, 116]⟩ : ByteArray).toList) = true then
 if (0 : Int) ≤ 1 ∧ (1 : Int) < p.length then
 (spec_PiecesLeft.f d0.2.2 (p.getD (1 : Int).toNat ByteArray.empty)).bind fun r4 =>
 (spec_l01Dec.f r4.1).bind fun r5 =>
 some (r5, r4.2)
 else
 none
 else if ((p.getD (0 : Int).toNat ByteArray.empty).toList == (⟨#[111, 112, 101, 110]⟩ : ByteArray).toList) = true then
 (spec_l32Open.f d0.2.2).bind fun r6 =>
 if (((r6.length : Int) : Int) == 0) = true then
 some ((⟨#[45]⟩ : ByteArray), 0)
 else
 (spec_l01Words.f r6 (⟨#[44]⟩ : ByteArray)).bind fun r7 =>
 some (r7, 0)
 else if ((p.getD (0 : Int).toNat ByteArray.empty).toList == (⟨#[116, 111, 112]⟩ : ByteArray).toList) = true then
 if (0 : Int) ≤ 0 ∧ (0 : Int) < n2.length then
 (spec_TopOf.f (n2.getD (0 : Int).toNat 0)).bind fun r8 =>
 (spec_l01Dec.f r8.1).bind fun r9 =>
 if r9.size + (⟨#[32]⟩ : ByteArray).size ≤ 9223372036854775807 then
 (spec_l01Dec.f r8.2.1).bind fun r10 =>
 if (r9 ++ (⟨#[32]⟩ : ByteArray)).size + r10.size ≤ 9223372036854775807 then
 some ((r9 ++ (⟨#[32]⟩ : ByteArray)) ++ r10, r8.2.2)
 else
 none
 else
 none
 else
 none
 else if ((p.getD (0 : Int).toNat ByteArray.empty).toList == (⟨#[110, 101, 101, 100]⟩ : ByteArray).toList) = true then
 if (0 : Int) ≤ 0 ∧ (0 : Int) < n2.length then
 if (0 : Int) ≤ 1 ∧ (1 : Int) < n2.length then
 (spec_SeparationFor.f (n2.getD (0 : Int).toNat 0) (n2.getD (1 : Int).toNat 0)).bind fun r11 =>
 (spec_l01Dec.f r11.1).bind fun r12 =>
 some (r12, r11.2)
 else
 none
 else
 none
 else if (0 : Int) ≤ 0 ∧ (0 : Int) < n2.length then
 (spec_TimeText.f (n2.getD (0 : Int).toNat 0)).bind fun r13 =>
 some (r13.1, r13.2)
 else
 none
 else
 none
def spec_l34Ask.fn (n : Nat) (d0 : YD × YE × List YA) (p : List ByteArray) (n2 : List Int) : Option YP := spec_l34Ask.top d0 p n2
def spec_l34Ask.f (d0 : YD × YE × List YA) (p : List ByteArray) (n2 : List Int) : Option YP := spec_l34Ask.fn NN d0 p n2
end
end Go.Pl

namespace Go.Pl
open Go.Ev
set_option linter.unusedVariables false
noncomputable section
def spec_l01Value.g5 (L5 : ByteArray → Int → Int → Option YAG) (s0 : ByteArray) (n4 : Int) (i5 : Int) : Option YAG :=
 if (decide ((i5 : Int) < (s0.size : Int))) = true then
 if (0 : Int) ≤ i5 ∧ (i5 : Int) < s0.size then
 if (decide (((bt s0 i5) : Int) < 48)) = false then
 if (0 : Int) ≤ i5 ∧ (i5 : Int) < s0.size then
 if (decide ((57 : Int) < (bt s0 i5))) = true then
 some (0, false)
 else if (0 : Int) ≤ i5 ∧ (i5 : Int) < s0.size then
 L5 s0 (IntKind.i64.wrap ((IntKind.i64.wrap (10 * n4)) + (IntKind.i64.wrap (IntKind.u8.wrap ((bt s0 i5) - 48))))) (IntKind.i64.wrap (i5 + 1))
 else
 none
 else
 none
 else
 some (0, false)
 else
 none
 else
 (spec_l01Dec.f n4).bind fun r1 =>
 some (n4, r1.toList == s0.toList)
def spec_l01Value.l5 (n : Nat) : Nat → ByteArray → Int → Int → Option YAG
 | 0 => fun _ _ _ => none
 | k + 1 => spec_l01Value.g5 (spec_l01Value.l5 n k)
def spec_l01Value.top (I5 : ByteArray → Int → Int → Option YAG) (s0 : ByteArray) : Option YAG :=
 if (decide (((s0.size : Int) : Int) < 1)) = false then
 if (decide ((13 : Int) < (s0.size : Int))) = true then
 some (0, false)
 else
 I5 s0 0 0
 else
 some (0, false)
def spec_l01Value.fn (n : Nat) (s0 : ByteArray) : Option YAG := spec_l01Value.top (spec_l01Value.l5 n n) s0
def spec_l01Value.f (s0 : ByteArray) : Option YAG := spec_l01Value.fn NN s0
end
end Go.Pl

namespace Go.Pl
open Go.Ev
set_option linter.unusedVariables false
noncomputable section
def spec_l01Signed.top (s0 : ByteArray) : Option YAG :=
 if (decide ((0 : Int) < (s0.size : Int))) = true then
 if (0 : Int) ≤ 0 ∧ (0 : Int) < s0.size then
 if (((bt s0 0) : Int) == 45) = true then
 if (0 : Int) ≤ 1 ∧ (1 : Int) ≤ s0.size then
 (spec_l01Value.f (s0.extract (1 : Int).toNat s0.size)).bind fun r1 =>
 if r1.2 = true then
 some (IntKind.i64.wrap (0 - r1.1), decide ((0 : Int) < r1.1))
 else
 some (IntKind.i64.wrap (0 - r1.1), false)
 else
 none
 else
 (spec_l01Value.f s0).bind fun r2 =>
 some (r2.1, r2.2)
 else
 none
 else
 (spec_l01Value.f s0).bind fun r3 =>
 some (r3.1, r3.2)
def spec_l01Signed.fn (n : Nat) (s0 : ByteArray) : Option YAG := spec_l01Signed.top s0
def spec_l01Signed.f (s0 : ByteArray) : Option YAG := spec_l01Signed.fn NN s0
end
end Go.Pl

namespace Go.Pl
open Go.Ev
set_option linter.unusedVariables false
noncomputable section
def spec_l01Split.g4 (L4 : YAH) (s0 : ByteArray) (by1 : Int) (p : Int) (i7 : Int) (q : List ByteArray) : Option YG :=
 if (decide ((i7 : Int) ≤ (s0.size : Int))) = true then
 if ((i7 : Int) == (s0.size : Int)) = false then
 if (0 : Int) ≤ i7 ∧ (i7 : Int) < s0.size then
 if (((bt s0 i7) : Int) == by1) = true then
 if (0 : Int) ≤ p ∧ (p : Int) ≤ i7 ∧ (i7 : Int) ≤ s0.size then
 if q.length + ([s0.extract (p : Int).toNat (i7 : Int).toNat]).length < room 16 then
 L4 s0 by1 (IntKind.i64.wrap (i7 + 1)) (IntKind.i64.wrap (i7 + 1)) (q ++ ([s0.extract (p : Int).toNat (i7 : Int).toNat]))
 else
 none
 else
 none
 else
 L4 s0 by1 p (IntKind.i64.wrap (i7 + 1)) q
 else
 none
 else if (0 : Int) ≤ p ∧ (p : Int) ≤ i7 ∧ (i7 : Int) ≤ s0.size then
 if q.length + ([s0.extract (p : Int).toNat (i7 : Int).toNat]).length < room 16 then
 L4 s0 by1 (IntKind.i64.wrap (i7 + 1)) (IntKind.i64.wrap (i7 + 1)) (q ++ ([s0.extract (p : Int).toNat (i7 : Int).toNat]))
 else
 none
 else
 none
 else
 some q
def spec_l01Split.l4 (n : Nat) : Nat → ByteArray → Int → Int → Int → List ByteArray → Option YG
 | 0 => fun _ _ _ _ _ => none
 | k + 1 => spec_l01Split.g4 (spec_l01Split.l4 n k)
def spec_l01Split.top (I4 : YAH) (s0 : ByteArray) (by1 : Int) : Option YG :=
 I4 s0 by1 0 0 []
def spec_l01Split.fn (n : Nat) (s0 : ByteArray) (by1 : Int) : Option YG := spec_l01Split.top (spec_l01Split.l4 n n) s0 by1
def spec_l01Split.f (s0 : ByteArray) (by1 : Int) : Option YG := spec_l01Split.fn NN s0 by1
end
end Go.Pl

namespace Go.Pl
open Go.Ev
set_option linter.unusedVariables false
noncomputable section
def spec_l34Kind.top (p : ByteArray) : Option ByteArray :=
 if (p.toList == (⟨#[111, 112, 101, 110]⟩ : ByteArray).toList) = true then
 some (⟨#[]⟩ : ByteArray)
 else if (p.toList == (⟨#[115, 116, 97, 116, 101]⟩ : ByteArray).toList) = true then
 if (p.toList == (⟨#[115, 116, 97, 116, 101]⟩ : ByteArray).toList) = true then
 some (⟨#[73]⟩ : ByteArray)
 else if (p.toList == (⟨#[108, 101, 102, 116]⟩ : ByteArray).toList) = true then
 some (⟨#[84]⟩ : ByteArray)
 else if (p.toList == (⟨#[99, 108, 101, 97, 114]⟩ : ByteArray).toList) = true then
 if (p.toList == (⟨#[99, 108, 101, 97, 114]⟩ : ByteArray).toList) = true then
 some (⟨#[84, 73]⟩ : ByteArray)
 else if (p.toList == (⟨#[110, 101, 101, 100]⟩ : ByteArray).toList) = true then
 some (⟨#[73, 73]⟩ : ByteArray)
 else if (p.toList == (⟨#[112, 101, 111, 112, 108, 101]⟩ : ByteArray).toList) = true then
 some (⟨#[84, 73, 74]⟩ : ByteArray)
 else if (p.toList == (⟨#[98, 111, 111, 107]⟩ : ByteArray).toList) = true then
 some (⟨#[84, 84, 73]⟩ : ByteArray)
 else
 some (⟨#[45]⟩ : ByteArray)
 else if (p.toList == (⟨#[115, 105, 103, 110, 97, 108]⟩ : ByteArray).toList) = true then
 some (⟨#[84, 73]⟩ : ByteArray)
 else if (p.toList == (⟨#[110, 101, 101, 100]⟩ : ByteArray).toList) = true then
 some (⟨#[73, 73]⟩ : ByteArray)
 else if (p.toList == (⟨#[112, 101, 111, 112, 108, 101]⟩ : ByteArray).toList) = true then
 some (⟨#[84, 73, 74]⟩ : ByteArray)
 else if (p.toList == (⟨#[98, 111, 111, 107]⟩ : ByteArray).toList) = true then
 some (⟨#[84, 84, 73]⟩ : ByteArray)
 else
 some (⟨#[45]⟩ : ByteArray)
 else if (p.toList == (⟨#[102, 105, 114, 101]⟩ : ByteArray).toList) = true then
 if (p.toList == (⟨#[102, 105, 114, 101]⟩ : ByteArray).toList) = true then
 some (⟨#[73]⟩ : ByteArray)
 else if (p.toList == (⟨#[108, 101, 102, 116]⟩ : ByteArray).toList) = true then
 some (⟨#[84]⟩ : ByteArray)
 else if (p.toList == (⟨#[99, 108, 101, 97, 114]⟩ : ByteArray).toList) = true then
 if (p.toList == (⟨#[99, 108, 101, 97, 114]⟩ : ByteArray).toList) = true then
 some (⟨#[84, 73]⟩ : ByteArray)
 else if (p.toList == (⟨#[110, 101, 101, 100]⟩ : ByteArray).toList) = true then
 some (⟨#[73, 73]⟩ : ByteArray)
 else if (p.toList == (⟨#[112, 101, 111, 112, 108, 101]⟩ : ByteArray).toList) = true then
 some (⟨#[84, 73, 74]⟩ : ByteArray)
 else if (p.toList == (⟨#[98, 111, 111, 107]⟩ : ByteArray).toList) = true then
 some (⟨#[84, 84, 73]⟩ : ByteArray)
 else
 some (⟨#[45]⟩ : ByteArray)
 else if (p.toList == (⟨#[115, 105, 103, 110, 97, 108]⟩ : ByteArray).toList) = true then
 some (⟨#[84, 73]⟩ : ByteArray)
 else if (p.toList == (⟨#[110, 101, 101, 100]⟩ : ByteArray).toList) = true then
 some (⟨#[73, 73]⟩ : ByteArray)
 else if (p.toList == (⟨#[112, 101, 111, 112, 108, 101]⟩ : ByteArray).toList) = true then
 some (⟨#[84, 73, 74]⟩ : ByteArray)
 else if (p.toList == (⟨#[98, 111, 111, 107]⟩ : ByteArray).toList) = true then
 some (⟨#[84, 84, 73]⟩ : ByteArray)
 else
 some (⟨#[45]⟩ : ByteArray)
 else if (p.toList == (⟨#[115, 101, 116, 116, 108, 101]⟩ : ByteArray).toList) = true then
 if (p.toList == (⟨#[115, 101, 116, 116, 108, 101]⟩ : ByteArray).toList) = true then
 some (⟨#[73]⟩ : ByteArray)
 else if (p.toList == (⟨#[108, 101, 102, 116]⟩ : ByteArray).toList) = true then
 some (⟨#[84]⟩ : ByteArray)
 else if (p.toList == (⟨#[99, 108, 101, 97, 114]⟩ : ByteArray).toList) = true then
 if (p.toList == (⟨#[99, 108, 101, 97, 114]⟩ : ByteArray).toList) = true then
 some (⟨#[84, 73]⟩ : ByteArray)
 else if (p.toList == (⟨#[110, 101, 101, 100]⟩ : ByteArray).toList) = true then
 some (⟨#[73, 73]⟩ : ByteArray)
 else if (p.toList == (⟨#[112, 101, 111, 112, 108, 101]⟩ : ByteArray).toList) = true then
 some (⟨#[84, 73, 74]⟩ : ByteArray)
 else if (p.toList == (⟨#[98, 111, 111, 107]⟩ : ByteArray).toList) = true then
 some (⟨#[84, 84, 73]⟩ : ByteArray)
 else
 some (⟨#[45]⟩ : ByteArray)
 else if (p.toList == (⟨#[115, 105, 103, 110, 97, 108]⟩ : ByteArray).toList) = true then
 some (⟨#[84, 73]⟩ : ByteArray)
 else if (p.toList == (⟨#[110, 101, 101, 100]⟩ : ByteArray).toList) = true then
 some (⟨#[73, 73]⟩ : ByteArray)
 else if (p.toList == (⟨#[112, 101, 111, 112, 108, 101]⟩ : ByteArray).toList) = true then
 some (⟨#[84, 73, 74]⟩ : ByteArray)
 else if (p.toList == (⟨#[98, 111, 111, 107]⟩ : ByteArray).toList) = true then
 some (⟨#[84, 84, 73]⟩ : ByteArray)
 else
 some (⟨#[45]⟩ : ByteArray)
 else if (p.toList == (⟨#[116, 111, 112]⟩ : ByteArray).toList) = true then
 if (p.toList == (⟨#[116, 111, 112]⟩ : ByteArray).toList) = true then
 some (⟨#[73]⟩ : ByteArray)
 else if (p.toList == (⟨#[108, 101, 102, 116]⟩ : ByteArray).toList) = true then
 some (⟨#[84]⟩ : ByteArray)
 else if (p.toList == (⟨#[99, 108, 101, 97, 114]⟩ : ByteArray).toList) = true then
 if (p.toList == (⟨#[99, 108, 101, 97, 114]⟩ : ByteArray).toList) = true then
 some (⟨#[84, 73]⟩ : ByteArray)
 else if (p.toList == (⟨#[110, 101, 101, 100]⟩ : ByteArray).toList) = true then
 some (⟨#[73, 73]⟩ : ByteArray)
 else if (p.toList == (⟨#[112, 101, 111, 112, 108, 101]⟩ : ByteArray).toList) = true then
 some (⟨#[84, 73, 74]⟩ : ByteArray)
 else if (p.toList == (⟨#[98, 111, 111, 107]⟩ : ByteArray).toList) = true then
 some (⟨#[84, 84, 73]⟩ : ByteArray)
 else
 some (⟨#[45]⟩ : ByteArray)
 else if (p.toList == (⟨#[115, 105, 103, 110, 97, 108]⟩ : ByteArray).toList) = true then
 some (⟨#[84, 73]⟩ : ByteArray)
 else if (p.toList == (⟨#[110, 101, 101, 100]⟩ : ByteArray).toList) = true then
 some (⟨#[73, 73]⟩ : ByteArray)
 else if (p.toList == (⟨#[112, 101, 111, 112, 108, 101]⟩ : ByteArray).toList) = true then
 some (⟨#[84, 73, 74]⟩ : ByteArray)
 else if (p.toList == (⟨#[98, 111, 111, 107]⟩ : ByteArray).toList) = true then
 some (⟨#[84, 84, 73]⟩ : ByteArray)
 else
 some (⟨#[45]⟩ : ByteArray)
 else if (p.toList == (⟨#[116, 105, 109, 101]⟩ : ByteArray).toList) = true then
 some (⟨#[73]⟩ : ByteArray)
 else if (p.toList == (⟨#[108, 101, 102, 116]⟩ : ByteArray).toList) = true then
 some (⟨#[84]⟩ : ByteArray)
 else if (p.toList == (⟨#[99, 108, 101, 97, 114]⟩ : ByteArray).toList) = true then
 if (p.toList == (⟨#[99, 108, 101, 97, 114]⟩ : ByteArray).toList) = true then
 some (⟨#[84, 73]⟩ : ByteArray)
 else if (p.toList == (⟨#[110, 101, 101, 100]⟩ : ByteArray).toList) = true then
 some (⟨#[73, 73]⟩ : ByteArray)
 else if (p.toList == (⟨#[112, 101, 111, 112, 108, 101]⟩ : ByteArray).toList) = true then
 some (⟨#[84, 73, 74]⟩ : ByteArray)
 else if (p.toList == (⟨#[98, 111, 111, 107]⟩ : ByteArray).toList) = true then
 some (⟨#[84, 84, 73]⟩ : ByteArray)
 else
 some (⟨#[45]⟩ : ByteArray)
 else if (p.toList == (⟨#[115, 105, 103, 110, 97, 108]⟩ : ByteArray).toList) = true then
 some (⟨#[84, 73]⟩ : ByteArray)
 else if (p.toList == (⟨#[110, 101, 101, 100]⟩ : ByteArray).toList) = true then
 some (⟨#[73, 73]⟩ : ByteArray)
 else if (p.toList == (⟨#[112, 101, 111, 112, 108, 101]⟩ : ByteArray).toList) = true then
 some (⟨#[84, 73, 74]⟩ : ByteArray)
 else if (p.toList == (⟨#[98, 111, 111, 107]⟩ : ByteArray).toList) = true then
 some (⟨#[84, 84, 73]⟩ : ByteArray)
 else
 some (⟨#[45]⟩ : ByteArray)
def spec_l34Kind.fn (n : Nat) (p : ByteArray) : Option ByteArray := spec_l34Kind.top p
def spec_l34Kind.f (p : ByteArray) : Option ByteArray := spec_l34Kind.fn NN p
end
end Go.Pl

namespace Go.Pl
open Go.Ev
set_option linter.unusedVariables false
noncomputable section
def spec_l34Parse.g7 (L7 : ByteArray → Int → List ByteArray → List Int → Option YW) (q : ByteArray) (i8 : Int) (p : List ByteArray) (n7 : List Int) : Option YW :=
 if (decide ((i8 : Int) < (q.size : Int))) = true then
 if (0 : Int) ≤ i8 ∧ (i8 : Int) < q.size then
 if (((bt q i8) : Int) == 73) = true then
 if (0 : Int) ≤ (IntKind.i64.wrap (i8 + 1)) ∧ ((IntKind.i64.wrap (i8 + 1)) : Int) < p.length then
 (spec_l01Value.f (p.getD ((IntKind.i64.wrap (i8 + 1)) : Int).toNat ByteArray.empty)).bind fun r3 =>
 if (!r3.2) = true then
 some ([], [], false)
 else if n7.length + ([r3.1]).length < room 8 then
 L7 q (IntKind.i64.wrap (i8 + 1)) p (n7 ++ ([r3.1]))
 else
 none
 else
 none
 else if (((bt q i8) : Int) == 74) = true then
 if (0 : Int) ≤ (IntKind.i64.wrap (i8 + 1)) ∧ ((IntKind.i64.wrap (i8 + 1)) : Int) < p.length then
 (spec_l01Signed.f (p.getD ((IntKind.i64.wrap (i8 + 1)) : Int).toNat ByteArray.empty)).bind fun r4 =>
 if (!r4.2) = true then
 some ([], [], false)
 else if n7.length + ([r4.1]).length < room 8 then
 L7 q (IntKind.i64.wrap (i8 + 1)) p (n7 ++ ([r4.1]))
 else
 none
 else
 none
 else
 L7 q (IntKind.i64.wrap (i8 + 1)) p n7
 else
 none
 else
 some (p, n7, true)
def spec_l34Parse.l7 (n : Nat) : Nat → ByteArray → Int → List ByteArray → List Int → Option YW
 | 0 => fun _ _ _ _ => none
 | k + 1 => spec_l34Parse.g7 (spec_l34Parse.l7 n k)
def spec_l34Parse.top (I7 : ByteArray → Int → List ByteArray → List Int → Option YW) (r : ByteArray) : Option YW :=
 (spec_l01Split.f r 32).bind fun r1 =>
 if (0 : Int) ≤ 0 ∧ (0 : Int) < r1.length then
 (spec_l34Kind.f (r1.getD (0 : Int).toNat ByteArray.empty)).bind fun r2 =>
 if (r2.toList == (⟨#[45]⟩ : ByteArray).toList) = false then
 if (((r1.length : Int) : Int) != (IntKind.i64.wrap ((r2.size : Int) + 1))) = true then
 some ([], [], false)
 else
 I7 r2 0 r1 []
 else
 some ([], [], false)
 else
 none
def spec_l34Parse.fn (n : Nat) (r : ByteArray) : Option YW := spec_l34Parse.top (spec_l34Parse.l7 n n) r
def spec_l34Parse.f (r : ByteArray) : Option YW := spec_l34Parse.fn NN r
end
end Go.Pl

namespace Go.Pl
open Go.Ev
set_option linter.unusedVariables false
noncomputable section
def spec_AddMove.top (p : List YA) (m1 : Int × ByteArray × Int) : Option YS :=
 (spec_AreMoves.f p).bind fun r1 =>
 if (!r1) = true then
 some ([], 1)
 else if (((p.length : Int) : Int) == 40) = true then
 some ([], 3)
 else if ([] : List YA).length + p.length < room 32 then
 if (([] : List YA) ++ p).length + ([m1]).length < room 32 then
 (spec_AreMoves.f ((([] : List YA) ++ p) ++ ([m1]))).bind fun r2 =>
 if (!r2) = true then
 some ([], 5)
 else
 some ((([] : List YA) ++ p) ++ ([m1]), 0)
 else
 none
 else
 none
def spec_AddMove.fn (n : Nat) (p : List YA) (m1 : Int × ByteArray × Int) : Option YS := spec_AddMove.top p m1
def spec_AddMove.f (p : List YA) (m1 : Int × ByteArray × Int) : Option YS := spec_AddMove.fn NN p m1
end
end Go.Pl

namespace Go.Pl
open Go.Ev
set_option linter.unusedVariables false
noncomputable section
def spec_AddSignal.g6 (L6 : YE → Int → YC → Option YV) (p : List YC) (at6 : Int) (x3 : Int × Int) : Option YV :=
 if (decide ((0 : Int) < at6)) = true then
 if (0 : Int) ≤ (IntKind.i64.wrap (at6 - 1)) ∧ ((IntKind.i64.wrap (at6 - 1)) : Int) < p.length then
 if (decide ((x3.1 : Int) < ((p.getD ((IntKind.i64.wrap (at6 - 1)) : Int).toNat (0, 0)).1))) = true then
 L6 p (IntKind.i64.wrap (at6 - 1)) x3
 else if (0 : Int) ≤ at6 ∧ (at6 : Int) ≤ p.length then
 if (0 : Int) ≤ at6 ∧ (at6 : Int) ≤ p.length then
 if ([] : List YC).length + (p.take (at6 : Int).toNat).length < room 16 then
 if (([] : List YC) ++ (p.take (at6 : Int).toNat)).length + ([x3]).length < room 16 then
 if ((([] : List YC) ++ (p.take (at6 : Int).toNat)) ++ ([x3])).length + (p.drop (at6 : Int).toNat).length < room 16 then
 (spec_AreSignals.f (((([] : List YC) ++ (p.take (at6 : Int).toNat)) ++ ([x3])) ++ (p.drop (at6 : Int).toNat))).bind fun r2 =>
 if (!r2) = true then
 some ([], 5)
 else
 some (((([] : List YC) ++ (p.take (at6 : Int).toNat)) ++ ([x3])) ++ (p.drop (at6 : Int).toNat), 0)
 else
 none
 else
 none
 else
 none
 else
 none
 else
 none
 else
 none
 else if (0 : Int) ≤ at6 ∧ (at6 : Int) ≤ p.length then
 if (0 : Int) ≤ at6 ∧ (at6 : Int) ≤ p.length then
 if ([] : List YC).length + (p.take (at6 : Int).toNat).length < room 16 then
 if (([] : List YC) ++ (p.take (at6 : Int).toNat)).length + ([x3]).length < room 16 then
 if ((([] : List YC) ++ (p.take (at6 : Int).toNat)) ++ ([x3])).length + (p.drop (at6 : Int).toNat).length < room 16 then
 (spec_AreSignals.f (((([] : List YC) ++ (p.take (at6 : Int).toNat)) ++ ([x3])) ++ (p.drop (at6 : Int).toNat))).bind fun r3 =>
 if (!r3) = true then
 some ([], 5)
 else
 some (((([] : List YC) ++ (p.take (at6 : Int).toNat)) ++ ([x3])) ++ (p.drop (at6 : Int).toNat), 0)
 else
 none
 else
 none
 else
 none
 else
 none
 else
 none
def spec_AddSignal.l6 (n : Nat) : Nat → YE → Int → YC → Option YV
 | 0 => fun _ _ _ => none
 | k + 1 => spec_AddSignal.g6 (spec_AddSignal.l6 n k)
def spec_AddSignal.top (I6 : YE → Int → YC → Option YV) (p : List YC) (x1 : Int × Int) : Option YV :=
 (spec_AreSignals.f p).bind fun r1 =>
 if (!r1) = true then
 some ([], 1)
 else if (((p.length : Int) : Int) == 40) = true then
 some ([], 3)
 else
 I6 p (p.length : Int) x1
def spec_AddSignal.fn (n : Nat) (p : List YC) (x1 : Int × Int) : Option YV := spec_AddSignal.top (spec_AddSignal.l6 n n) p x1
def spec_AddSignal.f (p : List YC) (x1 : Int × Int) : Option YV := spec_AddSignal.fn NN p x1
end
end Go.Pl

namespace Go.Pl
open Go.Ev
set_option linter.unusedVariables false
noncomputable section
def spec_BookPieces.top (p : List YA) (b1 : Int × ByteArray × Int) : Option YS :=
 (spec_AreBookings.f p).bind fun r1 =>
 if (!r1) = true then
 some ([], 1)
 else if (((p.length : Int) : Int) == 60) = true then
 some ([], 3)
 else if ([] : List YA).length + p.length < room 32 then
 if (([] : List YA) ++ p).length + ([b1]).length < room 32 then
 (spec_AreBookings.f ((([] : List YA) ++ p) ++ ([b1]))).bind fun r2 =>
 if (!r2) = true then
 some ([], 5)
 else
 some ((([] : List YA) ++ p) ++ ([b1]), 0)
 else
 none
 else
 none
def spec_BookPieces.fn (n : Nat) (p : List YA) (b1 : Int × ByteArray × Int) : Option YS := spec_BookPieces.top p b1
def spec_BookPieces.f (p : List YA) (b1 : Int × ByteArray × Int) : Option YS := spec_BookPieces.fn NN p b1
end
end Go.Pl

namespace Go.Pl
open Go.Ev
set_option linter.unusedVariables false
noncomputable section
def spec_l32Limits.top (p : List YA) : Option Int :=
 if (decide ((60 : Int) < (p.length : Int))) = true then
 some 3
 else
 (spec_AreBookings.f p).bind fun r1 =>
 if (!r1) = true then
 some 5
 else
 some 0
def spec_l32Limits.fn (n : Nat) (p : List YA) : Option Int := spec_l32Limits.top p
def spec_l32Limits.f (p : List YA) : Option Int := spec_l32Limits.fn NN p
end
end Go.Pl

namespace Go.Pl
open Go.Ev
set_option linter.unusedVariables false
noncomputable section
def spec_SettleAll.g8 (L8 : YD → Int → Int → YD → List ByteArray → Option YS) (p : List YA) (q : Int) (i8 : Int) (s : List YA) (r : List ByteArray) : Option YS :=
 if (decide ((i8 : Int) < (r.length : Int))) = true then
 if (0 : Int) ≤ i8 ∧ (i8 : Int) < r.length then
 if (0 : Int) ≤ i8 ∧ (i8 : Int) < r.length then
 (spec_l32Left.f p (r.getD (i8 : Int).toNat ByteArray.empty) (p.length : Int)).bind fun r4 =>
 if s.length + ([(q, (r.getD (i8 : Int).toNat ByteArray.empty, r4))]).length < room 32 then
 L8 p q (IntKind.i64.wrap (i8 + 1)) (s ++ ([(q, (r.getD (i8 : Int).toNat ByteArray.empty, r4))])) r
 else
 none
 else
 none
 else
 none
 else
 (spec_l32Limits.f s).bind fun r5 =>
 if ((r5 : Int) != 0) = true then
 some ([], r5)
 else
 some (s, 0)
def spec_SettleAll.l8 (n : Nat) : Nat → YD → Int → Int → YD → List ByteArray → Option YS
 | 0 => fun _ _ _ _ _ => none
 | k + 1 => spec_SettleAll.g8 (spec_SettleAll.l8 n k)
def spec_SettleAll.top (I8 : YD → Int → Int → YD → List ByteArray → Option YS) (p : List YA) (q : Int) : Option YS :=
 (spec_AreBookings.f p).bind fun r1 =>
 if (!r1) = true then
 some ([], 1)
 else
 (spec_l01In.f q 1 3).bind fun r2 =>
 if (!r2) = true then
 some ([], 2)
 else if ([] : List YA).length + p.length < room 32 then
 (spec_l32Open.f p).bind fun r3 =>
 I8 p q 0 (([] : List YA) ++ p) r3
 else
 none
def spec_SettleAll.fn (n : Nat) (p : List YA) (q : Int) : Option YS := spec_SettleAll.top (spec_SettleAll.l8 n n) p q
def spec_SettleAll.f (p : List YA) (q : Int) : Option YS := spec_SettleAll.fn NN p q
end
end Go.Pl

namespace Go.Pl
open Go.Ev
set_option linter.unusedVariables false
noncomputable section
def spec_l21Words.top  : Option YG :=
 some ([(⟨#[107, 101, 121, 97]⟩ : ByteArray), (⟨#[107, 101, 121, 98]⟩ : ByteArray), (⟨#[97, 114, 109]⟩ : ByteArray), (⟨#[100, 105, 115, 97, 114, 109]⟩ : ByteArray), (⟨#[104, 111, 108, 100]⟩ : ByteArray), (⟨#[114, 101, 115, 117, 109, 101]⟩ : ByteArray), (⟨#[115, 116, 111, 112]⟩ : ByteArray), (⟨#[112, 114, 101, 115, 115]⟩ : ByteArray), (⟨#[116, 105, 99, 107]⟩ : ByteArray), (⟨#[114, 101, 115, 101, 116]⟩ : ByteArray)])
def spec_l21Words.fn (n : Nat)  : Option YG := spec_l21Words.top 
def spec_l21Words.f  : Option YG := spec_l21Words.fn NN 
end
end Go.Pl

namespace Go.Pl
open Go.Ev
set_option linter.unusedVariables false
noncomputable section
def spec_l34Place.g2 (L2 : List ByteArray → ByteArray → Int → Option Int) (p : List ByteArray) (q : ByteArray) (i5 : Int) : Option Int :=
 if (decide ((i5 : Int) < (p.length : Int))) = true then
 if (0 : Int) ≤ i5 ∧ (i5 : Int) < p.length then
 if ((p.getD (i5 : Int).toNat ByteArray.empty).toList == q.toList) = true then
 some i5
 else
 L2 p q (IntKind.i64.wrap (i5 + 1))
 else
 none
 else
 some (-1)
def spec_l34Place.l2 (n : Nat) : Nat → List ByteArray → ByteArray → Int → Option Int
 | 0 => fun _ _ _ => none
 | k + 1 => spec_l34Place.g2 (spec_l34Place.l2 n k)
def spec_l34Place.top (I2 : List ByteArray → ByteArray → Int → Option Int) (p : List ByteArray) (q : ByteArray) : Option Int :=
 I2 p q 0
def spec_l34Place.fn (n : Nat) (p : List ByteArray) (q : ByteArray) : Option Int := spec_l34Place.top (spec_l34Place.l2 n n) p q
def spec_l34Place.f (p : List ByteArray) (q : ByteArray) : Option Int := spec_l34Place.fn NN p q
end
end Go.Pl

namespace Go.Pl
open Go.Ev
set_option linter.unusedVariables false
noncomputable section
def spec_l34Set.top (d0 : YD × YE × List YA) (p : List ByteArray) (n2 : List Int) : Option (YF × Int) :=
 if (0 : Int) ≤ 0 ∧ (0 : Int) < p.length then
 if ((p.getD (0 : Int).toNat ByteArray.empty).toList == (⟨#[112, 101, 111, 112, 108, 101]⟩ : ByteArray).toList) = true then
 if (0 : Int) ≤ 0 ∧ (0 : Int) < n2.length then
 if (0 : Int) ≤ 1 ∧ (1 : Int) < p.length then
 if (0 : Int) ≤ 1 ∧ (1 : Int) < n2.length then
 (spec_AddMove.f d0.1 (n2.getD (0 : Int).toNat 0, (p.getD (1 : Int).toNat ByteArray.empty, n2.getD (1 : Int).toNat 0))).bind fun r1 =>
 if ((r1.2 : Int) == 0) = true then
 some ((r1.1, d0.2), r1.2)
 else
 some (d0, r1.2)
 else
 none
 else
 none
 else
 none
 else if ((p.getD (0 : Int).toNat ByteArray.empty).toList == (⟨#[115, 105, 103, 110, 97, 108]⟩ : ByteArray).toList) = true then
 if (0 : Int) ≤ 1 ∧ (1 : Int) < p.length then
 (spec_l21Words.f).bind fun r2 =>
 (spec_l34Place.f r2 (p.getD (1 : Int).toNat ByteArray.empty)).bind fun r3 =>
 if (decide ((r3 : Int) < 0)) = true then
 some (d0, 6)
 else if (0 : Int) ≤ 0 ∧ (0 : Int) < n2.length then
 (spec_AddSignal.f d0.2.1 (n2.getD (0 : Int).toNat 0, r3)).bind fun r4 =>
 if ((r4.2 : Int) == 0) = true then
 some ((d0.1, (r4.1, d0.2.2)), r4.2)
 else
 some (d0, r4.2)
 else
 none
 else
 none
 else if ((p.getD (0 : Int).toNat ByteArray.empty).toList == (⟨#[98, 111, 111, 107]⟩ : ByteArray).toList) = true then
 if (0 : Int) ≤ 1 ∧ (1 : Int) < p.length then
 (spec_l34Place.f ([(⟨#[105, 110]⟩ : ByteArray), (⟨#[102, 105, 114, 101, 100]⟩ : ByteArray), (⟨#[114, 101, 116, 117, 114, 110, 101, 100]⟩ : ByteArray), (⟨#[100, 101, 115, 116, 114, 111, 121, 101, 100]⟩ : ByteArray)]) (p.getD (1 : Int).toNat ByteArray.empty)).bind fun r5 =>
 if (decide ((r5 : Int) < 0)) = true then
 some (d0, 6)
 else if (0 : Int) ≤ 2 ∧ (2 : Int) < p.length then
 if (0 : Int) ≤ 0 ∧ (0 : Int) < n2.length then
 (spec_BookPieces.f d0.2.2 (r5, (p.getD (2 : Int).toNat ByteArray.empty, n2.getD (0 : Int).toNat 0))).bind fun r6 =>
 if ((r6.2 : Int) == 0) = true then
 some ((d0.1, (d0.2.1, r6.1)), r6.2)
 else
 some (d0, r6.2)
 else
 none
 else
 none
 else
 none
 else if (0 : Int) ≤ 0 ∧ (0 : Int) < n2.length then
 (spec_SettleAll.f d0.2.2 (n2.getD (0 : Int).toNat 0)).bind fun r7 =>
 if ((r7.2 : Int) == 0) = true then
 some ((d0.1, (d0.2.1, r7.1)), r7.2)
 else
 some (d0, r7.2)
 else
 none
 else
 none
def spec_l34Set.fn (n : Nat) (d0 : YD × YE × List YA) (p : List ByteArray) (n2 : List Int) : Option (YF × Int) := spec_l34Set.top d0 p n2
def spec_l34Set.f (d0 : YD × YE × List YA) (p : List ByteArray) (n2 : List Int) : Option (YF × Int) := spec_l34Set.fn NN d0 p n2
end
end Go.Pl

namespace Go.Pl
open Go.Ev
set_option linter.unusedVariables false
noncomputable section
def spec_l34Run.top (d0 : YD × YE × List YA) (p : ByteArray) : Option YAK :=
 (spec_l34Parse.f p).bind fun r1 =>
 if (!r1.2.2) = true then
 (spec_l01Dec.f 6).bind fun r2 =>
 if (⟨#[101, 114, 114, 111, 114, 32]⟩ : ByteArray).size + r2.size ≤ 9223372036854775807 then
 some (d0, (⟨#[101, 114, 114, 111, 114, 32]⟩ : ByteArray) ++ r2)
 else
 none
 else if (0 : Int) ≤ 0 ∧ (0 : Int) < r1.1.length then
 if ((r1.1.getD (0 : Int).toNat ByteArray.empty).toList == (⟨#[112, 101, 111, 112, 108, 101]⟩ : ByteArray).toList) = true then
 if ((r1.1.getD (0 : Int).toNat ByteArray.empty).toList == (⟨#[112, 101, 111, 112, 108, 101]⟩ : ByteArray).toList) = true then
 (spec_l34Set.f d0 r1.1 r1.2.1).bind fun r3 =>
 if ((r3.2 : Int) != 0) = true then
 (spec_l01Dec.f r3.2).bind fun r4 =>
 if (⟨#[101, 114, 114, 111, 114, 32]⟩ : ByteArray).size + r4.size ≤ 9223372036854775807 then
 some (d0, (⟨#[101, 114, 114, 111, 114, 32]⟩ : ByteArray) ++ r4)
 else
 none
 else
 some (r3.1, (⟨#[111, 107]⟩ : ByteArray))
 else
 (spec_l34Ask.f d0 r1.1 r1.2.1).bind fun r5 =>
 if ((r5.2 : Int) != 0) = true then
 (spec_l01Dec.f r5.2).bind fun r6 =>
 if (⟨#[101, 114, 114, 111, 114, 32]⟩ : ByteArray).size + r6.size ≤ 9223372036854775807 then
 some (d0, (⟨#[101, 114, 114, 111, 114, 32]⟩ : ByteArray) ++ r6)
 else
 none
 else
 some (d0, r5.1)
 else if ((r1.1.getD (0 : Int).toNat ByteArray.empty).toList == (⟨#[115, 105, 103, 110, 97, 108]⟩ : ByteArray).toList) = true then
 if ((r1.1.getD (0 : Int).toNat ByteArray.empty).toList == (⟨#[115, 105, 103, 110, 97, 108]⟩ : ByteArray).toList) = true then
 (spec_l34Set.f d0 r1.1 r1.2.1).bind fun r7 =>
 if ((r7.2 : Int) != 0) = true then
 (spec_l01Dec.f r7.2).bind fun r8 =>
 if (⟨#[101, 114, 114, 111, 114, 32]⟩ : ByteArray).size + r8.size ≤ 9223372036854775807 then
 some (d0, (⟨#[101, 114, 114, 111, 114, 32]⟩ : ByteArray) ++ r8)
 else
 none
 else
 some (r7.1, (⟨#[111, 107]⟩ : ByteArray))
 else
 (spec_l34Ask.f d0 r1.1 r1.2.1).bind fun r9 =>
 if ((r9.2 : Int) != 0) = true then
 (spec_l01Dec.f r9.2).bind fun r10 =>
 if (⟨#[101, 114, 114, 111, 114, 32]⟩ : ByteArray).size + r10.size ≤ 9223372036854775807 then
 some (d0, (⟨#[101, 114, 114, 111, 114, 32]⟩ : ByteArray) ++ r10)
 else
 none
 else
 some (d0, r9.1)
 else if ((r1.1.getD (0 : Int).toNat ByteArray.empty).toList == (⟨#[98, 111, 111, 107]⟩ : ByteArray).toList) = true then
 if ((r1.1.getD (0 : Int).toNat ByteArray.empty).toList == (⟨#[98, 111, 111, 107]⟩ : ByteArray).toList) = true then
 (spec_l34Set.f d0 r1.1 r1.2.1).bind fun r11 =>
 if ((r11.2 : Int) != 0) = true then
 (spec_l01Dec.f r11.2).bind fun r12 =>
 if (⟨#[101, 114, 114, 111, 114, 32]⟩ : ByteArray).size + r12.size ≤ 9223372036854775807 then
 some (d0, (⟨#[101, 114, 114, 111, 114, 32]⟩ : ByteArray) ++ r12)
 else
 none
 else
 some (r11.1, (⟨#[111, 107]⟩ : ByteArray))
 else
 (spec_l34Ask.f d0 r1.1 r1.2.1).bind fun r13 =>
 if ((r13.2 : Int) != 0) = true then
 (spec_l01Dec.f r13.2).bind fun r14 =>
 if (⟨#[101, 114, 114, 111, 114, 32]⟩ : ByteArray).size + r14.size ≤ 9223372036854775807 then
 some (d0, (⟨#[101, 114, 114, 111, 114, 32]⟩ : ByteArray) ++ r14)
 else
 none
 else
 some (d0, r13.1)
 else if ((r1.1.getD (0 : Int).toNat ByteArray.empty).toList == (⟨#[115, 101, 116, 116, 108, 101]⟩ : ByteArray).toList) = true then
 (spec_l34Set.f d0 r1.1 r1.2.1).bind fun r15 =>
 if ((r15.2 : Int) != 0) = true then
 (spec_l01Dec.f r15.2).bind fun r16 =>
 if (⟨#[101, 114, 114, 111, 114, 32]⟩ : ByteArray).size + r16.size ≤ 9223372036854775807 then
 some (d0, (⟨#[101, 114, 114, 111, 114, 32]⟩ : ByteArray) ++ r16)
 else
 none
 else
 some (r15.1, (⟨#[111, 107]⟩ : ByteArray))
 else
 (spec_l34Ask.f d0 r1.1 r1.2.1).bind fun r17 =>
 if ((r17.2 : Int) != 0) = true then
 (spec_l01Dec.f r17.2).bind fun r18 =>
 if (⟨#[101, 114, 114, 111, 114, 32]⟩ : ByteArray).size + r18.size ≤ 9223372036854775807 then
 some (d0, (⟨#[101, 114, 114, 111, 114, 32]⟩ : ByteArray) ++ r18)
 else
 none
 else
 some (d0, r17.1)
 else
 none
def spec_l34Run.fn (n : Nat) (d0 : YD × YE × List YA) (p : ByteArray) : Option YAK := spec_l34Run.top d0 p
def spec_l34Run.f (d0 : YD × YE × List YA) (p : ByteArray) : Option YAK := spec_l34Run.fn NN d0 p
end
end Go.Pl

namespace Go.Pl
open Go.Ev
set_option linter.unusedVariables false
noncomputable section
def spec_l34All.g4 (L4 : YU) (p : List ByteArray) (i6 : Int) (d4 : YD × YE × List YA) (q : List ByteArray) (w3 : List YA) (w4 : List YC) (w5 : List YA) : Option YT :=
 if (decide ((i6 : Int) < (p.length : Int))) = true then
 if (0 : Int) ≤ i6 ∧ (i6 : Int) < p.length then
 (spec_l34Run.f d4 (p.getD (i6 : Int).toNat ByteArray.empty)).bind fun r2 =>
 if q.length + ([r2.2]).length < room 16 then
 L4 p (IntKind.i64.wrap (i6 + 1)) r2.1 (q ++ ([r2.2])) w3 w4 w5
 else
 none
 else
 none
 else
 some (d4, q)
def spec_l34All.l4 (n : Nat) : Nat → List ByteArray → Int → YF → List ByteArray → YD → YE → YD → Option YT
 | 0 => fun _ _ _ _ _ _ _ => none
 | k + 1 => spec_l34All.g4 (spec_l34All.l4 n k)
def spec_l34All.top (I4 : YU) (p : List ByteArray) : Option YT :=
 (spec_l34First.f).bind fun r1 =>
 I4 p 0 (r1.1, (r1.2.1, r1.2.2)) [] [] [] []
def spec_l34All.fn (n : Nat) (p : List ByteArray) : Option YT := spec_l34All.top (spec_l34All.l4 n n) p
def spec_l34All.f (p : List ByteArray) : Option YT := spec_l34All.fn NN p
end
end Go.Pl

namespace Go.Pl
open Go.Ev
set_option linter.unusedVariables false
noncomputable section
def spec_l34Lines.top (p : ByteArray) : Option YG :=
 (spec_l01Split.f p 10).bind fun r1 =>
 if (0 : Int) ≤ (IntKind.i64.wrap ((r1.length : Int) - 1)) ∧ ((IntKind.i64.wrap ((r1.length : Int) - 1)) : Int) < r1.length then
 if ((r1.getD ((IntKind.i64.wrap ((r1.length : Int) - 1)) : Int).toNat ByteArray.empty).toList == (⟨#[]⟩ : ByteArray).toList) = true then
 if (0 : Int) ≤ (IntKind.i64.wrap ((r1.length : Int) - 1)) ∧ ((IntKind.i64.wrap ((r1.length : Int) - 1)) : Int) ≤ r1.length then
 some (r1.take ((IntKind.i64.wrap ((r1.length : Int) - 1)) : Int).toNat)
 else
 none
 else
 some r1
 else
 none
def spec_l34Lines.fn (n : Nat) (p : ByteArray) : Option YG := spec_l34Lines.top p
def spec_l34Lines.f (p : ByteArray) : Option YG := spec_l34Lines.fn NN p
end
end Go.Pl

namespace Go.Pl
open Go.Ev
set_option linter.unusedVariables false
noncomputable section
def spec_l34Fits.top (p : ByteArray) : Option Bool :=
 if (decide (((p.size : Int) : Int) ≤ 1500)) = true then
 (spec_l34Lines.f p).bind fun r1 =>
 some (decide (((r1.length : Int) : Int) ≤ 40))
 else
 some false
def spec_l34Fits.fn (n : Nat) (p : ByteArray) : Option Bool := spec_l34Fits.top p
def spec_l34Fits.f (p : ByteArray) : Option Bool := spec_l34Fits.fn NN p
end
end Go.Pl

namespace Go.Pl
open Go.Ev
set_option linter.unusedVariables false
noncomputable section
def spec_RunConsole.top (p : ByteArray) : Option YAC :=
 (spec_l34Fits.f p).bind fun r1 =>
 if (!r1) = true then
 some ([], 3)
 else
 (spec_l34Lines.f p).bind fun r2 =>
 (spec_l34All.f r2).bind fun r3 =>
 some (r3.2, 0)
def spec_RunConsole.fn (n : Nat) (p : ByteArray) : Option YAC := spec_RunConsole.top p
def spec_RunConsole.f (p : ByteArray) : Option YAC := spec_RunConsole.fn NN p
end
end Go.Pl

namespace Go.Pl
open Go.Ev
set_option linter.unusedVariables false
noncomputable section
def laws_FnExactRunConsole.top (p : ByteArray) : Option Bool :=
 if (decide ((1000000 : Int) < (p.size : Int))) = true then
 some true
 else
 (spec_RunConsole.f p).bind fun r1 =>
 (impl_RunConsole.f p).bind fun r2 =>
 (laws_eqStringS.f r2.1 r1.1).bind fun r3 =>
 if (!r3) = false then
 if ((r2.2 : Int) != r1.2) = true then
 some false
 else
 (laws_markStringS.f r2.1 101).bind fun r4 =>
 (laws_heldStringS.f r4.2 101).bind fun r5 =>
 if (decide ((r5 : Int) < 0)) = true then
 some false
 else if ((r5 : Int) != r4.1) = true then
 some false
 else
 (impl_RunConsole.f p).bind fun r6 =>
 (laws_eqStringS.f r6.1 r1.1).bind fun r7 =>
 if (!r7) = false then
 if ((r6.2 : Int) != r1.2) = true then
 some false
 else
 (laws_heldStringS.f r4.2 101).bind fun r8 =>
 if (decide ((r8 : Int) < 0)) = true then
 some false
 else if ((r8 : Int) != r4.1) = true then
 some false
 else
 some true
 else
 some false
 else
 some false
def laws_FnExactRunConsole.fn (n : Nat) (p : ByteArray) : Option Bool := laws_FnExactRunConsole.top p
def laws_FnExactRunConsole.f (p : ByteArray) : Option Bool := laws_FnExactRunConsole.fn NN p
end
end Go.Pl

namespace Go.Ev.Tryz
open Go.Proofs Go.Pl
set_option linter.unusedVariables false
noncomputable section
def spec_l01Split.st4 (s0 : ByteArray) (by1 : Int) (p : Int) (i7 : Int) (q : List ByteArray) : St := ⟨[.dat .str s0, .dat (.int .u8) by1, .gone, .gone, .gone, .ref 0, .dat (.int .i64) p, .dat (.int .i64) i7, .gone, .gone, .gone, .gone, .gone, .gone, .gone, .gone, .gone, .gone, .gone, .gone, .gone, .gone, .gone, .gone, .gone, .gone, .gone, .gone, .gone, .gone, .gone, .gone, .gone, .gone, .gone, .gone], [.row 9 .str q none]⟩
def spec_l01Split.con : Con := { ps := [(.val, .str), (.val, (.int .u8))], rs := [(.own, (.sl 9 .str))], F := fun x => spec_l01Split.f x.1 x.2 }
def spec_l01Split.cs : List (FuncId × Con) := []
def spec_l01Split.E : Env := envOf tab spec_l01Split.cs 0 false
def spec_l01Split.keep (i : Nat) : List Nat := if i = 4 then [0, 1, 5, 6, 7] else []
def spec_l01Split.at4 (n : Nat) (x : ByteArray × Int) : Code × (Ex → St → Option (YG)) := ctx spec_l01Split.E spec_l01Split.keep n [.snd, .snd, .snd, .fst, .snd, .blk] (codeOf Tryz.f62) (kEnd spec_l01Split.E Tryz.f62 spec_l01Split.con x)
def spec_l01Split.LN4 (n : Nat) (x : ByteArray × Int) : Nat → St → Option (YG) := loopN (exec spec_l01Split.E spec_l01Split.keep n (bodyOf (spec_l01Split.at4 n x).1)) (St.norm 0 (spec_l01Split.keep 4)) (spec_l01Split.at4 n x).2
set_option maxRecDepth 100000 in
theorem spec_l01Split.lem4 (n : Nat) (x : ByteArray × Int) : ∀ (k : Nat) (s0 : ByteArray) (by1 : Int) (p : Int) (i7 : Int) (q : List ByteArray), spec_l01Split.LN4 n x k (spec_l01Split.st4 s0 by1 p i7 q) = spec_l01Split.l4 n k s0 by1 p i7 q := by
 intro k
 induction k with
 | zero => intro s0 by1 p i7 q; rfl
 | succ k ih =>
  intro s0 by1 p i7 q
  have h : spec_l01Split.LN4 n x (k + 1) (spec_l01Split.st4 s0 by1 p i7 q) = spec_l01Split.g4 (fun s0 by1 p i7 q => spec_l01Split.LN4 n x k (spec_l01Split.st4 s0 by1 p i7 q)) s0 by1 p i7 q := by kernel_rfl
  rw [h]
  simp only [ih]
  rfl
set_option maxRecDepth 100000 in
theorem spec_l01Split.body (n : Nat) (x : ByteArray × Int) : bodyF spec_l01Split.E spec_l01Split.keep n Tryz.f62 spec_l01Split.con x = spec_l01Split.fn n x.1 x.2 := by
 have h : bodyF spec_l01Split.E spec_l01Split.keep n Tryz.f62 spec_l01Split.con x = spec_l01Split.top (fun s0 by1 p i7 q => spec_l01Split.LN4 n x n (spec_l01Split.st4 s0 by1 p i7 q)) x.1 x.2 := by kernel_rfl
 rw [h]
 simp only [spec_l01Split.lem4]
 rfl
set_option maxRecDepth 100000 in
theorem spec_l01Split.good : Good Tryz.prog 62 spec_l01Split.con :=
 good_of tabok (cs := spec_l01Split.cs) trivial 0 false (fn := Tryz.f62) Tryz.func62 rfl (by decide) (by simp [spec_l01Split.con]) spec_l01Split.keep NN (fun _ => rfl) (fun x => spec_l01Split.body NN x)
end
end Go.Ev.Tryz

namespace Go.Ev.Tryz
open Go.Proofs Go.Pl
set_option linter.unusedVariables false
noncomputable section
def spec_l34Lines.con : Con := { ps := [(.val, .str)], rs := [(.val, (.sl 9 .str))], F := fun x => spec_l34Lines.f x }
def spec_l34Lines.cs : List (FuncId × Con) := [(62, spec_l01Split.con)]
def spec_l34Lines.E : Env := envOf tab spec_l34Lines.cs 0 false
def spec_l34Lines.keep (i : Nat) : List Nat := []
set_option maxRecDepth 100000 in
theorem spec_l34Lines.body (n : Nat) (x : ByteArray) : bodyF spec_l34Lines.E spec_l34Lines.keep n Tryz.f32 spec_l34Lines.con x = spec_l34Lines.fn n x := by
 have h : bodyF spec_l34Lines.E spec_l34Lines.keep n Tryz.f32 spec_l34Lines.con x = spec_l34Lines.top x := by kernel_rfl
 exact h
set_option maxRecDepth 100000 in
theorem spec_l34Lines.good : Good Tryz.prog 32 spec_l34Lines.con :=
 good_of tabok (cs := spec_l34Lines.cs) ⟨spec_l01Split.good, trivial⟩ 0 false (fn := Tryz.f32) Tryz.func32 rfl (by decide) (by simp [spec_l34Lines.con]) spec_l34Lines.keep NN (fun _ => rfl) (fun x => spec_l34Lines.body NN x)
end
end Go.Ev.Tryz

namespace Go.Ev.Tryz
open Go.Proofs Go.Pl
set_option linter.unusedVariables false
noncomputable section
def spec_l34Fits.con : Con := { ps := [(.val, .str)], rs := [(.val, .bool)], F := fun x => spec_l34Fits.f x }
def spec_l34Fits.cs : List (FuncId × Con) := [(32, spec_l34Lines.con)]
def spec_l34Fits.E : Env := envOf tab spec_l34Fits.cs 0 false
def spec_l34Fits.keep (i : Nat) : List Nat := []
set_option maxRecDepth 100000 in
theorem spec_l34Fits.body (n : Nat) (x : ByteArray) : bodyF spec_l34Fits.E spec_l34Fits.keep n Tryz.f30 spec_l34Fits.con x = spec_l34Fits.fn n x := by
 have h : bodyF spec_l34Fits.E spec_l34Fits.keep n Tryz.f30 spec_l34Fits.con x = spec_l34Fits.top x := by kernel_rfl
 exact h
set_option maxRecDepth 100000 in
theorem spec_l34Fits.good : Good Tryz.prog 30 spec_l34Fits.con :=
 good_of tabok (cs := spec_l34Fits.cs) ⟨spec_l34Lines.good, trivial⟩ 0 false (fn := Tryz.f30) Tryz.func30 rfl (by decide) (by simp [spec_l34Fits.con]) spec_l34Fits.keep NN (fun _ => rfl) (fun x => spec_l34Fits.body NN x)
end
end Go.Ev.Tryz

namespace Go.Ev.Tryz
open Go.Proofs Go.Pl
set_option linter.unusedVariables false
noncomputable section
def spec_l34First.con : Con := { ps := [], rs := [(.own, (.pair (.sl 70 (.pair (.int .i64) (.pair .str (.int .i64)))) (.pair (.sl 72 (.pair (.int .i64) (.int .i64))) (.sl 74 (.pair (.int .i64) (.pair .str (.int .i64)))))))], F := fun x => spec_l34First.f  }
def spec_l34First.cs : List (FuncId × Con) := []
def spec_l34First.E : Env := envOf tab spec_l34First.cs 0 false
def spec_l34First.keep (i : Nat) : List Nat := []
set_option maxRecDepth 100000 in
theorem spec_l34First.body (n : Nat) (x : Unit) : bodyF spec_l34First.E spec_l34First.keep n Tryz.f60 spec_l34First.con x = spec_l34First.fn n  := by
 have h : bodyF spec_l34First.E spec_l34First.keep n Tryz.f60 spec_l34First.con x = spec_l34First.top  := by kernel_rfl
 exact h
set_option maxRecDepth 100000 in
theorem spec_l34First.good : Good Tryz.prog 60 spec_l34First.con :=
 good_of tabok (cs := spec_l34First.cs) trivial 0 false (fn := Tryz.f60) Tryz.func60 rfl (by decide) (by simp [spec_l34First.con]) spec_l34First.keep NN (fun _ => rfl) (fun x => spec_l34First.body NN x)
end
end Go.Ev.Tryz

namespace Go.Ev.Tryz
open Go.Proofs Go.Pl
set_option linter.unusedVariables false
noncomputable section
def spec_l34Kind.con : Con := { ps := [(.val, .str)], rs := [(.val, .str)], F := fun x => spec_l34Kind.f x }
def spec_l34Kind.cs : List (FuncId × Con) := []
def spec_l34Kind.E : Env := envOf tab spec_l34Kind.cs 0 false
def spec_l34Kind.keep (i : Nat) : List Nat := []
set_option maxRecDepth 100000 in
theorem spec_l34Kind.body (n : Nat) (x : ByteArray) : bodyF spec_l34Kind.E spec_l34Kind.keep n Tryz.f74 spec_l34Kind.con x = spec_l34Kind.fn n x := by
 have h : bodyF spec_l34Kind.E spec_l34Kind.keep n Tryz.f74 spec_l34Kind.con x = spec_l34Kind.top x := by kernel_rfl
 exact h
set_option maxRecDepth 100000 in
theorem spec_l34Kind.good : Good Tryz.prog 74 spec_l34Kind.con :=
 good_of tabok (cs := spec_l34Kind.cs) trivial 0 false (fn := Tryz.f74) Tryz.func74 rfl (by decide) (by simp [spec_l34Kind.con]) spec_l34Kind.keep NN (fun _ => rfl) (fun x => spec_l34Kind.body NN x)
end
end Go.Ev.Tryz

namespace Go.Ev.Tryz
open Go.Proofs Go.Pl
set_option linter.unusedVariables false
noncomputable section
def spec_l01Dec.topraw (S : Int → Option ByteArray) (n0 : Int) : Option ByteArray :=
 if (decide ((n0 : Int) < 10)) = true then
  some (bytesOf ([IntKind.u8.wrap (IntKind.i64.wrap (48 + n0))]))
 else
  agree (
   (S (IntKind.i64.wrap (Int.tdiv n0 10))).bind fun r1 =>
   if r1.size + (bytesOf ([IntKind.u8.wrap (IntKind.i64.wrap (48 + (Int.tmod n0 10)))])).size ≤ 9223372036854775807 then
    some (r1 ++ (bytesOf ([IntKind.u8.wrap (IntKind.i64.wrap (48 + (Int.tmod n0 10)))])))
   else
    none
  ) (
   (S (IntKind.i64.wrap (Int.tdiv n0 10))).bind fun r1 =>
   if r1.size + (bytesOf ([IntKind.u8.wrap (IntKind.i64.wrap (48 + (Int.tmod n0 10)))])).size ≤ 9223372036854775807 then
    some (r1 ++ (bytesOf ([IntKind.u8.wrap (IntKind.i64.wrap (48 + (Int.tmod n0 10)))])))
   else
    none
  )
theorem spec_l01Dec.topraw_eq (S : Int → Option ByteArray) (n0 : Int) : (spec_l01Dec.topraw S) n0 = (spec_l01Dec.top S) n0 := by
 unfold spec_l01Dec.topraw spec_l01Dec.top
 simp only [agree_self]
def spec_l01Dec.con (S : Int → Option ByteArray) : Con := { ps := [(.val, (.int .i64))], rs := [(.val, .str)], F := fun x => S x }
def spec_l01Dec.cs (S : Int → Option ByteArray) : List (FuncId × Con) := [(68, (spec_l01Dec.con S))]
def spec_l01Dec.E (S : Int → Option ByteArray) : Env := envOf tab (spec_l01Dec.cs S) 0 false
def spec_l01Dec.keep (i : Nat) : List Nat := []
set_option maxRecDepth 100000 in
theorem spec_l01Dec.body (S : Int → Option ByteArray) (n : Nat) (x : Int) : bodyF (spec_l01Dec.E S) spec_l01Dec.keep n Tryz.f68 (spec_l01Dec.con S) x = (spec_l01Dec.fn S) n x := by
 have h : bodyF (spec_l01Dec.E S) spec_l01Dec.keep n Tryz.f68 (spec_l01Dec.con S) x = (spec_l01Dec.topraw S) x := by kernel_rfl
 rw [(spec_l01Dec.topraw_eq S)] at h
 exact h
set_option maxRecDepth 100000 in
theorem spec_l01Dec.goodk : ∀ k : Nat, Good Tryz.prog 68 (spec_l01Dec.con (spec_l01Dec.rc k)) := by
 intro k
 induction k with
 | zero => exact good_none (fn := Tryz.f68) Tryz.func68 rfl (by decide) (by simp [spec_l01Dec.con]) (fun _ => rfl)
 | succ k ih => exact good_of tabok (cs := spec_l01Dec.cs (spec_l01Dec.rc k)) ⟨ih, trivial⟩ 0 false (fn := Tryz.f68) Tryz.func68 rfl (by decide) (by simp [spec_l01Dec.con]) spec_l01Dec.keep NN (fun _ => rfl) (fun x => spec_l01Dec.body (spec_l01Dec.rc k) NN x)
theorem spec_l01Dec.good : Good Tryz.prog 68 (spec_l01Dec.con (fun n0 => spec_l01Dec.f n0)) := spec_l01Dec.goodk NN
end
end Go.Ev.Tryz

namespace Go.Ev.Tryz
open Go.Proofs Go.Pl
set_option linter.unusedVariables false
noncomputable section
def spec_l01Value.st5 (s0 : ByteArray) (n4 : Int) (i5 : Int) : St := ⟨[.dat .str s0, .gone, .gone, .gone, .dat (.int .i64) n4, .dat (.int .i64) i5, .gone, .gone, .gone, .gone, .gone, .gone, .gone, .gone, .gone, .gone, .gone, .gone, .gone, .gone, .gone, .gone, .gone, .gone, .gone, .gone, .gone, .gone, .gone, .gone, .gone, .gone, .gone, .gone, .gone, .gone, .gone, .gone, .gone, .gone, .gone, .gone, .gone], []⟩
def spec_l01Value.con : Con := { ps := [(.val, .str)], rs := [(.val, (.int .i64)), (.val, .bool)], F := fun x => spec_l01Value.f x }
def spec_l01Value.cs : List (FuncId × Con) := [(68, (spec_l01Dec.con (fun a0 => spec_l01Dec.f a0)))]
def spec_l01Value.E : Env := envOf tab spec_l01Value.cs 0 false
def spec_l01Value.keep (i : Nat) : List Nat := if i = 5 then [0, 4, 5] else []
def spec_l01Value.at5 (n : Nat) (x : ByteArray) : Code × (Ex → St → Option (YAG)) := ctx spec_l01Value.E spec_l01Value.keep n [.snd, .snd, .snd, .fst, .snd, .blk] (codeOf Tryz.f75) (kEnd spec_l01Value.E Tryz.f75 spec_l01Value.con x)
def spec_l01Value.LN5 (n : Nat) (x : ByteArray) : Nat → St → Option (YAG) := loopN (exec spec_l01Value.E spec_l01Value.keep n (bodyOf (spec_l01Value.at5 n x).1)) (St.norm 0 (spec_l01Value.keep 5)) (spec_l01Value.at5 n x).2
set_option maxRecDepth 100000 in
theorem spec_l01Value.lem5 (n : Nat) (x : ByteArray) : ∀ (k : Nat) (s0 : ByteArray) (n4 : Int) (i5 : Int), spec_l01Value.LN5 n x k (spec_l01Value.st5 s0 n4 i5) = spec_l01Value.l5 n k s0 n4 i5 := by
 intro k
 induction k with
 | zero => intro s0 n4 i5; rfl
 | succ k ih =>
  intro s0 n4 i5
  have h : spec_l01Value.LN5 n x (k + 1) (spec_l01Value.st5 s0 n4 i5) = spec_l01Value.g5 (fun s0 n4 i5 => spec_l01Value.LN5 n x k (spec_l01Value.st5 s0 n4 i5)) s0 n4 i5 := by kernel_rfl
  rw [h]
  simp only [ih]
  rfl
set_option maxRecDepth 100000 in
theorem spec_l01Value.body (n : Nat) (x : ByteArray) : bodyF spec_l01Value.E spec_l01Value.keep n Tryz.f75 spec_l01Value.con x = spec_l01Value.fn n x := by
 have h : bodyF spec_l01Value.E spec_l01Value.keep n Tryz.f75 spec_l01Value.con x = spec_l01Value.top (fun s0 n4 i5 => spec_l01Value.LN5 n x n (spec_l01Value.st5 s0 n4 i5)) x := by kernel_rfl
 rw [h]
 simp only [spec_l01Value.lem5]
 rfl
set_option maxRecDepth 100000 in
theorem spec_l01Value.good : Good Tryz.prog 75 spec_l01Value.con :=
 good_of tabok (cs := spec_l01Value.cs) ⟨spec_l01Dec.good, trivial⟩ 0 false (fn := Tryz.f75) Tryz.func75 rfl (by decide) (by simp [spec_l01Value.con]) spec_l01Value.keep NN (fun _ => rfl) (fun x => spec_l01Value.body NN x)
end
end Go.Ev.Tryz

namespace Go.Ev.Tryz
open Go.Proofs Go.Pl
set_option linter.unusedVariables false
noncomputable section
def spec_l01Signed.con : Con := { ps := [(.val, .str)], rs := [(.val, (.int .i64)), (.val, .bool)], F := fun x => spec_l01Signed.f x }
def spec_l01Signed.cs : List (FuncId × Con) := [(75, spec_l01Value.con)]
def spec_l01Signed.E : Env := envOf tab spec_l01Signed.cs 0 false
def spec_l01Signed.keep (i : Nat) : List Nat := []
set_option maxRecDepth 100000 in
theorem spec_l01Signed.body (n : Nat) (x : ByteArray) : bodyF spec_l01Signed.E spec_l01Signed.keep n Tryz.f76 spec_l01Signed.con x = spec_l01Signed.fn n x := by
 have h : bodyF spec_l01Signed.E spec_l01Signed.keep n Tryz.f76 spec_l01Signed.con x = spec_l01Signed.top x := by kernel_rfl
 exact h
set_option maxRecDepth 100000 in
theorem spec_l01Signed.good : Good Tryz.prog 76 spec_l01Signed.con :=
 good_of tabok (cs := spec_l01Signed.cs) ⟨spec_l01Value.good, trivial⟩ 0 false (fn := Tryz.f76) Tryz.func76 rfl (by decide) (by simp [spec_l01Signed.con]) spec_l01Signed.keep NN (fun _ => rfl) (fun x => spec_l01Signed.body NN x)
end
end Go.Ev.Tryz

namespace Go.Ev.Tryz
open Go.Proofs Go.Pl
set_option linter.unusedVariables false
noncomputable section
def spec_l34Parse.st7 (q : ByteArray) (i8 : Int) (p : List ByteArray) (n7 : List Int) : St := ⟨[.gone, .gone, .gone, .gone, .gone, .ref 0, .dat .str q, .ref 1, .dat (.int .i64) i8, .gone, .gone, .gone, .gone, .gone, .gone, .gone, .gone, .gone, .gone, .gone, .gone, .gone, .gone, .gone, .gone, .gone, .gone, .gone, .gone, .gone, .gone, .gone, .gone, .gone, .gone, .gone, .gone, .gone, .gone, .gone, .gone, .gone, .gone, .gone, .gone, .gone, .gone, .gone, .gone, .gone, .gone, .gone, .gone, .gone, .gone, .gone, .gone, .gone, .gone, .gone, .gone, .gone, .gone, .gone, .gone, .gone, .gone], [.row 9 .str p none, .row 2 (.int .i64) n7 none]⟩
def spec_l34Parse.con : Con := { ps := [(.val, .str)], rs := [(.own, (.sl 9 .str)), (.own, (.sl 2 (.int .i64))), (.own, .bool)], F := fun x => spec_l34Parse.f x }
def spec_l34Parse.cs : List (FuncId × Con) := [(62, spec_l01Split.con), (74, spec_l34Kind.con), (75, spec_l01Value.con), (76, spec_l01Signed.con)]
def spec_l34Parse.E : Env := envOf tab spec_l34Parse.cs 0 false
def spec_l34Parse.keep (i : Nat) : List Nat := if i = 7 then [5, 6, 7, 8] else []
def spec_l34Parse.at7 (n : Nat) (x : ByteArray) : Code × (Ex → St → Option (YW)) := ctx spec_l34Parse.E spec_l34Parse.keep n [.snd, .snd, .snd, .snd, .snd, .fst, .snd, .blk] (codeOf Tryz.f41) (kEnd spec_l34Parse.E Tryz.f41 spec_l34Parse.con x)
def spec_l34Parse.LN7 (n : Nat) (x : ByteArray) : Nat → St → Option (YW) := loopN (exec spec_l34Parse.E spec_l34Parse.keep n (bodyOf (spec_l34Parse.at7 n x).1)) (St.norm 0 (spec_l34Parse.keep 7)) (spec_l34Parse.at7 n x).2
set_option maxRecDepth 100000 in
theorem spec_l34Parse.lem7 (n : Nat) (x : ByteArray) : ∀ (k : Nat) (q : ByteArray) (i8 : Int) (p : List ByteArray) (n7 : List Int), spec_l34Parse.LN7 n x k (spec_l34Parse.st7 q i8 p n7) = spec_l34Parse.l7 n k q i8 p n7 := by
 intro k
 induction k with
 | zero => intro q i8 p n7; rfl
 | succ k ih =>
  intro q i8 p n7
  have h : spec_l34Parse.LN7 n x (k + 1) (spec_l34Parse.st7 q i8 p n7) = spec_l34Parse.g7 (fun q i8 p n7 => spec_l34Parse.LN7 n x k (spec_l34Parse.st7 q i8 p n7)) q i8 p n7 := by kernel_rfl
  rw [h]
  simp only [ih]
  rfl
set_option maxRecDepth 100000 in
theorem spec_l34Parse.body (n : Nat) (x : ByteArray) : bodyF spec_l34Parse.E spec_l34Parse.keep n Tryz.f41 spec_l34Parse.con x = spec_l34Parse.fn n x := by
 have h : bodyF spec_l34Parse.E spec_l34Parse.keep n Tryz.f41 spec_l34Parse.con x = spec_l34Parse.top (fun q i8 p n7 => spec_l34Parse.LN7 n x n (spec_l34Parse.st7 q i8 p n7)) x := by kernel_rfl
 rw [h]
 simp only [spec_l34Parse.lem7]
 rfl
set_option maxRecDepth 100000 in
theorem spec_l34Parse.good : Good Tryz.prog 41 spec_l34Parse.con :=
 good_of tabok (cs := spec_l34Parse.cs) ⟨spec_l01Split.good, spec_l34Kind.good, spec_l01Value.good, spec_l01Signed.good, trivial⟩ 0 false (fn := Tryz.f41) Tryz.func41 rfl (by decide) (by simp [spec_l34Parse.con]) spec_l34Parse.keep NN (fun _ => rfl) (fun x => spec_l34Parse.body NN x)
end
end Go.Ev.Tryz

namespace Go.Ev.Tryz
open Go.Proofs Go.Pl
set_option linter.unusedVariables false
noncomputable section
def spec_l21Words.con : Con := { ps := [], rs := [(.own, (.sl 9 .str))], F := fun x => spec_l21Words.f  }
def spec_l21Words.cs : List (FuncId × Con) := []
def spec_l21Words.E : Env := envOf tab spec_l21Words.cs 0 false
def spec_l21Words.keep (i : Nat) : List Nat := []
set_option maxRecDepth 100000 in
theorem spec_l21Words.body (n : Nat) (x : Unit) : bodyF spec_l21Words.E spec_l21Words.keep n Tryz.f71 spec_l21Words.con x = spec_l21Words.fn n  := by
 have h : bodyF spec_l21Words.E spec_l21Words.keep n Tryz.f71 spec_l21Words.con x = spec_l21Words.top  := by kernel_rfl
 exact h
set_option maxRecDepth 100000 in
theorem spec_l21Words.good : Good Tryz.prog 71 spec_l21Words.con :=
 good_of tabok (cs := spec_l21Words.cs) trivial 0 false (fn := Tryz.f71) Tryz.func71 rfl (by decide) (by simp [spec_l21Words.con]) spec_l21Words.keep NN (fun _ => rfl) (fun x => spec_l21Words.body NN x)
end
end Go.Ev.Tryz

namespace Go.Ev.Tryz
open Go.Proofs Go.Pl
set_option linter.unusedVariables false
noncomputable section
def spec_l01In.con : Con := { ps := [(.val, (.int .i64)), (.val, (.int .i64)), (.val, (.int .i64))], rs := [(.val, .bool)], F := fun x => spec_l01In.f x.1 x.2.1 x.2.2 }
def spec_l01In.cs : List (FuncId × Con) := []
def spec_l01In.E : Env := envOf tab spec_l01In.cs 0 false
def spec_l01In.keep (i : Nat) : List Nat := []
set_option maxRecDepth 100000 in
theorem spec_l01In.body (n : Nat) (x : Int × Int × Int) : bodyF spec_l01In.E spec_l01In.keep n Tryz.f92 spec_l01In.con x = spec_l01In.fn n x.1 x.2.1 x.2.2 := by
 have h : bodyF spec_l01In.E spec_l01In.keep n Tryz.f92 spec_l01In.con x = spec_l01In.top x.1 x.2.1 x.2.2 := by kernel_rfl
 exact h
set_option maxRecDepth 100000 in
theorem spec_l01In.good : Good Tryz.prog 92 spec_l01In.con :=
 good_of tabok (cs := spec_l01In.cs) trivial 0 false (fn := Tryz.f92) Tryz.func92 rfl (by decide) (by simp [spec_l01In.con]) spec_l01In.keep NN (fun _ => rfl) (fun x => spec_l01In.body NN x)
end
end Go.Ev.Tryz

namespace Go.Ev.Tryz
open Go.Proofs Go.Pl
set_option linter.unusedVariables false
noncomputable section
def spec_l01IsTime.con : Con := { ps := [(.val, (.int .i64))], rs := [(.val, .bool)], F := fun x => spec_l01IsTime.f x }
def spec_l01IsTime.cs : List (FuncId × Con) := [(92, spec_l01In.con)]
def spec_l01IsTime.E : Env := envOf tab spec_l01IsTime.cs 0 false
def spec_l01IsTime.keep (i : Nat) : List Nat := []
set_option maxRecDepth 100000 in
theorem spec_l01IsTime.body (n : Nat) (x : Int) : bodyF spec_l01IsTime.E spec_l01IsTime.keep n Tryz.f90 spec_l01IsTime.con x = spec_l01IsTime.fn n x := by
 have h : bodyF spec_l01IsTime.E spec_l01IsTime.keep n Tryz.f90 spec_l01IsTime.con x = spec_l01IsTime.top x := by kernel_rfl
 exact h
set_option maxRecDepth 100000 in
theorem spec_l01IsTime.good : Good Tryz.prog 90 spec_l01IsTime.con :=
 good_of tabok (cs := spec_l01IsTime.cs) ⟨spec_l01In.good, trivial⟩ 0 false (fn := Tryz.f90) Tryz.func90 rfl (by decide) (by simp [spec_l01IsTime.con]) spec_l01IsTime.keep NN (fun _ => rfl) (fun x => spec_l01IsTime.body NN x)
end
end Go.Ev.Tryz

namespace Go.Ev.Tryz
open Go.Proofs Go.Pl
set_option linter.unusedVariables false
noncomputable section
def spec_IsWord.st2 (s0 : ByteArray) (i3 : Int) : St := ⟨[.dat .str s0, .gone, .gone, .dat (.int .i64) i3, .gone, .gone, .gone, .gone, .gone, .gone, .gone, .gone, .gone, .gone, .gone, .gone, .gone, .gone, .gone, .gone, .gone, .gone, .gone], []⟩
def spec_IsWord.con : Con := { ps := [(.val, .str)], rs := [(.val, .bool)], F := fun x => spec_IsWord.f x }
def spec_IsWord.cs : List (FuncId × Con) := [(92, spec_l01In.con)]
def spec_IsWord.E : Env := envOf tab spec_IsWord.cs 0 false
def spec_IsWord.keep (i : Nat) : List Nat := if i = 2 then [0, 3] else []
def spec_IsWord.at2 (n : Nat) (x : ByteArray) : Code × (Ex → St → Option (Bool)) := ctx spec_IsWord.E spec_IsWord.keep n [.snd, .fst, .snd, .blk] (codeOf Tryz.f91) (kEnd spec_IsWord.E Tryz.f91 spec_IsWord.con x)
def spec_IsWord.LN2 (n : Nat) (x : ByteArray) : Nat → St → Option (Bool) := loopN (exec spec_IsWord.E spec_IsWord.keep n (bodyOf (spec_IsWord.at2 n x).1)) (St.norm 0 (spec_IsWord.keep 2)) (spec_IsWord.at2 n x).2
set_option maxRecDepth 100000 in
theorem spec_IsWord.lem2 (n : Nat) (x : ByteArray) : ∀ (k : Nat) (s0 : ByteArray) (i3 : Int), spec_IsWord.LN2 n x k (spec_IsWord.st2 s0 i3) = spec_IsWord.l2 n k s0 i3 := by
 intro k
 induction k with
 | zero => intro s0 i3; rfl
 | succ k ih =>
  intro s0 i3
  have h : spec_IsWord.LN2 n x (k + 1) (spec_IsWord.st2 s0 i3) = spec_IsWord.g2 (fun s0 i3 => spec_IsWord.LN2 n x k (spec_IsWord.st2 s0 i3)) s0 i3 := by kernel_rfl
  rw [h]
  simp only [ih]
  rfl
set_option maxRecDepth 100000 in
theorem spec_IsWord.body (n : Nat) (x : ByteArray) : bodyF spec_IsWord.E spec_IsWord.keep n Tryz.f91 spec_IsWord.con x = spec_IsWord.fn n x := by
 have h : bodyF spec_IsWord.E spec_IsWord.keep n Tryz.f91 spec_IsWord.con x = spec_IsWord.top (fun s0 i3 => spec_IsWord.LN2 n x n (spec_IsWord.st2 s0 i3)) x := by kernel_rfl
 rw [h]
 simp only [spec_IsWord.lem2]
 rfl
set_option maxRecDepth 100000 in
theorem spec_IsWord.good : Good Tryz.prog 91 spec_IsWord.con :=
 good_of tabok (cs := spec_IsWord.cs) ⟨spec_l01In.good, trivial⟩ 0 false (fn := Tryz.f91) Tryz.func91 rfl (by decide) (by simp [spec_IsWord.con]) spec_IsWord.keep NN (fun _ => rfl) (fun x => spec_IsWord.body NN x)
end
end Go.Ev.Tryz

namespace Go.Ev.Tryz
open Go.Proofs Go.Pl
set_option linter.unusedVariables false
noncomputable section
def spec_l20People.st3 (q : List YA) (r : ByteArray) (n2 : Int) (p : Int) (i8 : Int) : St := ⟨[.dat (.sl 70 (.pair (.int .i64) (.pair .str (.int .i64)))) q, .dat .str r, .dat (.int .i64) n2, .gone, .gone, .gone, .gone, .dat (.int .i64) p, .dat (.int .i64) i8, .gone, .gone, .gone, .gone, .gone, .gone, .gone, .gone, .gone, .gone, .gone, .gone, .gone, .gone, .gone, .gone, .gone, .gone, .gone, .gone], []⟩
def spec_l20People.con : Con := { ps := [(.val, (.sl 70 (.pair (.int .i64) (.pair .str (.int .i64))))), (.val, .str), (.val, (.int .i64))], rs := [(.val, (.int .i64))], F := fun x => spec_l20People.f x.1 x.2.1 x.2.2 }
def spec_l20People.cs : List (FuncId × Con) := []
def spec_l20People.E : Env := envOf tab spec_l20People.cs 0 false
def spec_l20People.keep (i : Nat) : List Nat := if i = 3 then [0, 1, 2, 7, 8] else []
def spec_l20People.at3 (n : Nat) (x : YD × ByteArray × Int) : Code × (Ex → St → Option (Int)) := ctx spec_l20People.E spec_l20People.keep n [.snd, .snd, .fst, .snd, .blk] (codeOf Tryz.f93) (kEnd spec_l20People.E Tryz.f93 spec_l20People.con x)
def spec_l20People.LN3 (n : Nat) (x : YD × ByteArray × Int) : Nat → St → Option (Int) := loopN (exec spec_l20People.E spec_l20People.keep n (bodyOf (spec_l20People.at3 n x).1)) (St.norm 0 (spec_l20People.keep 3)) (spec_l20People.at3 n x).2
set_option maxRecDepth 100000 in
theorem spec_l20People.lem3 (n : Nat) (x : YD × ByteArray × Int) : ∀ (k : Nat) (q : List YA) (r : ByteArray) (n2 : Int) (p : Int) (i8 : Int), spec_l20People.LN3 n x k (spec_l20People.st3 q r n2 p i8) = spec_l20People.l3 n k q r n2 p i8 := by
 intro k
 induction k with
 | zero => intro q r n2 p i8; rfl
 | succ k ih =>
  intro q r n2 p i8
  have h : spec_l20People.LN3 n x (k + 1) (spec_l20People.st3 q r n2 p i8) = spec_l20People.g3 (fun q r n2 p i8 => spec_l20People.LN3 n x k (spec_l20People.st3 q r n2 p i8)) q r n2 p i8 := by kernel_rfl
  rw [h]
  simp only [ih]
  rfl
set_option maxRecDepth 100000 in
theorem spec_l20People.body (n : Nat) (x : YD × ByteArray × Int) : bodyF spec_l20People.E spec_l20People.keep n Tryz.f93 spec_l20People.con x = spec_l20People.fn n x.1 x.2.1 x.2.2 := by
 have h : bodyF spec_l20People.E spec_l20People.keep n Tryz.f93 spec_l20People.con x = spec_l20People.top (fun q r n2 p i8 => spec_l20People.LN3 n x n (spec_l20People.st3 q r n2 p i8)) x.1 x.2.1 x.2.2 := by kernel_rfl
 rw [h]
 simp only [spec_l20People.lem3]
 rfl
set_option maxRecDepth 100000 in
theorem spec_l20People.good : Good Tryz.prog 93 spec_l20People.con :=
 good_of tabok (cs := spec_l20People.cs) trivial 0 false (fn := Tryz.f93) Tryz.func93 rfl (by decide) (by simp [spec_l20People.con]) spec_l20People.keep NN (fun _ => rfl) (fun x => spec_l20People.body NN x)
end
end Go.Ev.Tryz

namespace Go.Ev.Tryz
open Go.Proofs Go.Pl
set_option linter.unusedVariables false
noncomputable section
def spec_AreMoves.st2 (p : List YA) (i3 : Int) : St := ⟨[.dat (.sl 70 (.pair (.int .i64) (.pair .str (.int .i64)))) p, .gone, .gone, .dat (.int .i64) i3, .gone, .gone, .gone, .gone, .gone, .gone, .gone, .gone, .gone, .gone, .gone, .gone, .gone, .gone, .gone, .gone, .gone, .gone, .gone, .gone, .gone, .gone, .gone, .gone, .gone, .gone, .gone, .gone, .gone, .gone, .gone, .gone, .gone, .gone, .gone, .gone, .gone, .gone, .gone, .gone, .gone, .gone, .gone, .gone, .gone, .gone, .gone, .gone, .gone, .gone, .gone, .gone, .gone, .gone, .gone, .gone, .gone, .gone, .gone], []⟩
def spec_AreMoves.con : Con := { ps := [(.val, (.sl 70 (.pair (.int .i64) (.pair .str (.int .i64)))))], rs := [(.val, .bool)], F := fun x => spec_AreMoves.f x }
def spec_AreMoves.cs : List (FuncId × Con) := [(90, spec_l01IsTime.con), (91, spec_IsWord.con), (92, spec_l01In.con), (93, spec_l20People.con)]
def spec_AreMoves.E : Env := envOf tab spec_AreMoves.cs 0 false
def spec_AreMoves.keep (i : Nat) : List Nat := if i = 2 then [0, 3] else []
def spec_AreMoves.at2 (n : Nat) (x : List YA) : Code × (Ex → St → Option (Bool)) := ctx spec_AreMoves.E spec_AreMoves.keep n [.snd, .fst, .snd, .blk] (codeOf Tryz.f57) (kEnd spec_AreMoves.E Tryz.f57 spec_AreMoves.con x)
def spec_AreMoves.LN2 (n : Nat) (x : List YA) : Nat → St → Option (Bool) := loopN (exec spec_AreMoves.E spec_AreMoves.keep n (bodyOf (spec_AreMoves.at2 n x).1)) (St.norm 0 (spec_AreMoves.keep 2)) (spec_AreMoves.at2 n x).2
set_option maxRecDepth 100000 in
theorem spec_AreMoves.lem2 (n : Nat) (x : List YA) : ∀ (k : Nat) (p : List YA) (i3 : Int), spec_AreMoves.LN2 n x k (spec_AreMoves.st2 p i3) = spec_AreMoves.l2 n k p i3 := by
 intro k
 induction k with
 | zero => intro p i3; rfl
 | succ k ih =>
  intro p i3
  have h : spec_AreMoves.LN2 n x (k + 1) (spec_AreMoves.st2 p i3) = spec_AreMoves.g2 (fun p i3 => spec_AreMoves.LN2 n x k (spec_AreMoves.st2 p i3)) p i3 := by kernel_rfl
  rw [h]
  simp only [ih]
  rfl
set_option maxRecDepth 100000 in
theorem spec_AreMoves.body (n : Nat) (x : List YA) : bodyF spec_AreMoves.E spec_AreMoves.keep n Tryz.f57 spec_AreMoves.con x = spec_AreMoves.fn n x := by
 have h : bodyF spec_AreMoves.E spec_AreMoves.keep n Tryz.f57 spec_AreMoves.con x = spec_AreMoves.top (fun p i3 => spec_AreMoves.LN2 n x n (spec_AreMoves.st2 p i3)) x := by kernel_rfl
 rw [h]
 simp only [spec_AreMoves.lem2]
 rfl
set_option maxRecDepth 100000 in
theorem spec_AreMoves.good : Good Tryz.prog 57 spec_AreMoves.con :=
 good_of tabok (cs := spec_AreMoves.cs) ⟨spec_l01IsTime.good, spec_IsWord.good, spec_l01In.good, spec_l20People.good, trivial⟩ 0 false (fn := Tryz.f57) Tryz.func57 rfl (by decide) (by simp [spec_AreMoves.con]) spec_AreMoves.keep NN (fun _ => rfl) (fun x => spec_AreMoves.body NN x)
end
end Go.Ev.Tryz

namespace Go.Ev.Tryz
open Go.Proofs Go.Pl
set_option linter.unusedVariables false
noncomputable section
def spec_AddMove.tr0 (p : List YA) (m1 : Int × ByteArray × Int) : Option YS :=
 if ([] : List YA).length + p.length < room 32 then
  if (([] : List YA) ++ p).length + ([m1]).length < room 32 then
   (spec_AreMoves.f ((([] : List YA) ++ p) ++ ([m1]))).bind fun r2 =>
   if (!r2) = true then
    some ([], 5)
   else
    some ((([] : List YA) ++ p) ++ ([m1]), 0)
  else
   none
 else
  none
def spec_AddMove.tr1 (p : List YA) (m1 : Int × ByteArray × Int) : Option YS :=
 agree (
  spec_AddMove.tr0 p m1
 ) (
  spec_AddMove.tr0 p m1
 )
def spec_AddMove.topraw (p : List YA) (m1 : Int × ByteArray × Int) : Option YS :=
 (spec_AreMoves.f p).bind fun r1 =>
 if (!r1) = true then
  some ([], 1)
 else if (((p.length : Int) : Int) == 40) = true then
  some ([], 3)
 else
  agree (
   agree (
    spec_AddMove.tr0 p m1
   ) (
    spec_AddMove.tr1 p m1
   )
  ) (
   agree (
    spec_AddMove.tr1 p m1
   ) (
    spec_AddMove.tr0 p m1
   )
  )
theorem spec_AddMove.topraw_eq (p : List YA) (m1 : Int × ByteArray × Int) : spec_AddMove.topraw p m1 = spec_AddMove.top p m1 := by
 unfold spec_AddMove.topraw spec_AddMove.top
 simp only [agree_self, spec_AddMove.tr0, spec_AddMove.tr1]
def spec_AddMove.con : Con := { ps := [(.val, (.sl 70 (.pair (.int .i64) (.pair .str (.int .i64))))), (.val, (.pair (.int .i64) (.pair .str (.int .i64))))], rs := [(.own, (.sl 70 (.pair (.int .i64) (.pair .str (.int .i64))))), (.own, (.int .i64))], F := fun x => spec_AddMove.f x.1 x.2 }
def spec_AddMove.cs : List (FuncId × Con) := [(57, spec_AreMoves.con)]
def spec_AddMove.E : Env := envOf tab spec_AddMove.cs 0 false
def spec_AddMove.keep (i : Nat) : List Nat := []
set_option maxRecDepth 100000 in
theorem spec_AddMove.body (n : Nat) (x : YD × Int × ByteArray × Int) : bodyF spec_AddMove.E spec_AddMove.keep n Tryz.f114 spec_AddMove.con x = spec_AddMove.fn n x.1 x.2 := by
 have h : bodyF spec_AddMove.E spec_AddMove.keep n Tryz.f114 spec_AddMove.con x = spec_AddMove.topraw x.1 x.2 := by kernel_rfl
 rw [spec_AddMove.topraw_eq] at h
 exact h
set_option maxRecDepth 100000 in
theorem spec_AddMove.good : Good Tryz.prog 114 spec_AddMove.con :=
 good_of tabok (cs := spec_AddMove.cs) ⟨spec_AreMoves.good, trivial⟩ 0 false (fn := Tryz.f114) Tryz.func114 rfl (by decide) (by simp [spec_AddMove.con]) spec_AddMove.keep NN (fun _ => rfl) (fun x => spec_AddMove.body NN x)
end
end Go.Ev.Tryz

namespace Go.Ev.Tryz
open Go.Proofs Go.Pl
set_option linter.unusedVariables false
noncomputable section
def spec_l32Left.st3 (q : List YA) (p : ByteArray) (n2 : Int) (r : Int) (i8 : Int) : St := ⟨[.dat (.sl 74 (.pair (.int .i64) (.pair .str (.int .i64)))) q, .dat .str p, .dat (.int .i64) n2, .gone, .gone, .gone, .gone, .dat (.int .i64) r, .dat (.int .i64) i8, .gone, .gone, .gone, .gone, .gone, .gone, .gone, .gone, .gone, .gone, .gone, .gone, .gone, .gone, .gone, .gone, .gone, .gone, .gone, .gone, .gone, .gone, .gone, .gone, .gone, .gone, .gone, .gone, .gone, .gone, .gone, .gone, .gone, .gone, .gone], []⟩
def spec_l32Left.con : Con := { ps := [(.val, (.sl 74 (.pair (.int .i64) (.pair .str (.int .i64))))), (.val, .str), (.val, (.int .i64))], rs := [(.val, (.int .i64))], F := fun x => spec_l32Left.f x.1 x.2.1 x.2.2 }
def spec_l32Left.cs : List (FuncId × Con) := []
def spec_l32Left.E : Env := envOf tab spec_l32Left.cs 0 false
def spec_l32Left.keep (i : Nat) : List Nat := if i = 3 then [0, 1, 2, 7, 8] else []
def spec_l32Left.at3 (n : Nat) (x : YD × ByteArray × Int) : Code × (Ex → St → Option (Int)) := ctx spec_l32Left.E spec_l32Left.keep n [.snd, .snd, .fst, .snd, .blk] (codeOf Tryz.f94) (kEnd spec_l32Left.E Tryz.f94 spec_l32Left.con x)
def spec_l32Left.LN3 (n : Nat) (x : YD × ByteArray × Int) : Nat → St → Option (Int) := loopN (exec spec_l32Left.E spec_l32Left.keep n (bodyOf (spec_l32Left.at3 n x).1)) (St.norm 0 (spec_l32Left.keep 3)) (spec_l32Left.at3 n x).2
set_option maxRecDepth 100000 in
theorem spec_l32Left.lem3 (n : Nat) (x : YD × ByteArray × Int) : ∀ (k : Nat) (q : List YA) (p : ByteArray) (n2 : Int) (r : Int) (i8 : Int), spec_l32Left.LN3 n x k (spec_l32Left.st3 q p n2 r i8) = spec_l32Left.l3 n k q p n2 r i8 := by
 intro k
 induction k with
 | zero => intro q p n2 r i8; rfl
 | succ k ih =>
  intro q p n2 r i8
  have h : spec_l32Left.LN3 n x (k + 1) (spec_l32Left.st3 q p n2 r i8) = spec_l32Left.g3 (fun q p n2 r i8 => spec_l32Left.LN3 n x k (spec_l32Left.st3 q p n2 r i8)) q p n2 r i8 := by kernel_rfl
  rw [h]
  simp only [ih]
  rfl
set_option maxRecDepth 100000 in
theorem spec_l32Left.body (n : Nat) (x : YD × ByteArray × Int) : bodyF spec_l32Left.E spec_l32Left.keep n Tryz.f94 spec_l32Left.con x = spec_l32Left.fn n x.1 x.2.1 x.2.2 := by
 have h : bodyF spec_l32Left.E spec_l32Left.keep n Tryz.f94 spec_l32Left.con x = spec_l32Left.top (fun q p n2 r i8 => spec_l32Left.LN3 n x n (spec_l32Left.st3 q p n2 r i8)) x.1 x.2.1 x.2.2 := by kernel_rfl
 rw [h]
 simp only [spec_l32Left.lem3]
 rfl
set_option maxRecDepth 100000 in
theorem spec_l32Left.good : Good Tryz.prog 94 spec_l32Left.con :=
 good_of tabok (cs := spec_l32Left.cs) trivial 0 false (fn := Tryz.f94) Tryz.func94 rfl (by decide) (by simp [spec_l32Left.con]) spec_l32Left.keep NN (fun _ => rfl) (fun x => spec_l32Left.body NN x)
end
end Go.Ev.Tryz

namespace Go.Ev.Tryz
open Go.Proofs Go.Pl
set_option linter.unusedVariables false
noncomputable section
def spec_AreBookings.st2 (p : List YA) (i3 : Int) : St := ⟨[.dat (.sl 74 (.pair (.int .i64) (.pair .str (.int .i64)))) p, .gone, .gone, .dat (.int .i64) i3, .gone, .gone, .gone, .gone, .gone, .gone, .gone, .gone, .gone, .gone, .gone, .gone, .gone, .gone, .gone, .gone, .gone, .gone, .gone, .gone, .gone, .gone, .gone, .gone, .gone, .gone, .gone, .gone, .gone, .gone, .gone, .gone, .gone, .gone, .gone, .gone, .gone, .gone, .gone], []⟩
def spec_AreBookings.con : Con := { ps := [(.val, (.sl 74 (.pair (.int .i64) (.pair .str (.int .i64)))))], rs := [(.val, .bool)], F := fun x => spec_AreBookings.f x }
def spec_AreBookings.cs : List (FuncId × Con) := [(91, spec_IsWord.con), (92, spec_l01In.con), (94, spec_l32Left.con)]
def spec_AreBookings.E : Env := envOf tab spec_AreBookings.cs 0 false
def spec_AreBookings.keep (i : Nat) : List Nat := if i = 2 then [0, 3] else []
def spec_AreBookings.at2 (n : Nat) (x : List YA) : Code × (Ex → St → Option (Bool)) := ctx spec_AreBookings.E spec_AreBookings.keep n [.snd, .fst, .snd, .blk] (codeOf Tryz.f59) (kEnd spec_AreBookings.E Tryz.f59 spec_AreBookings.con x)
def spec_AreBookings.LN2 (n : Nat) (x : List YA) : Nat → St → Option (Bool) := loopN (exec spec_AreBookings.E spec_AreBookings.keep n (bodyOf (spec_AreBookings.at2 n x).1)) (St.norm 0 (spec_AreBookings.keep 2)) (spec_AreBookings.at2 n x).2
set_option maxRecDepth 100000 in
theorem spec_AreBookings.lem2 (n : Nat) (x : List YA) : ∀ (k : Nat) (p : List YA) (i3 : Int), spec_AreBookings.LN2 n x k (spec_AreBookings.st2 p i3) = spec_AreBookings.l2 n k p i3 := by
 intro k
 induction k with
 | zero => intro p i3; rfl
 | succ k ih =>
  intro p i3
  have h : spec_AreBookings.LN2 n x (k + 1) (spec_AreBookings.st2 p i3) = spec_AreBookings.g2 (fun p i3 => spec_AreBookings.LN2 n x k (spec_AreBookings.st2 p i3)) p i3 := by kernel_rfl
  rw [h]
  simp only [ih]
  rfl
set_option maxRecDepth 100000 in
theorem spec_AreBookings.body (n : Nat) (x : List YA) : bodyF spec_AreBookings.E spec_AreBookings.keep n Tryz.f59 spec_AreBookings.con x = spec_AreBookings.fn n x := by
 have h : bodyF spec_AreBookings.E spec_AreBookings.keep n Tryz.f59 spec_AreBookings.con x = spec_AreBookings.top (fun p i3 => spec_AreBookings.LN2 n x n (spec_AreBookings.st2 p i3)) x := by kernel_rfl
 rw [h]
 simp only [spec_AreBookings.lem2]
 rfl
set_option maxRecDepth 100000 in
theorem spec_AreBookings.good : Good Tryz.prog 59 spec_AreBookings.con :=
 good_of tabok (cs := spec_AreBookings.cs) ⟨spec_IsWord.good, spec_l01In.good, spec_l32Left.good, trivial⟩ 0 false (fn := Tryz.f59) Tryz.func59 rfl (by decide) (by simp [spec_AreBookings.con]) spec_AreBookings.keep NN (fun _ => rfl) (fun x => spec_AreBookings.body NN x)
end
end Go.Ev.Tryz

namespace Go.Ev.Tryz
open Go.Proofs Go.Pl
set_option linter.unusedVariables false
noncomputable section
def spec_BookPieces.tr0 (p : List YA) (b1 : Int × ByteArray × Int) : Option YS :=
 if ([] : List YA).length + p.length < room 32 then
  if (([] : List YA) ++ p).length + ([b1]).length < room 32 then
   (spec_AreBookings.f ((([] : List YA) ++ p) ++ ([b1]))).bind fun r2 =>
   if (!r2) = true then
    some ([], 5)
   else
    some ((([] : List YA) ++ p) ++ ([b1]), 0)
  else
   none
 else
  none
def spec_BookPieces.tr1 (p : List YA) (b1 : Int × ByteArray × Int) : Option YS :=
 agree (
  spec_BookPieces.tr0 p b1
 ) (
  spec_BookPieces.tr0 p b1
 )
def spec_BookPieces.topraw (p : List YA) (b1 : Int × ByteArray × Int) : Option YS :=
 (spec_AreBookings.f p).bind fun r1 =>
 if (!r1) = true then
  some ([], 1)
 else if (((p.length : Int) : Int) == 60) = true then
  some ([], 3)
 else
  agree (
   agree (
    spec_BookPieces.tr0 p b1
   ) (
    spec_BookPieces.tr1 p b1
   )
  ) (
   agree (
    spec_BookPieces.tr1 p b1
   ) (
    spec_BookPieces.tr0 p b1
   )
  )
theorem spec_BookPieces.topraw_eq (p : List YA) (b1 : Int × ByteArray × Int) : spec_BookPieces.topraw p b1 = spec_BookPieces.top p b1 := by
 unfold spec_BookPieces.topraw spec_BookPieces.top
 simp only [agree_self, spec_BookPieces.tr0, spec_BookPieces.tr1]
def spec_BookPieces.con : Con := { ps := [(.val, (.sl 74 (.pair (.int .i64) (.pair .str (.int .i64))))), (.val, (.pair (.int .i64) (.pair .str (.int .i64))))], rs := [(.own, (.sl 74 (.pair (.int .i64) (.pair .str (.int .i64))))), (.own, (.int .i64))], F := fun x => spec_BookPieces.f x.1 x.2 }
def spec_BookPieces.cs : List (FuncId × Con) := [(59, spec_AreBookings.con)]
def spec_BookPieces.E : Env := envOf tab spec_BookPieces.cs 0 false
def spec_BookPieces.keep (i : Nat) : List Nat := []
set_option maxRecDepth 100000 in
theorem spec_BookPieces.body (n : Nat) (x : YD × Int × ByteArray × Int) : bodyF spec_BookPieces.E spec_BookPieces.keep n Tryz.f115 spec_BookPieces.con x = spec_BookPieces.fn n x.1 x.2 := by
 have h : bodyF spec_BookPieces.E spec_BookPieces.keep n Tryz.f115 spec_BookPieces.con x = spec_BookPieces.topraw x.1 x.2 := by kernel_rfl
 rw [spec_BookPieces.topraw_eq] at h
 exact h
set_option maxRecDepth 100000 in
theorem spec_BookPieces.good : Good Tryz.prog 115 spec_BookPieces.con :=
 good_of tabok (cs := spec_BookPieces.cs) ⟨spec_AreBookings.good, trivial⟩ 0 false (fn := Tryz.f115) Tryz.func115 rfl (by decide) (by simp [spec_BookPieces.con]) spec_BookPieces.keep NN (fun _ => rfl) (fun x => spec_BookPieces.body NN x)
end
end Go.Ev.Tryz

namespace Go.Ev.Tryz
open Go.Proofs Go.Pl
set_option linter.unusedVariables false
noncomputable section
def spec_l34Place.st2 (p : List ByteArray) (q : ByteArray) (i5 : Int) : St := ⟨[.dat (.sl 9 .str) p, .dat .str q, .gone, .gone, .gone, .dat (.int .i64) i5, .gone, .gone, .gone, .gone, .gone, .gone, .gone, .gone, .gone, .gone, .gone, .gone, .gone], []⟩
def spec_l34Place.con : Con := { ps := [(.val, (.sl 9 .str)), (.val, .str)], rs := [(.val, (.int .i64))], F := fun x => spec_l34Place.f x.1 x.2 }
def spec_l34Place.cs : List (FuncId × Con) := []
def spec_l34Place.E : Env := envOf tab spec_l34Place.cs 0 false
def spec_l34Place.keep (i : Nat) : List Nat := if i = 2 then [0, 1, 5] else []
def spec_l34Place.at2 (n : Nat) (x : List ByteArray × ByteArray) : Code × (Ex → St → Option (Int)) := ctx spec_l34Place.E spec_l34Place.keep n [.snd, .fst, .snd, .blk] (codeOf Tryz.f118) (kEnd spec_l34Place.E Tryz.f118 spec_l34Place.con x)
def spec_l34Place.LN2 (n : Nat) (x : List ByteArray × ByteArray) : Nat → St → Option (Int) := loopN (exec spec_l34Place.E spec_l34Place.keep n (bodyOf (spec_l34Place.at2 n x).1)) (St.norm 0 (spec_l34Place.keep 2)) (spec_l34Place.at2 n x).2
set_option maxRecDepth 100000 in
theorem spec_l34Place.lem2 (n : Nat) (x : List ByteArray × ByteArray) : ∀ (k : Nat) (p : List ByteArray) (q : ByteArray) (i5 : Int), spec_l34Place.LN2 n x k (spec_l34Place.st2 p q i5) = spec_l34Place.l2 n k p q i5 := by
 intro k
 induction k with
 | zero => intro p q i5; rfl
 | succ k ih =>
  intro p q i5
  have h : spec_l34Place.LN2 n x (k + 1) (spec_l34Place.st2 p q i5) = spec_l34Place.g2 (fun p q i5 => spec_l34Place.LN2 n x k (spec_l34Place.st2 p q i5)) p q i5 := by kernel_rfl
  rw [h]
  simp only [ih]
  rfl
set_option maxRecDepth 100000 in
theorem spec_l34Place.body (n : Nat) (x : List ByteArray × ByteArray) : bodyF spec_l34Place.E spec_l34Place.keep n Tryz.f118 spec_l34Place.con x = spec_l34Place.fn n x.1 x.2 := by
 have h : bodyF spec_l34Place.E spec_l34Place.keep n Tryz.f118 spec_l34Place.con x = spec_l34Place.top (fun p q i5 => spec_l34Place.LN2 n x n (spec_l34Place.st2 p q i5)) x.1 x.2 := by kernel_rfl
 rw [h]
 simp only [spec_l34Place.lem2]
 rfl
set_option maxRecDepth 100000 in
theorem spec_l34Place.good : Good Tryz.prog 118 spec_l34Place.con :=
 good_of tabok (cs := spec_l34Place.cs) trivial 0 false (fn := Tryz.f118) Tryz.func118 rfl (by decide) (by simp [spec_l34Place.con]) spec_l34Place.keep NN (fun _ => rfl) (fun x => spec_l34Place.body NN x)
end
end Go.Ev.Tryz

namespace Go.Ev.Tryz
open Go.Proofs Go.Pl
set_option linter.unusedVariables false
noncomputable section
def spec_AreSignals.st2 (p : List YC) (i3 : Int) : St := ⟨[.dat (.sl 72 (.pair (.int .i64) (.int .i64))) p, .gone, .gone, .dat (.int .i64) i3, .gone, .gone, .gone, .gone, .gone, .gone, .gone, .gone, .gone, .gone, .gone, .gone, .gone, .gone, .gone, .gone, .gone, .gone, .gone, .gone, .gone, .gone, .gone, .gone, .gone, .gone, .gone, .gone, .gone, .gone, .gone, .gone, .gone, .gone, .gone, .gone, .gone, .gone, .gone, .gone, .gone, .gone, .gone, .gone], []⟩
def spec_AreSignals.con : Con := { ps := [(.val, (.sl 72 (.pair (.int .i64) (.int .i64))))], rs := [(.val, .bool)], F := fun x => spec_AreSignals.f x }
def spec_AreSignals.cs : List (FuncId × Con) := [(92, spec_l01In.con)]
def spec_AreSignals.E : Env := envOf tab spec_AreSignals.cs 0 false
def spec_AreSignals.keep (i : Nat) : List Nat := if i = 2 then [0, 3] else []
def spec_AreSignals.at2 (n : Nat) (x : List YC) : Code × (Ex → St → Option (Bool)) := ctx spec_AreSignals.E spec_AreSignals.keep n [.snd, .fst, .snd, .blk] (codeOf Tryz.f58) (kEnd spec_AreSignals.E Tryz.f58 spec_AreSignals.con x)
def spec_AreSignals.LN2 (n : Nat) (x : List YC) : Nat → St → Option (Bool) := loopN (exec spec_AreSignals.E spec_AreSignals.keep n (bodyOf (spec_AreSignals.at2 n x).1)) (St.norm 0 (spec_AreSignals.keep 2)) (spec_AreSignals.at2 n x).2
set_option maxRecDepth 100000 in
theorem spec_AreSignals.lem2 (n : Nat) (x : List YC) : ∀ (k : Nat) (p : List YC) (i3 : Int), spec_AreSignals.LN2 n x k (spec_AreSignals.st2 p i3) = spec_AreSignals.l2 n k p i3 := by
 intro k
 induction k with
 | zero => intro p i3; rfl
 | succ k ih =>
  intro p i3
  have h : spec_AreSignals.LN2 n x (k + 1) (spec_AreSignals.st2 p i3) = spec_AreSignals.g2 (fun p i3 => spec_AreSignals.LN2 n x k (spec_AreSignals.st2 p i3)) p i3 := by kernel_rfl
  rw [h]
  simp only [ih]
  rfl
set_option maxRecDepth 100000 in
theorem spec_AreSignals.body (n : Nat) (x : List YC) : bodyF spec_AreSignals.E spec_AreSignals.keep n Tryz.f58 spec_AreSignals.con x = spec_AreSignals.fn n x := by
 have h : bodyF spec_AreSignals.E spec_AreSignals.keep n Tryz.f58 spec_AreSignals.con x = spec_AreSignals.top (fun p i3 => spec_AreSignals.LN2 n x n (spec_AreSignals.st2 p i3)) x := by kernel_rfl
 rw [h]
 simp only [spec_AreSignals.lem2]
 rfl
set_option maxRecDepth 100000 in
theorem spec_AreSignals.good : Good Tryz.prog 58 spec_AreSignals.con :=
 good_of tabok (cs := spec_AreSignals.cs) ⟨spec_l01In.good, trivial⟩ 0 false (fn := Tryz.f58) Tryz.func58 rfl (by decide) (by simp [spec_AreSignals.con]) spec_AreSignals.keep NN (fun _ => rfl) (fun x => spec_AreSignals.body NN x)
end
end Go.Ev.Tryz

namespace Go.Ev.Tryz
open Go.Proofs Go.Pl
set_option linter.unusedVariables false
noncomputable section
def spec_AddSignal.st6 (p : List YC) (at6 : Int) (x3 : Int × Int) : St := ⟨[.dat (.sl 72 (.pair (.int .i64) (.int .i64))) p, .gone, .gone, .ptr 0 [], .gone, .gone, .dat (.int .i64) at6, .gone, .gone, .gone, .gone, .gone, .gone, .gone, .gone, .gone, .gone, .gone, .gone, .gone, .gone, .gone, .gone, .gone, .gone, .gone, .gone, .gone, .gone, .gone, .gone, .gone, .gone, .gone, .gone, .gone, .gone, .gone, .gone, .gone, .gone, .gone, .gone, .gone, .gone, .gone, .gone], [.box 72 (.pair (.int .i64) (.int .i64)) (.dat (.pair (.int .i64) (.int .i64)) x3)]⟩
def spec_AddSignal.tr0 (p : List YC) (at6 : Int) (x3 : Int × Int) : Option YV :=
 if ([] : List YC).length + (p.take (at6 : Int).toNat).length < room 16 then
  if (([] : List YC) ++ (p.take (at6 : Int).toNat)).length + ([x3]).length < room 16 then
   if ((([] : List YC) ++ (p.take (at6 : Int).toNat)) ++ ([x3])).length + (p.drop (at6 : Int).toNat).length < room 16 then
    (spec_AreSignals.f (((([] : List YC) ++ (p.take (at6 : Int).toNat)) ++ ([x3])) ++ (p.drop (at6 : Int).toNat))).bind fun r2 =>
    if (!r2) = true then
     some ([], 5)
    else
     some (((([] : List YC) ++ (p.take (at6 : Int).toNat)) ++ ([x3])) ++ (p.drop (at6 : Int).toNat), 0)
   else
    none
  else
   none
 else
  none
def spec_AddSignal.tr1 (p : List YC) (at6 : Int) (x3 : Int × Int) : Option YV :=
 agree (
  spec_AddSignal.tr0 p at6 x3
 ) (
  spec_AddSignal.tr0 p at6 x3
 )
def spec_AddSignal.tr2 (p : List YC) (at6 : Int) (x3 : Int × Int) : Option YV :=
 if ([] : List YC).length + (p.take (at6 : Int).toNat).length < room 16 then
  if (([] : List YC) ++ (p.take (at6 : Int).toNat)).length + ([x3]).length < room 16 then
   if ((([] : List YC) ++ (p.take (at6 : Int).toNat)) ++ ([x3])).length + (p.drop (at6 : Int).toNat).length < room 16 then
    (spec_AreSignals.f (((([] : List YC) ++ (p.take (at6 : Int).toNat)) ++ ([x3])) ++ (p.drop (at6 : Int).toNat))).bind fun r3 =>
    if (!r3) = true then
     some ([], 5)
    else
     some (((([] : List YC) ++ (p.take (at6 : Int).toNat)) ++ ([x3])) ++ (p.drop (at6 : Int).toNat), 0)
   else
    none
  else
   none
 else
  none
def spec_AddSignal.tr3 (p : List YC) (at6 : Int) (x3 : Int × Int) : Option YV :=
 agree (
  spec_AddSignal.tr2 p at6 x3
 ) (
  spec_AddSignal.tr2 p at6 x3
 )
def spec_AddSignal.g6raw (L6 : YE → Int → YC → Option YV) (p : List YC) (at6 : Int) (x3 : Int × Int) : Option YV :=
 if (decide ((0 : Int) < at6)) = true then
  if (0 : Int) ≤ (IntKind.i64.wrap (at6 - 1)) ∧ ((IntKind.i64.wrap (at6 - 1)) : Int) < p.length then
   if (decide ((x3.1 : Int) < ((p.getD ((IntKind.i64.wrap (at6 - 1)) : Int).toNat (0, 0)).1))) = true then
    L6 p (IntKind.i64.wrap (at6 - 1)) x3
   else if (0 : Int) ≤ at6 ∧ (at6 : Int) ≤ p.length then
    if (0 : Int) ≤ at6 ∧ (at6 : Int) ≤ p.length then
     agree (
      agree (
       spec_AddSignal.tr0 p at6 x3
      ) (
       spec_AddSignal.tr1 p at6 x3
      )
     ) (
      agree (
       spec_AddSignal.tr1 p at6 x3
      ) (
       spec_AddSignal.tr0 p at6 x3
      )
     )
    else
     none
   else
    none
  else
   none
 else if (0 : Int) ≤ at6 ∧ (at6 : Int) ≤ p.length then
  if (0 : Int) ≤ at6 ∧ (at6 : Int) ≤ p.length then
   agree (
    agree (
     spec_AddSignal.tr2 p at6 x3
    ) (
     spec_AddSignal.tr3 p at6 x3
    )
   ) (
    agree (
     spec_AddSignal.tr3 p at6 x3
    ) (
     spec_AddSignal.tr2 p at6 x3
    )
   )
  else
   none
 else
  none
theorem spec_AddSignal.g6raw_eq (L6 : YE → Int → YC → Option YV) (p : List YC) (at6 : Int) (x3 : Int × Int) : spec_AddSignal.g6raw L6 p at6 x3 = spec_AddSignal.g6 L6 p at6 x3 := by
 unfold spec_AddSignal.g6raw spec_AddSignal.g6
 simp only [agree_self, spec_AddSignal.tr0, spec_AddSignal.tr1, spec_AddSignal.tr2, spec_AddSignal.tr3]
def spec_AddSignal.con : Con := { ps := [(.val, (.sl 72 (.pair (.int .i64) (.int .i64)))), (.val, (.pair (.int .i64) (.int .i64)))], rs := [(.own, (.sl 72 (.pair (.int .i64) (.int .i64)))), (.own, (.int .i64))], F := fun x => spec_AddSignal.f x.1 x.2 }
def spec_AddSignal.cs : List (FuncId × Con) := [(58, spec_AreSignals.con)]
def spec_AddSignal.E : Env := envOf tab spec_AddSignal.cs 0 false
def spec_AddSignal.keep (i : Nat) : List Nat := if i = 6 then [0, 3, 6] else []
def spec_AddSignal.at6 (n : Nat) (x : YE × Int × Int) : Code × (Ex → St → Option (YV)) := ctx spec_AddSignal.E spec_AddSignal.keep n [.snd, .snd, .snd, .snd, .fst, .blk] (codeOf Tryz.f119) (kEnd spec_AddSignal.E Tryz.f119 spec_AddSignal.con x)
def spec_AddSignal.LN6 (n : Nat) (x : YE × Int × Int) : Nat → St → Option (YV) := loopN (exec spec_AddSignal.E spec_AddSignal.keep n (bodyOf (spec_AddSignal.at6 n x).1)) (St.norm 0 (spec_AddSignal.keep 6)) (spec_AddSignal.at6 n x).2
set_option maxRecDepth 100000 in
theorem spec_AddSignal.lem6 (n : Nat) (x : YE × Int × Int) : ∀ (k : Nat) (p : List YC) (at6 : Int) (x3 : Int × Int), spec_AddSignal.LN6 n x k (spec_AddSignal.st6 p at6 x3) = spec_AddSignal.l6 n k p at6 x3 := by
 intro k
 induction k with
 | zero => intro p at6 x3; rfl
 | succ k ih =>
  intro p at6 x3
  have h : spec_AddSignal.LN6 n x (k + 1) (spec_AddSignal.st6 p at6 x3) = spec_AddSignal.g6raw (fun p at6 x3 => spec_AddSignal.LN6 n x k (spec_AddSignal.st6 p at6 x3)) p at6 x3 := by kernel_rfl
  rw [spec_AddSignal.g6raw_eq] at h
  rw [h]
  simp only [ih]
  rfl
set_option maxRecDepth 100000 in
theorem spec_AddSignal.body (n : Nat) (x : YE × Int × Int) : bodyF spec_AddSignal.E spec_AddSignal.keep n Tryz.f119 spec_AddSignal.con x = spec_AddSignal.fn n x.1 x.2 := by
 have h : bodyF spec_AddSignal.E spec_AddSignal.keep n Tryz.f119 spec_AddSignal.con x = spec_AddSignal.top (fun p at6 x3 => spec_AddSignal.LN6 n x n (spec_AddSignal.st6 p at6 x3)) x.1 x.2 := by kernel_rfl
 rw [h]
 simp only [spec_AddSignal.lem6]
 rfl
set_option maxRecDepth 100000 in
theorem spec_AddSignal.good : Good Tryz.prog 119 spec_AddSignal.con :=
 good_of tabok (cs := spec_AddSignal.cs) ⟨spec_AreSignals.good, trivial⟩ 0 false (fn := Tryz.f119) Tryz.func119 rfl (by decide) (by simp [spec_AddSignal.con]) spec_AddSignal.keep NN (fun _ => rfl) (fun x => spec_AddSignal.body NN x)
end
end Go.Ev.Tryz

namespace Go.Ev.Tryz
open Go.Proofs Go.Pl
set_option linter.unusedVariables false
noncomputable section
def spec_l20Insert.st2 (s1 : ByteArray) (at5 : Int) (p : List ByteArray) : St := ⟨[.ref 0, .dat .str s1, .gone, .gone, .gone, .dat (.int .i64) at5, .gone, .gone, .gone, .gone, .gone, .gone, .gone, .gone, .gone, .gone, .gone, .gone, .gone, .gone, .gone, .gone, .gone, .gone, .gone, .gone, .gone, .gone, .gone, .gone, .gone, .gone, .gone, .gone, .gone, .gone, .gone, .gone, .gone, .gone, .gone, .gone, .gone, .gone, .gone], [.row 9 .str p none]⟩
def spec_l20Insert.tr0 (s1 : ByteArray) (at5 : Int) (p : List ByteArray) : Option YG :=
 if ([] : List ByteArray).length + (p.take (at5 : Int).toNat).length < room 16 then
  if (([] : List ByteArray) ++ (p.take (at5 : Int).toNat)).length + ([s1]).length < room 16 then
   if ((([] : List ByteArray) ++ (p.take (at5 : Int).toNat)) ++ ([s1])).length + (p.drop (at5 : Int).toNat).length < room 16 then
    some (((([] : List ByteArray) ++ (p.take (at5 : Int).toNat)) ++ ([s1])) ++ (p.drop (at5 : Int).toNat))
   else
    none
  else
   none
 else
  none
def spec_l20Insert.tr1 (s1 : ByteArray) (at5 : Int) (p : List ByteArray) : Option YG :=
 if (0 : Int) ≤ at5 ∧ (at5 : Int) ≤ p.length then
  if (0 : Int) ≤ at5 ∧ (at5 : Int) ≤ p.length then
   agree (
    agree (
     spec_l20Insert.tr0 s1 at5 p
    ) (
     spec_l20Insert.tr0 s1 at5 p
    )
   ) (
    spec_l20Insert.tr0 s1 at5 p
   )
  else
   none
 else
  none
def spec_l20Insert.tr2 (s1 : ByteArray) (at5 : Int) (p : List ByteArray) : Option YG :=
 if (decide ((at5 : Int) < (p.length : Int))) = true then
  if (0 : Int) ≤ at5 ∧ (at5 : Int) < p.length then
   if ((p.getD (at5 : Int).toNat ByteArray.empty).toList == s1.toList) = true then
    some p
   else
    spec_l20Insert.tr1 s1 at5 p
  else
   none
 else
  spec_l20Insert.tr1 s1 at5 p
def spec_l20Insert.g2raw (L2 : YZ) (s1 : ByteArray) (at5 : Int) (p : List ByteArray) : Option YG :=
 if (decide ((at5 : Int) < (p.length : Int))) = true then
  if (0 : Int) ≤ at5 ∧ (at5 : Int) < p.length then
   if (Op.bytesLess (p.getD (at5 : Int).toNat ByteArray.empty).toList s1.toList) = true then
    L2 s1 (IntKind.i64.wrap (at5 + 1)) p
   else
    spec_l20Insert.tr2 s1 at5 p
  else
   none
 else
  spec_l20Insert.tr2 s1 at5 p
theorem spec_l20Insert.g2raw_eq (L2 : YZ) (s1 : ByteArray) (at5 : Int) (p : List ByteArray) : spec_l20Insert.g2raw L2 s1 at5 p = spec_l20Insert.g2 L2 s1 at5 p := by
 unfold spec_l20Insert.g2raw spec_l20Insert.g2
 simp only [agree_self, spec_l20Insert.tr0, spec_l20Insert.tr1, spec_l20Insert.tr2]
def spec_l20Insert.con : Con := { ps := [(.own, (.sl 9 .str)), (.val, .str)], rs := [(.own, (.sl 9 .str))], gv := true, F := fun x => spec_l20Insert.f x.1 x.2 }
def spec_l20Insert.cs : List (FuncId × Con) := []
def spec_l20Insert.E : Env := envOf tab spec_l20Insert.cs 0 false
def spec_l20Insert.keep (i : Nat) : List Nat := if i = 2 then [0, 1, 5] else []
def spec_l20Insert.at2 (n : Nat) (x : List ByteArray × ByteArray) : Code × (Ex → St → Option (YG)) := ctx spec_l20Insert.E spec_l20Insert.keep n [.snd, .snd, .fst, .blk] (codeOf Tryz.f146) (kEnd spec_l20Insert.E Tryz.f146 spec_l20Insert.con x)
def spec_l20Insert.LN2 (n : Nat) (x : List ByteArray × ByteArray) : Nat → St → Option (YG) := loopN (exec spec_l20Insert.E spec_l20Insert.keep n (bodyOf (spec_l20Insert.at2 n x).1)) (St.norm 0 (spec_l20Insert.keep 2)) (spec_l20Insert.at2 n x).2
set_option maxRecDepth 100000 in
theorem spec_l20Insert.lem2 (n : Nat) (x : List ByteArray × ByteArray) : ∀ (k : Nat) (s1 : ByteArray) (at5 : Int) (p : List ByteArray), spec_l20Insert.LN2 n x k (spec_l20Insert.st2 s1 at5 p) = spec_l20Insert.l2 n k s1 at5 p := by
 intro k
 induction k with
 | zero => intro s1 at5 p; rfl
 | succ k ih =>
  intro s1 at5 p
  have h : spec_l20Insert.LN2 n x (k + 1) (spec_l20Insert.st2 s1 at5 p) = spec_l20Insert.g2raw (fun s1 at5 p => spec_l20Insert.LN2 n x k (spec_l20Insert.st2 s1 at5 p)) s1 at5 p := by kernel_rfl
  rw [spec_l20Insert.g2raw_eq] at h
  rw [h]
  simp only [ih]
  rfl
set_option maxRecDepth 100000 in
theorem spec_l20Insert.body (n : Nat) (x : List ByteArray × ByteArray) : bodyF spec_l20Insert.E spec_l20Insert.keep n Tryz.f146 spec_l20Insert.con x = spec_l20Insert.fn n x.1 x.2 := by
 have h : bodyF spec_l20Insert.E spec_l20Insert.keep n Tryz.f146 spec_l20Insert.con x = spec_l20Insert.top (fun s1 at5 p => spec_l20Insert.LN2 n x n (spec_l20Insert.st2 s1 at5 p)) x.1 x.2 := by kernel_rfl
 rw [h]
 simp only [spec_l20Insert.lem2]
 rfl
set_option maxRecDepth 100000 in
theorem spec_l20Insert.good : Good Tryz.prog 146 spec_l20Insert.con :=
 good_of tabok (cs := spec_l20Insert.cs) trivial 0 false (fn := Tryz.f146) Tryz.func146 rfl (by decide) (by simp [spec_l20Insert.con]) spec_l20Insert.keep NN (fun _ => rfl) (fun x => spec_l20Insert.body NN x)
end
end Go.Ev.Tryz

namespace Go.Ev.Tryz
open Go.Proofs Go.Pl
set_option linter.unusedVariables false
noncomputable section
def spec_l32Open.st3 (p : List YA) (i4 : Int) (q : List ByteArray) : St := ⟨[.dat (.sl 74 (.pair (.int .i64) (.pair .str (.int .i64)))) p, .gone, .gone, .ref 0, .dat (.int .i64) i4, .gone, .gone, .gone, .gone, .gone, .gone, .gone, .gone, .gone, .gone, .gone, .gone, .gone, .gone, .gone, .gone, .gone, .gone, .gone, .gone, .gone, .gone, .gone, .gone, .gone], [.row 9 .str q none]⟩
def spec_l32Open.con : Con := { ps := [(.val, (.sl 74 (.pair (.int .i64) (.pair .str (.int .i64)))))], rs := [(.own, (.sl 9 .str))], F := fun x => spec_l32Open.f x }
def spec_l32Open.cs : List (FuncId × Con) := [(94, spec_l32Left.con), (146, spec_l20Insert.con)]
def spec_l32Open.E : Env := envOf tab spec_l32Open.cs 0 false
def spec_l32Open.keep (i : Nat) : List Nat := if i = 3 then [0, 3, 4] else []
def spec_l32Open.at3 (n : Nat) (x : List YA) : Code × (Ex → St → Option (YG)) := ctx spec_l32Open.E spec_l32Open.keep n [.snd, .snd, .fst, .snd, .blk] (codeOf Tryz.f125) (kEnd spec_l32Open.E Tryz.f125 spec_l32Open.con x)
def spec_l32Open.LN3 (n : Nat) (x : List YA) : Nat → St → Option (YG) := loopN (exec spec_l32Open.E spec_l32Open.keep n (bodyOf (spec_l32Open.at3 n x).1)) (St.norm 0 (spec_l32Open.keep 3)) (spec_l32Open.at3 n x).2
set_option maxRecDepth 100000 in
theorem spec_l32Open.lem3 (n : Nat) (x : List YA) : ∀ (k : Nat) (p : List YA) (i4 : Int) (q : List ByteArray), spec_l32Open.LN3 n x k (spec_l32Open.st3 p i4 q) = spec_l32Open.l3 n k p i4 q := by
 intro k
 induction k with
 | zero => intro p i4 q; rfl
 | succ k ih =>
  intro p i4 q
  have h : spec_l32Open.LN3 n x (k + 1) (spec_l32Open.st3 p i4 q) = spec_l32Open.g3 (fun p i4 q => spec_l32Open.LN3 n x k (spec_l32Open.st3 p i4 q)) p i4 q := by kernel_rfl
  rw [h]
  simp only [ih]
  rfl
set_option maxRecDepth 100000 in
theorem spec_l32Open.body (n : Nat) (x : List YA) : bodyF spec_l32Open.E spec_l32Open.keep n Tryz.f125 spec_l32Open.con x = spec_l32Open.fn n x := by
 have h : bodyF spec_l32Open.E spec_l32Open.keep n Tryz.f125 spec_l32Open.con x = spec_l32Open.top (fun p i4 q => spec_l32Open.LN3 n x n (spec_l32Open.st3 p i4 q)) x := by kernel_rfl
 rw [h]
 simp only [spec_l32Open.lem3]
 rfl
set_option maxRecDepth 100000 in
theorem spec_l32Open.good : Good Tryz.prog 125 spec_l32Open.con :=
 good_of tabok (cs := spec_l32Open.cs) ⟨spec_l32Left.good, spec_l20Insert.good, trivial⟩ 0 false (fn := Tryz.f125) Tryz.func125 rfl (by decide) (by simp [spec_l32Open.con]) spec_l32Open.keep NN (fun _ => rfl) (fun x => spec_l32Open.body NN x)
end
end Go.Ev.Tryz

namespace Go.Ev.Tryz
open Go.Proofs Go.Pl
set_option linter.unusedVariables false
noncomputable section
def spec_l32Limits.con : Con := { ps := [(.val, (.sl 74 (.pair (.int .i64) (.pair .str (.int .i64)))))], rs := [(.val, (.int .i64))], F := fun x => spec_l32Limits.f x }
def spec_l32Limits.cs : List (FuncId × Con) := [(59, spec_AreBookings.con)]
def spec_l32Limits.E : Env := envOf tab spec_l32Limits.cs 0 false
def spec_l32Limits.keep (i : Nat) : List Nat := []
set_option maxRecDepth 100000 in
theorem spec_l32Limits.body (n : Nat) (x : List YA) : bodyF spec_l32Limits.E spec_l32Limits.keep n Tryz.f142 spec_l32Limits.con x = spec_l32Limits.fn n x := by
 have h : bodyF spec_l32Limits.E spec_l32Limits.keep n Tryz.f142 spec_l32Limits.con x = spec_l32Limits.top x := by kernel_rfl
 exact h
set_option maxRecDepth 100000 in
theorem spec_l32Limits.good : Good Tryz.prog 142 spec_l32Limits.con :=
 good_of tabok (cs := spec_l32Limits.cs) ⟨spec_AreBookings.good, trivial⟩ 0 false (fn := Tryz.f142) Tryz.func142 rfl (by decide) (by simp [spec_l32Limits.con]) spec_l32Limits.keep NN (fun _ => rfl) (fun x => spec_l32Limits.body NN x)
end
end Go.Ev.Tryz

namespace Go.Ev.Tryz
open Go.Proofs Go.Pl
set_option linter.unusedVariables false
noncomputable section
def spec_SettleAll.st8 (p : List YA) (q : Int) (i8 : Int) (s : List YA) (r : List ByteArray) : St := ⟨[.dat (.sl 74 (.pair (.int .i64) (.pair .str (.int .i64)))) p, .dat (.int .i64) q, .gone, .gone, .gone, .gone, .ref 0, .ref 1, .dat (.int .i64) i8, .gone, .gone, .gone, .gone, .gone, .gone, .gone, .gone, .gone, .gone, .gone, .gone, .gone, .gone, .gone, .gone, .gone, .gone, .gone, .gone, .gone, .gone, .gone, .gone, .gone, .gone, .gone, .gone, .gone, .gone, .gone, .gone, .gone, .gone, .gone, .gone, .gone, .gone, .gone, .gone, .gone], [.row 74 (.pair (.int .i64) (.pair .str (.int .i64))) s none, .row 9 .str r none]⟩
def spec_SettleAll.con : Con := { ps := [(.val, (.sl 74 (.pair (.int .i64) (.pair .str (.int .i64))))), (.val, (.int .i64))], rs := [(.own, (.sl 74 (.pair (.int .i64) (.pair .str (.int .i64))))), (.own, (.int .i64))], F := fun x => spec_SettleAll.f x.1 x.2 }
def spec_SettleAll.cs : List (FuncId × Con) := [(59, spec_AreBookings.con), (92, spec_l01In.con), (94, spec_l32Left.con), (125, spec_l32Open.con), (142, spec_l32Limits.con)]
def spec_SettleAll.E : Env := envOf tab spec_SettleAll.cs 0 false
def spec_SettleAll.keep (i : Nat) : List Nat := if i = 8 then [0, 1, 6, 7, 8] else []
def spec_SettleAll.at8 (n : Nat) (x : YD × Int) : Code × (Ex → St → Option (YS)) := ctx spec_SettleAll.E spec_SettleAll.keep n [.snd, .snd, .snd, .snd, .snd, .fst, .snd, .blk] (codeOf Tryz.f120) (kEnd spec_SettleAll.E Tryz.f120 spec_SettleAll.con x)
def spec_SettleAll.LN8 (n : Nat) (x : YD × Int) : Nat → St → Option (YS) := loopN (exec spec_SettleAll.E spec_SettleAll.keep n (bodyOf (spec_SettleAll.at8 n x).1)) (St.norm 0 (spec_SettleAll.keep 8)) (spec_SettleAll.at8 n x).2
set_option maxRecDepth 100000 in
theorem spec_SettleAll.lem8 (n : Nat) (x : YD × Int) : ∀ (k : Nat) (p : List YA) (q : Int) (i8 : Int) (s : List YA) (r : List ByteArray), spec_SettleAll.LN8 n x k (spec_SettleAll.st8 p q i8 s r) = spec_SettleAll.l8 n k p q i8 s r := by
 intro k
 induction k with
 | zero => intro p q i8 s r; rfl
 | succ k ih =>
  intro p q i8 s r
  have h : spec_SettleAll.LN8 n x (k + 1) (spec_SettleAll.st8 p q i8 s r) = spec_SettleAll.g8 (fun p q i8 s r => spec_SettleAll.LN8 n x k (spec_SettleAll.st8 p q i8 s r)) p q i8 s r := by kernel_rfl
  rw [h]
  simp only [ih]
  rfl
set_option maxRecDepth 100000 in
theorem spec_SettleAll.body (n : Nat) (x : YD × Int) : bodyF spec_SettleAll.E spec_SettleAll.keep n Tryz.f120 spec_SettleAll.con x = spec_SettleAll.fn n x.1 x.2 := by
 have h : bodyF spec_SettleAll.E spec_SettleAll.keep n Tryz.f120 spec_SettleAll.con x = spec_SettleAll.top (fun p q i8 s r => spec_SettleAll.LN8 n x n (spec_SettleAll.st8 p q i8 s r)) x.1 x.2 := by kernel_rfl
 rw [h]
 simp only [spec_SettleAll.lem8]
 rfl
set_option maxRecDepth 100000 in
theorem spec_SettleAll.good : Good Tryz.prog 120 spec_SettleAll.con :=
 good_of tabok (cs := spec_SettleAll.cs) ⟨spec_AreBookings.good, spec_l01In.good, spec_l32Left.good, spec_l32Open.good, spec_l32Limits.good, trivial⟩ 0 false (fn := Tryz.f120) Tryz.func120 rfl (by decide) (by simp [spec_SettleAll.con]) spec_SettleAll.keep NN (fun _ => rfl) (fun x => spec_SettleAll.body NN x)
end
end Go.Ev.Tryz

namespace Go.Ev.Tryz
open Go.Proofs Go.Pl
set_option linter.unusedVariables false
noncomputable section
def spec_l34Set.con : Con := { ps := [(.val, (.pair (.sl 70 (.pair (.int .i64) (.pair .str (.int .i64)))) (.pair (.sl 72 (.pair (.int .i64) (.int .i64))) (.sl 74 (.pair (.int .i64) (.pair .str (.int .i64))))))), (.val, (.sl 9 .str)), (.val, (.sl 2 (.int .i64)))], rs := [(.val, (.pair (.sl 70 (.pair (.int .i64) (.pair .str (.int .i64)))) (.pair (.sl 72 (.pair (.int .i64) (.int .i64))) (.sl 74 (.pair (.int .i64) (.pair .str (.int .i64))))))), (.val, (.int .i64))], F := fun x => spec_l34Set.f x.1 x.2.1 x.2.2 }
def spec_l34Set.cs : List (FuncId × Con) := [(71, spec_l21Words.con), (114, spec_AddMove.con), (115, spec_BookPieces.con), (118, spec_l34Place.con), (119, spec_AddSignal.con), (120, spec_SettleAll.con)]
def spec_l34Set.E : Env := envOf tab spec_l34Set.cs 0 false
def spec_l34Set.keep (i : Nat) : List Nat := []
set_option maxRecDepth 100000 in
theorem spec_l34Set.body (n : Nat) (x : YF × List ByteArray × List Int) : bodyF spec_l34Set.E spec_l34Set.keep n Tryz.f95 spec_l34Set.con x = spec_l34Set.fn n x.1 x.2.1 x.2.2 := by
 have h : bodyF spec_l34Set.E spec_l34Set.keep n Tryz.f95 spec_l34Set.con x = spec_l34Set.top x.1 x.2.1 x.2.2 := by kernel_rfl
 exact h
set_option maxRecDepth 100000 in
theorem spec_l34Set.good : Good Tryz.prog 95 spec_l34Set.con :=
 good_of tabok (cs := spec_l34Set.cs) ⟨spec_l21Words.good, spec_AddMove.good, spec_BookPieces.good, spec_l34Place.good, spec_AddSignal.good, spec_SettleAll.good, trivial⟩ 0 false (fn := Tryz.f95) Tryz.func95 rfl (by decide) (by simp [spec_l34Set.con]) spec_l34Set.keep NN (fun _ => rfl) (fun x => spec_l34Set.body NN x)
end
end Go.Ev.Tryz

namespace Go.Ev.Tryz
open Go.Proofs Go.Pl
set_option linter.unusedVariables false
noncomputable section
def spec_l20Code.con : Con := { ps := [(.val, (.sl 70 (.pair (.int .i64) (.pair .str (.int .i64))))), (.val, .str), (.val, (.int .i64))], rs := [(.val, (.int .i64))], F := fun x => spec_l20Code.f x.1 x.2.1 x.2.2 }
def spec_l20Code.cs : List (FuncId × Con) := [(57, spec_AreMoves.con), (90, spec_l01IsTime.con), (91, spec_IsWord.con)]
def spec_l20Code.E : Env := envOf tab spec_l20Code.cs 0 false
def spec_l20Code.keep (i : Nat) : List Nat := []
set_option maxRecDepth 100000 in
theorem spec_l20Code.body (n : Nat) (x : YD × ByteArray × Int) : bodyF spec_l20Code.E spec_l20Code.keep n Tryz.f143 spec_l20Code.con x = spec_l20Code.fn n x.1 x.2.1 x.2.2 := by
 have h : bodyF spec_l20Code.E spec_l20Code.keep n Tryz.f143 spec_l20Code.con x = spec_l20Code.top x.1 x.2.1 x.2.2 := by kernel_rfl
 exact h
set_option maxRecDepth 100000 in
theorem spec_l20Code.good : Good Tryz.prog 143 spec_l20Code.con :=
 good_of tabok (cs := spec_l20Code.cs) ⟨spec_AreMoves.good, spec_l01IsTime.good, spec_IsWord.good, trivial⟩ 0 false (fn := Tryz.f143) Tryz.func143 rfl (by decide) (by simp [spec_l20Code.con]) spec_l20Code.keep NN (fun _ => rfl) (fun x => spec_l20Code.body NN x)
end
end Go.Ev.Tryz

namespace Go.Ev.Tryz
open Go.Proofs Go.Pl
set_option linter.unusedVariables false
noncomputable section
def spec_l20Upto.st2 (p : List YA) (t1 : Int) (n5 : Int) : St := ⟨[.dat (.sl 70 (.pair (.int .i64) (.pair .str (.int .i64)))) p, .dat (.int .i64) t1, .gone, .gone, .gone, .dat (.int .i64) n5, .gone, .gone, .gone, .gone, .gone, .gone, .gone, .gone, .gone, .gone, .gone, .gone, .gone, .gone, .gone, .gone], []⟩
def spec_l20Upto.con : Con := { ps := [(.val, (.sl 70 (.pair (.int .i64) (.pair .str (.int .i64))))), (.val, (.int .i64))], rs := [(.val, (.int .i64))], F := fun x => spec_l20Upto.f x.1 x.2 }
def spec_l20Upto.cs : List (FuncId × Con) := []
def spec_l20Upto.E : Env := envOf tab spec_l20Upto.cs 0 false
def spec_l20Upto.keep (i : Nat) : List Nat := if i = 2 then [0, 1, 5] else []
def spec_l20Upto.at2 (n : Nat) (x : YD × Int) : Code × (Ex → St → Option (Int)) := ctx spec_l20Upto.E spec_l20Upto.keep n [.snd, .snd, .fst, .blk] (codeOf Tryz.f160) (kEnd spec_l20Upto.E Tryz.f160 spec_l20Upto.con x)
def spec_l20Upto.LN2 (n : Nat) (x : YD × Int) : Nat → St → Option (Int) := loopN (exec spec_l20Upto.E spec_l20Upto.keep n (bodyOf (spec_l20Upto.at2 n x).1)) (St.norm 0 (spec_l20Upto.keep 2)) (spec_l20Upto.at2 n x).2
set_option maxRecDepth 100000 in
theorem spec_l20Upto.lem2 (n : Nat) (x : YD × Int) : ∀ (k : Nat) (p : List YA) (t1 : Int) (n5 : Int), spec_l20Upto.LN2 n x k (spec_l20Upto.st2 p t1 n5) = spec_l20Upto.l2 n k p t1 n5 := by
 intro k
 induction k with
 | zero => intro p t1 n5; rfl
 | succ k ih =>
  intro p t1 n5
  have h : spec_l20Upto.LN2 n x (k + 1) (spec_l20Upto.st2 p t1 n5) = spec_l20Upto.g2 (fun p t1 n5 => spec_l20Upto.LN2 n x k (spec_l20Upto.st2 p t1 n5)) p t1 n5 := by kernel_rfl
  rw [h]
  simp only [ih]
  rfl
set_option maxRecDepth 100000 in
theorem spec_l20Upto.body (n : Nat) (x : YD × Int) : bodyF spec_l20Upto.E spec_l20Upto.keep n Tryz.f160 spec_l20Upto.con x = spec_l20Upto.fn n x.1 x.2 := by
 have h : bodyF spec_l20Upto.E spec_l20Upto.keep n Tryz.f160 spec_l20Upto.con x = spec_l20Upto.top (fun p t1 n5 => spec_l20Upto.LN2 n x n (spec_l20Upto.st2 p t1 n5)) x.1 x.2 := by kernel_rfl
 rw [h]
 simp only [spec_l20Upto.lem2]
 rfl
set_option maxRecDepth 100000 in
theorem spec_l20Upto.good : Good Tryz.prog 160 spec_l20Upto.con :=
 good_of tabok (cs := spec_l20Upto.cs) trivial 0 false (fn := Tryz.f160) Tryz.func160 rfl (by decide) (by simp [spec_l20Upto.con]) spec_l20Upto.keep NN (fun _ => rfl) (fun x => spec_l20Upto.body NN x)
end
end Go.Ev.Tryz

namespace Go.Ev.Tryz
open Go.Proofs Go.Pl
set_option linter.unusedVariables false
noncomputable section
def spec_l20Clear.st3 (p : List YA) (q : ByteArray) (t2 : Int) (n7 : Int) (i8 : Int) : St := ⟨[.dat (.sl 70 (.pair (.int .i64) (.pair .str (.int .i64)))) p, .dat .str q, .dat (.int .i64) t2, .gone, .gone, .gone, .gone, .dat (.int .i64) n7, .dat (.int .i64) i8, .gone, .gone, .gone, .gone, .gone, .gone, .gone, .gone, .gone, .gone, .gone, .gone, .gone, .gone, .gone, .gone, .gone, .gone, .gone, .gone, .gone, .gone, .gone, .gone, .gone, .gone, .gone, .gone, .gone, .gone], []⟩
def spec_l20Clear.con : Con := { ps := [(.val, (.sl 70 (.pair (.int .i64) (.pair .str (.int .i64))))), (.val, .str), (.val, (.int .i64))], rs := [(.val, .bool)], F := fun x => spec_l20Clear.f x.1 x.2.1 x.2.2 }
def spec_l20Clear.cs : List (FuncId × Con) := [(93, spec_l20People.con), (160, spec_l20Upto.con)]
def spec_l20Clear.E : Env := envOf tab spec_l20Clear.cs 0 false
def spec_l20Clear.keep (i : Nat) : List Nat := if i = 3 then [0, 1, 2, 7, 8] else []
def spec_l20Clear.at3 (n : Nat) (x : YD × ByteArray × Int) : Code × (Ex → St → Option (Bool)) := ctx spec_l20Clear.E spec_l20Clear.keep n [.snd, .snd, .fst, .snd, .blk] (codeOf Tryz.f144) (kEnd spec_l20Clear.E Tryz.f144 spec_l20Clear.con x)
def spec_l20Clear.LN3 (n : Nat) (x : YD × ByteArray × Int) : Nat → St → Option (Bool) := loopN (exec spec_l20Clear.E spec_l20Clear.keep n (bodyOf (spec_l20Clear.at3 n x).1)) (St.norm 0 (spec_l20Clear.keep 3)) (spec_l20Clear.at3 n x).2
set_option maxRecDepth 100000 in
theorem spec_l20Clear.lem3 (n : Nat) (x : YD × ByteArray × Int) : ∀ (k : Nat) (p : List YA) (q : ByteArray) (t2 : Int) (n7 : Int) (i8 : Int), spec_l20Clear.LN3 n x k (spec_l20Clear.st3 p q t2 n7 i8) = spec_l20Clear.l3 n k p q t2 n7 i8 := by
 intro k
 induction k with
 | zero => intro p q t2 n7 i8; rfl
 | succ k ih =>
  intro p q t2 n7 i8
  have h : spec_l20Clear.LN3 n x (k + 1) (spec_l20Clear.st3 p q t2 n7 i8) = spec_l20Clear.g3 (fun p q t2 n7 i8 => spec_l20Clear.LN3 n x k (spec_l20Clear.st3 p q t2 n7 i8)) p q t2 n7 i8 := by kernel_rfl
  rw [h]
  simp only [ih]
  rfl
set_option maxRecDepth 100000 in
theorem spec_l20Clear.body (n : Nat) (x : YD × ByteArray × Int) : bodyF spec_l20Clear.E spec_l20Clear.keep n Tryz.f144 spec_l20Clear.con x = spec_l20Clear.fn n x.1 x.2.1 x.2.2 := by
 have h : bodyF spec_l20Clear.E spec_l20Clear.keep n Tryz.f144 spec_l20Clear.con x = spec_l20Clear.top (fun p q t2 n7 i8 => spec_l20Clear.LN3 n x n (spec_l20Clear.st3 p q t2 n7 i8)) x.1 x.2.1 x.2.2 := by kernel_rfl
 rw [h]
 simp only [spec_l20Clear.lem3]
 rfl
set_option maxRecDepth 100000 in
theorem spec_l20Clear.good : Good Tryz.prog 144 spec_l20Clear.con :=
 good_of tabok (cs := spec_l20Clear.cs) ⟨spec_l20People.good, spec_l20Upto.good, trivial⟩ 0 false (fn := Tryz.f144) Tryz.func144 rfl (by decide) (by simp [spec_l20Clear.con]) spec_l20Clear.keep NN (fun _ => rfl) (fun x => spec_l20Clear.body NN x)
end
end Go.Ev.Tryz

namespace Go.Ev.Tryz
open Go.Proofs Go.Pl
set_option linter.unusedVariables false
noncomputable section
def spec_IsClear.con : Con := { ps := [(.val, (.sl 70 (.pair (.int .i64) (.pair .str (.int .i64))))), (.val, .str), (.val, (.int .i64))], rs := [(.val, .bool), (.val, (.int .i64))], F := fun x => spec_IsClear.f x.1 x.2.1 x.2.2 }
def spec_IsClear.cs : List (FuncId × Con) := [(143, spec_l20Code.con), (144, spec_l20Clear.con)]
def spec_IsClear.E : Env := envOf tab spec_IsClear.cs 0 false
def spec_IsClear.keep (i : Nat) : List Nat := []
set_option maxRecDepth 100000 in
theorem spec_IsClear.body (n : Nat) (x : YD × ByteArray × Int) : bodyF spec_IsClear.E spec_IsClear.keep n Tryz.f121 spec_IsClear.con x = spec_IsClear.fn n x.1 x.2.1 x.2.2 := by
 have h : bodyF spec_IsClear.E spec_IsClear.keep n Tryz.f121 spec_IsClear.con x = spec_IsClear.top x.1 x.2.1 x.2.2 := by kernel_rfl
 exact h
set_option maxRecDepth 100000 in
theorem spec_IsClear.good : Good Tryz.prog 121 spec_IsClear.con :=
 good_of tabok (cs := spec_IsClear.cs) ⟨spec_l20Code.good, spec_l20Clear.good, trivial⟩ 0 false (fn := Tryz.f121) Tryz.func121 rfl (by decide) (by simp [spec_IsClear.con]) spec_IsClear.keep NN (fun _ => rfl) (fun x => spec_IsClear.body NN x)
end
end Go.Ev.Tryz

namespace Go.Ev.Tryz
open Go.Proofs Go.Pl
set_option linter.unusedVariables false
noncomputable section
def spec_l22Code.con : Con := { ps := [(.val, (.sl 72 (.pair (.int .i64) (.int .i64)))), (.val, (.int .i64))], rs := [(.val, (.int .i64))], F := fun x => spec_l22Code.f x.1 x.2 }
def spec_l22Code.cs : List (FuncId × Con) := [(58, spec_AreSignals.con), (92, spec_l01In.con)]
def spec_l22Code.E : Env := envOf tab spec_l22Code.cs 0 false
def spec_l22Code.keep (i : Nat) : List Nat := []
set_option maxRecDepth 100000 in
theorem spec_l22Code.body (n : Nat) (x : YE × Int) : bodyF spec_l22Code.E spec_l22Code.keep n Tryz.f161 spec_l22Code.con x = spec_l22Code.fn n x.1 x.2 := by
 have h : bodyF spec_l22Code.E spec_l22Code.keep n Tryz.f161 spec_l22Code.con x = spec_l22Code.top x.1 x.2 := by kernel_rfl
 exact h
set_option maxRecDepth 100000 in
theorem spec_l22Code.good : Good Tryz.prog 161 spec_l22Code.con :=
 good_of tabok (cs := spec_l22Code.cs) ⟨spec_AreSignals.good, spec_l01In.good, trivial⟩ 0 false (fn := Tryz.f161) Tryz.func161 rfl (by decide) (by simp [spec_l22Code.con]) spec_l22Code.keep NN (fun _ => rfl) (fun x => spec_l22Code.body NN x)
end
end Go.Ev.Tryz

namespace Go.Ev.Tryz
open Go.Proofs Go.Pl
set_option linter.unusedVariables false
noncomputable section
def spec_l21Off.con : Con := { ps := [(.val, (.pair .bool (.pair .bool (.pair .bool (.pair .bool (.pair .bool (.int .i64)))))))], rs := [(.val, (.pair .bool (.pair .bool (.pair .bool (.pair .bool (.pair .bool (.int .i64)))))))], F := fun x => spec_l21Off.f x }
def spec_l21Off.cs : List (FuncId × Con) := []
def spec_l21Off.E : Env := envOf tab spec_l21Off.cs 0 false
def spec_l21Off.keep (i : Nat) : List Nat := []
set_option maxRecDepth 100000 in
theorem spec_l21Off.body (n : Nat) (x : Bool × Bool × Bool × Bool × Bool × Int) : bodyF spec_l21Off.E spec_l21Off.keep n Tryz.f171 spec_l21Off.con x = spec_l21Off.fn n x := by
 have h : bodyF spec_l21Off.E spec_l21Off.keep n Tryz.f171 spec_l21Off.con x = spec_l21Off.top x := by kernel_rfl
 exact h
set_option maxRecDepth 100000 in
theorem spec_l21Off.good : Good Tryz.prog 171 spec_l21Off.con :=
 good_of tabok (cs := spec_l21Off.cs) trivial 0 false (fn := Tryz.f171) Tryz.func171 rfl (by decide) (by simp [spec_l21Off.con]) spec_l21Off.keep NN (fun _ => rfl) (fun x => spec_l21Off.body NN x)
end
end Go.Ev.Tryz

namespace Go.Ev.Tryz
open Go.Proofs Go.Pl
set_option linter.unusedVariables false
noncomputable section
def spec_l21Give.con : Con := { ps := [(.val, (.pair .bool (.pair .bool (.pair .bool (.pair .bool (.pair .bool (.int .i64))))))), (.val, (.int .i64))], rs := [(.val, (.pair .bool (.pair .bool (.pair .bool (.pair .bool (.pair .bool (.int .i64))))))), (.val, .bool)], F := fun x => spec_l21Give.f x.1 x.2 }
def spec_l21Give.cs : List (FuncId × Con) := [(171, spec_l21Off.con)]
def spec_l21Give.E : Env := envOf tab spec_l21Give.cs 0 false
def spec_l21Give.keep (i : Nat) : List Nat := []
set_option maxRecDepth 100000 in
theorem spec_l21Give.body (n : Nat) (x : YB × Int) : bodyF spec_l21Give.E spec_l21Give.keep n Tryz.f169 spec_l21Give.con x = spec_l21Give.fn n x.1 x.2 := by
 have h : bodyF spec_l21Give.E spec_l21Give.keep n Tryz.f169 spec_l21Give.con x = spec_l21Give.top x.1 x.2 := by kernel_rfl
 exact h
set_option maxRecDepth 100000 in
theorem spec_l21Give.good : Good Tryz.prog 169 spec_l21Give.con :=
 good_of tabok (cs := spec_l21Give.cs) ⟨spec_l21Off.good, trivial⟩ 0 false (fn := Tryz.f169) Tryz.func169 rfl (by decide) (by simp [spec_l21Give.con]) spec_l21Give.keep NN (fun _ => rfl) (fun x => spec_l21Give.body NN x)
end
end Go.Ev.Tryz

namespace Go.Ev.Tryz
open Go.Proofs Go.Pl
set_option linter.unusedVariables false
noncomputable section
def spec_l22Ticks.st2 (k5 : Int) (c2 : Bool × Bool × Bool × Bool × Bool × Int) (v4a : Bool) (t : Bool) (s : Bool) (r : Bool) (p : Bool) (q : Int) : St := ⟨[.gone, .gone, .ptr 0 [], .gone, .ptr 1 [], .dat (.int .i64) k5, .gone, .gone, .gone, .gone, .gone, .gone, .gone, .gone, .gone, .gone, .gone, .gone, .gone, .gone, .gone], [.box 114 (.pair .bool (.pair .bool (.pair .bool (.pair .bool (.pair .bool (.int .i64)))))) (.dat (.pair .bool (.pair .bool (.pair .bool (.pair .bool (.pair .bool (.int .i64)))))) c2), .box 114 (.pair .bool (.pair .bool (.pair .bool (.pair .bool (.pair .bool (.int .i64)))))) (.pr (.dat .bool v4a) (.pr (.dat .bool t) (.pr (.dat .bool s) (.pr (.dat .bool r) (.pr (.dat .bool p) (.dat (.int .i64) q))))))]⟩
def spec_l22Ticks.con : Con := { ps := [(.val, (.pair .bool (.pair .bool (.pair .bool (.pair .bool (.pair .bool (.int .i64))))))), (.val, (.int .i64))], rs := [(.val, (.pair .bool (.pair .bool (.pair .bool (.pair .bool (.pair .bool (.int .i64)))))))], F := fun x => spec_l22Ticks.f x.1 x.2 }
def spec_l22Ticks.cs : List (FuncId × Con) := [(169, spec_l21Give.con)]
def spec_l22Ticks.E : Env := envOf tab spec_l22Ticks.cs 0 false
def spec_l22Ticks.keep (i : Nat) : List Nat := if i = 2 then [2, 4, 5] else []
def spec_l22Ticks.at2 (n : Nat) (x : YB × Int) : Code × (Ex → St → Option (YB)) := ctx spec_l22Ticks.E spec_l22Ticks.keep n [.snd, .fst, .snd, .blk] (codeOf Tryz.f168) (kEnd spec_l22Ticks.E Tryz.f168 spec_l22Ticks.con x)
def spec_l22Ticks.LN2 (n : Nat) (x : YB × Int) : Nat → St → Option (YB) := loopN (exec spec_l22Ticks.E spec_l22Ticks.keep n (bodyOf (spec_l22Ticks.at2 n x).1)) (St.norm 0 (spec_l22Ticks.keep 2)) (spec_l22Ticks.at2 n x).2
set_option maxRecDepth 100000 in
theorem spec_l22Ticks.lem2 (n : Nat) (x : YB × Int) : ∀ (k : Nat) (k5 : Int) (c2 : Bool × Bool × Bool × Bool × Bool × Int) (v4a : Bool) (t : Bool) (s : Bool) (r : Bool) (p : Bool) (q : Int), spec_l22Ticks.LN2 n x k (spec_l22Ticks.st2 k5 c2 v4a t s r p q) = spec_l22Ticks.l2 n k k5 c2 v4a t s r p q := by
 intro k
 induction k with
 | zero => intro k5 c2 v4a t s r p q; rfl
 | succ k ih =>
  intro k5 c2 v4a t s r p q
  have h : spec_l22Ticks.LN2 n x (k + 1) (spec_l22Ticks.st2 k5 c2 v4a t s r p q) = spec_l22Ticks.g2 (fun k5 c2 v4a t s r p q => spec_l22Ticks.LN2 n x k (spec_l22Ticks.st2 k5 c2 v4a t s r p q)) k5 c2 v4a t s r p q := by kernel_rfl
  rw [h]
  simp only [ih]
  rfl
set_option maxRecDepth 100000 in
theorem spec_l22Ticks.body (n : Nat) (x : YB × Int) : bodyF spec_l22Ticks.E spec_l22Ticks.keep n Tryz.f168 spec_l22Ticks.con x = spec_l22Ticks.fn n x.1 x.2 := by
 have h : bodyF spec_l22Ticks.E spec_l22Ticks.keep n Tryz.f168 spec_l22Ticks.con x = spec_l22Ticks.top (fun k5 c2 v4a t s r p q => spec_l22Ticks.LN2 n x n (spec_l22Ticks.st2 k5 c2 v4a t s r p q)) x.1 x.2 := by kernel_rfl
 rw [h]
 simp only [spec_l22Ticks.lem2]
 rfl
set_option maxRecDepth 100000 in
theorem spec_l22Ticks.good : Good Tryz.prog 168 spec_l22Ticks.con :=
 good_of tabok (cs := spec_l22Ticks.cs) ⟨spec_l21Give.good, trivial⟩ 0 false (fn := Tryz.f168) Tryz.func168 rfl (by decide) (by simp [spec_l22Ticks.con]) spec_l22Ticks.keep NN (fun _ => rfl) (fun x => spec_l22Ticks.body NN x)
end
end Go.Ev.Tryz

namespace Go.Ev.Tryz
open Go.Proofs Go.Pl
set_option linter.unusedVariables false
noncomputable section
def spec_l22At.st4 (s : List YC) (u : Int) (y : Int) (i9 : Int) (v4a : Bool) (w : Bool) (v : Bool) (t : Bool) (q : Bool) (r : Int) (c6 : Bool × Bool × Bool × Bool × Bool × Int) (p : List Int) : St := ⟨[.dat (.sl 72 (.pair (.int .i64) (.int .i64))) s, .dat (.int .i64) u, .gone, .gone, .ptr 0 [], .gone, .ptr 1 [], .dat (.int .i64) y, .ref 2, .dat (.int .i64) i9, .gone, .gone, .gone, .gone, .gone, .gone, .gone, .gone, .gone, .gone, .gone, .gone, .gone, .gone, .gone, .gone, .gone, .gone, .gone, .gone, .gone, .gone, .gone, .gone, .gone, .gone, .gone, .gone, .gone, .gone, .gone, .gone, .gone, .gone, .gone, .gone, .gone, .gone, .gone, .gone, .gone, .gone, .gone, .gone, .gone, .gone, .gone, .gone, .gone, .gone, .gone, .gone, .gone, .gone, .gone], [.box 114 (.pair .bool (.pair .bool (.pair .bool (.pair .bool (.pair .bool (.int .i64)))))) (.pr (.dat .bool v4a) (.pr (.dat .bool w) (.pr (.dat .bool v) (.pr (.dat .bool t) (.pr (.dat .bool q) (.dat (.int .i64) r)))))), .box 114 (.pair .bool (.pair .bool (.pair .bool (.pair .bool (.pair .bool (.int .i64)))))) (.dat (.pair .bool (.pair .bool (.pair .bool (.pair .bool (.pair .bool (.int .i64)))))) c6), .row 2 (.int .i64) p none]⟩
def spec_l22At.tr0 (L4 : YAB) (s : List YC) (u : Int) (i9 : Int) (v4a : Bool) (w : Bool) (v : Bool) (t : Bool) (q : Bool) (r : Int) (p : List Int) (r1 : YB) : Option YAA :=
 (spec_l21Give.f r1 ((s.getD (i9 : Int).toNat (0, 0)).2)).bind fun r2 =>
 if r2.2 = true then
  L4 s u ((s.getD (i9 : Int).toNat (0, 0)).1) (IntKind.i64.wrap (i9 + 1)) v4a w v t q r r2.1 p
 else if p.length + ([i9]).length < room 8 then
  L4 s u ((s.getD (i9 : Int).toNat (0, 0)).1) (IntKind.i64.wrap (i9 + 1)) v4a w v t q r r1 (p ++ ([i9]))
 else
  none
def spec_l22At.tr1 (L4 : YAB) (s : List YC) (u : Int) (i9 : Int) (v4a : Bool) (w : Bool) (v : Bool) (t : Bool) (q : Bool) (r : Int) (p : List Int) (r1 : YB) : Option YAA :=
 agree (
  spec_l22At.tr0 L4 s u i9 v4a w v t q r p r1
 ) (
  spec_l22At.tr0 L4 s u i9 v4a w v t q r p r1
 )
def spec_l22At.tr2 (L4 : YAB) (s : List YC) (u : Int) (i9 : Int) (v4a : Bool) (w : Bool) (v : Bool) (t : Bool) (q : Bool) (r : Int) (p : List Int) (r1 : YB) : Option YAA :=
 agree (
  spec_l22At.tr1 L4 s u i9 v4a w v t q r p r1
 ) (
  spec_l22At.tr0 L4 s u i9 v4a w v t q r p r1
 )
def spec_l22At.g4raw (L4 : YAB) (s : List YC) (u : Int) (y : Int) (i9 : Int) (v4a : Bool) (w : Bool) (v : Bool) (t : Bool) (q : Bool) (r : Int) (c6 : Bool × Bool × Bool × Bool × Bool × Int) (p : List Int) : Option YAA :=
 if (decide ((i9 : Int) < (s.length : Int))) = true then
  if (0 : Int) ≤ i9 ∧ (i9 : Int) < s.length then
   if (decide ((((s.getD (i9 : Int).toNat (0, 0)).1) : Int) ≤ u)) = true then
    if (0 : Int) ≤ i9 ∧ (i9 : Int) < s.length then
     (spec_l22Ticks.f c6 (IntKind.i64.wrap (((s.getD (i9 : Int).toNat (0, 0)).1) - y))).bind fun r1 =>
     if (0 : Int) ≤ i9 ∧ (i9 : Int) < s.length then
      if (0 : Int) ≤ i9 ∧ (i9 : Int) < s.length then
       agree (
        spec_l22At.tr2 L4 s u i9 v4a w v t q r p r1
       ) (
        agree (
         spec_l22At.tr2 L4 s u i9 v4a w v t q r p r1
        ) (
         spec_l22At.tr1 L4 s u i9 v4a w v t q r p r1
        )
       )
      else
       none
     else
      none
    else
     none
   else
    (spec_l22Ticks.f c6 (IntKind.i64.wrap (u - y))).bind fun r3 =>
    some (r3, p)
  else
   none
 else
  (spec_l22Ticks.f c6 (IntKind.i64.wrap (u - y))).bind fun r4 =>
  some (r4, p)
theorem spec_l22At.g4raw_eq (L4 : YAB) (s : List YC) (u : Int) (y : Int) (i9 : Int) (v4a : Bool) (w : Bool) (v : Bool) (t : Bool) (q : Bool) (r : Int) (c6 : Bool × Bool × Bool × Bool × Bool × Int) (p : List Int) : spec_l22At.g4raw L4 s u y i9 v4a w v t q r c6 p = spec_l22At.g4 L4 s u y i9 v4a w v t q r c6 p := by
 unfold spec_l22At.g4raw spec_l22At.g4
 simp only [agree_self, spec_l22At.tr0, spec_l22At.tr1, spec_l22At.tr2]
def spec_l22At.con : Con := { ps := [(.val, (.sl 72 (.pair (.int .i64) (.int .i64)))), (.val, (.int .i64))], rs := [(.own, (.pair .bool (.pair .bool (.pair .bool (.pair .bool (.pair .bool (.int .i64))))))), (.own, (.sl 2 (.int .i64)))], F := fun x => spec_l22At.f x.1 x.2 }
def spec_l22At.cs : List (FuncId × Con) := [(168, spec_l22Ticks.con), (169, spec_l21Give.con)]
def spec_l22At.E : Env := envOf tab spec_l22At.cs 0 false
def spec_l22At.keep (i : Nat) : List Nat := if i = 4 then [0, 1, 4, 6, 7, 8, 9, 200006] else []
def spec_l22At.at4 (n : Nat) (x : YE × Int) : Code × (Ex → St → Option (YAA)) := ctx spec_l22At.E spec_l22At.keep n [.snd, .snd, .snd, .fst, .snd, .blk] (codeOf Tryz.f162) (kEnd spec_l22At.E Tryz.f162 spec_l22At.con x)
def spec_l22At.LN4 (n : Nat) (x : YE × Int) : Nat → St → Option (YAA) := loopN (exec spec_l22At.E spec_l22At.keep n (bodyOf (spec_l22At.at4 n x).1)) (St.norm 0 (spec_l22At.keep 4)) (spec_l22At.at4 n x).2
set_option maxRecDepth 100000 in
theorem spec_l22At.lem4 (n : Nat) (x : YE × Int) : ∀ (k : Nat) (s : List YC) (u : Int) (y : Int) (i9 : Int) (v4a : Bool) (w : Bool) (v : Bool) (t : Bool) (q : Bool) (r : Int) (c6 : Bool × Bool × Bool × Bool × Bool × Int) (p : List Int), spec_l22At.LN4 n x k (spec_l22At.st4 s u y i9 v4a w v t q r c6 p) = spec_l22At.l4 n k s u y i9 v4a w v t q r c6 p := by
 intro k
 induction k with
 | zero => intro s u y i9 v4a w v t q r c6 p; rfl
 | succ k ih =>
  intro s u y i9 v4a w v t q r c6 p
  have h : spec_l22At.LN4 n x (k + 1) (spec_l22At.st4 s u y i9 v4a w v t q r c6 p) = spec_l22At.g4raw (fun s u y i9 v4a w v t q r c6 p => spec_l22At.LN4 n x k (spec_l22At.st4 s u y i9 v4a w v t q r c6 p)) s u y i9 v4a w v t q r c6 p := by kernel_rfl
  rw [spec_l22At.g4raw_eq] at h
  rw [h]
  simp only [ih]
  rfl
set_option maxRecDepth 100000 in
theorem spec_l22At.body (n : Nat) (x : YE × Int) : bodyF spec_l22At.E spec_l22At.keep n Tryz.f162 spec_l22At.con x = spec_l22At.fn n x.1 x.2 := by
 have h : bodyF spec_l22At.E spec_l22At.keep n Tryz.f162 spec_l22At.con x = spec_l22At.top (fun s u y i9 v4a w v t q r c6 p => spec_l22At.LN4 n x n (spec_l22At.st4 s u y i9 v4a w v t q r c6 p)) x.1 x.2 := by kernel_rfl
 rw [h]
 simp only [spec_l22At.lem4]
 rfl
set_option maxRecDepth 100000 in
theorem spec_l22At.good : Good Tryz.prog 162 spec_l22At.con :=
 good_of tabok (cs := spec_l22At.cs) ⟨spec_l22Ticks.good, spec_l21Give.good, trivial⟩ 0 false (fn := Tryz.f162) Tryz.func162 rfl (by decide) (by simp [spec_l22At.con]) spec_l22At.keep NN (fun _ => rfl) (fun x => spec_l22At.body NN x)
end
end Go.Ev.Tryz

namespace Go.Ev.Tryz
open Go.Proofs Go.Pl
set_option linter.unusedVariables false
noncomputable section
def spec_ControllerAt.con : Con := { ps := [(.val, (.sl 72 (.pair (.int .i64) (.int .i64)))), (.val, (.int .i64))], rs := [(.val, (.pair .bool (.pair .bool (.pair .bool (.pair .bool (.pair .bool (.int .i64))))))), (.val, (.int .i64))], F := fun x => spec_ControllerAt.f x.1 x.2 }
def spec_ControllerAt.cs : List (FuncId × Con) := [(161, spec_l22Code.con), (162, spec_l22At.con)]
def spec_ControllerAt.E : Env := envOf tab spec_ControllerAt.cs 0 false
def spec_ControllerAt.keep (i : Nat) : List Nat := []
set_option maxRecDepth 100000 in
theorem spec_ControllerAt.body (n : Nat) (x : YE × Int) : bodyF spec_ControllerAt.E spec_ControllerAt.keep n Tryz.f145 spec_ControllerAt.con x = spec_ControllerAt.fn n x.1 x.2 := by
 have h : bodyF spec_ControllerAt.E spec_ControllerAt.keep n Tryz.f145 spec_ControllerAt.con x = spec_ControllerAt.top x.1 x.2 := by kernel_rfl
 exact h
set_option maxRecDepth 100000 in
theorem spec_ControllerAt.good : Good Tryz.prog 145 spec_ControllerAt.con :=
 good_of tabok (cs := spec_ControllerAt.cs) ⟨spec_l22Code.good, spec_l22At.good, trivial⟩ 0 false (fn := Tryz.f145) Tryz.func145 rfl (by decide) (by simp [spec_ControllerAt.con]) spec_ControllerAt.keep NN (fun _ => rfl) (fun x => spec_ControllerAt.body NN x)
end
end Go.Ev.Tryz

namespace Go.Ev.Tryz
open Go.Proofs Go.Pl
set_option linter.unusedVariables false
noncomputable section
def spec_l34State.con : Con := { ps := [(.val, (.pair (.sl 70 (.pair (.int .i64) (.pair .str (.int .i64)))) (.pair (.sl 72 (.pair (.int .i64) (.int .i64))) (.sl 74 (.pair (.int .i64) (.pair .str (.int .i64))))))), (.val, (.int .i64))], rs := [(.val, .str), (.val, (.int .i64))], F := fun x => spec_l34State.f x.1 x.2 }
def spec_l34State.cs : List (FuncId × Con) := [(145, spec_ControllerAt.con)]
def spec_l34State.E : Env := envOf tab spec_l34State.cs 0 false
def spec_l34State.keep (i : Nat) : List Nat := []
set_option maxRecDepth 100000 in
theorem spec_l34State.body (n : Nat) (x : YF × Int) : bodyF spec_l34State.E spec_l34State.keep n Tryz.f122 spec_l34State.con x = spec_l34State.fn n x.1 x.2 := by
 have h : bodyF spec_l34State.E spec_l34State.keep n Tryz.f122 spec_l34State.con x = spec_l34State.top x.1 x.2 := by kernel_rfl
 exact h
set_option maxRecDepth 100000 in
theorem spec_l34State.good : Good Tryz.prog 122 spec_l34State.con :=
 good_of tabok (cs := spec_l34State.cs) ⟨spec_ControllerAt.good, trivial⟩ 0 false (fn := Tryz.f122) Tryz.func122 rfl (by decide) (by simp [spec_l34State.con]) spec_l34State.keep NN (fun _ => rfl) (fun x => spec_l34State.body NN x)
end
end Go.Ev.Tryz

namespace Go.Ev.Tryz
open Go.Proofs Go.Pl
set_option linter.unusedVariables false
noncomputable section
def spec_l22Fired.st9 (p : List Int) (s : List YC) (q : List YA) (r : List ByteArray) (i10 : Int) (v : Int) (u : Bool) (k15 : Int) (t : List Int) : St := ⟨[.dat (.sl 2 (.int .i64)) p, .dat (.sl 72 (.pair (.int .i64) (.int .i64))) s, .dat (.sl 70 (.pair (.int .i64) (.pair .str (.int .i64)))) q, .dat (.sl 9 .str) r, .gone, .gone, .gone, .gone, .gone, .ref 0, .dat (.int .i64) i10, .dat (.int .i64) v, .gone, .gone, .dat .bool u, .dat (.int .i64) k15, .gone, .gone, .gone, .gone, .gone, .gone, .gone, .gone, .gone, .gone, .gone, .gone, .gone, .gone, .gone, .gone, .gone, .gone, .gone, .gone, .gone, .gone, .gone, .gone, .gone, .gone, .gone, .gone, .gone, .gone, .gone, .gone, .gone, .gone, .gone, .gone, .gone, .gone, .gone, .gone, .gone, .gone, .gone, .gone, .gone, .gone, .gone, .gone, .gone, .gone, .gone], [.row 2 (.int .i64) t none]⟩
def spec_l22Fired.st3 (p : List Int) (s : List YC) (q : List YA) (r : List ByteArray) (i10 : Int) (t : List Int) : St := ⟨[.dat (.sl 2 (.int .i64)) p, .dat (.sl 72 (.pair (.int .i64) (.int .i64))) s, .dat (.sl 70 (.pair (.int .i64) (.pair .str (.int .i64)))) q, .dat (.sl 9 .str) r, .gone, .gone, .gone, .gone, .gone, .ref 0, .dat (.int .i64) i10, .gone, .gone, .gone, .gone, .gone, .gone, .gone, .gone, .gone, .gone, .gone, .gone, .gone, .gone, .gone, .gone, .gone, .gone, .gone, .gone, .gone, .gone, .gone, .gone, .gone, .gone, .gone, .gone, .gone, .gone, .gone, .gone, .gone, .gone, .gone, .gone, .gone, .gone, .gone, .gone, .gone, .gone, .gone, .gone, .gone, .gone, .gone, .gone, .gone, .gone, .gone, .gone, .gone, .gone, .gone, .gone], [.row 2 (.int .i64) t none]⟩
def spec_l22Fired.con : Con := { ps := [(.val, (.sl 2 (.int .i64))), (.val, (.sl 72 (.pair (.int .i64) (.int .i64)))), (.val, (.sl 70 (.pair (.int .i64) (.pair .str (.int .i64))))), (.val, (.sl 9 .str))], rs := [(.own, (.sl 2 (.int .i64)))], F := fun x => spec_l22Fired.f x.1 x.2.1 x.2.2.1 x.2.2.2 }
def spec_l22Fired.cs : List (FuncId × Con) := [(144, spec_l20Clear.con), (162, spec_l22At.con)]
def spec_l22Fired.E : Env := envOf tab spec_l22Fired.cs 0 false
def spec_l22Fired.keep (i : Nat) : List Nat := if i = 9 then [0, 1, 2, 3, 9, 10, 11, 14, 15] else if i = 3 then [0, 1, 2, 3, 9, 10] else []
def spec_l22Fired.at9 (n : Nat) (x : List Int × YE × YD × List ByteArray) (M3 : St → Option (YL)) : Code × (Ex → St → Option (YL)) := ctx spec_l22Fired.E spec_l22Fired.keep n [.snd, .snd, .fst, .snd, .blk, .rd M3, .snd, .fst, .blk, .snd, .snd, .snd, .fst, .snd, .blk] (codeOf Tryz.f147) (kEnd spec_l22Fired.E Tryz.f147 spec_l22Fired.con x)
def spec_l22Fired.LN9 (n : Nat) (x : List Int × YE × YD × List ByteArray) (M3 : St → Option (YL)) : Nat → St → Option (YL) := loopN (exec spec_l22Fired.E spec_l22Fired.keep n (bodyOf (spec_l22Fired.at9 n x M3).1)) (St.norm 0 (spec_l22Fired.keep 9)) (spec_l22Fired.at9 n x M3).2
def spec_l22Fired.at3 (n : Nat) (x : List Int × YE × YD × List ByteArray) : Code × (Ex → St → Option (YL)) := ctx spec_l22Fired.E spec_l22Fired.keep n [.snd, .snd, .fst, .snd, .blk] (codeOf Tryz.f147) (kEnd spec_l22Fired.E Tryz.f147 spec_l22Fired.con x)
def spec_l22Fired.LN3 (n : Nat) (x : List Int × YE × YD × List ByteArray) : Nat → St → Option (YL) := loopN (exec spec_l22Fired.E spec_l22Fired.keep n (bodyOf (spec_l22Fired.at3 n x).1)) (St.norm 0 (spec_l22Fired.keep 3)) (spec_l22Fired.at3 n x).2
set_option maxRecDepth 100000 in
theorem spec_l22Fired.lem9 (n : Nat) (x : List Int × YE × YD × List ByteArray) (M3 : St → Option (YL)) : ∀ (k : Nat) (p : List Int) (s : List YC) (q : List YA) (r : List ByteArray) (i10 : Int) (v : Int) (u : Bool) (k15 : Int) (t : List Int), spec_l22Fired.LN9 n x M3 k (spec_l22Fired.st9 p s q r i10 v u k15 t) = spec_l22Fired.l9 n (fun p s q r i10 t => M3 (spec_l22Fired.st3 p s q r i10 t)) k p s q r i10 v u k15 t := by
 intro k
 induction k with
 | zero => intro p s q r i10 v u k15 t; rfl
 | succ k ih =>
  intro p s q r i10 v u k15 t
  have h : spec_l22Fired.LN9 n x M3 (k + 1) (spec_l22Fired.st9 p s q r i10 v u k15 t) = spec_l22Fired.g9 (fun p s q r i10 t => M3 (spec_l22Fired.st3 p s q r i10 t)) (fun p s q r i10 v u k15 t => spec_l22Fired.LN9 n x M3 k (spec_l22Fired.st9 p s q r i10 v u k15 t)) p s q r i10 v u k15 t := by kernel_rfl
  rw [h]
  simp only [ih]
  rfl
set_option maxRecDepth 100000 in
theorem spec_l22Fired.lem3 (n : Nat) (x : List Int × YE × YD × List ByteArray) : ∀ (k : Nat) (p : List Int) (s : List YC) (q : List YA) (r : List ByteArray) (i10 : Int) (t : List Int), spec_l22Fired.LN3 n x k (spec_l22Fired.st3 p s q r i10 t) = spec_l22Fired.l3 n k p s q r i10 t := by
 intro k
 induction k with
 | zero => intro p s q r i10 t; rfl
 | succ k ih =>
  intro p s q r i10 t
  have h : spec_l22Fired.LN3 n x (k + 1) (spec_l22Fired.st3 p s q r i10 t) = spec_l22Fired.g3 (fun p s q r i10 v u k15 t => spec_l22Fired.LN9 n x (spec_l22Fired.LN3 n x k) n (spec_l22Fired.st9 p s q r i10 v u k15 t)) (fun p s q r i10 t => spec_l22Fired.LN3 n x k (spec_l22Fired.st3 p s q r i10 t)) p s q r i10 t := by kernel_rfl
  rw [h]
  simp only [ih, spec_l22Fired.lem9]
  rfl
set_option maxRecDepth 100000 in
theorem spec_l22Fired.body (n : Nat) (x : List Int × YE × YD × List ByteArray) : bodyF spec_l22Fired.E spec_l22Fired.keep n Tryz.f147 spec_l22Fired.con x = spec_l22Fired.fn n x.1 x.2.1 x.2.2.1 x.2.2.2 := by
 have h : bodyF spec_l22Fired.E spec_l22Fired.keep n Tryz.f147 spec_l22Fired.con x = spec_l22Fired.top (fun p s q r i10 t => spec_l22Fired.LN3 n x n (spec_l22Fired.st3 p s q r i10 t)) x.1 x.2.1 x.2.2.1 x.2.2.2 := by kernel_rfl
 rw [h]
 simp only [spec_l22Fired.lem3]
 rfl
set_option maxRecDepth 100000 in
theorem spec_l22Fired.good : Good Tryz.prog 147 spec_l22Fired.con :=
 good_of tabok (cs := spec_l22Fired.cs) ⟨spec_l20Clear.good, spec_l22At.good, trivial⟩ 0 false (fn := Tryz.f147) Tryz.func147 rfl (by decide) (by simp [spec_l22Fired.con]) spec_l22Fired.keep NN (fun _ => rfl) (fun x => spec_l22Fired.body NN x)
end
end Go.Ev.Tryz

namespace Go.Ev.Tryz
open Go.Proofs Go.Pl
set_option linter.unusedVariables false
noncomputable section
def spec_l34Fire.st5 (t1 : Int) (i7 : Int) (d2 : YD × YE × List YA) (p : List ByteArray) : St := ⟨[.gone, .dat (.int .i64) t1, .ptr 0 [], .gone, .gone, .gone, .ref 1, .dat (.int .i64) i7, .gone, .gone, .gone, .gone, .gone, .gone, .gone, .gone, .gone, .gone, .gone, .gone, .gone, .gone, .gone, .gone, .gone, .gone, .gone, .gone, .gone, .gone, .gone, .gone, .gone, .gone, .gone, .gone, .gone, .gone, .gone, .gone, .gone, .gone], [.box 35 (.pair (.sl 70 (.pair (.int .i64) (.pair .str (.int .i64)))) (.pair (.sl 72 (.pair (.int .i64) (.int .i64))) (.sl 74 (.pair (.int .i64) (.pair .str (.int .i64)))))) (.dat (.pair (.sl 70 (.pair (.int .i64) (.pair .str (.int .i64)))) (.pair (.sl 72 (.pair (.int .i64) (.int .i64))) (.sl 74 (.pair (.int .i64) (.pair .str (.int .i64)))))) d2), .row 9 .str p none]⟩
def spec_l34Fire.con : Con := { ps := [(.val, (.pair (.sl 70 (.pair (.int .i64) (.pair .str (.int .i64)))) (.pair (.sl 72 (.pair (.int .i64) (.int .i64))) (.sl 74 (.pair (.int .i64) (.pair .str (.int .i64))))))), (.val, (.int .i64))], rs := [(.val, .str), (.val, (.int .i64))], F := fun x => spec_l34Fire.f x.1 x.2 }
def spec_l34Fire.cs : List (FuncId × Con) := [(68, (spec_l01Dec.con (fun a0 => spec_l01Dec.f a0))), (90, spec_l01IsTime.con), (146, spec_l20Insert.con), (147, spec_l22Fired.con)]
def spec_l34Fire.E : Env := envOf tab spec_l34Fire.cs 0 false
def spec_l34Fire.keep (i : Nat) : List Nat := if i = 5 then [1, 2, 6, 7] else []
def spec_l34Fire.at5 (n : Nat) (x : YF × Int) : Code × (Ex → St → Option (YP)) := ctx spec_l34Fire.E spec_l34Fire.keep n [.snd, .snd, .snd, .fst, .snd, .blk] (codeOf Tryz.f123) (kEnd spec_l34Fire.E Tryz.f123 spec_l34Fire.con x)
def spec_l34Fire.LN5 (n : Nat) (x : YF × Int) : Nat → St → Option (YP) := loopN (exec spec_l34Fire.E spec_l34Fire.keep n (bodyOf (spec_l34Fire.at5 n x).1)) (St.norm 0 (spec_l34Fire.keep 5)) (spec_l34Fire.at5 n x).2
set_option maxRecDepth 100000 in
theorem spec_l34Fire.lem5 (n : Nat) (x : YF × Int) : ∀ (k : Nat) (t1 : Int) (i7 : Int) (d2 : YD × YE × List YA) (p : List ByteArray), spec_l34Fire.LN5 n x k (spec_l34Fire.st5 t1 i7 d2 p) = spec_l34Fire.l5 n k t1 i7 d2 p := by
 intro k
 induction k with
 | zero => intro t1 i7 d2 p; rfl
 | succ k ih =>
  intro t1 i7 d2 p
  have h : spec_l34Fire.LN5 n x (k + 1) (spec_l34Fire.st5 t1 i7 d2 p) = spec_l34Fire.g5 (fun t1 i7 d2 p => spec_l34Fire.LN5 n x k (spec_l34Fire.st5 t1 i7 d2 p)) t1 i7 d2 p := by kernel_rfl
  rw [h]
  simp only [ih]
  rfl
set_option maxRecDepth 100000 in
theorem spec_l34Fire.body (n : Nat) (x : YF × Int) : bodyF spec_l34Fire.E spec_l34Fire.keep n Tryz.f123 spec_l34Fire.con x = spec_l34Fire.fn n x.1 x.2 := by
 have h : bodyF spec_l34Fire.E spec_l34Fire.keep n Tryz.f123 spec_l34Fire.con x = spec_l34Fire.top (fun t1 i7 d2 p => spec_l34Fire.LN5 n x n (spec_l34Fire.st5 t1 i7 d2 p)) x.1 x.2 := by kernel_rfl
 rw [h]
 simp only [spec_l34Fire.lem5]
 rfl
set_option maxRecDepth 100000 in
theorem spec_l34Fire.good : Good Tryz.prog 123 spec_l34Fire.con :=
 good_of tabok (cs := spec_l34Fire.cs) ⟨spec_l01Dec.good, spec_l01IsTime.good, spec_l20Insert.good, spec_l22Fired.good, trivial⟩ 0 false (fn := Tryz.f123) Tryz.func123 rfl (by decide) (by simp [spec_l34Fire.con]) spec_l34Fire.keep NN (fun _ => rfl) (fun x => spec_l34Fire.body NN x)
end
end Go.Ev.Tryz

namespace Go.Ev.Tryz
open Go.Proofs Go.Pl
set_option linter.unusedVariables false
noncomputable section
def spec_PiecesLeft.con : Con := { ps := [(.val, (.sl 74 (.pair (.int .i64) (.pair .str (.int .i64))))), (.val, .str)], rs := [(.val, (.int .i64)), (.val, (.int .i64))], F := fun x => spec_PiecesLeft.f x.1 x.2 }
def spec_PiecesLeft.cs : List (FuncId × Con) := [(59, spec_AreBookings.con), (91, spec_IsWord.con), (94, spec_l32Left.con)]
def spec_PiecesLeft.E : Env := envOf tab spec_PiecesLeft.cs 0 false
def spec_PiecesLeft.keep (i : Nat) : List Nat := []
set_option maxRecDepth 100000 in
theorem spec_PiecesLeft.body (n : Nat) (x : YD × ByteArray) : bodyF spec_PiecesLeft.E spec_PiecesLeft.keep n Tryz.f124 spec_PiecesLeft.con x = spec_PiecesLeft.fn n x.1 x.2 := by
 have h : bodyF spec_PiecesLeft.E spec_PiecesLeft.keep n Tryz.f124 spec_PiecesLeft.con x = spec_PiecesLeft.top x.1 x.2 := by kernel_rfl
 exact h
set_option maxRecDepth 100000 in
theorem spec_PiecesLeft.good : Good Tryz.prog 124 spec_PiecesLeft.con :=
 good_of tabok (cs := spec_PiecesLeft.cs) ⟨spec_AreBookings.good, spec_IsWord.good, spec_l32Left.good, trivial⟩ 0 false (fn := Tryz.f124) Tryz.func124 rfl (by decide) (by simp [spec_PiecesLeft.con]) spec_PiecesLeft.keep NN (fun _ => rfl) (fun x => spec_PiecesLeft.body NN x)
end
end Go.Ev.Tryz

namespace Go.Ev.Tryz
open Go.Proofs Go.Pl
set_option linter.unusedVariables false
noncomputable section
def spec_l01Words.st3 (p : List ByteArray) (by1 : ByteArray) (q : ByteArray) (i6 : Int) : St := ⟨[.dat (.sl 9 .str) p, .dat .str by1, .gone, .gone, .gone, .dat .str q, .dat (.int .i64) i6, .gone, .gone, .gone, .gone, .gone, .gone, .gone, .gone, .gone, .gone, .gone, .gone, .gone, .gone, .gone, .gone, .gone, .gone], []⟩
def spec_l01Words.con : Con := { ps := [(.val, (.sl 9 .str)), (.val, .str)], rs := [(.val, .str)], F := fun x => spec_l01Words.f x.1 x.2 }
def spec_l01Words.cs : List (FuncId × Con) := []
def spec_l01Words.E : Env := envOf tab spec_l01Words.cs 0 false
def spec_l01Words.keep (i : Nat) : List Nat := if i = 3 then [0, 1, 5, 6] else []
def spec_l01Words.at3 (n : Nat) (x : List ByteArray × ByteArray) : Code × (Ex → St → Option (ByteArray)) := ctx spec_l01Words.E spec_l01Words.keep n [.snd, .snd, .fst, .snd, .blk] (codeOf Tryz.f126) (kEnd spec_l01Words.E Tryz.f126 spec_l01Words.con x)
def spec_l01Words.LN3 (n : Nat) (x : List ByteArray × ByteArray) : Nat → St → Option (ByteArray) := loopN (exec spec_l01Words.E spec_l01Words.keep n (bodyOf (spec_l01Words.at3 n x).1)) (St.norm 0 (spec_l01Words.keep 3)) (spec_l01Words.at3 n x).2
set_option maxRecDepth 100000 in
theorem spec_l01Words.lem3 (n : Nat) (x : List ByteArray × ByteArray) : ∀ (k : Nat) (p : List ByteArray) (by1 : ByteArray) (q : ByteArray) (i6 : Int), spec_l01Words.LN3 n x k (spec_l01Words.st3 p by1 q i6) = spec_l01Words.l3 n k p by1 q i6 := by
 intro k
 induction k with
 | zero => intro p by1 q i6; rfl
 | succ k ih =>
  intro p by1 q i6
  have h : spec_l01Words.LN3 n x (k + 1) (spec_l01Words.st3 p by1 q i6) = spec_l01Words.g3 (fun p by1 q i6 => spec_l01Words.LN3 n x k (spec_l01Words.st3 p by1 q i6)) p by1 q i6 := by kernel_rfl
  rw [h]
  simp only [ih]
  rfl
set_option maxRecDepth 100000 in
theorem spec_l01Words.body (n : Nat) (x : List ByteArray × ByteArray) : bodyF spec_l01Words.E spec_l01Words.keep n Tryz.f126 spec_l01Words.con x = spec_l01Words.fn n x.1 x.2 := by
 have h : bodyF spec_l01Words.E spec_l01Words.keep n Tryz.f126 spec_l01Words.con x = spec_l01Words.top (fun p by1 q i6 => spec_l01Words.LN3 n x n (spec_l01Words.st3 p by1 q i6)) x.1 x.2 := by kernel_rfl
 rw [h]
 simp only [spec_l01Words.lem3]
 rfl
set_option maxRecDepth 100000 in
theorem spec_l01Words.good : Good Tryz.prog 126 spec_l01Words.con :=
 good_of tabok (cs := spec_l01Words.cs) trivial 0 false (fn := Tryz.f126) Tryz.func126 rfl (by decide) (by simp [spec_l01Words.con]) spec_l01Words.keep NN (fun _ => rfl) (fun x => spec_l01Words.body NN x)
end
end Go.Ev.Tryz

namespace Go.Ev.Tryz
open Go.Proofs Go.Pl
set_option linter.unusedVariables false
noncomputable section
def spec_l04Code.con : Con := { ps := [(.val, (.int .i64)), (.val, (.int .i64)), (.val, (.int .i64)), (.val, (.int .i64))], rs := [(.val, (.int .i64))], F := fun x => spec_l04Code.f x.1 x.2.1 x.2.2.1 x.2.2.2 }
def spec_l04Code.cs : List (FuncId × Con) := [(92, spec_l01In.con)]
def spec_l04Code.E : Env := envOf tab spec_l04Code.cs 0 false
def spec_l04Code.keep (i : Nat) : List Nat := []
set_option maxRecDepth 100000 in
theorem spec_l04Code.body (n : Nat) (x : Int × Int × Int × Int) : bodyF spec_l04Code.E spec_l04Code.keep n Tryz.f148 spec_l04Code.con x = spec_l04Code.fn n x.1 x.2.1 x.2.2.1 x.2.2.2 := by
 have h : bodyF spec_l04Code.E spec_l04Code.keep n Tryz.f148 spec_l04Code.con x = spec_l04Code.top x.1 x.2.1 x.2.2.1 x.2.2.2 := by kernel_rfl
 exact h
set_option maxRecDepth 100000 in
theorem spec_l04Code.good : Good Tryz.prog 148 spec_l04Code.con :=
 good_of tabok (cs := spec_l04Code.cs) ⟨spec_l01In.good, trivial⟩ 0 false (fn := Tryz.f148) Tryz.func148 rfl (by decide) (by simp [spec_l04Code.con]) spec_l04Code.keep NN (fun _ => rfl) (fun x => spec_l04Code.body NN x)
end
end Go.Ev.Tryz

namespace Go.Ev.Tryz
open Go.Proofs Go.Pl
set_option linter.unusedVariables false
noncomputable section
def spec_l01Floor.con : Con := { ps := [(.val, (.int .i64)), (.val, (.int .i64))], rs := [(.val, (.int .i64))], F := fun x => spec_l01Floor.f x.1 x.2 }
def spec_l01Floor.cs : List (FuncId × Con) := []
def spec_l01Floor.E : Env := envOf tab spec_l01Floor.cs 0 false
def spec_l01Floor.keep (i : Nat) : List Nat := []
set_option maxRecDepth 100000 in
theorem spec_l01Floor.body (n : Nat) (x : Int × Int) : bodyF spec_l01Floor.E spec_l01Floor.keep n Tryz.f170 spec_l01Floor.con x = spec_l01Floor.fn n x.1 x.2 := by
 have h : bodyF spec_l01Floor.E spec_l01Floor.keep n Tryz.f170 spec_l01Floor.con x = spec_l01Floor.top x.1 x.2 := by kernel_rfl
 exact h
set_option maxRecDepth 100000 in
theorem spec_l01Floor.good : Good Tryz.prog 170 spec_l01Floor.con :=
 good_of tabok (cs := spec_l01Floor.cs) trivial 0 false (fn := Tryz.f170) Tryz.func170 rfl (by decide) (by simp [spec_l01Floor.con]) spec_l01Floor.keep NN (fun _ => rfl) (fun x => spec_l01Floor.body NN x)
end
end Go.Ev.Tryz

namespace Go.Ev.Tryz
open Go.Proofs Go.Pl
set_option linter.unusedVariables false
noncomputable section
def spec_l04Height.con : Con := { ps := [(.val, (.int .i64)), (.val, (.int .i64))], rs := [(.val, (.int .i64))], F := fun x => spec_l04Height.f x.1 x.2 }
def spec_l04Height.cs : List (FuncId × Con) := [(170, spec_l01Floor.con)]
def spec_l04Height.E : Env := envOf tab spec_l04Height.cs 0 false
def spec_l04Height.keep (i : Nat) : List Nat := []
set_option maxRecDepth 100000 in
theorem spec_l04Height.body (n : Nat) (x : Int × Int) : bodyF spec_l04Height.E spec_l04Height.keep n Tryz.f163 spec_l04Height.con x = spec_l04Height.fn n x.1 x.2 := by
 have h : bodyF spec_l04Height.E spec_l04Height.keep n Tryz.f163 spec_l04Height.con x = spec_l04Height.top x.1 x.2 := by kernel_rfl
 exact h
set_option maxRecDepth 100000 in
theorem spec_l04Height.good : Good Tryz.prog 163 spec_l04Height.con :=
 good_of tabok (cs := spec_l04Height.cs) ⟨spec_l01Floor.good, trivial⟩ 0 false (fn := Tryz.f163) Tryz.func163 rfl (by decide) (by simp [spec_l04Height.con]) spec_l04Height.keep NN (fun _ => rfl) (fun x => spec_l04Height.body NN x)
end
end Go.Ev.Tryz

namespace Go.Ev.Tryz
open Go.Proofs Go.Pl
set_option linter.unusedVariables false
noncomputable section
def spec_l04Top.st3 (up0 : Int) (t4 : Int) (p : Int) : St := ⟨[.dat (.int .i64) up0, .gone, .gone, .gone, .dat (.int .i64) t4, .dat (.int .i64) p, .gone, .gone, .gone, .gone, .gone, .gone, .gone, .gone, .gone, .gone, .gone, .gone, .gone, .gone, .gone, .gone, .gone, .gone, .gone, .gone, .gone, .gone, .gone, .gone, .gone, .gone, .gone, .gone, .gone, .gone, .gone, .gone], []⟩
def spec_l04Top.con : Con := { ps := [(.val, (.int .i64))], rs := [(.val, (.int .i64)), (.val, (.int .i64))], F := fun x => spec_l04Top.f x }
def spec_l04Top.cs : List (FuncId × Con) := [(163, spec_l04Height.con)]
def spec_l04Top.E : Env := envOf tab spec_l04Top.cs 0 false
def spec_l04Top.keep (i : Nat) : List Nat := if i = 3 then [0, 4, 5] else []
def spec_l04Top.at3 (n : Nat) (x : Int) : Code × (Ex → St → Option (YC)) := ctx spec_l04Top.E spec_l04Top.keep n [.snd, .snd, .snd, .fst, .blk] (codeOf Tryz.f149) (kEnd spec_l04Top.E Tryz.f149 spec_l04Top.con x)
def spec_l04Top.LN3 (n : Nat) (x : Int) : Nat → St → Option (YC) := loopN (exec spec_l04Top.E spec_l04Top.keep n (bodyOf (spec_l04Top.at3 n x).1)) (St.norm 0 (spec_l04Top.keep 3)) (spec_l04Top.at3 n x).2
set_option maxRecDepth 100000 in
theorem spec_l04Top.lem3 (n : Nat) (x : Int) : ∀ (k : Nat) (up0 : Int) (t4 : Int) (p : Int), spec_l04Top.LN3 n x k (spec_l04Top.st3 up0 t4 p) = spec_l04Top.l3 n k up0 t4 p := by
 intro k
 induction k with
 | zero => intro up0 t4 p; rfl
 | succ k ih =>
  intro up0 t4 p
  have h : spec_l04Top.LN3 n x (k + 1) (spec_l04Top.st3 up0 t4 p) = spec_l04Top.g3 (fun up0 t4 p => spec_l04Top.LN3 n x k (spec_l04Top.st3 up0 t4 p)) up0 t4 p := by kernel_rfl
  rw [h]
  simp only [ih]
  rfl
set_option maxRecDepth 100000 in
theorem spec_l04Top.body (n : Nat) (x : Int) : bodyF spec_l04Top.E spec_l04Top.keep n Tryz.f149 spec_l04Top.con x = spec_l04Top.fn n x := by
 have h : bodyF spec_l04Top.E spec_l04Top.keep n Tryz.f149 spec_l04Top.con x = spec_l04Top.top (fun up0 t4 p => spec_l04Top.LN3 n x n (spec_l04Top.st3 up0 t4 p)) x := by kernel_rfl
 rw [h]
 simp only [spec_l04Top.lem3]
 rfl
set_option maxRecDepth 100000 in
theorem spec_l04Top.good : Good Tryz.prog 149 spec_l04Top.con :=
 good_of tabok (cs := spec_l04Top.cs) ⟨spec_l04Height.good, trivial⟩ 0 false (fn := Tryz.f149) Tryz.func149 rfl (by decide) (by simp [spec_l04Top.con]) spec_l04Top.keep NN (fun _ => rfl) (fun x => spec_l04Top.body NN x)
end
end Go.Ev.Tryz

namespace Go.Ev.Tryz
open Go.Proofs Go.Pl
set_option linter.unusedVariables false
noncomputable section
def spec_TopOf.con : Con := { ps := [(.val, (.int .i64))], rs := [(.val, (.int .i64)), (.val, (.int .i64)), (.val, (.int .i64))], F := fun x => spec_TopOf.f x }
def spec_TopOf.cs : List (FuncId × Con) := [(148, spec_l04Code.con), (149, spec_l04Top.con)]
def spec_TopOf.E : Env := envOf tab spec_TopOf.cs 0 false
def spec_TopOf.keep (i : Nat) : List Nat := []
set_option maxRecDepth 100000 in
theorem spec_TopOf.body (n : Nat) (x : Int) : bodyF spec_TopOf.E spec_TopOf.keep n Tryz.f127 spec_TopOf.con x = spec_TopOf.fn n x := by
 have h : bodyF spec_TopOf.E spec_TopOf.keep n Tryz.f127 spec_TopOf.con x = spec_TopOf.top x := by kernel_rfl
 exact h
set_option maxRecDepth 100000 in
theorem spec_TopOf.good : Good Tryz.prog 127 spec_TopOf.con :=
 good_of tabok (cs := spec_TopOf.cs) ⟨spec_l04Code.good, spec_l04Top.good, trivial⟩ 0 false (fn := Tryz.f127) Tryz.func127 rfl (by decide) (by simp [spec_TopOf.con]) spec_TopOf.keep NN (fun _ => rfl) (fun x => spec_TopOf.body NN x)
end
end Go.Ev.Tryz

namespace Go.Ev.Tryz
open Go.Proofs Go.Pl
set_option linter.unusedVariables false
noncomputable section
def spec_l27Code.con : Con := { ps := [(.val, (.int .i64)), (.val, (.int .i64))], rs := [(.val, (.int .i64))], F := fun x => spec_l27Code.f x.1 x.2 }
def spec_l27Code.cs : List (FuncId × Con) := [(92, spec_l01In.con)]
def spec_l27Code.E : Env := envOf tab spec_l27Code.cs 0 false
def spec_l27Code.keep (i : Nat) : List Nat := []
set_option maxRecDepth 100000 in
theorem spec_l27Code.body (n : Nat) (x : Int × Int) : bodyF spec_l27Code.E spec_l27Code.keep n Tryz.f150 spec_l27Code.con x = spec_l27Code.fn n x.1 x.2 := by
 have h : bodyF spec_l27Code.E spec_l27Code.keep n Tryz.f150 spec_l27Code.con x = spec_l27Code.top x.1 x.2 := by kernel_rfl
 exact h
set_option maxRecDepth 100000 in
theorem spec_l27Code.good : Good Tryz.prog 150 spec_l27Code.con :=
 good_of tabok (cs := spec_l27Code.cs) ⟨spec_l01In.good, trivial⟩ 0 false (fn := Tryz.f150) Tryz.func150 rfl (by decide) (by simp [spec_l27Code.con]) spec_l27Code.keep NN (fun _ => rfl) (fun x => spec_l27Code.body NN x)
end
end Go.Ev.Tryz

namespace Go.Ev.Tryz
open Go.Proofs Go.Pl
set_option linter.unusedVariables false
noncomputable section
def spec_l27Cube.con : Con := { ps := [(.val, (.int .i64))], rs := [(.val, (.int .i64))], F := fun x => spec_l27Cube.f x }
def spec_l27Cube.cs : List (FuncId × Con) := []
def spec_l27Cube.E : Env := envOf tab spec_l27Cube.cs 0 false
def spec_l27Cube.keep (i : Nat) : List Nat := []
set_option maxRecDepth 100000 in
theorem spec_l27Cube.body (n : Nat) (x : Int) : bodyF spec_l27Cube.E spec_l27Cube.keep n Tryz.f164 spec_l27Cube.con x = spec_l27Cube.fn n x := by
 have h : bodyF spec_l27Cube.E spec_l27Cube.keep n Tryz.f164 spec_l27Cube.con x = spec_l27Cube.top x := by kernel_rfl
 exact h
set_option maxRecDepth 100000 in
theorem spec_l27Cube.good : Good Tryz.prog 164 spec_l27Cube.con :=
 good_of tabok (cs := spec_l27Cube.cs) trivial 0 false (fn := Tryz.f164) Tryz.func164 rfl (by decide) (by simp [spec_l27Cube.con]) spec_l27Cube.keep NN (fun _ => rfl) (fun x => spec_l27Cube.body NN x)
end
end Go.Ev.Tryz

namespace Go.Ev.Tryz
open Go.Proofs Go.Pl
set_option linter.unusedVariables false
noncomputable section
def spec_l27Need.st2 (p : Int) (q : Int) (s : Int) (r : Int) : St := ⟨[.dat (.int .i64) p, .dat (.int .i64) q, .gone, .gone, .gone, .dat (.int .i64) s, .dat (.int .i64) r, .gone, .gone, .gone, .gone, .gone, .gone, .gone, .gone, .gone, .gone, .gone, .gone, .gone, .gone, .gone, .gone, .gone, .gone, .gone], []⟩
def spec_l27Need.con : Con := { ps := [(.val, (.int .i64)), (.val, (.int .i64))], rs := [(.val, (.int .i64))], F := fun x => spec_l27Need.f x.1 x.2 }
def spec_l27Need.cs : List (FuncId × Con) := [(164, spec_l27Cube.con)]
def spec_l27Need.E : Env := envOf tab spec_l27Need.cs 0 false
def spec_l27Need.keep (i : Nat) : List Nat := if i = 2 then [0, 1, 5, 6] else []
def spec_l27Need.at2 (n : Nat) (x : Int × Int) : Code × (Ex → St → Option (Int)) := ctx spec_l27Need.E spec_l27Need.keep n [.snd, .snd, .fst, .blk] (codeOf Tryz.f151) (kEnd spec_l27Need.E Tryz.f151 spec_l27Need.con x)
def spec_l27Need.LN2 (n : Nat) (x : Int × Int) : Nat → St → Option (Int) := loopN (exec spec_l27Need.E spec_l27Need.keep n (bodyOf (spec_l27Need.at2 n x).1)) (St.norm 0 (spec_l27Need.keep 2)) (spec_l27Need.at2 n x).2
set_option maxRecDepth 100000 in
theorem spec_l27Need.lem2 (n : Nat) (x : Int × Int) : ∀ (k : Nat) (p : Int) (q : Int) (s : Int) (r : Int), spec_l27Need.LN2 n x k (spec_l27Need.st2 p q s r) = spec_l27Need.l2 n k p q s r := by
 intro k
 induction k with
 | zero => intro p q s r; rfl
 | succ k ih =>
  intro p q s r
  have h : spec_l27Need.LN2 n x (k + 1) (spec_l27Need.st2 p q s r) = spec_l27Need.g2 (fun p q s r => spec_l27Need.LN2 n x k (spec_l27Need.st2 p q s r)) p q s r := by kernel_rfl
  rw [h]
  simp only [ih]
  rfl
set_option maxRecDepth 100000 in
theorem spec_l27Need.body (n : Nat) (x : Int × Int) : bodyF spec_l27Need.E spec_l27Need.keep n Tryz.f151 spec_l27Need.con x = spec_l27Need.fn n x.1 x.2 := by
 have h : bodyF spec_l27Need.E spec_l27Need.keep n Tryz.f151 spec_l27Need.con x = spec_l27Need.top (fun p q s r => spec_l27Need.LN2 n x n (spec_l27Need.st2 p q s r)) x.1 x.2 := by kernel_rfl
 rw [h]
 simp only [spec_l27Need.lem2]
 rfl
set_option maxRecDepth 100000 in
theorem spec_l27Need.good : Good Tryz.prog 151 spec_l27Need.con :=
 good_of tabok (cs := spec_l27Need.cs) ⟨spec_l27Cube.good, trivial⟩ 0 false (fn := Tryz.f151) Tryz.func151 rfl (by decide) (by simp [spec_l27Need.con]) spec_l27Need.keep NN (fun _ => rfl) (fun x => spec_l27Need.body NN x)
end
end Go.Ev.Tryz

namespace Go.Ev.Tryz
open Go.Proofs Go.Pl
set_option linter.unusedVariables false
noncomputable section
def spec_SeparationFor.con : Con := { ps := [(.val, (.int .i64)), (.val, (.int .i64))], rs := [(.val, (.int .i64)), (.val, (.int .i64))], F := fun x => spec_SeparationFor.f x.1 x.2 }
def spec_SeparationFor.cs : List (FuncId × Con) := [(150, spec_l27Code.con), (151, spec_l27Need.con)]
def spec_SeparationFor.E : Env := envOf tab spec_SeparationFor.cs 0 false
def spec_SeparationFor.keep (i : Nat) : List Nat := []
set_option maxRecDepth 100000 in
theorem spec_SeparationFor.body (n : Nat) (x : Int × Int) : bodyF spec_SeparationFor.E spec_SeparationFor.keep n Tryz.f128 spec_SeparationFor.con x = spec_SeparationFor.fn n x.1 x.2 := by
 have h : bodyF spec_SeparationFor.E spec_SeparationFor.keep n Tryz.f128 spec_SeparationFor.con x = spec_SeparationFor.top x.1 x.2 := by kernel_rfl
 exact h
set_option maxRecDepth 100000 in
theorem spec_SeparationFor.good : Good Tryz.prog 128 spec_SeparationFor.con :=
 good_of tabok (cs := spec_SeparationFor.cs) ⟨spec_l27Code.good, spec_l27Need.good, trivial⟩ 0 false (fn := Tryz.f128) Tryz.func128 rfl (by decide) (by simp [spec_SeparationFor.con]) spec_SeparationFor.keep NN (fun _ => rfl) (fun x => spec_SeparationFor.body NN x)
end
end Go.Ev.Tryz

namespace Go.Ev.Tryz
open Go.Proofs Go.Pl
set_option linter.unusedVariables false
noncomputable section
def spec_l01Time.con : Con := { ps := [(.val, (.int .i64))], rs := [(.val, .str)], F := fun x => spec_l01Time.f x }
def spec_l01Time.cs : List (FuncId × Con) := [(68, (spec_l01Dec.con (fun a0 => spec_l01Dec.f a0)))]
def spec_l01Time.E : Env := envOf tab spec_l01Time.cs 0 false
def spec_l01Time.keep (i : Nat) : List Nat := []
set_option maxRecDepth 100000 in
theorem spec_l01Time.body (n : Nat) (x : Int) : bodyF spec_l01Time.E spec_l01Time.keep n Tryz.f152 spec_l01Time.con x = spec_l01Time.fn n x := by
 have h : bodyF spec_l01Time.E spec_l01Time.keep n Tryz.f152 spec_l01Time.con x = spec_l01Time.top x := by kernel_rfl
 exact h
set_option maxRecDepth 100000 in
theorem spec_l01Time.good : Good Tryz.prog 152 spec_l01Time.con :=
 good_of tabok (cs := spec_l01Time.cs) ⟨spec_l01Dec.good, trivial⟩ 0 false (fn := Tryz.f152) Tryz.func152 rfl (by decide) (by simp [spec_l01Time.con]) spec_l01Time.keep NN (fun _ => rfl) (fun x => spec_l01Time.body NN x)
end
end Go.Ev.Tryz

namespace Go.Ev.Tryz
open Go.Proofs Go.Pl
set_option linter.unusedVariables false
noncomputable section
def spec_TimeText.con : Con := { ps := [(.val, (.int .i64))], rs := [(.val, .str), (.val, (.int .i64))], F := fun x => spec_TimeText.f x }
def spec_TimeText.cs : List (FuncId × Con) := [(90, spec_l01IsTime.con), (152, spec_l01Time.con)]
def spec_TimeText.E : Env := envOf tab spec_TimeText.cs 0 false
def spec_TimeText.keep (i : Nat) : List Nat := []
set_option maxRecDepth 100000 in
theorem spec_TimeText.body (n : Nat) (x : Int) : bodyF spec_TimeText.E spec_TimeText.keep n Tryz.f129 spec_TimeText.con x = spec_TimeText.fn n x := by
 have h : bodyF spec_TimeText.E spec_TimeText.keep n Tryz.f129 spec_TimeText.con x = spec_TimeText.top x := by kernel_rfl
 exact h
set_option maxRecDepth 100000 in
theorem spec_TimeText.good : Good Tryz.prog 129 spec_TimeText.con :=
 good_of tabok (cs := spec_TimeText.cs) ⟨spec_l01IsTime.good, spec_l01Time.good, trivial⟩ 0 false (fn := Tryz.f129) Tryz.func129 rfl (by decide) (by simp [spec_TimeText.con]) spec_TimeText.keep NN (fun _ => rfl) (fun x => spec_TimeText.body NN x)
end
end Go.Ev.Tryz

namespace Go.Ev.Tryz
open Go.Proofs Go.Pl
set_option linter.unusedVariables false
noncomputable section
def spec_l34Ask.con : Con := { ps := [(.val, (.pair (.sl 70 (.pair (.int .i64) (.pair .str (.int .i64)))) (.pair (.sl 72 (.pair (.int .i64) (.int .i64))) (.sl 74 (.pair (.int .i64) (.pair .str (.int .i64))))))), (.val, (.sl 9 .str)), (.val, (.sl 2 (.int .i64)))], rs := [(.val, .str), (.val, (.int .i64))], F := fun x => spec_l34Ask.f x.1 x.2.1 x.2.2 }
def spec_l34Ask.cs : List (FuncId × Con) := [(68, (spec_l01Dec.con (fun a0 => spec_l01Dec.f a0))), (121, spec_IsClear.con), (122, spec_l34State.con), (123, spec_l34Fire.con), (124, spec_PiecesLeft.con), (125, spec_l32Open.con), (126, spec_l01Words.con), (127, spec_TopOf.con), (128, spec_SeparationFor.con), (129, spec_TimeText.con)]
def spec_l34Ask.E : Env := envOf tab spec_l34Ask.cs 0 false
def spec_l34Ask.keep (i : Nat) : List Nat := []
set_option maxRecDepth 100000 in
theorem spec_l34Ask.body (n : Nat) (x : YF × List ByteArray × List Int) : bodyF spec_l34Ask.E spec_l34Ask.keep n Tryz.f96 spec_l34Ask.con x = spec_l34Ask.fn n x.1 x.2.1 x.2.2 := by
 have h : bodyF spec_l34Ask.E spec_l34Ask.keep n Tryz.f96 spec_l34Ask.con x = spec_l34Ask.top x.1 x.2.1 x.2.2 := by kernel_rfl
 exact h
set_option maxRecDepth 100000 in
theorem spec_l34Ask.good : Good Tryz.prog 96 spec_l34Ask.con :=
 good_of tabok (cs := spec_l34Ask.cs) ⟨spec_l01Dec.good, spec_IsClear.good, spec_l34State.good, spec_l34Fire.good, spec_PiecesLeft.good, spec_l32Open.good, spec_l01Words.good, spec_TopOf.good, spec_SeparationFor.good, spec_TimeText.good, trivial⟩ 0 false (fn := Tryz.f96) Tryz.func96 rfl (by decide) (by simp [spec_l34Ask.con]) spec_l34Ask.keep NN (fun _ => rfl) (fun x => spec_l34Ask.body NN x)
end
end Go.Ev.Tryz

namespace Go.Ev.Tryz
open Go.Proofs Go.Pl
set_option linter.unusedVariables false
noncomputable section
def spec_l34Run.tr0 (d0 : YD × YE × List YA) : Option YAK :=
 (spec_l01Dec.f 6).bind fun r2 =>
 if (⟨#[101, 114, 114, 111, 114, 32]⟩ : ByteArray).size + r2.size ≤ 9223372036854775807 then
  some (d0, (⟨#[101, 114, 114, 111, 114, 32]⟩ : ByteArray) ++ r2)
 else
  none
def spec_l34Run.tr1 (d0 : YD × YE × List YA) (r3 : (YF × Int)) : Option YAK :=
 (spec_l01Dec.f r3.2).bind fun r4 =>
 if (⟨#[101, 114, 114, 111, 114, 32]⟩ : ByteArray).size + r4.size ≤ 9223372036854775807 then
  some (d0, (⟨#[101, 114, 114, 111, 114, 32]⟩ : ByteArray) ++ r4)
 else
  none
def spec_l34Run.tr2 (d0 : YD × YE × List YA) (r5 : YP) : Option YAK :=
 (spec_l01Dec.f r5.2).bind fun r6 =>
 if (⟨#[101, 114, 114, 111, 114, 32]⟩ : ByteArray).size + r6.size ≤ 9223372036854775807 then
  some (d0, (⟨#[101, 114, 114, 111, 114, 32]⟩ : ByteArray) ++ r6)
 else
  none
def spec_l34Run.tr3 (d0 : YD × YE × List YA) (r7 : (YF × Int)) : Option YAK :=
 (spec_l01Dec.f r7.2).bind fun r8 =>
 if (⟨#[101, 114, 114, 111, 114, 32]⟩ : ByteArray).size + r8.size ≤ 9223372036854775807 then
  some (d0, (⟨#[101, 114, 114, 111, 114, 32]⟩ : ByteArray) ++ r8)
 else
  none
def spec_l34Run.tr4 (d0 : YD × YE × List YA) (r9 : YP) : Option YAK :=
 (spec_l01Dec.f r9.2).bind fun r10 =>
 if (⟨#[101, 114, 114, 111, 114, 32]⟩ : ByteArray).size + r10.size ≤ 9223372036854775807 then
  some (d0, (⟨#[101, 114, 114, 111, 114, 32]⟩ : ByteArray) ++ r10)
 else
  none
def spec_l34Run.tr5 (d0 : YD × YE × List YA) (r11 : (YF × Int)) : Option YAK :=
 (spec_l01Dec.f r11.2).bind fun r12 =>
 if (⟨#[101, 114, 114, 111, 114, 32]⟩ : ByteArray).size + r12.size ≤ 9223372036854775807 then
  some (d0, (⟨#[101, 114, 114, 111, 114, 32]⟩ : ByteArray) ++ r12)
 else
  none
def spec_l34Run.tr6 (d0 : YD × YE × List YA) (r13 : YP) : Option YAK :=
 (spec_l01Dec.f r13.2).bind fun r14 =>
 if (⟨#[101, 114, 114, 111, 114, 32]⟩ : ByteArray).size + r14.size ≤ 9223372036854775807 then
  some (d0, (⟨#[101, 114, 114, 111, 114, 32]⟩ : ByteArray) ++ r14)
 else
  none
def spec_l34Run.tr7 (d0 : YD × YE × List YA) (r15 : (YF × Int)) : Option YAK :=
 (spec_l01Dec.f r15.2).bind fun r16 =>
 if (⟨#[101, 114, 114, 111, 114, 32]⟩ : ByteArray).size + r16.size ≤ 9223372036854775807 then
  some (d0, (⟨#[101, 114, 114, 111, 114, 32]⟩ : ByteArray) ++ r16)
 else
  none
def spec_l34Run.tr8 (d0 : YD × YE × List YA) (r17 : YP) : Option YAK :=
 (spec_l01Dec.f r17.2).bind fun r18 =>
 if (⟨#[101, 114, 114, 111, 114, 32]⟩ : ByteArray).size + r18.size ≤ 9223372036854775807 then
  some (d0, (⟨#[101, 114, 114, 111, 114, 32]⟩ : ByteArray) ++ r18)
 else
  none
def spec_l34Run.topraw (d0 : YD × YE × List YA) (p : ByteArray) : Option YAK :=
 (spec_l34Parse.f p).bind fun r1 =>
 if (!r1.2.2) = true then
  agree (
   spec_l34Run.tr0 d0
  ) (
   spec_l34Run.tr0 d0
  )
 else if (0 : Int) ≤ 0 ∧ (0 : Int) < r1.1.length then
  if ((r1.1.getD (0 : Int).toNat ByteArray.empty).toList == (⟨#[112, 101, 111, 112, 108, 101]⟩ : ByteArray).toList) = true then
   if ((r1.1.getD (0 : Int).toNat ByteArray.empty).toList == (⟨#[112, 101, 111, 112, 108, 101]⟩ : ByteArray).toList) = true then
    (spec_l34Set.f d0 r1.1 r1.2.1).bind fun r3 =>
    if ((r3.2 : Int) != 0) = true then
     agree (
      spec_l34Run.tr1 d0 r3
     ) (
      spec_l34Run.tr1 d0 r3
     )
    else
     some (r3.1, (⟨#[111, 107]⟩ : ByteArray))
   else
    (spec_l34Ask.f d0 r1.1 r1.2.1).bind fun r5 =>
    if ((r5.2 : Int) != 0) = true then
     agree (
      spec_l34Run.tr2 d0 r5
     ) (
      spec_l34Run.tr2 d0 r5
     )
    else
     some (d0, r5.1)
  else if ((r1.1.getD (0 : Int).toNat ByteArray.empty).toList == (⟨#[115, 105, 103, 110, 97, 108]⟩ : ByteArray).toList) = true then
   if ((r1.1.getD (0 : Int).toNat ByteArray.empty).toList == (⟨#[115, 105, 103, 110, 97, 108]⟩ : ByteArray).toList) = true then
    (spec_l34Set.f d0 r1.1 r1.2.1).bind fun r7 =>
    if ((r7.2 : Int) != 0) = true then
     agree (
      spec_l34Run.tr3 d0 r7
     ) (
      spec_l34Run.tr3 d0 r7
     )
    else
     some (r7.1, (⟨#[111, 107]⟩ : ByteArray))
   else
    (spec_l34Ask.f d0 r1.1 r1.2.1).bind fun r9 =>
    if ((r9.2 : Int) != 0) = true then
     agree (
      spec_l34Run.tr4 d0 r9
     ) (
      spec_l34Run.tr4 d0 r9
     )
    else
     some (d0, r9.1)
  else if ((r1.1.getD (0 : Int).toNat ByteArray.empty).toList == (⟨#[98, 111, 111, 107]⟩ : ByteArray).toList) = true then
   if ((r1.1.getD (0 : Int).toNat ByteArray.empty).toList == (⟨#[98, 111, 111, 107]⟩ : ByteArray).toList) = true then
    (spec_l34Set.f d0 r1.1 r1.2.1).bind fun r11 =>
    if ((r11.2 : Int) != 0) = true then
     agree (
      spec_l34Run.tr5 d0 r11
     ) (
      spec_l34Run.tr5 d0 r11
     )
    else
     some (r11.1, (⟨#[111, 107]⟩ : ByteArray))
   else
    (spec_l34Ask.f d0 r1.1 r1.2.1).bind fun r13 =>
    if ((r13.2 : Int) != 0) = true then
     agree (
      spec_l34Run.tr6 d0 r13
     ) (
      spec_l34Run.tr6 d0 r13
     )
    else
     some (d0, r13.1)
  else if ((r1.1.getD (0 : Int).toNat ByteArray.empty).toList == (⟨#[115, 101, 116, 116, 108, 101]⟩ : ByteArray).toList) = true then
   (spec_l34Set.f d0 r1.1 r1.2.1).bind fun r15 =>
   if ((r15.2 : Int) != 0) = true then
    agree (
     spec_l34Run.tr7 d0 r15
    ) (
     spec_l34Run.tr7 d0 r15
    )
   else
    some (r15.1, (⟨#[111, 107]⟩ : ByteArray))
  else
   (spec_l34Ask.f d0 r1.1 r1.2.1).bind fun r17 =>
   if ((r17.2 : Int) != 0) = true then
    agree (
     spec_l34Run.tr8 d0 r17
    ) (
     spec_l34Run.tr8 d0 r17
    )
   else
    some (d0, r17.1)
 else
  none
theorem spec_l34Run.topraw_eq (d0 : YD × YE × List YA) (p : ByteArray) : spec_l34Run.topraw d0 p = spec_l34Run.top d0 p := by
 unfold spec_l34Run.topraw spec_l34Run.top
 simp only [agree_self, spec_l34Run.tr0, spec_l34Run.tr1, spec_l34Run.tr2, spec_l34Run.tr3, spec_l34Run.tr4, spec_l34Run.tr5, spec_l34Run.tr6, spec_l34Run.tr7, spec_l34Run.tr8]
def spec_l34Run.con : Con := { ps := [(.val, (.pair (.sl 70 (.pair (.int .i64) (.pair .str (.int .i64)))) (.pair (.sl 72 (.pair (.int .i64) (.int .i64))) (.sl 74 (.pair (.int .i64) (.pair .str (.int .i64))))))), (.val, .str)], rs := [(.val, (.pair (.sl 70 (.pair (.int .i64) (.pair .str (.int .i64)))) (.pair (.sl 72 (.pair (.int .i64) (.int .i64))) (.sl 74 (.pair (.int .i64) (.pair .str (.int .i64))))))), (.val, .str)], F := fun x => spec_l34Run.f x.1 x.2 }
def spec_l34Run.cs : List (FuncId × Con) := [(41, spec_l34Parse.con), (68, (spec_l01Dec.con (fun a0 => spec_l01Dec.f a0))), (95, spec_l34Set.con), (96, spec_l34Ask.con)]
def spec_l34Run.E : Env := envOf tab spec_l34Run.cs 0 false
def spec_l34Run.keep (i : Nat) : List Nat := []
set_option maxRecDepth 100000 in
theorem spec_l34Run.body (n : Nat) (x : YF × ByteArray) : bodyF spec_l34Run.E spec_l34Run.keep n Tryz.f61 spec_l34Run.con x = spec_l34Run.fn n x.1 x.2 := by
 have h : bodyF spec_l34Run.E spec_l34Run.keep n Tryz.f61 spec_l34Run.con x = spec_l34Run.topraw x.1 x.2 := by kernel_rfl
 rw [spec_l34Run.topraw_eq] at h
 exact h
set_option maxRecDepth 100000 in
theorem spec_l34Run.good : Good Tryz.prog 61 spec_l34Run.con :=
 good_of tabok (cs := spec_l34Run.cs) ⟨spec_l34Parse.good, spec_l01Dec.good, spec_l34Set.good, spec_l34Ask.good, trivial⟩ 0 false (fn := Tryz.f61) Tryz.func61 rfl (by decide) (by simp [spec_l34Run.con]) spec_l34Run.keep NN (fun _ => rfl) (fun x => spec_l34Run.body NN x)
end
end Go.Ev.Tryz

namespace Go.Ev.Tryz
open Go.Proofs Go.Pl
set_option linter.unusedVariables false
noncomputable section
def spec_l34All.st4 (p : List ByteArray) (i6 : Int) (d4 : YD × YE × List YA) (q : List ByteArray) (w3 : List YA) (w4 : List YC) (w5 : List YA) : St := ⟨[.dat (.sl 9 .str) p, .gone, .ptr 0 [], .gone, .ptr 1 [], .ref 2, .dat (.int .i64) i6, .gone, .gone, .gone, .gone, .gone, .gone, .gone, .gone, .gone, .gone, .gone, .gone, .gone, .gone, .gone, .gone, .gone, .gone, .gone, .gone, .gone, .gone, .gone, .gone, .gone, .gone], [.box 35 (.pair (.sl 70 (.pair (.int .i64) (.pair .str (.int .i64)))) (.pair (.sl 72 (.pair (.int .i64) (.int .i64))) (.sl 74 (.pair (.int .i64) (.pair .str (.int .i64)))))) (.pr (.ref 3) (.pr (.ref 4) (.ref 5))), .box 35 (.pair (.sl 70 (.pair (.int .i64) (.pair .str (.int .i64)))) (.pair (.sl 72 (.pair (.int .i64) (.int .i64))) (.sl 74 (.pair (.int .i64) (.pair .str (.int .i64)))))) (.dat (.pair (.sl 70 (.pair (.int .i64) (.pair .str (.int .i64)))) (.pair (.sl 72 (.pair (.int .i64) (.int .i64))) (.sl 74 (.pair (.int .i64) (.pair .str (.int .i64)))))) d4), .row 9 .str q none, .row 70 (.pair (.int .i64) (.pair .str (.int .i64))) w3 none, .row 72 (.pair (.int .i64) (.int .i64)) w4 none, .row 74 (.pair (.int .i64) (.pair .str (.int .i64))) w5 none]⟩
def spec_l34All.tr0 (L4 : YU) (p : List ByteArray) (i6 : Int) (d4 : YD × YE × List YA) (q : List ByteArray) (w3 : List YA) (w4 : List YC) (w5 : List YA) : Option YT :=
 (spec_l34Run.f d4 (p.getD (i6 : Int).toNat ByteArray.empty)).bind fun r2 =>
 if q.length + ([r2.2]).length < room 16 then
  L4 p (IntKind.i64.wrap (i6 + 1)) r2.1 (q ++ ([r2.2])) w3 w4 w5
 else
  none
def spec_l34All.tr1 (L4 : YU) (p : List ByteArray) (i6 : Int) (d4 : YD × YE × List YA) (q : List ByteArray) (w3 : List YA) (w4 : List YC) (w5 : List YA) : Option YT :=
 agree (
  spec_l34All.tr0 L4 p i6 d4 q w3 w4 w5
 ) (
  spec_l34All.tr0 L4 p i6 d4 q w3 w4 w5
 )
def spec_l34All.tr2 (L4 : YU) (p : List ByteArray) (i6 : Int) (d4 : YD × YE × List YA) (q : List ByteArray) (w3 : List YA) (w4 : List YC) (w5 : List YA) : Option YT :=
 agree (
  spec_l34All.tr1 L4 p i6 d4 q w3 w4 w5
 ) (
  spec_l34All.tr0 L4 p i6 d4 q w3 w4 w5
 )
def spec_l34All.g4raw (L4 : YU) (p : List ByteArray) (i6 : Int) (d4 : YD × YE × List YA) (q : List ByteArray) (w3 : List YA) (w4 : List YC) (w5 : List YA) : Option YT :=
 if (decide ((i6 : Int) < (p.length : Int))) = true then
  if (0 : Int) ≤ i6 ∧ (i6 : Int) < p.length then
   agree (
    spec_l34All.tr2 L4 p i6 d4 q w3 w4 w5
   ) (
    agree (
     spec_l34All.tr2 L4 p i6 d4 q w3 w4 w5
    ) (
     spec_l34All.tr1 L4 p i6 d4 q w3 w4 w5
    )
   )
  else
   none
 else
  some (d4, q)
theorem spec_l34All.g4raw_eq (L4 : YU) (p : List ByteArray) (i6 : Int) (d4 : YD × YE × List YA) (q : List ByteArray) (w3 : List YA) (w4 : List YC) (w5 : List YA) : spec_l34All.g4raw L4 p i6 d4 q w3 w4 w5 = spec_l34All.g4 L4 p i6 d4 q w3 w4 w5 := by
 unfold spec_l34All.g4raw spec_l34All.g4
 simp only [agree_self, spec_l34All.tr0, spec_l34All.tr1, spec_l34All.tr2]
def spec_l34All.con : Con := { ps := [(.val, (.sl 9 .str))], rs := [(.val, (.pair (.sl 70 (.pair (.int .i64) (.pair .str (.int .i64)))) (.pair (.sl 72 (.pair (.int .i64) (.int .i64))) (.sl 74 (.pair (.int .i64) (.pair .str (.int .i64))))))), (.val, (.sl 9 .str))], F := fun x => spec_l34All.f x }
def spec_l34All.cs : List (FuncId × Con) := [(60, spec_l34First.con), (61, spec_l34Run.con)]
def spec_l34All.E : Env := envOf tab spec_l34All.cs 0 false
def spec_l34All.keep (i : Nat) : List Nat := if i = 4 then [0, 2, 4, 5, 6, 200004, 100004] else []
def spec_l34All.at4 (n : Nat) (x : List ByteArray) : Code × (Ex → St → Option (YT)) := ctx spec_l34All.E spec_l34All.keep n [.snd, .snd, .snd, .fst, .snd, .blk] (codeOf Tryz.f31) (kEnd spec_l34All.E Tryz.f31 spec_l34All.con x)
def spec_l34All.LN4 (n : Nat) (x : List ByteArray) : Nat → St → Option (YT) := loopN (exec spec_l34All.E spec_l34All.keep n (bodyOf (spec_l34All.at4 n x).1)) (St.norm 0 (spec_l34All.keep 4)) (spec_l34All.at4 n x).2
set_option maxRecDepth 100000 in
theorem spec_l34All.lem4 (n : Nat) (x : List ByteArray) : ∀ (k : Nat) (p : List ByteArray) (i6 : Int) (d4 : YD × YE × List YA) (q : List ByteArray) (w3 : List YA) (w4 : List YC) (w5 : List YA), spec_l34All.LN4 n x k (spec_l34All.st4 p i6 d4 q w3 w4 w5) = spec_l34All.l4 n k p i6 d4 q w3 w4 w5 := by
 intro k
 induction k with
 | zero => intro p i6 d4 q w3 w4 w5; rfl
 | succ k ih =>
  intro p i6 d4 q w3 w4 w5
  have h : spec_l34All.LN4 n x (k + 1) (spec_l34All.st4 p i6 d4 q w3 w4 w5) = spec_l34All.g4raw (fun p i6 d4 q w3 w4 w5 => spec_l34All.LN4 n x k (spec_l34All.st4 p i6 d4 q w3 w4 w5)) p i6 d4 q w3 w4 w5 := by kernel_rfl
  rw [spec_l34All.g4raw_eq] at h
  rw [h]
  simp only [ih]
  rfl
set_option maxRecDepth 100000 in
theorem spec_l34All.body (n : Nat) (x : List ByteArray) : bodyF spec_l34All.E spec_l34All.keep n Tryz.f31 spec_l34All.con x = spec_l34All.fn n x := by
 have h : bodyF spec_l34All.E spec_l34All.keep n Tryz.f31 spec_l34All.con x = spec_l34All.top (fun p i6 d4 q w3 w4 w5 => spec_l34All.LN4 n x n (spec_l34All.st4 p i6 d4 q w3 w4 w5)) x := by kernel_rfl
 rw [h]
 simp only [spec_l34All.lem4]
 rfl
set_option maxRecDepth 100000 in
theorem spec_l34All.good : Good Tryz.prog 31 spec_l34All.con :=
 good_of tabok (cs := spec_l34All.cs) ⟨spec_l34First.good, spec_l34Run.good, trivial⟩ 0 false (fn := Tryz.f31) Tryz.func31 rfl (by decide) (by simp [spec_l34All.con]) spec_l34All.keep NN (fun _ => rfl) (fun x => spec_l34All.body NN x)
end
end Go.Ev.Tryz

namespace Go.Ev.Tryz
open Go.Proofs Go.Pl
set_option linter.unusedVariables false
noncomputable section
def spec_RunConsole.con : Con := { ps := [(.val, .str)], rs := [(.val, (.sl 9 .str)), (.val, (.int .i64))], F := fun x => spec_RunConsole.f x }
def spec_RunConsole.cs : List (FuncId × Con) := [(30, spec_l34Fits.con), (31, spec_l34All.con), (32, spec_l34Lines.con)]
def spec_RunConsole.E : Env := envOf tab spec_RunConsole.cs 0 false
def spec_RunConsole.keep (i : Nat) : List Nat := []
set_option maxRecDepth 100000 in
theorem spec_RunConsole.body (n : Nat) (x : ByteArray) : bodyF spec_RunConsole.E spec_RunConsole.keep n Tryz.f7 spec_RunConsole.con x = spec_RunConsole.fn n x := by
 have h : bodyF spec_RunConsole.E spec_RunConsole.keep n Tryz.f7 spec_RunConsole.con x = spec_RunConsole.top x := by kernel_rfl
 exact h
set_option maxRecDepth 100000 in
theorem spec_RunConsole.good : Good Tryz.prog 7 spec_RunConsole.con :=
 good_of tabok (cs := spec_RunConsole.cs) ⟨spec_l34Fits.good, spec_l34All.good, spec_l34Lines.good, trivial⟩ 0 false (fn := Tryz.f7) Tryz.func7 rfl (by decide) (by simp [spec_RunConsole.con]) spec_RunConsole.keep NN (fun _ => rfl) (fun x => spec_RunConsole.body NN x)
end
end Go.Ev.Tryz

namespace Go.Ev.Tryz
open Go.Proofs Go.Pl
set_option linter.unusedVariables false
noncomputable section
def impl_splitAt.st4 (s0 : ByteArray) (b1 : Int) (p : Int) (i7 : Int) (q : List ByteArray) : St := ⟨[.dat .str s0, .dat (.int .u8) b1, .gone, .gone, .gone, .ref 0, .dat (.int .i64) p, .dat (.int .i64) i7, .gone, .gone, .gone, .gone, .gone, .gone, .gone, .gone, .gone, .gone, .gone, .gone, .gone, .gone, .gone, .gone, .gone, .gone, .gone, .gone, .gone, .gone, .gone, .gone, .gone, .gone], [.row 9 .str q none]⟩
def impl_splitAt.con : Con := { ps := [(.val, .str), (.val, (.int .u8))], rs := [(.own, (.sl 9 .str))], F := fun x => impl_splitAt.f x.1 x.2 }
def impl_splitAt.cs : List (FuncId × Con) := []
def impl_splitAt.E : Env := envOf tab impl_splitAt.cs 0 false
def impl_splitAt.keep (i : Nat) : List Nat := if i = 4 then [0, 1, 5, 6, 7] else []
def impl_splitAt.at4 (n : Nat) (x : ByteArray × Int) : Code × (Ex → St → Option (YG)) := ctx impl_splitAt.E impl_splitAt.keep n [.snd, .snd, .snd, .fst, .snd, .blk] (codeOf Tryz.f63) (kEnd impl_splitAt.E Tryz.f63 impl_splitAt.con x)
def impl_splitAt.LN4 (n : Nat) (x : ByteArray × Int) : Nat → St → Option (YG) := loopN (exec impl_splitAt.E impl_splitAt.keep n (bodyOf (impl_splitAt.at4 n x).1)) (St.norm 0 (impl_splitAt.keep 4)) (impl_splitAt.at4 n x).2
set_option maxRecDepth 100000 in
theorem impl_splitAt.lem4 (n : Nat) (x : ByteArray × Int) : ∀ (k : Nat) (s0 : ByteArray) (b1 : Int) (p : Int) (i7 : Int) (q : List ByteArray), impl_splitAt.LN4 n x k (impl_splitAt.st4 s0 b1 p i7 q) = impl_splitAt.l4 n k s0 b1 p i7 q := by
 intro k
 induction k with
 | zero => intro s0 b1 p i7 q; rfl
 | succ k ih =>
  intro s0 b1 p i7 q
  have h : impl_splitAt.LN4 n x (k + 1) (impl_splitAt.st4 s0 b1 p i7 q) = impl_splitAt.g4 (fun s0 b1 p i7 q => impl_splitAt.LN4 n x k (impl_splitAt.st4 s0 b1 p i7 q)) s0 b1 p i7 q := by kernel_rfl
  rw [h]
  simp only [ih]
  rfl
set_option maxRecDepth 100000 in
theorem impl_splitAt.body (n : Nat) (x : ByteArray × Int) : bodyF impl_splitAt.E impl_splitAt.keep n Tryz.f63 impl_splitAt.con x = impl_splitAt.fn n x.1 x.2 := by
 have h : bodyF impl_splitAt.E impl_splitAt.keep n Tryz.f63 impl_splitAt.con x = impl_splitAt.top (fun s0 b1 p i7 q => impl_splitAt.LN4 n x n (impl_splitAt.st4 s0 b1 p i7 q)) x.1 x.2 := by kernel_rfl
 rw [h]
 simp only [impl_splitAt.lem4]
 rfl
set_option maxRecDepth 100000 in
theorem impl_splitAt.good : Good Tryz.prog 63 impl_splitAt.con :=
 good_of tabok (cs := impl_splitAt.cs) trivial 0 false (fn := Tryz.f63) Tryz.func63 rfl (by decide) (by simp [impl_splitAt.con]) impl_splitAt.keep NN (fun _ => rfl) (fun x => impl_splitAt.body NN x)
end
end Go.Ev.Tryz

namespace Go.Ev.Tryz
open Go.Proofs Go.Pl
set_option linter.unusedVariables false
noncomputable section
def impl_commandShape.con : Con := { ps := [(.val, .str)], rs := [(.val, .str), (.val, .bool)], F := fun x => impl_commandShape.f x }
def impl_commandShape.cs : List (FuncId × Con) := []
def impl_commandShape.E : Env := envOf tab impl_commandShape.cs 0 false
def impl_commandShape.keep (i : Nat) : List Nat := []
set_option maxRecDepth 100000 in
theorem impl_commandShape.body (n : Nat) (x : ByteArray) : bodyF impl_commandShape.E impl_commandShape.keep n Tryz.f72 impl_commandShape.con x = impl_commandShape.fn n x := by
 have h : bodyF impl_commandShape.E impl_commandShape.keep n Tryz.f72 impl_commandShape.con x = impl_commandShape.top x := by kernel_rfl
 exact h
set_option maxRecDepth 100000 in
theorem impl_commandShape.good : Good Tryz.prog 72 impl_commandShape.con :=
 good_of tabok (cs := impl_commandShape.cs) trivial 0 false (fn := Tryz.f72) Tryz.func72 rfl (by decide) (by simp [impl_commandShape.con]) impl_commandShape.keep NN (fun _ => rfl) (fun x => impl_commandShape.body NN x)
end
end Go.Ev.Tryz

namespace Go.Ev.Tryz
open Go.Proofs Go.Pl
set_option linter.unusedVariables false
noncomputable section
def impl_readDecimal.st8 (s0 : ByteArray) (p : ByteArray) (n5 : Int) (i6 : Int) : St := ⟨[.dat .str s0, .gone, .gone, .gone, .dat .str p, .dat (.int .i64) n5, .dat (.int .i64) i6, .gone, .gone, .gone, .gone, .gone, .gone, .gone, .gone, .gone, .gone, .gone, .gone, .gone, .gone, .gone, .gone, .gone, .gone, .gone, .gone, .gone, .gone, .gone, .gone, .gone, .gone, .gone, .gone, .gone, .gone, .gone, .gone, .gone, .gone, .gone, .gone, .gone, .gone, .gone, .gone, .gone, .gone, .gone, .gone, .gone, .gone, .gone, .gone, .gone, .gone, .gone, .gone, .gone, .gone, .gone, .gone, .gone, .gone, .gone, .gone, .gone, .gone, .gone, .gone, .gone, .gone], []⟩
def impl_readDecimal.con : Con := { ps := [(.val, .str)], rs := [(.val, (.int .i64)), (.val, .bool)], F := fun x => impl_readDecimal.f x }
def impl_readDecimal.cs : List (FuncId × Con) := []
def impl_readDecimal.E : Env := envOf tab impl_readDecimal.cs 0 false
def impl_readDecimal.keep (i : Nat) : List Nat := if i = 8 then [0, 4, 5, 6] else []
def impl_readDecimal.at8 (n : Nat) (x : ByteArray) : Code × (Ex → St → Option (YAG)) := ctx impl_readDecimal.E impl_readDecimal.keep n [.snd, .snd, .snd, .snd, .snd, .fst, .snd, .blk] (codeOf Tryz.f73) (kEnd impl_readDecimal.E Tryz.f73 impl_readDecimal.con x)
def impl_readDecimal.LN8 (n : Nat) (x : ByteArray) : Nat → St → Option (YAG) := loopN (exec impl_readDecimal.E impl_readDecimal.keep n (bodyOf (impl_readDecimal.at8 n x).1)) (St.norm 0 (impl_readDecimal.keep 8)) (impl_readDecimal.at8 n x).2
set_option maxRecDepth 100000 in
theorem impl_readDecimal.lem8 (n : Nat) (x : ByteArray) : ∀ (k : Nat) (s0 : ByteArray) (p : ByteArray) (n5 : Int) (i6 : Int), impl_readDecimal.LN8 n x k (impl_readDecimal.st8 s0 p n5 i6) = impl_readDecimal.l8 n k s0 p n5 i6 := by
 intro k
 induction k with
 | zero => intro s0 p n5 i6; rfl
 | succ k ih =>
  intro s0 p n5 i6
  have h : impl_readDecimal.LN8 n x (k + 1) (impl_readDecimal.st8 s0 p n5 i6) = impl_readDecimal.g8 (fun s0 p n5 i6 => impl_readDecimal.LN8 n x k (impl_readDecimal.st8 s0 p n5 i6)) s0 p n5 i6 := by kernel_rfl
  rw [h]
  simp only [ih]
  rfl
set_option maxRecDepth 100000 in
theorem impl_readDecimal.body (n : Nat) (x : ByteArray) : bodyF impl_readDecimal.E impl_readDecimal.keep n Tryz.f73 impl_readDecimal.con x = impl_readDecimal.fn n x := by
 have h : bodyF impl_readDecimal.E impl_readDecimal.keep n Tryz.f73 impl_readDecimal.con x = impl_readDecimal.top (fun s0 p n5 i6 => impl_readDecimal.LN8 n x n (impl_readDecimal.st8 s0 p n5 i6)) x := by kernel_rfl
 rw [h]
 simp only [impl_readDecimal.lem8]
 rfl
set_option maxRecDepth 100000 in
theorem impl_readDecimal.good : Good Tryz.prog 73 impl_readDecimal.con :=
 good_of tabok (cs := impl_readDecimal.cs) trivial 0 false (fn := Tryz.f73) Tryz.func73 rfl (by decide) (by simp [impl_readDecimal.con]) impl_readDecimal.keep NN (fun _ => rfl) (fun x => impl_readDecimal.body NN x)
end
end Go.Ev.Tryz

namespace Go.Ev.Tryz
open Go.Proofs Go.Pl
set_option linter.unusedVariables false
noncomputable section
def impl_commandOf.st7 (p : ByteArray) (i8 : Int) (v2a : ByteArray) (q : List ByteArray) (c7a : ByteArray) (w3 : List ByteArray) (w4 : List Int) (w5 : List ByteArray) (w6 : List Int) : St := ⟨[.gone, .gone, .ptr 0 [], .gone, .ref 1, .dat .str p, .gone, .ptr 2 [], .dat (.int .i64) i8, .gone, .gone, .gone, .gone, .gone, .gone, .gone, .gone, .gone, .gone, .gone, .gone, .gone, .gone, .gone, .gone, .gone, .gone, .gone, .gone, .gone, .gone, .gone, .gone, .gone, .gone, .gone, .gone, .gone, .gone, .gone, .gone, .gone, .gone, .gone, .gone, .gone, .gone, .gone, .gone, .gone, .gone, .gone, .gone, .gone, .gone, .gone, .gone, .gone, .gone, .gone, .gone, .gone, .gone, .gone, .gone, .gone, .gone, .gone, .gone, .gone, .gone, .gone, .gone, .gone, .gone, .gone, .gone, .gone, .gone, .gone, .gone, .gone, .gone, .gone, .gone, .gone, .gone, .gone, .gone, .gone, .gone, .gone, .gone], [.box 58 (.pair .str (.pair (.sl 9 .str) (.sl 2 (.int .i64)))) (.pr (.dat .str v2a) (.pr (.ref 3) (.ref 4))), .row 9 .str q none, .box 58 (.pair .str (.pair (.sl 9 .str) (.sl 2 (.int .i64)))) (.pr (.dat .str c7a) (.pr (.ref 5) (.ref 6))), .row 9 .str w3 none, .row 2 (.int .i64) w4 none, .row 9 .str w5 none, .row 2 (.int .i64) w6 none]⟩
def impl_commandOf.con : Con := { ps := [(.val, .str)], rs := [(.own, (.pair .str (.pair (.sl 9 .str) (.sl 2 (.int .i64))))), (.own, .bool)], F := fun x => impl_commandOf.f x }
def impl_commandOf.cs : List (FuncId × Con) := [(63, impl_splitAt.con), (72, impl_commandShape.con), (73, impl_readDecimal.con)]
def impl_commandOf.E : Env := envOf tab impl_commandOf.cs 0 false
def impl_commandOf.keep (i : Nat) : List Nat := if i = 7 then [2, 4, 5, 7, 8] else []
def impl_commandOf.at7 (n : Nat) (x : ByteArray) : Code × (Ex → St → Option ((YO × Bool))) := ctx impl_commandOf.E impl_commandOf.keep n [.snd, .snd, .snd, .snd, .snd, .fst, .snd, .blk] (codeOf Tryz.f40) (kEnd impl_commandOf.E Tryz.f40 impl_commandOf.con x)
def impl_commandOf.LN7 (n : Nat) (x : ByteArray) : Nat → St → Option ((YO × Bool)) := loopN (exec impl_commandOf.E impl_commandOf.keep n (bodyOf (impl_commandOf.at7 n x).1)) (St.norm 0 (impl_commandOf.keep 7)) (impl_commandOf.at7 n x).2
set_option maxRecDepth 100000 in
theorem impl_commandOf.lem7 (n : Nat) (x : ByteArray) : ∀ (k : Nat) (p : ByteArray) (i8 : Int) (v2a : ByteArray) (q : List ByteArray) (c7a : ByteArray) (w3 : List ByteArray) (w4 : List Int) (w5 : List ByteArray) (w6 : List Int), impl_commandOf.LN7 n x k (impl_commandOf.st7 p i8 v2a q c7a w3 w4 w5 w6) = impl_commandOf.l7 n k p i8 v2a q c7a w3 w4 w5 w6 := by
 intro k
 induction k with
 | zero => intro p i8 v2a q c7a w3 w4 w5 w6; rfl
 | succ k ih =>
  intro p i8 v2a q c7a w3 w4 w5 w6
  have h : impl_commandOf.LN7 n x (k + 1) (impl_commandOf.st7 p i8 v2a q c7a w3 w4 w5 w6) = impl_commandOf.g7 (fun p i8 v2a q c7a w3 w4 w5 w6 => impl_commandOf.LN7 n x k (impl_commandOf.st7 p i8 v2a q c7a w3 w4 w5 w6)) p i8 v2a q c7a w3 w4 w5 w6 := by kernel_rfl
  rw [h]
  simp only [ih]
  rfl
set_option maxRecDepth 100000 in
theorem impl_commandOf.body (n : Nat) (x : ByteArray) : bodyF impl_commandOf.E impl_commandOf.keep n Tryz.f40 impl_commandOf.con x = impl_commandOf.fn n x := by
 have h : bodyF impl_commandOf.E impl_commandOf.keep n Tryz.f40 impl_commandOf.con x = impl_commandOf.top (fun p i8 v2a q c7a w3 w4 w5 w6 => impl_commandOf.LN7 n x n (impl_commandOf.st7 p i8 v2a q c7a w3 w4 w5 w6)) x := by kernel_rfl
 rw [h]
 simp only [impl_commandOf.lem7]
 rfl
set_option maxRecDepth 100000 in
theorem impl_commandOf.good : Good Tryz.prog 40 impl_commandOf.con :=
 good_of tabok (cs := impl_commandOf.cs) ⟨impl_splitAt.good, impl_commandShape.good, impl_readDecimal.good, trivial⟩ 0 false (fn := Tryz.f40) Tryz.func40 rfl (by decide) (by simp [impl_commandOf.con]) impl_commandOf.keep NN (fun _ => rfl) (fun x => impl_commandOf.body NN x)
end
end Go.Ev.Tryz

namespace Go.Ev.Tryz
open Go.Proofs Go.Pl
set_option linter.unusedVariables false
noncomputable section
def impl_decimal.st4 (n0 : Int) (p : ByteArray) : St := ⟨[.dat (.int .i64) n0, .gone, .gone, .dat .str p, .gone, .gone, .gone, .gone, .gone, .gone, .gone, .gone, .gone, .gone, .gone, .gone, .gone, .gone, .gone, .gone, .gone, .gone, .gone], []⟩
def impl_decimal.con (S : Int → Option ByteArray) : Con := { ps := [(.val, (.int .i64))], rs := [(.val, .str)], F := fun x => S x }
def impl_decimal.cs (S : Int → Option ByteArray) : List (FuncId × Con) := [(64, (impl_decimal.con S))]
def impl_decimal.E (S : Int → Option ByteArray) : Env := envOf tab (impl_decimal.cs S) 0 false
def impl_decimal.keep (i : Nat) : List Nat := if i = 4 then [0, 3] else []
def impl_decimal.at4 (S : Int → Option ByteArray) (n : Nat) (x : Int) : Code × (Ex → St → Option (ByteArray)) := ctx (impl_decimal.E S) impl_decimal.keep n [.snd, .snd, .snd, .blk] (codeOf Tryz.f64) (kEnd (impl_decimal.E S) Tryz.f64 (impl_decimal.con S) x)
def impl_decimal.LN4 (S : Int → Option ByteArray) (n : Nat) (x : Int) : Nat → St → Option (ByteArray) := loopN (exec (impl_decimal.E S) impl_decimal.keep n (bodyOf ((impl_decimal.at4 S) n x).1)) (St.norm 0 (impl_decimal.keep 4)) ((impl_decimal.at4 S) n x).2
set_option maxRecDepth 100000 in
theorem impl_decimal.lem4 (S : Int → Option ByteArray) (n : Nat) (x : Int) : ∀ (k : Nat) (n0 : Int) (p : ByteArray), (impl_decimal.LN4 S) n x k (impl_decimal.st4 n0 p) = (impl_decimal.l4 S) n k n0 p := by
 intro k
 induction k with
 | zero => intro n0 p; rfl
 | succ k ih =>
  intro n0 p
  have h : (impl_decimal.LN4 S) n x (k + 1) (impl_decimal.st4 n0 p) = (impl_decimal.g4 S) (fun n0 p => (impl_decimal.LN4 S) n x k (impl_decimal.st4 n0 p)) n0 p := by kernel_rfl
  rw [h]
  simp only [ih]
  rfl
set_option maxRecDepth 100000 in
theorem impl_decimal.body (S : Int → Option ByteArray) (n : Nat) (x : Int) : bodyF (impl_decimal.E S) impl_decimal.keep n Tryz.f64 (impl_decimal.con S) x = (impl_decimal.fn S) n x := by
 have h : bodyF (impl_decimal.E S) impl_decimal.keep n Tryz.f64 (impl_decimal.con S) x = (impl_decimal.top S) (fun n0 p => (impl_decimal.LN4 S) n x n (impl_decimal.st4 n0 p)) x := by kernel_rfl
 rw [h]
 simp only [(impl_decimal.lem4 S)]
 rfl
set_option maxRecDepth 100000 in
theorem impl_decimal.goodk : ∀ k : Nat, Good Tryz.prog 64 (impl_decimal.con (impl_decimal.rc k)) := by
 intro k
 induction k with
 | zero => exact good_none (fn := Tryz.f64) Tryz.func64 rfl (by decide) (by simp [impl_decimal.con]) (fun _ => rfl)
 | succ k ih => exact good_of tabok (cs := impl_decimal.cs (impl_decimal.rc k)) ⟨ih, trivial⟩ 0 false (fn := Tryz.f64) Tryz.func64 rfl (by decide) (by simp [impl_decimal.con]) impl_decimal.keep NN (fun _ => rfl) (fun x => impl_decimal.body (impl_decimal.rc k) NN x)
theorem impl_decimal.good : Good Tryz.prog 64 (impl_decimal.con (fun n0 => impl_decimal.f n0)) := impl_decimal.goodk NN
end
end Go.Ev.Tryz

namespace Go.Ev.Tryz
open Go.Proofs Go.Pl
set_option linter.unusedVariables false
noncomputable section
def impl_within.con : Con := { ps := [(.val, (.int .i64)), (.val, (.int .i64)), (.val, (.int .i64))], rs := [(.val, .bool)], F := fun x => impl_within.f x.1 x.2.1 x.2.2 }
def impl_within.cs : List (FuncId × Con) := []
def impl_within.E : Env := envOf tab impl_within.cs 0 false
def impl_within.keep (i : Nat) : List Nat := []
set_option maxRecDepth 100000 in
theorem impl_within.body (n : Nat) (x : Int × Int × Int) : bodyF impl_within.E impl_within.keep n Tryz.f86 impl_within.con x = impl_within.fn n x.1 x.2.1 x.2.2 := by
 have h : bodyF impl_within.E impl_within.keep n Tryz.f86 impl_within.con x = impl_within.top x.1 x.2.1 x.2.2 := by kernel_rfl
 exact h
set_option maxRecDepth 100000 in
theorem impl_within.good : Good Tryz.prog 86 impl_within.con :=
 good_of tabok (cs := impl_within.cs) trivial 0 false (fn := Tryz.f86) Tryz.func86 rfl (by decide) (by simp [impl_within.con]) impl_within.keep NN (fun _ => rfl) (fun x => impl_within.body NN x)
end
end Go.Ev.Tryz

namespace Go.Ev.Tryz
open Go.Proofs Go.Pl
set_option linter.unusedVariables false
noncomputable section
def impl_isTime.con : Con := { ps := [(.val, (.int .i64))], rs := [(.val, .bool)], F := fun x => impl_isTime.f x }
def impl_isTime.cs : List (FuncId × Con) := [(86, impl_within.con)]
def impl_isTime.E : Env := envOf tab impl_isTime.cs 0 false
def impl_isTime.keep (i : Nat) : List Nat := []
set_option maxRecDepth 100000 in
theorem impl_isTime.body (n : Nat) (x : Int) : bodyF impl_isTime.E impl_isTime.keep n Tryz.f84 impl_isTime.con x = impl_isTime.fn n x := by
 have h : bodyF impl_isTime.E impl_isTime.keep n Tryz.f84 impl_isTime.con x = impl_isTime.top x := by kernel_rfl
 exact h
set_option maxRecDepth 100000 in
theorem impl_isTime.good : Good Tryz.prog 84 impl_isTime.con :=
 good_of tabok (cs := impl_isTime.cs) ⟨impl_within.good, trivial⟩ 0 false (fn := Tryz.f84) Tryz.func84 rfl (by decide) (by simp [impl_isTime.con]) impl_isTime.keep NN (fun _ => rfl) (fun x => impl_isTime.body NN x)
end
end Go.Ev.Tryz

namespace Go.Ev.Tryz
open Go.Proofs Go.Pl
set_option linter.unusedVariables false
noncomputable section
def impl_IsWord.st4 (s0 : ByteArray) (i3 : Int) : St := ⟨[.dat .str s0, .gone, .gone, .dat (.int .i64) i3, .gone, .gone, .gone, .gone, .gone, .gone, .gone, .gone, .gone, .gone, .gone, .gone, .gone, .gone, .gone, .gone, .gone, .gone, .gone, .gone, .gone, .gone, .gone, .gone], []⟩
def impl_IsWord.con : Con := { ps := [(.val, .str)], rs := [(.val, .bool)], F := fun x => impl_IsWord.f x }
def impl_IsWord.cs : List (FuncId × Con) := []
def impl_IsWord.E : Env := envOf tab impl_IsWord.cs 0 false
def impl_IsWord.keep (i : Nat) : List Nat := if i = 4 then [0, 3] else []
def impl_IsWord.at4 (n : Nat) (x : ByteArray) : Code × (Ex → St → Option (Bool)) := ctx impl_IsWord.E impl_IsWord.keep n [.snd, .snd, .fst, .snd, .blk] (codeOf Tryz.f85) (kEnd impl_IsWord.E Tryz.f85 impl_IsWord.con x)
def impl_IsWord.LN4 (n : Nat) (x : ByteArray) : Nat → St → Option (Bool) := loopN (exec impl_IsWord.E impl_IsWord.keep n (bodyOf (impl_IsWord.at4 n x).1)) (St.norm 0 (impl_IsWord.keep 4)) (impl_IsWord.at4 n x).2
set_option maxRecDepth 100000 in
theorem impl_IsWord.lem4 (n : Nat) (x : ByteArray) : ∀ (k : Nat) (s0 : ByteArray) (i3 : Int), impl_IsWord.LN4 n x k (impl_IsWord.st4 s0 i3) = impl_IsWord.l4 n k s0 i3 := by
 intro k
 induction k with
 | zero => intro s0 i3; rfl
 | succ k ih =>
  intro s0 i3
  have h : impl_IsWord.LN4 n x (k + 1) (impl_IsWord.st4 s0 i3) = impl_IsWord.g4 (fun s0 i3 => impl_IsWord.LN4 n x k (impl_IsWord.st4 s0 i3)) s0 i3 := by kernel_rfl
  rw [h]
  simp only [ih]
  rfl
set_option maxRecDepth 100000 in
theorem impl_IsWord.body (n : Nat) (x : ByteArray) : bodyF impl_IsWord.E impl_IsWord.keep n Tryz.f85 impl_IsWord.con x = impl_IsWord.fn n x := by
 have h : bodyF impl_IsWord.E impl_IsWord.keep n Tryz.f85 impl_IsWord.con x = impl_IsWord.top (fun s0 i3 => impl_IsWord.LN4 n x n (impl_IsWord.st4 s0 i3)) x := by kernel_rfl
 rw [h]
 simp only [impl_IsWord.lem4]
 rfl
set_option maxRecDepth 100000 in
theorem impl_IsWord.good : Good Tryz.prog 85 impl_IsWord.con :=
 good_of tabok (cs := impl_IsWord.cs) trivial 0 false (fn := Tryz.f85) Tryz.func85 rfl (by decide) (by simp [impl_IsWord.con]) impl_IsWord.keep NN (fun _ => rfl) (fun x => impl_IsWord.body NN x)
end
end Go.Ev.Tryz

namespace Go.Ev.Tryz
open Go.Proofs Go.Pl
set_option linter.unusedVariables false
noncomputable section
def impl_peopleIn.st3 (p : ByteArray) (t2 : Int) (q : Int) (v10 : List YA) (v11 : Int) (v12 : Int) : St := ⟨[.gone, .dat .str p, .dat (.int .i64) t2, .gone, .gone, .gone, .gone, .dat (.int .i64) q, .gone, .gone, .dat (.sl 70 (.pair (.int .i64) (.pair .str (.int .i64)))) v10, .dat (.int .i64) v11, .dat (.int .i64) v12, .gone, .gone, .gone, .gone, .gone, .gone, .gone, .gone, .gone, .gone, .gone, .gone, .gone, .gone, .gone, .gone, .gone, .gone, .gone], []⟩
def impl_peopleIn.con : Con := { ps := [(.val, (.sl 70 (.pair (.int .i64) (.pair .str (.int .i64))))), (.val, .str), (.val, (.int .i64))], rs := [(.val, (.int .i64))], F := fun x => impl_peopleIn.f x.1 x.2.1 x.2.2 }
def impl_peopleIn.cs : List (FuncId × Con) := []
def impl_peopleIn.E : Env := envOf tab impl_peopleIn.cs 0 false
def impl_peopleIn.keep (i : Nat) : List Nat := if i = 3 then [1, 2, 7, 10, 11, 12] else []
def impl_peopleIn.at3 (n : Nat) (x : YD × ByteArray × Int) : Code × (Ex → St → Option (Int)) := ctx impl_peopleIn.E impl_peopleIn.keep n [.snd, .snd, .fst, .snd, .blk] (codeOf Tryz.f87) (kEnd impl_peopleIn.E Tryz.f87 impl_peopleIn.con x)
def impl_peopleIn.LN3 (n : Nat) (x : YD × ByteArray × Int) : Nat → St → Option (Int) := loopN (exec impl_peopleIn.E impl_peopleIn.keep n (bodyOf (impl_peopleIn.at3 n x).1)) (St.norm 0 (impl_peopleIn.keep 3)) (impl_peopleIn.at3 n x).2
set_option maxRecDepth 100000 in
theorem impl_peopleIn.lem3 (n : Nat) (x : YD × ByteArray × Int) : ∀ (k : Nat) (p : ByteArray) (t2 : Int) (q : Int) (v10 : List YA) (v11 : Int) (v12 : Int), impl_peopleIn.LN3 n x k (impl_peopleIn.st3 p t2 q v10 v11 v12) = impl_peopleIn.l3 n k p t2 q v10 v11 v12 := by
 intro k
 induction k with
 | zero => intro p t2 q v10 v11 v12; rfl
 | succ k ih =>
  intro p t2 q v10 v11 v12
  have h : impl_peopleIn.LN3 n x (k + 1) (impl_peopleIn.st3 p t2 q v10 v11 v12) = impl_peopleIn.g3 (fun p t2 q v10 v11 v12 => impl_peopleIn.LN3 n x k (impl_peopleIn.st3 p t2 q v10 v11 v12)) p t2 q v10 v11 v12 := by kernel_rfl
  rw [h]
  simp only [ih]
  rfl
set_option maxRecDepth 100000 in
theorem impl_peopleIn.body (n : Nat) (x : YD × ByteArray × Int) : bodyF impl_peopleIn.E impl_peopleIn.keep n Tryz.f87 impl_peopleIn.con x = impl_peopleIn.fn n x.1 x.2.1 x.2.2 := by
 have h : bodyF impl_peopleIn.E impl_peopleIn.keep n Tryz.f87 impl_peopleIn.con x = impl_peopleIn.top (fun p t2 q v10 v11 v12 => impl_peopleIn.LN3 n x n (impl_peopleIn.st3 p t2 q v10 v11 v12)) x.1 x.2.1 x.2.2 := by kernel_rfl
 rw [h]
 simp only [impl_peopleIn.lem3]
 rfl
set_option maxRecDepth 100000 in
theorem impl_peopleIn.good : Good Tryz.prog 87 impl_peopleIn.con :=
 good_of tabok (cs := impl_peopleIn.cs) trivial 0 false (fn := Tryz.f87) Tryz.func87 rfl (by decide) (by simp [impl_peopleIn.con]) impl_peopleIn.keep NN (fun _ => rfl) (fun x => impl_peopleIn.body NN x)
end
end Go.Ev.Tryz

namespace Go.Ev.Tryz
open Go.Proofs Go.Pl
set_option linter.unusedVariables false
noncomputable section
def impl_AreMoves.st4 (p : List YA) (v8 : List YA) (v9 : Int) (v10 : Int) : St := ⟨[.dat (.sl 70 (.pair (.int .i64) (.pair .str (.int .i64)))) p, .gone, .gone, .gone, .gone, .gone, .gone, .gone, .dat (.sl 70 (.pair (.int .i64) (.pair .str (.int .i64)))) v8, .dat (.int .i64) v9, .dat (.int .i64) v10, .gone, .gone, .gone, .gone, .gone, .gone, .gone, .gone, .gone, .gone, .gone, .gone, .gone, .gone, .gone, .gone, .gone, .gone, .gone, .gone, .gone, .gone, .gone, .gone, .gone, .gone, .gone, .gone, .gone, .gone, .gone, .gone, .gone, .gone, .gone, .gone, .gone, .gone, .gone, .gone, .gone, .gone, .gone, .gone, .gone, .gone, .gone, .gone, .gone, .gone, .gone], []⟩
def impl_AreMoves.con : Con := { ps := [(.val, (.sl 70 (.pair (.int .i64) (.pair .str (.int .i64)))))], rs := [(.val, .bool)], F := fun x => impl_AreMoves.f x }
def impl_AreMoves.cs : List (FuncId × Con) := [(84, impl_isTime.con), (85, impl_IsWord.con), (86, impl_within.con), (87, impl_peopleIn.con)]
def impl_AreMoves.E : Env := envOf tab impl_AreMoves.cs 0 false
def impl_AreMoves.keep (i : Nat) : List Nat := if i = 4 then [0, 8, 9, 10] else []
def impl_AreMoves.at4 (n : Nat) (x : List YA) : Code × (Ex → St → Option (Bool)) := ctx impl_AreMoves.E impl_AreMoves.keep n [.snd, .snd, .fst, .snd, .blk] (codeOf Tryz.f54) (kEnd impl_AreMoves.E Tryz.f54 impl_AreMoves.con x)
def impl_AreMoves.LN4 (n : Nat) (x : List YA) : Nat → St → Option (Bool) := loopN (exec impl_AreMoves.E impl_AreMoves.keep n (bodyOf (impl_AreMoves.at4 n x).1)) (St.norm 0 (impl_AreMoves.keep 4)) (impl_AreMoves.at4 n x).2
set_option maxRecDepth 100000 in
theorem impl_AreMoves.lem4 (n : Nat) (x : List YA) : ∀ (k : Nat) (p : List YA) (v8 : List YA) (v9 : Int) (v10 : Int), impl_AreMoves.LN4 n x k (impl_AreMoves.st4 p v8 v9 v10) = impl_AreMoves.l4 n k p v8 v9 v10 := by
 intro k
 induction k with
 | zero => intro p v8 v9 v10; rfl
 | succ k ih =>
  intro p v8 v9 v10
  have h : impl_AreMoves.LN4 n x (k + 1) (impl_AreMoves.st4 p v8 v9 v10) = impl_AreMoves.g4 (fun p v8 v9 v10 => impl_AreMoves.LN4 n x k (impl_AreMoves.st4 p v8 v9 v10)) p v8 v9 v10 := by kernel_rfl
  rw [h]
  simp only [ih]
  rfl
set_option maxRecDepth 100000 in
theorem impl_AreMoves.body (n : Nat) (x : List YA) : bodyF impl_AreMoves.E impl_AreMoves.keep n Tryz.f54 impl_AreMoves.con x = impl_AreMoves.fn n x := by
 have h : bodyF impl_AreMoves.E impl_AreMoves.keep n Tryz.f54 impl_AreMoves.con x = impl_AreMoves.top (fun p v8 v9 v10 => impl_AreMoves.LN4 n x n (impl_AreMoves.st4 p v8 v9 v10)) x := by kernel_rfl
 rw [h]
 simp only [impl_AreMoves.lem4]
 rfl
set_option maxRecDepth 100000 in
theorem impl_AreMoves.good : Good Tryz.prog 54 impl_AreMoves.con :=
 good_of tabok (cs := impl_AreMoves.cs) ⟨impl_isTime.good, impl_IsWord.good, impl_within.good, impl_peopleIn.good, trivial⟩ 0 false (fn := Tryz.f54) Tryz.func54 rfl (by decide) (by simp [impl_AreMoves.con]) impl_AreMoves.keep NN (fun _ => rfl) (fun x => impl_AreMoves.body NN x)
end
end Go.Ev.Tryz

namespace Go.Ev.Tryz
open Go.Proofs Go.Pl
set_option linter.unusedVariables false
noncomputable section
def impl_AddMove.tr0 (p : List YA) (m1 : Int × ByteArray × Int) : Option YS :=
 if ([] : List YA).length + p.length < room 32 then
  if (([] : List YA) ++ p).length + ([m1]).length < room 32 then
   (impl_AreMoves.f ((([] : List YA) ++ p) ++ ([m1]))).bind fun r2 =>
   if (!r2) = true then
    some ([], 5)
   else
    some ((([] : List YA) ++ p) ++ ([m1]), 0)
  else
   none
 else
  none
def impl_AddMove.tr1 (p : List YA) (m1 : Int × ByteArray × Int) : Option YS :=
 agree (
  impl_AddMove.tr0 p m1
 ) (
  impl_AddMove.tr0 p m1
 )
def impl_AddMove.topraw (p : List YA) (m1 : Int × ByteArray × Int) : Option YS :=
 (impl_AreMoves.f p).bind fun r1 =>
 if (!r1) = true then
  some ([], 1)
 else if (((p.length : Int) : Int) == 40) = true then
  some ([], 3)
 else
  agree (
   agree (
    impl_AddMove.tr0 p m1
   ) (
    impl_AddMove.tr1 p m1
   )
  ) (
   agree (
    impl_AddMove.tr1 p m1
   ) (
    impl_AddMove.tr0 p m1
   )
  )
theorem impl_AddMove.topraw_eq (p : List YA) (m1 : Int × ByteArray × Int) : impl_AddMove.topraw p m1 = impl_AddMove.top p m1 := by
 unfold impl_AddMove.topraw impl_AddMove.top
 simp only [agree_self, impl_AddMove.tr0, impl_AddMove.tr1]
def impl_AddMove.con : Con := { ps := [(.val, (.sl 70 (.pair (.int .i64) (.pair .str (.int .i64))))), (.val, (.pair (.int .i64) (.pair .str (.int .i64))))], rs := [(.own, (.sl 70 (.pair (.int .i64) (.pair .str (.int .i64))))), (.own, (.int .i64))], F := fun x => impl_AddMove.f x.1 x.2 }
def impl_AddMove.cs : List (FuncId × Con) := [(54, impl_AreMoves.con)]
def impl_AddMove.E : Env := envOf tab impl_AddMove.cs 0 false
def impl_AddMove.keep (i : Nat) : List Nat := []
set_option maxRecDepth 100000 in
theorem impl_AddMove.body (n : Nat) (x : YD × Int × ByteArray × Int) : bodyF impl_AddMove.E impl_AddMove.keep n Tryz.f97 impl_AddMove.con x = impl_AddMove.fn n x.1 x.2 := by
 have h : bodyF impl_AddMove.E impl_AddMove.keep n Tryz.f97 impl_AddMove.con x = impl_AddMove.topraw x.1 x.2 := by kernel_rfl
 rw [impl_AddMove.topraw_eq] at h
 exact h
set_option maxRecDepth 100000 in
theorem impl_AddMove.good : Good Tryz.prog 97 impl_AddMove.con :=
 good_of tabok (cs := impl_AddMove.cs) ⟨impl_AreMoves.good, trivial⟩ 0 false (fn := Tryz.f97) Tryz.func97 rfl (by decide) (by simp [impl_AddMove.con]) impl_AddMove.keep NN (fun _ => rfl) (fun x => impl_AddMove.body NN x)
end
end Go.Ev.Tryz

namespace Go.Ev.Tryz
open Go.Proofs Go.Pl
set_option linter.unusedVariables false
noncomputable section
def impl_zoneAsked.con : Con := { ps := [(.val, (.sl 70 (.pair (.int .i64) (.pair .str (.int .i64))))), (.val, .str), (.val, (.int .i64))], rs := [(.val, (.int .i64))], F := fun x => impl_zoneAsked.f x.1 x.2.1 x.2.2 }
def impl_zoneAsked.cs : List (FuncId × Con) := [(54, impl_AreMoves.con), (84, impl_isTime.con), (85, impl_IsWord.con)]
def impl_zoneAsked.E : Env := envOf tab impl_zoneAsked.cs 0 false
def impl_zoneAsked.keep (i : Nat) : List Nat := []
set_option maxRecDepth 100000 in
theorem impl_zoneAsked.body (n : Nat) (x : YD × ByteArray × Int) : bodyF impl_zoneAsked.E impl_zoneAsked.keep n Tryz.f130 impl_zoneAsked.con x = impl_zoneAsked.fn n x.1 x.2.1 x.2.2 := by
 have h : bodyF impl_zoneAsked.E impl_zoneAsked.keep n Tryz.f130 impl_zoneAsked.con x = impl_zoneAsked.top x.1 x.2.1 x.2.2 := by kernel_rfl
 exact h
set_option maxRecDepth 100000 in
theorem impl_zoneAsked.good : Good Tryz.prog 130 impl_zoneAsked.con :=
 good_of tabok (cs := impl_zoneAsked.cs) ⟨impl_AreMoves.good, impl_isTime.good, impl_IsWord.good, trivial⟩ 0 false (fn := Tryz.f130) Tryz.func130 rfl (by decide) (by simp [impl_zoneAsked.con]) impl_zoneAsked.keep NN (fun _ => rfl) (fun x => impl_zoneAsked.body NN x)
end
end Go.Ev.Tryz

namespace Go.Ev.Tryz
open Go.Proofs Go.Pl
set_option linter.unusedVariables false
noncomputable section
def impl_isClear.st2 (p : List YA) (q : ByteArray) (t2 : Int) (v9 : List YA) (v10 : Int) (v11 : Int) : St := ⟨[.dat (.sl 70 (.pair (.int .i64) (.pair .str (.int .i64)))) p, .dat .str q, .dat (.int .i64) t2, .gone, .gone, .gone, .gone, .gone, .gone, .dat (.sl 70 (.pair (.int .i64) (.pair .str (.int .i64)))) v9, .dat (.int .i64) v10, .dat (.int .i64) v11, .gone, .gone, .gone, .gone, .gone, .gone, .gone, .gone, .gone, .gone, .gone, .gone, .gone, .gone, .gone, .gone, .gone, .gone, .gone, .gone, .gone, .gone, .gone, .gone, .gone, .gone], []⟩
def impl_isClear.con : Con := { ps := [(.val, (.sl 70 (.pair (.int .i64) (.pair .str (.int .i64))))), (.val, .str), (.val, (.int .i64))], rs := [(.val, .bool)], F := fun x => impl_isClear.f x.1 x.2.1 x.2.2 }
def impl_isClear.cs : List (FuncId × Con) := [(87, impl_peopleIn.con)]
def impl_isClear.E : Env := envOf tab impl_isClear.cs 0 false
def impl_isClear.keep (i : Nat) : List Nat := if i = 2 then [0, 1, 2, 9, 10, 11] else []
def impl_isClear.at2 (n : Nat) (x : YD × ByteArray × Int) : Code × (Ex → St → Option (Bool)) := ctx impl_isClear.E impl_isClear.keep n [.snd, .fst, .snd, .blk] (codeOf Tryz.f131) (kEnd impl_isClear.E Tryz.f131 impl_isClear.con x)
def impl_isClear.LN2 (n : Nat) (x : YD × ByteArray × Int) : Nat → St → Option (Bool) := loopN (exec impl_isClear.E impl_isClear.keep n (bodyOf (impl_isClear.at2 n x).1)) (St.norm 0 (impl_isClear.keep 2)) (impl_isClear.at2 n x).2
set_option maxRecDepth 100000 in
theorem impl_isClear.lem2 (n : Nat) (x : YD × ByteArray × Int) : ∀ (k : Nat) (p : List YA) (q : ByteArray) (t2 : Int) (v9 : List YA) (v10 : Int) (v11 : Int), impl_isClear.LN2 n x k (impl_isClear.st2 p q t2 v9 v10 v11) = impl_isClear.l2 n k p q t2 v9 v10 v11 := by
 intro k
 induction k with
 | zero => intro p q t2 v9 v10 v11; rfl
 | succ k ih =>
  intro p q t2 v9 v10 v11
  have h : impl_isClear.LN2 n x (k + 1) (impl_isClear.st2 p q t2 v9 v10 v11) = impl_isClear.g2 (fun p q t2 v9 v10 v11 => impl_isClear.LN2 n x k (impl_isClear.st2 p q t2 v9 v10 v11)) p q t2 v9 v10 v11 := by kernel_rfl
  rw [h]
  simp only [ih]
  rfl
set_option maxRecDepth 100000 in
theorem impl_isClear.body (n : Nat) (x : YD × ByteArray × Int) : bodyF impl_isClear.E impl_isClear.keep n Tryz.f131 impl_isClear.con x = impl_isClear.fn n x.1 x.2.1 x.2.2 := by
 have h : bodyF impl_isClear.E impl_isClear.keep n Tryz.f131 impl_isClear.con x = impl_isClear.top (fun p q t2 v9 v10 v11 => impl_isClear.LN2 n x n (impl_isClear.st2 p q t2 v9 v10 v11)) x.1 x.2.1 x.2.2 := by kernel_rfl
 rw [h]
 simp only [impl_isClear.lem2]
 rfl
set_option maxRecDepth 100000 in
theorem impl_isClear.good : Good Tryz.prog 131 impl_isClear.con :=
 good_of tabok (cs := impl_isClear.cs) ⟨impl_peopleIn.good, trivial⟩ 0 false (fn := Tryz.f131) Tryz.func131 rfl (by decide) (by simp [impl_isClear.con]) impl_isClear.keep NN (fun _ => rfl) (fun x => impl_isClear.body NN x)
end
end Go.Ev.Tryz

namespace Go.Ev.Tryz
open Go.Proofs Go.Pl
set_option linter.unusedVariables false
noncomputable section
def impl_IsClear.con : Con := { ps := [(.val, (.sl 70 (.pair (.int .i64) (.pair .str (.int .i64))))), (.val, .str), (.val, (.int .i64))], rs := [(.val, .bool), (.val, (.int .i64))], F := fun x => impl_IsClear.f x.1 x.2.1 x.2.2 }
def impl_IsClear.cs : List (FuncId × Con) := [(130, impl_zoneAsked.con), (131, impl_isClear.con)]
def impl_IsClear.E : Env := envOf tab impl_IsClear.cs 0 false
def impl_IsClear.keep (i : Nat) : List Nat := []
set_option maxRecDepth 100000 in
theorem impl_IsClear.body (n : Nat) (x : YD × ByteArray × Int) : bodyF impl_IsClear.E impl_IsClear.keep n Tryz.f98 impl_IsClear.con x = impl_IsClear.fn n x.1 x.2.1 x.2.2 := by
 have h : bodyF impl_IsClear.E impl_IsClear.keep n Tryz.f98 impl_IsClear.con x = impl_IsClear.top x.1 x.2.1 x.2.2 := by kernel_rfl
 exact h
set_option maxRecDepth 100000 in
theorem impl_IsClear.good : Good Tryz.prog 98 impl_IsClear.con :=
 good_of tabok (cs := impl_IsClear.cs) ⟨impl_zoneAsked.good, impl_isClear.good, trivial⟩ 0 false (fn := Tryz.f98) Tryz.func98 rfl (by decide) (by simp [impl_IsClear.con]) impl_IsClear.keep NN (fun _ => rfl) (fun x => impl_IsClear.body NN x)
end
end Go.Ev.Tryz

namespace Go.Ev.Tryz
open Go.Proofs Go.Pl
set_option linter.unusedVariables false
noncomputable section
def impl_wordIndex.st2 (p : ByteArray) (v7 : List ByteArray) (v8 : Int) (v9 : Int) : St := ⟨[.gone, .dat .str p, .gone, .gone, .gone, .gone, .gone, .dat (.sl 9 .str) v7, .dat (.int .i64) v8, .dat (.int .i64) v9, .gone, .gone, .gone, .gone, .gone, .gone, .gone, .gone, .gone], []⟩
def impl_wordIndex.con : Con := { ps := [(.val, (.sl 9 .str)), (.val, .str)], rs := [(.val, (.int .i64))], F := fun x => impl_wordIndex.f x.1 x.2 }
def impl_wordIndex.cs : List (FuncId × Con) := []
def impl_wordIndex.E : Env := envOf tab impl_wordIndex.cs 0 false
def impl_wordIndex.keep (i : Nat) : List Nat := if i = 2 then [1, 7, 8, 9] else []
def impl_wordIndex.at2 (n : Nat) (x : List ByteArray × ByteArray) : Code × (Ex → St → Option (Int)) := ctx impl_wordIndex.E impl_wordIndex.keep n [.snd, .fst, .snd, .blk] (codeOf Tryz.f99) (kEnd impl_wordIndex.E Tryz.f99 impl_wordIndex.con x)
def impl_wordIndex.LN2 (n : Nat) (x : List ByteArray × ByteArray) : Nat → St → Option (Int) := loopN (exec impl_wordIndex.E impl_wordIndex.keep n (bodyOf (impl_wordIndex.at2 n x).1)) (St.norm 0 (impl_wordIndex.keep 2)) (impl_wordIndex.at2 n x).2
set_option maxRecDepth 100000 in
theorem impl_wordIndex.lem2 (n : Nat) (x : List ByteArray × ByteArray) : ∀ (k : Nat) (p : ByteArray) (v7 : List ByteArray) (v8 : Int) (v9 : Int), impl_wordIndex.LN2 n x k (impl_wordIndex.st2 p v7 v8 v9) = impl_wordIndex.l2 n k p v7 v8 v9 := by
 intro k
 induction k with
 | zero => intro p v7 v8 v9; rfl
 | succ k ih =>
  intro p v7 v8 v9
  have h : impl_wordIndex.LN2 n x (k + 1) (impl_wordIndex.st2 p v7 v8 v9) = impl_wordIndex.g2 (fun p v7 v8 v9 => impl_wordIndex.LN2 n x k (impl_wordIndex.st2 p v7 v8 v9)) p v7 v8 v9 := by kernel_rfl
  rw [h]
  simp only [ih]
  rfl
set_option maxRecDepth 100000 in
theorem impl_wordIndex.body (n : Nat) (x : List ByteArray × ByteArray) : bodyF impl_wordIndex.E impl_wordIndex.keep n Tryz.f99 impl_wordIndex.con x = impl_wordIndex.fn n x.1 x.2 := by
 have h : bodyF impl_wordIndex.E impl_wordIndex.keep n Tryz.f99 impl_wordIndex.con x = impl_wordIndex.top (fun p v7 v8 v9 => impl_wordIndex.LN2 n x n (impl_wordIndex.st2 p v7 v8 v9)) x.1 x.2 := by kernel_rfl
 rw [h]
 simp only [impl_wordIndex.lem2]
 rfl
set_option maxRecDepth 100000 in
theorem impl_wordIndex.good : Good Tryz.prog 99 impl_wordIndex.con :=
 good_of tabok (cs := impl_wordIndex.cs) trivial 0 false (fn := Tryz.f99) Tryz.func99 rfl (by decide) (by simp [impl_wordIndex.con]) impl_wordIndex.keep NN (fun _ => rfl) (fun x => impl_wordIndex.body NN x)
end
end Go.Ev.Tryz

namespace Go.Ev.Tryz
open Go.Proofs Go.Pl
set_option linter.unusedVariables false
noncomputable section
def impl_inputWords.con : Con := { ps := [], rs := [(.own, (.sl 9 .str))], F := fun x => impl_inputWords.f  }
def impl_inputWords.cs : List (FuncId × Con) := []
def impl_inputWords.E : Env := envOf tab impl_inputWords.cs 0 false
def impl_inputWords.keep (i : Nat) : List Nat := []
set_option maxRecDepth 100000 in
theorem impl_inputWords.body (n : Nat) (x : Unit) : bodyF impl_inputWords.E impl_inputWords.keep n Tryz.f100 impl_inputWords.con x = impl_inputWords.fn n  := by
 have h : bodyF impl_inputWords.E impl_inputWords.keep n Tryz.f100 impl_inputWords.con x = impl_inputWords.top  := by kernel_rfl
 exact h
set_option maxRecDepth 100000 in
theorem impl_inputWords.good : Good Tryz.prog 100 impl_inputWords.con :=
 good_of tabok (cs := impl_inputWords.cs) trivial 0 false (fn := Tryz.f100) Tryz.func100 rfl (by decide) (by simp [impl_inputWords.con]) impl_inputWords.keep NN (fun _ => rfl) (fun x => impl_inputWords.body NN x)
end
end Go.Ev.Tryz

namespace Go.Ev.Tryz
open Go.Proofs Go.Pl
set_option linter.unusedVariables false
noncomputable section
def impl_isTick.con : Con := { ps := [(.val, (.int .i64))], rs := [(.val, .bool)], F := fun x => impl_isTick.f x }
def impl_isTick.cs : List (FuncId × Con) := [(86, impl_within.con)]
def impl_isTick.E : Env := envOf tab impl_isTick.cs 0 false
def impl_isTick.keep (i : Nat) : List Nat := []
set_option maxRecDepth 100000 in
theorem impl_isTick.body (n : Nat) (x : Int) : bodyF impl_isTick.E impl_isTick.keep n Tryz.f88 impl_isTick.con x = impl_isTick.fn n x := by
 have h : bodyF impl_isTick.E impl_isTick.keep n Tryz.f88 impl_isTick.con x = impl_isTick.top x := by kernel_rfl
 exact h
set_option maxRecDepth 100000 in
theorem impl_isTick.good : Good Tryz.prog 88 impl_isTick.con :=
 good_of tabok (cs := impl_isTick.cs) ⟨impl_within.good, trivial⟩ 0 false (fn := Tryz.f88) Tryz.func88 rfl (by decide) (by simp [impl_isTick.con]) impl_isTick.keep NN (fun _ => rfl) (fun x => impl_isTick.body NN x)
end
end Go.Ev.Tryz

namespace Go.Ev.Tryz
open Go.Proofs Go.Pl
set_option linter.unusedVariables false
noncomputable section
def impl_AreSignals.st4 (p : List YC) (v8 : List YC) (v9 : Int) (v10 : Int) : St := ⟨[.dat (.sl 72 (.pair (.int .i64) (.int .i64))) p, .gone, .gone, .gone, .gone, .gone, .gone, .gone, .dat (.sl 72 (.pair (.int .i64) (.int .i64))) v8, .dat (.int .i64) v9, .dat (.int .i64) v10, .gone, .gone, .gone, .gone, .gone, .gone, .gone, .gone, .gone, .gone, .gone, .gone, .gone, .gone, .gone, .gone, .gone, .gone, .gone, .gone, .gone, .gone, .gone, .gone, .gone, .gone, .gone, .gone, .gone, .gone, .gone, .gone, .gone, .gone, .gone], []⟩
def impl_AreSignals.con : Con := { ps := [(.val, (.sl 72 (.pair (.int .i64) (.int .i64))))], rs := [(.val, .bool)], F := fun x => impl_AreSignals.f x }
def impl_AreSignals.cs : List (FuncId × Con) := [(86, impl_within.con), (88, impl_isTick.con)]
def impl_AreSignals.E : Env := envOf tab impl_AreSignals.cs 0 false
def impl_AreSignals.keep (i : Nat) : List Nat := if i = 4 then [0, 8, 9, 10] else []
def impl_AreSignals.at4 (n : Nat) (x : List YC) : Code × (Ex → St → Option (Bool)) := ctx impl_AreSignals.E impl_AreSignals.keep n [.snd, .snd, .fst, .snd, .blk] (codeOf Tryz.f55) (kEnd impl_AreSignals.E Tryz.f55 impl_AreSignals.con x)
def impl_AreSignals.LN4 (n : Nat) (x : List YC) : Nat → St → Option (Bool) := loopN (exec impl_AreSignals.E impl_AreSignals.keep n (bodyOf (impl_AreSignals.at4 n x).1)) (St.norm 0 (impl_AreSignals.keep 4)) (impl_AreSignals.at4 n x).2
set_option maxRecDepth 100000 in
theorem impl_AreSignals.lem4 (n : Nat) (x : List YC) : ∀ (k : Nat) (p : List YC) (v8 : List YC) (v9 : Int) (v10 : Int), impl_AreSignals.LN4 n x k (impl_AreSignals.st4 p v8 v9 v10) = impl_AreSignals.l4 n k p v8 v9 v10 := by
 intro k
 induction k with
 | zero => intro p v8 v9 v10; rfl
 | succ k ih =>
  intro p v8 v9 v10
  have h : impl_AreSignals.LN4 n x (k + 1) (impl_AreSignals.st4 p v8 v9 v10) = impl_AreSignals.g4 (fun p v8 v9 v10 => impl_AreSignals.LN4 n x k (impl_AreSignals.st4 p v8 v9 v10)) p v8 v9 v10 := by kernel_rfl
  rw [h]
  simp only [ih]
  rfl
set_option maxRecDepth 100000 in
theorem impl_AreSignals.body (n : Nat) (x : List YC) : bodyF impl_AreSignals.E impl_AreSignals.keep n Tryz.f55 impl_AreSignals.con x = impl_AreSignals.fn n x := by
 have h : bodyF impl_AreSignals.E impl_AreSignals.keep n Tryz.f55 impl_AreSignals.con x = impl_AreSignals.top (fun p v8 v9 v10 => impl_AreSignals.LN4 n x n (impl_AreSignals.st4 p v8 v9 v10)) x := by kernel_rfl
 rw [h]
 simp only [impl_AreSignals.lem4]
 rfl
set_option maxRecDepth 100000 in
theorem impl_AreSignals.good : Good Tryz.prog 55 impl_AreSignals.con :=
 good_of tabok (cs := impl_AreSignals.cs) ⟨impl_within.good, impl_isTick.good, trivial⟩ 0 false (fn := Tryz.f55) Tryz.func55 rfl (by decide) (by simp [impl_AreSignals.con]) impl_AreSignals.keep NN (fun _ => rfl) (fun x => impl_AreSignals.body NN x)
end
end Go.Ev.Tryz

namespace Go.Ev.Tryz
open Go.Proofs Go.Pl
set_option linter.unusedVariables false
noncomputable section
def impl_AddSignal.st7 (k7 : Int) (p : List YC) : St := ⟨[.gone, .gone, .gone, .gone, .gone, .gone, .ref 0, .dat (.int .i64) k7, .gone, .gone, .gone, .gone, .gone, .gone, .gone, .gone, .gone, .gone, .gone, .gone, .gone, .gone, .gone, .gone, .gone, .gone, .gone, .gone, .gone, .gone, .gone, .gone, .gone, .gone, .gone, .gone, .gone, .gone, .gone, .gone, .gone, .gone, .gone, .gone, .gone, .gone, .gone, .gone, .gone, .gone, .gone, .gone, .gone, .gone, .gone, .gone, .gone, .gone, .gone, .gone, .gone], [.row 72 (.pair (.int .i64) (.int .i64)) p none]⟩
def impl_AddSignal.tr0 (L7 : YAL) (k7 : Int) (p : List YC) : Option YV :=
 if (0 : Int) ≤ (IntKind.i64.wrap (k7 - 1)) ∧ ((IntKind.i64.wrap (k7 - 1)) : Int) < p.length then
  if (0 : Int) ≤ k7 ∧ (k7 : Int) < (p.set ((IntKind.i64.wrap (k7 - 1)) : Int).toNat (p.getD (k7 : Int).toNat (0, 0))).length then
   L7 (IntKind.i64.wrap (k7 - 1)) ((p.set ((IntKind.i64.wrap (k7 - 1)) : Int).toNat (p.getD (k7 : Int).toNat (0, 0))).set (k7 : Int).toNat (p.getD ((IntKind.i64.wrap (k7 - 1)) : Int).toNat (0, 0)))
  else
   none
 else
  none
def impl_AddSignal.g7raw (L7 : YAL) (k7 : Int) (p : List YC) : Option YV :=
 if (decide ((0 : Int) < k7)) = true then
  if (0 : Int) ≤ (IntKind.i64.wrap (k7 - 1)) ∧ ((IntKind.i64.wrap (k7 - 1)) : Int) < p.length then
   if (0 : Int) ≤ k7 ∧ (k7 : Int) < p.length then
    if (decide ((((p.getD (k7 : Int).toNat (0, 0)).1) : Int) < ((p.getD ((IntKind.i64.wrap (k7 - 1)) : Int).toNat (0, 0)).1))) = true then
     if (0 : Int) ≤ k7 ∧ (k7 : Int) < p.length then
      if (0 : Int) ≤ (IntKind.i64.wrap (k7 - 1)) ∧ ((IntKind.i64.wrap (k7 - 1)) : Int) < p.length then
       agree (
        impl_AddSignal.tr0 L7 k7 p
       ) (
        impl_AddSignal.tr0 L7 k7 p
       )
      else
       none
     else
      none
    else
     (impl_AreSignals.f p).bind fun r2 =>
     if (!r2) = true then
      some ([], 5)
     else
      some (p, 0)
   else
    none
  else
   none
 else
  (impl_AreSignals.f p).bind fun r3 =>
  if (!r3) = true then
   some ([], 5)
  else
   some (p, 0)
theorem impl_AddSignal.g7raw_eq (L7 : YAL) (k7 : Int) (p : List YC) : impl_AddSignal.g7raw L7 k7 p = impl_AddSignal.g7 L7 k7 p := by
 unfold impl_AddSignal.g7raw impl_AddSignal.g7
 simp only [agree_self, impl_AddSignal.tr0]
def impl_AddSignal.tr1 (I7 : YAL) (q : List YC) (x1 : Int × Int) : Option YV :=
 if ([] : List YC).length + q.length < room 16 then
  if (([] : List YC) ++ q).length + ([x1]).length < room 16 then
   I7 (IntKind.i64.wrap ((((([] : List YC) ++ q) ++ ([x1])).length : Int) - 1)) ((([] : List YC) ++ q) ++ ([x1]))
  else
   none
 else
  none
def impl_AddSignal.tr2 (I7 : YAL) (q : List YC) (x1 : Int × Int) : Option YV :=
 agree (
  impl_AddSignal.tr1 I7 q x1
 ) (
  impl_AddSignal.tr1 I7 q x1
 )
def impl_AddSignal.topraw (I7 : YAL) (q : List YC) (x1 : Int × Int) : Option YV :=
 (impl_AreSignals.f q).bind fun r1 =>
 if (!r1) = true then
  some ([], 1)
 else if (((q.length : Int) : Int) == 40) = true then
  some ([], 3)
 else
  agree (
   agree (
    impl_AddSignal.tr1 I7 q x1
   ) (
    impl_AddSignal.tr2 I7 q x1
   )
  ) (
   agree (
    impl_AddSignal.tr2 I7 q x1
   ) (
    impl_AddSignal.tr1 I7 q x1
   )
  )
theorem impl_AddSignal.topraw_eq (I7 : YAL) (q : List YC) (x1 : Int × Int) : impl_AddSignal.topraw I7 q x1 = impl_AddSignal.top I7 q x1 := by
 unfold impl_AddSignal.topraw impl_AddSignal.top
 simp only [agree_self, impl_AddSignal.tr1, impl_AddSignal.tr2]
def impl_AddSignal.con : Con := { ps := [(.val, (.sl 72 (.pair (.int .i64) (.int .i64)))), (.val, (.pair (.int .i64) (.int .i64)))], rs := [(.own, (.sl 72 (.pair (.int .i64) (.int .i64)))), (.own, (.int .i64))], F := fun x => impl_AddSignal.f x.1 x.2 }
def impl_AddSignal.cs : List (FuncId × Con) := [(55, impl_AreSignals.con)]
def impl_AddSignal.E : Env := envOf tab impl_AddSignal.cs 0 false
def impl_AddSignal.keep (i : Nat) : List Nat := if i = 7 then [6, 7] else []
def impl_AddSignal.at7 (n : Nat) (x : YE × Int × Int) : Code × (Ex → St → Option (YV)) := ctx impl_AddSignal.E impl_AddSignal.keep n [.snd, .snd, .snd, .snd, .fst, .snd, .blk] (codeOf Tryz.f101) (kEnd impl_AddSignal.E Tryz.f101 impl_AddSignal.con x)
def impl_AddSignal.LN7 (n : Nat) (x : YE × Int × Int) : Nat → St → Option (YV) := loopN (exec impl_AddSignal.E impl_AddSignal.keep n (bodyOf (impl_AddSignal.at7 n x).1)) (St.norm 0 (impl_AddSignal.keep 7)) (impl_AddSignal.at7 n x).2
set_option maxRecDepth 100000 in
theorem impl_AddSignal.lem7 (n : Nat) (x : YE × Int × Int) : ∀ (k : Nat) (k7 : Int) (p : List YC), impl_AddSignal.LN7 n x k (impl_AddSignal.st7 k7 p) = impl_AddSignal.l7 n k k7 p := by
 intro k
 induction k with
 | zero => intro k7 p; rfl
 | succ k ih =>
  intro k7 p
  have h : impl_AddSignal.LN7 n x (k + 1) (impl_AddSignal.st7 k7 p) = impl_AddSignal.g7raw (fun k7 p => impl_AddSignal.LN7 n x k (impl_AddSignal.st7 k7 p)) k7 p := by kernel_rfl
  rw [impl_AddSignal.g7raw_eq] at h
  rw [h]
  simp only [ih]
  rfl
set_option maxRecDepth 100000 in
theorem impl_AddSignal.body (n : Nat) (x : YE × Int × Int) : bodyF impl_AddSignal.E impl_AddSignal.keep n Tryz.f101 impl_AddSignal.con x = impl_AddSignal.fn n x.1 x.2 := by
 have h : bodyF impl_AddSignal.E impl_AddSignal.keep n Tryz.f101 impl_AddSignal.con x = impl_AddSignal.topraw (fun k7 p => impl_AddSignal.LN7 n x n (impl_AddSignal.st7 k7 p)) x.1 x.2 := by kernel_rfl
 rw [impl_AddSignal.topraw_eq] at h
 rw [h]
 simp only [impl_AddSignal.lem7]
 rfl
set_option maxRecDepth 100000 in
theorem impl_AddSignal.good : Good Tryz.prog 101 impl_AddSignal.con :=
 good_of tabok (cs := impl_AddSignal.cs) ⟨impl_AreSignals.good, trivial⟩ 0 false (fn := Tryz.f101) Tryz.func101 rfl (by decide) (by simp [impl_AddSignal.con]) impl_AddSignal.keep NN (fun _ => rfl) (fun x => impl_AddSignal.body NN x)
end
end Go.Ev.Tryz

namespace Go.Pl
open Go.Ev
set_option linter.unusedVariables false
theorem wf64 {n : Int} : (Lit.int .i64 n).wf = true ↔ (-9223372036854775808 ≤ n ∧ n ≤ 9223372036854775807) := by
  simp only [Lit.wf, Bool.and_eq_true, decide_eq_true_eq]
  have e1 : IntKind.i64.min = -9223372036854775808 := by decide
  have e2 : IntKind.i64.max = 9223372036854775807 := by decide
  omega
theorem w8 {n : Int} (h1 : 0 ≤ n) (h2 : n < 256) : IntKind.u8.wrap n = n := by
  simp only [IntKind.wrap, IntKind.bits, IntKind.signed]
  simp
  omega
theorem mid_get {α : Type} (p r : List α) (x z : α) : (p ++ x :: r).getD (p.length : Int).toNat z = x := by simp
theorem mid_set {α : Type} (p r : List α) (x y : α) : (p ++ x :: r).set (p.length : Int).toNat y = p ++ y :: r := by simp
theorem mid_getn {α : Type} (p r : List α) (x z : α) : (p ++ x :: r).getD p.length z = x := by simp
theorem mid_setn {α : Type} (p r : List α) (x y : α) : (p ++ x :: r).set p.length y = p ++ y :: r := by simp
theorem mid_len {α : Type} (p r : List α) (x : α) : ((p ++ x :: r).length : Int) = (p.length : Int) + r.length + 1 := by simp; omega
theorem mid_snoc {α : Type} (p r : List α) (x : α) : (p ++ [x]) ++ r = p ++ x :: r := by simp
theorem snoc_len {α : Type} (p : List α) (x : α) : ((p ++ [x]).length : Int) = (p.length : Int) + 1 := by simp
theorem ba_toList {a b : ByteArray} : a.toList = b.toList ↔ a = b := by
  rw [ByteArray.toList_eq, ByteArray.toList_eq]
  exact ⟨fun h => ByteArray.ext (Array.toList_inj.mp h), fun h => by rw [h]⟩
theorem ba_beq (a b : ByteArray) : (a.toList == b.toList) = decide (a = b) := by
  by_cases h : a = b
  · subst h; simp
  · rw [decide_eq_false h, beq_eq_false_iff_ne]; exact fun e => h (ba_toList.1 e)
def bl (s : ByteArray) : List UInt8 := s.data.toList
def ob (l : List UInt8) : ByteArray := ⟨l.toArray⟩
theorem bl_ob (l : List UInt8) : bl (ob l) = l := by simp [bl, ob]
theorem ob_bl (s : ByteArray) : ob (bl s) = s := by simp [bl, ob]
theorem bl_inj {a b : ByteArray} (h : bl a = bl b) : a = b := by rw [← ob_bl a, h, ob_bl]
theorem bl_length (s : ByteArray) : (bl s).length = s.size := by simp only [bl, Array.length_toList]; rfl
theorem ob_size (l : List UInt8) : (ob l).size = l.length := by rw [← bl_length, bl_ob]
theorem bl_append (a b : ByteArray) : bl (a ++ b) = bl a ++ bl b := by simp [bl]
theorem ob_append (a b : List UInt8) : ob a ++ ob b = ob (a ++ b) := by apply bl_inj; rw [bl_append, bl_ob, bl_ob, bl_ob]
theorem bl_extract (s : ByteArray) (i j : Nat) : bl (s.extract i j) = ((bl s).take j).drop i := by
  simp only [bl, ByteArray.data_extract, Array.toList_extract, List.extract]
  rw [List.drop_take]
theorem ob_extract (l : List UInt8) (i j : Nat) : (ob l).extract i j = ob ((l.take j).drop i) := by apply bl_inj; rw [bl_extract, bl_ob, bl_ob]
theorem bt_ob (l : List UInt8) (i : Int) : bt (ob l) i = ((l.getD i.toNat 0).toNat : Int) := rfl
theorem bt_mid (p r : List UInt8) (c : UInt8) : bt (ob (p ++ c :: r)) (p.length : Int) = (c.toNat : Int) := by rw [bt_ob, mid_get]
theorem u8_eq {a : UInt8} {n : Nat} (h : n < 256) : ((a.toNat : Int) = (n : Int)) ↔ a = UInt8.ofNat n := by
  constructor
  · intro e
    apply UInt8.toNat_inj.mp
    rw [UInt8.toNat_ofNat']; omega
  · rintro rfl
    rw [UInt8.toNat_ofNat']; omega
theorem bytesOf_ob (l : List Int) : bytesOf l = ob (l.map fun n => UInt8.ofNat n.toNat) := rfl
theorem ob_all {P : ByteArray → Prop} (h : ∀ l, P (ob l)) (s : ByteArray) : P s := by rw [← ob_bl s]; exact h _
theorem room8 : room 8 = 17592186044416 := by decide
theorem room16 : room 16 = 8796093022208 := by decide
theorem room32 : room 32 = 4398046511104 := by decide
theorem NNb : (1000000000000 : Nat) < NN := by rw [NN_eq]; omega
theorem NN_lt {n : Nat} (h : n < 1152921504606846976) : n < NN := by rw [NN_eq]; omega
end Go.Pl

namespace Go.Ev
set_option linter.unusedVariables false
set_option linter.unusedSimpArgs false
open Go.RowKit Go.WideShapes Go.ChangeShapes Go.ChangeAt
variable {P : Program}
def Rg (k : IntKind) (n : Int) : Prop := (Lit.int k n).wf = true
def Sz (s : ByteArray) : Prop := s.size ≤ 140737488355328
def Ls {α : Type} (Q : α → Prop) (xs : List α) : Prop := xs.length ≤ 140737488355328 ∧ ∀ x ∈ xs, Q x
def Plain : (t : Ty) → t.I → Prop
  | .int k, n => Rg k n
  | .bool, _ => True
  | .str, s => Sz s
  | .sl _ t, xs => Ls (Plain t) xs
  | .slb _ _, _ => True
  | .pair a b, x => Plain a x.1 ∧ Plain b x.2
  | .arr n t, xs => xs.length = n ∧ ∀ x ∈ xs, Plain t x
def PlainAll : (ts : List Ty) → Tup ts → Prop
  | [], _ => True
  | [t], x => Plain t x
  | t :: u :: r, x => Plain t x.1 ∧ PlainAll (u :: r) x.2
def okE (B : TypeId → Nat) : Ty → Bool
  | .sl e t => decide (1 ≤ B e) && okE B t
  | .slb e t => decide (1 ≤ B e) && okE B t
  | .pair a b => okE B a && okE B b
  | .arr _ t => okE B t
  | _ => true
theorem reach_lt : reachBytes ≤ 140737488355328 := by decide
theorem fit_plain {B : TypeId → Nat} : ∀ (t : Ty) (x : t.I), okE B t = true → Fit B t x → Plain t x := by
  intro t
  induction t with
  | int k => intro x _ h; exact h
  | bool => intro x _ h; trivial
  | str => intro x _ h; exact Nat.le_trans h reach_lt
  | sl e t ih =>
    intro x ho h
    simp only [okE, Bool.and_eq_true, decide_eq_true_eq] at ho
    refine ⟨?_, fun y hy => ih y ho.2 (h.2 y hy)⟩
    have h1 : x.length * 1 ≤ x.length * B e := Nat.mul_le_mul_left _ ho.1
    have h2 := h.1
    have h3 := reach_lt
    omega
  | slb e t ih => intro x ho h; trivial
  | pair a b iha ihb =>
    intro x ho h
    simp only [okE, Bool.and_eq_true] at ho
    exact ⟨iha _ ho.1 h.1, ihb _ ho.2 h.2⟩
  | arr n t ih => intro x ho h; exact ⟨h.1, fun y hy => ih y ho (h.2 y hy)⟩
theorem fit_plainAll {B : TypeId → Nat} : ∀ (ts : List Ty) (x : Tup ts), ts.all (okE B) = true → FitAll B ts x → PlainAll ts x := by
  intro ts
  induction ts with
  | nil => intro x _ _; trivial
  | cons t r ih =>
    intro x ho h
    simp only [List.all_cons, Bool.and_eq_true] at ho
    cases r with
    | nil => exact fit_plain t x ho.1 h
    | cons u r => exact ⟨fit_plain t x.1 ho.1 h.1, ih x.2 ho.2 h.2⟩
theorem ok_all {tab : List TRow} (h : okB P tab = true) : tab.all (rowB P tab) = true := by
  unfold okB at h; simp only [Bool.and_eq_true] at h; exact h.2.2
theorem bytes_sound {tab : List TRow} (h : okB P tab = true) : ∀ t x, tabT tab t = some x → P.bytesOf t = tabB tab t := by
  intro t x ht
  have hs := tab_sound (ok_all h)
  obtain ⟨ty, n⟩ := x
  obtain ⟨i, h1, h2⟩ := (hs.1 t ty n ht).info
  unfold Program.bytesOf
  rw [h1]
  exact hs.2 t _ ht i h1
section
variable {H : Type} {enc : TypeId × Value → H} {w : World} {base : Nat} {spare : Nat → Bool} {held : Bool}
theorem law_row {tab : List TRow} (hok : okB P tab = true) (hpos : posB tab = true) {f : FuncId} {c : Con} (hg : Good P f c) (hps : (c.ps.map (·.2)).map ((Kn.val, ·)) = c.ps) (hE : (c.ps.map (·.2)).all (okE (tabB tab)) = true)
    (hlaw : ∀ x, PlainAll (c.ps.map (·.2)) x → ∃ r, c.F x = some r ∧ kds' c.rs (dats _ r) = [(.val, ⟨.bool, true⟩)])
    {r : Reach} {b0 : Nat} {ts : List TypeId} {args : Array Value} {ds : List (DataW H)} {p : List MemPlace} (hts : tysOf (tabT tab) ts = some (c.ps.map (·.2))) (h : DataW.TrodAll enc P w base spare held ts args.toList ds p)
    (hval : ∀ (j : Nat) t v, ts[j]? = some t → args[j]? = some v → Value.okWide P w r b0 t v) {vt : List TypeId} {gs : List (DataW H)} (hgs : vt = [] ∨ gs = []) (hw : (DataW.weightsEach P (ts ++ vt) (ds ++ gs)).all (· ≤ reachBytes) = true) (hl : ts.length = ds.length) :
    Calls P f args w fun e w' => e = .returned (.bool true) ∧ Below w.heap.size w w' := by
  refine law_calls (tab_sound (ok_all hok)).1 (bytes_sound hok) (posB_sound hpos) hg hps (fun x hx => hlaw x (fit_plainAll _ x hE hx)) hts h (fun j t v hj hv => hval j t v hj (by simpa using hv)) ?_
  have key : ∀ (ts : List TypeId) (ds : List (DataW H)), ts.length = ds.length → ∀ m ∈ DataW.weightsEach P ts ds, m ∈ DataW.weightsEach P (ts ++ vt) (ds ++ gs) := by
    intro ts
    induction ts with
    | nil => intro ds hl m hm; cases ds <;> simp [DataW.weightsEach] at hm
    | cons t ts ih =>
      intro ds hl m hm
      cases ds with
      | nil => simp [DataW.weightsEach] at hm
      | cons d ds =>
        simp only [List.cons_append, DataW.weightsEach, List.mem_append] at hm ⊢
        rcases hm with hm | hm
        · exact .inl hm
        · exact .inr (ih ds (by simpa using hl) m hm)
  intro m hm
  have := List.all_eq_true.1 hw m (key ts ds hl m hm)
  simpa using this
end
end Go.Ev
