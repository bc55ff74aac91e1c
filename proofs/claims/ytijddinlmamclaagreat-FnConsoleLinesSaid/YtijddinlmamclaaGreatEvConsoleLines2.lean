/- Part 2 of what the law FnConsoleLines stands on: an evaluator of the model's code, proved sound; the functions as plain texts; their contracts. -/
import Derived.Test.YtijddinlmamclaaGreatChecked
import Derived.Test.YtijddinlmamclaaGreatProg
import Derived.Test.YtijddinlmamclaaGreatRows
import Derived.Below
import Derived.Calls
import Derived.Carry
import Derived.ChangeArms
import Derived.ChangeKeysEq
import Derived.ChangeOld
import Derived.Deep.Quiet
import Derived.KernelRfl
import Derived.Laws.Append
import Derived.Laws.BytesString
import Derived.Laws.MakeOwn
import Derived.Laws.Strings
import Derived.Laws.StructEq
import Derived.OpenShut
import Derived.OrdersHeld
import Derived.ProofKit
import Derived.ShutString
import Derived.SizedLaws
import Derived.Tactics
import Derived.WalkKit
import Derived.WideShapes
import Derived.Test.YtijddinlmamclaaGreatEvConsoleLines1
namespace Go.Pl
open Go.Ev
set_option linter.unusedVariables false
noncomputable section
def QO.g11 (L11 : List ByteArray → Int → Int → List ByteArray → YG → YD → YE → YD → Option YAH) (v37 : List ByteArray) (v38 : Int) (v39 : Int) (q : List ByteArray) (d7 : YD × YE × List YA) (w3 : List YA) (w4 : List YC) (w5 : List YA) : Option YAH :=
 if (decide ((v39 : Int) < v38)) = true then
 if (0 : Int) ≤ v39 ∧ (v39 : Int) < v37.length then
 (Qu.f (v37.getD (v39 : Int).toNat ByteArray.empty)).bind fun r2 =>
 if (!r2.2) = true then
 (Qf.f 6).bind fun r3 =>
 if (⟨#[101, 114, 114, 111, 114, 32]⟩ : ByteArray).size + r3.size ≤ 9223372036854775807 then
 if q.length + ([(⟨#[101, 114, 114, 111, 114, 32]⟩ : ByteArray) ++ r3]).length < room 16 then
 L11 v37 v38 (IntKind.i64.wrap (v39 + 1)) (q ++ ([(⟨#[101, 114, 114, 111, 114, 32]⟩ : ByteArray) ++ r3])) d7 w3 w4 w5
 else
 none
 else
 none
 else
 (Qd.f d7 (r2.1.1, (r2.1.2.1, r2.1.2.2))).bind fun r4 =>
 if ((r4.2.2 : Int) != 0) = true then
 (Qf.f r4.2.2).bind fun r5 =>
 if (⟨#[101, 114, 114, 111, 114, 32]⟩ : ByteArray).size + r5.size ≤ 9223372036854775807 then
 if q.length + ([(⟨#[101, 114, 114, 111, 114, 32]⟩ : ByteArray) ++ r5]).length < room 16 then
 L11 v37 v38 (IntKind.i64.wrap (v39 + 1)) (q ++ ([(⟨#[101, 114, 114, 111, 114, 32]⟩ : ByteArray) ++ r5])) d7 w3 w4 w5
 else
 none
 else
 none
 else if q.length + ([r4.2.1]).length < room 16 then
 L11 v37 v38 (IntKind.i64.wrap (v39 + 1)) (q ++ ([r4.2.1])) r4.1 w3 w4 w5
 else
 none
 else
 none
 else
 some (q, d7, 0)
def QO.l11 (n : Nat) : Nat → List ByteArray → Int → Int → List ByteArray → YG → YD → YE → YD → Option YAH
 | 0 => fun _ _ _ _ _ _ _ _ => none
 | k + 1 => QO.g11 (QO.l11 n k)
def QO.top (I11 : List ByteArray → Int → Int → List ByteArray → YG → YD → YE → YD → Option YAH) (p : ByteArray) : Option YAH :=
 if (decide ((1500 : Int) < (p.size : Int))) = true then
 some ([], ([], ([], [])), 3)
 else
 (QW.f p 10).bind fun r1 =>
 if (0 : Int) ≤ (IntKind.i64.wrap ((r1.length : Int) - 1)) ∧ ((IntKind.i64.wrap ((r1.length : Int) - 1)) : Int) < r1.length then
 if ((r1.getD ((IntKind.i64.wrap ((r1.length : Int) - 1)) : Int).toNat ByteArray.empty).toList == (⟨#[]⟩ : ByteArray).toList) = true then
 if (0 : Int) ≤ (IntKind.i64.wrap ((r1.length : Int) - 1)) ∧ ((IntKind.i64.wrap ((r1.length : Int) - 1)) : Int) ≤ r1.length then
 if (decide ((40 : Int) < ((r1.take ((IntKind.i64.wrap ((r1.length : Int) - 1)) : Int).toNat).length : Int))) = true then
 some ([], ([], ([], [])), 3)
 else
 I11 (r1.take ((IntKind.i64.wrap ((r1.length : Int) - 1)) : Int).toNat) ((r1.take ((IntKind.i64.wrap ((r1.length : Int) - 1)) : Int).toNat).length : Int) 0 [] ([], ([], [])) [] [] []
 else
 none
 else if (decide ((40 : Int) < (r1.length : Int))) = true then
 some ([], ([], ([], [])), 3)
 else
 I11 r1 (r1.length : Int) 0 [] ([], ([], [])) [] [] []
 else
 none
def QO.fn (n : Nat) (p : ByteArray) : Option YAH := QO.top (QO.l11 n n) p
def QO.f (p : ByteArray) : Option YAH := QO.fn NN p
end
end Go.Pl

namespace Go.Pl
open Go.Ev
set_option linter.unusedVariables false
noncomputable section
def Qar.top (p : ByteArray) : Option YAE :=
 (QO.f p).bind fun r1 =>
 some (r1.1, r1.2.2)
def Qar.fn (n : Nat) (p : ByteArray) : Option YAE := Qar.top p
def Qar.f (p : ByteArray) : Option YAE := Qar.fn NN p
end
end Go.Pl

namespace Go.Pl
open Go.Ev
set_option linter.unusedVariables false
noncomputable section
def Qbe.top (p : List Int) : Option Bool :=
 some (decide ((4096 : Int) < (p.length : Int)))
def Qbe.fn (n : Nat) (p : List Int) : Option Bool := Qbe.top p
def Qbe.f (p : List Int) : Option Bool := Qbe.fn NN p
end
end Go.Pl

namespace Go.Pl
open Go.Ev
set_option linter.unusedVariables false
noncomputable section
def Qw.g4 (L4 : List ByteArray → List ByteArray → Int → Option Bool) (a0 : List ByteArray) (b1 : List ByteArray) (i5 : Int) : Option Bool :=
 if (decide ((i5 : Int) < (a0.length : Int))) = true then
 if (0 : Int) ≤ i5 ∧ (i5 : Int) < a0.length then
 if (0 : Int) ≤ i5 ∧ (i5 : Int) < b1.length then
 if (!((a0.getD (i5 : Int).toNat ByteArray.empty).toList == (b1.getD (i5 : Int).toNat ByteArray.empty).toList)) = true then
 some false
 else
 L4 a0 b1 (IntKind.i64.wrap (i5 + 1))
 else
 none
 else
 none
 else
 some true
def Qw.l4 (n : Nat) : Nat → List ByteArray → List ByteArray → Int → Option Bool
 | 0 => fun _ _ _ => none
 | k + 1 => Qw.g4 (Qw.l4 n k)
def Qw.top (I4 : List ByteArray → List ByteArray → Int → Option Bool) (a0 : List ByteArray) (b1 : List ByteArray) : Option Bool :=
 if (((a0.length : Int) : Int) != (b1.length : Int)) = true then
 some false
 else
 I4 a0 b1 0
def Qw.fn (n : Nat) (a0 : List ByteArray) (b1 : List ByteArray) : Option Bool := Qw.top (Qw.l4 n n) a0 b1
def Qw.f (a0 : List ByteArray) (b1 : List ByteArray) : Option Bool := Qw.fn NN a0 b1
end
end Go.Pl

namespace Go.Pl
open Go.Ev
set_option linter.unusedVariables false
noncomputable section
def Qh.top (s0 : List Int × Int × Int) (n1 : Int) : Option YQ :=
 if (decide ((n1 : Int) ≤ 1)) = true then
 some (0, s0)
 else if (decide ((s0.2.1 : Int) < (s0.1.length : Int))) = true then
 if (0 : Int) ≤ s0.2.1 ∧ (s0.2.1 : Int) < s0.1.length then
 if (decide ((n1 : Int) ≤ 256)) = true then
 if (((Int.tmod (IntKind.i64.wrap (s0.2.1 + 1)) 2) : Int) == 0) = true then
 if (0 : Int) ≤ (IntKind.i64.wrap ((IntKind.i64.wrap (s0.2.1 + 1)) - 1)) ∧ ((IntKind.i64.wrap ((IntKind.i64.wrap (s0.2.1 + 1)) - 1)) : Int) < s0.1.length then
 if n1 = 0 then
 none
 else
 some (Int.tmod (IntKind.i64.wrap (s0.1.getD ((IntKind.i64.wrap ((IntKind.i64.wrap (s0.2.1 + 1)) - 1)) : Int).toNat 0)) n1, (s0.1, (IntKind.i64.wrap (s0.2.1 + 1), Int.tmod (IntKind.i64.wrap ((IntKind.i64.wrap (s0.2.2 * 48271)) + 29)) 2147483647)))
 else
 none
 else if n1 = 0 then
 none
 else
 some (Int.tmod (IntKind.i64.wrap ((IntKind.i64.wrap (Int.tdiv (Int.tmod (IntKind.i64.wrap ((IntKind.i64.wrap (s0.2.2 * 48271)) + 29)) 2147483647) 31)) + (IntKind.i64.wrap (s0.1.getD (s0.2.1 : Int).toNat 0)))) n1, (s0.1, (IntKind.i64.wrap (s0.2.1 + 1), Int.tmod (IntKind.i64.wrap ((IntKind.i64.wrap (s0.2.2 * 48271)) + 29)) 2147483647)))
 else if n1 = 0 then
 none
 else
 some (Int.tmod (IntKind.i64.wrap ((IntKind.i64.wrap (Int.tdiv (Int.tmod (IntKind.i64.wrap ((IntKind.i64.wrap (s0.2.2 * 48271)) + 29)) 2147483647) 31)) + (IntKind.i64.wrap (s0.1.getD (s0.2.1 : Int).toNat 0)))) n1, (s0.1, (IntKind.i64.wrap (s0.2.1 + 1), Int.tmod (IntKind.i64.wrap ((IntKind.i64.wrap (s0.2.2 * 48271)) + 29)) 2147483647)))
 else
 none
 else if n1 = 0 then
 none
 else
 some (Int.tmod (IntKind.i64.wrap (Int.tdiv (Int.tmod (IntKind.i64.wrap ((IntKind.i64.wrap (s0.2.2 * 48271)) + 29)) 2147483647) 31)) n1, (s0.1, (s0.2.1, Int.tmod (IntKind.i64.wrap ((IntKind.i64.wrap (s0.2.2 * 48271)) + 29)) 2147483647)))
def Qh.fn (n : Nat) (s0 : List Int × Int × Int) (n1 : Int) : Option YQ := Qh.top s0 n1
def Qh.f (s0 : List Int × Int × Int) (n1 : Int) : Option YQ := Qh.fn NN s0 n1
end
end Go.Pl

namespace Go.Pl
open Go.Ev
set_option linter.unusedVariables false
noncomputable section
def Qae.top (s0 : List Int × Int × Int) (t1 : ByteArray) : Option YF :=
 (Qh.f s0 (IntKind.i64.wrap ((t1.size : Int) + 1))).bind fun r1 =>
 (Qh.f r1.2 8).bind fun r2 =>
 if ((r2.1 : Int) == 0) = true then
 if (0 : Int) ≤ r1.1 ∧ (r1.1 : Int) ≤ t1.size then
 some (t1.extract 0 (r1.1 : Int).toNat, r2.2)
 else
 none
 else if ((r2.1 : Int) == 1) = true then
 if (0 : Int) ≤ r1.1 ∧ (r1.1 : Int) ≤ t1.size then
 if (0 : Int) ≤ r1.1 ∧ (r1.1 : Int) ≤ t1.size then
 (Qh.f r2.2 8).bind fun r3 =>
 if (0 : Int) ≤ r3.1 ∧ (r3.1 : Int) < ([(⟨#[48]⟩ : ByteArray), (⟨#[35]⟩ : ByteArray), (⟨#[46]⟩ : ByteArray), (⟨#[47]⟩ : ByteArray), (⟨#[32]⟩ : ByteArray), (⟨#[97]⟩ : ByteArray), (⟨#[45]⟩ : ByteArray), (⟨#[10]⟩ : ByteArray)]).length then
 if (t1.extract 0 (r1.1 : Int).toNat).size + (([(⟨#[48]⟩ : ByteArray), (⟨#[35]⟩ : ByteArray), (⟨#[46]⟩ : ByteArray), (⟨#[47]⟩ : ByteArray), (⟨#[32]⟩ : ByteArray), (⟨#[97]⟩ : ByteArray), (⟨#[45]⟩ : ByteArray), (⟨#[10]⟩ : ByteArray)]).getD (r3.1 : Int).toNat ByteArray.empty).size ≤ 9223372036854775807 then
 if ((t1.extract 0 (r1.1 : Int).toNat) ++ (([(⟨#[48]⟩ : ByteArray), (⟨#[35]⟩ : ByteArray), (⟨#[46]⟩ : ByteArray), (⟨#[47]⟩ : ByteArray), (⟨#[32]⟩ : ByteArray), (⟨#[97]⟩ : ByteArray), (⟨#[45]⟩ : ByteArray), (⟨#[10]⟩ : ByteArray)]).getD (r3.1 : Int).toNat ByteArray.empty)).size + (t1.extract (r1.1 : Int).toNat t1.size).size ≤ 9223372036854775807 then
 some (((t1.extract 0 (r1.1 : Int).toNat) ++ (([(⟨#[48]⟩ : ByteArray), (⟨#[35]⟩ : ByteArray), (⟨#[46]⟩ : ByteArray), (⟨#[47]⟩ : ByteArray), (⟨#[32]⟩ : ByteArray), (⟨#[97]⟩ : ByteArray), (⟨#[45]⟩ : ByteArray), (⟨#[10]⟩ : ByteArray)]).getD (r3.1 : Int).toNat ByteArray.empty)) ++ (t1.extract (r1.1 : Int).toNat t1.size), r3.2)
 else
 none
 else
 none
 else
 none
 else
 none
 else
 none
 else if ((r2.1 : Int) == 2) = true then
 if (decide ((r1.1 : Int) < (t1.size : Int))) = true then
 if (0 : Int) ≤ r1.1 ∧ (r1.1 : Int) ≤ t1.size then
 if (0 : Int) ≤ (IntKind.i64.wrap (r1.1 + 1)) ∧ ((IntKind.i64.wrap (r1.1 + 1)) : Int) ≤ t1.size then
 if (t1.extract 0 (r1.1 : Int).toNat).size + (t1.extract ((IntKind.i64.wrap (r1.1 + 1)) : Int).toNat t1.size).size ≤ 9223372036854775807 then
 some ((t1.extract 0 (r1.1 : Int).toNat) ++ (t1.extract ((IntKind.i64.wrap (r1.1 + 1)) : Int).toNat t1.size), r2.2)
 else
 none
 else
 none
 else
 none
 else
 some (t1, r2.2)
 else
 some (t1, r2.2)
def Qae.fn (n : Nat) (s0 : List Int × Int × Int) (t1 : ByteArray) : Option YF := Qae.top s0 t1
def Qae.f (s0 : List Int × Int × Int) (t1 : ByteArray) : Option YF := Qae.fn NN s0 t1
end
end Go.Pl

namespace Go.Pl
open Go.Ev
set_option linter.unusedVariables false
noncomputable section
def QU.g3 (L3 : List Int → Int → List Int → Int → Int → Option YP) (p : List Int) (i4 : Int) (s3a : List Int) (q : Int) (r : Int) : Option YP :=
 if (decide ((i4 : Int) < (p.length : Int))) = true then
 if (decide ((i4 : Int) < 64)) = true then
 if (0 : Int) ≤ i4 ∧ (i4 : Int) < p.length then
 L3 p (IntKind.i64.wrap (i4 + 1)) s3a q (Int.tmod (IntKind.i64.wrap ((IntKind.i64.wrap (r * 83)) + (IntKind.i64.wrap (p.getD (i4 : Int).toNat 0)))) 2147483647)
 else
 none
 else
 some (s3a, (q, r))
 else
 some (s3a, (q, r))
def QU.l3 (n : Nat) : Nat → List Int → Int → List Int → Int → Int → Option YP
 | 0 => fun _ _ _ _ _ => none
 | k + 1 => QU.g3 (QU.l3 n k)
def QU.top (I3 : List Int → Int → List Int → Int → Int → Option YP) (p : List Int) : Option YP :=
 I3 p 0 p 0 61043
def QU.fn (n : Nat) (p : List Int) : Option YP := QU.top (QU.l3 n n) p
def QU.f (p : List Int) : Option YP := QU.fn NN p
end
end Go.Pl

namespace Go.Pl
open Go.Ev
set_option linter.unusedVariables false
noncomputable section
def Qe.top (S : Int → Option ByteArray) (n0 : Int) : Option ByteArray :=
 if (decide ((n0 : Int) < 10)) = true then
 some (bytesOf ([IntKind.u8.wrap (IntKind.i64.wrap (48 + n0))]))
 else
 (S (IntKind.i64.wrap (Int.tdiv n0 10))).bind fun r1 =>
 if r1.size + (bytesOf ([IntKind.u8.wrap (IntKind.i64.wrap (48 + (Int.tmod n0 10)))])).size ≤ 9223372036854775807 then
 some (r1 ++ (bytesOf ([IntKind.u8.wrap (IntKind.i64.wrap (48 + (Int.tmod n0 10)))])))
 else
 none
def Qe.fn (S : Int → Option ByteArray) (n : Nat) (n0 : Int) : Option ByteArray := (Qe.top S) n0
def Qe.rc : Nat → Int → Option ByteArray
 | 0 => fun _ => none
 | k + 1 => (Qe.fn (Qe.rc k)) NN
def Qe.f (n0 : Int) : Option ByteArray := Qe.rc NN n0
end
end Go.Pl

namespace Go.Pl
open Go.Ev
set_option linter.unusedVariables false
noncomputable section
def QaD.top (n0 : Int) : Option ByteArray :=
 if (decide ((n0 : Int) < 0)) = true then
 (Qe.f (IntKind.i64.wrap (0 - n0))).bind fun r1 =>
 if (⟨#[45]⟩ : ByteArray).size + r1.size ≤ 9223372036854775807 then
 some ((⟨#[45]⟩ : ByteArray) ++ r1)
 else
 none
 else
 (Qe.f n0).bind fun r2 =>
 some r2
def QaD.fn (n : Nat) (n0 : Int) : Option ByteArray := QaD.top n0
def QaD.f (n0 : Int) : Option ByteArray := QaD.fn NN n0
end
end Go.Pl

namespace Go.Pl
open Go.Ev
set_option linter.unusedVariables false
noncomputable section
def QaE.top (s0 : List Int × Int × Int) (p : List Int) : Option YQ :=
 (Qh.f s0 (p.length : Int)).bind fun r1 =>
 if (0 : Int) ≤ r1.1 ∧ (r1.1 : Int) < p.length then
 some (p.getD (r1.1 : Int).toNat 0, r1.2)
 else
 none
def QaE.fn (n : Nat) (s0 : List Int × Int × Int) (p : List Int) : Option YQ := QaE.top s0 p
def QaE.f (s0 : List Int × Int × Int) (p : List Int) : Option YQ := QaE.fn NN s0 p
end
end Go.Pl

namespace Go.Pl
open Go.Ev
set_option linter.unusedVariables false
noncomputable section
def QaQ.top  : Option YH :=
 some ([(⟨#[97, 115, 116, 101, 114]⟩ : ByteArray), (⟨#[99, 111, 109, 101, 116]⟩ : ByteArray), (⟨#[100, 97, 104, 108, 105, 97]⟩ : ByteArray), (⟨#[112, 97, 108, 109]⟩ : ByteArray), (⟨#[112, 101, 111, 110, 121]⟩ : ByteArray), (⟨#[119, 105, 108, 108, 111, 119]⟩ : ByteArray)])
def QaQ.fn (n : Nat)  : Option YH := QaQ.top 
def QaQ.f  : Option YH := QaQ.fn NN 
end
end Go.Pl

namespace Go.Pl
open Go.Ev
set_option linter.unusedVariables false
noncomputable section
def QaZ.top (s0 : List Int × Int × Int) : Option YF :=
 (Qh.f s0 3).bind fun r1 =>
 if (0 : Int) ≤ r1.1 ∧ (r1.1 : Int) < ([(⟨#[98, 97, 110, 107]⟩ : ByteArray), (⟨#[102, 105, 101, 108, 100]⟩ : ByteArray), (⟨#[114, 105, 118, 101, 114]⟩ : ByteArray)]).length then
 some (([(⟨#[98, 97, 110, 107]⟩ : ByteArray), (⟨#[102, 105, 101, 108, 100]⟩ : ByteArray), (⟨#[114, 105, 118, 101, 114]⟩ : ByteArray)]).getD (r1.1 : Int).toNat ByteArray.empty, r1.2)
 else
 none
def QaZ.fn (n : Nat) (s0 : List Int × Int × Int) : Option YF := QaZ.top s0
def QaZ.f (s0 : List Int × Int × Int) : Option YF := QaZ.fn NN s0
end
end Go.Pl

namespace Go.Pl
open Go.Ev
set_option linter.unusedVariables false
noncomputable section
def QaI.top  : Option YH :=
 some ([(⟨#[107, 101, 121, 97]⟩ : ByteArray), (⟨#[107, 101, 121, 98]⟩ : ByteArray), (⟨#[97, 114, 109]⟩ : ByteArray), (⟨#[100, 105, 115, 97, 114, 109]⟩ : ByteArray), (⟨#[104, 111, 108, 100]⟩ : ByteArray), (⟨#[114, 101, 115, 117, 109, 101]⟩ : ByteArray), (⟨#[115, 116, 111, 112]⟩ : ByteArray), (⟨#[112, 114, 101, 115, 115]⟩ : ByteArray), (⟨#[116, 105, 99, 107]⟩ : ByteArray), (⟨#[114, 101, 115, 101, 116]⟩ : ByteArray)])
def QaI.fn (n : Nat)  : Option YH := QaI.top 
def QaI.f  : Option YH := QaI.fn NN 
end
end Go.Pl

namespace Go.Pl
open Go.Ev
set_option linter.unusedVariables false
noncomputable section
def Qc.g1000016 (L1000016 : YAK) (p : ByteArray) (r : ByteArray) (v18 : Int) (v58 : Bool) (s0 : List Int × Int × Int) : Option YF :=
 if v58 = true then
 (QaI.f).bind fun r17 =>
 (QaE.f s0 ([2, 2, 4, 5, 6, 7, 7])).bind fun r18 =>
 if (0 : Int) ≤ r18.1 ∧ (r18.1 : Int) < r17.length then
 agree (
 if (⟨#[115, 105, 103, 110, 97, 108, 32]⟩ : ByteArray).size + (r17.getD (r18.1 : Int).toNat ByteArray.empty).size ≤ 9223372036854775807 then
 if ((⟨#[115, 105, 103, 110, 97, 108, 32]⟩ : ByteArray) ++ (r17.getD (r18.1 : Int).toNat ByteArray.empty)).size + (⟨#[32]⟩ : ByteArray).size ≤ 9223372036854775807 then
 (Qh.f r18.2 9).bind fun r19 =>
 (Qe.f (IntKind.i64.wrap (3 + r19.1))).bind fun r20 =>
 if (((⟨#[115, 105, 103, 110, 97, 108, 32]⟩ : ByteArray) ++ (r17.getD (r18.1 : Int).toNat ByteArray.empty)) ++ (⟨#[32]⟩ : ByteArray)).size + r20.size ≤ 9223372036854775807 then
 some ((((⟨#[115, 105, 103, 110, 97, 108, 32]⟩ : ByteArray) ++ (r17.getD (r18.1 : Int).toNat ByteArray.empty)) ++ (⟨#[32]⟩ : ByteArray)) ++ r20, r19.2)
 else
 none
 else
 none
 else
 none
 ) (
 (Qh.f r18.2 9).bind fun r19 =>
 if (⟨#[115, 105, 103, 110, 97, 108, 32]⟩ : ByteArray).size + (r17.getD (r18.1 : Int).toNat ByteArray.empty).size ≤ 9223372036854775807 then
 if ((⟨#[115, 105, 103, 110, 97, 108, 32]⟩ : ByteArray) ++ (r17.getD (r18.1 : Int).toNat ByteArray.empty)).size + (⟨#[32]⟩ : ByteArray).size ≤ 9223372036854775807 then
 (Qe.f (IntKind.i64.wrap (3 + r19.1))).bind fun r20 =>
 if (((⟨#[115, 105, 103, 110, 97, 108, 32]⟩ : ByteArray) ++ (r17.getD (r18.1 : Int).toNat ByteArray.empty)) ++ (⟨#[32]⟩ : ByteArray)).size + r20.size ≤ 9223372036854775807 then
 some ((((⟨#[115, 105, 103, 110, 97, 108, 32]⟩ : ByteArray) ++ (r17.getD (r18.1 : Int).toNat ByteArray.empty)) ++ (⟨#[32]⟩ : ByteArray)) ++ r20, r19.2)
 else
 none
 else
 none
 else
 none
 )
 else
 none
 else if ((v18 : Int) == 7) = true then
 agree (
 (Qh.f s0 2).bind fun r21 =>
 if (0 : Int) ≤ r21.1 ∧ (r21.1 : Int) < ([(⟨#[115, 116, 97, 116, 101, 32]⟩ : ByteArray), (⟨#[102, 105, 114, 101, 32]⟩ : ByteArray)]).length then
 (Qh.f r21.2 12).bind fun r22 =>
 (Qe.f r22.1).bind fun r23 =>
 if (([(⟨#[115, 116, 97, 116, 101, 32]⟩ : ByteArray), (⟨#[102, 105, 114, 101, 32]⟩ : ByteArray)]).getD (r21.1 : Int).toNat ByteArray.empty).size + r23.size ≤ 9223372036854775807 then
 some ((([(⟨#[115, 116, 97, 116, 101, 32]⟩ : ByteArray), (⟨#[102, 105, 114, 101, 32]⟩ : ByteArray)]).getD (r21.1 : Int).toNat ByteArray.empty) ++ r23, r22.2)
 else
 none
 else
 none
 ) (
 (Qh.f s0 2).bind fun r21 =>
 agree (
 if (0 : Int) ≤ r21.1 ∧ (r21.1 : Int) < ([(⟨#[115, 116, 97, 116, 101, 32]⟩ : ByteArray), (⟨#[102, 105, 114, 101, 32]⟩ : ByteArray)]).length then
 (Qh.f r21.2 12).bind fun r22 =>
 (Qe.f r22.1).bind fun r23 =>
 if (([(⟨#[115, 116, 97, 116, 101, 32]⟩ : ByteArray), (⟨#[102, 105, 114, 101, 32]⟩ : ByteArray)]).getD (r21.1 : Int).toNat ByteArray.empty).size + r23.size ≤ 9223372036854775807 then
 some ((([(⟨#[115, 116, 97, 116, 101, 32]⟩ : ByteArray), (⟨#[102, 105, 114, 101, 32]⟩ : ByteArray)]).getD (r21.1 : Int).toNat ByteArray.empty) ++ r23, r22.2)
 else
 none
 else
 none
 ) (
 (Qh.f r21.2 12).bind fun r22 =>
 agree (
 if (0 : Int) ≤ r21.1 ∧ (r21.1 : Int) < ([(⟨#[115, 116, 97, 116, 101, 32]⟩ : ByteArray), (⟨#[102, 105, 114, 101, 32]⟩ : ByteArray)]).length then
 (Qe.f r22.1).bind fun r23 =>
 if (([(⟨#[115, 116, 97, 116, 101, 32]⟩ : ByteArray), (⟨#[102, 105, 114, 101, 32]⟩ : ByteArray)]).getD (r21.1 : Int).toNat ByteArray.empty).size + r23.size ≤ 9223372036854775807 then
 some ((([(⟨#[115, 116, 97, 116, 101, 32]⟩ : ByteArray), (⟨#[102, 105, 114, 101, 32]⟩ : ByteArray)]).getD (r21.1 : Int).toNat ByteArray.empty) ++ r23, r22.2)
 else
 none
 else
 none
 ) (
 (Qe.f r22.1).bind fun r23 =>
 if (0 : Int) ≤ r21.1 ∧ (r21.1 : Int) < ([(⟨#[115, 116, 97, 116, 101, 32]⟩ : ByteArray), (⟨#[102, 105, 114, 101, 32]⟩ : ByteArray)]).length then
 if (([(⟨#[115, 116, 97, 116, 101, 32]⟩ : ByteArray), (⟨#[102, 105, 114, 101, 32]⟩ : ByteArray)]).getD (r21.1 : Int).toNat ByteArray.empty).size + r23.size ≤ 9223372036854775807 then
 some ((([(⟨#[115, 116, 97, 116, 101, 32]⟩ : ByteArray), (⟨#[102, 105, 114, 101, 32]⟩ : ByteArray)]).getD (r21.1 : Int).toNat ByteArray.empty) ++ r23, r22.2)
 else
 none
 else
 none
 )
 )
 )
 else if ((v18 : Int) == 8) = true then
 (Qh.f s0 1200).bind fun r24 =>
 (Qe.f r24.1).bind fun r25 =>
 if (⟨#[102, 105, 114, 101, 32]⟩ : ByteArray).size + r25.size ≤ 9223372036854775807 then
 some ((⟨#[102, 105, 114, 101, 32]⟩ : ByteArray) ++ r25, r24.2)
 else
 none
 else if ((v18 : Int) == 9) = true then
 if (⟨#[98, 111, 111, 107, 32, 105, 110, 32]⟩ : ByteArray).size + p.size ≤ 9223372036854775807 then
 if ((⟨#[98, 111, 111, 107, 32, 105, 110, 32]⟩ : ByteArray) ++ p).size + (⟨#[32]⟩ : ByteArray).size ≤ 9223372036854775807 then
 if (((⟨#[98, 111, 111, 107, 32, 105, 110, 32]⟩ : ByteArray) ++ p) ++ (⟨#[32]⟩ : ByteArray)).size + r.size ≤ 9223372036854775807 then
 some ((((⟨#[98, 111, 111, 107, 32, 105, 110, 32]⟩ : ByteArray) ++ p) ++ (⟨#[32]⟩ : ByteArray)) ++ r, s0)
 else
 none
 else
 none
 else
 none
 else if ((v18 : Int) == 10) = true then
 (Qh.f s0 3).bind fun r26 =>
 if (0 : Int) ≤ r26.1 ∧ (r26.1 : Int) < ([(⟨#[102, 105, 114, 101, 100]⟩ : ByteArray), (⟨#[114, 101, 116, 117, 114, 110, 101, 100]⟩ : ByteArray), (⟨#[100, 101, 115, 116, 114, 111, 121, 101, 100]⟩ : ByteArray)]).length then
 if (⟨#[98, 111, 111, 107, 32]⟩ : ByteArray).size + (([(⟨#[102, 105, 114, 101, 100]⟩ : ByteArray), (⟨#[114, 101, 116, 117, 114, 110, 101, 100]⟩ : ByteArray), (⟨#[100, 101, 115, 116, 114, 111, 121, 101, 100]⟩ : ByteArray)]).getD (r26.1 : Int).toNat ByteArray.empty).size ≤ 9223372036854775807 then
 if ((⟨#[98, 111, 111, 107, 32]⟩ : ByteArray) ++ (([(⟨#[102, 105, 114, 101, 100]⟩ : ByteArray), (⟨#[114, 101, 116, 117, 114, 110, 101, 100]⟩ : ByteArray), (⟨#[100, 101, 115, 116, 114, 111, 121, 101, 100]⟩ : ByteArray)]).getD (r26.1 : Int).toNat ByteArray.empty)).size + (⟨#[32]⟩ : ByteArray).size ≤ 9223372036854775807 then
 if (((⟨#[98, 111, 111, 107, 32]⟩ : ByteArray) ++ (([(⟨#[102, 105, 114, 101, 100]⟩ : ByteArray), (⟨#[114, 101, 116, 117, 114, 110, 101, 100]⟩ : ByteArray), (⟨#[100, 101, 115, 116, 114, 111, 121, 101, 100]⟩ : ByteArray)]).getD (r26.1 : Int).toNat ByteArray.empty)) ++ (⟨#[32]⟩ : ByteArray)).size + p.size ≤ 9223372036854775807 then
 if ((((⟨#[98, 111, 111, 107, 32]⟩ : ByteArray) ++ (([(⟨#[102, 105, 114, 101, 100]⟩ : ByteArray), (⟨#[114, 101, 116, 117, 114, 110, 101, 100]⟩ : ByteArray), (⟨#[100, 101, 115, 116, 114, 111, 121, 101, 100]⟩ : ByteArray)]).getD (r26.1 : Int).toNat ByteArray.empty)) ++ (⟨#[32]⟩ : ByteArray)) ++ p).size + (⟨#[32]⟩ : ByteArray).size ≤ 9223372036854775807 then
 if (((((⟨#[98, 111, 111, 107, 32]⟩ : ByteArray) ++ (([(⟨#[102, 105, 114, 101, 100]⟩ : ByteArray), (⟨#[114, 101, 116, 117, 114, 110, 101, 100]⟩ : ByteArray), (⟨#[100, 101, 115, 116, 114, 111, 121, 101, 100]⟩ : ByteArray)]).getD (r26.1 : Int).toNat ByteArray.empty)) ++ (⟨#[32]⟩ : ByteArray)) ++ p) ++ (⟨#[32]⟩ : ByteArray)).size + r.size ≤ 9223372036854775807 then
 some ((((((⟨#[98, 111, 111, 107, 32]⟩ : ByteArray) ++ (([(⟨#[102, 105, 114, 101, 100]⟩ : ByteArray), (⟨#[114, 101, 116, 117, 114, 110, 101, 100]⟩ : ByteArray), (⟨#[100, 101, 115, 116, 114, 111, 121, 101, 100]⟩ : ByteArray)]).getD (r26.1 : Int).toNat ByteArray.empty)) ++ (⟨#[32]⟩ : ByteArray)) ++ p) ++ (⟨#[32]⟩ : ByteArray)) ++ r, r26.2)
 else
 none
 else
 none
 else
 none
 else
 none
 else
 none
 else
 none
 else if ((v18 : Int) == 11) = true then
 if (⟨#[108, 101, 102, 116, 32]⟩ : ByteArray).size + p.size ≤ 9223372036854775807 then
 (Qh.f s0 2).bind fun r27 =>
 if (0 : Int) ≤ r27.1 ∧ (r27.1 : Int) < ([(⟨#[108, 101, 102, 116, 32]⟩ : ByteArray) ++ p, (⟨#[111, 112, 101, 110]⟩ : ByteArray)]).length then
 some (([(⟨#[108, 101, 102, 116, 32]⟩ : ByteArray) ++ p, (⟨#[111, 112, 101, 110]⟩ : ByteArray)]).getD (r27.1 : Int).toNat ByteArray.empty, r27.2)
 else
 none
 else
 none
 else if ((v18 : Int) == 12) = true then
 (Qh.f s0 4).bind fun r28 =>
 (Qe.f r28.1).bind fun r29 =>
 if (⟨#[115, 101, 116, 116, 108, 101, 32]⟩ : ByteArray).size + r29.size ≤ 9223372036854775807 then
 (Qh.f r28.2 5000).bind fun r30 =>
 (Qe.f r30.1).bind fun r31 =>
 if (⟨#[110, 101, 101, 100, 32, 49, 50, 32]⟩ : ByteArray).size + r31.size ≤ 9223372036854775807 then
 (Qh.f r30.2 2).bind fun r32 =>
 if (0 : Int) ≤ r32.1 ∧ (r32.1 : Int) < ([(⟨#[115, 101, 116, 116, 108, 101, 32]⟩ : ByteArray) ++ r29, (⟨#[110, 101, 101, 100, 32, 49, 50, 32]⟩ : ByteArray) ++ r31]).length then
 some (([(⟨#[115, 101, 116, 116, 108, 101, 32]⟩ : ByteArray) ++ r29, (⟨#[110, 101, 101, 100, 32, 49, 50, 32]⟩ : ByteArray) ++ r31]).getD (r32.1 : Int).toNat ByteArray.empty, r32.2)
 else
 none
 else
 none
 else
 none
 else
 agree (
 (Qh.f s0 2).bind fun r33 =>
 if (0 : Int) ≤ r33.1 ∧ (r33.1 : Int) < ([(⟨#[116, 111, 112, 32]⟩ : ByteArray), (⟨#[116, 105, 109, 101, 32]⟩ : ByteArray)]).length then
 (Qh.f r33.2 90000).bind fun r34 =>
 (Qe.f r34.1).bind fun r35 =>
 if (([(⟨#[116, 111, 112, 32]⟩ : ByteArray), (⟨#[116, 105, 109, 101, 32]⟩ : ByteArray)]).getD (r33.1 : Int).toNat ByteArray.empty).size + r35.size ≤ 9223372036854775807 then
 some ((([(⟨#[116, 111, 112, 32]⟩ : ByteArray), (⟨#[116, 105, 109, 101, 32]⟩ : ByteArray)]).getD (r33.1 : Int).toNat ByteArray.empty) ++ r35, r34.2)
 else
 none
 else
 none
 ) (
 (Qh.f s0 2).bind fun r33 =>
 agree (
 if (0 : Int) ≤ r33.1 ∧ (r33.1 : Int) < ([(⟨#[116, 111, 112, 32]⟩ : ByteArray), (⟨#[116, 105, 109, 101, 32]⟩ : ByteArray)]).length then
 (Qh.f r33.2 90000).bind fun r34 =>
 (Qe.f r34.1).bind fun r35 =>
 if (([(⟨#[116, 111, 112, 32]⟩ : ByteArray), (⟨#[116, 105, 109, 101, 32]⟩ : ByteArray)]).getD (r33.1 : Int).toNat ByteArray.empty).size + r35.size ≤ 9223372036854775807 then
 some ((([(⟨#[116, 111, 112, 32]⟩ : ByteArray), (⟨#[116, 105, 109, 101, 32]⟩ : ByteArray)]).getD (r33.1 : Int).toNat ByteArray.empty) ++ r35, r34.2)
 else
 none
 else
 none
 ) (
 (Qh.f r33.2 90000).bind fun r34 =>
 agree (
 if (0 : Int) ≤ r33.1 ∧ (r33.1 : Int) < ([(⟨#[116, 111, 112, 32]⟩ : ByteArray), (⟨#[116, 105, 109, 101, 32]⟩ : ByteArray)]).length then
 (Qe.f r34.1).bind fun r35 =>
 if (([(⟨#[116, 111, 112, 32]⟩ : ByteArray), (⟨#[116, 105, 109, 101, 32]⟩ : ByteArray)]).getD (r33.1 : Int).toNat ByteArray.empty).size + r35.size ≤ 9223372036854775807 then
 some ((([(⟨#[116, 111, 112, 32]⟩ : ByteArray), (⟨#[116, 105, 109, 101, 32]⟩ : ByteArray)]).getD (r33.1 : Int).toNat ByteArray.empty) ++ r35, r34.2)
 else
 none
 else
 none
 ) (
 (Qe.f r34.1).bind fun r35 =>
 if (0 : Int) ≤ r33.1 ∧ (r33.1 : Int) < ([(⟨#[116, 111, 112, 32]⟩ : ByteArray), (⟨#[116, 105, 109, 101, 32]⟩ : ByteArray)]).length then
 if (([(⟨#[116, 111, 112, 32]⟩ : ByteArray), (⟨#[116, 105, 109, 101, 32]⟩ : ByteArray)]).getD (r33.1 : Int).toNat ByteArray.empty).size + r35.size ≤ 9223372036854775807 then
 some ((([(⟨#[116, 111, 112, 32]⟩ : ByteArray), (⟨#[116, 105, 109, 101, 32]⟩ : ByteArray)]).getD (r33.1 : Int).toNat ByteArray.empty) ++ r35, r34.2)
 else
 none
 else
 none
 )
 )
 )
def Qc.l1000016 (n : Nat) : Nat → ByteArray → ByteArray → Int → Bool → YP → Option YF
 | 0 => fun _ _ _ _ _ => none
 | k + 1 => Qc.g1000016 (Qc.l1000016 n k)
theorem Qc.c1000016 {n : Nat} (h : 0 < n) : Qc.l1000016 n n = Qc.g1000016 (Qc.l1000016 n (n - 1)) := by
  cases n with
  | zero => exact absurd h (Nat.lt_irrefl 0)
  | succ n => rfl
def Qc.g1000007 (I1000016 : YAK) (L1000007 : ByteArray → ByteArray → ByteArray → Int → Bool → YP → Option YF) (q : ByteArray) (p : ByteArray) (r : ByteArray) (v18 : Int) (v19 : Bool) (s0 : List Int × Int × Int) : Option YF :=
 if v19 = true then
 if (⟨#[112, 101, 111, 112, 108, 101, 32]⟩ : ByteArray).size + q.size ≤ 9223372036854775807 then
 if ((⟨#[112, 101, 111, 112, 108, 101, 32]⟩ : ByteArray) ++ q).size + (⟨#[32]⟩ : ByteArray).size ≤ 9223372036854775807 then
 (Qh.f s0 30).bind fun r7 =>
 (Qe.f (IntKind.i64.wrap (1000 * r7.1))).bind fun r8 =>
 if (((⟨#[112, 101, 111, 112, 108, 101, 32]⟩ : ByteArray) ++ q) ++ (⟨#[32]⟩ : ByteArray)).size + r8.size ≤ 9223372036854775807 then
 if ((((⟨#[112, 101, 111, 112, 108, 101, 32]⟩ : ByteArray) ++ q) ++ (⟨#[32]⟩ : ByteArray)) ++ r8).size + (⟨#[32]⟩ : ByteArray).size ≤ 9223372036854775807 then
 (QaE.f r7.2 ([1, 2, (-1), (-2)])).bind fun r9 =>
 (QaD.f r9.1).bind fun r10 =>
 if (((((⟨#[112, 101, 111, 112, 108, 101, 32]⟩ : ByteArray) ++ q) ++ (⟨#[32]⟩ : ByteArray)) ++ r8) ++ (⟨#[32]⟩ : ByteArray)).size + r10.size ≤ 9223372036854775807 then
 some ((((((⟨#[112, 101, 111, 112, 108, 101, 32]⟩ : ByteArray) ++ q) ++ (⟨#[32]⟩ : ByteArray)) ++ r8) ++ (⟨#[32]⟩ : ByteArray)) ++ r10, r9.2)
 else
 none
 else
 none
 else
 none
 else
 none
 else
 none
 else if ((v18 : Int) == 2) = true then
 if (⟨#[99, 108, 101, 97, 114, 32]⟩ : ByteArray).size + q.size ≤ 9223372036854775807 then
 if ((⟨#[99, 108, 101, 97, 114, 32]⟩ : ByteArray) ++ q).size + (⟨#[32]⟩ : ByteArray).size ≤ 9223372036854775807 then
 (Qh.f s0 60).bind fun r11 =>
 (Qe.f (IntKind.i64.wrap (1000 * r11.1))).bind fun r12 =>
 if (((⟨#[99, 108, 101, 97, 114, 32]⟩ : ByteArray) ++ q) ++ (⟨#[32]⟩ : ByteArray)).size + r12.size ≤ 9223372036854775807 then
 some ((((⟨#[99, 108, 101, 97, 114, 32]⟩ : ByteArray) ++ q) ++ (⟨#[32]⟩ : ByteArray)) ++ r12, r11.2)
 else
 none
 else
 none
 else
 none
 else if ((v18 : Int) == 3) = true then
 (Qh.f s0 3).bind fun r13 =>
 (Qe.f r13.1).bind fun r14 =>
 if (⟨#[115, 105, 103, 110, 97, 108, 32, 107, 101, 121, 97, 32]⟩ : ByteArray).size + r14.size ≤ 9223372036854775807 then
 some ((⟨#[115, 105, 103, 110, 97, 108, 32, 107, 101, 121, 97, 32]⟩ : ByteArray) ++ r14, r13.2)
 else
 none
 else if ((v18 : Int) == 4) = true then
 (Qh.f s0 3).bind fun r15 =>
 (Qe.f r15.1).bind fun r16 =>
 if (⟨#[115, 105, 103, 110, 97, 108, 32, 107, 101, 121, 98, 32]⟩ : ByteArray).size + r16.size ≤ 9223372036854775807 then
 some ((⟨#[115, 105, 103, 110, 97, 108, 32, 107, 101, 121, 98, 32]⟩ : ByteArray) ++ r16, r15.2)
 else
 none
 else if ((v18 : Int) == 5) = true then
 I1000016 p r v18 ((v18 : Int) == 5) s0
 else
 I1000016 p r v18 ((v18 : Int) == 6) s0
def Qc.l1000007 (n : Nat) : Nat → ByteArray → ByteArray → ByteArray → Int → Bool → YP → Option YF
 | 0 => fun _ _ _ _ _ _ => none
 | k + 1 => Qc.g1000007 (Qc.l1000016 n n) (Qc.l1000007 n k)
theorem Qc.c1000007 {n : Nat} (h : 0 < n) : Qc.l1000007 n n = Qc.g1000007 (Qc.l1000016 n n) (Qc.l1000007 n (n - 1)) := by
  cases n with
  | zero => exact absurd h (Nat.lt_irrefl 0)
  | succ n => rfl
def Qc.top (I1000007 : ByteArray → ByteArray → ByteArray → Int → Bool → YP → Option YF) (s0 : List Int × Int × Int) : Option YF :=
 (QaZ.f s0).bind fun r1 =>
 (QaQ.f).bind fun r2 =>
 (Qh.f r1.2 3).bind fun r3 =>
 if (0 : Int) ≤ r3.1 ∧ (r3.1 : Int) < r2.length then
 (Qh.f r3.2 9).bind fun r4 =>
 (Qe.f (IntKind.i64.wrap (1 + r4.1))).bind fun r5 =>
 (Qh.f r4.2 14).bind fun r6 =>
 if ((r6.1 : Int) == 0) = true then
 I1000007 r1.1 (r2.getD (r3.1 : Int).toNat ByteArray.empty) r5 r6.1 ((r6.1 : Int) == 0) r6.2
 else
 I1000007 r1.1 (r2.getD (r3.1 : Int).toNat ByteArray.empty) r5 r6.1 ((r6.1 : Int) == 1) r6.2
 else
 none
def Qc.fn (n : Nat) (s0 : List Int × Int × Int) : Option YF := Qc.top (Qc.l1000007 n n) s0
def Qc.f (s0 : List Int × Int × Int) : Option YF := Qc.fn NN s0
end
end Go.Pl

namespace Go.Pl
open Go.Ev
set_option linter.unusedVariables false
noncomputable section
def Q7.top (p : List Int) : Option ByteArray :=
 (QU.f p).bind fun r1 =>
 (Qc.f r1).bind fun r2 =>
 (Qh.f r2.2 2).bind fun r3 =>
 if ((r3.1 : Int) == 0) = true then
 (Qae.f r3.2 r2.1).bind fun r4 =>
 some r4.1
 else
 some r2.1
def Q7.fn (n : Nat) (p : List Int) : Option ByteArray := Q7.top p
def Q7.f (p : List Int) : Option ByteArray := Q7.fn NN p
end
end Go.Pl

namespace Go.Pl
open Go.Ev
set_option linter.unusedVariables false
noncomputable section
def Qn.g12 (L12 : ByteArray → Int → YP → Option YF) (t3 : ByteArray) (k6 : Int) (w0 : List Int × Int × Int) : Option YF :=
 if (decide ((k6 : Int) < 36)) = true then
 if t3.size + (⟨#[111, 112, 101, 110, 10]⟩ : ByteArray).size ≤ 9223372036854775807 then
 L12 (t3 ++ (⟨#[111, 112, 101, 110, 10]⟩ : ByteArray)) (IntKind.i64.wrap (k6 + 1)) w0
 else
 none
 else
 some (t3, w0)
def Qn.l12 (n : Nat) : Nat → ByteArray → Int → YP → Option YF
 | 0 => fun _ _ _ => none
 | k + 1 => Qn.g12 (Qn.l12 n k)
def Qn.g3 (I12 : ByteArray → Int → YP → Option YF) (L3 : ByteArray → Int → YP → Option YF) (t3 : ByteArray) (n4 : Int) (s0 : List Int × Int × Int) : Option YF :=
 if (decide ((0 : Int) < n4)) = true then
 (Qc.f s0).bind fun r2 =>
 (Qh.f r2.2 16).bind fun r3 =>
 if ((r3.1 : Int) == 0) = true then
 (Qae.f r3.2 r2.1).bind fun r4 =>
 if t3.size + r4.1.size ≤ 9223372036854775807 then
 if (t3 ++ r4.1).size + (⟨#[10]⟩ : ByteArray).size ≤ 9223372036854775807 then
 L3 ((t3 ++ r4.1) ++ (⟨#[10]⟩ : ByteArray)) (IntKind.i64.wrap (n4 - 1)) r4.2
 else
 none
 else
 none
 else if t3.size + r2.1.size ≤ 9223372036854775807 then
 if (t3 ++ r2.1).size + (⟨#[10]⟩ : ByteArray).size ≤ 9223372036854775807 then
 L3 ((t3 ++ r2.1) ++ (⟨#[10]⟩ : ByteArray)) (IntKind.i64.wrap (n4 - 1)) r3.2
 else
 none
 else
 none
 else
 (Qh.f s0 40).bind fun r5 =>
 if ((r5.1 : Int) == 0) = true then
 I12 t3 0 r5.2
 else if ((r5.1 : Int) == 1) = true then
 if t3.size + (⟨#[111, 112, 101, 110]⟩ : ByteArray).size ≤ 9223372036854775807 then
 some (t3 ++ (⟨#[111, 112, 101, 110]⟩ : ByteArray), r5.2)
 else
 none
 else
 some (t3, r5.2)
def Qn.l3 (n : Nat) : Nat → ByteArray → Int → YP → Option YF
 | 0 => fun _ _ _ => none
 | k + 1 => Qn.g3 (Qn.l12 n n) (Qn.l3 n k)
def Qn.top (I3 : ByteArray → Int → YP → Option YF) (s0 : List Int × Int × Int) : Option YF :=
 (Qh.f s0 16).bind fun r1 =>
 I3 (⟨#[]⟩ : ByteArray) r1.1 r1.2
def Qn.fn (n : Nat) (s0 : List Int × Int × Int) : Option YF := Qn.top (Qn.l3 n n) s0
def Qn.f (s0 : List Int × Int × Int) : Option YF := Qn.fn NN s0
end
end Go.Pl

namespace Go.Pl
open Go.Ev
set_option linter.unusedVariables false
noncomputable section
def Qag.top (p : List Int) : Option ByteArray :=
 (QU.f p).bind fun r1 =>
 (Qn.f r1).bind fun r2 =>
 some r2.1
def Qag.fn (n : Nat) (p : List Int) : Option ByteArray := Qag.top p
def Qag.f (p : List Int) : Option ByteArray := Qag.fn NN p
end
end Go.Pl

namespace Go.Pl
open Go.Ev
set_option linter.unusedVariables false
noncomputable section
def QG.g5 (L5 : ByteArray → Int → Int → Option YAI) (s0 : ByteArray) (n4 : Int) (i5 : Int) : Option YAI :=
 if (decide ((i5 : Int) < (s0.size : Int))) = true then
 if (0 : Int) ≤ i5 ∧ (i5 : Int) < s0.size then
 if (decide (((bt s0 i5) : Int) < 48)) = false then
 if (0 : Int) ≤ i5 ∧ (i5 : Int) < s0.size then
 if (decide ((57 : Int) < (bt s0 i5))) = true then
 some (0, false)
 else if (0 : Int) ≤ i5 ∧ (i5 : Int) < s0.size then
 L5 s0 (IntKind.i64.wrap ((IntKind.i64.wrap (10 * n4)) + (IntKind.i64.wrap (IntKind.u8.wrap ((bt s0 i5) - 48))))) (IntKind.i64.wrap (i5 + 1))
 else
 none
 else
 none
 else
 some (0, false)
 else
 none
 else
 (Qe.f n4).bind fun r1 =>
 some (n4, r1.toList == s0.toList)
def QG.l5 (n : Nat) : Nat → ByteArray → Int → Int → Option YAI
 | 0 => fun _ _ _ => none
 | k + 1 => QG.g5 (QG.l5 n k)
def QG.top (I5 : ByteArray → Int → Int → Option YAI) (s0 : ByteArray) : Option YAI :=
 if (decide (((s0.size : Int) : Int) < 1)) = false then
 if (decide ((13 : Int) < (s0.size : Int))) = true then
 some (0, false)
 else
 I5 s0 0 0
 else
 some (0, false)
def QG.fn (n : Nat) (s0 : ByteArray) : Option YAI := QG.top (QG.l5 n n) s0
def QG.f (s0 : ByteArray) : Option YAI := QG.fn NN s0
end
end Go.Pl

namespace Go.Pl
open Go.Ev
set_option linter.unusedVariables false
noncomputable section
def QaA.top (s0 : ByteArray) : Option YAI :=
 if (decide ((0 : Int) < (s0.size : Int))) = true then
 if (0 : Int) ≤ 0 ∧ (0 : Int) < s0.size then
 if (((bt s0 0) : Int) == 45) = true then
 if (0 : Int) ≤ 1 ∧ (1 : Int) ≤ s0.size then
 (QG.f (s0.extract (1 : Int).toNat s0.size)).bind fun r1 =>
 if r1.2 = true then
 some (IntKind.i64.wrap (0 - r1.1), decide ((0 : Int) < r1.1))
 else
 some (IntKind.i64.wrap (0 - r1.1), false)
 else
 none
 else
 (QG.f s0).bind fun r2 =>
 some (r2.1, r2.2)
 else
 none
 else
 (QG.f s0).bind fun r3 =>
 some (r3.1, r3.2)
def QaA.fn (n : Nat) (s0 : ByteArray) : Option YAI := QaA.top s0
def QaA.f (s0 : ByteArray) : Option YAI := QaA.fn NN s0
end
end Go.Pl

namespace Go.Pl
open Go.Ev
set_option linter.unusedVariables false
noncomputable section
def QL.g4 (L4 : YAJ) (s0 : ByteArray) (by1 : Int) (p : Int) (i7 : Int) (q : List ByteArray) : Option YH :=
 if (decide ((i7 : Int) ≤ (s0.size : Int))) = true then
 if ((i7 : Int) == (s0.size : Int)) = false then
 if (0 : Int) ≤ i7 ∧ (i7 : Int) < s0.size then
 if (((bt s0 i7) : Int) == by1) = true then
 if (0 : Int) ≤ p ∧ (p : Int) ≤ i7 ∧ (i7 : Int) ≤ s0.size then
 if q.length + ([s0.extract (p : Int).toNat (i7 : Int).toNat]).length < room 16 then
 L4 s0 by1 (IntKind.i64.wrap (i7 + 1)) (IntKind.i64.wrap (i7 + 1)) (q ++ ([s0.extract (p : Int).toNat (i7 : Int).toNat]))
 else
 none
 else
 none
 else
 L4 s0 by1 p (IntKind.i64.wrap (i7 + 1)) q
 else
 none
 else if (0 : Int) ≤ p ∧ (p : Int) ≤ i7 ∧ (i7 : Int) ≤ s0.size then
 if q.length + ([s0.extract (p : Int).toNat (i7 : Int).toNat]).length < room 16 then
 L4 s0 by1 (IntKind.i64.wrap (i7 + 1)) (IntKind.i64.wrap (i7 + 1)) (q ++ ([s0.extract (p : Int).toNat (i7 : Int).toNat]))
 else
 none
 else
 none
 else
 some q
def QL.l4 (n : Nat) : Nat → ByteArray → Int → Int → Int → List ByteArray → Option YH
 | 0 => fun _ _ _ _ _ => none
 | k + 1 => QL.g4 (QL.l4 n k)
def QL.top (I4 : YAJ) (s0 : ByteArray) (by1 : Int) : Option YH :=
 I4 s0 by1 0 0 []
def QL.fn (n : Nat) (s0 : ByteArray) (by1 : Int) : Option YH := QL.top (QL.l4 n n) s0 by1
def QL.f (s0 : ByteArray) (by1 : Int) : Option YH := QL.fn NN s0 by1
end
end Go.Pl

namespace Go.Pl
open Go.Ev
set_option linter.unusedVariables false
noncomputable section
def QaS.top (p : ByteArray) : Option ByteArray :=
 if (p.toList == (⟨#[111, 112, 101, 110]⟩ : ByteArray).toList) = true then
 some (⟨#[]⟩ : ByteArray)
 else if (p.toList == (⟨#[115, 116, 97, 116, 101]⟩ : ByteArray).toList) = true then
 if (p.toList == (⟨#[115, 116, 97, 116, 101]⟩ : ByteArray).toList) = true then
 some (⟨#[73]⟩ : ByteArray)
 else if (p.toList == (⟨#[108, 101, 102, 116]⟩ : ByteArray).toList) = true then
 some (⟨#[84]⟩ : ByteArray)
 else if (p.toList == (⟨#[99, 108, 101, 97, 114]⟩ : ByteArray).toList) = true then
 if (p.toList == (⟨#[99, 108, 101, 97, 114]⟩ : ByteArray).toList) = true then
 some (⟨#[84, 73]⟩ : ByteArray)
 else if (p.toList == (⟨#[110, 101, 101, 100]⟩ : ByteArray).toList) = true then
 some (⟨#[73, 73]⟩ : ByteArray)
 else if (p.toList == (⟨#[112, 101, 111, 112, 108, 101]⟩ : ByteArray).toList) = true then
 some (⟨#[84, 73, 74]⟩ : ByteArray)
 else if (p.toList == (⟨#[98, 111, 111, 107]⟩ : ByteArray).toList) = true then
 some (⟨#[84, 84, 73]⟩ : ByteArray)
 else
 some (⟨#[45]⟩ : ByteArray)
 else if (p.toList == (⟨#[115, 105, 103, 110, 97, 108]⟩ : ByteArray).toList) = true then
 some (⟨#[84, 73]⟩ : ByteArray)
 else if (p.toList == (⟨#[110, 101, 101, 100]⟩ : ByteArray).toList) = true then
 some (⟨#[73, 73]⟩ : ByteArray)
 else if (p.toList == (⟨#[112, 101, 111, 112, 108, 101]⟩ : ByteArray).toList) = true then
 some (⟨#[84, 73, 74]⟩ : ByteArray)
 else if (p.toList == (⟨#[98, 111, 111, 107]⟩ : ByteArray).toList) = true then
 some (⟨#[84, 84, 73]⟩ : ByteArray)
 else
 some (⟨#[45]⟩ : ByteArray)
 else if (p.toList == (⟨#[102, 105, 114, 101]⟩ : ByteArray).toList) = true then
 if (p.toList == (⟨#[102, 105, 114, 101]⟩ : ByteArray).toList) = true then
 some (⟨#[73]⟩ : ByteArray)
 else if (p.toList == (⟨#[108, 101, 102, 116]⟩ : ByteArray).toList) = true then
 some (⟨#[84]⟩ : ByteArray)
 else if (p.toList == (⟨#[99, 108, 101, 97, 114]⟩ : ByteArray).toList) = true then
 if (p.toList == (⟨#[99, 108, 101, 97, 114]⟩ : ByteArray).toList) = true then
 some (⟨#[84, 73]⟩ : ByteArray)
 else if (p.toList == (⟨#[110, 101, 101, 100]⟩ : ByteArray).toList) = true then
 some (⟨#[73, 73]⟩ : ByteArray)
 else if (p.toList == (⟨#[112, 101, 111, 112, 108, 101]⟩ : ByteArray).toList) = true then
 some (⟨#[84, 73, 74]⟩ : ByteArray)
 else if (p.toList == (⟨#[98, 111, 111, 107]⟩ : ByteArray).toList) = true then
 some (⟨#[84, 84, 73]⟩ : ByteArray)
 else
 some (⟨#[45]⟩ : ByteArray)
 else if (p.toList == (⟨#[115, 105, 103, 110, 97, 108]⟩ : ByteArray).toList) = true then
 some (⟨#[84, 73]⟩ : ByteArray)
 else if (p.toList == (⟨#[110, 101, 101, 100]⟩ : ByteArray).toList) = true then
 some (⟨#[73, 73]⟩ : ByteArray)
 else if (p.toList == (⟨#[112, 101, 111, 112, 108, 101]⟩ : ByteArray).toList) = true then
 some (⟨#[84, 73, 74]⟩ : ByteArray)
 else if (p.toList == (⟨#[98, 111, 111, 107]⟩ : ByteArray).toList) = true then
 some (⟨#[84, 84, 73]⟩ : ByteArray)
 else
 some (⟨#[45]⟩ : ByteArray)
 else if (p.toList == (⟨#[115, 101, 116, 116, 108, 101]⟩ : ByteArray).toList) = true then
 if (p.toList == (⟨#[115, 101, 116, 116, 108, 101]⟩ : ByteArray).toList) = true then
 some (⟨#[73]⟩ : ByteArray)
 else if (p.toList == (⟨#[108, 101, 102, 116]⟩ : ByteArray).toList) = true then
 some (⟨#[84]⟩ : ByteArray)
 else if (p.toList == (⟨#[99, 108, 101, 97, 114]⟩ : ByteArray).toList) = true then
 if (p.toList == (⟨#[99, 108, 101, 97, 114]⟩ : ByteArray).toList) = true then
 some (⟨#[84, 73]⟩ : ByteArray)
 else if (p.toList == (⟨#[110, 101, 101, 100]⟩ : ByteArray).toList) = true then
 some (⟨#[73, 73]⟩ : ByteArray)
 else if (p.toList == (⟨#[112, 101, 111, 112, 108, 101]⟩ : ByteArray).toList) = true then
 some (⟨#[84, 73, 74]⟩ : ByteArray)
 else if (p.toList == (⟨#[98, 111, 111, 107]⟩ : ByteArray).toList) = true then
 some (⟨#[84, 84, 73]⟩ : ByteArray)
 else
 some (⟨#[45]⟩ : ByteArray)
 else if (p.toList == (⟨#[115, 105, 103, 110, 97, 108]⟩ : ByteArray).toList) = true then
 some (⟨#[84, 73]⟩ : ByteArray)
 else if (p.toList == (⟨#[110, 101, 101, 100]⟩ : ByteArray).toList) = true then
 some (⟨#[73, 73]⟩ : ByteArray)
 else if (p.toList == (⟨#[112, 101, 111, 112, 108, 101]⟩ : ByteArray).toList) = true then
 some (⟨#[84, 73, 74]⟩ : ByteArray)
 else if (p.toList == (⟨#[98, 111, 111, 107]⟩ : ByteArray).toList) = true then
 some (⟨#[84, 84, 73]⟩ : ByteArray)
 else
 some (⟨#[45]⟩ : ByteArray)
 else if (p.toList == (⟨#[116, 111, 112]⟩ : ByteArray).toList) = true then
 if (p.toList == (⟨#[116, 111, 112]⟩ : ByteArray).toList) = true then
 some (⟨#[73]⟩ : ByteArray)
 else if (p.toList == (⟨#[108, 101, 102, 116]⟩ : ByteArray).toList) = true then
 some (⟨#[84]⟩ : ByteArray)
 else if (p.toList == (⟨#[99, 108, 101, 97, 114]⟩ : ByteArray).toList) = true then
 if (p.toList == (⟨#[99, 108, 101, 97, 114]⟩ : ByteArray).toList) = true then
 some (⟨#[84, 73]⟩ : ByteArray)
 else if (p.toList == (⟨#[110, 101, 101, 100]⟩ : ByteArray).toList) = true then
 some (⟨#[73, 73]⟩ : ByteArray)
 else if (p.toList == (⟨#[112, 101, 111, 112, 108, 101]⟩ : ByteArray).toList) = true then
 some (⟨#[84, 73, 74]⟩ : ByteArray)
 else if (p.toList == (⟨#[98, 111, 111, 107]⟩ : ByteArray).toList) = true then
 some (⟨#[84, 84, 73]⟩ : ByteArray)
 else
 some (⟨#[45]⟩ : ByteArray)
 else if (p.toList == (⟨#[115, 105, 103, 110, 97, 108]⟩ : ByteArray).toList) = true then
 some (⟨#[84, 73]⟩ : ByteArray)
 else if (p.toList == (⟨#[110, 101, 101, 100]⟩ : ByteArray).toList) = true then
 some (⟨#[73, 73]⟩ : ByteArray)
 else if (p.toList == (⟨#[112, 101, 111, 112, 108, 101]⟩ : ByteArray).toList) = true then
 some (⟨#[84, 73, 74]⟩ : ByteArray)
 else if (p.toList == (⟨#[98, 111, 111, 107]⟩ : ByteArray).toList) = true then
 some (⟨#[84, 84, 73]⟩ : ByteArray)
 else
 some (⟨#[45]⟩ : ByteArray)
 else if (p.toList == (⟨#[116, 105, 109, 101]⟩ : ByteArray).toList) = true then
 some (⟨#[73]⟩ : ByteArray)
 else if (p.toList == (⟨#[108, 101, 102, 116]⟩ : ByteArray).toList) = true then
 some (⟨#[84]⟩ : ByteArray)
 else if (p.toList == (⟨#[99, 108, 101, 97, 114]⟩ : ByteArray).toList) = true then
 if (p.toList == (⟨#[99, 108, 101, 97, 114]⟩ : ByteArray).toList) = true then
 some (⟨#[84, 73]⟩ : ByteArray)
 else if (p.toList == (⟨#[110, 101, 101, 100]⟩ : ByteArray).toList) = true then
 some (⟨#[73, 73]⟩ : ByteArray)
 else if (p.toList == (⟨#[112, 101, 111, 112, 108, 101]⟩ : ByteArray).toList) = true then
 some (⟨#[84, 73, 74]⟩ : ByteArray)
 else if (p.toList == (⟨#[98, 111, 111, 107]⟩ : ByteArray).toList) = true then
 some (⟨#[84, 84, 73]⟩ : ByteArray)
 else
 some (⟨#[45]⟩ : ByteArray)
 else if (p.toList == (⟨#[115, 105, 103, 110, 97, 108]⟩ : ByteArray).toList) = true then
 some (⟨#[84, 73]⟩ : ByteArray)
 else if (p.toList == (⟨#[110, 101, 101, 100]⟩ : ByteArray).toList) = true then
 some (⟨#[73, 73]⟩ : ByteArray)
 else if (p.toList == (⟨#[112, 101, 111, 112, 108, 101]⟩ : ByteArray).toList) = true then
 some (⟨#[84, 73, 74]⟩ : ByteArray)
 else if (p.toList == (⟨#[98, 111, 111, 107]⟩ : ByteArray).toList) = true then
 some (⟨#[84, 84, 73]⟩ : ByteArray)
 else
 some (⟨#[45]⟩ : ByteArray)
def QaS.fn (n : Nat) (p : ByteArray) : Option ByteArray := QaS.top p
def QaS.f (p : ByteArray) : Option ByteArray := QaS.fn NN p
end
end Go.Pl

namespace Go.Pl
open Go.Ev
set_option linter.unusedVariables false
noncomputable section
def Qq.g7 (L7 : ByteArray → Int → List ByteArray → List Int → Option YZ) (q : ByteArray) (i8 : Int) (p : List ByteArray) (n7 : List Int) : Option YZ :=
 if (decide ((i8 : Int) < (q.size : Int))) = true then
 if (0 : Int) ≤ i8 ∧ (i8 : Int) < q.size then
 if (((bt q i8) : Int) == 73) = true then
 if (0 : Int) ≤ (IntKind.i64.wrap (i8 + 1)) ∧ ((IntKind.i64.wrap (i8 + 1)) : Int) < p.length then
 (QG.f (p.getD ((IntKind.i64.wrap (i8 + 1)) : Int).toNat ByteArray.empty)).bind fun r3 =>
 if (!r3.2) = true then
 some ([], [], false)
 else if n7.length + ([r3.1]).length < room 8 then
 L7 q (IntKind.i64.wrap (i8 + 1)) p (n7 ++ ([r3.1]))
 else
 none
 else
 none
 else if (((bt q i8) : Int) == 74) = true then
 if (0 : Int) ≤ (IntKind.i64.wrap (i8 + 1)) ∧ ((IntKind.i64.wrap (i8 + 1)) : Int) < p.length then
 (QaA.f (p.getD ((IntKind.i64.wrap (i8 + 1)) : Int).toNat ByteArray.empty)).bind fun r4 =>
 if (!r4.2) = true then
 some ([], [], false)
 else if n7.length + ([r4.1]).length < room 8 then
 L7 q (IntKind.i64.wrap (i8 + 1)) p (n7 ++ ([r4.1]))
 else
 none
 else
 none
 else
 L7 q (IntKind.i64.wrap (i8 + 1)) p n7
 else
 none
 else
 some (p, n7, true)
def Qq.l7 (n : Nat) : Nat → ByteArray → Int → List ByteArray → List Int → Option YZ
 | 0 => fun _ _ _ _ => none
 | k + 1 => Qq.g7 (Qq.l7 n k)
def Qq.top (I7 : ByteArray → Int → List ByteArray → List Int → Option YZ) (r : ByteArray) : Option YZ :=
 (QL.f r 32).bind fun r1 =>
 if (0 : Int) ≤ 0 ∧ (0 : Int) < r1.length then
 (QaS.f (r1.getD (0 : Int).toNat ByteArray.empty)).bind fun r2 =>
 if (r2.toList == (⟨#[45]⟩ : ByteArray).toList) = false then
 if (((r1.length : Int) : Int) != (IntKind.i64.wrap ((r2.size : Int) + 1))) = true then
 some ([], [], false)
 else
 I7 r2 0 r1 []
 else
 some ([], [], false)
 else
 none
def Qq.fn (n : Nat) (r : ByteArray) : Option YZ := Qq.top (Qq.l7 n n) r
def Qq.f (r : ByteArray) : Option YZ := Qq.fn NN r
end
end Go.Pl

namespace Go.Pl
open Go.Ev
set_option linter.unusedVariables false
noncomputable section
def Qan.top (p : ByteArray) : Option Bool :=
 (Qq.f p).bind fun r1 =>
 some r1.2.2
def Qan.fn (n : Nat) (p : ByteArray) : Option Bool := Qan.top p
def Qan.f (p : ByteArray) : Option Bool := Qan.fn NN p
end
end Go.Pl

namespace Go.Pl
open Go.Ev
set_option linter.unusedVariables false
noncomputable section
def Qa8.top  : Option YG :=
 some ([], ([], []))
def Qa8.fn (n : Nat)  : Option YG := Qa8.top 
def Qa8.f  : Option YG := Qa8.fn NN 
end
end Go.Pl

namespace Go.Pl
open Go.Ev
set_option linter.unusedVariables false
noncomputable section
def QA.g3 (L3 : YAO) (p : List YA) (q : ByteArray) (n2 : Int) (r : Int) (i8 : Int) : Option Int :=
 if (decide ((i8 : Int) < n2)) = true then
 if (0 : Int) ≤ i8 ∧ (i8 : Int) < p.length then
 if ((((p.getD (i8 : Int).toNat (0, (ByteArray.empty, 0))).2).1).toList == q.toList) = true then
 if (0 : Int) ≤ i8 ∧ (i8 : Int) < p.length then
 L3 p q n2 (IntKind.i64.wrap (r + (((p.getD (i8 : Int).toNat (0, (ByteArray.empty, 0))).2).2))) (IntKind.i64.wrap (i8 + 1))
 else
 none
 else
 L3 p q n2 r (IntKind.i64.wrap (i8 + 1))
 else
 none
 else
 some r
def QA.l3 (n : Nat) : Nat → YD → ByteArray → Int → Int → Int → Option Int
 | 0 => fun _ _ _ _ _ => none
 | k + 1 => QA.g3 (QA.l3 n k)
def QA.top (I3 : YAO) (p : List YA) (q : ByteArray) (n2 : Int) : Option Int :=
 I3 p q n2 0 0
def QA.fn (n : Nat) (p : List YA) (q : ByteArray) (n2 : Int) : Option Int := QA.top (QA.l3 n n) p q n2
def QA.f (p : List YA) (q : ByteArray) (n2 : Int) : Option Int := QA.fn NN p q n2
end
end Go.Pl

namespace Go.Pl
open Go.Ev
set_option linter.unusedVariables false
noncomputable section
def QZ.g2 (L2 : YD → Int → Int → Option Int) (p : List YA) (t1 : Int) (n5 : Int) : Option Int :=
 if (decide ((n5 : Int) < (p.length : Int))) = true then
 if (0 : Int) ≤ n5 ∧ (n5 : Int) < p.length then
 if (decide ((((p.getD (n5 : Int).toNat (0, (ByteArray.empty, 0))).1) : Int) ≤ t1)) = true then
 L2 p t1 (IntKind.i64.wrap (n5 + 1))
 else
 some n5
 else
 none
 else
 some n5
def QZ.l2 (n : Nat) : Nat → YD → Int → Int → Option Int
 | 0 => fun _ _ _ => none
 | k + 1 => QZ.g2 (QZ.l2 n k)
def QZ.top (I2 : YD → Int → Int → Option Int) (p : List YA) (t1 : Int) : Option Int :=
 I2 p t1 0
def QZ.fn (n : Nat) (p : List YA) (t1 : Int) : Option Int := QZ.top (QZ.l2 n n) p t1
def QZ.f (p : List YA) (t1 : Int) : Option Int := QZ.fn NN p t1
end
end Go.Pl

namespace Go.Pl
open Go.Ev
set_option linter.unusedVariables false
noncomputable section
def QM.g3 (L3 : YD → ByteArray → Int → Int → Int → Option Bool) (p : List YA) (q : ByteArray) (t2 : Int) (n7 : Int) (i8 : Int) : Option Bool :=
 if (decide ((i8 : Int) < n7)) = true then
 if (0 : Int) ≤ i8 ∧ (i8 : Int) < p.length then
 if ((((p.getD (i8 : Int).toNat (0, (ByteArray.empty, 0))).2).1).toList == q.toList) = true then
 if (0 : Int) ≤ i8 ∧ (i8 : Int) < p.length then
 if (decide ((t2 : Int) < (IntKind.i64.wrap (((p.getD (i8 : Int).toNat (0, (ByteArray.empty, 0))).1) + 30000)))) = true then
 some false
 else
 L3 p q t2 n7 (IntKind.i64.wrap (i8 + 1))
 else
 none
 else
 L3 p q t2 n7 (IntKind.i64.wrap (i8 + 1))
 else
 none
 else
 (QA.f p q n7).bind fun r2 =>
 some ((r2 : Int) == 0)
def QM.l3 (n : Nat) : Nat → YD → ByteArray → Int → Int → Int → Option Bool
 | 0 => fun _ _ _ _ _ => none
 | k + 1 => QM.g3 (QM.l3 n k)
def QM.top (I3 : YD → ByteArray → Int → Int → Int → Option Bool) (p : List YA) (q : ByteArray) (t2 : Int) : Option Bool :=
 (QZ.f p t2).bind fun r1 =>
 I3 p q t2 r1 0
def QM.fn (n : Nat) (p : List YA) (q : ByteArray) (t2 : Int) : Option Bool := QM.top (QM.l3 n n) p q t2
def QM.f (p : List YA) (q : ByteArray) (t2 : Int) : Option Bool := QM.fn NN p q t2
end
end Go.Pl

namespace Go.Pl
open Go.Ev
set_option linter.unusedVariables false
noncomputable section
def Qab.top (n0 : Int) (q : Int) (p : Int) : Option Bool :=
 if (decide ((q : Int) ≤ n0)) = true then
 some (decide ((n0 : Int) ≤ p))
 else
 some false
def Qab.fn (n : Nat) (n0 : Int) (q : Int) (p : Int) : Option Bool := Qab.top n0 q p
def Qab.f (n0 : Int) (q : Int) (p : Int) : Option Bool := Qab.fn NN n0 q p
end
end Go.Pl

namespace Go.Pl
open Go.Ev
set_option linter.unusedVariables false
noncomputable section
def QP.g2 (L2 : ByteArray → Int → Option Bool) (s0 : ByteArray) (i3 : Int) : Option Bool :=
 if (decide ((i3 : Int) < (s0.size : Int))) = true then
 if (0 : Int) ≤ i3 ∧ (i3 : Int) < s0.size then
 if (decide (((bt s0 i3) : Int) < 97)) = false then
 if (0 : Int) ≤ i3 ∧ (i3 : Int) < s0.size then
 if (decide ((122 : Int) < (bt s0 i3))) = true then
 some false
 else
 L2 s0 (IntKind.i64.wrap (i3 + 1))
 else
 none
 else
 some false
 else
 none
 else
 (Qab.f (s0.size : Int) 1 16).bind fun r1 =>
 some r1
def QP.l2 (n : Nat) : Nat → ByteArray → Int → Option Bool
 | 0 => fun _ _ => none
 | k + 1 => QP.g2 (QP.l2 n k)
def QP.top (I2 : ByteArray → Int → Option Bool) (s0 : ByteArray) : Option Bool :=
 I2 s0 0
def QP.fn (n : Nat) (s0 : ByteArray) : Option Bool := QP.top (QP.l2 n n) s0
def QP.f (s0 : ByteArray) : Option Bool := QP.fn NN s0
end
end Go.Pl

namespace Go.Pl
open Go.Ev
set_option linter.unusedVariables false
noncomputable section
def Qaj.top (t0 : Int) : Option Bool :=
 (Qab.f t0 0 10000000).bind fun r1 =>
 some r1
def Qaj.fn (n : Nat) (t0 : Int) : Option Bool := Qaj.top t0
def Qaj.f (t0 : Int) : Option Bool := Qaj.fn NN t0
end
end Go.Pl

namespace Go.Pl
open Go.Ev
set_option linter.unusedVariables false
noncomputable section
def Qy.g2 (L2 : YD → Int → Option Bool) (p : List YA) (i3 : Int) : Option Bool :=
 if (decide ((i3 : Int) < (p.length : Int))) = true then
 if (0 : Int) ≤ i3 ∧ (i3 : Int) < p.length then
 (Qaj.f ((p.getD (i3 : Int).toNat (0, (ByteArray.empty, 0))).1)).bind fun r1 =>
 if (!r1) = false then
 (QP.f (((p.getD (i3 : Int).toNat (0, (ByteArray.empty, 0))).2).1)).bind fun r2 =>
 if (!r2) = false then
 (Qab.f (((p.getD (i3 : Int).toNat (0, (ByteArray.empty, 0))).2).2) (-1000) 1000).bind fun r3 =>
 if (!r3) = false then
 if (((((p.getD (i3 : Int).toNat (0, (ByteArray.empty, 0))).2).2) : Int) == 0) = false then
 if (decide ((0 : Int) < i3)) = true then
 if (0 : Int) ≤ (IntKind.i64.wrap (i3 - 1)) ∧ ((IntKind.i64.wrap (i3 - 1)) : Int) < p.length then
 if (decide ((((p.getD (i3 : Int).toNat (0, (ByteArray.empty, 0))).1) : Int) < ((p.getD ((IntKind.i64.wrap (i3 - 1)) : Int).toNat (0, (ByteArray.empty, 0))).1))) = false then
 (QA.f p (((p.getD (i3 : Int).toNat (0, (ByteArray.empty, 0))).2).1) (IntKind.i64.wrap (i3 + 1))).bind fun r4 =>
 if (decide ((r4 : Int) < 0)) = true then
 some false
 else
 L2 p (IntKind.i64.wrap (i3 + 1))
 else
 some false
 else
 none
 else
 (QA.f p (((p.getD (i3 : Int).toNat (0, (ByteArray.empty, 0))).2).1) (IntKind.i64.wrap (i3 + 1))).bind fun r5 =>
 if (decide ((r5 : Int) < 0)) = true then
 some false
 else
 L2 p (IntKind.i64.wrap (i3 + 1))
 else
 some false
 else
 some false
 else
 some false
 else
 some false
 else
 none
 else
 some (decide (((p.length : Int) : Int) ≤ 40))
def Qy.l2 (n : Nat) : Nat → YD → Int → Option Bool
 | 0 => fun _ _ => none
 | k + 1 => Qy.g2 (Qy.l2 n k)
def Qy.top (I2 : YD → Int → Option Bool) (p : List YA) : Option Bool :=
 I2 p 0
def Qy.fn (n : Nat) (p : List YA) : Option Bool := Qy.top (Qy.l2 n n) p
def Qy.f (p : List YA) : Option Bool := Qy.fn NN p
end
end Go.Pl

namespace Go.Pl
open Go.Ev
set_option linter.unusedVariables false
noncomputable section
def Qa4.top (p : List YA) (q : ByteArray) (t2 : Int) : Option Int :=
 (Qy.f p).bind fun r1 =>
 if (!r1) = false then
 (QP.f q).bind fun r2 =>
 if (!r2) = true then
 some 1
 else
 (Qaj.f t2).bind fun r3 =>
 if (!r3) = true then
 some 2
 else
 some 0
 else
 some 1
def Qa4.fn (n : Nat) (p : List YA) (q : ByteArray) (t2 : Int) : Option Int := Qa4.top p q t2
def Qa4.f (p : List YA) (q : ByteArray) (t2 : Int) : Option Int := Qa4.fn NN p q t2
end
end Go.Pl

namespace Go.Pl
open Go.Ev
set_option linter.unusedVariables false
noncomputable section
def Qa0.top (p : List YA) (q : ByteArray) (t2 : Int) : Option (Bool × Int) :=
 (Qa4.f p q t2).bind fun r1 =>
 if ((r1 : Int) != 0) = true then
 some (false, r1)
 else
 (QM.f p q t2).bind fun r2 =>
 some (r2, 0)
def Qa0.fn (n : Nat) (p : List YA) (q : ByteArray) (t2 : Int) : Option (Bool × Int) := Qa0.top p q t2
def Qa0.f (p : List YA) (q : ByteArray) (t2 : Int) : Option (Bool × Int) := Qa0.fn NN p q t2
end
end Go.Pl

namespace Go.Pl
open Go.Ev
set_option linter.unusedVariables false
noncomputable section
def QK.g3 (L3 : YAO) (p : List YA) (q : ByteArray) (n2 : Int) (r : Int) (i8 : Int) : Option Int :=
 if (decide ((i8 : Int) < n2)) = true then
 if (0 : Int) ≤ i8 ∧ (i8 : Int) < p.length then
 if (!((((p.getD (i8 : Int).toNat (0, (ByteArray.empty, 0))).2).1).toList == q.toList)) = true then
 L3 p q n2 r (IntKind.i64.wrap (i8 + 1))
 else if (0 : Int) ≤ i8 ∧ (i8 : Int) < p.length then
 if ((((p.getD (i8 : Int).toNat (0, (ByteArray.empty, 0))).1) : Int) == 0) = true then
 if (0 : Int) ≤ i8 ∧ (i8 : Int) < p.length then
 L3 p q n2 (IntKind.i64.wrap (r + (((p.getD (i8 : Int).toNat (0, (ByteArray.empty, 0))).2).2))) (IntKind.i64.wrap (i8 + 1))
 else
 none
 else if (0 : Int) ≤ i8 ∧ (i8 : Int) < p.length then
 L3 p q n2 (IntKind.i64.wrap (r - (((p.getD (i8 : Int).toNat (0, (ByteArray.empty, 0))).2).2))) (IntKind.i64.wrap (i8 + 1))
 else
 none
 else
 none
 else
 none
 else
 some r
def QK.l3 (n : Nat) : Nat → YD → ByteArray → Int → Int → Int → Option Int
 | 0 => fun _ _ _ _ _ => none
 | k + 1 => QK.g3 (QK.l3 n k)
def QK.top (I3 : YAO) (p : List YA) (q : ByteArray) (n2 : Int) : Option Int :=
 I3 p q n2 0 0
def QK.fn (n : Nat) (p : List YA) (q : ByteArray) (n2 : Int) : Option Int := QK.top (QK.l3 n n) p q n2
def QK.f (p : List YA) (q : ByteArray) (n2 : Int) : Option Int := QK.fn NN p q n2
end
end Go.Pl

namespace Go.Pl
open Go.Ev
set_option linter.unusedVariables false
noncomputable section
def Qj.g2 (L2 : YD → Int → Option Bool) (p : List YA) (i3 : Int) : Option Bool :=
 if (decide ((i3 : Int) < (p.length : Int))) = true then
 if (0 : Int) ≤ i3 ∧ (i3 : Int) < p.length then
 (Qab.f ((p.getD (i3 : Int).toNat (0, (ByteArray.empty, 0))).1) 0 3).bind fun r1 =>
 if (!r1) = false then
 (QP.f (((p.getD (i3 : Int).toNat (0, (ByteArray.empty, 0))).2).1)).bind fun r2 =>
 if (!r2) = false then
 (Qab.f (((p.getD (i3 : Int).toNat (0, (ByteArray.empty, 0))).2).2) 1 1000).bind fun r3 =>
 if (!r3) = false then
 (QK.f p (((p.getD (i3 : Int).toNat (0, (ByteArray.empty, 0))).2).1) (IntKind.i64.wrap (i3 + 1))).bind fun r4 =>
 if (decide ((r4 : Int) < 0)) = true then
 some false
 else
 L2 p (IntKind.i64.wrap (i3 + 1))
 else
 some false
 else
 some false
 else
 some false
 else
 none
 else
 some (decide (((p.length : Int) : Int) ≤ 60))
def Qj.l2 (n : Nat) : Nat → YD → Int → Option Bool
 | 0 => fun _ _ => none
 | k + 1 => Qj.g2 (Qj.l2 n k)
def Qj.top (I2 : YD → Int → Option Bool) (p : List YA) : Option Bool :=
 I2 p 0
def Qj.fn (n : Nat) (p : List YA) : Option Bool := Qj.top (Qj.l2 n n) p
def Qj.f (p : List YA) : Option Bool := Qj.fn NN p
end
end Go.Pl

namespace Go.Pl
open Go.Ev
set_option linter.unusedVariables false
noncomputable section
def Qay.top (q : List YA) (p : ByteArray) : Option YC :=
 (Qj.f q).bind fun r1 =>
 if (!r1) = false then
 (QP.f p).bind fun r2 =>
 if (!r2) = true then
 some (0, 1)
 else
 (QK.f q p (q.length : Int)).bind fun r3 =>
 some (r3, 0)
 else
 some (0, 1)
def Qay.fn (n : Nat) (q : List YA) (p : ByteArray) : Option YC := Qay.top q p
def Qay.f (q : List YA) (p : ByteArray) : Option YC := Qay.fn NN q p
end
end Go.Pl

namespace Go.Pl
open Go.Ev
set_option linter.unusedVariables false
noncomputable section
def Qa5.top (p : Int) (q : Int) : Option Int :=
 (Qab.f p 0 500).bind fun r1 =>
 if (!r1) = false then
 (Qab.f q 0 100000000).bind fun r2 =>
 if (!r2) = true then
 some 2
 else
 some 0
 else
 some 2
def Qa5.fn (n : Nat) (p : Int) (q : Int) : Option Int := Qa5.top p q
def Qa5.f (p : Int) (q : Int) : Option Int := Qa5.fn NN p q
end
end Go.Pl

namespace Go.Pl
open Go.Ev
set_option linter.unusedVariables false
noncomputable section
def QaW.top (n0 : Int) : Option Int :=
 some (IntKind.i64.wrap ((IntKind.i64.wrap (n0 * n0)) * n0))
def QaW.fn (n : Nat) (n0 : Int) : Option Int := QaW.top n0
def QaW.f (n0 : Int) : Option Int := QaW.fn NN n0
end
end Go.Pl

namespace Go.Pl
open Go.Ev
set_option linter.unusedVariables false
noncomputable section
def Q4.g2 (L2 : Int → Int → Int → Int → Option Int) (p : Int) (q : Int) (s : Int) (r : Int) : Option Int :=
 if (decide (((IntKind.i64.wrap (s + 1)) : Int) < r)) = true then
 (QaW.f (IntKind.i64.wrap (Int.tdiv (IntKind.i64.wrap (s + r)) 2))).bind fun r1 =>
 (QaW.f p).bind fun r2 =>
 if (decide (((IntKind.i64.wrap (r2 * q)) : Int) ≤ r1)) = true then
 L2 p q s (IntKind.i64.wrap (Int.tdiv (IntKind.i64.wrap (s + r)) 2))
 else
 L2 p q (IntKind.i64.wrap (Int.tdiv (IntKind.i64.wrap (s + r)) 2)) r
 else
 some r
def Q4.l2 (n : Nat) : Nat → Int → Int → Int → Int → Option Int
 | 0 => fun _ _ _ _ => none
 | k + 1 => Q4.g2 (Q4.l2 n k)
def Q4.top (I2 : Int → Int → Int → Int → Option Int) (p : Int) (q : Int) : Option Int :=
 I2 p q (-1) 300000
def Q4.fn (n : Nat) (p : Int) (q : Int) : Option Int := Q4.top (Q4.l2 n n) p q
def Q4.f (p : Int) (q : Int) : Option Int := Q4.fn NN p q
end
end Go.Pl

namespace Go.Pl
open Go.Ev
set_option linter.unusedVariables false
noncomputable section
def Qai.top (p : Int) (q : Int) : Option YC :=
 (Qa5.f p q).bind fun r1 =>
 if ((r1 : Int) != 0) = true then
 some (0, r1)
 else
 (Q4.f p q).bind fun r2 =>
 some (r2, 0)
def Qai.fn (n : Nat) (p : Int) (q : Int) : Option YC := Qai.top p q
def Qai.f (p : Int) (q : Int) : Option YC := Qai.fn NN p q
end
end Go.Pl

namespace Go.Pl
open Go.Ev
set_option linter.unusedVariables false
noncomputable section
def Qa1.top (t0 : Int) : Option ByteArray :=
 (Qe.f (IntKind.i64.wrap (Int.tdiv t0 60000))).bind fun r1 =>
 if r1.size + (⟨#[58]⟩ : ByteArray).size ≤ 9223372036854775807 then
 (Qe.f (IntKind.i64.wrap (Int.tdiv (Int.tmod (IntKind.i64.wrap (Int.tdiv t0 1000)) 60) 10))).bind fun r2 =>
 if (r1 ++ (⟨#[58]⟩ : ByteArray)).size + r2.size ≤ 9223372036854775807 then
 (Qe.f (Int.tmod (Int.tmod (IntKind.i64.wrap (Int.tdiv t0 1000)) 60) 10)).bind fun r3 =>
 if ((r1 ++ (⟨#[58]⟩ : ByteArray)) ++ r2).size + r3.size ≤ 9223372036854775807 then
 if (((r1 ++ (⟨#[58]⟩ : ByteArray)) ++ r2) ++ r3).size + (⟨#[46]⟩ : ByteArray).size ≤ 9223372036854775807 then
 (Qe.f (IntKind.i64.wrap (Int.tdiv (Int.tmod t0 1000) 100))).bind fun r4 =>
 if ((((r1 ++ (⟨#[58]⟩ : ByteArray)) ++ r2) ++ r3) ++ (⟨#[46]⟩ : ByteArray)).size + r4.size ≤ 9223372036854775807 then
 (Qe.f (Int.tmod (IntKind.i64.wrap (Int.tdiv (Int.tmod t0 1000) 10)) 10)).bind fun r5 =>
 if (((((r1 ++ (⟨#[58]⟩ : ByteArray)) ++ r2) ++ r3) ++ (⟨#[46]⟩ : ByteArray)) ++ r4).size + r5.size ≤ 9223372036854775807 then
 (Qe.f (Int.tmod (Int.tmod t0 1000) 10)).bind fun r6 =>
 if ((((((r1 ++ (⟨#[58]⟩ : ByteArray)) ++ r2) ++ r3) ++ (⟨#[46]⟩ : ByteArray)) ++ r4) ++ r5).size + r6.size ≤ 9223372036854775807 then
 some (((((((r1 ++ (⟨#[58]⟩ : ByteArray)) ++ r2) ++ r3) ++ (⟨#[46]⟩ : ByteArray)) ++ r4) ++ r5) ++ r6)
 else
 none
 else
 none
 else
 none
 else
 none
 else
 none
 else
 none
 else
 none
def Qa1.fn (n : Nat) (t0 : Int) : Option ByteArray := Qa1.top t0
def Qa1.f (t0 : Int) : Option ByteArray := Qa1.fn NN t0
end
end Go.Pl

namespace Go.Pl
open Go.Ev
set_option linter.unusedVariables false
noncomputable section
def QaN.top (t0 : Int) : Option YS :=
 (Qaj.f t0).bind fun r1 =>
 if (!r1) = true then
 some ((⟨#[]⟩ : ByteArray), 2)
 else
 (Qa1.f t0).bind fun r2 =>
 some (r2, 0)
def QaN.fn (n : Nat) (t0 : Int) : Option YS := QaN.top t0
def QaN.f (t0 : Int) : Option YS := QaN.fn NN t0
end
end Go.Pl

namespace Go.Pl
open Go.Ev
set_option linter.unusedVariables false
noncomputable section
def Qa6.top (up0 : Int) (p : Int) (q : Int) (t3 : Int) : Option Int :=
 (Qab.f up0 0 200000).bind fun r1 =>
 if (!r1) = false then
 (Qab.f p (-50000) 50000).bind fun r2 =>
 if (!r2) = false then
 (Qab.f q (-50000) 50000).bind fun r3 =>
 if (!r3) = false then
 (Qab.f t3 0 60000).bind fun r4 =>
 if (!r4) = true then
 some 2
 else
 some 0
 else
 some 2
 else
 some 2
 else
 some 2
def Qa6.fn (n : Nat) (up0 : Int) (p : Int) (q : Int) (t3 : Int) : Option Int := Qa6.top up0 p q t3
def Qa6.f (up0 : Int) (p : Int) (q : Int) (t3 : Int) : Option Int := Qa6.fn NN up0 p q t3
end
end Go.Pl

namespace Go.Pl
open Go.Ev
set_option linter.unusedVariables false
noncomputable section
def QaU.top (a0 : Int) (b1 : Int) : Option Int :=
 if (decide ((b1 : Int) < 0)) = true then
 if (IntKind.i64.wrap (0 - b1)) = 0 then
 none
 else if (IntKind.i64.wrap (0 - b1)) = 0 then
 none
 else if (decide (((Int.tmod (IntKind.i64.wrap (0 - a0)) (IntKind.i64.wrap (0 - b1))) : Int) < 0)) = true then
 some (IntKind.i64.wrap ((IntKind.i64.wrap (Int.tdiv (IntKind.i64.wrap (0 - a0)) (IntKind.i64.wrap (0 - b1)))) - 1))
 else
 some (IntKind.i64.wrap (Int.tdiv (IntKind.i64.wrap (0 - a0)) (IntKind.i64.wrap (0 - b1))))
 else if b1 = 0 then
 none
 else if b1 = 0 then
 none
 else if (decide (((Int.tmod a0 b1) : Int) < 0)) = true then
 some (IntKind.i64.wrap ((IntKind.i64.wrap (Int.tdiv a0 b1)) - 1))
 else
 some (IntKind.i64.wrap (Int.tdiv a0 b1))
def QaU.fn (n : Nat) (a0 : Int) (b1 : Int) : Option Int := QaU.top a0 b1
def QaU.f (a0 : Int) (b1 : Int) : Option Int := QaU.fn NN a0 b1
end
end Go.Pl

namespace Go.Pl
open Go.Ev
set_option linter.unusedVariables false
noncomputable section
def Qau.top (up0 : Int) (t1 : Int) : Option Int :=
 (QaU.f (IntKind.i64.wrap ((IntKind.i64.wrap ((IntKind.i64.wrap (2000 * up0)) * t1)) - (IntKind.i64.wrap ((IntKind.i64.wrap (9810 * t1)) * t1)))) 2000000).bind fun r1 =>
 some r1
def Qau.fn (n : Nat) (up0 : Int) (t1 : Int) : Option Int := Qau.top up0 t1
def Qau.f (up0 : Int) (t1 : Int) : Option Int := Qau.fn NN up0 t1
end
end Go.Pl

namespace Go.Pl
open Go.Ev
set_option linter.unusedVariables false
noncomputable section
def Q5.g3 (L3 : Int → Int → Int → Option YC) (up0 : Int) (t4 : Int) (p : Int) : Option YC :=
 if (decide ((0 : Int) < t4)) = true then
 (Qau.f up0 (IntKind.i64.wrap (t4 - 1))).bind fun r3 =>
 if ((r3 : Int) == p) = true then
 L3 up0 (IntKind.i64.wrap (t4 - 1)) p
 else
 (Qau.f up0 t4).bind fun r4 =>
 if (decide ((r4 : Int) < p)) = true then
 some (IntKind.i64.wrap (t4 + 1), p)
 else
 some (t4, p)
 else
 (Qau.f up0 t4).bind fun r5 =>
 if (decide ((r5 : Int) < p)) = true then
 some (IntKind.i64.wrap (t4 + 1), p)
 else
 some (t4, p)
def Q5.l3 (n : Nat) : Nat → Int → Int → Int → Option YC
 | 0 => fun _ _ _ => none
 | k + 1 => Q5.g3 (Q5.l3 n k)
def Q5.top (I3 : Int → Int → Int → Option YC) (up0 : Int) : Option YC :=
 (Qau.f up0 (IntKind.i64.wrap (Int.tdiv (IntKind.i64.wrap (1000 * up0)) 9810))).bind fun r1 =>
 (Qau.f up0 (IntKind.i64.wrap ((IntKind.i64.wrap (Int.tdiv (IntKind.i64.wrap (1000 * up0)) 9810)) + 1))).bind fun r2 =>
 I3 up0 (IntKind.i64.wrap (Int.tdiv (IntKind.i64.wrap (1000 * up0)) 9810)) (if r2 > r1 then r2 else r1)
def Q5.fn (n : Nat) (up0 : Int) : Option YC := Q5.top (Q5.l3 n n) up0
def Q5.f (up0 : Int) : Option YC := Q5.fn NN up0
end
end Go.Pl

namespace Go.Pl
open Go.Ev
set_option linter.unusedVariables false
noncomputable section
def Qba.top (up0 : Int) : Option (Int × Int × Int) :=
 (Qa6.f up0 0 0 0).bind fun r1 =>
 if ((r1 : Int) != 0) = true then
 some (0, 0, r1)
 else
 (Q5.f up0).bind fun r2 =>
 some (r2.1, r2.2, 0)
def Qba.fn (n : Nat) (up0 : Int) : Option (Int × Int × Int) := Qba.top up0
def Qba.f (up0 : Int) : Option (Int × Int × Int) := Qba.fn NN up0
end
end Go.Pl

namespace Go.Pl
open Go.Ev
set_option linter.unusedVariables false
noncomputable section
def QY.g3 (L3 : List ByteArray → ByteArray → ByteArray → Int → Option ByteArray) (p : List ByteArray) (by1 : ByteArray) (q : ByteArray) (i6 : Int) : Option ByteArray :=
 if (decide ((i6 : Int) < (p.length : Int))) = true then
 if (decide ((0 : Int) < i6)) = true then
 if q.size + by1.size ≤ 9223372036854775807 then
 if (0 : Int) ≤ i6 ∧ (i6 : Int) < p.length then
 if (q ++ by1).size + (p.getD (i6 : Int).toNat ByteArray.empty).size ≤ 9223372036854775807 then
 L3 p by1 ((q ++ by1) ++ (p.getD (i6 : Int).toNat ByteArray.empty)) (IntKind.i64.wrap (i6 + 1))
 else
 none
 else
 none
 else
 none
 else if (0 : Int) ≤ i6 ∧ (i6 : Int) < p.length then
 if q.size + (p.getD (i6 : Int).toNat ByteArray.empty).size ≤ 9223372036854775807 then
 L3 p by1 (q ++ (p.getD (i6 : Int).toNat ByteArray.empty)) (IntKind.i64.wrap (i6 + 1))
 else
 none
 else
 none
 else
 some q
def QY.l3 (n : Nat) : Nat → List ByteArray → ByteArray → ByteArray → Int → Option ByteArray
 | 0 => fun _ _ _ _ => none
 | k + 1 => QY.g3 (QY.l3 n k)
def QY.top (I3 : List ByteArray → ByteArray → ByteArray → Int → Option ByteArray) (p : List ByteArray) (by1 : ByteArray) : Option ByteArray :=
 I3 p by1 (⟨#[]⟩ : ByteArray) 0
def QY.fn (n : Nat) (p : List ByteArray) (by1 : ByteArray) : Option ByteArray := QY.top (QY.l3 n n) p by1
def QY.f (p : List ByteArray) (by1 : ByteArray) : Option ByteArray := QY.fn NN p by1
end
end Go.Pl

namespace Go.Pl
open Go.Ev
set_option linter.unusedVariables false
noncomputable section
def Qm.g2 (L2 : YAB) (s1 : ByteArray) (at5 : Int) (p : List ByteArray) : Option YH :=
 if (decide ((at5 : Int) < (p.length : Int))) = true then
 if (0 : Int) ≤ at5 ∧ (at5 : Int) < p.length then
 if (Op.bytesLess (p.getD (at5 : Int).toNat ByteArray.empty).toList s1.toList) = true then
 L2 s1 (IntKind.i64.wrap (at5 + 1)) p
 else if (decide ((at5 : Int) < (p.length : Int))) = true then
 if (0 : Int) ≤ at5 ∧ (at5 : Int) < p.length then
 if ((p.getD (at5 : Int).toNat ByteArray.empty).toList == s1.toList) = true then
 some p
 else if (0 : Int) ≤ at5 ∧ (at5 : Int) ≤ p.length then
 if (0 : Int) ≤ at5 ∧ (at5 : Int) ≤ p.length then
 if ([] : List ByteArray).length + (p.take (at5 : Int).toNat).length < room 16 then
 if (([] : List ByteArray) ++ (p.take (at5 : Int).toNat)).length + ([s1]).length < room 16 then
 if ((([] : List ByteArray) ++ (p.take (at5 : Int).toNat)) ++ ([s1])).length + (p.drop (at5 : Int).toNat).length < room 16 then
 some (((([] : List ByteArray) ++ (p.take (at5 : Int).toNat)) ++ ([s1])) ++ (p.drop (at5 : Int).toNat))
 else
 none
 else
 none
 else
 none
 else
 none
 else
 none
 else
 none
 else if (0 : Int) ≤ at5 ∧ (at5 : Int) ≤ p.length then
 if (0 : Int) ≤ at5 ∧ (at5 : Int) ≤ p.length then
 if ([] : List ByteArray).length + (p.take (at5 : Int).toNat).length < room 16 then
 if (([] : List ByteArray) ++ (p.take (at5 : Int).toNat)).length + ([s1]).length < room 16 then
 if ((([] : List ByteArray) ++ (p.take (at5 : Int).toNat)) ++ ([s1])).length + (p.drop (at5 : Int).toNat).length < room 16 then
 some (((([] : List ByteArray) ++ (p.take (at5 : Int).toNat)) ++ ([s1])) ++ (p.drop (at5 : Int).toNat))
 else
 none
 else
 none
 else
 none
 else
 none
 else
 none
 else
 none
 else if (decide ((at5 : Int) < (p.length : Int))) = true then
 if (0 : Int) ≤ at5 ∧ (at5 : Int) < p.length then
 if ((p.getD (at5 : Int).toNat ByteArray.empty).toList == s1.toList) = true then
 some p
 else if (0 : Int) ≤ at5 ∧ (at5 : Int) ≤ p.length then
 if (0 : Int) ≤ at5 ∧ (at5 : Int) ≤ p.length then
 if ([] : List ByteArray).length + (p.take (at5 : Int).toNat).length < room 16 then
 if (([] : List ByteArray) ++ (p.take (at5 : Int).toNat)).length + ([s1]).length < room 16 then
 if ((([] : List ByteArray) ++ (p.take (at5 : Int).toNat)) ++ ([s1])).length + (p.drop (at5 : Int).toNat).length < room 16 then
 some (((([] : List ByteArray) ++ (p.take (at5 : Int).toNat)) ++ ([s1])) ++ (p.drop (at5 : Int).toNat))
 else
 none
 else
 none
 else
 none
 else
 none
 else
 none
 else
 none
 else if (0 : Int) ≤ at5 ∧ (at5 : Int) ≤ p.length then
 if (0 : Int) ≤ at5 ∧ (at5 : Int) ≤ p.length then
 if ([] : List ByteArray).length + (p.take (at5 : Int).toNat).length < room 16 then
 if (([] : List ByteArray) ++ (p.take (at5 : Int).toNat)).length + ([s1]).length < room 16 then
 if ((([] : List ByteArray) ++ (p.take (at5 : Int).toNat)) ++ ([s1])).length + (p.drop (at5 : Int).toNat).length < room 16 then
 some (((([] : List ByteArray) ++ (p.take (at5 : Int).toNat)) ++ ([s1])) ++ (p.drop (at5 : Int).toNat))
 else
 none
 else
 none
 else
 none
 else
 none
 else
 none
def Qm.l2 (n : Nat) : Nat → ByteArray → Int → List ByteArray → Option YH
 | 0 => fun _ _ _ => none
 | k + 1 => Qm.g2 (Qm.l2 n k)
def Qm.top (I2 : YAB) (p : List ByteArray) (s1 : ByteArray) : Option YH :=
 I2 s1 0 p
def Qm.fn (n : Nat) (p : List ByteArray) (s1 : ByteArray) : Option YH := Qm.top (Qm.l2 n n) p s1
def Qm.f (p : List ByteArray) (s1 : ByteArray) : Option YH := Qm.fn NN p s1
end
end Go.Pl

namespace Go.Pl
open Go.Ev
set_option linter.unusedVariables false
noncomputable section
def Q0.g3 (L3 : YD → Int → List ByteArray → Option YH) (p : List YA) (i4 : Int) (q : List ByteArray) : Option YH :=
 if (decide ((i4 : Int) < (p.length : Int))) = true then
 if (0 : Int) ≤ i4 ∧ (i4 : Int) < p.length then
 (QK.f p (((p.getD (i4 : Int).toNat (0, (ByteArray.empty, 0))).2).1) (p.length : Int)).bind fun r1 =>
 if (decide ((0 : Int) < r1)) = true then
 if (0 : Int) ≤ i4 ∧ (i4 : Int) < p.length then
 (Qm.f q (((p.getD (i4 : Int).toNat (0, (ByteArray.empty, 0))).2).1)).bind fun r2 =>
 L3 p (IntKind.i64.wrap (i4 + 1)) r2
 else
 none
 else
 L3 p (IntKind.i64.wrap (i4 + 1)) q
 else
 none
 else
 some q
def Q0.l3 (n : Nat) : Nat → YD → Int → List ByteArray → Option YH
 | 0 => fun _ _ _ => none
 | k + 1 => Q0.g3 (Q0.l3 n k)
def Q0.top (I3 : YD → Int → List ByteArray → Option YH) (p : List YA) : Option YH :=
 I3 p 0 []
def Q0.fn (n : Nat) (p : List YA) : Option YH := Q0.top (Q0.l3 n n) p
def Q0.f (p : List YA) : Option YH := Q0.fn NN p
end
end Go.Pl

namespace Go.Pl
open Go.Ev
set_option linter.unusedVariables false
noncomputable section
def Qa2.top (c0 : Bool × Bool × Bool × Bool × Bool × Int) : Option YB :=
 some (c0.1, (c0.2.1, (false, (false, c0.2.2.2.2))))
def Qa2.fn (n : Nat) (c0 : Bool × Bool × Bool × Bool × Bool × Int) : Option YB := Qa2.top c0
def Qa2.f (c0 : Bool × Bool × Bool × Bool × Bool × Int) : Option YB := Qa2.fn NN c0
end
end Go.Pl

namespace Go.Pl
open Go.Ev
set_option linter.unusedVariables false
noncomputable section
def QaL.top (c0 : Bool × Bool × Bool × Bool × Bool × Int) (p : Int) : Option (YB × Bool) :=
 if ((p : Int) == 0) = true then
 if (!(!c0.1)) = true then
 (Qa2.f (!c0.1, c0.2)).bind fun r1 =>
 some (r1, true)
 else
 some ((!c0.1, c0.2), true)
 else if ((p : Int) == 1) = true then
 if (!(!c0.2.1)) = true then
 (Qa2.f (c0.1, (!c0.2.1, c0.2.2))).bind fun r2 =>
 some (r2, true)
 else
 some ((c0.1, (!c0.2.1, c0.2.2)), true)
 else if ((p : Int) == 2) = true then
 if (!c0.1) = false then
 if (!c0.2.1) = false then
 if c0.2.2.2.2.1 = true then
 some (c0, false)
 else
 some ((c0.1, (c0.2.1, (true, (false, (c0.2.2.2.2.1, 0))))), true)
 else
 some (c0, false)
 else
 some (c0, false)
 else if ((p : Int) == 3) = true then
 (Qa2.f c0).bind fun r3 =>
 some (r3, true)
 else if ((p : Int) == 4) = true then
 if (!c0.2.2.1) = false then
 if c0.2.2.2.1 = true then
 some (c0, false)
 else
 some ((c0.1, (c0.2.1, (c0.2.2.1, (true, c0.2.2.2.2)))), true)
 else
 some (c0, false)
 else if ((p : Int) == 5) = true then
 if (!c0.2.2.2.1) = true then
 some (c0, false)
 else
 some ((c0.1, (c0.2.1, (c0.2.2.1, (false, c0.2.2.2.2)))), true)
 else if ((p : Int) == 6) = true then
 (Qa2.f c0).bind fun r4 =>
 some ((r4.1, (r4.2.1, (r4.2.2.1, (r4.2.2.2.1, (true, r4.2.2.2.2.2))))), true)
 else if ((p : Int) == 7) = true then
 some ((c0.1, (c0.2.1, (c0.2.2.1, (c0.2.2.2.1, (c0.2.2.2.2.1, 0))))), true)
 else if ((p : Int) == 8) = true then
 if (decide ((3 : Int) < (if (IntKind.i64.wrap (c0.2.2.2.2.2 + 1)) < 4 then (IntKind.i64.wrap (c0.2.2.2.2.2 + 1)) else 4))) = true then
 (Qa2.f (c0.1, (c0.2.1, (c0.2.2.1, (c0.2.2.2.1, (c0.2.2.2.2.1, (if (IntKind.i64.wrap (c0.2.2.2.2.2 + 1)) < 4 then (IntKind.i64.wrap (c0.2.2.2.2.2 + 1)) else 4))))))).bind fun r5 =>
 some (r5, true)
 else
 some ((c0.1, (c0.2.1, (c0.2.2.1, (c0.2.2.2.1, (c0.2.2.2.2.1, (if (IntKind.i64.wrap (c0.2.2.2.2.2 + 1)) < 4 then (IntKind.i64.wrap (c0.2.2.2.2.2 + 1)) else 4)))))), true)
 else if (!c0.2.2.2.2.1) = false then
 if c0.1 = false then
 if c0.2.1 = true then
 some (c0, false)
 else
 some ((c0.1, (c0.2.1, (c0.2.2.1, (c0.2.2.2.1, (false, c0.2.2.2.2.2))))), true)
 else
 some (c0, false)
 else
 some (c0, false)
def QaL.fn (n : Nat) (c0 : Bool × Bool × Bool × Bool × Bool × Int) (p : Int) : Option (YB × Bool) := QaL.top c0 p
def QaL.f (c0 : Bool × Bool × Bool × Bool × Bool × Int) (p : Int) : Option (YB × Bool) := QaL.fn NN c0 p
end
end Go.Pl

namespace Go.Pl
open Go.Ev
set_option linter.unusedVariables false
noncomputable section
def QH.g2 (L2 : Int → YB → Bool → Bool → Bool → Bool → Bool → Int → Option YB) (k5 : Int) (c2 : Bool × Bool × Bool × Bool × Bool × Int) (v4a : Bool) (t : Bool) (s : Bool) (r : Bool) (p : Bool) (q : Int) : Option YB :=
 if (decide ((0 : Int) < k5)) = true then
 (QaL.f c2 8).bind fun r1 =>
 L2 (IntKind.i64.wrap (k5 - 1)) r1.1 v4a t s r p q
 else
 some c2
def QH.l2 (n : Nat) : Nat → Int → YB → Bool → Bool → Bool → Bool → Bool → Int → Option YB
 | 0 => fun _ _ _ _ _ _ _ _ => none
 | k + 1 => QH.g2 (QH.l2 n k)
def QH.top (I2 : Int → YB → Bool → Bool → Bool → Bool → Bool → Int → Option YB) (c0 : Bool × Bool × Bool × Bool × Bool × Int) (n1 : Int) : Option YB :=
 I2 (if 5 < n1 then 5 else n1) c0 false false false false false 0
def QH.fn (n : Nat) (c0 : Bool × Bool × Bool × Bool × Bool × Int) (n1 : Int) : Option YB := QH.top (QH.l2 n n) c0 n1
def QH.f (c0 : Bool × Bool × Bool × Bool × Bool × Int) (n1 : Int) : Option YB := QH.fn NN c0 n1
end
end Go.Pl

namespace Go.Pl
open Go.Ev
set_option linter.unusedVariables false
noncomputable section
def QN.g4 (L4 : YAD) (p : List YC) (q : Int) (v : Int) (i9 : Int) (v4a : Bool) (y : Bool) (w : Bool) (u : Bool) (s : Bool) (t : Int) (c6 : Bool × Bool × Bool × Bool × Bool × Int) (r : List Int) : Option YAC :=
 if (decide ((i9 : Int) < (p.length : Int))) = true then
 if (0 : Int) ≤ i9 ∧ (i9 : Int) < p.length then
 if (decide ((((p.getD (i9 : Int).toNat (0, 0)).1) : Int) ≤ q)) = true then
 if (0 : Int) ≤ i9 ∧ (i9 : Int) < p.length then
 (QH.f c6 (IntKind.i64.wrap (((p.getD (i9 : Int).toNat (0, 0)).1) - v))).bind fun r1 =>
 if (0 : Int) ≤ i9 ∧ (i9 : Int) < p.length then
 if (0 : Int) ≤ i9 ∧ (i9 : Int) < p.length then
 (QaL.f r1 ((p.getD (i9 : Int).toNat (0, 0)).2)).bind fun r2 =>
 if r2.2 = true then
 L4 p q ((p.getD (i9 : Int).toNat (0, 0)).1) (IntKind.i64.wrap (i9 + 1)) v4a y w u s t r2.1 r
 else if r.length + ([i9]).length < room 8 then
 L4 p q ((p.getD (i9 : Int).toNat (0, 0)).1) (IntKind.i64.wrap (i9 + 1)) v4a y w u s t r1 (r ++ ([i9]))
 else
 none
 else
 none
 else
 none
 else
 none
 else
 (QH.f c6 (IntKind.i64.wrap (q - v))).bind fun r3 =>
 some (r3, r)
 else
 none
 else
 (QH.f c6 (IntKind.i64.wrap (q - v))).bind fun r4 =>
 some (r4, r)
def QN.l4 (n : Nat) : Nat → YE → Int → Int → Int → Bool → Bool → Bool → Bool → Bool → Int → YB → List Int → Option YAC
 | 0 => fun _ _ _ _ _ _ _ _ _ _ _ _ => none
 | k + 1 => QN.g4 (QN.l4 n k)
def QN.top (I4 : YAD) (p : List YC) (q : Int) : Option YAC :=
 I4 p q 0 0 false false false false false 0 (false, (false, (false, (false, (false, 0))))) []
def QN.fn (n : Nat) (p : List YC) (q : Int) : Option YAC := QN.top (QN.l4 n n) p q
def QN.f (p : List YC) (q : Int) : Option YAC := QN.fn NN p q
end
end Go.Pl

namespace Go.Pl
open Go.Ev
set_option linter.unusedVariables false
noncomputable section
def Qg.g9 (L3 : YAF) (L9 : List Int → YE → YD → List ByteArray → Int → Int → Bool → Int → List Int → Option YM) (p : List Int) (s : List YC) (r : List YA) (q : List ByteArray) (i10 : Int) (u : Int) (v : Bool) (k15 : Int) (t : List Int) : Option YM :=
 if (decide ((k15 : Int) < (q.length : Int))) = true then
 if v = true then
 if (0 : Int) ≤ k15 ∧ (k15 : Int) < q.length then
 (QM.f r (q.getD (k15 : Int).toNat ByteArray.empty) (IntKind.i64.wrap (u * 100))).bind fun r2 =>
 L9 p s r q i10 u r2 (IntKind.i64.wrap (k15 + 1)) t
 else
 none
 else
 L9 p s r q i10 u false (IntKind.i64.wrap (k15 + 1)) t
 else if v = true then
 if t.length + ([u]).length < room 8 then
 L3 p s r q (IntKind.i64.wrap (i10 + 1)) (t ++ ([u]))
 else
 none
 else if t.length + ([(-1)]).length < room 8 then
 L3 p s r q (IntKind.i64.wrap (i10 + 1)) (t ++ ([(-1)]))
 else
 none
def Qg.l9 (n : Nat) (L3 : YAF) : Nat → List Int → YE → YD → List ByteArray → Int → Int → Bool → Int → List Int → Option YM
 | 0 => fun _ _ _ _ _ _ _ _ _ => none
 | k + 1 => Qg.g9 L3 (Qg.l9 n L3 k)
def Qg.g3 (I9 : List Int → YE → YD → List ByteArray → Int → Int → Bool → Int → List Int → Option YM) (L3 : YAF) (p : List Int) (s : List YC) (r : List YA) (q : List ByteArray) (i10 : Int) (t : List Int) : Option YM :=
 if (decide ((i10 : Int) < (p.length : Int))) = true then
 if (0 : Int) ≤ i10 ∧ (i10 : Int) < p.length then
 (QN.f s (IntKind.i64.wrap (Int.tdiv (p.getD (i10 : Int).toNat 0) 100))).bind fun r1 =>
 if r1.1.2.2.1 = true then
 I9 p s r q i10 (IntKind.i64.wrap (Int.tdiv (p.getD (i10 : Int).toNat 0) 100)) (!r1.1.2.2.2.1) 0 t
 else
 I9 p s r q i10 (IntKind.i64.wrap (Int.tdiv (p.getD (i10 : Int).toNat 0) 100)) false 0 t
 else
 none
 else
 some t
def Qg.l3 (n : Nat) : Nat → List Int → YE → YD → List ByteArray → Int → List Int → Option YM
 | 0 => fun _ _ _ _ _ _ => none
 | k + 1 => Qg.g3 (Qg.l9 n (Qg.l3 n k) n) (Qg.l3 n k)
def Qg.top (I3 : YAF) (p : List Int) (s : List YC) (r : List YA) (q : List ByteArray) : Option YM :=
 I3 p s r q 0 []
def Qg.fn (n : Nat) (p : List Int) (s : List YC) (r : List YA) (q : List ByteArray) : Option YM := Qg.top (Qg.l3 n n) p s r q
def Qg.f (p : List Int) (s : List YC) (r : List YA) (q : List ByteArray) : Option YM := Qg.fn NN p s r q
end
end Go.Pl

namespace Go.Pl
open Go.Ev
set_option linter.unusedVariables false
noncomputable section
def Q2.g5 (L5 : Int → Int → YG → List ByteArray → Option YS) (t1 : Int) (i7 : Int) (d2 : YD × YE × List YA) (p : List ByteArray) : Option YS :=
 if (decide ((i7 : Int) < (d2.1.length : Int))) = true then
 if (0 : Int) ≤ i7 ∧ (i7 : Int) < d2.1.length then
 (Qm.f p (((d2.1.getD (i7 : Int).toNat (0, (ByteArray.empty, 0))).2).1)).bind fun r2 =>
 L5 t1 (IntKind.i64.wrap (i7 + 1)) d2 r2
 else
 none
 else
 (Qg.f ([t1]) d2.2.1 d2.1 p).bind fun r3 =>
 if (0 : Int) ≤ 0 ∧ (0 : Int) < r3.length then
 if (decide (((r3.getD (0 : Int).toNat 0) : Int) < 0)) = true then
 some ((⟨#[109, 105, 115, 115, 101, 100]⟩ : ByteArray), 0)
 else
 (Qe.f (r3.getD (0 : Int).toNat 0)).bind fun r4 =>
 some (r4, 0)
 else
 none
def Q2.l5 (n : Nat) : Nat → Int → Int → YG → List ByteArray → Option YS
 | 0 => fun _ _ _ _ => none
 | k + 1 => Q2.g5 (Q2.l5 n k)
def Q2.top (I5 : Int → Int → YG → List ByteArray → Option YS) (d0 : YD × YE × List YA) (t1 : Int) : Option YS :=
 (Qaj.f t1).bind fun r1 =>
 if (!r1) = true then
 some ((⟨#[]⟩ : ByteArray), 1)
 else
 I5 t1 0 d0 []
def Q2.fn (n : Nat) (d0 : YD × YE × List YA) (t1 : Int) : Option YS := Q2.top (Q2.l5 n n) d0 t1
def Q2.f (d0 : YD × YE × List YA) (t1 : Int) : Option YS := Q2.fn NN d0 t1
end
end Go.Pl

namespace Go.Pl
open Go.Ev
set_option linter.unusedVariables false
noncomputable section
def Qr.g2 (L2 : YE → Int → Option Bool) (p : List YC) (i3 : Int) : Option Bool :=
 if (decide ((i3 : Int) < (p.length : Int))) = true then
 if (0 : Int) ≤ i3 ∧ (i3 : Int) < p.length then
 (Qab.f ((p.getD (i3 : Int).toNat (0, 0)).1) 0 100000).bind fun r1 =>
 if (!r1) = false then
 (Qab.f ((p.getD (i3 : Int).toNat (0, 0)).2) 0 9).bind fun r2 =>
 if (!r2) = false then
 if ((((p.getD (i3 : Int).toNat (0, 0)).2) : Int) == 8) = false then
 if (decide ((0 : Int) < i3)) = true then
 if (0 : Int) ≤ (IntKind.i64.wrap (i3 - 1)) ∧ ((IntKind.i64.wrap (i3 - 1)) : Int) < p.length then
 if (decide ((((p.getD (i3 : Int).toNat (0, 0)).1) : Int) < ((p.getD ((IntKind.i64.wrap (i3 - 1)) : Int).toNat (0, 0)).1))) = true then
 some false
 else
 L2 p (IntKind.i64.wrap (i3 + 1))
 else
 none
 else
 L2 p (IntKind.i64.wrap (i3 + 1))
 else
 some false
 else
 some false
 else
 some false
 else
 none
 else
 some (decide (((p.length : Int) : Int) ≤ 40))
def Qr.l2 (n : Nat) : Nat → YE → Int → Option Bool
 | 0 => fun _ _ => none
 | k + 1 => Qr.g2 (Qr.l2 n k)
def Qr.top (I2 : YE → Int → Option Bool) (p : List YC) : Option Bool :=
 I2 p 0
def Qr.fn (n : Nat) (p : List YC) : Option Bool := Qr.top (Qr.l2 n n) p
def Qr.f (p : List YC) : Option Bool := Qr.fn NN p
end
end Go.Pl

namespace Go.Pl
open Go.Ev
set_option linter.unusedVariables false
noncomputable section
def Qa7.top (p : List YC) (q : Int) : Option Int :=
 (Qr.f p).bind fun r1 =>
 if (!r1) = true then
 some 1
 else
 (Qab.f q 0 100000).bind fun r2 =>
 if (!r2) = true then
 some 2
 else
 some 0
def Qa7.fn (n : Nat) (p : List YC) (q : Int) : Option Int := Qa7.top p q
def Qa7.f (p : List YC) (q : Int) : Option Int := Qa7.fn NN p q
end
end Go.Pl

namespace Go.Pl
open Go.Ev
set_option linter.unusedVariables false
noncomputable section
def Qaq.top (p : List YC) (q : Int) : Option YI :=
 (Qa7.f p q).bind fun r1 =>
 if ((r1 : Int) != 0) = true then
 some ((false, (false, (false, (false, (false, 0))))), r1)
 else
 (QN.f p q).bind fun r2 =>
 some ((r2.1.1, (r2.1.2.1, (r2.1.2.2.1, (r2.1.2.2.2.1, (r2.1.2.2.2.2.1, r2.1.2.2.2.2.2))))), 0)
def Qaq.fn (n : Nat) (p : List YC) (q : Int) : Option YI := Qaq.top p q
def Qaq.f (p : List YC) (q : Int) : Option YI := Qaq.fn NN p q
end
end Go.Pl

namespace Go.Pl
open Go.Ev
set_option linter.unusedVariables false
noncomputable section
def QaR.top (d0 : YD × YE × List YA) (p : Int) : Option YS :=
 (Qaq.f d0.2.1 p).bind fun r1 =>
 if r1.1.2.2.2.2.1 = true then
 some ((⟨#[115, 116, 111, 112, 112, 101, 100]⟩ : ByteArray), r1.2)
 else if r1.1.2.2.2.1 = true then
 some ((⟨#[104, 101, 108, 100]⟩ : ByteArray), r1.2)
 else if r1.1.2.2.1 = true then
 some ((⟨#[97, 114, 109, 101, 100]⟩ : ByteArray), r1.2)
 else
 some ((⟨#[111, 102, 102]⟩ : ByteArray), r1.2)
def QaR.fn (n : Nat) (d0 : YD × YE × List YA) (p : Int) : Option YS := QaR.top d0 p
def QaR.f (d0 : YD × YE × List YA) (p : Int) : Option YS := QaR.fn NN d0 p
end
end Go.Pl

namespace Go.Pl
open Go.Ev
set_option linter.unusedVariables false
noncomputable section
def Q9.top (d0 : YD × YE × List YA) (p : List ByteArray) (n2 : List Int) : Option YS :=
 if (0 : Int) ≤ 0 ∧ (0 : Int) < p.length then
 if ((p.getD (0 : Int).toNat ByteArray.empty).toList == (⟨#[99, 108, 101, 97, 114]⟩ : ByteArray).toList) = true then
 if (0 : Int) ≤ 1 ∧ (1 : Int) < p.length then
 if (0 : Int) ≤ 0 ∧ (0 : Int) < n2.length then
 (Qa0.f d0.1 (p.getD (1 : Int).toNat ByteArray.empty) (n2.getD (0 : Int).toNat 0)).bind fun r1 =>
 if r1.1 = true then
 some ((⟨#[121, 101, 115]⟩ : ByteArray), r1.2)
 else
 some ((⟨#[110, 111]⟩ : ByteArray), r1.2)
 else
 none
 else
 none
 else if ((p.getD (0 : Int).toNat ByteArray.empty).toList == (⟨#[115, 116, 97, 116, 101]⟩ : ByteArray).toList) = true then
 if (0 : Int) ≤ 0 ∧ (0 : Int) < n2.length then
 (QaR.f d0 (n2.getD (0 : Int).toNat 0)).bind fun r2 =>
 some (r2.1, r2.2)
 else
 none
 else if ((p.getD (0 : Int).toNat ByteArray.empty).toList == (⟨#[102, 105, 114, 101]⟩ : ByteArray).toList) = true then
 if (0 : Int) ≤ 0 ∧ (0 : Int) < n2.length then
 (Q2.f d0 (n2.getD (0 : Int).toNat 0)).bind fun r3 =>
 some (r3.1, r3.2)
 else
 none
 else if ((p.getD (0 : Int).toNat ByteArray.empty).toList == (⟨#[108, 101, 102, 116]⟩ : ByteArray).toList) = true then
 if (0 : Int) ≤ 1 ∧ (1 : Int) < p.length then
 (Qay.f d0.2.2 (p.getD (1 : Int).toNat ByteArray.empty)).bind fun r4 =>
 (Qe.f r4.1).bind fun r5 =>
 some (r5, r4.2)
 else
 none
 else if ((p.getD (0 : Int).toNat ByteArray.empty).toList == (⟨#[111, 112, 101, 110]⟩ : ByteArray).toList) = true then
 (Q0.f d0.2.2).bind fun r6 =>
 if (((r6.length : Int) : Int) == 0) = true then
 some ((⟨#[45]⟩ : ByteArray), 0)
 else
 (QY.f r6 (⟨#[44]⟩ : ByteArray)).bind fun r7 =>
 some (r7, 0)
 else if ((p.getD (0 : Int).toNat ByteArray.empty).toList == (⟨#[116, 111, 112]⟩ : ByteArray).toList) = true then
 if (0 : Int) ≤ 0 ∧ (0 : Int) < n2.length then
 (Qba.f (n2.getD (0 : Int).toNat 0)).bind fun r8 =>
 (Qe.f r8.1).bind fun r9 =>
 if r9.size + (⟨#[32]⟩ : ByteArray).size ≤ 9223372036854775807 then
 (Qe.f r8.2.1).bind fun r10 =>
 if (r9 ++ (⟨#[32]⟩ : ByteArray)).size + r10.size ≤ 9223372036854775807 then
 some ((r9 ++ (⟨#[32]⟩ : ByteArray)) ++ r10, r8.2.2)
 else
 none
 else
 none
 else
 none
 else if ((p.getD (0 : Int).toNat ByteArray.empty).toList == (⟨#[110, 101, 101, 100]⟩ : ByteArray).toList) = true then
 if (0 : Int) ≤ 0 ∧ (0 : Int) < n2.length then
 if (0 : Int) ≤ 1 ∧ (1 : Int) < n2.length then
 (Qai.f (n2.getD (0 : Int).toNat 0) (n2.getD (1 : Int).toNat 0)).bind fun r11 =>
 (Qe.f r11.1).bind fun r12 =>
 some (r12, r11.2)
 else
 none
 else
 none
 else if (0 : Int) ≤ 0 ∧ (0 : Int) < n2.length then
 (QaN.f (n2.getD (0 : Int).toNat 0)).bind fun r13 =>
 some (r13.1, r13.2)
 else
 none
 else
 none
def Q9.fn (n : Nat) (d0 : YD × YE × List YA) (p : List ByteArray) (n2 : List Int) : Option YS := Q9.top d0 p n2
def Q9.f (d0 : YD × YE × List YA) (p : List ByteArray) (n2 : List Int) : Option YS := Q9.fn NN d0 p n2
end
end Go.Pl

namespace Go.Pl
open Go.Ev
set_option linter.unusedVariables false
noncomputable section
def Qak.top (p : List YA) (m1 : Int × ByteArray × Int) : Option YV :=
 (Qy.f p).bind fun r1 =>
 if (!r1) = true then
 some ([], 1)
 else if (((p.length : Int) : Int) == 40) = true then
 some ([], 3)
 else if ([] : List YA).length + p.length < room 32 then
 if (([] : List YA) ++ p).length + ([m1]).length < room 32 then
 (Qy.f ((([] : List YA) ++ p) ++ ([m1]))).bind fun r2 =>
 if (!r2) = true then
 some ([], 5)
 else
 some ((([] : List YA) ++ p) ++ ([m1]), 0)
 else
 none
 else
 none
def Qak.fn (n : Nat) (p : List YA) (m1 : Int × ByteArray × Int) : Option YV := Qak.top p m1
def Qak.f (p : List YA) (m1 : Int × ByteArray × Int) : Option YV := Qak.fn NN p m1
end
end Go.Pl

namespace Go.Pl
open Go.Ev
set_option linter.unusedVariables false
noncomputable section
def Qk.g6 (L6 : YE → Int → YC → Option YY) (p : List YC) (at6 : Int) (x3 : Int × Int) : Option YY :=
 if (decide ((0 : Int) < at6)) = true then
 if (0 : Int) ≤ (IntKind.i64.wrap (at6 - 1)) ∧ ((IntKind.i64.wrap (at6 - 1)) : Int) < p.length then
 if (decide ((x3.1 : Int) < ((p.getD ((IntKind.i64.wrap (at6 - 1)) : Int).toNat (0, 0)).1))) = true then
 L6 p (IntKind.i64.wrap (at6 - 1)) x3
 else if (0 : Int) ≤ at6 ∧ (at6 : Int) ≤ p.length then
 if (0 : Int) ≤ at6 ∧ (at6 : Int) ≤ p.length then
 if ([] : List YC).length + (p.take (at6 : Int).toNat).length < room 16 then
 if (([] : List YC) ++ (p.take (at6 : Int).toNat)).length + ([x3]).length < room 16 then
 if ((([] : List YC) ++ (p.take (at6 : Int).toNat)) ++ ([x3])).length + (p.drop (at6 : Int).toNat).length < room 16 then
 (Qr.f (((([] : List YC) ++ (p.take (at6 : Int).toNat)) ++ ([x3])) ++ (p.drop (at6 : Int).toNat))).bind fun r2 =>
 if (!r2) = true then
 some ([], 5)
 else
 some (((([] : List YC) ++ (p.take (at6 : Int).toNat)) ++ ([x3])) ++ (p.drop (at6 : Int).toNat), 0)
 else
 none
 else
 none
 else
 none
 else
 none
 else
 none
 else
 none
 else if (0 : Int) ≤ at6 ∧ (at6 : Int) ≤ p.length then
 if (0 : Int) ≤ at6 ∧ (at6 : Int) ≤ p.length then
 if ([] : List YC).length + (p.take (at6 : Int).toNat).length < room 16 then
 if (([] : List YC) ++ (p.take (at6 : Int).toNat)).length + ([x3]).length < room 16 then
 if ((([] : List YC) ++ (p.take (at6 : Int).toNat)) ++ ([x3])).length + (p.drop (at6 : Int).toNat).length < room 16 then
 (Qr.f (((([] : List YC) ++ (p.take (at6 : Int).toNat)) ++ ([x3])) ++ (p.drop (at6 : Int).toNat))).bind fun r3 =>
 if (!r3) = true then
 some ([], 5)
 else
 some (((([] : List YC) ++ (p.take (at6 : Int).toNat)) ++ ([x3])) ++ (p.drop (at6 : Int).toNat), 0)
 else
 none
 else
 none
 else
 none
 else
 none
 else
 none
def Qk.l6 (n : Nat) : Nat → YE → Int → YC → Option YY
 | 0 => fun _ _ _ => none
 | k + 1 => Qk.g6 (Qk.l6 n k)
def Qk.top (I6 : YE → Int → YC → Option YY) (p : List YC) (x1 : Int × Int) : Option YY :=
 (Qr.f p).bind fun r1 =>
 if (!r1) = true then
 some ([], 1)
 else if (((p.length : Int) : Int) == 40) = true then
 some ([], 3)
 else
 I6 p (p.length : Int) x1
def Qk.fn (n : Nat) (p : List YC) (x1 : Int × Int) : Option YY := Qk.top (Qk.l6 n n) p x1
def Qk.f (p : List YC) (x1 : Int × Int) : Option YY := Qk.fn NN p x1
end
end Go.Pl

namespace Go.Pl
open Go.Ev
set_option linter.unusedVariables false
noncomputable section
def QT.top (p : List YA) (b1 : Int × ByteArray × Int) : Option YV :=
 (Qj.f p).bind fun r1 =>
 if (!r1) = true then
 some ([], 1)
 else if (((p.length : Int) : Int) == 60) = true then
 some ([], 3)
 else if ([] : List YA).length + p.length < room 32 then
 if (([] : List YA) ++ p).length + ([b1]).length < room 32 then
 (Qj.f ((([] : List YA) ++ p) ++ ([b1]))).bind fun r2 =>
 if (!r2) = true then
 some ([], 5)
 else
 some ((([] : List YA) ++ p) ++ ([b1]), 0)
 else
 none
 else
 none
def QT.fn (n : Nat) (p : List YA) (b1 : Int × ByteArray × Int) : Option YV := QT.top p b1
def QT.f (p : List YA) (b1 : Int × ByteArray × Int) : Option YV := QT.fn NN p b1
end
end Go.Pl

namespace Go.Pl
open Go.Ev
set_option linter.unusedVariables false
noncomputable section
def QaK.top (p : List YA) : Option Int :=
 if (decide ((60 : Int) < (p.length : Int))) = true then
 some 3
 else
 (Qj.f p).bind fun r1 =>
 if (!r1) = true then
 some 5
 else
 some 0
def QaK.fn (n : Nat) (p : List YA) : Option Int := QaK.top p
def QaK.f (p : List YA) : Option Int := QaK.fn NN p
end
end Go.Pl

namespace Go.Pl
open Go.Ev
set_option linter.unusedVariables false
noncomputable section
def QF.g8 (L8 : YD → Int → Int → YD → List ByteArray → Option YV) (p : List YA) (q : Int) (i8 : Int) (s : List YA) (r : List ByteArray) : Option YV :=
 if (decide ((i8 : Int) < (r.length : Int))) = true then
 if (0 : Int) ≤ i8 ∧ (i8 : Int) < r.length then
 if (0 : Int) ≤ i8 ∧ (i8 : Int) < r.length then
 (QK.f p (r.getD (i8 : Int).toNat ByteArray.empty) (p.length : Int)).bind fun r4 =>
 if s.length + ([(q, (r.getD (i8 : Int).toNat ByteArray.empty, r4))]).length < room 32 then
 L8 p q (IntKind.i64.wrap (i8 + 1)) (s ++ ([(q, (r.getD (i8 : Int).toNat ByteArray.empty, r4))])) r
 else
 none
 else
 none
 else
 none
 else
 (QaK.f s).bind fun r5 =>
 if ((r5 : Int) != 0) = true then
 some ([], r5)
 else
 some (s, 0)
def QF.l8 (n : Nat) : Nat → YD → Int → Int → YD → List ByteArray → Option YV
 | 0 => fun _ _ _ _ _ => none
 | k + 1 => QF.g8 (QF.l8 n k)
def QF.top (I8 : YD → Int → Int → YD → List ByteArray → Option YV) (p : List YA) (q : Int) : Option YV :=
 (Qj.f p).bind fun r1 =>
 if (!r1) = true then
 some ([], 1)
 else
 (Qab.f q 1 3).bind fun r2 =>
 if (!r2) = true then
 some ([], 2)
 else if ([] : List YA).length + p.length < room 32 then
 (Q0.f p).bind fun r3 =>
 I8 p q 0 (([] : List YA) ++ p) r3
 else
 none
def QF.fn (n : Nat) (p : List YA) (q : Int) : Option YV := QF.top (QF.l8 n n) p q
def QF.f (p : List YA) (q : Int) : Option YV := QF.fn NN p q
end
end Go.Pl

namespace Go.Pl
open Go.Ev
set_option linter.unusedVariables false
noncomputable section
def QR.g2 (L2 : List ByteArray → ByteArray → Int → Option Int) (p : List ByteArray) (q : ByteArray) (i5 : Int) : Option Int :=
 if (decide ((i5 : Int) < (p.length : Int))) = true then
 if (0 : Int) ≤ i5 ∧ (i5 : Int) < p.length then
 if ((p.getD (i5 : Int).toNat ByteArray.empty).toList == q.toList) = true then
 some i5
 else
 L2 p q (IntKind.i64.wrap (i5 + 1))
 else
 none
 else
 some (-1)
def QR.l2 (n : Nat) : Nat → List ByteArray → ByteArray → Int → Option Int
 | 0 => fun _ _ _ => none
 | k + 1 => QR.g2 (QR.l2 n k)
def QR.top (I2 : List ByteArray → ByteArray → Int → Option Int) (p : List ByteArray) (q : ByteArray) : Option Int :=
 I2 p q 0
def QR.fn (n : Nat) (p : List ByteArray) (q : ByteArray) : Option Int := QR.top (QR.l2 n n) p q
def QR.f (p : List ByteArray) (q : ByteArray) : Option Int := QR.fn NN p q
end
end Go.Pl

namespace Go.Pl
open Go.Ev
set_option linter.unusedVariables false
noncomputable section
def Qad.top (d0 : YD × YE × List YA) (p : List ByteArray) (n2 : List Int) : Option (YG × Int) :=
 if (0 : Int) ≤ 0 ∧ (0 : Int) < p.length then
 if ((p.getD (0 : Int).toNat ByteArray.empty).toList == (⟨#[112, 101, 111, 112, 108, 101]⟩ : ByteArray).toList) = true then
 if (0 : Int) ≤ 0 ∧ (0 : Int) < n2.length then
 if (0 : Int) ≤ 1 ∧ (1 : Int) < p.length then
 if (0 : Int) ≤ 1 ∧ (1 : Int) < n2.length then
 (Qak.f d0.1 (n2.getD (0 : Int).toNat 0, (p.getD (1 : Int).toNat ByteArray.empty, n2.getD (1 : Int).toNat 0))).bind fun r1 =>
 if ((r1.2 : Int) == 0) = true then
 some ((r1.1, d0.2), r1.2)
 else
 some (d0, r1.2)
 else
 none
 else
 none
 else
 none
 else if ((p.getD (0 : Int).toNat ByteArray.empty).toList == (⟨#[115, 105, 103, 110, 97, 108]⟩ : ByteArray).toList) = true then
 if (0 : Int) ≤ 1 ∧ (1 : Int) < p.length then
 (QaI.f).bind fun r2 =>
 (QR.f r2 (p.getD (1 : Int).toNat ByteArray.empty)).bind fun r3 =>
 if (decide ((r3 : Int) < 0)) = true then
 some (d0, 6)
 else if (0 : Int) ≤ 0 ∧ (0 : Int) < n2.length then
 (Qk.f d0.2.1 (n2.getD (0 : Int).toNat 0, r3)).bind fun r4 =>
 if ((r4.2 : Int) == 0) = true then
 some ((d0.1, (r4.1, d0.2.2)), r4.2)
 else
 some (d0, r4.2)
 else
 none
 else
 none
 else if ((p.getD (0 : Int).toNat ByteArray.empty).toList == (⟨#[98, 111, 111, 107]⟩ : ByteArray).toList) = true then
 if (0 : Int) ≤ 1 ∧ (1 : Int) < p.length then
 (QR.f ([(⟨#[105, 110]⟩ : ByteArray), (⟨#[102, 105, 114, 101, 100]⟩ : ByteArray), (⟨#[114, 101, 116, 117, 114, 110, 101, 100]⟩ : ByteArray), (⟨#[100, 101, 115, 116, 114, 111, 121, 101, 100]⟩ : ByteArray)]) (p.getD (1 : Int).toNat ByteArray.empty)).bind fun r5 =>
 if (decide ((r5 : Int) < 0)) = true then
 some (d0, 6)
 else if (0 : Int) ≤ 2 ∧ (2 : Int) < p.length then
 if (0 : Int) ≤ 0 ∧ (0 : Int) < n2.length then
 (QT.f d0.2.2 (r5, (p.getD (2 : Int).toNat ByteArray.empty, n2.getD (0 : Int).toNat 0))).bind fun r6 =>
 if ((r6.2 : Int) == 0) = true then
 some ((d0.1, (d0.2.1, r6.1)), r6.2)
 else
 some (d0, r6.2)
 else
 none
 else
 none
 else
 none
 else if (0 : Int) ≤ 0 ∧ (0 : Int) < n2.length then
 (QF.f d0.2.2 (n2.getD (0 : Int).toNat 0)).bind fun r7 =>
 if ((r7.2 : Int) == 0) = true then
 some ((d0.1, (d0.2.1, r7.1)), r7.2)
 else
 some (d0, r7.2)
 else
 none
 else
 none
def Qad.fn (n : Nat) (d0 : YD × YE × List YA) (p : List ByteArray) (n2 : List Int) : Option (YG × Int) := Qad.top d0 p n2
def Qad.f (d0 : YD × YE × List YA) (p : List ByteArray) (n2 : List Int) : Option (YG × Int) := Qad.fn NN d0 p n2
end
end Go.Pl

namespace Go.Pl
open Go.Ev
set_option linter.unusedVariables false
noncomputable section
def QC.top (d0 : YD × YE × List YA) (p : ByteArray) : Option YAL :=
 (Qq.f p).bind fun r1 =>
 if (!r1.2.2) = true then
 (Qe.f 6).bind fun r2 =>
 if (⟨#[101, 114, 114, 111, 114, 32]⟩ : ByteArray).size + r2.size ≤ 9223372036854775807 then
 some (d0, (⟨#[101, 114, 114, 111, 114, 32]⟩ : ByteArray) ++ r2)
 else
 none
 else if (0 : Int) ≤ 0 ∧ (0 : Int) < r1.1.length then
 if ((r1.1.getD (0 : Int).toNat ByteArray.empty).toList == (⟨#[112, 101, 111, 112, 108, 101]⟩ : ByteArray).toList) = true then
 if ((r1.1.getD (0 : Int).toNat ByteArray.empty).toList == (⟨#[112, 101, 111, 112, 108, 101]⟩ : ByteArray).toList) = true then
 (Qad.f d0 r1.1 r1.2.1).bind fun r3 =>
 if ((r3.2 : Int) != 0) = true then
 (Qe.f r3.2).bind fun r4 =>
 if (⟨#[101, 114, 114, 111, 114, 32]⟩ : ByteArray).size + r4.size ≤ 9223372036854775807 then
 some (d0, (⟨#[101, 114, 114, 111, 114, 32]⟩ : ByteArray) ++ r4)
 else
 none
 else
 some (r3.1, (⟨#[111, 107]⟩ : ByteArray))
 else
 (Q9.f d0 r1.1 r1.2.1).bind fun r5 =>
 if ((r5.2 : Int) != 0) = true then
 (Qe.f r5.2).bind fun r6 =>
 if (⟨#[101, 114, 114, 111, 114, 32]⟩ : ByteArray).size + r6.size ≤ 9223372036854775807 then
 some (d0, (⟨#[101, 114, 114, 111, 114, 32]⟩ : ByteArray) ++ r6)
 else
 none
 else
 some (d0, r5.1)
 else if ((r1.1.getD (0 : Int).toNat ByteArray.empty).toList == (⟨#[115, 105, 103, 110, 97, 108]⟩ : ByteArray).toList) = true then
 if ((r1.1.getD (0 : Int).toNat ByteArray.empty).toList == (⟨#[115, 105, 103, 110, 97, 108]⟩ : ByteArray).toList) = true then
 (Qad.f d0 r1.1 r1.2.1).bind fun r7 =>
 if ((r7.2 : Int) != 0) = true then
 (Qe.f r7.2).bind fun r8 =>
 if (⟨#[101, 114, 114, 111, 114, 32]⟩ : ByteArray).size + r8.size ≤ 9223372036854775807 then
 some (d0, (⟨#[101, 114, 114, 111, 114, 32]⟩ : ByteArray) ++ r8)
 else
 none
 else
 some (r7.1, (⟨#[111, 107]⟩ : ByteArray))
 else
 (Q9.f d0 r1.1 r1.2.1).bind fun r9 =>
 if ((r9.2 : Int) != 0) = true then
 (Qe.f r9.2).bind fun r10 =>
 if (⟨#[101, 114, 114, 111, 114, 32]⟩ : ByteArray).size + r10.size ≤ 9223372036854775807 then
 some (d0, (⟨#[101, 114, 114, 111, 114, 32]⟩ : ByteArray) ++ r10)
 else
 none
 else
 some (d0, r9.1)
 else if ((r1.1.getD (0 : Int).toNat ByteArray.empty).toList == (⟨#[98, 111, 111, 107]⟩ : ByteArray).toList) = true then
 if ((r1.1.getD (0 : Int).toNat ByteArray.empty).toList == (⟨#[98, 111, 111, 107]⟩ : ByteArray).toList) = true then
 (Qad.f d0 r1.1 r1.2.1).bind fun r11 =>
 if ((r11.2 : Int) != 0) = true then
 (Qe.f r11.2).bind fun r12 =>
 if (⟨#[101, 114, 114, 111, 114, 32]⟩ : ByteArray).size + r12.size ≤ 9223372036854775807 then
 some (d0, (⟨#[101, 114, 114, 111, 114, 32]⟩ : ByteArray) ++ r12)
 else
 none
 else
 some (r11.1, (⟨#[111, 107]⟩ : ByteArray))
 else
 (Q9.f d0 r1.1 r1.2.1).bind fun r13 =>
 if ((r13.2 : Int) != 0) = true then
 (Qe.f r13.2).bind fun r14 =>
 if (⟨#[101, 114, 114, 111, 114, 32]⟩ : ByteArray).size + r14.size ≤ 9223372036854775807 then
 some (d0, (⟨#[101, 114, 114, 111, 114, 32]⟩ : ByteArray) ++ r14)
 else
 none
 else
 some (d0, r13.1)
 else if ((r1.1.getD (0 : Int).toNat ByteArray.empty).toList == (⟨#[115, 101, 116, 116, 108, 101]⟩ : ByteArray).toList) = true then
 (Qad.f d0 r1.1 r1.2.1).bind fun r15 =>
 if ((r15.2 : Int) != 0) = true then
 (Qe.f r15.2).bind fun r16 =>
 if (⟨#[101, 114, 114, 111, 114, 32]⟩ : ByteArray).size + r16.size ≤ 9223372036854775807 then
 some (d0, (⟨#[101, 114, 114, 111, 114, 32]⟩ : ByteArray) ++ r16)
 else
 none
 else
 some (r15.1, (⟨#[111, 107]⟩ : ByteArray))
 else
 (Q9.f d0 r1.1 r1.2.1).bind fun r17 =>
 if ((r17.2 : Int) != 0) = true then
 (Qe.f r17.2).bind fun r18 =>
 if (⟨#[101, 114, 114, 111, 114, 32]⟩ : ByteArray).size + r18.size ≤ 9223372036854775807 then
 some (d0, (⟨#[101, 114, 114, 111, 114, 32]⟩ : ByteArray) ++ r18)
 else
 none
 else
 some (d0, r17.1)
 else
 none
def QC.fn (n : Nat) (d0 : YD × YE × List YA) (p : ByteArray) : Option YAL := QC.top d0 p
def QC.f (d0 : YD × YE × List YA) (p : ByteArray) : Option YAL := QC.fn NN d0 p
end
end Go.Pl

namespace Go.Pl
open Go.Ev
set_option linter.unusedVariables false
noncomputable section
def QI.g4 (L4 : YX) (p : List ByteArray) (i6 : Int) (d4 : YD × YE × List YA) (q : List ByteArray) (w3 : List YA) (w4 : List YC) (w5 : List YA) : Option YW :=
 if (decide ((i6 : Int) < (p.length : Int))) = true then
 if (0 : Int) ≤ i6 ∧ (i6 : Int) < p.length then
 (QC.f d4 (p.getD (i6 : Int).toNat ByteArray.empty)).bind fun r2 =>
 if q.length + ([r2.2]).length < room 16 then
 L4 p (IntKind.i64.wrap (i6 + 1)) r2.1 (q ++ ([r2.2])) w3 w4 w5
 else
 none
 else
 none
 else
 some (d4, q)
def QI.l4 (n : Nat) : Nat → List ByteArray → Int → YG → List ByteArray → YD → YE → YD → Option YW
 | 0 => fun _ _ _ _ _ _ _ => none
 | k + 1 => QI.g4 (QI.l4 n k)
def QI.top (I4 : YX) (p : List ByteArray) : Option YW :=
 (Qa8.f).bind fun r1 =>
 I4 p 0 (r1.1, (r1.2.1, r1.2.2)) [] [] [] []
def QI.fn (n : Nat) (p : List ByteArray) : Option YW := QI.top (QI.l4 n n) p
def QI.f (p : List ByteArray) : Option YW := QI.fn NN p
end
end Go.Pl

namespace Go.Pl
open Go.Ev
set_option linter.unusedVariables false
noncomputable section
def Qaz.top (p : ByteArray) : Option YH :=
 (QL.f p 10).bind fun r1 =>
 if (0 : Int) ≤ (IntKind.i64.wrap ((r1.length : Int) - 1)) ∧ ((IntKind.i64.wrap ((r1.length : Int) - 1)) : Int) < r1.length then
 if ((r1.getD ((IntKind.i64.wrap ((r1.length : Int) - 1)) : Int).toNat ByteArray.empty).toList == (⟨#[]⟩ : ByteArray).toList) = true then
 if (0 : Int) ≤ (IntKind.i64.wrap ((r1.length : Int) - 1)) ∧ ((IntKind.i64.wrap ((r1.length : Int) - 1)) : Int) ≤ r1.length then
 some (r1.take ((IntKind.i64.wrap ((r1.length : Int) - 1)) : Int).toNat)
 else
 none
 else
 some r1
 else
 none
def Qaz.fn (n : Nat) (p : ByteArray) : Option YH := Qaz.top p
def Qaz.f (p : ByteArray) : Option YH := Qaz.fn NN p
end
end Go.Pl

namespace Go.Pl
open Go.Ev
set_option linter.unusedVariables false
noncomputable section
def QaX.top (p : ByteArray) : Option Bool :=
 if (decide (((p.size : Int) : Int) ≤ 1500)) = true then
 (Qaz.f p).bind fun r1 =>
 some (decide (((r1.length : Int) : Int) ≤ 40))
 else
 some false
def QaX.fn (n : Nat) (p : ByteArray) : Option Bool := QaX.top p
def QaX.f (p : ByteArray) : Option Bool := QaX.fn NN p
end
end Go.Pl

namespace Go.Pl
open Go.Ev
set_option linter.unusedVariables false
noncomputable section
def Qas.top (p : ByteArray) : Option YAE :=
 (QaX.f p).bind fun r1 =>
 if (!r1) = true then
 some ([], 3)
 else
 (Qaz.f p).bind fun r2 =>
 (QI.f r2).bind fun r3 =>
 some (r3.2, 0)
def Qas.fn (n : Nat) (p : ByteArray) : Option YAE := Qas.top p
def Qas.f (p : ByteArray) : Option YAE := Qas.fn NN p
end
end Go.Pl

namespace Go.Pl
open Go.Ev
set_option linter.unusedVariables false
noncomputable section
def Qao.top (p : List Int) : Option Bool :=
 (Qbe.f p).bind fun r1 =>
 if r1 = true then
 some true
 else
 (Qag.f p).bind fun r2 =>
 (Qar.f r2).bind fun r3 =>
 (Qas.f r2).bind fun r4 =>
 (Q7.f p).bind fun r5 =>
 if ((r3.2 : Int) != r4.2) = false then
 (Qw.f r3.1 r4.1).bind fun r6 =>
 if (!r6) = false then
 (Qam.f r5).bind fun r7 =>
 (Qan.f r5).bind fun r8 =>
 if (!(r7 == r8)) = true then
 some false
 else if ((r3.2 : Int) != 0) = false then
 if (decide ((0 : Int) < (r2.size : Int))) = true then
 if (0 : Int) ≤ (IntKind.i64.wrap ((r2.size : Int) - 1)) ∧ ((IntKind.i64.wrap ((r2.size : Int) - 1)) : Int) < r2.size then
 if (((bt r2 (IntKind.i64.wrap ((r2.size : Int) - 1))) : Int) != 10) = true then
 some true
 else if r2.size + (⟨#[110, 111, 105, 115, 101, 10]⟩ : ByteArray).size ≤ 9223372036854775807 then
 (Qar.f (r2 ++ (⟨#[110, 111, 105, 115, 101, 10]⟩ : ByteArray))).bind fun r9 =>
 if r2.size + (⟨#[110, 111, 105, 115, 101, 10]⟩ : ByteArray).size ≤ 9223372036854775807 then
 (Qas.f (r2 ++ (⟨#[110, 111, 105, 115, 101, 10]⟩ : ByteArray))).bind fun r10 =>
 if ((r9.2 : Int) != r10.2) = false then
 (Qw.f r9.1 r10.1).bind fun r11 =>
 if (!r11) = true then
 some false
 else if ((r9.2 : Int) != 0) = true then
 some ((r9.2 : Int) == 3)
 else if (((r9.1.length : Int) : Int) == (IntKind.i64.wrap ((r3.1.length : Int) + 1))) = true then
 if (0 : Int) ≤ (r3.1.length : Int) ∧ ((r3.1.length : Int) : Int) < r9.1.length then
 if ((r9.1.getD ((r3.1.length : Int) : Int).toNat ByteArray.empty).toList == (⟨#[101, 114, 114, 111, 114, 32, 54]⟩ : ByteArray).toList) = true then
 if (0 : Int) ≤ (r3.1.length : Int) ∧ ((r3.1.length : Int) : Int) ≤ r9.1.length then
 (Qw.f (r9.1.take ((r3.1.length : Int) : Int).toNat) r3.1).bind fun r12 =>
 some r12
 else
 none
 else
 some false
 else
 none
 else
 some false
 else
 some false
 else
 none
 else
 none
 else
 none
 else if r2.size + (⟨#[110, 111, 105, 115, 101, 10]⟩ : ByteArray).size ≤ 9223372036854775807 then
 (Qar.f (r2 ++ (⟨#[110, 111, 105, 115, 101, 10]⟩ : ByteArray))).bind fun r13 =>
 if r2.size + (⟨#[110, 111, 105, 115, 101, 10]⟩ : ByteArray).size ≤ 9223372036854775807 then
 (Qas.f (r2 ++ (⟨#[110, 111, 105, 115, 101, 10]⟩ : ByteArray))).bind fun r14 =>
 if ((r13.2 : Int) != r14.2) = false then
 (Qw.f r13.1 r14.1).bind fun r15 =>
 if (!r15) = true then
 some false
 else if ((r13.2 : Int) != 0) = true then
 some ((r13.2 : Int) == 3)
 else if (((r13.1.length : Int) : Int) == (IntKind.i64.wrap ((r3.1.length : Int) + 1))) = true then
 if (0 : Int) ≤ (r3.1.length : Int) ∧ ((r3.1.length : Int) : Int) < r13.1.length then
 if ((r13.1.getD ((r3.1.length : Int) : Int).toNat ByteArray.empty).toList == (⟨#[101, 114, 114, 111, 114, 32, 54]⟩ : ByteArray).toList) = true then
 if (0 : Int) ≤ (r3.1.length : Int) ∧ ((r3.1.length : Int) : Int) ≤ r13.1.length then
 (Qw.f (r13.1.take ((r3.1.length : Int) : Int).toNat) r3.1).bind fun r16 =>
 some r16
 else
 none
 else
 some false
 else
 none
 else
 some false
 else
 some false
 else
 none
 else
 none
 else
 some true
 else
 some false
 else
 some false
def Qao.fn (n : Nat) (p : List Int) : Option Bool := Qao.top p
def Qao.f (p : List Int) : Option Bool := Qao.fn NN p
end
end Go.Pl

namespace Go.Ev.Tryz
open Go.Proofs Go.Pl
set_option linter.unusedVariables false
noncomputable section
def QL.st4 (s0 : ByteArray) (by1 : Int) (p : Int) (i7 : Int) (q : List ByteArray) : St := ⟨[.dat .str s0, .dat (.int .u8) by1, .gone, .gone, .gone, .ref 0, .dat (.int .i64) p, .dat (.int .i64) i7, .gone, .gone, .gone, .gone, .gone, .gone, .gone, .gone, .gone, .gone, .gone, .gone, .gone, .gone, .gone, .gone, .gone, .gone, .gone, .gone, .gone, .gone, .gone, .gone, .gone, .gone, .gone, .gone], [.row 9 .str q none]⟩
def QL.con : Con := { ps := [(.val, .str), (.val, (.int .u8))], rs := [(.own, (.sl 9 .str))], F := fun x => QL.f x.1 x.2 }
def QL.cs : List (FuncId × Con) := []
def QL.E : Env := envOf tab QL.cs 0 false
def QL.keep (i : Nat) : List Nat := if i = 4 then [0, 1, 5, 6, 7] else []
def QL.at4 (n : Nat) (x : ByteArray × Int) : Code × (Ex → St → Option (YH)) := ctx QL.E QL.keep n [.snd, .snd, .snd, .fst, .snd, .blk] (codeOf Tryz.f62) (kEnd QL.E Tryz.f62 QL.con x)
def QL.LN4 (n : Nat) (x : ByteArray × Int) : Nat → St → Option (YH) := loopN (exec QL.E QL.keep n (bodyOf (QL.at4 n x).1)) (St.norm 0 (QL.keep 4)) (QL.at4 n x).2
set_option maxRecDepth 100000 in
theorem QL.lem4 (n : Nat) (x : ByteArray × Int) : ∀ (k : Nat) (s0 : ByteArray) (by1 : Int) (p : Int) (i7 : Int) (q : List ByteArray), QL.LN4 n x k (QL.st4 s0 by1 p i7 q) = QL.l4 n k s0 by1 p i7 q := by
 intro k
 induction k with
 | zero => intro s0 by1 p i7 q; rfl
 | succ k ih =>
  intro s0 by1 p i7 q
  have h : QL.LN4 n x (k + 1) (QL.st4 s0 by1 p i7 q) = QL.g4 (fun s0 by1 p i7 q => QL.LN4 n x k (QL.st4 s0 by1 p i7 q)) s0 by1 p i7 q := by kernel_rfl
  rw [h]
  simp only [ih]
  rfl
set_option maxRecDepth 100000 in
theorem QL.body (n : Nat) (x : ByteArray × Int) : bodyF QL.E QL.keep n Tryz.f62 QL.con x = QL.fn n x.1 x.2 := by
 have h : bodyF QL.E QL.keep n Tryz.f62 QL.con x = QL.top (fun s0 by1 p i7 q => QL.LN4 n x n (QL.st4 s0 by1 p i7 q)) x.1 x.2 := by kernel_rfl
 rw [h]
 simp only [QL.lem4]
 rfl
set_option maxRecDepth 100000 in
theorem QL.good : Good Tryz.prog 62 QL.con :=
 good_of tabok (cs := QL.cs) trivial 0 false (fn := Tryz.f62) Tryz.func62 rfl (by decide) (by simp [QL.con]) QL.keep NN (fun _ => rfl) (fun x => QL.body NN x)
end
end Go.Ev.Tryz

namespace Go.Ev.Tryz
open Go.Proofs Go.Pl
set_option linter.unusedVariables false
noncomputable section
def Qaz.con : Con := { ps := [(.val, .str)], rs := [(.val, (.sl 9 .str))], F := fun x => Qaz.f x }
def Qaz.cs : List (FuncId × Con) := [(62, QL.con)]
def Qaz.E : Env := envOf tab Qaz.cs 0 false
def Qaz.keep (i : Nat) : List Nat := []
set_option maxRecDepth 100000 in
theorem Qaz.body (n : Nat) (x : ByteArray) : bodyF Qaz.E Qaz.keep n Tryz.f32 Qaz.con x = Qaz.fn n x := by
 have h : bodyF Qaz.E Qaz.keep n Tryz.f32 Qaz.con x = Qaz.top x := by kernel_rfl
 exact h
set_option maxRecDepth 100000 in
theorem Qaz.good : Good Tryz.prog 32 Qaz.con :=
 good_of tabok (cs := Qaz.cs) ⟨QL.good, trivial⟩ 0 false (fn := Tryz.f32) Tryz.func32 rfl (by decide) (by simp [Qaz.con]) Qaz.keep NN (fun _ => rfl) (fun x => Qaz.body NN x)
end
end Go.Ev.Tryz

namespace Go.Ev.Tryz
open Go.Proofs Go.Pl
set_option linter.unusedVariables false
noncomputable section
def QaX.con : Con := { ps := [(.val, .str)], rs := [(.val, .bool)], F := fun x => QaX.f x }
def QaX.cs : List (FuncId × Con) := [(32, Qaz.con)]
def QaX.E : Env := envOf tab QaX.cs 0 false
def QaX.keep (i : Nat) : List Nat := []
set_option maxRecDepth 100000 in
theorem QaX.body (n : Nat) (x : ByteArray) : bodyF QaX.E QaX.keep n Tryz.f30 QaX.con x = QaX.fn n x := by
 have h : bodyF QaX.E QaX.keep n Tryz.f30 QaX.con x = QaX.top x := by kernel_rfl
 exact h
set_option maxRecDepth 100000 in
theorem QaX.good : Good Tryz.prog 30 QaX.con :=
 good_of tabok (cs := QaX.cs) ⟨Qaz.good, trivial⟩ 0 false (fn := Tryz.f30) Tryz.func30 rfl (by decide) (by simp [QaX.con]) QaX.keep NN (fun _ => rfl) (fun x => QaX.body NN x)
end
end Go.Ev.Tryz

namespace Go.Ev.Tryz
open Go.Proofs Go.Pl
set_option linter.unusedVariables false
noncomputable section
def Qa8.con : Con := { ps := [], rs := [(.own, (.pair (.sl 70 (.pair (.int .i64) (.pair .str (.int .i64)))) (.pair (.sl 72 (.pair (.int .i64) (.int .i64))) (.sl 74 (.pair (.int .i64) (.pair .str (.int .i64)))))))], F := fun x => Qa8.f  }
def Qa8.cs : List (FuncId × Con) := []
def Qa8.E : Env := envOf tab Qa8.cs 0 false
def Qa8.keep (i : Nat) : List Nat := []
set_option maxRecDepth 100000 in
theorem Qa8.body (n : Nat) (x : Unit) : bodyF Qa8.E Qa8.keep n Tryz.f60 Qa8.con x = Qa8.fn n  := by
 have h : bodyF Qa8.E Qa8.keep n Tryz.f60 Qa8.con x = Qa8.top  := by kernel_rfl
 exact h
set_option maxRecDepth 100000 in
theorem Qa8.good : Good Tryz.prog 60 Qa8.con :=
 good_of tabok (cs := Qa8.cs) trivial 0 false (fn := Tryz.f60) Tryz.func60 rfl (by decide) (by simp [Qa8.con]) Qa8.keep NN (fun _ => rfl) (fun x => Qa8.body NN x)
end
end Go.Ev.Tryz

namespace Go.Ev.Tryz
open Go.Proofs Go.Pl
set_option linter.unusedVariables false
noncomputable section
def QaS.con : Con := { ps := [(.val, .str)], rs := [(.val, .str)], F := fun x => QaS.f x }
def QaS.cs : List (FuncId × Con) := []
def QaS.E : Env := envOf tab QaS.cs 0 false
def QaS.keep (i : Nat) : List Nat := []
set_option maxRecDepth 100000 in
theorem QaS.body (n : Nat) (x : ByteArray) : bodyF QaS.E QaS.keep n Tryz.f74 QaS.con x = QaS.fn n x := by
 have h : bodyF QaS.E QaS.keep n Tryz.f74 QaS.con x = QaS.top x := by kernel_rfl
 exact h
set_option maxRecDepth 100000 in
theorem QaS.good : Good Tryz.prog 74 QaS.con :=
 good_of tabok (cs := QaS.cs) trivial 0 false (fn := Tryz.f74) Tryz.func74 rfl (by decide) (by simp [QaS.con]) QaS.keep NN (fun _ => rfl) (fun x => QaS.body NN x)
end
end Go.Ev.Tryz

namespace Go.Ev.Tryz
open Go.Proofs Go.Pl
set_option linter.unusedVariables false
noncomputable section
def Qe.topraw (S : Int → Option ByteArray) (n0 : Int) : Option ByteArray :=
 if (decide ((n0 : Int) < 10)) = true then
  some (bytesOf ([IntKind.u8.wrap (IntKind.i64.wrap (48 + n0))]))
 else
  agree (
   (S (IntKind.i64.wrap (Int.tdiv n0 10))).bind fun r1 =>
   if r1.size + (bytesOf ([IntKind.u8.wrap (IntKind.i64.wrap (48 + (Int.tmod n0 10)))])).size ≤ 9223372036854775807 then
    some (r1 ++ (bytesOf ([IntKind.u8.wrap (IntKind.i64.wrap (48 + (Int.tmod n0 10)))])))
   else
    none
  ) (
   (S (IntKind.i64.wrap (Int.tdiv n0 10))).bind fun r1 =>
   if r1.size + (bytesOf ([IntKind.u8.wrap (IntKind.i64.wrap (48 + (Int.tmod n0 10)))])).size ≤ 9223372036854775807 then
    some (r1 ++ (bytesOf ([IntKind.u8.wrap (IntKind.i64.wrap (48 + (Int.tmod n0 10)))])))
   else
    none
  )
theorem Qe.topraw_eq (S : Int → Option ByteArray) (n0 : Int) : (Qe.topraw S) n0 = (Qe.top S) n0 := by
 unfold Qe.topraw Qe.top
 simp only [agree_self]
def Qe.con (S : Int → Option ByteArray) : Con := { ps := [(.val, (.int .i64))], rs := [(.val, .str)], F := fun x => S x }
def Qe.cs (S : Int → Option ByteArray) : List (FuncId × Con) := [(68, (Qe.con S))]
def Qe.E (S : Int → Option ByteArray) : Env := envOf tab (Qe.cs S) 0 false
def Qe.keep (i : Nat) : List Nat := []
set_option maxRecDepth 100000 in
theorem Qe.body (S : Int → Option ByteArray) (n : Nat) (x : Int) : bodyF (Qe.E S) Qe.keep n Tryz.f68 (Qe.con S) x = (Qe.fn S) n x := by
 have h : bodyF (Qe.E S) Qe.keep n Tryz.f68 (Qe.con S) x = (Qe.topraw S) x := by kernel_rfl
 rw [(Qe.topraw_eq S)] at h
 exact h
set_option maxRecDepth 100000 in
theorem Qe.goodk : ∀ k : Nat, Good Tryz.prog 68 (Qe.con (Qe.rc k)) := by
 intro k
 induction k with
 | zero => exact good_none (fn := Tryz.f68) Tryz.func68 rfl (by decide) (by simp [Qe.con]) (fun _ => rfl)
 | succ k ih => exact good_of tabok (cs := Qe.cs (Qe.rc k)) ⟨ih, trivial⟩ 0 false (fn := Tryz.f68) Tryz.func68 rfl (by decide) (by simp [Qe.con]) Qe.keep NN (fun _ => rfl) (fun x => Qe.body (Qe.rc k) NN x)
theorem Qe.good : Good Tryz.prog 68 (Qe.con (fun n0 => Qe.f n0)) := Qe.goodk NN
end
end Go.Ev.Tryz

namespace Go.Ev.Tryz
open Go.Proofs Go.Pl
set_option linter.unusedVariables false
noncomputable section
def QG.st5 (s0 : ByteArray) (n4 : Int) (i5 : Int) : St := ⟨[.dat .str s0, .gone, .gone, .gone, .dat (.int .i64) n4, .dat (.int .i64) i5, .gone, .gone, .gone, .gone, .gone, .gone, .gone, .gone, .gone, .gone, .gone, .gone, .gone, .gone, .gone, .gone, .gone, .gone, .gone, .gone, .gone, .gone, .gone, .gone, .gone, .gone, .gone, .gone, .gone, .gone, .gone, .gone, .gone, .gone, .gone, .gone, .gone], []⟩
def QG.con : Con := { ps := [(.val, .str)], rs := [(.val, (.int .i64)), (.val, .bool)], F := fun x => QG.f x }
def QG.cs : List (FuncId × Con) := [(68, (Qe.con (fun a0 => Qe.f a0)))]
def QG.E : Env := envOf tab QG.cs 0 false
def QG.keep (i : Nat) : List Nat := if i = 5 then [0, 4, 5] else []
def QG.at5 (n : Nat) (x : ByteArray) : Code × (Ex → St → Option (YAI)) := ctx QG.E QG.keep n [.snd, .snd, .snd, .fst, .snd, .blk] (codeOf Tryz.f75) (kEnd QG.E Tryz.f75 QG.con x)
def QG.LN5 (n : Nat) (x : ByteArray) : Nat → St → Option (YAI) := loopN (exec QG.E QG.keep n (bodyOf (QG.at5 n x).1)) (St.norm 0 (QG.keep 5)) (QG.at5 n x).2
set_option maxRecDepth 100000 in
theorem QG.lem5 (n : Nat) (x : ByteArray) : ∀ (k : Nat) (s0 : ByteArray) (n4 : Int) (i5 : Int), QG.LN5 n x k (QG.st5 s0 n4 i5) = QG.l5 n k s0 n4 i5 := by
 intro k
 induction k with
 | zero => intro s0 n4 i5; rfl
 | succ k ih =>
  intro s0 n4 i5
  have h : QG.LN5 n x (k + 1) (QG.st5 s0 n4 i5) = QG.g5 (fun s0 n4 i5 => QG.LN5 n x k (QG.st5 s0 n4 i5)) s0 n4 i5 := by kernel_rfl
  rw [h]
  simp only [ih]
  rfl
set_option maxRecDepth 100000 in
theorem QG.body (n : Nat) (x : ByteArray) : bodyF QG.E QG.keep n Tryz.f75 QG.con x = QG.fn n x := by
 have h : bodyF QG.E QG.keep n Tryz.f75 QG.con x = QG.top (fun s0 n4 i5 => QG.LN5 n x n (QG.st5 s0 n4 i5)) x := by kernel_rfl
 rw [h]
 simp only [QG.lem5]
 rfl
set_option maxRecDepth 100000 in
theorem QG.good : Good Tryz.prog 75 QG.con :=
 good_of tabok (cs := QG.cs) ⟨Qe.good, trivial⟩ 0 false (fn := Tryz.f75) Tryz.func75 rfl (by decide) (by simp [QG.con]) QG.keep NN (fun _ => rfl) (fun x => QG.body NN x)
end
end Go.Ev.Tryz

namespace Go.Ev.Tryz
open Go.Proofs Go.Pl
set_option linter.unusedVariables false
noncomputable section
def QaA.con : Con := { ps := [(.val, .str)], rs := [(.val, (.int .i64)), (.val, .bool)], F := fun x => QaA.f x }
def QaA.cs : List (FuncId × Con) := [(75, QG.con)]
def QaA.E : Env := envOf tab QaA.cs 0 false
def QaA.keep (i : Nat) : List Nat := []
set_option maxRecDepth 100000 in
theorem QaA.body (n : Nat) (x : ByteArray) : bodyF QaA.E QaA.keep n Tryz.f76 QaA.con x = QaA.fn n x := by
 have h : bodyF QaA.E QaA.keep n Tryz.f76 QaA.con x = QaA.top x := by kernel_rfl
 exact h
set_option maxRecDepth 100000 in
theorem QaA.good : Good Tryz.prog 76 QaA.con :=
 good_of tabok (cs := QaA.cs) ⟨QG.good, trivial⟩ 0 false (fn := Tryz.f76) Tryz.func76 rfl (by decide) (by simp [QaA.con]) QaA.keep NN (fun _ => rfl) (fun x => QaA.body NN x)
end
end Go.Ev.Tryz

namespace Go.Ev.Tryz
open Go.Proofs Go.Pl
set_option linter.unusedVariables false
noncomputable section
def Qq.st7 (q : ByteArray) (i8 : Int) (p : List ByteArray) (n7 : List Int) : St := ⟨[.gone, .gone, .gone, .gone, .gone, .ref 0, .dat .str q, .ref 1, .dat (.int .i64) i8, .gone, .gone, .gone, .gone, .gone, .gone, .gone, .gone, .gone, .gone, .gone, .gone, .gone, .gone, .gone, .gone, .gone, .gone, .gone, .gone, .gone, .gone, .gone, .gone, .gone, .gone, .gone, .gone, .gone, .gone, .gone, .gone, .gone, .gone, .gone, .gone, .gone, .gone, .gone, .gone, .gone, .gone, .gone, .gone, .gone, .gone, .gone, .gone, .gone, .gone, .gone, .gone, .gone, .gone, .gone, .gone, .gone, .gone], [.row 9 .str p none, .row 2 (.int .i64) n7 none]⟩
def Qq.con : Con := { ps := [(.val, .str)], rs := [(.own, (.sl 9 .str)), (.own, (.sl 2 (.int .i64))), (.own, .bool)], F := fun x => Qq.f x }
def Qq.cs : List (FuncId × Con) := [(62, QL.con), (74, QaS.con), (75, QG.con), (76, QaA.con)]
def Qq.E : Env := envOf tab Qq.cs 0 false
def Qq.keep (i : Nat) : List Nat := if i = 7 then [5, 6, 7, 8] else []
def Qq.at7 (n : Nat) (x : ByteArray) : Code × (Ex → St → Option (YZ)) := ctx Qq.E Qq.keep n [.snd, .snd, .snd, .snd, .snd, .fst, .snd, .blk] (codeOf Tryz.f41) (kEnd Qq.E Tryz.f41 Qq.con x)
def Qq.LN7 (n : Nat) (x : ByteArray) : Nat → St → Option (YZ) := loopN (exec Qq.E Qq.keep n (bodyOf (Qq.at7 n x).1)) (St.norm 0 (Qq.keep 7)) (Qq.at7 n x).2
set_option maxRecDepth 100000 in
theorem Qq.lem7 (n : Nat) (x : ByteArray) : ∀ (k : Nat) (q : ByteArray) (i8 : Int) (p : List ByteArray) (n7 : List Int), Qq.LN7 n x k (Qq.st7 q i8 p n7) = Qq.l7 n k q i8 p n7 := by
 intro k
 induction k with
 | zero => intro q i8 p n7; rfl
 | succ k ih =>
  intro q i8 p n7
  have h : Qq.LN7 n x (k + 1) (Qq.st7 q i8 p n7) = Qq.g7 (fun q i8 p n7 => Qq.LN7 n x k (Qq.st7 q i8 p n7)) q i8 p n7 := by kernel_rfl
  rw [h]
  simp only [ih]
  rfl
set_option maxRecDepth 100000 in
theorem Qq.body (n : Nat) (x : ByteArray) : bodyF Qq.E Qq.keep n Tryz.f41 Qq.con x = Qq.fn n x := by
 have h : bodyF Qq.E Qq.keep n Tryz.f41 Qq.con x = Qq.top (fun q i8 p n7 => Qq.LN7 n x n (Qq.st7 q i8 p n7)) x := by kernel_rfl
 rw [h]
 simp only [Qq.lem7]
 rfl
set_option maxRecDepth 100000 in
theorem Qq.good : Good Tryz.prog 41 Qq.con :=
 good_of tabok (cs := Qq.cs) ⟨QL.good, QaS.good, QG.good, QaA.good, trivial⟩ 0 false (fn := Tryz.f41) Tryz.func41 rfl (by decide) (by simp [Qq.con]) Qq.keep NN (fun _ => rfl) (fun x => Qq.body NN x)
end
end Go.Ev.Tryz

namespace Go.Ev.Tryz
open Go.Proofs Go.Pl
set_option linter.unusedVariables false
noncomputable section
def QaI.con : Con := { ps := [], rs := [(.own, (.sl 9 .str))], F := fun x => QaI.f  }
def QaI.cs : List (FuncId × Con) := []
def QaI.E : Env := envOf tab QaI.cs 0 false
def QaI.keep (i : Nat) : List Nat := []
set_option maxRecDepth 100000 in
theorem QaI.body (n : Nat) (x : Unit) : bodyF QaI.E QaI.keep n Tryz.f71 QaI.con x = QaI.fn n  := by
 have h : bodyF QaI.E QaI.keep n Tryz.f71 QaI.con x = QaI.top  := by kernel_rfl
 exact h
set_option maxRecDepth 100000 in
theorem QaI.good : Good Tryz.prog 71 QaI.con :=
 good_of tabok (cs := QaI.cs) trivial 0 false (fn := Tryz.f71) Tryz.func71 rfl (by decide) (by simp [QaI.con]) QaI.keep NN (fun _ => rfl) (fun x => QaI.body NN x)
end
end Go.Ev.Tryz

namespace Go.Ev.Tryz
open Go.Proofs Go.Pl
set_option linter.unusedVariables false
noncomputable section
def Qab.con : Con := { ps := [(.val, (.int .i64)), (.val, (.int .i64)), (.val, (.int .i64))], rs := [(.val, .bool)], F := fun x => Qab.f x.1 x.2.1 x.2.2 }
def Qab.cs : List (FuncId × Con) := []
def Qab.E : Env := envOf tab Qab.cs 0 false
def Qab.keep (i : Nat) : List Nat := []
set_option maxRecDepth 100000 in
theorem Qab.body (n : Nat) (x : Int × Int × Int) : bodyF Qab.E Qab.keep n Tryz.f92 Qab.con x = Qab.fn n x.1 x.2.1 x.2.2 := by
 have h : bodyF Qab.E Qab.keep n Tryz.f92 Qab.con x = Qab.top x.1 x.2.1 x.2.2 := by kernel_rfl
 exact h
set_option maxRecDepth 100000 in
theorem Qab.good : Good Tryz.prog 92 Qab.con :=
 good_of tabok (cs := Qab.cs) trivial 0 false (fn := Tryz.f92) Tryz.func92 rfl (by decide) (by simp [Qab.con]) Qab.keep NN (fun _ => rfl) (fun x => Qab.body NN x)
end
end Go.Ev.Tryz

namespace Go.Ev.Tryz
open Go.Proofs Go.Pl
set_option linter.unusedVariables false
noncomputable section
def Qaj.con : Con := { ps := [(.val, (.int .i64))], rs := [(.val, .bool)], F := fun x => Qaj.f x }
def Qaj.cs : List (FuncId × Con) := [(92, Qab.con)]
def Qaj.E : Env := envOf tab Qaj.cs 0 false
def Qaj.keep (i : Nat) : List Nat := []
set_option maxRecDepth 100000 in
theorem Qaj.body (n : Nat) (x : Int) : bodyF Qaj.E Qaj.keep n Tryz.f90 Qaj.con x = Qaj.fn n x := by
 have h : bodyF Qaj.E Qaj.keep n Tryz.f90 Qaj.con x = Qaj.top x := by kernel_rfl
 exact h
set_option maxRecDepth 100000 in
theorem Qaj.good : Good Tryz.prog 90 Qaj.con :=
 good_of tabok (cs := Qaj.cs) ⟨Qab.good, trivial⟩ 0 false (fn := Tryz.f90) Tryz.func90 rfl (by decide) (by simp [Qaj.con]) Qaj.keep NN (fun _ => rfl) (fun x => Qaj.body NN x)
end
end Go.Ev.Tryz

namespace Go.Ev.Tryz
open Go.Proofs Go.Pl
set_option linter.unusedVariables false
noncomputable section
def QP.st2 (s0 : ByteArray) (i3 : Int) : St := ⟨[.dat .str s0, .gone, .gone, .dat (.int .i64) i3, .gone, .gone, .gone, .gone, .gone, .gone, .gone, .gone, .gone, .gone, .gone, .gone, .gone, .gone, .gone, .gone, .gone, .gone, .gone], []⟩
def QP.con : Con := { ps := [(.val, .str)], rs := [(.val, .bool)], F := fun x => QP.f x }
def QP.cs : List (FuncId × Con) := [(92, Qab.con)]
def QP.E : Env := envOf tab QP.cs 0 false
def QP.keep (i : Nat) : List Nat := if i = 2 then [0, 3] else []
def QP.at2 (n : Nat) (x : ByteArray) : Code × (Ex → St → Option (Bool)) := ctx QP.E QP.keep n [.snd, .fst, .snd, .blk] (codeOf Tryz.f91) (kEnd QP.E Tryz.f91 QP.con x)
def QP.LN2 (n : Nat) (x : ByteArray) : Nat → St → Option (Bool) := loopN (exec QP.E QP.keep n (bodyOf (QP.at2 n x).1)) (St.norm 0 (QP.keep 2)) (QP.at2 n x).2
set_option maxRecDepth 100000 in
theorem QP.lem2 (n : Nat) (x : ByteArray) : ∀ (k : Nat) (s0 : ByteArray) (i3 : Int), QP.LN2 n x k (QP.st2 s0 i3) = QP.l2 n k s0 i3 := by
 intro k
 induction k with
 | zero => intro s0 i3; rfl
 | succ k ih =>
  intro s0 i3
  have h : QP.LN2 n x (k + 1) (QP.st2 s0 i3) = QP.g2 (fun s0 i3 => QP.LN2 n x k (QP.st2 s0 i3)) s0 i3 := by kernel_rfl
  rw [h]
  simp only [ih]
  rfl
set_option maxRecDepth 100000 in
theorem QP.body (n : Nat) (x : ByteArray) : bodyF QP.E QP.keep n Tryz.f91 QP.con x = QP.fn n x := by
 have h : bodyF QP.E QP.keep n Tryz.f91 QP.con x = QP.top (fun s0 i3 => QP.LN2 n x n (QP.st2 s0 i3)) x := by kernel_rfl
 rw [h]
 simp only [QP.lem2]
 rfl
set_option maxRecDepth 100000 in
theorem QP.good : Good Tryz.prog 91 QP.con :=
 good_of tabok (cs := QP.cs) ⟨Qab.good, trivial⟩ 0 false (fn := Tryz.f91) Tryz.func91 rfl (by decide) (by simp [QP.con]) QP.keep NN (fun _ => rfl) (fun x => QP.body NN x)
end
end Go.Ev.Tryz

namespace Go.Ev.Tryz
open Go.Proofs Go.Pl
set_option linter.unusedVariables false
noncomputable section
def QA.st3 (q : List YA) (r : ByteArray) (n2 : Int) (p : Int) (i8 : Int) : St := ⟨[.dat (.sl 70 (.pair (.int .i64) (.pair .str (.int .i64)))) q, .dat .str r, .dat (.int .i64) n2, .gone, .gone, .gone, .gone, .dat (.int .i64) p, .dat (.int .i64) i8, .gone, .gone, .gone, .gone, .gone, .gone, .gone, .gone, .gone, .gone, .gone, .gone, .gone, .gone, .gone, .gone, .gone, .gone, .gone, .gone], []⟩
def QA.con : Con := { ps := [(.val, (.sl 70 (.pair (.int .i64) (.pair .str (.int .i64))))), (.val, .str), (.val, (.int .i64))], rs := [(.val, (.int .i64))], F := fun x => QA.f x.1 x.2.1 x.2.2 }
def QA.cs : List (FuncId × Con) := []
def QA.E : Env := envOf tab QA.cs 0 false
def QA.keep (i : Nat) : List Nat := if i = 3 then [0, 1, 2, 7, 8] else []
def QA.at3 (n : Nat) (x : YD × ByteArray × Int) : Code × (Ex → St → Option (Int)) := ctx QA.E QA.keep n [.snd, .snd, .fst, .snd, .blk] (codeOf Tryz.f93) (kEnd QA.E Tryz.f93 QA.con x)
def QA.LN3 (n : Nat) (x : YD × ByteArray × Int) : Nat → St → Option (Int) := loopN (exec QA.E QA.keep n (bodyOf (QA.at3 n x).1)) (St.norm 0 (QA.keep 3)) (QA.at3 n x).2
set_option maxRecDepth 100000 in
theorem QA.lem3 (n : Nat) (x : YD × ByteArray × Int) : ∀ (k : Nat) (q : List YA) (r : ByteArray) (n2 : Int) (p : Int) (i8 : Int), QA.LN3 n x k (QA.st3 q r n2 p i8) = QA.l3 n k q r n2 p i8 := by
 intro k
 induction k with
 | zero => intro q r n2 p i8; rfl
 | succ k ih =>
  intro q r n2 p i8
  have h : QA.LN3 n x (k + 1) (QA.st3 q r n2 p i8) = QA.g3 (fun q r n2 p i8 => QA.LN3 n x k (QA.st3 q r n2 p i8)) q r n2 p i8 := by kernel_rfl
  rw [h]
  simp only [ih]
  rfl
set_option maxRecDepth 100000 in
theorem QA.body (n : Nat) (x : YD × ByteArray × Int) : bodyF QA.E QA.keep n Tryz.f93 QA.con x = QA.fn n x.1 x.2.1 x.2.2 := by
 have h : bodyF QA.E QA.keep n Tryz.f93 QA.con x = QA.top (fun q r n2 p i8 => QA.LN3 n x n (QA.st3 q r n2 p i8)) x.1 x.2.1 x.2.2 := by kernel_rfl
 rw [h]
 simp only [QA.lem3]
 rfl
set_option maxRecDepth 100000 in
theorem QA.good : Good Tryz.prog 93 QA.con :=
 good_of tabok (cs := QA.cs) trivial 0 false (fn := Tryz.f93) Tryz.func93 rfl (by decide) (by simp [QA.con]) QA.keep NN (fun _ => rfl) (fun x => QA.body NN x)
end
end Go.Ev.Tryz

namespace Go.Ev.Tryz
open Go.Proofs Go.Pl
set_option linter.unusedVariables false
noncomputable section
def Qy.st2 (p : List YA) (i3 : Int) : St := ⟨[.dat (.sl 70 (.pair (.int .i64) (.pair .str (.int .i64)))) p, .gone, .gone, .dat (.int .i64) i3, .gone, .gone, .gone, .gone, .gone, .gone, .gone, .gone, .gone, .gone, .gone, .gone, .gone, .gone, .gone, .gone, .gone, .gone, .gone, .gone, .gone, .gone, .gone, .gone, .gone, .gone, .gone, .gone, .gone, .gone, .gone, .gone, .gone, .gone, .gone, .gone, .gone, .gone, .gone, .gone, .gone, .gone, .gone, .gone, .gone, .gone, .gone, .gone, .gone, .gone, .gone, .gone, .gone, .gone, .gone, .gone, .gone, .gone, .gone], []⟩
def Qy.con : Con := { ps := [(.val, (.sl 70 (.pair (.int .i64) (.pair .str (.int .i64)))))], rs := [(.val, .bool)], F := fun x => Qy.f x }
def Qy.cs : List (FuncId × Con) := [(90, Qaj.con), (91, QP.con), (92, Qab.con), (93, QA.con)]
def Qy.E : Env := envOf tab Qy.cs 0 false
def Qy.keep (i : Nat) : List Nat := if i = 2 then [0, 3] else []
def Qy.at2 (n : Nat) (x : List YA) : Code × (Ex → St → Option (Bool)) := ctx Qy.E Qy.keep n [.snd, .fst, .snd, .blk] (codeOf Tryz.f57) (kEnd Qy.E Tryz.f57 Qy.con x)
def Qy.LN2 (n : Nat) (x : List YA) : Nat → St → Option (Bool) := loopN (exec Qy.E Qy.keep n (bodyOf (Qy.at2 n x).1)) (St.norm 0 (Qy.keep 2)) (Qy.at2 n x).2
set_option maxRecDepth 100000 in
theorem Qy.lem2 (n : Nat) (x : List YA) : ∀ (k : Nat) (p : List YA) (i3 : Int), Qy.LN2 n x k (Qy.st2 p i3) = Qy.l2 n k p i3 := by
 intro k
 induction k with
 | zero => intro p i3; rfl
 | succ k ih =>
  intro p i3
  have h : Qy.LN2 n x (k + 1) (Qy.st2 p i3) = Qy.g2 (fun p i3 => Qy.LN2 n x k (Qy.st2 p i3)) p i3 := by kernel_rfl
  rw [h]
  simp only [ih]
  rfl
set_option maxRecDepth 100000 in
theorem Qy.body (n : Nat) (x : List YA) : bodyF Qy.E Qy.keep n Tryz.f57 Qy.con x = Qy.fn n x := by
 have h : bodyF Qy.E Qy.keep n Tryz.f57 Qy.con x = Qy.top (fun p i3 => Qy.LN2 n x n (Qy.st2 p i3)) x := by kernel_rfl
 rw [h]
 simp only [Qy.lem2]
 rfl
set_option maxRecDepth 100000 in
theorem Qy.good : Good Tryz.prog 57 Qy.con :=
 good_of tabok (cs := Qy.cs) ⟨Qaj.good, QP.good, Qab.good, QA.good, trivial⟩ 0 false (fn := Tryz.f57) Tryz.func57 rfl (by decide) (by simp [Qy.con]) Qy.keep NN (fun _ => rfl) (fun x => Qy.body NN x)
end
end Go.Ev.Tryz

namespace Go.Ev.Tryz
open Go.Proofs Go.Pl
set_option linter.unusedVariables false
noncomputable section
def Qak.tr0 (p : List YA) (m1 : Int × ByteArray × Int) : Option YV :=
 if ([] : List YA).length + p.length < room 32 then
  if (([] : List YA) ++ p).length + ([m1]).length < room 32 then
   (Qy.f ((([] : List YA) ++ p) ++ ([m1]))).bind fun r2 =>
   if (!r2) = true then
    some ([], 5)
   else
    some ((([] : List YA) ++ p) ++ ([m1]), 0)
  else
   none
 else
  none
def Qak.tr1 (p : List YA) (m1 : Int × ByteArray × Int) : Option YV :=
 agree (
  Qak.tr0 p m1
 ) (
  Qak.tr0 p m1
 )
def Qak.topraw (p : List YA) (m1 : Int × ByteArray × Int) : Option YV :=
 (Qy.f p).bind fun r1 =>
 if (!r1) = true then
  some ([], 1)
 else if (((p.length : Int) : Int) == 40) = true then
  some ([], 3)
 else
  agree (
   agree (
    Qak.tr0 p m1
   ) (
    Qak.tr1 p m1
   )
  ) (
   agree (
    Qak.tr1 p m1
   ) (
    Qak.tr0 p m1
   )
  )
theorem Qak.topraw_eq (p : List YA) (m1 : Int × ByteArray × Int) : Qak.topraw p m1 = Qak.top p m1 := by
 unfold Qak.topraw Qak.top
 simp only [agree_self, Qak.tr0, Qak.tr1]
def Qak.con : Con := { ps := [(.val, (.sl 70 (.pair (.int .i64) (.pair .str (.int .i64))))), (.val, (.pair (.int .i64) (.pair .str (.int .i64))))], rs := [(.own, (.sl 70 (.pair (.int .i64) (.pair .str (.int .i64))))), (.own, (.int .i64))], F := fun x => Qak.f x.1 x.2 }
def Qak.cs : List (FuncId × Con) := [(57, Qy.con)]
def Qak.E : Env := envOf tab Qak.cs 0 false
def Qak.keep (i : Nat) : List Nat := []
set_option maxRecDepth 100000 in
theorem Qak.body (n : Nat) (x : YD × Int × ByteArray × Int) : bodyF Qak.E Qak.keep n Tryz.f114 Qak.con x = Qak.fn n x.1 x.2 := by
 have h : bodyF Qak.E Qak.keep n Tryz.f114 Qak.con x = Qak.topraw x.1 x.2 := by kernel_rfl
 rw [Qak.topraw_eq] at h
 exact h
set_option maxRecDepth 100000 in
theorem Qak.good : Good Tryz.prog 114 Qak.con :=
 good_of tabok (cs := Qak.cs) ⟨Qy.good, trivial⟩ 0 false (fn := Tryz.f114) Tryz.func114 rfl (by decide) (by simp [Qak.con]) Qak.keep NN (fun _ => rfl) (fun x => Qak.body NN x)
end
end Go.Ev.Tryz

namespace Go.Ev.Tryz
open Go.Proofs Go.Pl
set_option linter.unusedVariables false
noncomputable section
def QK.st3 (q : List YA) (p : ByteArray) (n2 : Int) (r : Int) (i8 : Int) : St := ⟨[.dat (.sl 74 (.pair (.int .i64) (.pair .str (.int .i64)))) q, .dat .str p, .dat (.int .i64) n2, .gone, .gone, .gone, .gone, .dat (.int .i64) r, .dat (.int .i64) i8, .gone, .gone, .gone, .gone, .gone, .gone, .gone, .gone, .gone, .gone, .gone, .gone, .gone, .gone, .gone, .gone, .gone, .gone, .gone, .gone, .gone, .gone, .gone, .gone, .gone, .gone, .gone, .gone, .gone, .gone, .gone, .gone, .gone, .gone, .gone], []⟩
def QK.con : Con := { ps := [(.val, (.sl 74 (.pair (.int .i64) (.pair .str (.int .i64))))), (.val, .str), (.val, (.int .i64))], rs := [(.val, (.int .i64))], F := fun x => QK.f x.1 x.2.1 x.2.2 }
def QK.cs : List (FuncId × Con) := []
def QK.E : Env := envOf tab QK.cs 0 false
def QK.keep (i : Nat) : List Nat := if i = 3 then [0, 1, 2, 7, 8] else []
def QK.at3 (n : Nat) (x : YD × ByteArray × Int) : Code × (Ex → St → Option (Int)) := ctx QK.E QK.keep n [.snd, .snd, .fst, .snd, .blk] (codeOf Tryz.f94) (kEnd QK.E Tryz.f94 QK.con x)
def QK.LN3 (n : Nat) (x : YD × ByteArray × Int) : Nat → St → Option (Int) := loopN (exec QK.E QK.keep n (bodyOf (QK.at3 n x).1)) (St.norm 0 (QK.keep 3)) (QK.at3 n x).2
set_option maxRecDepth 100000 in
theorem QK.lem3 (n : Nat) (x : YD × ByteArray × Int) : ∀ (k : Nat) (q : List YA) (p : ByteArray) (n2 : Int) (r : Int) (i8 : Int), QK.LN3 n x k (QK.st3 q p n2 r i8) = QK.l3 n k q p n2 r i8 := by
 intro k
 induction k with
 | zero => intro q p n2 r i8; rfl
 | succ k ih =>
  intro q p n2 r i8
  have h : QK.LN3 n x (k + 1) (QK.st3 q p n2 r i8) = QK.g3 (fun q p n2 r i8 => QK.LN3 n x k (QK.st3 q p n2 r i8)) q p n2 r i8 := by kernel_rfl
  rw [h]
  simp only [ih]
  rfl
set_option maxRecDepth 100000 in
theorem QK.body (n : Nat) (x : YD × ByteArray × Int) : bodyF QK.E QK.keep n Tryz.f94 QK.con x = QK.fn n x.1 x.2.1 x.2.2 := by
 have h : bodyF QK.E QK.keep n Tryz.f94 QK.con x = QK.top (fun q p n2 r i8 => QK.LN3 n x n (QK.st3 q p n2 r i8)) x.1 x.2.1 x.2.2 := by kernel_rfl
 rw [h]
 simp only [QK.lem3]
 rfl
set_option maxRecDepth 100000 in
theorem QK.good : Good Tryz.prog 94 QK.con :=
 good_of tabok (cs := QK.cs) trivial 0 false (fn := Tryz.f94) Tryz.func94 rfl (by decide) (by simp [QK.con]) QK.keep NN (fun _ => rfl) (fun x => QK.body NN x)
end
end Go.Ev.Tryz

namespace Go.Ev.Tryz
open Go.Proofs Go.Pl
set_option linter.unusedVariables false
noncomputable section
def Qj.st2 (p : List YA) (i3 : Int) : St := ⟨[.dat (.sl 74 (.pair (.int .i64) (.pair .str (.int .i64)))) p, .gone, .gone, .dat (.int .i64) i3, .gone, .gone, .gone, .gone, .gone, .gone, .gone, .gone, .gone, .gone, .gone, .gone, .gone, .gone, .gone, .gone, .gone, .gone, .gone, .gone, .gone, .gone, .gone, .gone, .gone, .gone, .gone, .gone, .gone, .gone, .gone, .gone, .gone, .gone, .gone, .gone, .gone, .gone, .gone], []⟩
def Qj.con : Con := { ps := [(.val, (.sl 74 (.pair (.int .i64) (.pair .str (.int .i64)))))], rs := [(.val, .bool)], F := fun x => Qj.f x }
def Qj.cs : List (FuncId × Con) := [(91, QP.con), (92, Qab.con), (94, QK.con)]
def Qj.E : Env := envOf tab Qj.cs 0 false
def Qj.keep (i : Nat) : List Nat := if i = 2 then [0, 3] else []
def Qj.at2 (n : Nat) (x : List YA) : Code × (Ex → St → Option (Bool)) := ctx Qj.E Qj.keep n [.snd, .fst, .snd, .blk] (codeOf Tryz.f59) (kEnd Qj.E Tryz.f59 Qj.con x)
def Qj.LN2 (n : Nat) (x : List YA) : Nat → St → Option (Bool) := loopN (exec Qj.E Qj.keep n (bodyOf (Qj.at2 n x).1)) (St.norm 0 (Qj.keep 2)) (Qj.at2 n x).2
set_option maxRecDepth 100000 in
theorem Qj.lem2 (n : Nat) (x : List YA) : ∀ (k : Nat) (p : List YA) (i3 : Int), Qj.LN2 n x k (Qj.st2 p i3) = Qj.l2 n k p i3 := by
 intro k
 induction k with
 | zero => intro p i3; rfl
 | succ k ih =>
  intro p i3
  have h : Qj.LN2 n x (k + 1) (Qj.st2 p i3) = Qj.g2 (fun p i3 => Qj.LN2 n x k (Qj.st2 p i3)) p i3 := by kernel_rfl
  rw [h]
  simp only [ih]
  rfl
set_option maxRecDepth 100000 in
theorem Qj.body (n : Nat) (x : List YA) : bodyF Qj.E Qj.keep n Tryz.f59 Qj.con x = Qj.fn n x := by
 have h : bodyF Qj.E Qj.keep n Tryz.f59 Qj.con x = Qj.top (fun p i3 => Qj.LN2 n x n (Qj.st2 p i3)) x := by kernel_rfl
 rw [h]
 simp only [Qj.lem2]
 rfl
set_option maxRecDepth 100000 in
theorem Qj.good : Good Tryz.prog 59 Qj.con :=
 good_of tabok (cs := Qj.cs) ⟨QP.good, Qab.good, QK.good, trivial⟩ 0 false (fn := Tryz.f59) Tryz.func59 rfl (by decide) (by simp [Qj.con]) Qj.keep NN (fun _ => rfl) (fun x => Qj.body NN x)
end
end Go.Ev.Tryz

namespace Go.Ev.Tryz
open Go.Proofs Go.Pl
set_option linter.unusedVariables false
noncomputable section
def QT.tr0 (p : List YA) (b1 : Int × ByteArray × Int) : Option YV :=
 if ([] : List YA).length + p.length < room 32 then
  if (([] : List YA) ++ p).length + ([b1]).length < room 32 then
   (Qj.f ((([] : List YA) ++ p) ++ ([b1]))).bind fun r2 =>
   if (!r2) = true then
    some ([], 5)
   else
    some ((([] : List YA) ++ p) ++ ([b1]), 0)
  else
   none
 else
  none
def QT.tr1 (p : List YA) (b1 : Int × ByteArray × Int) : Option YV :=
 agree (
  QT.tr0 p b1
 ) (
  QT.tr0 p b1
 )
def QT.topraw (p : List YA) (b1 : Int × ByteArray × Int) : Option YV :=
 (Qj.f p).bind fun r1 =>
 if (!r1) = true then
  some ([], 1)
 else if (((p.length : Int) : Int) == 60) = true then
  some ([], 3)
 else
  agree (
   agree (
    QT.tr0 p b1
   ) (
    QT.tr1 p b1
   )
  ) (
   agree (
    QT.tr1 p b1
   ) (
    QT.tr0 p b1
   )
  )
theorem QT.topraw_eq (p : List YA) (b1 : Int × ByteArray × Int) : QT.topraw p b1 = QT.top p b1 := by
 unfold QT.topraw QT.top
 simp only [agree_self, QT.tr0, QT.tr1]
def QT.con : Con := { ps := [(.val, (.sl 74 (.pair (.int .i64) (.pair .str (.int .i64))))), (.val, (.pair (.int .i64) (.pair .str (.int .i64))))], rs := [(.own, (.sl 74 (.pair (.int .i64) (.pair .str (.int .i64))))), (.own, (.int .i64))], F := fun x => QT.f x.1 x.2 }
def QT.cs : List (FuncId × Con) := [(59, Qj.con)]
def QT.E : Env := envOf tab QT.cs 0 false
def QT.keep (i : Nat) : List Nat := []
set_option maxRecDepth 100000 in
theorem QT.body (n : Nat) (x : YD × Int × ByteArray × Int) : bodyF QT.E QT.keep n Tryz.f115 QT.con x = QT.fn n x.1 x.2 := by
 have h : bodyF QT.E QT.keep n Tryz.f115 QT.con x = QT.topraw x.1 x.2 := by kernel_rfl
 rw [QT.topraw_eq] at h
 exact h
set_option maxRecDepth 100000 in
theorem QT.good : Good Tryz.prog 115 QT.con :=
 good_of tabok (cs := QT.cs) ⟨Qj.good, trivial⟩ 0 false (fn := Tryz.f115) Tryz.func115 rfl (by decide) (by simp [QT.con]) QT.keep NN (fun _ => rfl) (fun x => QT.body NN x)
end
end Go.Ev.Tryz

namespace Go.Ev.Tryz
open Go.Proofs Go.Pl
set_option linter.unusedVariables false
noncomputable section
def QR.st2 (p : List ByteArray) (q : ByteArray) (i5 : Int) : St := ⟨[.dat (.sl 9 .str) p, .dat .str q, .gone, .gone, .gone, .dat (.int .i64) i5, .gone, .gone, .gone, .gone, .gone, .gone, .gone, .gone, .gone, .gone, .gone, .gone, .gone], []⟩
def QR.con : Con := { ps := [(.val, (.sl 9 .str)), (.val, .str)], rs := [(.val, (.int .i64))], F := fun x => QR.f x.1 x.2 }
def QR.cs : List (FuncId × Con) := []
def QR.E : Env := envOf tab QR.cs 0 false
def QR.keep (i : Nat) : List Nat := if i = 2 then [0, 1, 5] else []
def QR.at2 (n : Nat) (x : List ByteArray × ByteArray) : Code × (Ex → St → Option (Int)) := ctx QR.E QR.keep n [.snd, .fst, .snd, .blk] (codeOf Tryz.f118) (kEnd QR.E Tryz.f118 QR.con x)
def QR.LN2 (n : Nat) (x : List ByteArray × ByteArray) : Nat → St → Option (Int) := loopN (exec QR.E QR.keep n (bodyOf (QR.at2 n x).1)) (St.norm 0 (QR.keep 2)) (QR.at2 n x).2
set_option maxRecDepth 100000 in
theorem QR.lem2 (n : Nat) (x : List ByteArray × ByteArray) : ∀ (k : Nat) (p : List ByteArray) (q : ByteArray) (i5 : Int), QR.LN2 n x k (QR.st2 p q i5) = QR.l2 n k p q i5 := by
 intro k
 induction k with
 | zero => intro p q i5; rfl
 | succ k ih =>
  intro p q i5
  have h : QR.LN2 n x (k + 1) (QR.st2 p q i5) = QR.g2 (fun p q i5 => QR.LN2 n x k (QR.st2 p q i5)) p q i5 := by kernel_rfl
  rw [h]
  simp only [ih]
  rfl
set_option maxRecDepth 100000 in
theorem QR.body (n : Nat) (x : List ByteArray × ByteArray) : bodyF QR.E QR.keep n Tryz.f118 QR.con x = QR.fn n x.1 x.2 := by
 have h : bodyF QR.E QR.keep n Tryz.f118 QR.con x = QR.top (fun p q i5 => QR.LN2 n x n (QR.st2 p q i5)) x.1 x.2 := by kernel_rfl
 rw [h]
 simp only [QR.lem2]
 rfl
set_option maxRecDepth 100000 in
theorem QR.good : Good Tryz.prog 118 QR.con :=
 good_of tabok (cs := QR.cs) trivial 0 false (fn := Tryz.f118) Tryz.func118 rfl (by decide) (by simp [QR.con]) QR.keep NN (fun _ => rfl) (fun x => QR.body NN x)
end
end Go.Ev.Tryz

namespace Go.Ev.Tryz
open Go.Proofs Go.Pl
set_option linter.unusedVariables false
noncomputable section
def Qr.st2 (p : List YC) (i3 : Int) : St := ⟨[.dat (.sl 72 (.pair (.int .i64) (.int .i64))) p, .gone, .gone, .dat (.int .i64) i3, .gone, .gone, .gone, .gone, .gone, .gone, .gone, .gone, .gone, .gone, .gone, .gone, .gone, .gone, .gone, .gone, .gone, .gone, .gone, .gone, .gone, .gone, .gone, .gone, .gone, .gone, .gone, .gone, .gone, .gone, .gone, .gone, .gone, .gone, .gone, .gone, .gone, .gone, .gone, .gone, .gone, .gone, .gone, .gone], []⟩
def Qr.con : Con := { ps := [(.val, (.sl 72 (.pair (.int .i64) (.int .i64))))], rs := [(.val, .bool)], F := fun x => Qr.f x }
def Qr.cs : List (FuncId × Con) := [(92, Qab.con)]
def Qr.E : Env := envOf tab Qr.cs 0 false
def Qr.keep (i : Nat) : List Nat := if i = 2 then [0, 3] else []
def Qr.at2 (n : Nat) (x : List YC) : Code × (Ex → St → Option (Bool)) := ctx Qr.E Qr.keep n [.snd, .fst, .snd, .blk] (codeOf Tryz.f58) (kEnd Qr.E Tryz.f58 Qr.con x)
def Qr.LN2 (n : Nat) (x : List YC) : Nat → St → Option (Bool) := loopN (exec Qr.E Qr.keep n (bodyOf (Qr.at2 n x).1)) (St.norm 0 (Qr.keep 2)) (Qr.at2 n x).2
set_option maxRecDepth 100000 in
theorem Qr.lem2 (n : Nat) (x : List YC) : ∀ (k : Nat) (p : List YC) (i3 : Int), Qr.LN2 n x k (Qr.st2 p i3) = Qr.l2 n k p i3 := by
 intro k
 induction k with
 | zero => intro p i3; rfl
 | succ k ih =>
  intro p i3
  have h : Qr.LN2 n x (k + 1) (Qr.st2 p i3) = Qr.g2 (fun p i3 => Qr.LN2 n x k (Qr.st2 p i3)) p i3 := by kernel_rfl
  rw [h]
  simp only [ih]
  rfl
set_option maxRecDepth 100000 in
theorem Qr.body (n : Nat) (x : List YC) : bodyF Qr.E Qr.keep n Tryz.f58 Qr.con x = Qr.fn n x := by
 have h : bodyF Qr.E Qr.keep n Tryz.f58 Qr.con x = Qr.top (fun p i3 => Qr.LN2 n x n (Qr.st2 p i3)) x := by kernel_rfl
 rw [h]
 simp only [Qr.lem2]
 rfl
set_option maxRecDepth 100000 in
theorem Qr.good : Good Tryz.prog 58 Qr.con :=
 good_of tabok (cs := Qr.cs) ⟨Qab.good, trivial⟩ 0 false (fn := Tryz.f58) Tryz.func58 rfl (by decide) (by simp [Qr.con]) Qr.keep NN (fun _ => rfl) (fun x => Qr.body NN x)
end
end Go.Ev.Tryz

namespace Go.Ev.Tryz
open Go.Proofs Go.Pl
set_option linter.unusedVariables false
noncomputable section
def Qk.st6 (p : List YC) (at6 : Int) (x3 : Int × Int) : St := ⟨[.dat (.sl 72 (.pair (.int .i64) (.int .i64))) p, .gone, .gone, .ptr 0 [], .gone, .gone, .dat (.int .i64) at6, .gone, .gone, .gone, .gone, .gone, .gone, .gone, .gone, .gone, .gone, .gone, .gone, .gone, .gone, .gone, .gone, .gone, .gone, .gone, .gone, .gone, .gone, .gone, .gone, .gone, .gone, .gone, .gone, .gone, .gone, .gone, .gone, .gone, .gone, .gone, .gone, .gone, .gone, .gone, .gone], [.box 72 (.pair (.int .i64) (.int .i64)) (.dat (.pair (.int .i64) (.int .i64)) x3)]⟩
def Qk.tr0 (p : List YC) (at6 : Int) (x3 : Int × Int) : Option YY :=
 if ([] : List YC).length + (p.take (at6 : Int).toNat).length < room 16 then
  if (([] : List YC) ++ (p.take (at6 : Int).toNat)).length + ([x3]).length < room 16 then
   if ((([] : List YC) ++ (p.take (at6 : Int).toNat)) ++ ([x3])).length + (p.drop (at6 : Int).toNat).length < room 16 then
    (Qr.f (((([] : List YC) ++ (p.take (at6 : Int).toNat)) ++ ([x3])) ++ (p.drop (at6 : Int).toNat))).bind fun r2 =>
    if (!r2) = true then
     some ([], 5)
    else
     some (((([] : List YC) ++ (p.take (at6 : Int).toNat)) ++ ([x3])) ++ (p.drop (at6 : Int).toNat), 0)
   else
    none
  else
   none
 else
  none
def Qk.tr1 (p : List YC) (at6 : Int) (x3 : Int × Int) : Option YY :=
 agree (
  Qk.tr0 p at6 x3
 ) (
  Qk.tr0 p at6 x3
 )
def Qk.tr2 (p : List YC) (at6 : Int) (x3 : Int × Int) : Option YY :=
 if ([] : List YC).length + (p.take (at6 : Int).toNat).length < room 16 then
  if (([] : List YC) ++ (p.take (at6 : Int).toNat)).length + ([x3]).length < room 16 then
   if ((([] : List YC) ++ (p.take (at6 : Int).toNat)) ++ ([x3])).length + (p.drop (at6 : Int).toNat).length < room 16 then
    (Qr.f (((([] : List YC) ++ (p.take (at6 : Int).toNat)) ++ ([x3])) ++ (p.drop (at6 : Int).toNat))).bind fun r3 =>
    if (!r3) = true then
     some ([], 5)
    else
     some (((([] : List YC) ++ (p.take (at6 : Int).toNat)) ++ ([x3])) ++ (p.drop (at6 : Int).toNat), 0)
   else
    none
  else
   none
 else
  none
def Qk.tr3 (p : List YC) (at6 : Int) (x3 : Int × Int) : Option YY :=
 agree (
  Qk.tr2 p at6 x3
 ) (
  Qk.tr2 p at6 x3
 )
def Qk.g6raw (L6 : YE → Int → YC → Option YY) (p : List YC) (at6 : Int) (x3 : Int × Int) : Option YY :=
 if (decide ((0 : Int) < at6)) = true then
  if (0 : Int) ≤ (IntKind.i64.wrap (at6 - 1)) ∧ ((IntKind.i64.wrap (at6 - 1)) : Int) < p.length then
   if (decide ((x3.1 : Int) < ((p.getD ((IntKind.i64.wrap (at6 - 1)) : Int).toNat (0, 0)).1))) = true then
    L6 p (IntKind.i64.wrap (at6 - 1)) x3
   else if (0 : Int) ≤ at6 ∧ (at6 : Int) ≤ p.length then
    if (0 : Int) ≤ at6 ∧ (at6 : Int) ≤ p.length then
     agree (
      agree (
       Qk.tr0 p at6 x3
      ) (
       Qk.tr1 p at6 x3
      )
     ) (
      agree (
       Qk.tr1 p at6 x3
      ) (
       Qk.tr0 p at6 x3
      )
     )
    else
     none
   else
    none
  else
   none
 else if (0 : Int) ≤ at6 ∧ (at6 : Int) ≤ p.length then
  if (0 : Int) ≤ at6 ∧ (at6 : Int) ≤ p.length then
   agree (
    agree (
     Qk.tr2 p at6 x3
    ) (
     Qk.tr3 p at6 x3
    )
   ) (
    agree (
     Qk.tr3 p at6 x3
    ) (
     Qk.tr2 p at6 x3
    )
   )
  else
   none
 else
  none
theorem Qk.g6raw_eq (L6 : YE → Int → YC → Option YY) (p : List YC) (at6 : Int) (x3 : Int × Int) : Qk.g6raw L6 p at6 x3 = Qk.g6 L6 p at6 x3 := by
 unfold Qk.g6raw Qk.g6
 simp only [agree_self, Qk.tr0, Qk.tr1, Qk.tr2, Qk.tr3]
def Qk.con : Con := { ps := [(.val, (.sl 72 (.pair (.int .i64) (.int .i64)))), (.val, (.pair (.int .i64) (.int .i64)))], rs := [(.own, (.sl 72 (.pair (.int .i64) (.int .i64)))), (.own, (.int .i64))], F := fun x => Qk.f x.1 x.2 }
def Qk.cs : List (FuncId × Con) := [(58, Qr.con)]
def Qk.E : Env := envOf tab Qk.cs 0 false
def Qk.keep (i : Nat) : List Nat := if i = 6 then [0, 3, 6] else []
def Qk.at6 (n : Nat) (x : YE × Int × Int) : Code × (Ex → St → Option (YY)) := ctx Qk.E Qk.keep n [.snd, .snd, .snd, .snd, .fst, .blk] (codeOf Tryz.f119) (kEnd Qk.E Tryz.f119 Qk.con x)
def Qk.LN6 (n : Nat) (x : YE × Int × Int) : Nat → St → Option (YY) := loopN (exec Qk.E Qk.keep n (bodyOf (Qk.at6 n x).1)) (St.norm 0 (Qk.keep 6)) (Qk.at6 n x).2
set_option maxRecDepth 100000 in
theorem Qk.lem6 (n : Nat) (x : YE × Int × Int) : ∀ (k : Nat) (p : List YC) (at6 : Int) (x3 : Int × Int), Qk.LN6 n x k (Qk.st6 p at6 x3) = Qk.l6 n k p at6 x3 := by
 intro k
 induction k with
 | zero => intro p at6 x3; rfl
 | succ k ih =>
  intro p at6 x3
  have h : Qk.LN6 n x (k + 1) (Qk.st6 p at6 x3) = Qk.g6raw (fun p at6 x3 => Qk.LN6 n x k (Qk.st6 p at6 x3)) p at6 x3 := by kernel_rfl
  rw [Qk.g6raw_eq] at h
  rw [h]
  simp only [ih]
  rfl
set_option maxRecDepth 100000 in
theorem Qk.body (n : Nat) (x : YE × Int × Int) : bodyF Qk.E Qk.keep n Tryz.f119 Qk.con x = Qk.fn n x.1 x.2 := by
 have h : bodyF Qk.E Qk.keep n Tryz.f119 Qk.con x = Qk.top (fun p at6 x3 => Qk.LN6 n x n (Qk.st6 p at6 x3)) x.1 x.2 := by kernel_rfl
 rw [h]
 simp only [Qk.lem6]
 rfl
set_option maxRecDepth 100000 in
theorem Qk.good : Good Tryz.prog 119 Qk.con :=
 good_of tabok (cs := Qk.cs) ⟨Qr.good, trivial⟩ 0 false (fn := Tryz.f119) Tryz.func119 rfl (by decide) (by simp [Qk.con]) Qk.keep NN (fun _ => rfl) (fun x => Qk.body NN x)
end
end Go.Ev.Tryz

namespace Go.Ev.Tryz
open Go.Proofs Go.Pl
set_option linter.unusedVariables false
noncomputable section
def Qm.st2 (s1 : ByteArray) (at5 : Int) (p : List ByteArray) : St := ⟨[.ref 0, .dat .str s1, .gone, .gone, .gone, .dat (.int .i64) at5, .gone, .gone, .gone, .gone, .gone, .gone, .gone, .gone, .gone, .gone, .gone, .gone, .gone, .gone, .gone, .gone, .gone, .gone, .gone, .gone, .gone, .gone, .gone, .gone, .gone, .gone, .gone, .gone, .gone, .gone, .gone, .gone, .gone, .gone, .gone, .gone, .gone, .gone, .gone], [.row 9 .str p none]⟩
def Qm.tr0 (s1 : ByteArray) (at5 : Int) (p : List ByteArray) : Option YH :=
 if ([] : List ByteArray).length + (p.take (at5 : Int).toNat).length < room 16 then
  if (([] : List ByteArray) ++ (p.take (at5 : Int).toNat)).length + ([s1]).length < room 16 then
   if ((([] : List ByteArray) ++ (p.take (at5 : Int).toNat)) ++ ([s1])).length + (p.drop (at5 : Int).toNat).length < room 16 then
    some (((([] : List ByteArray) ++ (p.take (at5 : Int).toNat)) ++ ([s1])) ++ (p.drop (at5 : Int).toNat))
   else
    none
  else
   none
 else
  none
def Qm.tr1 (s1 : ByteArray) (at5 : Int) (p : List ByteArray) : Option YH :=
 if (0 : Int) ≤ at5 ∧ (at5 : Int) ≤ p.length then
  if (0 : Int) ≤ at5 ∧ (at5 : Int) ≤ p.length then
   agree (
    agree (
     Qm.tr0 s1 at5 p
    ) (
     Qm.tr0 s1 at5 p
    )
   ) (
    Qm.tr0 s1 at5 p
   )
  else
   none
 else
  none
def Qm.tr2 (s1 : ByteArray) (at5 : Int) (p : List ByteArray) : Option YH :=
 if (decide ((at5 : Int) < (p.length : Int))) = true then
  if (0 : Int) ≤ at5 ∧ (at5 : Int) < p.length then
   if ((p.getD (at5 : Int).toNat ByteArray.empty).toList == s1.toList) = true then
    some p
   else
    Qm.tr1 s1 at5 p
  else
   none
 else
  Qm.tr1 s1 at5 p
def Qm.g2raw (L2 : YAB) (s1 : ByteArray) (at5 : Int) (p : List ByteArray) : Option YH :=
 if (decide ((at5 : Int) < (p.length : Int))) = true then
  if (0 : Int) ≤ at5 ∧ (at5 : Int) < p.length then
   if (Op.bytesLess (p.getD (at5 : Int).toNat ByteArray.empty).toList s1.toList) = true then
    L2 s1 (IntKind.i64.wrap (at5 + 1)) p
   else
    Qm.tr2 s1 at5 p
  else
   none
 else
  Qm.tr2 s1 at5 p
theorem Qm.g2raw_eq (L2 : YAB) (s1 : ByteArray) (at5 : Int) (p : List ByteArray) : Qm.g2raw L2 s1 at5 p = Qm.g2 L2 s1 at5 p := by
 unfold Qm.g2raw Qm.g2
 simp only [agree_self, Qm.tr0, Qm.tr1, Qm.tr2]
def Qm.con : Con := { ps := [(.own, (.sl 9 .str)), (.val, .str)], rs := [(.own, (.sl 9 .str))], gv := true, F := fun x => Qm.f x.1 x.2 }
def Qm.cs : List (FuncId × Con) := []
def Qm.E : Env := envOf tab Qm.cs 0 false
def Qm.keep (i : Nat) : List Nat := if i = 2 then [0, 1, 5] else []
def Qm.at2 (n : Nat) (x : List ByteArray × ByteArray) : Code × (Ex → St → Option (YH)) := ctx Qm.E Qm.keep n [.snd, .snd, .fst, .blk] (codeOf Tryz.f146) (kEnd Qm.E Tryz.f146 Qm.con x)
def Qm.LN2 (n : Nat) (x : List ByteArray × ByteArray) : Nat → St → Option (YH) := loopN (exec Qm.E Qm.keep n (bodyOf (Qm.at2 n x).1)) (St.norm 0 (Qm.keep 2)) (Qm.at2 n x).2
set_option maxRecDepth 100000 in
theorem Qm.lem2 (n : Nat) (x : List ByteArray × ByteArray) : ∀ (k : Nat) (s1 : ByteArray) (at5 : Int) (p : List ByteArray), Qm.LN2 n x k (Qm.st2 s1 at5 p) = Qm.l2 n k s1 at5 p := by
 intro k
 induction k with
 | zero => intro s1 at5 p; rfl
 | succ k ih =>
  intro s1 at5 p
  have h : Qm.LN2 n x (k + 1) (Qm.st2 s1 at5 p) = Qm.g2raw (fun s1 at5 p => Qm.LN2 n x k (Qm.st2 s1 at5 p)) s1 at5 p := by kernel_rfl
  rw [Qm.g2raw_eq] at h
  rw [h]
  simp only [ih]
  rfl
set_option maxRecDepth 100000 in
theorem Qm.body (n : Nat) (x : List ByteArray × ByteArray) : bodyF Qm.E Qm.keep n Tryz.f146 Qm.con x = Qm.fn n x.1 x.2 := by
 have h : bodyF Qm.E Qm.keep n Tryz.f146 Qm.con x = Qm.top (fun s1 at5 p => Qm.LN2 n x n (Qm.st2 s1 at5 p)) x.1 x.2 := by kernel_rfl
 rw [h]
 simp only [Qm.lem2]
 rfl
set_option maxRecDepth 100000 in
theorem Qm.good : Good Tryz.prog 146 Qm.con :=
 good_of tabok (cs := Qm.cs) trivial 0 false (fn := Tryz.f146) Tryz.func146 rfl (by decide) (by simp [Qm.con]) Qm.keep NN (fun _ => rfl) (fun x => Qm.body NN x)
end
end Go.Ev.Tryz

namespace Go.Ev.Tryz
open Go.Proofs Go.Pl
set_option linter.unusedVariables false
noncomputable section
def Q0.st3 (p : List YA) (i4 : Int) (q : List ByteArray) : St := ⟨[.dat (.sl 74 (.pair (.int .i64) (.pair .str (.int .i64)))) p, .gone, .gone, .ref 0, .dat (.int .i64) i4, .gone, .gone, .gone, .gone, .gone, .gone, .gone, .gone, .gone, .gone, .gone, .gone, .gone, .gone, .gone, .gone, .gone, .gone, .gone, .gone, .gone, .gone, .gone, .gone, .gone], [.row 9 .str q none]⟩
def Q0.con : Con := { ps := [(.val, (.sl 74 (.pair (.int .i64) (.pair .str (.int .i64)))))], rs := [(.own, (.sl 9 .str))], F := fun x => Q0.f x }
def Q0.cs : List (FuncId × Con) := [(94, QK.con), (146, Qm.con)]
def Q0.E : Env := envOf tab Q0.cs 0 false
def Q0.keep (i : Nat) : List Nat := if i = 3 then [0, 3, 4] else []
def Q0.at3 (n : Nat) (x : List YA) : Code × (Ex → St → Option (YH)) := ctx Q0.E Q0.keep n [.snd, .snd, .fst, .snd, .blk] (codeOf Tryz.f125) (kEnd Q0.E Tryz.f125 Q0.con x)
def Q0.LN3 (n : Nat) (x : List YA) : Nat → St → Option (YH) := loopN (exec Q0.E Q0.keep n (bodyOf (Q0.at3 n x).1)) (St.norm 0 (Q0.keep 3)) (Q0.at3 n x).2
set_option maxRecDepth 100000 in
theorem Q0.lem3 (n : Nat) (x : List YA) : ∀ (k : Nat) (p : List YA) (i4 : Int) (q : List ByteArray), Q0.LN3 n x k (Q0.st3 p i4 q) = Q0.l3 n k p i4 q := by
 intro k
 induction k with
 | zero => intro p i4 q; rfl
 | succ k ih =>
  intro p i4 q
  have h : Q0.LN3 n x (k + 1) (Q0.st3 p i4 q) = Q0.g3 (fun p i4 q => Q0.LN3 n x k (Q0.st3 p i4 q)) p i4 q := by kernel_rfl
  rw [h]
  simp only [ih]
  rfl
set_option maxRecDepth 100000 in
theorem Q0.body (n : Nat) (x : List YA) : bodyF Q0.E Q0.keep n Tryz.f125 Q0.con x = Q0.fn n x := by
 have h : bodyF Q0.E Q0.keep n Tryz.f125 Q0.con x = Q0.top (fun p i4 q => Q0.LN3 n x n (Q0.st3 p i4 q)) x := by kernel_rfl
 rw [h]
 simp only [Q0.lem3]
 rfl
set_option maxRecDepth 100000 in
theorem Q0.good : Good Tryz.prog 125 Q0.con :=
 good_of tabok (cs := Q0.cs) ⟨QK.good, Qm.good, trivial⟩ 0 false (fn := Tryz.f125) Tryz.func125 rfl (by decide) (by simp [Q0.con]) Q0.keep NN (fun _ => rfl) (fun x => Q0.body NN x)
end
end Go.Ev.Tryz

namespace Go.Ev.Tryz
open Go.Proofs Go.Pl
set_option linter.unusedVariables false
noncomputable section
def QaK.con : Con := { ps := [(.val, (.sl 74 (.pair (.int .i64) (.pair .str (.int .i64)))))], rs := [(.val, (.int .i64))], F := fun x => QaK.f x }
def QaK.cs : List (FuncId × Con) := [(59, Qj.con)]
def QaK.E : Env := envOf tab QaK.cs 0 false
def QaK.keep (i : Nat) : List Nat := []
set_option maxRecDepth 100000 in
theorem QaK.body (n : Nat) (x : List YA) : bodyF QaK.E QaK.keep n Tryz.f142 QaK.con x = QaK.fn n x := by
 have h : bodyF QaK.E QaK.keep n Tryz.f142 QaK.con x = QaK.top x := by kernel_rfl
 exact h
set_option maxRecDepth 100000 in
theorem QaK.good : Good Tryz.prog 142 QaK.con :=
 good_of tabok (cs := QaK.cs) ⟨Qj.good, trivial⟩ 0 false (fn := Tryz.f142) Tryz.func142 rfl (by decide) (by simp [QaK.con]) QaK.keep NN (fun _ => rfl) (fun x => QaK.body NN x)
end
end Go.Ev.Tryz

namespace Go.Ev.Tryz
open Go.Proofs Go.Pl
set_option linter.unusedVariables false
noncomputable section
def QF.st8 (p : List YA) (q : Int) (i8 : Int) (s : List YA) (r : List ByteArray) : St := ⟨[.dat (.sl 74 (.pair (.int .i64) (.pair .str (.int .i64)))) p, .dat (.int .i64) q, .gone, .gone, .gone, .gone, .ref 0, .ref 1, .dat (.int .i64) i8, .gone, .gone, .gone, .gone, .gone, .gone, .gone, .gone, .gone, .gone, .gone, .gone, .gone, .gone, .gone, .gone, .gone, .gone, .gone, .gone, .gone, .gone, .gone, .gone, .gone, .gone, .gone, .gone, .gone, .gone, .gone, .gone, .gone, .gone, .gone, .gone, .gone, .gone, .gone, .gone, .gone], [.row 74 (.pair (.int .i64) (.pair .str (.int .i64))) s none, .row 9 .str r none]⟩
def QF.con : Con := { ps := [(.val, (.sl 74 (.pair (.int .i64) (.pair .str (.int .i64))))), (.val, (.int .i64))], rs := [(.own, (.sl 74 (.pair (.int .i64) (.pair .str (.int .i64))))), (.own, (.int .i64))], F := fun x => QF.f x.1 x.2 }
def QF.cs : List (FuncId × Con) := [(59, Qj.con), (92, Qab.con), (94, QK.con), (125, Q0.con), (142, QaK.con)]
def QF.E : Env := envOf tab QF.cs 0 false
def QF.keep (i : Nat) : List Nat := if i = 8 then [0, 1, 6, 7, 8] else []
def QF.at8 (n : Nat) (x : YD × Int) : Code × (Ex → St → Option (YV)) := ctx QF.E QF.keep n [.snd, .snd, .snd, .snd, .snd, .fst, .snd, .blk] (codeOf Tryz.f120) (kEnd QF.E Tryz.f120 QF.con x)
def QF.LN8 (n : Nat) (x : YD × Int) : Nat → St → Option (YV) := loopN (exec QF.E QF.keep n (bodyOf (QF.at8 n x).1)) (St.norm 0 (QF.keep 8)) (QF.at8 n x).2
set_option maxRecDepth 100000 in
theorem QF.lem8 (n : Nat) (x : YD × Int) : ∀ (k : Nat) (p : List YA) (q : Int) (i8 : Int) (s : List YA) (r : List ByteArray), QF.LN8 n x k (QF.st8 p q i8 s r) = QF.l8 n k p q i8 s r := by
 intro k
 induction k with
 | zero => intro p q i8 s r; rfl
 | succ k ih =>
  intro p q i8 s r
  have h : QF.LN8 n x (k + 1) (QF.st8 p q i8 s r) = QF.g8 (fun p q i8 s r => QF.LN8 n x k (QF.st8 p q i8 s r)) p q i8 s r := by kernel_rfl
  rw [h]
  simp only [ih]
  rfl
set_option maxRecDepth 100000 in
theorem QF.body (n : Nat) (x : YD × Int) : bodyF QF.E QF.keep n Tryz.f120 QF.con x = QF.fn n x.1 x.2 := by
 have h : bodyF QF.E QF.keep n Tryz.f120 QF.con x = QF.top (fun p q i8 s r => QF.LN8 n x n (QF.st8 p q i8 s r)) x.1 x.2 := by kernel_rfl
 rw [h]
 simp only [QF.lem8]
 rfl
set_option maxRecDepth 100000 in
theorem QF.good : Good Tryz.prog 120 QF.con :=
 good_of tabok (cs := QF.cs) ⟨Qj.good, Qab.good, QK.good, Q0.good, QaK.good, trivial⟩ 0 false (fn := Tryz.f120) Tryz.func120 rfl (by decide) (by simp [QF.con]) QF.keep NN (fun _ => rfl) (fun x => QF.body NN x)
end
end Go.Ev.Tryz

namespace Go.Ev.Tryz
open Go.Proofs Go.Pl
set_option linter.unusedVariables false
noncomputable section
def Qad.con : Con := { ps := [(.val, (.pair (.sl 70 (.pair (.int .i64) (.pair .str (.int .i64)))) (.pair (.sl 72 (.pair (.int .i64) (.int .i64))) (.sl 74 (.pair (.int .i64) (.pair .str (.int .i64))))))), (.val, (.sl 9 .str)), (.val, (.sl 2 (.int .i64)))], rs := [(.val, (.pair (.sl 70 (.pair (.int .i64) (.pair .str (.int .i64)))) (.pair (.sl 72 (.pair (.int .i64) (.int .i64))) (.sl 74 (.pair (.int .i64) (.pair .str (.int .i64))))))), (.val, (.int .i64))], F := fun x => Qad.f x.1 x.2.1 x.2.2 }
def Qad.cs : List (FuncId × Con) := [(71, QaI.con), (114, Qak.con), (115, QT.con), (118, QR.con), (119, Qk.con), (120, QF.con)]
def Qad.E : Env := envOf tab Qad.cs 0 false
def Qad.keep (i : Nat) : List Nat := []
set_option maxRecDepth 100000 in
theorem Qad.body (n : Nat) (x : YG × List ByteArray × List Int) : bodyF Qad.E Qad.keep n Tryz.f95 Qad.con x = Qad.fn n x.1 x.2.1 x.2.2 := by
 have h : bodyF Qad.E Qad.keep n Tryz.f95 Qad.con x = Qad.top x.1 x.2.1 x.2.2 := by kernel_rfl
 exact h
set_option maxRecDepth 100000 in
theorem Qad.good : Good Tryz.prog 95 Qad.con :=
 good_of tabok (cs := Qad.cs) ⟨QaI.good, Qak.good, QT.good, QR.good, Qk.good, QF.good, trivial⟩ 0 false (fn := Tryz.f95) Tryz.func95 rfl (by decide) (by simp [Qad.con]) Qad.keep NN (fun _ => rfl) (fun x => Qad.body NN x)
end
end Go.Ev.Tryz

namespace Go.Ev.Tryz
open Go.Proofs Go.Pl
set_option linter.unusedVariables false
noncomputable section
def Qa4.con : Con := { ps := [(.val, (.sl 70 (.pair (.int .i64) (.pair .str (.int .i64))))), (.val, .str), (.val, (.int .i64))], rs := [(.val, (.int .i64))], F := fun x => Qa4.f x.1 x.2.1 x.2.2 }
def Qa4.cs : List (FuncId × Con) := [(57, Qy.con), (90, Qaj.con), (91, QP.con)]
def Qa4.E : Env := envOf tab Qa4.cs 0 false
def Qa4.keep (i : Nat) : List Nat := []
set_option maxRecDepth 100000 in
theorem Qa4.body (n : Nat) (x : YD × ByteArray × Int) : bodyF Qa4.E Qa4.keep n Tryz.f143 Qa4.con x = Qa4.fn n x.1 x.2.1 x.2.2 := by
 have h : bodyF Qa4.E Qa4.keep n Tryz.f143 Qa4.con x = Qa4.top x.1 x.2.1 x.2.2 := by kernel_rfl
 exact h
set_option maxRecDepth 100000 in
theorem Qa4.good : Good Tryz.prog 143 Qa4.con :=
 good_of tabok (cs := Qa4.cs) ⟨Qy.good, Qaj.good, QP.good, trivial⟩ 0 false (fn := Tryz.f143) Tryz.func143 rfl (by decide) (by simp [Qa4.con]) Qa4.keep NN (fun _ => rfl) (fun x => Qa4.body NN x)
end
end Go.Ev.Tryz

namespace Go.Ev.Tryz
open Go.Proofs Go.Pl
set_option linter.unusedVariables false
noncomputable section
def QZ.st2 (p : List YA) (t1 : Int) (n5 : Int) : St := ⟨[.dat (.sl 70 (.pair (.int .i64) (.pair .str (.int .i64)))) p, .dat (.int .i64) t1, .gone, .gone, .gone, .dat (.int .i64) n5, .gone, .gone, .gone, .gone, .gone, .gone, .gone, .gone, .gone, .gone, .gone, .gone, .gone, .gone, .gone, .gone], []⟩
def QZ.con : Con := { ps := [(.val, (.sl 70 (.pair (.int .i64) (.pair .str (.int .i64))))), (.val, (.int .i64))], rs := [(.val, (.int .i64))], F := fun x => QZ.f x.1 x.2 }
def QZ.cs : List (FuncId × Con) := []
def QZ.E : Env := envOf tab QZ.cs 0 false
def QZ.keep (i : Nat) : List Nat := if i = 2 then [0, 1, 5] else []
def QZ.at2 (n : Nat) (x : YD × Int) : Code × (Ex → St → Option (Int)) := ctx QZ.E QZ.keep n [.snd, .snd, .fst, .blk] (codeOf Tryz.f160) (kEnd QZ.E Tryz.f160 QZ.con x)
def QZ.LN2 (n : Nat) (x : YD × Int) : Nat → St → Option (Int) := loopN (exec QZ.E QZ.keep n (bodyOf (QZ.at2 n x).1)) (St.norm 0 (QZ.keep 2)) (QZ.at2 n x).2
set_option maxRecDepth 100000 in
theorem QZ.lem2 (n : Nat) (x : YD × Int) : ∀ (k : Nat) (p : List YA) (t1 : Int) (n5 : Int), QZ.LN2 n x k (QZ.st2 p t1 n5) = QZ.l2 n k p t1 n5 := by
 intro k
 induction k with
 | zero => intro p t1 n5; rfl
 | succ k ih =>
  intro p t1 n5
  have h : QZ.LN2 n x (k + 1) (QZ.st2 p t1 n5) = QZ.g2 (fun p t1 n5 => QZ.LN2 n x k (QZ.st2 p t1 n5)) p t1 n5 := by kernel_rfl
  rw [h]
  simp only [ih]
  rfl
set_option maxRecDepth 100000 in
theorem QZ.body (n : Nat) (x : YD × Int) : bodyF QZ.E QZ.keep n Tryz.f160 QZ.con x = QZ.fn n x.1 x.2 := by
 have h : bodyF QZ.E QZ.keep n Tryz.f160 QZ.con x = QZ.top (fun p t1 n5 => QZ.LN2 n x n (QZ.st2 p t1 n5)) x.1 x.2 := by kernel_rfl
 rw [h]
 simp only [QZ.lem2]
 rfl
set_option maxRecDepth 100000 in
theorem QZ.good : Good Tryz.prog 160 QZ.con :=
 good_of tabok (cs := QZ.cs) trivial 0 false (fn := Tryz.f160) Tryz.func160 rfl (by decide) (by simp [QZ.con]) QZ.keep NN (fun _ => rfl) (fun x => QZ.body NN x)
end
end Go.Ev.Tryz

namespace Go.Ev.Tryz
open Go.Proofs Go.Pl
set_option linter.unusedVariables false
noncomputable section
def QM.st3 (p : List YA) (q : ByteArray) (t2 : Int) (n7 : Int) (i8 : Int) : St := ⟨[.dat (.sl 70 (.pair (.int .i64) (.pair .str (.int .i64)))) p, .dat .str q, .dat (.int .i64) t2, .gone, .gone, .gone, .gone, .dat (.int .i64) n7, .dat (.int .i64) i8, .gone, .gone, .gone, .gone, .gone, .gone, .gone, .gone, .gone, .gone, .gone, .gone, .gone, .gone, .gone, .gone, .gone, .gone, .gone, .gone, .gone, .gone, .gone, .gone, .gone, .gone, .gone, .gone, .gone, .gone], []⟩
def QM.con : Con := { ps := [(.val, (.sl 70 (.pair (.int .i64) (.pair .str (.int .i64))))), (.val, .str), (.val, (.int .i64))], rs := [(.val, .bool)], F := fun x => QM.f x.1 x.2.1 x.2.2 }
def QM.cs : List (FuncId × Con) := [(93, QA.con), (160, QZ.con)]
def QM.E : Env := envOf tab QM.cs 0 false
def QM.keep (i : Nat) : List Nat := if i = 3 then [0, 1, 2, 7, 8] else []
def QM.at3 (n : Nat) (x : YD × ByteArray × Int) : Code × (Ex → St → Option (Bool)) := ctx QM.E QM.keep n [.snd, .snd, .fst, .snd, .blk] (codeOf Tryz.f144) (kEnd QM.E Tryz.f144 QM.con x)
def QM.LN3 (n : Nat) (x : YD × ByteArray × Int) : Nat → St → Option (Bool) := loopN (exec QM.E QM.keep n (bodyOf (QM.at3 n x).1)) (St.norm 0 (QM.keep 3)) (QM.at3 n x).2
set_option maxRecDepth 100000 in
theorem QM.lem3 (n : Nat) (x : YD × ByteArray × Int) : ∀ (k : Nat) (p : List YA) (q : ByteArray) (t2 : Int) (n7 : Int) (i8 : Int), QM.LN3 n x k (QM.st3 p q t2 n7 i8) = QM.l3 n k p q t2 n7 i8 := by
 intro k
 induction k with
 | zero => intro p q t2 n7 i8; rfl
 | succ k ih =>
  intro p q t2 n7 i8
  have h : QM.LN3 n x (k + 1) (QM.st3 p q t2 n7 i8) = QM.g3 (fun p q t2 n7 i8 => QM.LN3 n x k (QM.st3 p q t2 n7 i8)) p q t2 n7 i8 := by kernel_rfl
  rw [h]
  simp only [ih]
  rfl
set_option maxRecDepth 100000 in
theorem QM.body (n : Nat) (x : YD × ByteArray × Int) : bodyF QM.E QM.keep n Tryz.f144 QM.con x = QM.fn n x.1 x.2.1 x.2.2 := by
 have h : bodyF QM.E QM.keep n Tryz.f144 QM.con x = QM.top (fun p q t2 n7 i8 => QM.LN3 n x n (QM.st3 p q t2 n7 i8)) x.1 x.2.1 x.2.2 := by kernel_rfl
 rw [h]
 simp only [QM.lem3]
 rfl
set_option maxRecDepth 100000 in
theorem QM.good : Good Tryz.prog 144 QM.con :=
 good_of tabok (cs := QM.cs) ⟨QA.good, QZ.good, trivial⟩ 0 false (fn := Tryz.f144) Tryz.func144 rfl (by decide) (by simp [QM.con]) QM.keep NN (fun _ => rfl) (fun x => QM.body NN x)
end
end Go.Ev.Tryz

namespace Go.Ev.Tryz
open Go.Proofs Go.Pl
set_option linter.unusedVariables false
noncomputable section
def Qa0.con : Con := { ps := [(.val, (.sl 70 (.pair (.int .i64) (.pair .str (.int .i64))))), (.val, .str), (.val, (.int .i64))], rs := [(.val, .bool), (.val, (.int .i64))], F := fun x => Qa0.f x.1 x.2.1 x.2.2 }
def Qa0.cs : List (FuncId × Con) := [(143, Qa4.con), (144, QM.con)]
def Qa0.E : Env := envOf tab Qa0.cs 0 false
def Qa0.keep (i : Nat) : List Nat := []
set_option maxRecDepth 100000 in
theorem Qa0.body (n : Nat) (x : YD × ByteArray × Int) : bodyF Qa0.E Qa0.keep n Tryz.f121 Qa0.con x = Qa0.fn n x.1 x.2.1 x.2.2 := by
 have h : bodyF Qa0.E Qa0.keep n Tryz.f121 Qa0.con x = Qa0.top x.1 x.2.1 x.2.2 := by kernel_rfl
 exact h
set_option maxRecDepth 100000 in
theorem Qa0.good : Good Tryz.prog 121 Qa0.con :=
 good_of tabok (cs := Qa0.cs) ⟨Qa4.good, QM.good, trivial⟩ 0 false (fn := Tryz.f121) Tryz.func121 rfl (by decide) (by simp [Qa0.con]) Qa0.keep NN (fun _ => rfl) (fun x => Qa0.body NN x)
end
end Go.Ev.Tryz

namespace Go.Ev.Tryz
open Go.Proofs Go.Pl
set_option linter.unusedVariables false
noncomputable section
def Qa7.con : Con := { ps := [(.val, (.sl 72 (.pair (.int .i64) (.int .i64)))), (.val, (.int .i64))], rs := [(.val, (.int .i64))], F := fun x => Qa7.f x.1 x.2 }
def Qa7.cs : List (FuncId × Con) := [(58, Qr.con), (92, Qab.con)]
def Qa7.E : Env := envOf tab Qa7.cs 0 false
def Qa7.keep (i : Nat) : List Nat := []
set_option maxRecDepth 100000 in
theorem Qa7.body (n : Nat) (x : YE × Int) : bodyF Qa7.E Qa7.keep n Tryz.f161 Qa7.con x = Qa7.fn n x.1 x.2 := by
 have h : bodyF Qa7.E Qa7.keep n Tryz.f161 Qa7.con x = Qa7.top x.1 x.2 := by kernel_rfl
 exact h
set_option maxRecDepth 100000 in
theorem Qa7.good : Good Tryz.prog 161 Qa7.con :=
 good_of tabok (cs := Qa7.cs) ⟨Qr.good, Qab.good, trivial⟩ 0 false (fn := Tryz.f161) Tryz.func161 rfl (by decide) (by simp [Qa7.con]) Qa7.keep NN (fun _ => rfl) (fun x => Qa7.body NN x)
end
end Go.Ev.Tryz

namespace Go.Ev.Tryz
open Go.Proofs Go.Pl
set_option linter.unusedVariables false
noncomputable section
def Qa2.con : Con := { ps := [(.val, (.pair .bool (.pair .bool (.pair .bool (.pair .bool (.pair .bool (.int .i64)))))))], rs := [(.val, (.pair .bool (.pair .bool (.pair .bool (.pair .bool (.pair .bool (.int .i64)))))))], F := fun x => Qa2.f x }
def Qa2.cs : List (FuncId × Con) := []
def Qa2.E : Env := envOf tab Qa2.cs 0 false
def Qa2.keep (i : Nat) : List Nat := []
set_option maxRecDepth 100000 in
theorem Qa2.body (n : Nat) (x : Bool × Bool × Bool × Bool × Bool × Int) : bodyF Qa2.E Qa2.keep n Tryz.f171 Qa2.con x = Qa2.fn n x := by
 have h : bodyF Qa2.E Qa2.keep n Tryz.f171 Qa2.con x = Qa2.top x := by kernel_rfl
 exact h
set_option maxRecDepth 100000 in
theorem Qa2.good : Good Tryz.prog 171 Qa2.con :=
 good_of tabok (cs := Qa2.cs) trivial 0 false (fn := Tryz.f171) Tryz.func171 rfl (by decide) (by simp [Qa2.con]) Qa2.keep NN (fun _ => rfl) (fun x => Qa2.body NN x)
end
end Go.Ev.Tryz

namespace Go.Ev.Tryz
open Go.Proofs Go.Pl
set_option linter.unusedVariables false
noncomputable section
def QaL.con : Con := { ps := [(.val, (.pair .bool (.pair .bool (.pair .bool (.pair .bool (.pair .bool (.int .i64))))))), (.val, (.int .i64))], rs := [(.val, (.pair .bool (.pair .bool (.pair .bool (.pair .bool (.pair .bool (.int .i64))))))), (.val, .bool)], F := fun x => QaL.f x.1 x.2 }
def QaL.cs : List (FuncId × Con) := [(171, Qa2.con)]
def QaL.E : Env := envOf tab QaL.cs 0 false
def QaL.keep (i : Nat) : List Nat := []
set_option maxRecDepth 100000 in
theorem QaL.body (n : Nat) (x : YB × Int) : bodyF QaL.E QaL.keep n Tryz.f169 QaL.con x = QaL.fn n x.1 x.2 := by
 have h : bodyF QaL.E QaL.keep n Tryz.f169 QaL.con x = QaL.top x.1 x.2 := by kernel_rfl
 exact h
set_option maxRecDepth 100000 in
theorem QaL.good : Good Tryz.prog 169 QaL.con :=
 good_of tabok (cs := QaL.cs) ⟨Qa2.good, trivial⟩ 0 false (fn := Tryz.f169) Tryz.func169 rfl (by decide) (by simp [QaL.con]) QaL.keep NN (fun _ => rfl) (fun x => QaL.body NN x)
end
end Go.Ev.Tryz

namespace Go.Ev.Tryz
open Go.Proofs Go.Pl
set_option linter.unusedVariables false
noncomputable section
def QH.st2 (k5 : Int) (c2 : Bool × Bool × Bool × Bool × Bool × Int) (v4a : Bool) (t : Bool) (s : Bool) (r : Bool) (p : Bool) (q : Int) : St := ⟨[.gone, .gone, .ptr 0 [], .gone, .ptr 1 [], .dat (.int .i64) k5, .gone, .gone, .gone, .gone, .gone, .gone, .gone, .gone, .gone, .gone, .gone, .gone, .gone, .gone, .gone], [.box 114 (.pair .bool (.pair .bool (.pair .bool (.pair .bool (.pair .bool (.int .i64)))))) (.dat (.pair .bool (.pair .bool (.pair .bool (.pair .bool (.pair .bool (.int .i64)))))) c2), .box 114 (.pair .bool (.pair .bool (.pair .bool (.pair .bool (.pair .bool (.int .i64)))))) (.pr (.dat .bool v4a) (.pr (.dat .bool t) (.pr (.dat .bool s) (.pr (.dat .bool r) (.pr (.dat .bool p) (.dat (.int .i64) q))))))]⟩
def QH.con : Con := { ps := [(.val, (.pair .bool (.pair .bool (.pair .bool (.pair .bool (.pair .bool (.int .i64))))))), (.val, (.int .i64))], rs := [(.val, (.pair .bool (.pair .bool (.pair .bool (.pair .bool (.pair .bool (.int .i64)))))))], F := fun x => QH.f x.1 x.2 }
def QH.cs : List (FuncId × Con) := [(169, QaL.con)]
def QH.E : Env := envOf tab QH.cs 0 false
def QH.keep (i : Nat) : List Nat := if i = 2 then [2, 4, 5] else []
def QH.at2 (n : Nat) (x : YB × Int) : Code × (Ex → St → Option (YB)) := ctx QH.E QH.keep n [.snd, .fst, .snd, .blk] (codeOf Tryz.f168) (kEnd QH.E Tryz.f168 QH.con x)
def QH.LN2 (n : Nat) (x : YB × Int) : Nat → St → Option (YB) := loopN (exec QH.E QH.keep n (bodyOf (QH.at2 n x).1)) (St.norm 0 (QH.keep 2)) (QH.at2 n x).2
set_option maxRecDepth 100000 in
theorem QH.lem2 (n : Nat) (x : YB × Int) : ∀ (k : Nat) (k5 : Int) (c2 : Bool × Bool × Bool × Bool × Bool × Int) (v4a : Bool) (t : Bool) (s : Bool) (r : Bool) (p : Bool) (q : Int), QH.LN2 n x k (QH.st2 k5 c2 v4a t s r p q) = QH.l2 n k k5 c2 v4a t s r p q := by
 intro k
 induction k with
 | zero => intro k5 c2 v4a t s r p q; rfl
 | succ k ih =>
  intro k5 c2 v4a t s r p q
  have h : QH.LN2 n x (k + 1) (QH.st2 k5 c2 v4a t s r p q) = QH.g2 (fun k5 c2 v4a t s r p q => QH.LN2 n x k (QH.st2 k5 c2 v4a t s r p q)) k5 c2 v4a t s r p q := by kernel_rfl
  rw [h]
  simp only [ih]
  rfl
set_option maxRecDepth 100000 in
theorem QH.body (n : Nat) (x : YB × Int) : bodyF QH.E QH.keep n Tryz.f168 QH.con x = QH.fn n x.1 x.2 := by
 have h : bodyF QH.E QH.keep n Tryz.f168 QH.con x = QH.top (fun k5 c2 v4a t s r p q => QH.LN2 n x n (QH.st2 k5 c2 v4a t s r p q)) x.1 x.2 := by kernel_rfl
 rw [h]
 simp only [QH.lem2]
 rfl
set_option maxRecDepth 100000 in
theorem QH.good : Good Tryz.prog 168 QH.con :=
 good_of tabok (cs := QH.cs) ⟨QaL.good, trivial⟩ 0 false (fn := Tryz.f168) Tryz.func168 rfl (by decide) (by simp [QH.con]) QH.keep NN (fun _ => rfl) (fun x => QH.body NN x)
end
end Go.Ev.Tryz

namespace Go.Ev.Tryz
open Go.Proofs Go.Pl
set_option linter.unusedVariables false
noncomputable section
def QN.st4 (s : List YC) (u : Int) (y : Int) (i9 : Int) (v4a : Bool) (w : Bool) (v : Bool) (t : Bool) (q : Bool) (r : Int) (c6 : Bool × Bool × Bool × Bool × Bool × Int) (p : List Int) : St := ⟨[.dat (.sl 72 (.pair (.int .i64) (.int .i64))) s, .dat (.int .i64) u, .gone, .gone, .ptr 0 [], .gone, .ptr 1 [], .dat (.int .i64) y, .ref 2, .dat (.int .i64) i9, .gone, .gone, .gone, .gone, .gone, .gone, .gone, .gone, .gone, .gone, .gone, .gone, .gone, .gone, .gone, .gone, .gone, .gone, .gone, .gone, .gone, .gone, .gone, .gone, .gone, .gone, .gone, .gone, .gone, .gone, .gone, .gone, .gone, .gone, .gone, .gone, .gone, .gone, .gone, .gone, .gone, .gone, .gone, .gone, .gone, .gone, .gone, .gone, .gone, .gone, .gone, .gone, .gone, .gone, .gone], [.box 114 (.pair .bool (.pair .bool (.pair .bool (.pair .bool (.pair .bool (.int .i64)))))) (.pr (.dat .bool v4a) (.pr (.dat .bool w) (.pr (.dat .bool v) (.pr (.dat .bool t) (.pr (.dat .bool q) (.dat (.int .i64) r)))))), .box 114 (.pair .bool (.pair .bool (.pair .bool (.pair .bool (.pair .bool (.int .i64)))))) (.dat (.pair .bool (.pair .bool (.pair .bool (.pair .bool (.pair .bool (.int .i64)))))) c6), .row 2 (.int .i64) p none]⟩
def QN.tr0 (L4 : YAD) (s : List YC) (u : Int) (i9 : Int) (v4a : Bool) (w : Bool) (v : Bool) (t : Bool) (q : Bool) (r : Int) (p : List Int) (r1 : YB) : Option YAC :=
 (QaL.f r1 ((s.getD (i9 : Int).toNat (0, 0)).2)).bind fun r2 =>
 if r2.2 = true then
  L4 s u ((s.getD (i9 : Int).toNat (0, 0)).1) (IntKind.i64.wrap (i9 + 1)) v4a w v t q r r2.1 p
 else if p.length + ([i9]).length < room 8 then
  L4 s u ((s.getD (i9 : Int).toNat (0, 0)).1) (IntKind.i64.wrap (i9 + 1)) v4a w v t q r r1 (p ++ ([i9]))
 else
  none
def QN.tr1 (L4 : YAD) (s : List YC) (u : Int) (i9 : Int) (v4a : Bool) (w : Bool) (v : Bool) (t : Bool) (q : Bool) (r : Int) (p : List Int) (r1 : YB) : Option YAC :=
 agree (
  QN.tr0 L4 s u i9 v4a w v t q r p r1
 ) (
  QN.tr0 L4 s u i9 v4a w v t q r p r1
 )
def QN.tr2 (L4 : YAD) (s : List YC) (u : Int) (i9 : Int) (v4a : Bool) (w : Bool) (v : Bool) (t : Bool) (q : Bool) (r : Int) (p : List Int) (r1 : YB) : Option YAC :=
 agree (
  QN.tr1 L4 s u i9 v4a w v t q r p r1
 ) (
  QN.tr0 L4 s u i9 v4a w v t q r p r1
 )
def QN.g4raw (L4 : YAD) (s : List YC) (u : Int) (y : Int) (i9 : Int) (v4a : Bool) (w : Bool) (v : Bool) (t : Bool) (q : Bool) (r : Int) (c6 : Bool × Bool × Bool × Bool × Bool × Int) (p : List Int) : Option YAC :=
 if (decide ((i9 : Int) < (s.length : Int))) = true then
  if (0 : Int) ≤ i9 ∧ (i9 : Int) < s.length then
   if (decide ((((s.getD (i9 : Int).toNat (0, 0)).1) : Int) ≤ u)) = true then
    if (0 : Int) ≤ i9 ∧ (i9 : Int) < s.length then
     (QH.f c6 (IntKind.i64.wrap (((s.getD (i9 : Int).toNat (0, 0)).1) - y))).bind fun r1 =>
     if (0 : Int) ≤ i9 ∧ (i9 : Int) < s.length then
      if (0 : Int) ≤ i9 ∧ (i9 : Int) < s.length then
       agree (
        QN.tr2 L4 s u i9 v4a w v t q r p r1
       ) (
        agree (
         QN.tr2 L4 s u i9 v4a w v t q r p r1
        ) (
         QN.tr1 L4 s u i9 v4a w v t q r p r1
        )
       )
      else
       none
     else
      none
    else
     none
   else
    (QH.f c6 (IntKind.i64.wrap (u - y))).bind fun r3 =>
    some (r3, p)
  else
   none
 else
  (QH.f c6 (IntKind.i64.wrap (u - y))).bind fun r4 =>
  some (r4, p)
theorem QN.g4raw_eq (L4 : YAD) (s : List YC) (u : Int) (y : Int) (i9 : Int) (v4a : Bool) (w : Bool) (v : Bool) (t : Bool) (q : Bool) (r : Int) (c6 : Bool × Bool × Bool × Bool × Bool × Int) (p : List Int) : QN.g4raw L4 s u y i9 v4a w v t q r c6 p = QN.g4 L4 s u y i9 v4a w v t q r c6 p := by
 unfold QN.g4raw QN.g4
 simp only [agree_self, QN.tr0, QN.tr1, QN.tr2]
def QN.con : Con := { ps := [(.val, (.sl 72 (.pair (.int .i64) (.int .i64)))), (.val, (.int .i64))], rs := [(.own, (.pair .bool (.pair .bool (.pair .bool (.pair .bool (.pair .bool (.int .i64))))))), (.own, (.sl 2 (.int .i64)))], F := fun x => QN.f x.1 x.2 }
def QN.cs : List (FuncId × Con) := [(168, QH.con), (169, QaL.con)]
def QN.E : Env := envOf tab QN.cs 0 false
def QN.keep (i : Nat) : List Nat := if i = 4 then [0, 1, 4, 6, 7, 8, 9, 200006] else []
def QN.at4 (n : Nat) (x : YE × Int) : Code × (Ex → St → Option (YAC)) := ctx QN.E QN.keep n [.snd, .snd, .snd, .fst, .snd, .blk] (codeOf Tryz.f162) (kEnd QN.E Tryz.f162 QN.con x)
def QN.LN4 (n : Nat) (x : YE × Int) : Nat → St → Option (YAC) := loopN (exec QN.E QN.keep n (bodyOf (QN.at4 n x).1)) (St.norm 0 (QN.keep 4)) (QN.at4 n x).2
set_option maxRecDepth 100000 in
theorem QN.lem4 (n : Nat) (x : YE × Int) : ∀ (k : Nat) (s : List YC) (u : Int) (y : Int) (i9 : Int) (v4a : Bool) (w : Bool) (v : Bool) (t : Bool) (q : Bool) (r : Int) (c6 : Bool × Bool × Bool × Bool × Bool × Int) (p : List Int), QN.LN4 n x k (QN.st4 s u y i9 v4a w v t q r c6 p) = QN.l4 n k s u y i9 v4a w v t q r c6 p := by
 intro k
 induction k with
 | zero => intro s u y i9 v4a w v t q r c6 p; rfl
 | succ k ih =>
  intro s u y i9 v4a w v t q r c6 p
  have h : QN.LN4 n x (k + 1) (QN.st4 s u y i9 v4a w v t q r c6 p) = QN.g4raw (fun s u y i9 v4a w v t q r c6 p => QN.LN4 n x k (QN.st4 s u y i9 v4a w v t q r c6 p)) s u y i9 v4a w v t q r c6 p := by kernel_rfl
  rw [QN.g4raw_eq] at h
  rw [h]
  simp only [ih]
  rfl
set_option maxRecDepth 100000 in
theorem QN.body (n : Nat) (x : YE × Int) : bodyF QN.E QN.keep n Tryz.f162 QN.con x = QN.fn n x.1 x.2 := by
 have h : bodyF QN.E QN.keep n Tryz.f162 QN.con x = QN.top (fun s u y i9 v4a w v t q r c6 p => QN.LN4 n x n (QN.st4 s u y i9 v4a w v t q r c6 p)) x.1 x.2 := by kernel_rfl
 rw [h]
 simp only [QN.lem4]
 rfl
set_option maxRecDepth 100000 in
theorem QN.good : Good Tryz.prog 162 QN.con :=
 good_of tabok (cs := QN.cs) ⟨QH.good, QaL.good, trivial⟩ 0 false (fn := Tryz.f162) Tryz.func162 rfl (by decide) (by simp [QN.con]) QN.keep NN (fun _ => rfl) (fun x => QN.body NN x)
end
end Go.Ev.Tryz

namespace Go.Ev.Tryz
open Go.Proofs Go.Pl
set_option linter.unusedVariables false
noncomputable section
def Qaq.con : Con := { ps := [(.val, (.sl 72 (.pair (.int .i64) (.int .i64)))), (.val, (.int .i64))], rs := [(.val, (.pair .bool (.pair .bool (.pair .bool (.pair .bool (.pair .bool (.int .i64))))))), (.val, (.int .i64))], F := fun x => Qaq.f x.1 x.2 }
def Qaq.cs : List (FuncId × Con) := [(161, Qa7.con), (162, QN.con)]
def Qaq.E : Env := envOf tab Qaq.cs 0 false
def Qaq.keep (i : Nat) : List Nat := []
set_option maxRecDepth 100000 in
theorem Qaq.body (n : Nat) (x : YE × Int) : bodyF Qaq.E Qaq.keep n Tryz.f145 Qaq.con x = Qaq.fn n x.1 x.2 := by
 have h : bodyF Qaq.E Qaq.keep n Tryz.f145 Qaq.con x = Qaq.top x.1 x.2 := by kernel_rfl
 exact h
set_option maxRecDepth 100000 in
theorem Qaq.good : Good Tryz.prog 145 Qaq.con :=
 good_of tabok (cs := Qaq.cs) ⟨Qa7.good, QN.good, trivial⟩ 0 false (fn := Tryz.f145) Tryz.func145 rfl (by decide) (by simp [Qaq.con]) Qaq.keep NN (fun _ => rfl) (fun x => Qaq.body NN x)
end
end Go.Ev.Tryz

namespace Go.Ev.Tryz
open Go.Proofs Go.Pl
set_option linter.unusedVariables false
noncomputable section
def QaR.con : Con := { ps := [(.val, (.pair (.sl 70 (.pair (.int .i64) (.pair .str (.int .i64)))) (.pair (.sl 72 (.pair (.int .i64) (.int .i64))) (.sl 74 (.pair (.int .i64) (.pair .str (.int .i64))))))), (.val, (.int .i64))], rs := [(.val, .str), (.val, (.int .i64))], F := fun x => QaR.f x.1 x.2 }
def QaR.cs : List (FuncId × Con) := [(145, Qaq.con)]
def QaR.E : Env := envOf tab QaR.cs 0 false
def QaR.keep (i : Nat) : List Nat := []
set_option maxRecDepth 100000 in
theorem QaR.body (n : Nat) (x : YG × Int) : bodyF QaR.E QaR.keep n Tryz.f122 QaR.con x = QaR.fn n x.1 x.2 := by
 have h : bodyF QaR.E QaR.keep n Tryz.f122 QaR.con x = QaR.top x.1 x.2 := by kernel_rfl
 exact h
set_option maxRecDepth 100000 in
theorem QaR.good : Good Tryz.prog 122 QaR.con :=
 good_of tabok (cs := QaR.cs) ⟨Qaq.good, trivial⟩ 0 false (fn := Tryz.f122) Tryz.func122 rfl (by decide) (by simp [QaR.con]) QaR.keep NN (fun _ => rfl) (fun x => QaR.body NN x)
end
end Go.Ev.Tryz

namespace Go.Ev.Tryz
open Go.Proofs Go.Pl
set_option linter.unusedVariables false
noncomputable section
def Qg.st9 (p : List Int) (s : List YC) (q : List YA) (r : List ByteArray) (i10 : Int) (v : Int) (u : Bool) (k15 : Int) (t : List Int) : St := ⟨[.dat (.sl 2 (.int .i64)) p, .dat (.sl 72 (.pair (.int .i64) (.int .i64))) s, .dat (.sl 70 (.pair (.int .i64) (.pair .str (.int .i64)))) q, .dat (.sl 9 .str) r, .gone, .gone, .gone, .gone, .gone, .ref 0, .dat (.int .i64) i10, .dat (.int .i64) v, .gone, .gone, .dat .bool u, .dat (.int .i64) k15, .gone, .gone, .gone, .gone, .gone, .gone, .gone, .gone, .gone, .gone, .gone, .gone, .gone, .gone, .gone, .gone, .gone, .gone, .gone, .gone, .gone, .gone, .gone, .gone, .gone, .gone, .gone, .gone, .gone, .gone, .gone, .gone, .gone, .gone, .gone, .gone, .gone, .gone, .gone, .gone, .gone, .gone, .gone, .gone, .gone, .gone, .gone, .gone, .gone, .gone, .gone], [.row 2 (.int .i64) t none]⟩
def Qg.st3 (p : List Int) (s : List YC) (q : List YA) (r : List ByteArray) (i10 : Int) (t : List Int) : St := ⟨[.dat (.sl 2 (.int .i64)) p, .dat (.sl 72 (.pair (.int .i64) (.int .i64))) s, .dat (.sl 70 (.pair (.int .i64) (.pair .str (.int .i64)))) q, .dat (.sl 9 .str) r, .gone, .gone, .gone, .gone, .gone, .ref 0, .dat (.int .i64) i10, .gone, .gone, .gone, .gone, .gone, .gone, .gone, .gone, .gone, .gone, .gone, .gone, .gone, .gone, .gone, .gone, .gone, .gone, .gone, .gone, .gone, .gone, .gone, .gone, .gone, .gone, .gone, .gone, .gone, .gone, .gone, .gone, .gone, .gone, .gone, .gone, .gone, .gone, .gone, .gone, .gone, .gone, .gone, .gone, .gone, .gone, .gone, .gone, .gone, .gone, .gone, .gone, .gone, .gone, .gone, .gone], [.row 2 (.int .i64) t none]⟩
def Qg.con : Con := { ps := [(.val, (.sl 2 (.int .i64))), (.val, (.sl 72 (.pair (.int .i64) (.int .i64)))), (.val, (.sl 70 (.pair (.int .i64) (.pair .str (.int .i64))))), (.val, (.sl 9 .str))], rs := [(.own, (.sl 2 (.int .i64)))], F := fun x => Qg.f x.1 x.2.1 x.2.2.1 x.2.2.2 }
def Qg.cs : List (FuncId × Con) := [(144, QM.con), (162, QN.con)]
def Qg.E : Env := envOf tab Qg.cs 0 false
def Qg.keep (i : Nat) : List Nat := if i = 9 then [0, 1, 2, 3, 9, 10, 11, 14, 15] else if i = 3 then [0, 1, 2, 3, 9, 10] else []
def Qg.at9 (n : Nat) (x : List Int × YE × YD × List ByteArray) (M3 : St → Option (YM)) : Code × (Ex → St → Option (YM)) := ctx Qg.E Qg.keep n [.snd, .snd, .fst, .snd, .blk, .rd M3, .snd, .fst, .blk, .snd, .snd, .snd, .fst, .snd, .blk] (codeOf Tryz.f147) (kEnd Qg.E Tryz.f147 Qg.con x)
def Qg.LN9 (n : Nat) (x : List Int × YE × YD × List ByteArray) (M3 : St → Option (YM)) : Nat → St → Option (YM) := loopN (exec Qg.E Qg.keep n (bodyOf (Qg.at9 n x M3).1)) (St.norm 0 (Qg.keep 9)) (Qg.at9 n x M3).2
def Qg.at3 (n : Nat) (x : List Int × YE × YD × List ByteArray) : Code × (Ex → St → Option (YM)) := ctx Qg.E Qg.keep n [.snd, .snd, .fst, .snd, .blk] (codeOf Tryz.f147) (kEnd Qg.E Tryz.f147 Qg.con x)
def Qg.LN3 (n : Nat) (x : List Int × YE × YD × List ByteArray) : Nat → St → Option (YM) := loopN (exec Qg.E Qg.keep n (bodyOf (Qg.at3 n x).1)) (St.norm 0 (Qg.keep 3)) (Qg.at3 n x).2
set_option maxRecDepth 100000 in
theorem Qg.lem9 (n : Nat) (x : List Int × YE × YD × List ByteArray) (M3 : St → Option (YM)) : ∀ (k : Nat) (p : List Int) (s : List YC) (q : List YA) (r : List ByteArray) (i10 : Int) (v : Int) (u : Bool) (k15 : Int) (t : List Int), Qg.LN9 n x M3 k (Qg.st9 p s q r i10 v u k15 t) = Qg.l9 n (fun p s q r i10 t => M3 (Qg.st3 p s q r i10 t)) k p s q r i10 v u k15 t := by
 intro k
 induction k with
 | zero => intro p s q r i10 v u k15 t; rfl
 | succ k ih =>
  intro p s q r i10 v u k15 t
  have h : Qg.LN9 n x M3 (k + 1) (Qg.st9 p s q r i10 v u k15 t) = Qg.g9 (fun p s q r i10 t => M3 (Qg.st3 p s q r i10 t)) (fun p s q r i10 v u k15 t => Qg.LN9 n x M3 k (Qg.st9 p s q r i10 v u k15 t)) p s q r i10 v u k15 t := by kernel_rfl
  rw [h]
  simp only [ih]
  rfl
set_option maxRecDepth 100000 in
theorem Qg.lem3 (n : Nat) (x : List Int × YE × YD × List ByteArray) : ∀ (k : Nat) (p : List Int) (s : List YC) (q : List YA) (r : List ByteArray) (i10 : Int) (t : List Int), Qg.LN3 n x k (Qg.st3 p s q r i10 t) = Qg.l3 n k p s q r i10 t := by
 intro k
 induction k with
 | zero => intro p s q r i10 t; rfl
 | succ k ih =>
  intro p s q r i10 t
  have h : Qg.LN3 n x (k + 1) (Qg.st3 p s q r i10 t) = Qg.g3 (fun p s q r i10 v u k15 t => Qg.LN9 n x (Qg.LN3 n x k) n (Qg.st9 p s q r i10 v u k15 t)) (fun p s q r i10 t => Qg.LN3 n x k (Qg.st3 p s q r i10 t)) p s q r i10 t := by kernel_rfl
  rw [h]
  simp only [ih, Qg.lem9]
  rfl
set_option maxRecDepth 100000 in
theorem Qg.body (n : Nat) (x : List Int × YE × YD × List ByteArray) : bodyF Qg.E Qg.keep n Tryz.f147 Qg.con x = Qg.fn n x.1 x.2.1 x.2.2.1 x.2.2.2 := by
 have h : bodyF Qg.E Qg.keep n Tryz.f147 Qg.con x = Qg.top (fun p s q r i10 t => Qg.LN3 n x n (Qg.st3 p s q r i10 t)) x.1 x.2.1 x.2.2.1 x.2.2.2 := by kernel_rfl
 rw [h]
 simp only [Qg.lem3]
 rfl
set_option maxRecDepth 100000 in
theorem Qg.good : Good Tryz.prog 147 Qg.con :=
 good_of tabok (cs := Qg.cs) ⟨QM.good, QN.good, trivial⟩ 0 false (fn := Tryz.f147) Tryz.func147 rfl (by decide) (by simp [Qg.con]) Qg.keep NN (fun _ => rfl) (fun x => Qg.body NN x)
end
end Go.Ev.Tryz

namespace Go.Ev.Tryz
open Go.Proofs Go.Pl
set_option linter.unusedVariables false
noncomputable section
def Q2.st5 (t1 : Int) (i7 : Int) (d2 : YD × YE × List YA) (p : List ByteArray) : St := ⟨[.gone, .dat (.int .i64) t1, .ptr 0 [], .gone, .gone, .gone, .ref 1, .dat (.int .i64) i7, .gone, .gone, .gone, .gone, .gone, .gone, .gone, .gone, .gone, .gone, .gone, .gone, .gone, .gone, .gone, .gone, .gone, .gone, .gone, .gone, .gone, .gone, .gone, .gone, .gone, .gone, .gone, .gone, .gone, .gone, .gone, .gone, .gone, .gone], [.box 35 (.pair (.sl 70 (.pair (.int .i64) (.pair .str (.int .i64)))) (.pair (.sl 72 (.pair (.int .i64) (.int .i64))) (.sl 74 (.pair (.int .i64) (.pair .str (.int .i64)))))) (.dat (.pair (.sl 70 (.pair (.int .i64) (.pair .str (.int .i64)))) (.pair (.sl 72 (.pair (.int .i64) (.int .i64))) (.sl 74 (.pair (.int .i64) (.pair .str (.int .i64)))))) d2), .row 9 .str p none]⟩
def Q2.con : Con := { ps := [(.val, (.pair (.sl 70 (.pair (.int .i64) (.pair .str (.int .i64)))) (.pair (.sl 72 (.pair (.int .i64) (.int .i64))) (.sl 74 (.pair (.int .i64) (.pair .str (.int .i64))))))), (.val, (.int .i64))], rs := [(.val, .str), (.val, (.int .i64))], F := fun x => Q2.f x.1 x.2 }
def Q2.cs : List (FuncId × Con) := [(68, (Qe.con (fun a0 => Qe.f a0))), (90, Qaj.con), (146, Qm.con), (147, Qg.con)]
def Q2.E : Env := envOf tab Q2.cs 0 false
def Q2.keep (i : Nat) : List Nat := if i = 5 then [1, 2, 6, 7] else []
def Q2.at5 (n : Nat) (x : YG × Int) : Code × (Ex → St → Option (YS)) := ctx Q2.E Q2.keep n [.snd, .snd, .snd, .fst, .snd, .blk] (codeOf Tryz.f123) (kEnd Q2.E Tryz.f123 Q2.con x)
def Q2.LN5 (n : Nat) (x : YG × Int) : Nat → St → Option (YS) := loopN (exec Q2.E Q2.keep n (bodyOf (Q2.at5 n x).1)) (St.norm 0 (Q2.keep 5)) (Q2.at5 n x).2
set_option maxRecDepth 100000 in
theorem Q2.lem5 (n : Nat) (x : YG × Int) : ∀ (k : Nat) (t1 : Int) (i7 : Int) (d2 : YD × YE × List YA) (p : List ByteArray), Q2.LN5 n x k (Q2.st5 t1 i7 d2 p) = Q2.l5 n k t1 i7 d2 p := by
 intro k
 induction k with
 | zero => intro t1 i7 d2 p; rfl
 | succ k ih =>
  intro t1 i7 d2 p
  have h : Q2.LN5 n x (k + 1) (Q2.st5 t1 i7 d2 p) = Q2.g5 (fun t1 i7 d2 p => Q2.LN5 n x k (Q2.st5 t1 i7 d2 p)) t1 i7 d2 p := by kernel_rfl
  rw [h]
  simp only [ih]
  rfl
set_option maxRecDepth 100000 in
theorem Q2.body (n : Nat) (x : YG × Int) : bodyF Q2.E Q2.keep n Tryz.f123 Q2.con x = Q2.fn n x.1 x.2 := by
 have h : bodyF Q2.E Q2.keep n Tryz.f123 Q2.con x = Q2.top (fun t1 i7 d2 p => Q2.LN5 n x n (Q2.st5 t1 i7 d2 p)) x.1 x.2 := by kernel_rfl
 rw [h]
 simp only [Q2.lem5]
 rfl
set_option maxRecDepth 100000 in
theorem Q2.good : Good Tryz.prog 123 Q2.con :=
 good_of tabok (cs := Q2.cs) ⟨Qe.good, Qaj.good, Qm.good, Qg.good, trivial⟩ 0 false (fn := Tryz.f123) Tryz.func123 rfl (by decide) (by simp [Q2.con]) Q2.keep NN (fun _ => rfl) (fun x => Q2.body NN x)
end
end Go.Ev.Tryz

namespace Go.Ev.Tryz
open Go.Proofs Go.Pl
set_option linter.unusedVariables false
noncomputable section
def Qay.con : Con := { ps := [(.val, (.sl 74 (.pair (.int .i64) (.pair .str (.int .i64))))), (.val, .str)], rs := [(.val, (.int .i64)), (.val, (.int .i64))], F := fun x => Qay.f x.1 x.2 }
def Qay.cs : List (FuncId × Con) := [(59, Qj.con), (91, QP.con), (94, QK.con)]
def Qay.E : Env := envOf tab Qay.cs 0 false
def Qay.keep (i : Nat) : List Nat := []
set_option maxRecDepth 100000 in
theorem Qay.body (n : Nat) (x : YD × ByteArray) : bodyF Qay.E Qay.keep n Tryz.f124 Qay.con x = Qay.fn n x.1 x.2 := by
 have h : bodyF Qay.E Qay.keep n Tryz.f124 Qay.con x = Qay.top x.1 x.2 := by kernel_rfl
 exact h
set_option maxRecDepth 100000 in
theorem Qay.good : Good Tryz.prog 124 Qay.con :=
 good_of tabok (cs := Qay.cs) ⟨Qj.good, QP.good, QK.good, trivial⟩ 0 false (fn := Tryz.f124) Tryz.func124 rfl (by decide) (by simp [Qay.con]) Qay.keep NN (fun _ => rfl) (fun x => Qay.body NN x)
end
end Go.Ev.Tryz

namespace Go.Ev.Tryz
open Go.Proofs Go.Pl
set_option linter.unusedVariables false
noncomputable section
def QY.st3 (p : List ByteArray) (by1 : ByteArray) (q : ByteArray) (i6 : Int) : St := ⟨[.dat (.sl 9 .str) p, .dat .str by1, .gone, .gone, .gone, .dat .str q, .dat (.int .i64) i6, .gone, .gone, .gone, .gone, .gone, .gone, .gone, .gone, .gone, .gone, .gone, .gone, .gone, .gone, .gone, .gone, .gone, .gone], []⟩
def QY.con : Con := { ps := [(.val, (.sl 9 .str)), (.val, .str)], rs := [(.val, .str)], F := fun x => QY.f x.1 x.2 }
def QY.cs : List (FuncId × Con) := []
def QY.E : Env := envOf tab QY.cs 0 false
def QY.keep (i : Nat) : List Nat := if i = 3 then [0, 1, 5, 6] else []
def QY.at3 (n : Nat) (x : List ByteArray × ByteArray) : Code × (Ex → St → Option (ByteArray)) := ctx QY.E QY.keep n [.snd, .snd, .fst, .snd, .blk] (codeOf Tryz.f126) (kEnd QY.E Tryz.f126 QY.con x)
def QY.LN3 (n : Nat) (x : List ByteArray × ByteArray) : Nat → St → Option (ByteArray) := loopN (exec QY.E QY.keep n (bodyOf (QY.at3 n x).1)) (St.norm 0 (QY.keep 3)) (QY.at3 n x).2
set_option maxRecDepth 100000 in
theorem QY.lem3 (n : Nat) (x : List ByteArray × ByteArray) : ∀ (k : Nat) (p : List ByteArray) (by1 : ByteArray) (q : ByteArray) (i6 : Int), QY.LN3 n x k (QY.st3 p by1 q i6) = QY.l3 n k p by1 q i6 := by
 intro k
 induction k with
 | zero => intro p by1 q i6; rfl
 | succ k ih =>
  intro p by1 q i6
  have h : QY.LN3 n x (k + 1) (QY.st3 p by1 q i6) = QY.g3 (fun p by1 q i6 => QY.LN3 n x k (QY.st3 p by1 q i6)) p by1 q i6 := by kernel_rfl
  rw [h]
  simp only [ih]
  rfl
set_option maxRecDepth 100000 in
theorem QY.body (n : Nat) (x : List ByteArray × ByteArray) : bodyF QY.E QY.keep n Tryz.f126 QY.con x = QY.fn n x.1 x.2 := by
 have h : bodyF QY.E QY.keep n Tryz.f126 QY.con x = QY.top (fun p by1 q i6 => QY.LN3 n x n (QY.st3 p by1 q i6)) x.1 x.2 := by kernel_rfl
 rw [h]
 simp only [QY.lem3]
 rfl
set_option maxRecDepth 100000 in
theorem QY.good : Good Tryz.prog 126 QY.con :=
 good_of tabok (cs := QY.cs) trivial 0 false (fn := Tryz.f126) Tryz.func126 rfl (by decide) (by simp [QY.con]) QY.keep NN (fun _ => rfl) (fun x => QY.body NN x)
end
end Go.Ev.Tryz

namespace Go.Ev.Tryz
open Go.Proofs Go.Pl
set_option linter.unusedVariables false
noncomputable section
def Qa6.con : Con := { ps := [(.val, (.int .i64)), (.val, (.int .i64)), (.val, (.int .i64)), (.val, (.int .i64))], rs := [(.val, (.int .i64))], F := fun x => Qa6.f x.1 x.2.1 x.2.2.1 x.2.2.2 }
def Qa6.cs : List (FuncId × Con) := [(92, Qab.con)]
def Qa6.E : Env := envOf tab Qa6.cs 0 false
def Qa6.keep (i : Nat) : List Nat := []
set_option maxRecDepth 100000 in
theorem Qa6.body (n : Nat) (x : Int × Int × Int × Int) : bodyF Qa6.E Qa6.keep n Tryz.f148 Qa6.con x = Qa6.fn n x.1 x.2.1 x.2.2.1 x.2.2.2 := by
 have h : bodyF Qa6.E Qa6.keep n Tryz.f148 Qa6.con x = Qa6.top x.1 x.2.1 x.2.2.1 x.2.2.2 := by kernel_rfl
 exact h
set_option maxRecDepth 100000 in
theorem Qa6.good : Good Tryz.prog 148 Qa6.con :=
 good_of tabok (cs := Qa6.cs) ⟨Qab.good, trivial⟩ 0 false (fn := Tryz.f148) Tryz.func148 rfl (by decide) (by simp [Qa6.con]) Qa6.keep NN (fun _ => rfl) (fun x => Qa6.body NN x)
end
end Go.Ev.Tryz

namespace Go.Ev.Tryz
open Go.Proofs Go.Pl
set_option linter.unusedVariables false
noncomputable section
def QaU.con : Con := { ps := [(.val, (.int .i64)), (.val, (.int .i64))], rs := [(.val, (.int .i64))], F := fun x => QaU.f x.1 x.2 }
def QaU.cs : List (FuncId × Con) := []
def QaU.E : Env := envOf tab QaU.cs 0 false
def QaU.keep (i : Nat) : List Nat := []
set_option maxRecDepth 100000 in
theorem QaU.body (n : Nat) (x : Int × Int) : bodyF QaU.E QaU.keep n Tryz.f170 QaU.con x = QaU.fn n x.1 x.2 := by
 have h : bodyF QaU.E QaU.keep n Tryz.f170 QaU.con x = QaU.top x.1 x.2 := by kernel_rfl
 exact h
set_option maxRecDepth 100000 in
theorem QaU.good : Good Tryz.prog 170 QaU.con :=
 good_of tabok (cs := QaU.cs) trivial 0 false (fn := Tryz.f170) Tryz.func170 rfl (by decide) (by simp [QaU.con]) QaU.keep NN (fun _ => rfl) (fun x => QaU.body NN x)
end
end Go.Ev.Tryz

namespace Go.Ev.Tryz
open Go.Proofs Go.Pl
set_option linter.unusedVariables false
noncomputable section
def Qau.con : Con := { ps := [(.val, (.int .i64)), (.val, (.int .i64))], rs := [(.val, (.int .i64))], F := fun x => Qau.f x.1 x.2 }
def Qau.cs : List (FuncId × Con) := [(170, QaU.con)]
def Qau.E : Env := envOf tab Qau.cs 0 false
def Qau.keep (i : Nat) : List Nat := []
set_option maxRecDepth 100000 in
theorem Qau.body (n : Nat) (x : Int × Int) : bodyF Qau.E Qau.keep n Tryz.f163 Qau.con x = Qau.fn n x.1 x.2 := by
 have h : bodyF Qau.E Qau.keep n Tryz.f163 Qau.con x = Qau.top x.1 x.2 := by kernel_rfl
 exact h
set_option maxRecDepth 100000 in
theorem Qau.good : Good Tryz.prog 163 Qau.con :=
 good_of tabok (cs := Qau.cs) ⟨QaU.good, trivial⟩ 0 false (fn := Tryz.f163) Tryz.func163 rfl (by decide) (by simp [Qau.con]) Qau.keep NN (fun _ => rfl) (fun x => Qau.body NN x)
end
end Go.Ev.Tryz

namespace Go.Ev.Tryz
open Go.Proofs Go.Pl
set_option linter.unusedVariables false
noncomputable section
def Q5.st3 (up0 : Int) (t4 : Int) (p : Int) : St := ⟨[.dat (.int .i64) up0, .gone, .gone, .gone, .dat (.int .i64) t4, .dat (.int .i64) p, .gone, .gone, .gone, .gone, .gone, .gone, .gone, .gone, .gone, .gone, .gone, .gone, .gone, .gone, .gone, .gone, .gone, .gone, .gone, .gone, .gone, .gone, .gone, .gone, .gone, .gone, .gone, .gone, .gone, .gone, .gone, .gone], []⟩
def Q5.con : Con := { ps := [(.val, (.int .i64))], rs := [(.val, (.int .i64)), (.val, (.int .i64))], F := fun x => Q5.f x }
def Q5.cs : List (FuncId × Con) := [(163, Qau.con)]
def Q5.E : Env := envOf tab Q5.cs 0 false
def Q5.keep (i : Nat) : List Nat := if i = 3 then [0, 4, 5] else []
def Q5.at3 (n : Nat) (x : Int) : Code × (Ex → St → Option (YC)) := ctx Q5.E Q5.keep n [.snd, .snd, .snd, .fst, .blk] (codeOf Tryz.f149) (kEnd Q5.E Tryz.f149 Q5.con x)
def Q5.LN3 (n : Nat) (x : Int) : Nat → St → Option (YC) := loopN (exec Q5.E Q5.keep n (bodyOf (Q5.at3 n x).1)) (St.norm 0 (Q5.keep 3)) (Q5.at3 n x).2
set_option maxRecDepth 100000 in
theorem Q5.lem3 (n : Nat) (x : Int) : ∀ (k : Nat) (up0 : Int) (t4 : Int) (p : Int), Q5.LN3 n x k (Q5.st3 up0 t4 p) = Q5.l3 n k up0 t4 p := by
 intro k
 induction k with
 | zero => intro up0 t4 p; rfl
 | succ k ih =>
  intro up0 t4 p
  have h : Q5.LN3 n x (k + 1) (Q5.st3 up0 t4 p) = Q5.g3 (fun up0 t4 p => Q5.LN3 n x k (Q5.st3 up0 t4 p)) up0 t4 p := by kernel_rfl
  rw [h]
  simp only [ih]
  rfl
set_option maxRecDepth 100000 in
theorem Q5.body (n : Nat) (x : Int) : bodyF Q5.E Q5.keep n Tryz.f149 Q5.con x = Q5.fn n x := by
 have h : bodyF Q5.E Q5.keep n Tryz.f149 Q5.con x = Q5.top (fun up0 t4 p => Q5.LN3 n x n (Q5.st3 up0 t4 p)) x := by kernel_rfl
 rw [h]
 simp only [Q5.lem3]
 rfl
set_option maxRecDepth 100000 in
theorem Q5.good : Good Tryz.prog 149 Q5.con :=
 good_of tabok (cs := Q5.cs) ⟨Qau.good, trivial⟩ 0 false (fn := Tryz.f149) Tryz.func149 rfl (by decide) (by simp [Q5.con]) Q5.keep NN (fun _ => rfl) (fun x => Q5.body NN x)
end
end Go.Ev.Tryz

namespace Go.Ev.Tryz
open Go.Proofs Go.Pl
set_option linter.unusedVariables false
noncomputable section
def Qba.con : Con := { ps := [(.val, (.int .i64))], rs := [(.val, (.int .i64)), (.val, (.int .i64)), (.val, (.int .i64))], F := fun x => Qba.f x }
def Qba.cs : List (FuncId × Con) := [(148, Qa6.con), (149, Q5.con)]
def Qba.E : Env := envOf tab Qba.cs 0 false
def Qba.keep (i : Nat) : List Nat := []
set_option maxRecDepth 100000 in
theorem Qba.body (n : Nat) (x : Int) : bodyF Qba.E Qba.keep n Tryz.f127 Qba.con x = Qba.fn n x := by
 have h : bodyF Qba.E Qba.keep n Tryz.f127 Qba.con x = Qba.top x := by kernel_rfl
 exact h
set_option maxRecDepth 100000 in
theorem Qba.good : Good Tryz.prog 127 Qba.con :=
 good_of tabok (cs := Qba.cs) ⟨Qa6.good, Q5.good, trivial⟩ 0 false (fn := Tryz.f127) Tryz.func127 rfl (by decide) (by simp [Qba.con]) Qba.keep NN (fun _ => rfl) (fun x => Qba.body NN x)
end
end Go.Ev.Tryz

namespace Go.Ev.Tryz
open Go.Proofs Go.Pl
set_option linter.unusedVariables false
noncomputable section
def Qa5.con : Con := { ps := [(.val, (.int .i64)), (.val, (.int .i64))], rs := [(.val, (.int .i64))], F := fun x => Qa5.f x.1 x.2 }
def Qa5.cs : List (FuncId × Con) := [(92, Qab.con)]
def Qa5.E : Env := envOf tab Qa5.cs 0 false
def Qa5.keep (i : Nat) : List Nat := []
set_option maxRecDepth 100000 in
theorem Qa5.body (n : Nat) (x : Int × Int) : bodyF Qa5.E Qa5.keep n Tryz.f150 Qa5.con x = Qa5.fn n x.1 x.2 := by
 have h : bodyF Qa5.E Qa5.keep n Tryz.f150 Qa5.con x = Qa5.top x.1 x.2 := by kernel_rfl
 exact h
set_option maxRecDepth 100000 in
theorem Qa5.good : Good Tryz.prog 150 Qa5.con :=
 good_of tabok (cs := Qa5.cs) ⟨Qab.good, trivial⟩ 0 false (fn := Tryz.f150) Tryz.func150 rfl (by decide) (by simp [Qa5.con]) Qa5.keep NN (fun _ => rfl) (fun x => Qa5.body NN x)
end
end Go.Ev.Tryz

namespace Go.Ev.Tryz
open Go.Proofs Go.Pl
set_option linter.unusedVariables false
noncomputable section
def QaW.con : Con := { ps := [(.val, (.int .i64))], rs := [(.val, (.int .i64))], F := fun x => QaW.f x }
def QaW.cs : List (FuncId × Con) := []
def QaW.E : Env := envOf tab QaW.cs 0 false
def QaW.keep (i : Nat) : List Nat := []
set_option maxRecDepth 100000 in
theorem QaW.body (n : Nat) (x : Int) : bodyF QaW.E QaW.keep n Tryz.f164 QaW.con x = QaW.fn n x := by
 have h : bodyF QaW.E QaW.keep n Tryz.f164 QaW.con x = QaW.top x := by kernel_rfl
 exact h
set_option maxRecDepth 100000 in
theorem QaW.good : Good Tryz.prog 164 QaW.con :=
 good_of tabok (cs := QaW.cs) trivial 0 false (fn := Tryz.f164) Tryz.func164 rfl (by decide) (by simp [QaW.con]) QaW.keep NN (fun _ => rfl) (fun x => QaW.body NN x)
end
end Go.Ev.Tryz

namespace Go.Ev.Tryz
open Go.Proofs Go.Pl
set_option linter.unusedVariables false
noncomputable section
def Q4.st2 (p : Int) (q : Int) (s : Int) (r : Int) : St := ⟨[.dat (.int .i64) p, .dat (.int .i64) q, .gone, .gone, .gone, .dat (.int .i64) s, .dat (.int .i64) r, .gone, .gone, .gone, .gone, .gone, .gone, .gone, .gone, .gone, .gone, .gone, .gone, .gone, .gone, .gone, .gone, .gone, .gone, .gone], []⟩
def Q4.con : Con := { ps := [(.val, (.int .i64)), (.val, (.int .i64))], rs := [(.val, (.int .i64))], F := fun x => Q4.f x.1 x.2 }
def Q4.cs : List (FuncId × Con) := [(164, QaW.con)]
def Q4.E : Env := envOf tab Q4.cs 0 false
def Q4.keep (i : Nat) : List Nat := if i = 2 then [0, 1, 5, 6] else []
def Q4.at2 (n : Nat) (x : Int × Int) : Code × (Ex → St → Option (Int)) := ctx Q4.E Q4.keep n [.snd, .snd, .fst, .blk] (codeOf Tryz.f151) (kEnd Q4.E Tryz.f151 Q4.con x)
def Q4.LN2 (n : Nat) (x : Int × Int) : Nat → St → Option (Int) := loopN (exec Q4.E Q4.keep n (bodyOf (Q4.at2 n x).1)) (St.norm 0 (Q4.keep 2)) (Q4.at2 n x).2
set_option maxRecDepth 100000 in
theorem Q4.lem2 (n : Nat) (x : Int × Int) : ∀ (k : Nat) (p : Int) (q : Int) (s : Int) (r : Int), Q4.LN2 n x k (Q4.st2 p q s r) = Q4.l2 n k p q s r := by
 intro k
 induction k with
 | zero => intro p q s r; rfl
 | succ k ih =>
  intro p q s r
  have h : Q4.LN2 n x (k + 1) (Q4.st2 p q s r) = Q4.g2 (fun p q s r => Q4.LN2 n x k (Q4.st2 p q s r)) p q s r := by kernel_rfl
  rw [h]
  simp only [ih]
  rfl
set_option maxRecDepth 100000 in
theorem Q4.body (n : Nat) (x : Int × Int) : bodyF Q4.E Q4.keep n Tryz.f151 Q4.con x = Q4.fn n x.1 x.2 := by
 have h : bodyF Q4.E Q4.keep n Tryz.f151 Q4.con x = Q4.top (fun p q s r => Q4.LN2 n x n (Q4.st2 p q s r)) x.1 x.2 := by kernel_rfl
 rw [h]
 simp only [Q4.lem2]
 rfl
set_option maxRecDepth 100000 in
theorem Q4.good : Good Tryz.prog 151 Q4.con :=
 good_of tabok (cs := Q4.cs) ⟨QaW.good, trivial⟩ 0 false (fn := Tryz.f151) Tryz.func151 rfl (by decide) (by simp [Q4.con]) Q4.keep NN (fun _ => rfl) (fun x => Q4.body NN x)
end
end Go.Ev.Tryz

namespace Go.Ev.Tryz
open Go.Proofs Go.Pl
set_option linter.unusedVariables false
noncomputable section
def Qai.con : Con := { ps := [(.val, (.int .i64)), (.val, (.int .i64))], rs := [(.val, (.int .i64)), (.val, (.int .i64))], F := fun x => Qai.f x.1 x.2 }
def Qai.cs : List (FuncId × Con) := [(150, Qa5.con), (151, Q4.con)]
def Qai.E : Env := envOf tab Qai.cs 0 false
def Qai.keep (i : Nat) : List Nat := []
set_option maxRecDepth 100000 in
theorem Qai.body (n : Nat) (x : Int × Int) : bodyF Qai.E Qai.keep n Tryz.f128 Qai.con x = Qai.fn n x.1 x.2 := by
 have h : bodyF Qai.E Qai.keep n Tryz.f128 Qai.con x = Qai.top x.1 x.2 := by kernel_rfl
 exact h
set_option maxRecDepth 100000 in
theorem Qai.good : Good Tryz.prog 128 Qai.con :=
 good_of tabok (cs := Qai.cs) ⟨Qa5.good, Q4.good, trivial⟩ 0 false (fn := Tryz.f128) Tryz.func128 rfl (by decide) (by simp [Qai.con]) Qai.keep NN (fun _ => rfl) (fun x => Qai.body NN x)
end
end Go.Ev.Tryz

namespace Go.Ev.Tryz
open Go.Proofs Go.Pl
set_option linter.unusedVariables false
noncomputable section
def Qa1.con : Con := { ps := [(.val, (.int .i64))], rs := [(.val, .str)], F := fun x => Qa1.f x }
def Qa1.cs : List (FuncId × Con) := [(68, (Qe.con (fun a0 => Qe.f a0)))]
def Qa1.E : Env := envOf tab Qa1.cs 0 false
def Qa1.keep (i : Nat) : List Nat := []
set_option maxRecDepth 100000 in
theorem Qa1.body (n : Nat) (x : Int) : bodyF Qa1.E Qa1.keep n Tryz.f152 Qa1.con x = Qa1.fn n x := by
 have h : bodyF Qa1.E Qa1.keep n Tryz.f152 Qa1.con x = Qa1.top x := by kernel_rfl
 exact h
set_option maxRecDepth 100000 in
theorem Qa1.good : Good Tryz.prog 152 Qa1.con :=
 good_of tabok (cs := Qa1.cs) ⟨Qe.good, trivial⟩ 0 false (fn := Tryz.f152) Tryz.func152 rfl (by decide) (by simp [Qa1.con]) Qa1.keep NN (fun _ => rfl) (fun x => Qa1.body NN x)
end
end Go.Ev.Tryz

namespace Go.Ev.Tryz
open Go.Proofs Go.Pl
set_option linter.unusedVariables false
noncomputable section
def QaN.con : Con := { ps := [(.val, (.int .i64))], rs := [(.val, .str), (.val, (.int .i64))], F := fun x => QaN.f x }
def QaN.cs : List (FuncId × Con) := [(90, Qaj.con), (152, Qa1.con)]
def QaN.E : Env := envOf tab QaN.cs 0 false
def QaN.keep (i : Nat) : List Nat := []
set_option maxRecDepth 100000 in
theorem QaN.body (n : Nat) (x : Int) : bodyF QaN.E QaN.keep n Tryz.f129 QaN.con x = QaN.fn n x := by
 have h : bodyF QaN.E QaN.keep n Tryz.f129 QaN.con x = QaN.top x := by kernel_rfl
 exact h
set_option maxRecDepth 100000 in
theorem QaN.good : Good Tryz.prog 129 QaN.con :=
 good_of tabok (cs := QaN.cs) ⟨Qaj.good, Qa1.good, trivial⟩ 0 false (fn := Tryz.f129) Tryz.func129 rfl (by decide) (by simp [QaN.con]) QaN.keep NN (fun _ => rfl) (fun x => QaN.body NN x)
end
end Go.Ev.Tryz

namespace Go.Ev.Tryz
open Go.Proofs Go.Pl
set_option linter.unusedVariables false
noncomputable section
def Q9.con : Con := { ps := [(.val, (.pair (.sl 70 (.pair (.int .i64) (.pair .str (.int .i64)))) (.pair (.sl 72 (.pair (.int .i64) (.int .i64))) (.sl 74 (.pair (.int .i64) (.pair .str (.int .i64))))))), (.val, (.sl 9 .str)), (.val, (.sl 2 (.int .i64)))], rs := [(.val, .str), (.val, (.int .i64))], F := fun x => Q9.f x.1 x.2.1 x.2.2 }
def Q9.cs : List (FuncId × Con) := [(68, (Qe.con (fun a0 => Qe.f a0))), (121, Qa0.con), (122, QaR.con), (123, Q2.con), (124, Qay.con), (125, Q0.con), (126, QY.con), (127, Qba.con), (128, Qai.con), (129, QaN.con)]
def Q9.E : Env := envOf tab Q9.cs 0 false
def Q9.keep (i : Nat) : List Nat := []
set_option maxRecDepth 100000 in
theorem Q9.body (n : Nat) (x : YG × List ByteArray × List Int) : bodyF Q9.E Q9.keep n Tryz.f96 Q9.con x = Q9.fn n x.1 x.2.1 x.2.2 := by
 have h : bodyF Q9.E Q9.keep n Tryz.f96 Q9.con x = Q9.top x.1 x.2.1 x.2.2 := by kernel_rfl
 exact h
set_option maxRecDepth 100000 in
theorem Q9.good : Good Tryz.prog 96 Q9.con :=
 good_of tabok (cs := Q9.cs) ⟨Qe.good, Qa0.good, QaR.good, Q2.good, Qay.good, Q0.good, QY.good, Qba.good, Qai.good, QaN.good, trivial⟩ 0 false (fn := Tryz.f96) Tryz.func96 rfl (by decide) (by simp [Q9.con]) Q9.keep NN (fun _ => rfl) (fun x => Q9.body NN x)
end
end Go.Ev.Tryz

namespace Go.Ev.Tryz
open Go.Proofs Go.Pl
set_option linter.unusedVariables false
noncomputable section
def QC.tr0 (d0 : YD × YE × List YA) : Option YAL :=
 (Qe.f 6).bind fun r2 =>
 if (⟨#[101, 114, 114, 111, 114, 32]⟩ : ByteArray).size + r2.size ≤ 9223372036854775807 then
  some (d0, (⟨#[101, 114, 114, 111, 114, 32]⟩ : ByteArray) ++ r2)
 else
  none
def QC.tr1 (d0 : YD × YE × List YA) (r3 : (YG × Int)) : Option YAL :=
 (Qe.f r3.2).bind fun r4 =>
 if (⟨#[101, 114, 114, 111, 114, 32]⟩ : ByteArray).size + r4.size ≤ 9223372036854775807 then
  some (d0, (⟨#[101, 114, 114, 111, 114, 32]⟩ : ByteArray) ++ r4)
 else
  none
def QC.tr2 (d0 : YD × YE × List YA) (r5 : YS) : Option YAL :=
 (Qe.f r5.2).bind fun r6 =>
 if (⟨#[101, 114, 114, 111, 114, 32]⟩ : ByteArray).size + r6.size ≤ 9223372036854775807 then
  some (d0, (⟨#[101, 114, 114, 111, 114, 32]⟩ : ByteArray) ++ r6)
 else
  none
def QC.tr3 (d0 : YD × YE × List YA) (r7 : (YG × Int)) : Option YAL :=
 (Qe.f r7.2).bind fun r8 =>
 if (⟨#[101, 114, 114, 111, 114, 32]⟩ : ByteArray).size + r8.size ≤ 9223372036854775807 then
  some (d0, (⟨#[101, 114, 114, 111, 114, 32]⟩ : ByteArray) ++ r8)
 else
  none
def QC.tr4 (d0 : YD × YE × List YA) (r9 : YS) : Option YAL :=
 (Qe.f r9.2).bind fun r10 =>
 if (⟨#[101, 114, 114, 111, 114, 32]⟩ : ByteArray).size + r10.size ≤ 9223372036854775807 then
  some (d0, (⟨#[101, 114, 114, 111, 114, 32]⟩ : ByteArray) ++ r10)
 else
  none
def QC.tr5 (d0 : YD × YE × List YA) (r11 : (YG × Int)) : Option YAL :=
 (Qe.f r11.2).bind fun r12 =>
 if (⟨#[101, 114, 114, 111, 114, 32]⟩ : ByteArray).size + r12.size ≤ 9223372036854775807 then
  some (d0, (⟨#[101, 114, 114, 111, 114, 32]⟩ : ByteArray) ++ r12)
 else
  none
def QC.tr6 (d0 : YD × YE × List YA) (r13 : YS) : Option YAL :=
 (Qe.f r13.2).bind fun r14 =>
 if (⟨#[101, 114, 114, 111, 114, 32]⟩ : ByteArray).size + r14.size ≤ 9223372036854775807 then
  some (d0, (⟨#[101, 114, 114, 111, 114, 32]⟩ : ByteArray) ++ r14)
 else
  none
def QC.tr7 (d0 : YD × YE × List YA) (r15 : (YG × Int)) : Option YAL :=
 (Qe.f r15.2).bind fun r16 =>
 if (⟨#[101, 114, 114, 111, 114, 32]⟩ : ByteArray).size + r16.size ≤ 9223372036854775807 then
  some (d0, (⟨#[101, 114, 114, 111, 114, 32]⟩ : ByteArray) ++ r16)
 else
  none
def QC.tr8 (d0 : YD × YE × List YA) (r17 : YS) : Option YAL :=
 (Qe.f r17.2).bind fun r18 =>
 if (⟨#[101, 114, 114, 111, 114, 32]⟩ : ByteArray).size + r18.size ≤ 9223372036854775807 then
  some (d0, (⟨#[101, 114, 114, 111, 114, 32]⟩ : ByteArray) ++ r18)
 else
  none
def QC.topraw (d0 : YD × YE × List YA) (p : ByteArray) : Option YAL :=
 (Qq.f p).bind fun r1 =>
 if (!r1.2.2) = true then
  agree (
   QC.tr0 d0
  ) (
   QC.tr0 d0
  )
 else if (0 : Int) ≤ 0 ∧ (0 : Int) < r1.1.length then
  if ((r1.1.getD (0 : Int).toNat ByteArray.empty).toList == (⟨#[112, 101, 111, 112, 108, 101]⟩ : ByteArray).toList) = true then
   if ((r1.1.getD (0 : Int).toNat ByteArray.empty).toList == (⟨#[112, 101, 111, 112, 108, 101]⟩ : ByteArray).toList) = true then
    (Qad.f d0 r1.1 r1.2.1).bind fun r3 =>
    if ((r3.2 : Int) != 0) = true then
     agree (
      QC.tr1 d0 r3
     ) (
      QC.tr1 d0 r3
     )
    else
     some (r3.1, (⟨#[111, 107]⟩ : ByteArray))
   else
    (Q9.f d0 r1.1 r1.2.1).bind fun r5 =>
    if ((r5.2 : Int) != 0) = true then
     agree (
      QC.tr2 d0 r5
     ) (
      QC.tr2 d0 r5
     )
    else
     some (d0, r5.1)
  else if ((r1.1.getD (0 : Int).toNat ByteArray.empty).toList == (⟨#[115, 105, 103, 110, 97, 108]⟩ : ByteArray).toList) = true then
   if ((r1.1.getD (0 : Int).toNat ByteArray.empty).toList == (⟨#[115, 105, 103, 110, 97, 108]⟩ : ByteArray).toList) = true then
    (Qad.f d0 r1.1 r1.2.1).bind fun r7 =>
    if ((r7.2 : Int) != 0) = true then
     agree (
      QC.tr3 d0 r7
     ) (
      QC.tr3 d0 r7
     )
    else
     some (r7.1, (⟨#[111, 107]⟩ : ByteArray))
   else
    (Q9.f d0 r1.1 r1.2.1).bind fun r9 =>
    if ((r9.2 : Int) != 0) = true then
     agree (
      QC.tr4 d0 r9
     ) (
      QC.tr4 d0 r9
     )
    else
     some (d0, r9.1)
  else if ((r1.1.getD (0 : Int).toNat ByteArray.empty).toList == (⟨#[98, 111, 111, 107]⟩ : ByteArray).toList) = true then
   if ((r1.1.getD (0 : Int).toNat ByteArray.empty).toList == (⟨#[98, 111, 111, 107]⟩ : ByteArray).toList) = true then
    (Qad.f d0 r1.1 r1.2.1).bind fun r11 =>
    if ((r11.2 : Int) != 0) = true then
     agree (
      QC.tr5 d0 r11
     ) (
      QC.tr5 d0 r11
     )
    else
     some (r11.1, (⟨#[111, 107]⟩ : ByteArray))
   else
    (Q9.f d0 r1.1 r1.2.1).bind fun r13 =>
    if ((r13.2 : Int) != 0) = true then
     agree (
      QC.tr6 d0 r13
     ) (
      QC.tr6 d0 r13
     )
    else
     some (d0, r13.1)
  else if ((r1.1.getD (0 : Int).toNat ByteArray.empty).toList == (⟨#[115, 101, 116, 116, 108, 101]⟩ : ByteArray).toList) = true then
   (Qad.f d0 r1.1 r1.2.1).bind fun r15 =>
   if ((r15.2 : Int) != 0) = true then
    agree (
     QC.tr7 d0 r15
    ) (
     QC.tr7 d0 r15
    )
   else
    some (r15.1, (⟨#[111, 107]⟩ : ByteArray))
  else
   (Q9.f d0 r1.1 r1.2.1).bind fun r17 =>
   if ((r17.2 : Int) != 0) = true then
    agree (
     QC.tr8 d0 r17
    ) (
     QC.tr8 d0 r17
    )
   else
    some (d0, r17.1)
 else
  none
theorem QC.topraw_eq (d0 : YD × YE × List YA) (p : ByteArray) : QC.topraw d0 p = QC.top d0 p := by
 unfold QC.topraw QC.top
 simp only [agree_self, QC.tr0, QC.tr1, QC.tr2, QC.tr3, QC.tr4, QC.tr5, QC.tr6, QC.tr7, QC.tr8]
def QC.con : Con := { ps := [(.val, (.pair (.sl 70 (.pair (.int .i64) (.pair .str (.int .i64)))) (.pair (.sl 72 (.pair (.int .i64) (.int .i64))) (.sl 74 (.pair (.int .i64) (.pair .str (.int .i64))))))), (.val, .str)], rs := [(.val, (.pair (.sl 70 (.pair (.int .i64) (.pair .str (.int .i64)))) (.pair (.sl 72 (.pair (.int .i64) (.int .i64))) (.sl 74 (.pair (.int .i64) (.pair .str (.int .i64))))))), (.val, .str)], F := fun x => QC.f x.1 x.2 }
def QC.cs : List (FuncId × Con) := [(41, Qq.con), (68, (Qe.con (fun a0 => Qe.f a0))), (95, Qad.con), (96, Q9.con)]
def QC.E : Env := envOf tab QC.cs 0 false
def QC.keep (i : Nat) : List Nat := []
set_option maxRecDepth 100000 in
theorem QC.body (n : Nat) (x : YG × ByteArray) : bodyF QC.E QC.keep n Tryz.f61 QC.con x = QC.fn n x.1 x.2 := by
 have h : bodyF QC.E QC.keep n Tryz.f61 QC.con x = QC.topraw x.1 x.2 := by kernel_rfl
 rw [QC.topraw_eq] at h
 exact h
set_option maxRecDepth 100000 in
theorem QC.good : Good Tryz.prog 61 QC.con :=
 good_of tabok (cs := QC.cs) ⟨Qq.good, Qe.good, Qad.good, Q9.good, trivial⟩ 0 false (fn := Tryz.f61) Tryz.func61 rfl (by decide) (by simp [QC.con]) QC.keep NN (fun _ => rfl) (fun x => QC.body NN x)
end
end Go.Ev.Tryz

namespace Go.Ev.Tryz
open Go.Proofs Go.Pl
set_option linter.unusedVariables false
noncomputable section
def QI.st4 (p : List ByteArray) (i6 : Int) (d4 : YD × YE × List YA) (q : List ByteArray) (w3 : List YA) (w4 : List YC) (w5 : List YA) : St := ⟨[.dat (.sl 9 .str) p, .gone, .ptr 0 [], .gone, .ptr 1 [], .ref 2, .dat (.int .i64) i6, .gone, .gone, .gone, .gone, .gone, .gone, .gone, .gone, .gone, .gone, .gone, .gone, .gone, .gone, .gone, .gone, .gone, .gone, .gone, .gone, .gone, .gone, .gone, .gone, .gone, .gone], [.box 35 (.pair (.sl 70 (.pair (.int .i64) (.pair .str (.int .i64)))) (.pair (.sl 72 (.pair (.int .i64) (.int .i64))) (.sl 74 (.pair (.int .i64) (.pair .str (.int .i64)))))) (.pr (.ref 3) (.pr (.ref 4) (.ref 5))), .box 35 (.pair (.sl 70 (.pair (.int .i64) (.pair .str (.int .i64)))) (.pair (.sl 72 (.pair (.int .i64) (.int .i64))) (.sl 74 (.pair (.int .i64) (.pair .str (.int .i64)))))) (.dat (.pair (.sl 70 (.pair (.int .i64) (.pair .str (.int .i64)))) (.pair (.sl 72 (.pair (.int .i64) (.int .i64))) (.sl 74 (.pair (.int .i64) (.pair .str (.int .i64)))))) d4), .row 9 .str q none, .row 70 (.pair (.int .i64) (.pair .str (.int .i64))) w3 none, .row 72 (.pair (.int .i64) (.int .i64)) w4 none, .row 74 (.pair (.int .i64) (.pair .str (.int .i64))) w5 none]⟩
def QI.tr0 (L4 : YX) (p : List ByteArray) (i6 : Int) (d4 : YD × YE × List YA) (q : List ByteArray) (w3 : List YA) (w4 : List YC) (w5 : List YA) : Option YW :=
 (QC.f d4 (p.getD (i6 : Int).toNat ByteArray.empty)).bind fun r2 =>
 if q.length + ([r2.2]).length < room 16 then
  L4 p (IntKind.i64.wrap (i6 + 1)) r2.1 (q ++ ([r2.2])) w3 w4 w5
 else
  none
def QI.tr1 (L4 : YX) (p : List ByteArray) (i6 : Int) (d4 : YD × YE × List YA) (q : List ByteArray) (w3 : List YA) (w4 : List YC) (w5 : List YA) : Option YW :=
 agree (
  QI.tr0 L4 p i6 d4 q w3 w4 w5
 ) (
  QI.tr0 L4 p i6 d4 q w3 w4 w5
 )
def QI.tr2 (L4 : YX) (p : List ByteArray) (i6 : Int) (d4 : YD × YE × List YA) (q : List ByteArray) (w3 : List YA) (w4 : List YC) (w5 : List YA) : Option YW :=
 agree (
  QI.tr1 L4 p i6 d4 q w3 w4 w5
 ) (
  QI.tr0 L4 p i6 d4 q w3 w4 w5
 )
def QI.g4raw (L4 : YX) (p : List ByteArray) (i6 : Int) (d4 : YD × YE × List YA) (q : List ByteArray) (w3 : List YA) (w4 : List YC) (w5 : List YA) : Option YW :=
 if (decide ((i6 : Int) < (p.length : Int))) = true then
  if (0 : Int) ≤ i6 ∧ (i6 : Int) < p.length then
   agree (
    QI.tr2 L4 p i6 d4 q w3 w4 w5
   ) (
    agree (
     QI.tr2 L4 p i6 d4 q w3 w4 w5
    ) (
     QI.tr1 L4 p i6 d4 q w3 w4 w5
    )
   )
  else
   none
 else
  some (d4, q)
theorem QI.g4raw_eq (L4 : YX) (p : List ByteArray) (i6 : Int) (d4 : YD × YE × List YA) (q : List ByteArray) (w3 : List YA) (w4 : List YC) (w5 : List YA) : QI.g4raw L4 p i6 d4 q w3 w4 w5 = QI.g4 L4 p i6 d4 q w3 w4 w5 := by
 unfold QI.g4raw QI.g4
 simp only [agree_self, QI.tr0, QI.tr1, QI.tr2]
def QI.con : Con := { ps := [(.val, (.sl 9 .str))], rs := [(.val, (.pair (.sl 70 (.pair (.int .i64) (.pair .str (.int .i64)))) (.pair (.sl 72 (.pair (.int .i64) (.int .i64))) (.sl 74 (.pair (.int .i64) (.pair .str (.int .i64))))))), (.val, (.sl 9 .str))], F := fun x => QI.f x }
def QI.cs : List (FuncId × Con) := [(60, Qa8.con), (61, QC.con)]
def QI.E : Env := envOf tab QI.cs 0 false
def QI.keep (i : Nat) : List Nat := if i = 4 then [0, 2, 4, 5, 6, 200004, 100004] else []
def QI.at4 (n : Nat) (x : List ByteArray) : Code × (Ex → St → Option (YW)) := ctx QI.E QI.keep n [.snd, .snd, .snd, .fst, .snd, .blk] (codeOf Tryz.f31) (kEnd QI.E Tryz.f31 QI.con x)
def QI.LN4 (n : Nat) (x : List ByteArray) : Nat → St → Option (YW) := loopN (exec QI.E QI.keep n (bodyOf (QI.at4 n x).1)) (St.norm 0 (QI.keep 4)) (QI.at4 n x).2
set_option maxRecDepth 100000 in
theorem QI.lem4 (n : Nat) (x : List ByteArray) : ∀ (k : Nat) (p : List ByteArray) (i6 : Int) (d4 : YD × YE × List YA) (q : List ByteArray) (w3 : List YA) (w4 : List YC) (w5 : List YA), QI.LN4 n x k (QI.st4 p i6 d4 q w3 w4 w5) = QI.l4 n k p i6 d4 q w3 w4 w5 := by
 intro k
 induction k with
 | zero => intro p i6 d4 q w3 w4 w5; rfl
 | succ k ih =>
  intro p i6 d4 q w3 w4 w5
  have h : QI.LN4 n x (k + 1) (QI.st4 p i6 d4 q w3 w4 w5) = QI.g4raw (fun p i6 d4 q w3 w4 w5 => QI.LN4 n x k (QI.st4 p i6 d4 q w3 w4 w5)) p i6 d4 q w3 w4 w5 := by kernel_rfl
  rw [QI.g4raw_eq] at h
  rw [h]
  simp only [ih]
  rfl
set_option maxRecDepth 100000 in
theorem QI.body (n : Nat) (x : List ByteArray) : bodyF QI.E QI.keep n Tryz.f31 QI.con x = QI.fn n x := by
 have h : bodyF QI.E QI.keep n Tryz.f31 QI.con x = QI.top (fun p i6 d4 q w3 w4 w5 => QI.LN4 n x n (QI.st4 p i6 d4 q w3 w4 w5)) x := by kernel_rfl
 rw [h]
 simp only [QI.lem4]
 rfl
set_option maxRecDepth 100000 in
theorem QI.good : Good Tryz.prog 31 QI.con :=
 good_of tabok (cs := QI.cs) ⟨Qa8.good, QC.good, trivial⟩ 0 false (fn := Tryz.f31) Tryz.func31 rfl (by decide) (by simp [QI.con]) QI.keep NN (fun _ => rfl) (fun x => QI.body NN x)
end
end Go.Ev.Tryz

namespace Go.Ev.Tryz
open Go.Proofs Go.Pl
set_option linter.unusedVariables false
noncomputable section
def Qas.con : Con := { ps := [(.val, .str)], rs := [(.val, (.sl 9 .str)), (.val, (.int .i64))], F := fun x => Qas.f x }
def Qas.cs : List (FuncId × Con) := [(30, QaX.con), (31, QI.con), (32, Qaz.con)]
def Qas.E : Env := envOf tab Qas.cs 0 false
def Qas.keep (i : Nat) : List Nat := []
set_option maxRecDepth 100000 in
theorem Qas.body (n : Nat) (x : ByteArray) : bodyF Qas.E Qas.keep n Tryz.f7 Qas.con x = Qas.fn n x := by
 have h : bodyF Qas.E Qas.keep n Tryz.f7 Qas.con x = Qas.top x := by kernel_rfl
 exact h
set_option maxRecDepth 100000 in
theorem Qas.good : Good Tryz.prog 7 Qas.con :=
 good_of tabok (cs := Qas.cs) ⟨QaX.good, QI.good, Qaz.good, trivial⟩ 0 false (fn := Tryz.f7) Tryz.func7 rfl (by decide) (by simp [Qas.con]) Qas.keep NN (fun _ => rfl) (fun x => Qas.body NN x)
end
end Go.Ev.Tryz

namespace Go.Ev.Tryz
open Go.Proofs Go.Pl
set_option linter.unusedVariables false
noncomputable section
def QW.st4 (s0 : ByteArray) (b1 : Int) (p : Int) (i7 : Int) (q : List ByteArray) : St := ⟨[.dat .str s0, .dat (.int .u8) b1, .gone, .gone, .gone, .ref 0, .dat (.int .i64) p, .dat (.int .i64) i7, .gone, .gone, .gone, .gone, .gone, .gone, .gone, .gone, .gone, .gone, .gone, .gone, .gone, .gone, .gone, .gone, .gone, .gone, .gone, .gone, .gone, .gone, .gone, .gone, .gone, .gone], [.row 9 .str q none]⟩
def QW.con : Con := { ps := [(.val, .str), (.val, (.int .u8))], rs := [(.own, (.sl 9 .str))], F := fun x => QW.f x.1 x.2 }
def QW.cs : List (FuncId × Con) := []
def QW.E : Env := envOf tab QW.cs 0 false
def QW.keep (i : Nat) : List Nat := if i = 4 then [0, 1, 5, 6, 7] else []
def QW.at4 (n : Nat) (x : ByteArray × Int) : Code × (Ex → St → Option (YH)) := ctx QW.E QW.keep n [.snd, .snd, .snd, .fst, .snd, .blk] (codeOf Tryz.f63) (kEnd QW.E Tryz.f63 QW.con x)
def QW.LN4 (n : Nat) (x : ByteArray × Int) : Nat → St → Option (YH) := loopN (exec QW.E QW.keep n (bodyOf (QW.at4 n x).1)) (St.norm 0 (QW.keep 4)) (QW.at4 n x).2
set_option maxRecDepth 100000 in
theorem QW.lem4 (n : Nat) (x : ByteArray × Int) : ∀ (k : Nat) (s0 : ByteArray) (b1 : Int) (p : Int) (i7 : Int) (q : List ByteArray), QW.LN4 n x k (QW.st4 s0 b1 p i7 q) = QW.l4 n k s0 b1 p i7 q := by
 intro k
 induction k with
 | zero => intro s0 b1 p i7 q; rfl
 | succ k ih =>
  intro s0 b1 p i7 q
  have h : QW.LN4 n x (k + 1) (QW.st4 s0 b1 p i7 q) = QW.g4 (fun s0 b1 p i7 q => QW.LN4 n x k (QW.st4 s0 b1 p i7 q)) s0 b1 p i7 q := by kernel_rfl
  rw [h]
  simp only [ih]
  rfl
set_option maxRecDepth 100000 in
theorem QW.body (n : Nat) (x : ByteArray × Int) : bodyF QW.E QW.keep n Tryz.f63 QW.con x = QW.fn n x.1 x.2 := by
 have h : bodyF QW.E QW.keep n Tryz.f63 QW.con x = QW.top (fun s0 b1 p i7 q => QW.LN4 n x n (QW.st4 s0 b1 p i7 q)) x.1 x.2 := by kernel_rfl
 rw [h]
 simp only [QW.lem4]
 rfl
set_option maxRecDepth 100000 in
theorem QW.good : Good Tryz.prog 63 QW.con :=
 good_of tabok (cs := QW.cs) trivial 0 false (fn := Tryz.f63) Tryz.func63 rfl (by decide) (by simp [QW.con]) QW.keep NN (fun _ => rfl) (fun x => QW.body NN x)
end
end Go.Ev.Tryz

namespace Go.Ev.Tryz
open Go.Proofs Go.Pl
set_option linter.unusedVariables false
noncomputable section
def Qal.con : Con := { ps := [(.val, .str)], rs := [(.val, .str), (.val, .bool)], F := fun x => Qal.f x }
def Qal.cs : List (FuncId × Con) := []
def Qal.E : Env := envOf tab Qal.cs 0 false
def Qal.keep (i : Nat) : List Nat := []
set_option maxRecDepth 100000 in
theorem Qal.body (n : Nat) (x : ByteArray) : bodyF Qal.E Qal.keep n Tryz.f72 Qal.con x = Qal.fn n x := by
 have h : bodyF Qal.E Qal.keep n Tryz.f72 Qal.con x = Qal.top x := by kernel_rfl
 exact h
set_option maxRecDepth 100000 in
theorem Qal.good : Good Tryz.prog 72 Qal.con :=
 good_of tabok (cs := Qal.cs) trivial 0 false (fn := Tryz.f72) Tryz.func72 rfl (by decide) (by simp [Qal.con]) Qal.keep NN (fun _ => rfl) (fun x => Qal.body NN x)
end
end Go.Ev.Tryz

namespace Go.Ev.Tryz
open Go.Proofs Go.Pl
set_option linter.unusedVariables false
noncomputable section
def Qs.st8 (s0 : ByteArray) (p : ByteArray) (n5 : Int) (i6 : Int) : St := ⟨[.dat .str s0, .gone, .gone, .gone, .dat .str p, .dat (.int .i64) n5, .dat (.int .i64) i6, .gone, .gone, .gone, .gone, .gone, .gone, .gone, .gone, .gone, .gone, .gone, .gone, .gone, .gone, .gone, .gone, .gone, .gone, .gone, .gone, .gone, .gone, .gone, .gone, .gone, .gone, .gone, .gone, .gone, .gone, .gone, .gone, .gone, .gone, .gone, .gone, .gone, .gone, .gone, .gone, .gone, .gone, .gone, .gone, .gone, .gone, .gone, .gone, .gone, .gone, .gone, .gone, .gone, .gone, .gone, .gone, .gone, .gone, .gone, .gone, .gone, .gone, .gone, .gone, .gone, .gone], []⟩
def Qs.con : Con := { ps := [(.val, .str)], rs := [(.val, (.int .i64)), (.val, .bool)], F := fun x => Qs.f x }
def Qs.cs : List (FuncId × Con) := []
def Qs.E : Env := envOf tab Qs.cs 0 false
def Qs.keep (i : Nat) : List Nat := if i = 8 then [0, 4, 5, 6] else []
def Qs.at8 (n : Nat) (x : ByteArray) : Code × (Ex → St → Option (YAI)) := ctx Qs.E Qs.keep n [.snd, .snd, .snd, .snd, .snd, .fst, .snd, .blk] (codeOf Tryz.f73) (kEnd Qs.E Tryz.f73 Qs.con x)
def Qs.LN8 (n : Nat) (x : ByteArray) : Nat → St → Option (YAI) := loopN (exec Qs.E Qs.keep n (bodyOf (Qs.at8 n x).1)) (St.norm 0 (Qs.keep 8)) (Qs.at8 n x).2
set_option maxRecDepth 100000 in
theorem Qs.lem8 (n : Nat) (x : ByteArray) : ∀ (k : Nat) (s0 : ByteArray) (p : ByteArray) (n5 : Int) (i6 : Int), Qs.LN8 n x k (Qs.st8 s0 p n5 i6) = Qs.l8 n k s0 p n5 i6 := by
 intro k
 induction k with
 | zero => intro s0 p n5 i6; rfl
 | succ k ih =>
  intro s0 p n5 i6
  have h : Qs.LN8 n x (k + 1) (Qs.st8 s0 p n5 i6) = Qs.g8 (fun s0 p n5 i6 => Qs.LN8 n x k (Qs.st8 s0 p n5 i6)) s0 p n5 i6 := by kernel_rfl
  rw [h]
  simp only [ih]
  rfl
set_option maxRecDepth 100000 in
theorem Qs.body (n : Nat) (x : ByteArray) : bodyF Qs.E Qs.keep n Tryz.f73 Qs.con x = Qs.fn n x := by
 have h : bodyF Qs.E Qs.keep n Tryz.f73 Qs.con x = Qs.top (fun s0 p n5 i6 => Qs.LN8 n x n (Qs.st8 s0 p n5 i6)) x := by kernel_rfl
 rw [h]
 simp only [Qs.lem8]
 rfl
set_option maxRecDepth 100000 in
theorem Qs.good : Good Tryz.prog 73 Qs.con :=
 good_of tabok (cs := Qs.cs) trivial 0 false (fn := Tryz.f73) Tryz.func73 rfl (by decide) (by simp [Qs.con]) Qs.keep NN (fun _ => rfl) (fun x => Qs.body NN x)
end
end Go.Ev.Tryz

namespace Go.Ev.Tryz
open Go.Proofs Go.Pl
set_option linter.unusedVariables false
noncomputable section
def Qu.st7 (p : ByteArray) (i8 : Int) (v2a : ByteArray) (q : List ByteArray) (c7a : ByteArray) (w3 : List ByteArray) (w4 : List Int) (w5 : List ByteArray) (w6 : List Int) : St := ⟨[.gone, .gone, .ptr 0 [], .gone, .ref 1, .dat .str p, .gone, .ptr 2 [], .dat (.int .i64) i8, .gone, .gone, .gone, .gone, .gone, .gone, .gone, .gone, .gone, .gone, .gone, .gone, .gone, .gone, .gone, .gone, .gone, .gone, .gone, .gone, .gone, .gone, .gone, .gone, .gone, .gone, .gone, .gone, .gone, .gone, .gone, .gone, .gone, .gone, .gone, .gone, .gone, .gone, .gone, .gone, .gone, .gone, .gone, .gone, .gone, .gone, .gone, .gone, .gone, .gone, .gone, .gone, .gone, .gone, .gone, .gone, .gone, .gone, .gone, .gone, .gone, .gone, .gone, .gone, .gone, .gone, .gone, .gone, .gone, .gone, .gone, .gone, .gone, .gone, .gone, .gone, .gone, .gone, .gone, .gone, .gone, .gone, .gone, .gone], [.box 58 (.pair .str (.pair (.sl 9 .str) (.sl 2 (.int .i64)))) (.pr (.dat .str v2a) (.pr (.ref 3) (.ref 4))), .row 9 .str q none, .box 58 (.pair .str (.pair (.sl 9 .str) (.sl 2 (.int .i64)))) (.pr (.dat .str c7a) (.pr (.ref 5) (.ref 6))), .row 9 .str w3 none, .row 2 (.int .i64) w4 none, .row 9 .str w5 none, .row 2 (.int .i64) w6 none]⟩
def Qu.con : Con := { ps := [(.val, .str)], rs := [(.own, (.pair .str (.pair (.sl 9 .str) (.sl 2 (.int .i64))))), (.own, .bool)], F := fun x => Qu.f x }
def Qu.cs : List (FuncId × Con) := [(63, QW.con), (72, Qal.con), (73, Qs.con)]
def Qu.E : Env := envOf tab Qu.cs 0 false
def Qu.keep (i : Nat) : List Nat := if i = 7 then [2, 4, 5, 7, 8] else []
def Qu.at7 (n : Nat) (x : ByteArray) : Code × (Ex → St → Option ((YR × Bool))) := ctx Qu.E Qu.keep n [.snd, .snd, .snd, .snd, .snd, .fst, .snd, .blk] (codeOf Tryz.f40) (kEnd Qu.E Tryz.f40 Qu.con x)
def Qu.LN7 (n : Nat) (x : ByteArray) : Nat → St → Option ((YR × Bool)) := loopN (exec Qu.E Qu.keep n (bodyOf (Qu.at7 n x).1)) (St.norm 0 (Qu.keep 7)) (Qu.at7 n x).2
set_option maxRecDepth 100000 in
theorem Qu.lem7 (n : Nat) (x : ByteArray) : ∀ (k : Nat) (p : ByteArray) (i8 : Int) (v2a : ByteArray) (q : List ByteArray) (c7a : ByteArray) (w3 : List ByteArray) (w4 : List Int) (w5 : List ByteArray) (w6 : List Int), Qu.LN7 n x k (Qu.st7 p i8 v2a q c7a w3 w4 w5 w6) = Qu.l7 n k p i8 v2a q c7a w3 w4 w5 w6 := by
 intro k
 induction k with
 | zero => intro p i8 v2a q c7a w3 w4 w5 w6; rfl
 | succ k ih =>
  intro p i8 v2a q c7a w3 w4 w5 w6
  have h : Qu.LN7 n x (k + 1) (Qu.st7 p i8 v2a q c7a w3 w4 w5 w6) = Qu.g7 (fun p i8 v2a q c7a w3 w4 w5 w6 => Qu.LN7 n x k (Qu.st7 p i8 v2a q c7a w3 w4 w5 w6)) p i8 v2a q c7a w3 w4 w5 w6 := by kernel_rfl
  rw [h]
  simp only [ih]
  rfl
set_option maxRecDepth 100000 in
theorem Qu.body (n : Nat) (x : ByteArray) : bodyF Qu.E Qu.keep n Tryz.f40 Qu.con x = Qu.fn n x := by
 have h : bodyF Qu.E Qu.keep n Tryz.f40 Qu.con x = Qu.top (fun p i8 v2a q c7a w3 w4 w5 w6 => Qu.LN7 n x n (Qu.st7 p i8 v2a q c7a w3 w4 w5 w6)) x := by kernel_rfl
 rw [h]
 simp only [Qu.lem7]
 rfl
set_option maxRecDepth 100000 in
theorem Qu.good : Good Tryz.prog 40 Qu.con :=
 good_of tabok (cs := Qu.cs) ⟨QW.good, Qal.good, Qs.good, trivial⟩ 0 false (fn := Tryz.f40) Tryz.func40 rfl (by decide) (by simp [Qu.con]) Qu.keep NN (fun _ => rfl) (fun x => Qu.body NN x)
end
end Go.Ev.Tryz

namespace Go.Ev.Tryz
open Go.Proofs Go.Pl
set_option linter.unusedVariables false
noncomputable section
def Qf.st4 (n0 : Int) (p : ByteArray) : St := ⟨[.dat (.int .i64) n0, .gone, .gone, .dat .str p, .gone, .gone, .gone, .gone, .gone, .gone, .gone, .gone, .gone, .gone, .gone, .gone, .gone, .gone, .gone, .gone, .gone, .gone, .gone], []⟩
def Qf.con (S : Int → Option ByteArray) : Con := { ps := [(.val, (.int .i64))], rs := [(.val, .str)], F := fun x => S x }
def Qf.cs (S : Int → Option ByteArray) : List (FuncId × Con) := [(64, (Qf.con S))]
def Qf.E (S : Int → Option ByteArray) : Env := envOf tab (Qf.cs S) 0 false
def Qf.keep (i : Nat) : List Nat := if i = 4 then [0, 3] else []
def Qf.at4 (S : Int → Option ByteArray) (n : Nat) (x : Int) : Code × (Ex → St → Option (ByteArray)) := ctx (Qf.E S) Qf.keep n [.snd, .snd, .snd, .blk] (codeOf Tryz.f64) (kEnd (Qf.E S) Tryz.f64 (Qf.con S) x)
def Qf.LN4 (S : Int → Option ByteArray) (n : Nat) (x : Int) : Nat → St → Option (ByteArray) := loopN (exec (Qf.E S) Qf.keep n (bodyOf ((Qf.at4 S) n x).1)) (St.norm 0 (Qf.keep 4)) ((Qf.at4 S) n x).2
set_option maxRecDepth 100000 in
theorem Qf.lem4 (S : Int → Option ByteArray) (n : Nat) (x : Int) : ∀ (k : Nat) (n0 : Int) (p : ByteArray), (Qf.LN4 S) n x k (Qf.st4 n0 p) = (Qf.l4 S) n k n0 p := by
 intro k
 induction k with
 | zero => intro n0 p; rfl
 | succ k ih =>
  intro n0 p
  have h : (Qf.LN4 S) n x (k + 1) (Qf.st4 n0 p) = (Qf.g4 S) (fun n0 p => (Qf.LN4 S) n x k (Qf.st4 n0 p)) n0 p := by kernel_rfl
  rw [h]
  simp only [ih]
  rfl
set_option maxRecDepth 100000 in
theorem Qf.body (S : Int → Option ByteArray) (n : Nat) (x : Int) : bodyF (Qf.E S) Qf.keep n Tryz.f64 (Qf.con S) x = (Qf.fn S) n x := by
 have h : bodyF (Qf.E S) Qf.keep n Tryz.f64 (Qf.con S) x = (Qf.top S) (fun n0 p => (Qf.LN4 S) n x n (Qf.st4 n0 p)) x := by kernel_rfl
 rw [h]
 simp only [(Qf.lem4 S)]
 rfl
set_option maxRecDepth 100000 in
theorem Qf.goodk : ∀ k : Nat, Good Tryz.prog 64 (Qf.con (Qf.rc k)) := by
 intro k
 induction k with
 | zero => exact good_none (fn := Tryz.f64) Tryz.func64 rfl (by decide) (by simp [Qf.con]) (fun _ => rfl)
 | succ k ih => exact good_of tabok (cs := Qf.cs (Qf.rc k)) ⟨ih, trivial⟩ 0 false (fn := Tryz.f64) Tryz.func64 rfl (by decide) (by simp [Qf.con]) Qf.keep NN (fun _ => rfl) (fun x => Qf.body (Qf.rc k) NN x)
theorem Qf.good : Good Tryz.prog 64 (Qf.con (fun n0 => Qf.f n0)) := Qf.goodk NN
end
end Go.Ev.Tryz

namespace Go.Ev.Tryz
open Go.Proofs Go.Pl
set_option linter.unusedVariables false
noncomputable section
def Q8.con : Con := { ps := [(.val, (.int .i64)), (.val, (.int .i64)), (.val, (.int .i64))], rs := [(.val, .bool)], F := fun x => Q8.f x.1 x.2.1 x.2.2 }
def Q8.cs : List (FuncId × Con) := []
def Q8.E : Env := envOf tab Q8.cs 0 false
def Q8.keep (i : Nat) : List Nat := []
set_option maxRecDepth 100000 in
theorem Q8.body (n : Nat) (x : Int × Int × Int) : bodyF Q8.E Q8.keep n Tryz.f86 Q8.con x = Q8.fn n x.1 x.2.1 x.2.2 := by
 have h : bodyF Q8.E Q8.keep n Tryz.f86 Q8.con x = Q8.top x.1 x.2.1 x.2.2 := by kernel_rfl
 exact h
set_option maxRecDepth 100000 in
theorem Q8.good : Good Tryz.prog 86 Q8.con :=
 good_of tabok (cs := Q8.cs) trivial 0 false (fn := Tryz.f86) Tryz.func86 rfl (by decide) (by simp [Q8.con]) Q8.keep NN (fun _ => rfl) (fun x => Q8.body NN x)
end
end Go.Ev.Tryz

namespace Go.Ev.Tryz
open Go.Proofs Go.Pl
set_option linter.unusedVariables false
noncomputable section
def QaO.con : Con := { ps := [(.val, (.int .i64))], rs := [(.val, .bool)], F := fun x => QaO.f x }
def QaO.cs : List (FuncId × Con) := [(86, Q8.con)]
def QaO.E : Env := envOf tab QaO.cs 0 false
def QaO.keep (i : Nat) : List Nat := []
set_option maxRecDepth 100000 in
theorem QaO.body (n : Nat) (x : Int) : bodyF QaO.E QaO.keep n Tryz.f84 QaO.con x = QaO.fn n x := by
 have h : bodyF QaO.E QaO.keep n Tryz.f84 QaO.con x = QaO.top x := by kernel_rfl
 exact h
set_option maxRecDepth 100000 in
theorem QaO.good : Good Tryz.prog 84 QaO.con :=
 good_of tabok (cs := QaO.cs) ⟨Q8.good, trivial⟩ 0 false (fn := Tryz.f84) Tryz.func84 rfl (by decide) (by simp [QaO.con]) QaO.keep NN (fun _ => rfl) (fun x => QaO.body NN x)
end
end Go.Ev.Tryz

namespace Go.Ev.Tryz
open Go.Proofs Go.Pl
set_option linter.unusedVariables false
noncomputable section
def QJ.st4 (s0 : ByteArray) (i3 : Int) : St := ⟨[.dat .str s0, .gone, .gone, .dat (.int .i64) i3, .gone, .gone, .gone, .gone, .gone, .gone, .gone, .gone, .gone, .gone, .gone, .gone, .gone, .gone, .gone, .gone, .gone, .gone, .gone, .gone, .gone, .gone, .gone, .gone], []⟩
def QJ.con : Con := { ps := [(.val, .str)], rs := [(.val, .bool)], F := fun x => QJ.f x }
def QJ.cs : List (FuncId × Con) := []
def QJ.E : Env := envOf tab QJ.cs 0 false
def QJ.keep (i : Nat) : List Nat := if i = 4 then [0, 3] else []
def QJ.at4 (n : Nat) (x : ByteArray) : Code × (Ex → St → Option (Bool)) := ctx QJ.E QJ.keep n [.snd, .snd, .fst, .snd, .blk] (codeOf Tryz.f85) (kEnd QJ.E Tryz.f85 QJ.con x)
def QJ.LN4 (n : Nat) (x : ByteArray) : Nat → St → Option (Bool) := loopN (exec QJ.E QJ.keep n (bodyOf (QJ.at4 n x).1)) (St.norm 0 (QJ.keep 4)) (QJ.at4 n x).2
set_option maxRecDepth 100000 in
theorem QJ.lem4 (n : Nat) (x : ByteArray) : ∀ (k : Nat) (s0 : ByteArray) (i3 : Int), QJ.LN4 n x k (QJ.st4 s0 i3) = QJ.l4 n k s0 i3 := by
 intro k
 induction k with
 | zero => intro s0 i3; rfl
 | succ k ih =>
  intro s0 i3
  have h : QJ.LN4 n x (k + 1) (QJ.st4 s0 i3) = QJ.g4 (fun s0 i3 => QJ.LN4 n x k (QJ.st4 s0 i3)) s0 i3 := by kernel_rfl
  rw [h]
  simp only [ih]
  rfl
set_option maxRecDepth 100000 in
theorem QJ.body (n : Nat) (x : ByteArray) : bodyF QJ.E QJ.keep n Tryz.f85 QJ.con x = QJ.fn n x := by
 have h : bodyF QJ.E QJ.keep n Tryz.f85 QJ.con x = QJ.top (fun s0 i3 => QJ.LN4 n x n (QJ.st4 s0 i3)) x := by kernel_rfl
 rw [h]
 simp only [QJ.lem4]
 rfl
set_option maxRecDepth 100000 in
theorem QJ.good : Good Tryz.prog 85 QJ.con :=
 good_of tabok (cs := QJ.cs) trivial 0 false (fn := Tryz.f85) Tryz.func85 rfl (by decide) (by simp [QJ.con]) QJ.keep NN (fun _ => rfl) (fun x => QJ.body NN x)
end
end Go.Ev.Tryz

namespace Go.Ev.Tryz
open Go.Proofs Go.Pl
set_option linter.unusedVariables false
noncomputable section
def QB.st3 (p : ByteArray) (t2 : Int) (q : Int) (v10 : List YA) (v11 : Int) (v12 : Int) : St := ⟨[.gone, .dat .str p, .dat (.int .i64) t2, .gone, .gone, .gone, .gone, .dat (.int .i64) q, .gone, .gone, .dat (.sl 70 (.pair (.int .i64) (.pair .str (.int .i64)))) v10, .dat (.int .i64) v11, .dat (.int .i64) v12, .gone, .gone, .gone, .gone, .gone, .gone, .gone, .gone, .gone, .gone, .gone, .gone, .gone, .gone, .gone, .gone, .gone, .gone, .gone], []⟩
def QB.con : Con := { ps := [(.val, (.sl 70 (.pair (.int .i64) (.pair .str (.int .i64))))), (.val, .str), (.val, (.int .i64))], rs := [(.val, (.int .i64))], F := fun x => QB.f x.1 x.2.1 x.2.2 }
def QB.cs : List (FuncId × Con) := []
def QB.E : Env := envOf tab QB.cs 0 false
def QB.keep (i : Nat) : List Nat := if i = 3 then [1, 2, 7, 10, 11, 12] else []
def QB.at3 (n : Nat) (x : YD × ByteArray × Int) : Code × (Ex → St → Option (Int)) := ctx QB.E QB.keep n [.snd, .snd, .fst, .snd, .blk] (codeOf Tryz.f87) (kEnd QB.E Tryz.f87 QB.con x)
def QB.LN3 (n : Nat) (x : YD × ByteArray × Int) : Nat → St → Option (Int) := loopN (exec QB.E QB.keep n (bodyOf (QB.at3 n x).1)) (St.norm 0 (QB.keep 3)) (QB.at3 n x).2
set_option maxRecDepth 100000 in
theorem QB.lem3 (n : Nat) (x : YD × ByteArray × Int) : ∀ (k : Nat) (p : ByteArray) (t2 : Int) (q : Int) (v10 : List YA) (v11 : Int) (v12 : Int), QB.LN3 n x k (QB.st3 p t2 q v10 v11 v12) = QB.l3 n k p t2 q v10 v11 v12 := by
 intro k
 induction k with
 | zero => intro p t2 q v10 v11 v12; rfl
 | succ k ih =>
  intro p t2 q v10 v11 v12
  have h : QB.LN3 n x (k + 1) (QB.st3 p t2 q v10 v11 v12) = QB.g3 (fun p t2 q v10 v11 v12 => QB.LN3 n x k (QB.st3 p t2 q v10 v11 v12)) p t2 q v10 v11 v12 := by kernel_rfl
  rw [h]
  simp only [ih]
  rfl
set_option maxRecDepth 100000 in
theorem QB.body (n : Nat) (x : YD × ByteArray × Int) : bodyF QB.E QB.keep n Tryz.f87 QB.con x = QB.fn n x.1 x.2.1 x.2.2 := by
 have h : bodyF QB.E QB.keep n Tryz.f87 QB.con x = QB.top (fun p t2 q v10 v11 v12 => QB.LN3 n x n (QB.st3 p t2 q v10 v11 v12)) x.1 x.2.1 x.2.2 := by kernel_rfl
 rw [h]
 simp only [QB.lem3]
 rfl
set_option maxRecDepth 100000 in
theorem QB.good : Good Tryz.prog 87 QB.con :=
 good_of tabok (cs := QB.cs) trivial 0 false (fn := Tryz.f87) Tryz.func87 rfl (by decide) (by simp [QB.con]) QB.keep NN (fun _ => rfl) (fun x => QB.body NN x)
end
end Go.Ev.Tryz

namespace Go.Ev.Tryz
open Go.Proofs Go.Pl
set_option linter.unusedVariables false
noncomputable section
def Qx.st4 (p : List YA) (v8 : List YA) (v9 : Int) (v10 : Int) : St := ⟨[.dat (.sl 70 (.pair (.int .i64) (.pair .str (.int .i64)))) p, .gone, .gone, .gone, .gone, .gone, .gone, .gone, .dat (.sl 70 (.pair (.int .i64) (.pair .str (.int .i64)))) v8, .dat (.int .i64) v9, .dat (.int .i64) v10, .gone, .gone, .gone, .gone, .gone, .gone, .gone, .gone, .gone, .gone, .gone, .gone, .gone, .gone, .gone, .gone, .gone, .gone, .gone, .gone, .gone, .gone, .gone, .gone, .gone, .gone, .gone, .gone, .gone, .gone, .gone, .gone, .gone, .gone, .gone, .gone, .gone, .gone, .gone, .gone, .gone, .gone, .gone, .gone, .gone, .gone, .gone, .gone, .gone, .gone, .gone], []⟩
def Qx.con : Con := { ps := [(.val, (.sl 70 (.pair (.int .i64) (.pair .str (.int .i64)))))], rs := [(.val, .bool)], F := fun x => Qx.f x }
def Qx.cs : List (FuncId × Con) := [(84, QaO.con), (85, QJ.con), (86, Q8.con), (87, QB.con)]
def Qx.E : Env := envOf tab Qx.cs 0 false
def Qx.keep (i : Nat) : List Nat := if i = 4 then [0, 8, 9, 10] else []
def Qx.at4 (n : Nat) (x : List YA) : Code × (Ex → St → Option (Bool)) := ctx Qx.E Qx.keep n [.snd, .snd, .fst, .snd, .blk] (codeOf Tryz.f54) (kEnd Qx.E Tryz.f54 Qx.con x)
def Qx.LN4 (n : Nat) (x : List YA) : Nat → St → Option (Bool) := loopN (exec Qx.E Qx.keep n (bodyOf (Qx.at4 n x).1)) (St.norm 0 (Qx.keep 4)) (Qx.at4 n x).2
set_option maxRecDepth 100000 in
theorem Qx.lem4 (n : Nat) (x : List YA) : ∀ (k : Nat) (p : List YA) (v8 : List YA) (v9 : Int) (v10 : Int), Qx.LN4 n x k (Qx.st4 p v8 v9 v10) = Qx.l4 n k p v8 v9 v10 := by
 intro k
 induction k with
 | zero => intro p v8 v9 v10; rfl
 | succ k ih =>
  intro p v8 v9 v10
  have h : Qx.LN4 n x (k + 1) (Qx.st4 p v8 v9 v10) = Qx.g4 (fun p v8 v9 v10 => Qx.LN4 n x k (Qx.st4 p v8 v9 v10)) p v8 v9 v10 := by kernel_rfl
  rw [h]
  simp only [ih]
  rfl
set_option maxRecDepth 100000 in
theorem Qx.body (n : Nat) (x : List YA) : bodyF Qx.E Qx.keep n Tryz.f54 Qx.con x = Qx.fn n x := by
 have h : bodyF Qx.E Qx.keep n Tryz.f54 Qx.con x = Qx.top (fun p v8 v9 v10 => Qx.LN4 n x n (Qx.st4 p v8 v9 v10)) x := by kernel_rfl
 rw [h]
 simp only [Qx.lem4]
 rfl
set_option maxRecDepth 100000 in
theorem Qx.good : Good Tryz.prog 54 Qx.con :=
 good_of tabok (cs := Qx.cs) ⟨QaO.good, QJ.good, Q8.good, QB.good, trivial⟩ 0 false (fn := Tryz.f54) Tryz.func54 rfl (by decide) (by simp [Qx.con]) Qx.keep NN (fun _ => rfl) (fun x => Qx.body NN x)
end
end Go.Ev.Tryz

namespace Go.Ev.Tryz
open Go.Proofs Go.Pl
set_option linter.unusedVariables false
noncomputable section
def Qah.tr0 (p : List YA) (m1 : Int × ByteArray × Int) : Option YV :=
 if ([] : List YA).length + p.length < room 32 then
  if (([] : List YA) ++ p).length + ([m1]).length < room 32 then
   (Qx.f ((([] : List YA) ++ p) ++ ([m1]))).bind fun r2 =>
   if (!r2) = true then
    some ([], 5)
   else
    some ((([] : List YA) ++ p) ++ ([m1]), 0)
  else
   none
 else
  none
def Qah.tr1 (p : List YA) (m1 : Int × ByteArray × Int) : Option YV :=
 agree (
  Qah.tr0 p m1
 ) (
  Qah.tr0 p m1
 )
def Qah.topraw (p : List YA) (m1 : Int × ByteArray × Int) : Option YV :=
 (Qx.f p).bind fun r1 =>
 if (!r1) = true then
  some ([], 1)
 else if (((p.length : Int) : Int) == 40) = true then
  some ([], 3)
 else
  agree (
   agree (
    Qah.tr0 p m1
   ) (
    Qah.tr1 p m1
   )
  ) (
   agree (
    Qah.tr1 p m1
   ) (
    Qah.tr0 p m1
   )
  )
theorem Qah.topraw_eq (p : List YA) (m1 : Int × ByteArray × Int) : Qah.topraw p m1 = Qah.top p m1 := by
 unfold Qah.topraw Qah.top
 simp only [agree_self, Qah.tr0, Qah.tr1]
def Qah.con : Con := { ps := [(.val, (.sl 70 (.pair (.int .i64) (.pair .str (.int .i64))))), (.val, (.pair (.int .i64) (.pair .str (.int .i64))))], rs := [(.own, (.sl 70 (.pair (.int .i64) (.pair .str (.int .i64))))), (.own, (.int .i64))], F := fun x => Qah.f x.1 x.2 }
def Qah.cs : List (FuncId × Con) := [(54, Qx.con)]
def Qah.E : Env := envOf tab Qah.cs 0 false
def Qah.keep (i : Nat) : List Nat := []
set_option maxRecDepth 100000 in
theorem Qah.body (n : Nat) (x : YD × Int × ByteArray × Int) : bodyF Qah.E Qah.keep n Tryz.f97 Qah.con x = Qah.fn n x.1 x.2 := by
 have h : bodyF Qah.E Qah.keep n Tryz.f97 Qah.con x = Qah.topraw x.1 x.2 := by kernel_rfl
 rw [Qah.topraw_eq] at h
 exact h
set_option maxRecDepth 100000 in
theorem Qah.good : Good Tryz.prog 97 Qah.con :=
 good_of tabok (cs := Qah.cs) ⟨Qx.good, trivial⟩ 0 false (fn := Tryz.f97) Tryz.func97 rfl (by decide) (by simp [Qah.con]) Qah.keep NN (fun _ => rfl) (fun x => Qah.body NN x)
end
end Go.Ev.Tryz

namespace Go.Ev.Tryz
open Go.Proofs Go.Pl
set_option linter.unusedVariables false
noncomputable section
def QaJ.con : Con := { ps := [(.val, (.sl 70 (.pair (.int .i64) (.pair .str (.int .i64))))), (.val, .str), (.val, (.int .i64))], rs := [(.val, (.int .i64))], F := fun x => QaJ.f x.1 x.2.1 x.2.2 }
def QaJ.cs : List (FuncId × Con) := [(54, Qx.con), (84, QaO.con), (85, QJ.con)]
def QaJ.E : Env := envOf tab QaJ.cs 0 false
def QaJ.keep (i : Nat) : List Nat := []
set_option maxRecDepth 100000 in
theorem QaJ.body (n : Nat) (x : YD × ByteArray × Int) : bodyF QaJ.E QaJ.keep n Tryz.f130 QaJ.con x = QaJ.fn n x.1 x.2.1 x.2.2 := by
 have h : bodyF QaJ.E QaJ.keep n Tryz.f130 QaJ.con x = QaJ.top x.1 x.2.1 x.2.2 := by kernel_rfl
 exact h
set_option maxRecDepth 100000 in
theorem QaJ.good : Good Tryz.prog 130 QaJ.con :=
 good_of tabok (cs := QaJ.cs) ⟨Qx.good, QaO.good, QJ.good, trivial⟩ 0 false (fn := Tryz.f130) Tryz.func130 rfl (by decide) (by simp [QaJ.con]) QaJ.keep NN (fun _ => rfl) (fun x => QaJ.body NN x)
end
end Go.Ev.Tryz

namespace Go.Ev.Tryz
open Go.Proofs Go.Pl
set_option linter.unusedVariables false
noncomputable section
def QX.st2 (p : List YA) (q : ByteArray) (t2 : Int) (v9 : List YA) (v10 : Int) (v11 : Int) : St := ⟨[.dat (.sl 70 (.pair (.int .i64) (.pair .str (.int .i64)))) p, .dat .str q, .dat (.int .i64) t2, .gone, .gone, .gone, .gone, .gone, .gone, .dat (.sl 70 (.pair (.int .i64) (.pair .str (.int .i64)))) v9, .dat (.int .i64) v10, .dat (.int .i64) v11, .gone, .gone, .gone, .gone, .gone, .gone, .gone, .gone, .gone, .gone, .gone, .gone, .gone, .gone, .gone, .gone, .gone, .gone, .gone, .gone, .gone, .gone, .gone, .gone, .gone, .gone], []⟩
def QX.con : Con := { ps := [(.val, (.sl 70 (.pair (.int .i64) (.pair .str (.int .i64))))), (.val, .str), (.val, (.int .i64))], rs := [(.val, .bool)], F := fun x => QX.f x.1 x.2.1 x.2.2 }
def QX.cs : List (FuncId × Con) := [(87, QB.con)]
def QX.E : Env := envOf tab QX.cs 0 false
def QX.keep (i : Nat) : List Nat := if i = 2 then [0, 1, 2, 9, 10, 11] else []
def QX.at2 (n : Nat) (x : YD × ByteArray × Int) : Code × (Ex → St → Option (Bool)) := ctx QX.E QX.keep n [.snd, .fst, .snd, .blk] (codeOf Tryz.f131) (kEnd QX.E Tryz.f131 QX.con x)
def QX.LN2 (n : Nat) (x : YD × ByteArray × Int) : Nat → St → Option (Bool) := loopN (exec QX.E QX.keep n (bodyOf (QX.at2 n x).1)) (St.norm 0 (QX.keep 2)) (QX.at2 n x).2
set_option maxRecDepth 100000 in
theorem QX.lem2 (n : Nat) (x : YD × ByteArray × Int) : ∀ (k : Nat) (p : List YA) (q : ByteArray) (t2 : Int) (v9 : List YA) (v10 : Int) (v11 : Int), QX.LN2 n x k (QX.st2 p q t2 v9 v10 v11) = QX.l2 n k p q t2 v9 v10 v11 := by
 intro k
 induction k with
 | zero => intro p q t2 v9 v10 v11; rfl
 | succ k ih =>
  intro p q t2 v9 v10 v11
  have h : QX.LN2 n x (k + 1) (QX.st2 p q t2 v9 v10 v11) = QX.g2 (fun p q t2 v9 v10 v11 => QX.LN2 n x k (QX.st2 p q t2 v9 v10 v11)) p q t2 v9 v10 v11 := by kernel_rfl
  rw [h]
  simp only [ih]
  rfl
set_option maxRecDepth 100000 in
theorem QX.body (n : Nat) (x : YD × ByteArray × Int) : bodyF QX.E QX.keep n Tryz.f131 QX.con x = QX.fn n x.1 x.2.1 x.2.2 := by
 have h : bodyF QX.E QX.keep n Tryz.f131 QX.con x = QX.top (fun p q t2 v9 v10 v11 => QX.LN2 n x n (QX.st2 p q t2 v9 v10 v11)) x.1 x.2.1 x.2.2 := by kernel_rfl
 rw [h]
 simp only [QX.lem2]
 rfl
set_option maxRecDepth 100000 in
theorem QX.good : Good Tryz.prog 131 QX.con :=
 good_of tabok (cs := QX.cs) ⟨QB.good, trivial⟩ 0 false (fn := Tryz.f131) Tryz.func131 rfl (by decide) (by simp [QX.con]) QX.keep NN (fun _ => rfl) (fun x => QX.body NN x)
end
end Go.Ev.Tryz

namespace Go.Ev.Tryz
open Go.Proofs Go.Pl
set_option linter.unusedVariables false
noncomputable section
def QaV.con : Con := { ps := [(.val, (.sl 70 (.pair (.int .i64) (.pair .str (.int .i64))))), (.val, .str), (.val, (.int .i64))], rs := [(.val, .bool), (.val, (.int .i64))], F := fun x => QaV.f x.1 x.2.1 x.2.2 }
def QaV.cs : List (FuncId × Con) := [(130, QaJ.con), (131, QX.con)]
def QaV.E : Env := envOf tab QaV.cs 0 false
def QaV.keep (i : Nat) : List Nat := []
set_option maxRecDepth 100000 in
theorem QaV.body (n : Nat) (x : YD × ByteArray × Int) : bodyF QaV.E QaV.keep n Tryz.f98 QaV.con x = QaV.fn n x.1 x.2.1 x.2.2 := by
 have h : bodyF QaV.E QaV.keep n Tryz.f98 QaV.con x = QaV.top x.1 x.2.1 x.2.2 := by kernel_rfl
 exact h
set_option maxRecDepth 100000 in
theorem QaV.good : Good Tryz.prog 98 QaV.con :=
 good_of tabok (cs := QaV.cs) ⟨QaJ.good, QX.good, trivial⟩ 0 false (fn := Tryz.f98) Tryz.func98 rfl (by decide) (by simp [QaV.con]) QaV.keep NN (fun _ => rfl) (fun x => QaV.body NN x)
end
end Go.Ev.Tryz

namespace Go.Ev.Tryz
open Go.Proofs Go.Pl
set_option linter.unusedVariables false
noncomputable section
def Qz.st2 (p : ByteArray) (v7 : List ByteArray) (v8 : Int) (v9 : Int) : St := ⟨[.gone, .dat .str p, .gone, .gone, .gone, .gone, .gone, .dat (.sl 9 .str) v7, .dat (.int .i64) v8, .dat (.int .i64) v9, .gone, .gone, .gone, .gone, .gone, .gone, .gone, .gone, .gone], []⟩
def Qz.con : Con := { ps := [(.val, (.sl 9 .str)), (.val, .str)], rs := [(.val, (.int .i64))], F := fun x => Qz.f x.1 x.2 }
def Qz.cs : List (FuncId × Con) := []
def Qz.E : Env := envOf tab Qz.cs 0 false
def Qz.keep (i : Nat) : List Nat := if i = 2 then [1, 7, 8, 9] else []
def Qz.at2 (n : Nat) (x : List ByteArray × ByteArray) : Code × (Ex → St → Option (Int)) := ctx Qz.E Qz.keep n [.snd, .fst, .snd, .blk] (codeOf Tryz.f99) (kEnd Qz.E Tryz.f99 Qz.con x)
def Qz.LN2 (n : Nat) (x : List ByteArray × ByteArray) : Nat → St → Option (Int) := loopN (exec Qz.E Qz.keep n (bodyOf (Qz.at2 n x).1)) (St.norm 0 (Qz.keep 2)) (Qz.at2 n x).2
set_option maxRecDepth 100000 in
theorem Qz.lem2 (n : Nat) (x : List ByteArray × ByteArray) : ∀ (k : Nat) (p : ByteArray) (v7 : List ByteArray) (v8 : Int) (v9 : Int), Qz.LN2 n x k (Qz.st2 p v7 v8 v9) = Qz.l2 n k p v7 v8 v9 := by
 intro k
 induction k with
 | zero => intro p v7 v8 v9; rfl
 | succ k ih =>
  intro p v7 v8 v9
  have h : Qz.LN2 n x (k + 1) (Qz.st2 p v7 v8 v9) = Qz.g2 (fun p v7 v8 v9 => Qz.LN2 n x k (Qz.st2 p v7 v8 v9)) p v7 v8 v9 := by kernel_rfl
  rw [h]
  simp only [ih]
  rfl
set_option maxRecDepth 100000 in
theorem Qz.body (n : Nat) (x : List ByteArray × ByteArray) : bodyF Qz.E Qz.keep n Tryz.f99 Qz.con x = Qz.fn n x.1 x.2 := by
 have h : bodyF Qz.E Qz.keep n Tryz.f99 Qz.con x = Qz.top (fun p v7 v8 v9 => Qz.LN2 n x n (Qz.st2 p v7 v8 v9)) x.1 x.2 := by kernel_rfl
 rw [h]
 simp only [Qz.lem2]
 rfl
set_option maxRecDepth 100000 in
theorem Qz.good : Good Tryz.prog 99 Qz.con :=
 good_of tabok (cs := Qz.cs) trivial 0 false (fn := Tryz.f99) Tryz.func99 rfl (by decide) (by simp [Qz.con]) Qz.keep NN (fun _ => rfl) (fun x => Qz.body NN x)
end
end Go.Ev.Tryz

namespace Go.Ev.Tryz
open Go.Proofs Go.Pl
set_option linter.unusedVariables false
noncomputable section
def QaB.con : Con := { ps := [], rs := [(.own, (.sl 9 .str))], F := fun x => QaB.f  }
def QaB.cs : List (FuncId × Con) := []
def QaB.E : Env := envOf tab QaB.cs 0 false
def QaB.keep (i : Nat) : List Nat := []
set_option maxRecDepth 100000 in
theorem QaB.body (n : Nat) (x : Unit) : bodyF QaB.E QaB.keep n Tryz.f100 QaB.con x = QaB.fn n  := by
 have h : bodyF QaB.E QaB.keep n Tryz.f100 QaB.con x = QaB.top  := by kernel_rfl
 exact h
set_option maxRecDepth 100000 in
theorem QaB.good : Good Tryz.prog 100 QaB.con :=
 good_of tabok (cs := QaB.cs) trivial 0 false (fn := Tryz.f100) Tryz.func100 rfl (by decide) (by simp [QaB.con]) QaB.keep NN (fun _ => rfl) (fun x => QaB.body NN x)
end
end Go.Ev.Tryz

namespace Go.Ev.Tryz
open Go.Proofs Go.Pl
set_option linter.unusedVariables false
noncomputable section
def QaY.con : Con := { ps := [(.val, (.int .i64))], rs := [(.val, .bool)], F := fun x => QaY.f x }
def QaY.cs : List (FuncId × Con) := [(86, Q8.con)]
def QaY.E : Env := envOf tab QaY.cs 0 false
def QaY.keep (i : Nat) : List Nat := []
set_option maxRecDepth 100000 in
theorem QaY.body (n : Nat) (x : Int) : bodyF QaY.E QaY.keep n Tryz.f88 QaY.con x = QaY.fn n x := by
 have h : bodyF QaY.E QaY.keep n Tryz.f88 QaY.con x = QaY.top x := by kernel_rfl
 exact h
set_option maxRecDepth 100000 in
theorem QaY.good : Good Tryz.prog 88 QaY.con :=
 good_of tabok (cs := QaY.cs) ⟨Q8.good, trivial⟩ 0 false (fn := Tryz.f88) Tryz.func88 rfl (by decide) (by simp [QaY.con]) QaY.keep NN (fun _ => rfl) (fun x => QaY.body NN x)
end
end Go.Ev.Tryz

namespace Go.Ev.Tryz
open Go.Proofs Go.Pl
set_option linter.unusedVariables false
noncomputable section
def Qo.st4 (p : List YC) (v8 : List YC) (v9 : Int) (v10 : Int) : St := ⟨[.dat (.sl 72 (.pair (.int .i64) (.int .i64))) p, .gone, .gone, .gone, .gone, .gone, .gone, .gone, .dat (.sl 72 (.pair (.int .i64) (.int .i64))) v8, .dat (.int .i64) v9, .dat (.int .i64) v10, .gone, .gone, .gone, .gone, .gone, .gone, .gone, .gone, .gone, .gone, .gone, .gone, .gone, .gone, .gone, .gone, .gone, .gone, .gone, .gone, .gone, .gone, .gone, .gone, .gone, .gone, .gone, .gone, .gone, .gone, .gone, .gone, .gone, .gone, .gone], []⟩
def Qo.con : Con := { ps := [(.val, (.sl 72 (.pair (.int .i64) (.int .i64))))], rs := [(.val, .bool)], F := fun x => Qo.f x }
def Qo.cs : List (FuncId × Con) := [(86, Q8.con), (88, QaY.con)]
def Qo.E : Env := envOf tab Qo.cs 0 false
def Qo.keep (i : Nat) : List Nat := if i = 4 then [0, 8, 9, 10] else []
def Qo.at4 (n : Nat) (x : List YC) : Code × (Ex → St → Option (Bool)) := ctx Qo.E Qo.keep n [.snd, .snd, .fst, .snd, .blk] (codeOf Tryz.f55) (kEnd Qo.E Tryz.f55 Qo.con x)
def Qo.LN4 (n : Nat) (x : List YC) : Nat → St → Option (Bool) := loopN (exec Qo.E Qo.keep n (bodyOf (Qo.at4 n x).1)) (St.norm 0 (Qo.keep 4)) (Qo.at4 n x).2
set_option maxRecDepth 100000 in
theorem Qo.lem4 (n : Nat) (x : List YC) : ∀ (k : Nat) (p : List YC) (v8 : List YC) (v9 : Int) (v10 : Int), Qo.LN4 n x k (Qo.st4 p v8 v9 v10) = Qo.l4 n k p v8 v9 v10 := by
 intro k
 induction k with
 | zero => intro p v8 v9 v10; rfl
 | succ k ih =>
  intro p v8 v9 v10
  have h : Qo.LN4 n x (k + 1) (Qo.st4 p v8 v9 v10) = Qo.g4 (fun p v8 v9 v10 => Qo.LN4 n x k (Qo.st4 p v8 v9 v10)) p v8 v9 v10 := by kernel_rfl
  rw [h]
  simp only [ih]
  rfl
set_option maxRecDepth 100000 in
theorem Qo.body (n : Nat) (x : List YC) : bodyF Qo.E Qo.keep n Tryz.f55 Qo.con x = Qo.fn n x := by
 have h : bodyF Qo.E Qo.keep n Tryz.f55 Qo.con x = Qo.top (fun p v8 v9 v10 => Qo.LN4 n x n (Qo.st4 p v8 v9 v10)) x := by kernel_rfl
 rw [h]
 simp only [Qo.lem4]
 rfl
set_option maxRecDepth 100000 in
theorem Qo.good : Good Tryz.prog 55 Qo.con :=
 good_of tabok (cs := Qo.cs) ⟨Q8.good, QaY.good, trivial⟩ 0 false (fn := Tryz.f55) Tryz.func55 rfl (by decide) (by simp [Qo.con]) Qo.keep NN (fun _ => rfl) (fun x => Qo.body NN x)
end
end Go.Ev.Tryz

namespace Go.Ev.Tryz
open Go.Proofs Go.Pl
set_option linter.unusedVariables false
noncomputable section
def Qi.st7 (k7 : Int) (p : List YC) : St := ⟨[.gone, .gone, .gone, .gone, .gone, .gone, .ref 0, .dat (.int .i64) k7, .gone, .gone, .gone, .gone, .gone, .gone, .gone, .gone, .gone, .gone, .gone, .gone, .gone, .gone, .gone, .gone, .gone, .gone, .gone, .gone, .gone, .gone, .gone, .gone, .gone, .gone, .gone, .gone, .gone, .gone, .gone, .gone, .gone, .gone, .gone, .gone, .gone, .gone, .gone, .gone, .gone, .gone, .gone, .gone, .gone, .gone, .gone, .gone, .gone, .gone, .gone, .gone, .gone], [.row 72 (.pair (.int .i64) (.int .i64)) p none]⟩
def Qi.tr0 (L7 : YAM) (k7 : Int) (p : List YC) : Option YY :=
 if (0 : Int) ≤ (IntKind.i64.wrap (k7 - 1)) ∧ ((IntKind.i64.wrap (k7 - 1)) : Int) < p.length then
  if (0 : Int) ≤ k7 ∧ (k7 : Int) < (p.set ((IntKind.i64.wrap (k7 - 1)) : Int).toNat (p.getD (k7 : Int).toNat (0, 0))).length then
   L7 (IntKind.i64.wrap (k7 - 1)) ((p.set ((IntKind.i64.wrap (k7 - 1)) : Int).toNat (p.getD (k7 : Int).toNat (0, 0))).set (k7 : Int).toNat (p.getD ((IntKind.i64.wrap (k7 - 1)) : Int).toNat (0, 0)))
  else
   none
 else
  none
def Qi.g7raw (L7 : YAM) (k7 : Int) (p : List YC) : Option YY :=
 if (decide ((0 : Int) < k7)) = true then
  if (0 : Int) ≤ (IntKind.i64.wrap (k7 - 1)) ∧ ((IntKind.i64.wrap (k7 - 1)) : Int) < p.length then
   if (0 : Int) ≤ k7 ∧ (k7 : Int) < p.length then
    if (decide ((((p.getD (k7 : Int).toNat (0, 0)).1) : Int) < ((p.getD ((IntKind.i64.wrap (k7 - 1)) : Int).toNat (0, 0)).1))) = true then
     if (0 : Int) ≤ k7 ∧ (k7 : Int) < p.length then
      if (0 : Int) ≤ (IntKind.i64.wrap (k7 - 1)) ∧ ((IntKind.i64.wrap (k7 - 1)) : Int) < p.length then
       agree (
        Qi.tr0 L7 k7 p
       ) (
        Qi.tr0 L7 k7 p
       )
      else
       none
     else
      none
    else
     (Qo.f p).bind fun r2 =>
     if (!r2) = true then
      some ([], 5)
     else
      some (p, 0)
   else
    none
  else
   none
 else
  (Qo.f p).bind fun r3 =>
  if (!r3) = true then
   some ([], 5)
  else
   some (p, 0)
theorem Qi.g7raw_eq (L7 : YAM) (k7 : Int) (p : List YC) : Qi.g7raw L7 k7 p = Qi.g7 L7 k7 p := by
 unfold Qi.g7raw Qi.g7
 simp only [agree_self, Qi.tr0]
def Qi.tr1 (I7 : YAM) (q : List YC) (x1 : Int × Int) : Option YY :=
 if ([] : List YC).length + q.length < room 16 then
  if (([] : List YC) ++ q).length + ([x1]).length < room 16 then
   I7 (IntKind.i64.wrap ((((([] : List YC) ++ q) ++ ([x1])).length : Int) - 1)) ((([] : List YC) ++ q) ++ ([x1]))
  else
   none
 else
  none
def Qi.tr2 (I7 : YAM) (q : List YC) (x1 : Int × Int) : Option YY :=
 agree (
  Qi.tr1 I7 q x1
 ) (
  Qi.tr1 I7 q x1
 )
def Qi.topraw (I7 : YAM) (q : List YC) (x1 : Int × Int) : Option YY :=
 (Qo.f q).bind fun r1 =>
 if (!r1) = true then
  some ([], 1)
 else if (((q.length : Int) : Int) == 40) = true then
  some ([], 3)
 else
  agree (
   agree (
    Qi.tr1 I7 q x1
   ) (
    Qi.tr2 I7 q x1
   )
  ) (
   agree (
    Qi.tr2 I7 q x1
   ) (
    Qi.tr1 I7 q x1
   )
  )
theorem Qi.topraw_eq (I7 : YAM) (q : List YC) (x1 : Int × Int) : Qi.topraw I7 q x1 = Qi.top I7 q x1 := by
 unfold Qi.topraw Qi.top
 simp only [agree_self, Qi.tr1, Qi.tr2]
def Qi.con : Con := { ps := [(.val, (.sl 72 (.pair (.int .i64) (.int .i64)))), (.val, (.pair (.int .i64) (.int .i64)))], rs := [(.own, (.sl 72 (.pair (.int .i64) (.int .i64)))), (.own, (.int .i64))], F := fun x => Qi.f x.1 x.2 }
def Qi.cs : List (FuncId × Con) := [(55, Qo.con)]
def Qi.E : Env := envOf tab Qi.cs 0 false
def Qi.keep (i : Nat) : List Nat := if i = 7 then [6, 7] else []
def Qi.at7 (n : Nat) (x : YE × Int × Int) : Code × (Ex → St → Option (YY)) := ctx Qi.E Qi.keep n [.snd, .snd, .snd, .snd, .fst, .snd, .blk] (codeOf Tryz.f101) (kEnd Qi.E Tryz.f101 Qi.con x)
def Qi.LN7 (n : Nat) (x : YE × Int × Int) : Nat → St → Option (YY) := loopN (exec Qi.E Qi.keep n (bodyOf (Qi.at7 n x).1)) (St.norm 0 (Qi.keep 7)) (Qi.at7 n x).2
set_option maxRecDepth 100000 in
theorem Qi.lem7 (n : Nat) (x : YE × Int × Int) : ∀ (k : Nat) (k7 : Int) (p : List YC), Qi.LN7 n x k (Qi.st7 k7 p) = Qi.l7 n k k7 p := by
 intro k
 induction k with
 | zero => intro k7 p; rfl
 | succ k ih =>
  intro k7 p
  have h : Qi.LN7 n x (k + 1) (Qi.st7 k7 p) = Qi.g7raw (fun k7 p => Qi.LN7 n x k (Qi.st7 k7 p)) k7 p := by kernel_rfl
  rw [Qi.g7raw_eq] at h
  rw [h]
  simp only [ih]
  rfl
set_option maxRecDepth 100000 in
theorem Qi.body (n : Nat) (x : YE × Int × Int) : bodyF Qi.E Qi.keep n Tryz.f101 Qi.con x = Qi.fn n x.1 x.2 := by
 have h : bodyF Qi.E Qi.keep n Tryz.f101 Qi.con x = Qi.topraw (fun k7 p => Qi.LN7 n x n (Qi.st7 k7 p)) x.1 x.2 := by kernel_rfl
 rw [Qi.topraw_eq] at h
 rw [h]
 simp only [Qi.lem7]
 rfl
set_option maxRecDepth 100000 in
theorem Qi.good : Good Tryz.prog 101 Qi.con :=
 good_of tabok (cs := Qi.cs) ⟨Qo.good, trivial⟩ 0 false (fn := Tryz.f101) Tryz.func101 rfl (by decide) (by simp [Qi.con]) Qi.keep NN (fun _ => rfl) (fun x => Qi.body NN x)
end
end Go.Ev.Tryz

namespace Go.Pl
open Go.Ev
set_option linter.unusedVariables false
theorem wf64 {n : Int} : (Lit.int .i64 n).wf = true ↔ (-9223372036854775808 ≤ n ∧ n ≤ 9223372036854775807) := by
  simp only [Lit.wf, Bool.and_eq_true, decide_eq_true_eq]
  have e1 : IntKind.i64.min = -9223372036854775808 := by decide
  have e2 : IntKind.i64.max = 9223372036854775807 := by decide
  omega
theorem wf8 {n : Int} : (Lit.int .u8 n).wf = true ↔ (0 ≤ n ∧ n ≤ 255) := by
  simp only [Lit.wf, Bool.and_eq_true, decide_eq_true_eq]
  have e1 : IntKind.u8.min = 0 := by decide
  have e2 : IntKind.u8.max = 255 := by decide
  omega
theorem w8 {n : Int} (h1 : 0 ≤ n) (h2 : n < 256) : IntKind.u8.wrap n = n := by
  simp only [IntKind.wrap, IntKind.bits, IntKind.signed]
  simp
  omega
theorem mid_get {α : Type} (p r : List α) (x z : α) : (p ++ x :: r).getD (p.length : Int).toNat z = x := by simp
theorem mid_set {α : Type} (p r : List α) (x y : α) : (p ++ x :: r).set (p.length : Int).toNat y = p ++ y :: r := by simp
theorem mid_getn {α : Type} (p r : List α) (x z : α) : (p ++ x :: r).getD p.length z = x := by simp
theorem mid_setn {α : Type} (p r : List α) (x y : α) : (p ++ x :: r).set p.length y = p ++ y :: r := by simp
theorem mid_len {α : Type} (p r : List α) (x : α) : ((p ++ x :: r).length : Int) = (p.length : Int) + r.length + 1 := by simp; omega
theorem mid_snoc {α : Type} (p r : List α) (x : α) : (p ++ [x]) ++ r = p ++ x :: r := by simp
theorem snoc_len {α : Type} (p : List α) (x : α) : ((p ++ [x]).length : Int) = (p.length : Int) + 1 := by simp
theorem ba_toList {a b : ByteArray} : a.toList = b.toList ↔ a = b := by
  rw [ByteArray.toList_eq, ByteArray.toList_eq]
  exact ⟨fun h => ByteArray.ext (Array.toList_inj.mp h), fun h => by rw [h]⟩
theorem ba_beq (a b : ByteArray) : (a.toList == b.toList) = decide (a = b) := by
  by_cases h : a = b
  · subst h; simp
  · rw [decide_eq_false h, beq_eq_false_iff_ne]; exact fun e => h (ba_toList.1 e)
def bl (s : ByteArray) : List UInt8 := s.data.toList
def ob (l : List UInt8) : ByteArray := ⟨l.toArray⟩
theorem bl_ob (l : List UInt8) : bl (ob l) = l := by simp [bl, ob]
theorem ob_bl (s : ByteArray) : ob (bl s) = s := by simp [bl, ob]
theorem bl_inj {a b : ByteArray} (h : bl a = bl b) : a = b := by rw [← ob_bl a, h, ob_bl]
theorem bl_length (s : ByteArray) : (bl s).length = s.size := by simp only [bl, Array.length_toList]; rfl
theorem ob_size (l : List UInt8) : (ob l).size = l.length := by rw [← bl_length, bl_ob]
theorem bl_append (a b : ByteArray) : bl (a ++ b) = bl a ++ bl b := by simp [bl]
theorem ob_append (a b : List UInt8) : ob a ++ ob b = ob (a ++ b) := by apply bl_inj; rw [bl_append, bl_ob, bl_ob, bl_ob]
theorem bl_extract (s : ByteArray) (i j : Nat) : bl (s.extract i j) = ((bl s).take j).drop i := by
  simp only [bl, ByteArray.data_extract, Array.toList_extract, List.extract]
  rw [List.drop_take]
theorem ob_extract (l : List UInt8) (i j : Nat) : (ob l).extract i j = ob ((l.take j).drop i) := by apply bl_inj; rw [bl_extract, bl_ob, bl_ob]
theorem bt_ob (l : List UInt8) (i : Int) : bt (ob l) i = ((l.getD i.toNat 0).toNat : Int) := rfl
theorem bt_mid (p r : List UInt8) (c : UInt8) : bt (ob (p ++ c :: r)) (p.length : Int) = (c.toNat : Int) := by rw [bt_ob, mid_get]
theorem u8_eq {a : UInt8} {n : Nat} (h : n < 256) : ((a.toNat : Int) = (n : Int)) ↔ a = UInt8.ofNat n := by
  constructor
  · intro e
    apply UInt8.toNat_inj.mp
    rw [UInt8.toNat_ofNat']; omega
  · rintro rfl
    rw [UInt8.toNat_ofNat']; omega
theorem bytesOf_ob (l : List Int) : bytesOf l = ob (l.map fun n => UInt8.ofNat n.toNat) := rfl
theorem ob_all {P : ByteArray → Prop} (h : ∀ l, P (ob l)) (s : ByteArray) : P s := by rw [← ob_bl s]; exact h _
theorem room8 : room 8 = 17592186044416 := by decide
theorem room16 : room 16 = 8796093022208 := by decide
theorem room32 : room 32 = 4398046511104 := by decide
theorem NNb : (1000000000000 : Nat) < NN := by rw [NN_eq]; omega
theorem NN_lt {n : Nat} (h : n < 1152921504606846976) : n < NN := by rw [NN_eq]; omega
end Go.Pl

namespace Go.Ev
set_option linter.unusedVariables false
set_option linter.unusedSimpArgs false
open Go.RowKit Go.WideShapes Go.ChangeShapes Go.ChangeAt
variable {P : Program}
def Rg (k : IntKind) (n : Int) : Prop := (Lit.int k n).wf = true
def Sz (s : ByteArray) : Prop := s.size ≤ 140737488355328
def Ls {α : Type} (Q : α → Prop) (xs : List α) : Prop := xs.length ≤ 140737488355328 ∧ ∀ x ∈ xs, Q x
def Plain : (t : Ty) → t.I → Prop
  | .int k, n => Rg k n
  | .bool, _ => True
  | .str, s => Sz s
  | .sl _ t, xs => Ls (Plain t) xs
  | .slb _ _, _ => True
  | .pair a b, x => Plain a x.1 ∧ Plain b x.2
  | .arr n t, xs => xs.length = n ∧ ∀ x ∈ xs, Plain t x
def PlainAll : (ts : List Ty) → Tup ts → Prop
  | [], _ => True
  | [t], x => Plain t x
  | t :: u :: r, x => Plain t x.1 ∧ PlainAll (u :: r) x.2
def okE (B : TypeId → Nat) : Ty → Bool
  | .sl e t => decide (1 ≤ B e) && okE B t
  | .slb e t => decide (1 ≤ B e) && okE B t
  | .pair a b => okE B a && okE B b
  | .arr _ t => okE B t
  | _ => true
theorem reach_lt : reachBytes ≤ 140737488355328 := by decide
theorem fit_plain {B : TypeId → Nat} : ∀ (t : Ty) (x : t.I), okE B t = true → Fit B t x → Plain t x := by
  intro t
  induction t with
  | int k => intro x _ h; exact h
  | bool => intro x _ h; trivial
  | str => intro x _ h; exact Nat.le_trans h reach_lt
  | sl e t ih =>
    intro x ho h
    simp only [okE, Bool.and_eq_true, decide_eq_true_eq] at ho
    refine ⟨?_, fun y hy => ih y ho.2 (h.2 y hy)⟩
    have h1 : x.length * 1 ≤ x.length * B e := Nat.mul_le_mul_left _ ho.1
    have h2 := h.1
    have h3 := reach_lt
    omega
  | slb e t ih => intro x ho h; trivial
  | pair a b iha ihb =>
    intro x ho h
    simp only [okE, Bool.and_eq_true] at ho
    exact ⟨iha _ ho.1 h.1, ihb _ ho.2 h.2⟩
  | arr n t ih => intro x ho h; exact ⟨h.1, fun y hy => ih y ho (h.2 y hy)⟩
theorem fit_plainAll {B : TypeId → Nat} : ∀ (ts : List Ty) (x : Tup ts), ts.all (okE B) = true → FitAll B ts x → PlainAll ts x := by
  intro ts
  induction ts with
  | nil => intro x _ _; trivial
  | cons t r ih =>
    intro x ho h
    simp only [List.all_cons, Bool.and_eq_true] at ho
    cases r with
    | nil => exact fit_plain t x ho.1 h
    | cons u r => exact ⟨fit_plain t x.1 ho.1 h.1, ih x.2 ho.2 h.2⟩
theorem ok_all {tab : List TRow} (h : okB P tab = true) : tab.all (rowB P tab) = true := by
  unfold okB at h; simp only [Bool.and_eq_true] at h; exact h.2.2
theorem bytes_sound {tab : List TRow} (h : okB P tab = true) : ∀ t x, tabT tab t = some x → P.bytesOf t = tabB tab t := by
  intro t x ht
  have hs := tab_sound (ok_all h)
  obtain ⟨ty, n⟩ := x
  obtain ⟨i, h1, h2⟩ := (hs.1 t ty n ht).info
  unfold Program.bytesOf
  rw [h1]
  exact hs.2 t _ ht i h1
section
variable {H : Type} {enc : TypeId × Value → H} {w : World} {base : Nat} {spare : Nat → Bool} {held : Bool}
theorem law_row {tab : List TRow} (hok : okB P tab = true) (hpos : posB tab = true) {f : FuncId} {c : Con} (hg : Good P f c) (hps : (c.ps.map (·.2)).map ((Kn.val, ·)) = c.ps) (hE : (c.ps.map (·.2)).all (okE (tabB tab)) = true)
    (hlaw : ∀ x, PlainAll (c.ps.map (·.2)) x → ∃ r, c.F x = some r ∧ kds' c.rs (dats _ r) = [(.val, ⟨.bool, true⟩)])
    {r : Reach} {b0 : Nat} {ts : List TypeId} {args : Array Value} {ds : List (DataW H)} {p : List MemPlace} (hts : tysOf (tabT tab) ts = some (c.ps.map (·.2))) (h : DataW.TrodAll enc P w base spare held ts args.toList ds p)
    (hval : ∀ (j : Nat) t v, ts[j]? = some t → args[j]? = some v → Value.okWide P w r b0 t v) {vt : List TypeId} {gs : List (DataW H)} (hgs : vt = [] ∨ gs = []) (hw : (DataW.weightsEach P (ts ++ vt) (ds ++ gs)).all (· ≤ reachBytes) = true) (hl : ts.length = ds.length) :
    Calls P f args w fun e w' => e = .returned (.bool true) ∧ Below w.heap.size w w' := by
  refine law_calls (tab_sound (ok_all hok)).1 (bytes_sound hok) (posB_sound hpos) hg hps (fun x hx => hlaw x (fit_plainAll _ x hE hx)) hts h (fun j t v hj hv => hval j t v hj (by simpa using hv)) ?_
  have key : ∀ (ts : List TypeId) (ds : List (DataW H)), ts.length = ds.length → ∀ m ∈ DataW.weightsEach P ts ds, m ∈ DataW.weightsEach P (ts ++ vt) (ds ++ gs) := by
    intro ts
    induction ts with
    | nil => intro ds hl m hm; cases ds <;> simp [DataW.weightsEach] at hm
    | cons t ts ih =>
      intro ds hl m hm
      cases ds with
      | nil => simp [DataW.weightsEach] at hm
      | cons d ds =>
        simp only [List.cons_append, DataW.weightsEach, List.mem_append] at hm ⊢
        rcases hm with hm | hm
        · exact .inl hm
        · exact .inr (ih ds (by simpa using hl) m hm)
  intro m hm
  have := List.all_eq_true.1 hw m (key ts ds hl m hm)
  simpa using this
end
end Go.Ev

namespace Go.Pl
open Go.Ev
set_option linter.unusedVariables false
def Sm (s : ByteArray) : Prop := s.size ≤ 1000000
def Lm {α : Type} (Q : α → Prop) (xs : List α) : Prop := xs.length ≤ 1000000 ∧ ∀ x ∈ xs, Q x
theorem eqS_loop {α : Type} {E : α → Prop} (l : Nat → List α → List α → Int → Option Bool) (a : List α) (hE : ∀ x ∈ a, E x)
    (hs : ∀ k p x r, E x → a = p ++ x :: r → l (k + 1) a a p.length = l k a a ((p.length : Int) + 1)) (he : ∀ k, l (k + 1) a a a.length = some true) :
    ∀ k, a.length < k → l k a a 0 = some true := by
  have key : ∀ (r p : List α) (k : Nat), a = p ++ r → r.length < k → l k a a p.length = some true := by
    intro r
    induction r with
    | nil =>
      intro p k h hk
      obtain ⟨k, rfl⟩ : ∃ j, k = j + 1 := ⟨k - 1, by omega⟩
      rw [List.append_nil] at h
      rw [← h]; exact he k
    | cons x r ih =>
      intro p k h hk
      simp only [List.length_cons] at hk
      obtain ⟨k, rfl⟩ : ∃ j, k = j + 1 := ⟨k - 1, by omega⟩
      rw [hs k p x r (hE x (by rw [h]; simp)) h]
      have := ih (p ++ [x]) k (by rw [h]; simp) (by omega)
      rw [snoc_len] at this
      exact this
  intro k hk
  have := key a [] k (by simp) hk
  simpa using this
end Go.Pl

namespace Go.Pl
open Go.Ev
set_option linter.unusedVariables false
theorem all_loop {α : Type} {E : α → Prop} (P : α → Bool) (fin : List α → Option Bool) (l : Nat → List α → Int → Option Bool)
    (hn : ∀ k p, l (k + 1) p p.length = fin p)
    (hc : ∀ k p a r, E a → (0 : Int) ≤ (p.length : Int) → (p.length : Int) < ((p ++ a :: r).length : Int) → IntKind.i64.wrap ((p.length : Int) + 1) = (p.length : Int) + 1 → l (k + 1) (p ++ a :: r) p.length = if P a = true then l k (p ++ a :: r) ((p.length : Int) + 1) else some false)
    (xs : List α) (hE : ∀ x ∈ xs, E x) (hB : xs.length ≤ 140737488355328) (k : Nat) (hk : xs.length < k) : l k xs 0 = if xs.all P = true then fin xs else some false := by
  have key : ∀ (r p : List α) (k : Nat), p.length + r.length ≤ 140737488355328 → (∀ x ∈ r, E x) → r.length < k → l k (p ++ r) p.length = if r.all P = true then fin (p ++ r) else some false := by
    intro r
    induction r with
    | nil =>
      intro p k _ _ hk
      obtain ⟨k, rfl⟩ : ∃ j, k = j + 1 := ⟨k - 1, by omega⟩
      rw [List.append_nil, hn]; simp
    | cons a r ih =>
      intro p k hb he hk
      simp only [List.length_cons] at hk hb
      obtain ⟨k, rfl⟩ : ∃ j, k = j + 1 := ⟨k - 1, by omega⟩
      have hm := mid_len p r a
      rw [hc k p a r (he a (by simp)) (by omega) (by omega) (w64 (by omega) (by omega))]
      have := ih (p ++ [a]) k (by simp; omega) (fun y hy => he y (by simp [hy])) (by omega)
      rw [mid_snoc, snoc_len] at this
      rw [this]
      cases h : P a <;> simp [h]
  have := key xs [] k (by simpa using hB) hE hk
  simpa using this
theorem all_loop_str (P : UInt8 → Bool) (fin : ByteArray → Option Bool) (l : Nat → ByteArray → Int → Option Bool)
    (hn : ∀ k p, l (k + 1) (ob p) p.length = fin (ob p))
    (hc : ∀ k p a r, (0 : Int) ≤ (p.length : Int) → (p.length : Int) < ((ob (p ++ a :: r)).size : Int) → IntKind.i64.wrap ((p.length : Int) + 1) = (p.length : Int) + 1 → l (k + 1) (ob (p ++ a :: r)) p.length = if P a = true then l k (ob (p ++ a :: r)) ((p.length : Int) + 1) else some false)
    (s : ByteArray) (hB : s.size ≤ 140737488355328) (k : Nat) (hk : s.size < k) : l k s 0 = if (bl s).all P = true then fin s else some false := by
  have := all_loop (E := fun _ => True) P (fun x => fin (ob x)) (fun k x i => l k (ob x) i) hn (fun k p a r _ h1 h2 h3 => hc k p a r h1 (by rw [ob_size]; exact h2) h3) (bl s) (fun _ _ => trivial) (by rw [bl_length]; exact hB) k (by rw [bl_length]; exact hk)
  rw [ob_bl] at this
  exact this
def foldi {α σ : Type} (f : Nat → σ → α → σ) : Nat → σ → List α → σ
  | _, st, [] => st
  | i, st, a :: r => foldi f (i + 1) (f i st a) r
theorem foldi_foldl {α σ : Type} (f : σ → α → σ) : ∀ (xs : List α) (i : Nat) (st : σ), foldi (fun _ => f) i st xs = xs.foldl f st := by
  intro xs
  induction xs with
  | nil => intro i st; rfl
  | cons a r ih => intro i st; exact ih _ _
theorem fold_fix {α σ ρ : Type} {E : α → Prop} (I : List α → σ → Prop) (f : Nat → σ → α → σ) (fin : σ → Option ρ) (l : Nat → Int → σ → Option ρ) (xs : List α)
    (hn : ∀ k st, I xs st → l (k + 1) xs.length st = fin st)
    (hc : ∀ k p a r st, xs = p ++ a :: r → E a → I p st → (0 : Int) ≤ (p.length : Int) → (p.length : Int) < (xs.length : Int) → p.length < 140737488355328 → IntKind.i64.wrap ((p.length : Int) + 1) = (p.length : Int) + 1 → (∀ z, xs.getD p.length z = a) →
      I (p ++ [a]) (f p.length st a) ∧ l (k + 1) p.length st = l k ((p.length : Int) + 1) (f p.length st a))
    (st : σ) (hE : ∀ x ∈ xs, E x) (hI : I [] st) (hB : xs.length ≤ 140737488355328) (k : Nat) (hk : xs.length < k) :
    I xs (foldi f 0 st xs) ∧ l k 0 st = fin (foldi f 0 st xs) := by
  have key : ∀ (r p : List α) (k : Nat) (st : σ), xs = p ++ r → (∀ x ∈ r, E x) → I p st → r.length < k → I xs (foldi f p.length st r) ∧ l k p.length st = fin (foldi f p.length st r) := by
    intro r
    induction r with
    | nil =>
      intro p k st hx _ hI hk
      obtain ⟨k, rfl⟩ : ∃ j, k = j + 1 := ⟨k - 1, by omega⟩
      rw [List.append_nil] at hx
      subst hx; exact ⟨hI, hn k st hI⟩
    | cons a r ih =>
      intro p k st hx he hI hk
      simp only [List.length_cons] at hk
      obtain ⟨k, rfl⟩ : ∃ j, k = j + 1 := ⟨k - 1, by omega⟩
      have hm := mid_len p r a
      have hxl : (xs.length : Int) = ((p ++ a :: r).length : Int) := by rw [hx]
      obtain ⟨h1, h2⟩ := hc k p a r st hx (he a (by simp)) hI (by omega) (by omega) (by omega) (w64 (by omega) (by omega)) (fun z => by rw [hx, mid_getn])
      have := ih (p ++ [a]) k (f p.length st a) (by rw [hx]; simp) (fun y hy => he y (by simp [hy])) h1 (by omega)
      rw [snoc_len] at this
      rw [h2]
      simpa [foldi] using this
  have := key xs [] k st (by simp) hE hI hk
  simpa using this
def firstOf {α : Type} (P : α → Bool) : Nat → List α → Option (Nat × α)
  | _, [] => none
  | i, a :: r => if P a = true then some (i, a) else firstOf P (i + 1) r
theorem find_loop {α ρ : Type} {E : α → Prop} (P : α → Bool) (hit : Nat → α → Option ρ) (fin : List α → Option ρ) (l : Nat → List α → Int → Option ρ)
    (hn : ∀ k p, l (k + 1) p p.length = fin p)
    (hc : ∀ k p a r, E a → (0 : Int) ≤ (p.length : Int) → (p.length : Int) < ((p ++ a :: r).length : Int) → p.length < 140737488355328 → IntKind.i64.wrap ((p.length : Int) + 1) = (p.length : Int) + 1 → l (k + 1) (p ++ a :: r) p.length = if P a = true then hit p.length a else l k (p ++ a :: r) ((p.length : Int) + 1))
    (xs : List α) (hE : ∀ x ∈ xs, E x) (hB : xs.length ≤ 140737488355328) (k : Nat) (hk : xs.length < k) : l k xs 0 = (firstOf P 0 xs).elim (fin xs) (fun x => hit x.1 x.2) := by
  have key : ∀ (r p : List α) (k : Nat), p.length + r.length ≤ 140737488355328 → (∀ x ∈ r, E x) → r.length < k → l k (p ++ r) p.length = (firstOf P p.length r).elim (fin (p ++ r)) (fun x => hit x.1 x.2) := by
    intro r
    induction r with
    | nil =>
      intro p k _ _ hk
      obtain ⟨k, rfl⟩ : ∃ j, k = j + 1 := ⟨k - 1, by omega⟩
      rw [List.append_nil, hn]; rfl
    | cons a r ih =>
      intro p k hb he hk
      simp only [List.length_cons] at hk hb
      obtain ⟨k, rfl⟩ : ∃ j, k = j + 1 := ⟨k - 1, by omega⟩
      have hm := mid_len p r a
      rw [hc k p a r (he a (by simp)) (by omega) (by omega) (by omega) (w64 (by omega) (by omega))]
      have := ih (p ++ [a]) k (by simp; omega) (fun y hy => he y (by simp [hy])) (by omega)
      rw [mid_snoc, snoc_len] at this
      rw [this]
      cases h : P a <;> simp [h, firstOf]
  have := key xs [] k (by simpa using hB) hE hk
  simpa using this
end Go.Pl
