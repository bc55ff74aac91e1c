/- Part 2 of what the law FnExactDeskAfter stands on: an evaluator of the model's code, proved sound; the functions as plain texts; their contracts. -/
import Derived.Test.YtijddinlmamclaaGreatEvExactDeskAfter1
namespace Go.Pl
open Go.Ev
set_option linter.unusedVariables false
noncomputable section
def QaQ.top (a0 : YD × YE × List YA) (k1 : Int) : Option (Int × YD × YE × List YA) :=
 (QM.f a0.1 k1).bind fun r1 =>
 (Qu.f a0.2.1 r1.1).bind fun r2 =>
 (Qp.f a0.2.2 r2.1).bind fun r3 =>
 some (r3.1, (r1.2, (r2.2, r3.2)))
def QaQ.fn (n : Nat) (a0 : YD × YE × List YA) (k1 : Int) : Option (Int × YD × YE × List YA) := QaQ.top a0 k1
def QaQ.f (a0 : YD × YE × List YA) (k1 : Int) : Option (Int × YD × YE × List YA) := QaQ.fn NN a0 k1
end
end Go.Pl

namespace Go.Pl
open Go.Ev
set_option linter.unusedVariables false
noncomputable section
def Qa8.top  : Option YF :=
 some ([], ([], []))
def Qa8.fn (n : Nat)  : Option YF := Qa8.top 
def Qa8.f  : Option YF := Qa8.fn NN 
end
end Go.Pl

namespace Go.Pl
open Go.Ev
set_option linter.unusedVariables false
noncomputable section
def Qq.top (S : Int → Option ByteArray) (n0 : Int) : Option ByteArray :=
 if (decide ((n0 : Int) < 10)) = true then
 some (bytesOf ([IntKind.u8.wrap (IntKind.i64.wrap (48 + n0))]))
 else
 (S (IntKind.i64.wrap (Int.tdiv n0 10))).bind fun r1 =>
 if r1.size + (bytesOf ([IntKind.u8.wrap (IntKind.i64.wrap (48 + (Int.tmod n0 10)))])).size ≤ 9223372036854775807 then
 some (r1 ++ (bytesOf ([IntKind.u8.wrap (IntKind.i64.wrap (48 + (Int.tmod n0 10)))])))
 else
 none
def Qq.fn (S : Int → Option ByteArray) (n : Nat) (n0 : Int) : Option ByteArray := (Qq.top S) n0
def Qq.rc : Nat → Int → Option ByteArray
 | 0 => fun _ => none
 | k + 1 => (Qq.fn (Qq.rc k)) NN
def Qq.f (n0 : Int) : Option ByteArray := Qq.rc NN n0
end
end Go.Pl

namespace Go.Pl
open Go.Ev
set_option linter.unusedVariables false
noncomputable section
def QC.g3 (L3 : YAK) (p : List YA) (q : ByteArray) (n2 : Int) (r : Int) (i8 : Int) : Option Int :=
 if (decide ((i8 : Int) < n2)) = true then
 if (0 : Int) ≤ i8 ∧ (i8 : Int) < p.length then
 if ((((p.getD (i8 : Int).toNat (0, (ByteArray.empty, 0))).2).1).toList == q.toList) = true then
 if (0 : Int) ≤ i8 ∧ (i8 : Int) < p.length then
 L3 p q n2 (IntKind.i64.wrap (r + (((p.getD (i8 : Int).toNat (0, (ByteArray.empty, 0))).2).2))) (IntKind.i64.wrap (i8 + 1))
 else
 none
 else
 L3 p q n2 r (IntKind.i64.wrap (i8 + 1))
 else
 none
 else
 some r
def QC.l3 (n : Nat) : Nat → YD → ByteArray → Int → Int → Int → Option Int
 | 0 => fun _ _ _ _ _ => none
 | k + 1 => QC.g3 (QC.l3 n k)
def QC.top (I3 : YAK) (p : List YA) (q : ByteArray) (n2 : Int) : Option Int :=
 I3 p q n2 0 0
def QC.fn (n : Nat) (p : List YA) (q : ByteArray) (n2 : Int) : Option Int := QC.top (QC.l3 n n) p q n2
def QC.f (p : List YA) (q : ByteArray) (n2 : Int) : Option Int := QC.fn NN p q n2
end
end Go.Pl

namespace Go.Pl
open Go.Ev
set_option linter.unusedVariables false
noncomputable section
def Q2.g2 (L2 : YAL) (p : List YA) (t1 : Int) (n5 : Int) : Option Int :=
 if (decide ((n5 : Int) < (p.length : Int))) = true then
 if (0 : Int) ≤ n5 ∧ (n5 : Int) < p.length then
 if (decide ((((p.getD (n5 : Int).toNat (0, (ByteArray.empty, 0))).1) : Int) ≤ t1)) = true then
 L2 p t1 (IntKind.i64.wrap (n5 + 1))
 else
 some n5
 else
 none
 else
 some n5
def Q2.l2 (n : Nat) : Nat → YD → Int → Int → Option Int
 | 0 => fun _ _ _ => none
 | k + 1 => Q2.g2 (Q2.l2 n k)
def Q2.top (I2 : YAL) (p : List YA) (t1 : Int) : Option Int :=
 I2 p t1 0
def Q2.fn (n : Nat) (p : List YA) (t1 : Int) : Option Int := Q2.top (Q2.l2 n n) p t1
def Q2.f (p : List YA) (t1 : Int) : Option Int := Q2.fn NN p t1
end
end Go.Pl

namespace Go.Pl
open Go.Ev
set_option linter.unusedVariables false
noncomputable section
def QO.g3 (L3 : YD → ByteArray → Int → Int → Int → Option Bool) (p : List YA) (q : ByteArray) (t2 : Int) (n7 : Int) (i8 : Int) : Option Bool :=
 if (decide ((i8 : Int) < n7)) = true then
 if (0 : Int) ≤ i8 ∧ (i8 : Int) < p.length then
 if ((((p.getD (i8 : Int).toNat (0, (ByteArray.empty, 0))).2).1).toList == q.toList) = true then
 if (0 : Int) ≤ i8 ∧ (i8 : Int) < p.length then
 if (decide ((t2 : Int) < (IntKind.i64.wrap (((p.getD (i8 : Int).toNat (0, (ByteArray.empty, 0))).1) + 30000)))) = true then
 some false
 else
 L3 p q t2 n7 (IntKind.i64.wrap (i8 + 1))
 else
 none
 else
 L3 p q t2 n7 (IntKind.i64.wrap (i8 + 1))
 else
 none
 else
 (QC.f p q n7).bind fun r2 =>
 some ((r2 : Int) == 0)
def QO.l3 (n : Nat) : Nat → YD → ByteArray → Int → Int → Int → Option Bool
 | 0 => fun _ _ _ _ _ => none
 | k + 1 => QO.g3 (QO.l3 n k)
def QO.top (I3 : YD → ByteArray → Int → Int → Int → Option Bool) (p : List YA) (q : ByteArray) (t2 : Int) : Option Bool :=
 (Q2.f p t2).bind fun r1 =>
 I3 p q t2 r1 0
def QO.fn (n : Nat) (p : List YA) (q : ByteArray) (t2 : Int) : Option Bool := QO.top (QO.l3 n n) p q t2
def QO.f (p : List YA) (q : ByteArray) (t2 : Int) : Option Bool := QO.fn NN p q t2
end
end Go.Pl

namespace Go.Pl
open Go.Ev
set_option linter.unusedVariables false
noncomputable section
def Qaj.top (n0 : Int) (q : Int) (p : Int) : Option Bool :=
 if (decide ((q : Int) ≤ n0)) = true then
 some (decide ((n0 : Int) ≤ p))
 else
 some false
def Qaj.fn (n : Nat) (n0 : Int) (q : Int) (p : Int) : Option Bool := Qaj.top n0 q p
def Qaj.f (n0 : Int) (q : Int) (p : Int) : Option Bool := Qaj.fn NN n0 q p
end
end Go.Pl

namespace Go.Pl
open Go.Ev
set_option linter.unusedVariables false
noncomputable section
def QW.g2 (L2 : ByteArray → Int → Option Bool) (s0 : ByteArray) (i3 : Int) : Option Bool :=
 if (decide ((i3 : Int) < (s0.size : Int))) = true then
 if (0 : Int) ≤ i3 ∧ (i3 : Int) < s0.size then
 if (decide (((bt s0 i3) : Int) < 97)) = false then
 if (0 : Int) ≤ i3 ∧ (i3 : Int) < s0.size then
 if (decide ((122 : Int) < (bt s0 i3))) = true then
 some false
 else
 L2 s0 (IntKind.i64.wrap (i3 + 1))
 else
 none
 else
 some false
 else
 none
 else
 (Qaj.f (s0.size : Int) 1 16).bind fun r1 =>
 some r1
def QW.l2 (n : Nat) : Nat → ByteArray → Int → Option Bool
 | 0 => fun _ _ => none
 | k + 1 => QW.g2 (QW.l2 n k)
def QW.top (I2 : ByteArray → Int → Option Bool) (s0 : ByteArray) : Option Bool :=
 I2 s0 0
def QW.fn (n : Nat) (s0 : ByteArray) : Option Bool := QW.top (QW.l2 n n) s0
def QW.f (s0 : ByteArray) : Option Bool := QW.fn NN s0
end
end Go.Pl

namespace Go.Pl
open Go.Ev
set_option linter.unusedVariables false
noncomputable section
def Qam.top (t0 : Int) : Option Bool :=
 (Qaj.f t0 0 10000000).bind fun r1 =>
 some r1
def Qam.fn (n : Nat) (t0 : Int) : Option Bool := Qam.top t0
def Qam.f (t0 : Int) : Option Bool := Qam.fn NN t0
end
end Go.Pl

namespace Go.Pl
open Go.Ev
set_option linter.unusedVariables false
noncomputable section
def QE.g2 (L2 : YD → Int → Option Bool) (p : List YA) (i3 : Int) : Option Bool :=
 if (decide ((i3 : Int) < (p.length : Int))) = true then
 if (0 : Int) ≤ i3 ∧ (i3 : Int) < p.length then
 (Qam.f ((p.getD (i3 : Int).toNat (0, (ByteArray.empty, 0))).1)).bind fun r1 =>
 if (!r1) = false then
 (QW.f (((p.getD (i3 : Int).toNat (0, (ByteArray.empty, 0))).2).1)).bind fun r2 =>
 if (!r2) = false then
 (Qaj.f (((p.getD (i3 : Int).toNat (0, (ByteArray.empty, 0))).2).2) (-1000) 1000).bind fun r3 =>
 if (!r3) = false then
 if (((((p.getD (i3 : Int).toNat (0, (ByteArray.empty, 0))).2).2) : Int) == 0) = false then
 if (decide ((0 : Int) < i3)) = true then
 if (0 : Int) ≤ (IntKind.i64.wrap (i3 - 1)) ∧ ((IntKind.i64.wrap (i3 - 1)) : Int) < p.length then
 if (decide ((((p.getD (i3 : Int).toNat (0, (ByteArray.empty, 0))).1) : Int) < ((p.getD ((IntKind.i64.wrap (i3 - 1)) : Int).toNat (0, (ByteArray.empty, 0))).1))) = false then
 (QC.f p (((p.getD (i3 : Int).toNat (0, (ByteArray.empty, 0))).2).1) (IntKind.i64.wrap (i3 + 1))).bind fun r4 =>
 if (decide ((r4 : Int) < 0)) = true then
 some false
 else
 L2 p (IntKind.i64.wrap (i3 + 1))
 else
 some false
 else
 none
 else
 (QC.f p (((p.getD (i3 : Int).toNat (0, (ByteArray.empty, 0))).2).1) (IntKind.i64.wrap (i3 + 1))).bind fun r5 =>
 if (decide ((r5 : Int) < 0)) = true then
 some false
 else
 L2 p (IntKind.i64.wrap (i3 + 1))
 else
 some false
 else
 some false
 else
 some false
 else
 some false
 else
 none
 else
 some (decide (((p.length : Int) : Int) ≤ 40))
def QE.l2 (n : Nat) : Nat → YD → Int → Option Bool
 | 0 => fun _ _ => none
 | k + 1 => QE.g2 (QE.l2 n k)
def QE.top (I2 : YD → Int → Option Bool) (p : List YA) : Option Bool :=
 I2 p 0
def QE.fn (n : Nat) (p : List YA) : Option Bool := QE.top (QE.l2 n n) p
def QE.f (p : List YA) : Option Bool := QE.fn NN p
end
end Go.Pl

namespace Go.Pl
open Go.Ev
set_option linter.unusedVariables false
noncomputable section
def Qa4.top (p : List YA) (q : ByteArray) (t2 : Int) : Option Int :=
 (QE.f p).bind fun r1 =>
 if (!r1) = false then
 (QW.f q).bind fun r2 =>
 if (!r2) = true then
 some 1
 else
 (Qam.f t2).bind fun r3 =>
 if (!r3) = true then
 some 2
 else
 some 0
 else
 some 1
def Qa4.fn (n : Nat) (p : List YA) (q : ByteArray) (t2 : Int) : Option Int := Qa4.top p q t2
def Qa4.f (p : List YA) (q : ByteArray) (t2 : Int) : Option Int := Qa4.fn NN p q t2
end
end Go.Pl

namespace Go.Pl
open Go.Ev
set_option linter.unusedVariables false
noncomputable section
def QaZ.top (p : List YA) (q : ByteArray) (t2 : Int) : Option (Bool × Int) :=
 (Qa4.f p q t2).bind fun r1 =>
 if ((r1 : Int) != 0) = true then
 some (false, r1)
 else
 (QO.f p q t2).bind fun r2 =>
 some (r2, 0)
def QaZ.fn (n : Nat) (p : List YA) (q : ByteArray) (t2 : Int) : Option (Bool × Int) := QaZ.top p q t2
def QaZ.f (p : List YA) (q : ByteArray) (t2 : Int) : Option (Bool × Int) := QaZ.fn NN p q t2
end
end Go.Pl

namespace Go.Pl
open Go.Ev
set_option linter.unusedVariables false
noncomputable section
def QS.g3 (L3 : YAK) (p : List YA) (q : ByteArray) (n2 : Int) (r : Int) (i8 : Int) : Option Int :=
 if (decide ((i8 : Int) < n2)) = true then
 if (0 : Int) ≤ i8 ∧ (i8 : Int) < p.length then
 if (!((((p.getD (i8 : Int).toNat (0, (ByteArray.empty, 0))).2).1).toList == q.toList)) = true then
 L3 p q n2 r (IntKind.i64.wrap (i8 + 1))
 else if (0 : Int) ≤ i8 ∧ (i8 : Int) < p.length then
 if ((((p.getD (i8 : Int).toNat (0, (ByteArray.empty, 0))).1) : Int) == 0) = true then
 if (0 : Int) ≤ i8 ∧ (i8 : Int) < p.length then
 L3 p q n2 (IntKind.i64.wrap (r + (((p.getD (i8 : Int).toNat (0, (ByteArray.empty, 0))).2).2))) (IntKind.i64.wrap (i8 + 1))
 else
 none
 else if (0 : Int) ≤ i8 ∧ (i8 : Int) < p.length then
 L3 p q n2 (IntKind.i64.wrap (r - (((p.getD (i8 : Int).toNat (0, (ByteArray.empty, 0))).2).2))) (IntKind.i64.wrap (i8 + 1))
 else
 none
 else
 none
 else
 none
 else
 some r
def QS.l3 (n : Nat) : Nat → YD → ByteArray → Int → Int → Int → Option Int
 | 0 => fun _ _ _ _ _ => none
 | k + 1 => QS.g3 (QS.l3 n k)
def QS.top (I3 : YAK) (p : List YA) (q : ByteArray) (n2 : Int) : Option Int :=
 I3 p q n2 0 0
def QS.fn (n : Nat) (p : List YA) (q : ByteArray) (n2 : Int) : Option Int := QS.top (QS.l3 n n) p q n2
def QS.f (p : List YA) (q : ByteArray) (n2 : Int) : Option Int := QS.fn NN p q n2
end
end Go.Pl

namespace Go.Pl
open Go.Ev
set_option linter.unusedVariables false
noncomputable section
def Qh.g2 (L2 : YD → Int → Option Bool) (p : List YA) (i3 : Int) : Option Bool :=
 if (decide ((i3 : Int) < (p.length : Int))) = true then
 if (0 : Int) ≤ i3 ∧ (i3 : Int) < p.length then
 (Qaj.f ((p.getD (i3 : Int).toNat (0, (ByteArray.empty, 0))).1) 0 3).bind fun r1 =>
 if (!r1) = false then
 (QW.f (((p.getD (i3 : Int).toNat (0, (ByteArray.empty, 0))).2).1)).bind fun r2 =>
 if (!r2) = false then
 (Qaj.f (((p.getD (i3 : Int).toNat (0, (ByteArray.empty, 0))).2).2) 1 1000).bind fun r3 =>
 if (!r3) = false then
 (QS.f p (((p.getD (i3 : Int).toNat (0, (ByteArray.empty, 0))).2).1) (IntKind.i64.wrap (i3 + 1))).bind fun r4 =>
 if (decide ((r4 : Int) < 0)) = true then
 some false
 else
 L2 p (IntKind.i64.wrap (i3 + 1))
 else
 some false
 else
 some false
 else
 some false
 else
 none
 else
 some (decide (((p.length : Int) : Int) ≤ 60))
def Qh.l2 (n : Nat) : Nat → YD → Int → Option Bool
 | 0 => fun _ _ => none
 | k + 1 => Qh.g2 (Qh.l2 n k)
def Qh.top (I2 : YD → Int → Option Bool) (p : List YA) : Option Bool :=
 I2 p 0
def Qh.fn (n : Nat) (p : List YA) : Option Bool := Qh.top (Qh.l2 n n) p
def Qh.f (p : List YA) : Option Bool := Qh.fn NN p
end
end Go.Pl

namespace Go.Pl
open Go.Ev
set_option linter.unusedVariables false
noncomputable section
def Qaw.top (q : List YA) (p : ByteArray) : Option YC :=
 (Qh.f q).bind fun r1 =>
 if (!r1) = false then
 (QW.f p).bind fun r2 =>
 if (!r2) = true then
 some (0, 1)
 else
 (QS.f q p (q.length : Int)).bind fun r3 =>
 some (r3, 0)
 else
 some (0, 1)
def Qaw.fn (n : Nat) (q : List YA) (p : ByteArray) : Option YC := Qaw.top q p
def Qaw.f (q : List YA) (p : ByteArray) : Option YC := Qaw.fn NN q p
end
end Go.Pl

namespace Go.Pl
open Go.Ev
set_option linter.unusedVariables false
noncomputable section
def Qa5.top (p : Int) (q : Int) : Option Int :=
 (Qaj.f p 0 500).bind fun r1 =>
 if (!r1) = false then
 (Qaj.f q 0 100000000).bind fun r2 =>
 if (!r2) = true then
 some 2
 else
 some 0
 else
 some 2
def Qa5.fn (n : Nat) (p : Int) (q : Int) : Option Int := Qa5.top p q
def Qa5.f (p : Int) (q : Int) : Option Int := Qa5.fn NN p q
end
end Go.Pl

namespace Go.Pl
open Go.Ev
set_option linter.unusedVariables false
noncomputable section
def QaW.top (n0 : Int) : Option Int :=
 some (IntKind.i64.wrap ((IntKind.i64.wrap (n0 * n0)) * n0))
def QaW.fn (n : Nat) (n0 : Int) : Option Int := QaW.top n0
def QaW.f (n0 : Int) : Option Int := QaW.fn NN n0
end
end Go.Pl

namespace Go.Pl
open Go.Ev
set_option linter.unusedVariables false
noncomputable section
def Q8.g2 (L2 : Int → Int → Int → Int → Option Int) (p : Int) (q : Int) (s : Int) (r : Int) : Option Int :=
 if (decide (((IntKind.i64.wrap (s + 1)) : Int) < r)) = true then
 (QaW.f (IntKind.i64.wrap (Int.tdiv (IntKind.i64.wrap (s + r)) 2))).bind fun r1 =>
 (QaW.f p).bind fun r2 =>
 if (decide (((IntKind.i64.wrap (r2 * q)) : Int) ≤ r1)) = true then
 L2 p q s (IntKind.i64.wrap (Int.tdiv (IntKind.i64.wrap (s + r)) 2))
 else
 L2 p q (IntKind.i64.wrap (Int.tdiv (IntKind.i64.wrap (s + r)) 2)) r
 else
 some r
def Q8.l2 (n : Nat) : Nat → Int → Int → Int → Int → Option Int
 | 0 => fun _ _ _ _ => none
 | k + 1 => Q8.g2 (Q8.l2 n k)
def Q8.top (I2 : Int → Int → Int → Int → Option Int) (p : Int) (q : Int) : Option Int :=
 I2 p q (-1) 300000
def Q8.fn (n : Nat) (p : Int) (q : Int) : Option Int := Q8.top (Q8.l2 n n) p q
def Q8.f (p : Int) (q : Int) : Option Int := Q8.fn NN p q
end
end Go.Pl

namespace Go.Pl
open Go.Ev
set_option linter.unusedVariables false
noncomputable section
def Qal.top (p : Int) (q : Int) : Option YC :=
 (Qa5.f p q).bind fun r1 =>
 if ((r1 : Int) != 0) = true then
 some (0, r1)
 else
 (Q8.f p q).bind fun r2 =>
 some (r2, 0)
def Qal.fn (n : Nat) (p : Int) (q : Int) : Option YC := Qal.top p q
def Qal.f (p : Int) (q : Int) : Option YC := Qal.fn NN p q
end
end Go.Pl

namespace Go.Pl
open Go.Ev
set_option linter.unusedVariables false
noncomputable section
def Qa0.top (t0 : Int) : Option ByteArray :=
 (Qq.f (IntKind.i64.wrap (Int.tdiv t0 60000))).bind fun r1 =>
 if r1.size + (⟨#[58]⟩ : ByteArray).size ≤ 9223372036854775807 then
 (Qq.f (IntKind.i64.wrap (Int.tdiv (Int.tmod (IntKind.i64.wrap (Int.tdiv t0 1000)) 60) 10))).bind fun r2 =>
 if (r1 ++ (⟨#[58]⟩ : ByteArray)).size + r2.size ≤ 9223372036854775807 then
 (Qq.f (Int.tmod (Int.tmod (IntKind.i64.wrap (Int.tdiv t0 1000)) 60) 10)).bind fun r3 =>
 if ((r1 ++ (⟨#[58]⟩ : ByteArray)) ++ r2).size + r3.size ≤ 9223372036854775807 then
 if (((r1 ++ (⟨#[58]⟩ : ByteArray)) ++ r2) ++ r3).size + (⟨#[46]⟩ : ByteArray).size ≤ 9223372036854775807 then
 (Qq.f (IntKind.i64.wrap (Int.tdiv (Int.tmod t0 1000) 100))).bind fun r4 =>
 if ((((r1 ++ (⟨#[58]⟩ : ByteArray)) ++ r2) ++ r3) ++ (⟨#[46]⟩ : ByteArray)).size + r4.size ≤ 9223372036854775807 then
 (Qq.f (Int.tmod (IntKind.i64.wrap (Int.tdiv (Int.tmod t0 1000) 10)) 10)).bind fun r5 =>
 if (((((r1 ++ (⟨#[58]⟩ : ByteArray)) ++ r2) ++ r3) ++ (⟨#[46]⟩ : ByteArray)) ++ r4).size + r5.size ≤ 9223372036854775807 then
 (Qq.f (Int.tmod (Int.tmod t0 1000) 10)).bind fun r6 =>
 if ((((((r1 ++ (⟨#[58]⟩ : ByteArray)) ++ r2) ++ r3) ++ (⟨#[46]⟩ : ByteArray)) ++ r4) ++ r5).size + r6.size ≤ 9223372036854775807 then
 some (((((((r1 ++ (⟨#[58]⟩ : ByteArray)) ++ r2) ++ r3) ++ (⟨#[46]⟩ : ByteArray)) ++ r4) ++ r5) ++ r6)
 else
 none
 else
 none
 else
 none
 else
 none
 else
 none
 else
 none
 else
 none
def Qa0.fn (n : Nat) (t0 : Int) : Option ByteArray := Qa0.top t0
def Qa0.f (t0 : Int) : Option ByteArray := Qa0.fn NN t0
end
end Go.Pl

namespace Go.Pl
open Go.Ev
set_option linter.unusedVariables false
noncomputable section
def QaM.top (t0 : Int) : Option YT :=
 (Qam.f t0).bind fun r1 =>
 if (!r1) = true then
 some ((⟨#[]⟩ : ByteArray), 2)
 else
 (Qa0.f t0).bind fun r2 =>
 some (r2, 0)
def QaM.fn (n : Nat) (t0 : Int) : Option YT := QaM.top t0
def QaM.f (t0 : Int) : Option YT := QaM.fn NN t0
end
end Go.Pl

namespace Go.Pl
open Go.Ev
set_option linter.unusedVariables false
noncomputable section
def Qa6.top (up0 : Int) (p : Int) (q : Int) (t3 : Int) : Option Int :=
 (Qaj.f up0 0 200000).bind fun r1 =>
 if (!r1) = false then
 (Qaj.f p (-50000) 50000).bind fun r2 =>
 if (!r2) = false then
 (Qaj.f q (-50000) 50000).bind fun r3 =>
 if (!r3) = false then
 (Qaj.f t3 0 60000).bind fun r4 =>
 if (!r4) = true then
 some 2
 else
 some 0
 else
 some 2
 else
 some 2
 else
 some 2
def Qa6.fn (n : Nat) (up0 : Int) (p : Int) (q : Int) (t3 : Int) : Option Int := Qa6.top up0 p q t3
def Qa6.f (up0 : Int) (p : Int) (q : Int) (t3 : Int) : Option Int := Qa6.fn NN up0 p q t3
end
end Go.Pl

namespace Go.Pl
open Go.Ev
set_option linter.unusedVariables false
noncomputable section
def QaV.top (a0 : Int) (b1 : Int) : Option Int :=
 if (decide ((b1 : Int) < 0)) = true then
 if (IntKind.i64.wrap (0 - b1)) = 0 then
 none
 else if (IntKind.i64.wrap (0 - b1)) = 0 then
 none
 else if (decide (((Int.tmod (IntKind.i64.wrap (0 - a0)) (IntKind.i64.wrap (0 - b1))) : Int) < 0)) = true then
 some (IntKind.i64.wrap ((IntKind.i64.wrap (Int.tdiv (IntKind.i64.wrap (0 - a0)) (IntKind.i64.wrap (0 - b1)))) - 1))
 else
 some (IntKind.i64.wrap (Int.tdiv (IntKind.i64.wrap (0 - a0)) (IntKind.i64.wrap (0 - b1))))
 else if b1 = 0 then
 none
 else if b1 = 0 then
 none
 else if (decide (((Int.tmod a0 b1) : Int) < 0)) = true then
 some (IntKind.i64.wrap ((IntKind.i64.wrap (Int.tdiv a0 b1)) - 1))
 else
 some (IntKind.i64.wrap (Int.tdiv a0 b1))
def QaV.fn (n : Nat) (a0 : Int) (b1 : Int) : Option Int := QaV.top a0 b1
def QaV.f (a0 : Int) (b1 : Int) : Option Int := QaV.fn NN a0 b1
end
end Go.Pl

namespace Go.Pl
open Go.Ev
set_option linter.unusedVariables false
noncomputable section
def Qau.top (up0 : Int) (t1 : Int) : Option Int :=
 (QaV.f (IntKind.i64.wrap ((IntKind.i64.wrap ((IntKind.i64.wrap (2000 * up0)) * t1)) - (IntKind.i64.wrap ((IntKind.i64.wrap (9810 * t1)) * t1)))) 2000000).bind fun r1 =>
 some r1
def Qau.fn (n : Nat) (up0 : Int) (t1 : Int) : Option Int := Qau.top up0 t1
def Qau.f (up0 : Int) (t1 : Int) : Option Int := Qau.fn NN up0 t1
end
end Go.Pl

namespace Go.Pl
open Go.Ev
set_option linter.unusedVariables false
noncomputable section
def Qaa.g3 (L3 : Int → Int → Int → Option YC) (up0 : Int) (t4 : Int) (p : Int) : Option YC :=
 if (decide ((0 : Int) < t4)) = true then
 (Qau.f up0 (IntKind.i64.wrap (t4 - 1))).bind fun r3 =>
 if ((r3 : Int) == p) = true then
 L3 up0 (IntKind.i64.wrap (t4 - 1)) p
 else
 (Qau.f up0 t4).bind fun r4 =>
 if (decide ((r4 : Int) < p)) = true then
 some (IntKind.i64.wrap (t4 + 1), p)
 else
 some (t4, p)
 else
 (Qau.f up0 t4).bind fun r5 =>
 if (decide ((r5 : Int) < p)) = true then
 some (IntKind.i64.wrap (t4 + 1), p)
 else
 some (t4, p)
def Qaa.l3 (n : Nat) : Nat → Int → Int → Int → Option YC
 | 0 => fun _ _ _ => none
 | k + 1 => Qaa.g3 (Qaa.l3 n k)
def Qaa.top (I3 : Int → Int → Int → Option YC) (up0 : Int) : Option YC :=
 (Qau.f up0 (IntKind.i64.wrap (Int.tdiv (IntKind.i64.wrap (1000 * up0)) 9810))).bind fun r1 =>
 (Qau.f up0 (IntKind.i64.wrap ((IntKind.i64.wrap (Int.tdiv (IntKind.i64.wrap (1000 * up0)) 9810)) + 1))).bind fun r2 =>
 I3 up0 (IntKind.i64.wrap (Int.tdiv (IntKind.i64.wrap (1000 * up0)) 9810)) (if r2 > r1 then r2 else r1)
def Qaa.fn (n : Nat) (up0 : Int) : Option YC := Qaa.top (Qaa.l3 n n) up0
def Qaa.f (up0 : Int) : Option YC := Qaa.fn NN up0
end
end Go.Pl

namespace Go.Pl
open Go.Ev
set_option linter.unusedVariables false
noncomputable section
def Qbc.top (up0 : Int) : Option (Int × Int × Int) :=
 (Qa6.f up0 0 0 0).bind fun r1 =>
 if ((r1 : Int) != 0) = true then
 some (0, 0, r1)
 else
 (Qaa.f up0).bind fun r2 =>
 some (r2.1, r2.2, 0)
def Qbc.fn (n : Nat) (up0 : Int) : Option (Int × Int × Int) := Qbc.top up0
def Qbc.f (up0 : Int) : Option (Int × Int × Int) := Qbc.fn NN up0
end
end Go.Pl

namespace Go.Pl
open Go.Ev
set_option linter.unusedVariables false
noncomputable section
def Q0.g3 (L3 : List ByteArray → ByteArray → ByteArray → Int → Option ByteArray) (p : List ByteArray) (by1 : ByteArray) (q : ByteArray) (i6 : Int) : Option ByteArray :=
 if (decide ((i6 : Int) < (p.length : Int))) = true then
 if (decide ((0 : Int) < i6)) = true then
 if q.size + by1.size ≤ 9223372036854775807 then
 if (0 : Int) ≤ i6 ∧ (i6 : Int) < p.length then
 if (q ++ by1).size + (p.getD (i6 : Int).toNat ByteArray.empty).size ≤ 9223372036854775807 then
 L3 p by1 ((q ++ by1) ++ (p.getD (i6 : Int).toNat ByteArray.empty)) (IntKind.i64.wrap (i6 + 1))
 else
 none
 else
 none
 else
 none
 else if (0 : Int) ≤ i6 ∧ (i6 : Int) < p.length then
 if q.size + (p.getD (i6 : Int).toNat ByteArray.empty).size ≤ 9223372036854775807 then
 L3 p by1 (q ++ (p.getD (i6 : Int).toNat ByteArray.empty)) (IntKind.i64.wrap (i6 + 1))
 else
 none
 else
 none
 else
 some q
def Q0.l3 (n : Nat) : Nat → List ByteArray → ByteArray → ByteArray → Int → Option ByteArray
 | 0 => fun _ _ _ _ => none
 | k + 1 => Q0.g3 (Q0.l3 n k)
def Q0.top (I3 : List ByteArray → ByteArray → ByteArray → Int → Option ByteArray) (p : List ByteArray) (by1 : ByteArray) : Option ByteArray :=
 I3 p by1 (⟨#[]⟩ : ByteArray) 0
def Q0.fn (n : Nat) (p : List ByteArray) (by1 : ByteArray) : Option ByteArray := Q0.top (Q0.l3 n n) p by1
def Q0.f (p : List ByteArray) (by1 : ByteArray) : Option ByteArray := Q0.fn NN p by1
end
end Go.Pl

namespace Go.Pl
open Go.Ev
set_option linter.unusedVariables false
noncomputable section
def Qi.g2 (L2 : YZ) (s1 : ByteArray) (at5 : Int) (p : List ByteArray) : Option YQ :=
 if (decide ((at5 : Int) < (p.length : Int))) = true then
 if (0 : Int) ≤ at5 ∧ (at5 : Int) < p.length then
 if (Op.bytesLess (p.getD (at5 : Int).toNat ByteArray.empty).toList s1.toList) = true then
 L2 s1 (IntKind.i64.wrap (at5 + 1)) p
 else if (decide ((at5 : Int) < (p.length : Int))) = true then
 if (0 : Int) ≤ at5 ∧ (at5 : Int) < p.length then
 if ((p.getD (at5 : Int).toNat ByteArray.empty).toList == s1.toList) = true then
 some p
 else if (0 : Int) ≤ at5 ∧ (at5 : Int) ≤ p.length then
 if (0 : Int) ≤ at5 ∧ (at5 : Int) ≤ p.length then
 if ([] : List ByteArray).length + (p.take (at5 : Int).toNat).length < room 16 then
 if (([] : List ByteArray) ++ (p.take (at5 : Int).toNat)).length + ([s1]).length < room 16 then
 if ((([] : List ByteArray) ++ (p.take (at5 : Int).toNat)) ++ ([s1])).length + (p.drop (at5 : Int).toNat).length < room 16 then
 some (((([] : List ByteArray) ++ (p.take (at5 : Int).toNat)) ++ ([s1])) ++ (p.drop (at5 : Int).toNat))
 else
 none
 else
 none
 else
 none
 else
 none
 else
 none
 else
 none
 else if (0 : Int) ≤ at5 ∧ (at5 : Int) ≤ p.length then
 if (0 : Int) ≤ at5 ∧ (at5 : Int) ≤ p.length then
 if ([] : List ByteArray).length + (p.take (at5 : Int).toNat).length < room 16 then
 if (([] : List ByteArray) ++ (p.take (at5 : Int).toNat)).length + ([s1]).length < room 16 then
 if ((([] : List ByteArray) ++ (p.take (at5 : Int).toNat)) ++ ([s1])).length + (p.drop (at5 : Int).toNat).length < room 16 then
 some (((([] : List ByteArray) ++ (p.take (at5 : Int).toNat)) ++ ([s1])) ++ (p.drop (at5 : Int).toNat))
 else
 none
 else
 none
 else
 none
 else
 none
 else
 none
 else
 none
 else if (decide ((at5 : Int) < (p.length : Int))) = true then
 if (0 : Int) ≤ at5 ∧ (at5 : Int) < p.length then
 if ((p.getD (at5 : Int).toNat ByteArray.empty).toList == s1.toList) = true then
 some p
 else if (0 : Int) ≤ at5 ∧ (at5 : Int) ≤ p.length then
 if (0 : Int) ≤ at5 ∧ (at5 : Int) ≤ p.length then
 if ([] : List ByteArray).length + (p.take (at5 : Int).toNat).length < room 16 then
 if (([] : List ByteArray) ++ (p.take (at5 : Int).toNat)).length + ([s1]).length < room 16 then
 if ((([] : List ByteArray) ++ (p.take (at5 : Int).toNat)) ++ ([s1])).length + (p.drop (at5 : Int).toNat).length < room 16 then
 some (((([] : List ByteArray) ++ (p.take (at5 : Int).toNat)) ++ ([s1])) ++ (p.drop (at5 : Int).toNat))
 else
 none
 else
 none
 else
 none
 else
 none
 else
 none
 else
 none
 else if (0 : Int) ≤ at5 ∧ (at5 : Int) ≤ p.length then
 if (0 : Int) ≤ at5 ∧ (at5 : Int) ≤ p.length then
 if ([] : List ByteArray).length + (p.take (at5 : Int).toNat).length < room 16 then
 if (([] : List ByteArray) ++ (p.take (at5 : Int).toNat)).length + ([s1]).length < room 16 then
 if ((([] : List ByteArray) ++ (p.take (at5 : Int).toNat)) ++ ([s1])).length + (p.drop (at5 : Int).toNat).length < room 16 then
 some (((([] : List ByteArray) ++ (p.take (at5 : Int).toNat)) ++ ([s1])) ++ (p.drop (at5 : Int).toNat))
 else
 none
 else
 none
 else
 none
 else
 none
 else
 none
def Qi.l2 (n : Nat) : Nat → ByteArray → Int → List ByteArray → Option YQ
 | 0 => fun _ _ _ => none
 | k + 1 => Qi.g2 (Qi.l2 n k)
def Qi.top (I2 : YZ) (p : List ByteArray) (s1 : ByteArray) : Option YQ :=
 I2 s1 0 p
def Qi.fn (n : Nat) (p : List ByteArray) (s1 : ByteArray) : Option YQ := Qi.top (Qi.l2 n n) p s1
def Qi.f (p : List ByteArray) (s1 : ByteArray) : Option YQ := Qi.fn NN p s1
end
end Go.Pl

namespace Go.Pl
open Go.Ev
set_option linter.unusedVariables false
noncomputable section
def Q5.g3 (L3 : YD → Int → List ByteArray → Option YQ) (p : List YA) (i4 : Int) (q : List ByteArray) : Option YQ :=
 if (decide ((i4 : Int) < (p.length : Int))) = true then
 if (0 : Int) ≤ i4 ∧ (i4 : Int) < p.length then
 (QS.f p (((p.getD (i4 : Int).toNat (0, (ByteArray.empty, 0))).2).1) (p.length : Int)).bind fun r1 =>
 if (decide ((0 : Int) < r1)) = true then
 if (0 : Int) ≤ i4 ∧ (i4 : Int) < p.length then
 (Qi.f q (((p.getD (i4 : Int).toNat (0, (ByteArray.empty, 0))).2).1)).bind fun r2 =>
 L3 p (IntKind.i64.wrap (i4 + 1)) r2
 else
 none
 else
 L3 p (IntKind.i64.wrap (i4 + 1)) q
 else
 none
 else
 some q
def Q5.l3 (n : Nat) : Nat → YD → Int → List ByteArray → Option YQ
 | 0 => fun _ _ _ => none
 | k + 1 => Q5.g3 (Q5.l3 n k)
def Q5.top (I3 : YD → Int → List ByteArray → Option YQ) (p : List YA) : Option YQ :=
 I3 p 0 []
def Q5.fn (n : Nat) (p : List YA) : Option YQ := Q5.top (Q5.l3 n n) p
def Q5.f (p : List YA) : Option YQ := Q5.fn NN p
end
end Go.Pl

namespace Go.Pl
open Go.Ev
set_option linter.unusedVariables false
noncomputable section
def Qa1.top (c0 : Bool × Bool × Bool × Bool × Bool × Int) : Option YB :=
 some (c0.1, (c0.2.1, (false, (false, c0.2.2.2.2))))
def Qa1.fn (n : Nat) (c0 : Bool × Bool × Bool × Bool × Bool × Int) : Option YB := Qa1.top c0
def Qa1.f (c0 : Bool × Bool × Bool × Bool × Bool × Int) : Option YB := Qa1.fn NN c0
end
end Go.Pl

namespace Go.Pl
open Go.Ev
set_option linter.unusedVariables false
noncomputable section
def QaJ.top (c0 : Bool × Bool × Bool × Bool × Bool × Int) (p : Int) : Option (YB × Bool) :=
 if ((p : Int) == 0) = true then
 if (!(!c0.1)) = true then
 (Qa1.f (!c0.1, c0.2)).bind fun r1 =>
 some (r1, true)
 else
 some ((!c0.1, c0.2), true)
 else if ((p : Int) == 1) = true then
 if (!(!c0.2.1)) = true then
 (Qa1.f (c0.1, (!c0.2.1, c0.2.2))).bind fun r2 =>
 some (r2, true)
 else
 some ((c0.1, (!c0.2.1, c0.2.2)), true)
 else if ((p : Int) == 2) = true then
 if (!c0.1) = false then
 if (!c0.2.1) = false then
 if c0.2.2.2.2.1 = true then
 some (c0, false)
 else
 some ((c0.1, (c0.2.1, (true, (false, (c0.2.2.2.2.1, 0))))), true)
 else
 some (c0, false)
 else
 some (c0, false)
 else if ((p : Int) == 3) = true then
 (Qa1.f c0).bind fun r3 =>
 some (r3, true)
 else if ((p : Int) == 4) = true then
 if (!c0.2.2.1) = false then
 if c0.2.2.2.1 = true then
 some (c0, false)
 else
 some ((c0.1, (c0.2.1, (c0.2.2.1, (true, c0.2.2.2.2)))), true)
 else
 some (c0, false)
 else if ((p : Int) == 5) = true then
 if (!c0.2.2.2.1) = true then
 some (c0, false)
 else
 some ((c0.1, (c0.2.1, (c0.2.2.1, (false, c0.2.2.2.2)))), true)
 else if ((p : Int) == 6) = true then
 (Qa1.f c0).bind fun r4 =>
 some ((r4.1, (r4.2.1, (r4.2.2.1, (r4.2.2.2.1, (true, r4.2.2.2.2.2))))), true)
 else if ((p : Int) == 7) = true then
 some ((c0.1, (c0.2.1, (c0.2.2.1, (c0.2.2.2.1, (c0.2.2.2.2.1, 0))))), true)
 else if ((p : Int) == 8) = true then
 if (decide ((3 : Int) < (if (IntKind.i64.wrap (c0.2.2.2.2.2 + 1)) < 4 then (IntKind.i64.wrap (c0.2.2.2.2.2 + 1)) else 4))) = true then
 (Qa1.f (c0.1, (c0.2.1, (c0.2.2.1, (c0.2.2.2.1, (c0.2.2.2.2.1, (if (IntKind.i64.wrap (c0.2.2.2.2.2 + 1)) < 4 then (IntKind.i64.wrap (c0.2.2.2.2.2 + 1)) else 4))))))).bind fun r5 =>
 some (r5, true)
 else
 some ((c0.1, (c0.2.1, (c0.2.2.1, (c0.2.2.2.1, (c0.2.2.2.2.1, (if (IntKind.i64.wrap (c0.2.2.2.2.2 + 1)) < 4 then (IntKind.i64.wrap (c0.2.2.2.2.2 + 1)) else 4)))))), true)
 else if (!c0.2.2.2.2.1) = false then
 if c0.1 = false then
 if c0.2.1 = true then
 some (c0, false)
 else
 some ((c0.1, (c0.2.1, (c0.2.2.1, (c0.2.2.2.1, (false, c0.2.2.2.2.2))))), true)
 else
 some (c0, false)
 else
 some (c0, false)
def QaJ.fn (n : Nat) (c0 : Bool × Bool × Bool × Bool × Bool × Int) (p : Int) : Option (YB × Bool) := QaJ.top c0 p
def QaJ.f (c0 : Bool × Bool × Bool × Bool × Bool × Int) (p : Int) : Option (YB × Bool) := QaJ.fn NN c0 p
end
end Go.Pl

namespace Go.Pl
open Go.Ev
set_option linter.unusedVariables false
noncomputable section
def QJ.g2 (L2 : Int → YB → Bool → Bool → Bool → Bool → Bool → Int → Option YB) (k5 : Int) (c2 : Bool × Bool × Bool × Bool × Bool × Int) (v4a : Bool) (t : Bool) (s : Bool) (r : Bool) (p : Bool) (q : Int) : Option YB :=
 if (decide ((0 : Int) < k5)) = true then
 (QaJ.f c2 8).bind fun r1 =>
 L2 (IntKind.i64.wrap (k5 - 1)) r1.1 v4a t s r p q
 else
 some c2
def QJ.l2 (n : Nat) : Nat → Int → YB → Bool → Bool → Bool → Bool → Bool → Int → Option YB
 | 0 => fun _ _ _ _ _ _ _ _ => none
 | k + 1 => QJ.g2 (QJ.l2 n k)
def QJ.top (I2 : Int → YB → Bool → Bool → Bool → Bool → Bool → Int → Option YB) (c0 : Bool × Bool × Bool × Bool × Bool × Int) (n1 : Int) : Option YB :=
 I2 (if 5 < n1 then 5 else n1) c0 false false false false false 0
def QJ.fn (n : Nat) (c0 : Bool × Bool × Bool × Bool × Bool × Int) (n1 : Int) : Option YB := QJ.top (QJ.l2 n n) c0 n1
def QJ.f (c0 : Bool × Bool × Bool × Bool × Bool × Int) (n1 : Int) : Option YB := QJ.fn NN c0 n1
end
end Go.Pl

namespace Go.Pl
open Go.Ev
set_option linter.unusedVariables false
noncomputable section
def QQ.g4 (L4 : YAC) (p : List YC) (q : Int) (v : Int) (i9 : Int) (v4a : Bool) (y : Bool) (w : Bool) (u : Bool) (s : Bool) (t : Int) (c6 : Bool × Bool × Bool × Bool × Bool × Int) (r : List Int) : Option YAB :=
 if (decide ((i9 : Int) < (p.length : Int))) = true then
 if (0 : Int) ≤ i9 ∧ (i9 : Int) < p.length then
 if (decide ((((p.getD (i9 : Int).toNat (0, 0)).1) : Int) ≤ q)) = true then
 if (0 : Int) ≤ i9 ∧ (i9 : Int) < p.length then
 (QJ.f c6 (IntKind.i64.wrap (((p.getD (i9 : Int).toNat (0, 0)).1) - v))).bind fun r1 =>
 if (0 : Int) ≤ i9 ∧ (i9 : Int) < p.length then
 if (0 : Int) ≤ i9 ∧ (i9 : Int) < p.length then
 (QaJ.f r1 ((p.getD (i9 : Int).toNat (0, 0)).2)).bind fun r2 =>
 if r2.2 = true then
 L4 p q ((p.getD (i9 : Int).toNat (0, 0)).1) (IntKind.i64.wrap (i9 + 1)) v4a y w u s t r2.1 r
 else if r.length + ([i9]).length < room 8 then
 L4 p q ((p.getD (i9 : Int).toNat (0, 0)).1) (IntKind.i64.wrap (i9 + 1)) v4a y w u s t r1 (r ++ ([i9]))
 else
 none
 else
 none
 else
 none
 else
 none
 else
 (QJ.f c6 (IntKind.i64.wrap (q - v))).bind fun r3 =>
 some (r3, r)
 else
 none
 else
 (QJ.f c6 (IntKind.i64.wrap (q - v))).bind fun r4 =>
 some (r4, r)
def QQ.l4 (n : Nat) : Nat → YE → Int → Int → Int → Bool → Bool → Bool → Bool → Bool → Int → YB → List Int → Option YAB
 | 0 => fun _ _ _ _ _ _ _ _ _ _ _ _ => none
 | k + 1 => QQ.g4 (QQ.l4 n k)
def QQ.top (I4 : YAC) (p : List YC) (q : Int) : Option YAB :=
 I4 p q 0 0 false false false false false 0 (false, (false, (false, (false, (false, 0))))) []
def QQ.fn (n : Nat) (p : List YC) (q : Int) : Option YAB := QQ.top (QQ.l4 n n) p q
def QQ.f (p : List YC) (q : Int) : Option YAB := QQ.fn NN p q
end
end Go.Pl

namespace Go.Pl
open Go.Ev
set_option linter.unusedVariables false
noncomputable section
def Qe.g9 (L3 : YAD) (L9 : List Int → YE → YD → List ByteArray → Int → Int → Bool → Int → List Int → Option YN) (p : List Int) (s : List YC) (r : List YA) (q : List ByteArray) (i10 : Int) (u : Int) (v : Bool) (k15 : Int) (t : List Int) : Option YN :=
 if (decide ((k15 : Int) < (q.length : Int))) = true then
 if v = true then
 if (0 : Int) ≤ k15 ∧ (k15 : Int) < q.length then
 (QO.f r (q.getD (k15 : Int).toNat ByteArray.empty) (IntKind.i64.wrap (u * 100))).bind fun r2 =>
 L9 p s r q i10 u r2 (IntKind.i64.wrap (k15 + 1)) t
 else
 none
 else
 L9 p s r q i10 u false (IntKind.i64.wrap (k15 + 1)) t
 else if v = true then
 if t.length + ([u]).length < room 8 then
 L3 p s r q (IntKind.i64.wrap (i10 + 1)) (t ++ ([u]))
 else
 none
 else if t.length + ([(-1)]).length < room 8 then
 L3 p s r q (IntKind.i64.wrap (i10 + 1)) (t ++ ([(-1)]))
 else
 none
def Qe.l9 (n : Nat) (L3 : YAD) : Nat → List Int → YE → YD → List ByteArray → Int → Int → Bool → Int → List Int → Option YN
 | 0 => fun _ _ _ _ _ _ _ _ _ => none
 | k + 1 => Qe.g9 L3 (Qe.l9 n L3 k)
def Qe.g3 (I9 : List Int → YE → YD → List ByteArray → Int → Int → Bool → Int → List Int → Option YN) (L3 : YAD) (p : List Int) (s : List YC) (r : List YA) (q : List ByteArray) (i10 : Int) (t : List Int) : Option YN :=
 if (decide ((i10 : Int) < (p.length : Int))) = true then
 if (0 : Int) ≤ i10 ∧ (i10 : Int) < p.length then
 (QQ.f s (IntKind.i64.wrap (Int.tdiv (p.getD (i10 : Int).toNat 0) 100))).bind fun r1 =>
 if r1.1.2.2.1 = true then
 I9 p s r q i10 (IntKind.i64.wrap (Int.tdiv (p.getD (i10 : Int).toNat 0) 100)) (!r1.1.2.2.2.1) 0 t
 else
 I9 p s r q i10 (IntKind.i64.wrap (Int.tdiv (p.getD (i10 : Int).toNat 0) 100)) false 0 t
 else
 none
 else
 some t
def Qe.l3 (n : Nat) : Nat → List Int → YE → YD → List ByteArray → Int → List Int → Option YN
 | 0 => fun _ _ _ _ _ _ => none
 | k + 1 => Qe.g3 (Qe.l9 n (Qe.l3 n k) n) (Qe.l3 n k)
def Qe.top (I3 : YAD) (p : List Int) (s : List YC) (r : List YA) (q : List ByteArray) : Option YN :=
 I3 p s r q 0 []
def Qe.fn (n : Nat) (p : List Int) (s : List YC) (r : List YA) (q : List ByteArray) : Option YN := Qe.top (Qe.l3 n n) p s r q
def Qe.f (p : List Int) (s : List YC) (r : List YA) (q : List ByteArray) : Option YN := Qe.fn NN p s r q
end
end Go.Pl

namespace Go.Pl
open Go.Ev
set_option linter.unusedVariables false
noncomputable section
def Q6.g5 (L5 : Int → Int → YF → List ByteArray → Option YT) (t1 : Int) (i7 : Int) (d2 : YD × YE × List YA) (p : List ByteArray) : Option YT :=
 if (decide ((i7 : Int) < (d2.1.length : Int))) = true then
 if (0 : Int) ≤ i7 ∧ (i7 : Int) < d2.1.length then
 (Qi.f p (((d2.1.getD (i7 : Int).toNat (0, (ByteArray.empty, 0))).2).1)).bind fun r2 =>
 L5 t1 (IntKind.i64.wrap (i7 + 1)) d2 r2
 else
 none
 else
 (Qe.f ([t1]) d2.2.1 d2.1 p).bind fun r3 =>
 if (0 : Int) ≤ 0 ∧ (0 : Int) < r3.length then
 if (decide (((r3.getD (0 : Int).toNat 0) : Int) < 0)) = true then
 some ((⟨#[109, 105, 115, 115, 101, 100]⟩ : ByteArray), 0)
 else
 (Qq.f (r3.getD (0 : Int).toNat 0)).bind fun r4 =>
 some (r4, 0)
 else
 none
def Q6.l5 (n : Nat) : Nat → Int → Int → YF → List ByteArray → Option YT
 | 0 => fun _ _ _ _ => none
 | k + 1 => Q6.g5 (Q6.l5 n k)
def Q6.top (I5 : Int → Int → YF → List ByteArray → Option YT) (d0 : YD × YE × List YA) (t1 : Int) : Option YT :=
 (Qam.f t1).bind fun r1 =>
 if (!r1) = true then
 some ((⟨#[]⟩ : ByteArray), 1)
 else
 I5 t1 0 d0 []
def Q6.fn (n : Nat) (d0 : YD × YE × List YA) (t1 : Int) : Option YT := Q6.top (Q6.l5 n n) d0 t1
def Q6.f (d0 : YD × YE × List YA) (t1 : Int) : Option YT := Q6.fn NN d0 t1
end
end Go.Pl

namespace Go.Pl
open Go.Ev
set_option linter.unusedVariables false
noncomputable section
def Qm.g2 (L2 : YE → Int → Option Bool) (p : List YC) (i3 : Int) : Option Bool :=
 if (decide ((i3 : Int) < (p.length : Int))) = true then
 if (0 : Int) ≤ i3 ∧ (i3 : Int) < p.length then
 (Qaj.f ((p.getD (i3 : Int).toNat (0, 0)).1) 0 100000).bind fun r1 =>
 if (!r1) = false then
 (Qaj.f ((p.getD (i3 : Int).toNat (0, 0)).2) 0 9).bind fun r2 =>
 if (!r2) = false then
 if ((((p.getD (i3 : Int).toNat (0, 0)).2) : Int) == 8) = false then
 if (decide ((0 : Int) < i3)) = true then
 if (0 : Int) ≤ (IntKind.i64.wrap (i3 - 1)) ∧ ((IntKind.i64.wrap (i3 - 1)) : Int) < p.length then
 if (decide ((((p.getD (i3 : Int).toNat (0, 0)).1) : Int) < ((p.getD ((IntKind.i64.wrap (i3 - 1)) : Int).toNat (0, 0)).1))) = true then
 some false
 else
 L2 p (IntKind.i64.wrap (i3 + 1))
 else
 none
 else
 L2 p (IntKind.i64.wrap (i3 + 1))
 else
 some false
 else
 some false
 else
 some false
 else
 none
 else
 some (decide (((p.length : Int) : Int) ≤ 40))
def Qm.l2 (n : Nat) : Nat → YE → Int → Option Bool
 | 0 => fun _ _ => none
 | k + 1 => Qm.g2 (Qm.l2 n k)
def Qm.top (I2 : YE → Int → Option Bool) (p : List YC) : Option Bool :=
 I2 p 0
def Qm.fn (n : Nat) (p : List YC) : Option Bool := Qm.top (Qm.l2 n n) p
def Qm.f (p : List YC) : Option Bool := Qm.fn NN p
end
end Go.Pl

namespace Go.Pl
open Go.Ev
set_option linter.unusedVariables false
noncomputable section
def Qa7.top (p : List YC) (q : Int) : Option Int :=
 (Qm.f p).bind fun r1 =>
 if (!r1) = true then
 some 1
 else
 (Qaj.f q 0 100000).bind fun r2 =>
 if (!r2) = true then
 some 2
 else
 some 0
def Qa7.fn (n : Nat) (p : List YC) (q : Int) : Option Int := Qa7.top p q
def Qa7.f (p : List YC) (q : Int) : Option Int := Qa7.fn NN p q
end
end Go.Pl

namespace Go.Pl
open Go.Ev
set_option linter.unusedVariables false
noncomputable section
def Qaq.top (p : List YC) (q : Int) : Option YJ :=
 (Qa7.f p q).bind fun r1 =>
 if ((r1 : Int) != 0) = true then
 some ((false, (false, (false, (false, (false, 0))))), r1)
 else
 (QQ.f p q).bind fun r2 =>
 some ((r2.1.1, (r2.1.2.1, (r2.1.2.2.1, (r2.1.2.2.2.1, (r2.1.2.2.2.2.1, r2.1.2.2.2.2.2))))), 0)
def Qaq.fn (n : Nat) (p : List YC) (q : Int) : Option YJ := Qaq.top p q
def Qaq.f (p : List YC) (q : Int) : Option YJ := Qaq.fn NN p q
end
end Go.Pl

namespace Go.Pl
open Go.Ev
set_option linter.unusedVariables false
noncomputable section
def QaR.top (d0 : YD × YE × List YA) (p : Int) : Option YT :=
 (Qaq.f d0.2.1 p).bind fun r1 =>
 if r1.1.2.2.2.2.1 = true then
 some ((⟨#[115, 116, 111, 112, 112, 101, 100]⟩ : ByteArray), r1.2)
 else if r1.1.2.2.2.1 = true then
 some ((⟨#[104, 101, 108, 100]⟩ : ByteArray), r1.2)
 else if r1.1.2.2.1 = true then
 some ((⟨#[97, 114, 109, 101, 100]⟩ : ByteArray), r1.2)
 else
 some ((⟨#[111, 102, 102]⟩ : ByteArray), r1.2)
def QaR.fn (n : Nat) (d0 : YD × YE × List YA) (p : Int) : Option YT := QaR.top d0 p
def QaR.f (d0 : YD × YE × List YA) (p : Int) : Option YT := QaR.fn NN d0 p
end
end Go.Pl

namespace Go.Pl
open Go.Ev
set_option linter.unusedVariables false
noncomputable section
def Qad.top (d0 : YD × YE × List YA) (p : List ByteArray) (n2 : List Int) : Option YT :=
 if (0 : Int) ≤ 0 ∧ (0 : Int) < p.length then
 if ((p.getD (0 : Int).toNat ByteArray.empty).toList == (⟨#[99, 108, 101, 97, 114]⟩ : ByteArray).toList) = true then
 if (0 : Int) ≤ 1 ∧ (1 : Int) < p.length then
 if (0 : Int) ≤ 0 ∧ (0 : Int) < n2.length then
 (QaZ.f d0.1 (p.getD (1 : Int).toNat ByteArray.empty) (n2.getD (0 : Int).toNat 0)).bind fun r1 =>
 if r1.1 = true then
 some ((⟨#[121, 101, 115]⟩ : ByteArray), r1.2)
 else
 some ((⟨#[110, 111]⟩ : ByteArray), r1.2)
 else
 none
 else
 none
 else if ((p.getD (0 : Int).toNat ByteArray.empty).toList == (⟨#[115, 116, 97, 116, 101]⟩ : ByteArray).toList) = true then
 if (0 : Int) ≤ 0 ∧ (0 : Int) < n2.length then
 (QaR.f d0 (n2.getD (0 : Int).toNat 0)).bind fun r2 =>
 some (r2.1, r2.2)
 else
 none
 else if ((p.getD (0 : Int).toNat ByteArray.empty).toList == (⟨#[102, 105, 114, 101]⟩ : ByteArray).toList) = true then
 if (0 : Int) ≤ 0 ∧ (0 : Int) < n2.length then
 (Q6.f d0 (n2.getD (0 : Int).toNat 0)).bind fun r3 =>
 some (r3.1, r3.2)
 else
 none
 else if ((p.getD (0 : Int).toNat ByteArray.empty).toList == (⟨#[108, 101, 102, 116]⟩ : ByteArray).toList) = true then
 if (0 : Int) ≤ 1 ∧ (1 : Int) < p.length then
 (Qaw.f d0.2.2 (p.getD (1 : Int).toNat ByteArray.empty)).bind fun r4 =>
 (Qq.f r4.1).bind fun r5 =>
 some (r5, r4.2)
 else
 none
 else if ((p.getD (0 : Int).toNat ByteArray.empty).toList == (⟨#[111, 112, 101, 110]⟩ : ByteArray).toList) = true then
 (Q5.f d0.2.2).bind fun r6 =>
 if (((r6.length : Int) : Int) == 0) = true then
 some ((⟨#[45]⟩ : ByteArray), 0)
 else
 (Q0.f r6 (⟨#[44]⟩ : ByteArray)).bind fun r7 =>
 some (r7, 0)
 else if ((p.getD (0 : Int).toNat ByteArray.empty).toList == (⟨#[116, 111, 112]⟩ : ByteArray).toList) = true then
 if (0 : Int) ≤ 0 ∧ (0 : Int) < n2.length then
 (Qbc.f (n2.getD (0 : Int).toNat 0)).bind fun r8 =>
 (Qq.f r8.1).bind fun r9 =>
 if r9.size + (⟨#[32]⟩ : ByteArray).size ≤ 9223372036854775807 then
 (Qq.f r8.2.1).bind fun r10 =>
 if (r9 ++ (⟨#[32]⟩ : ByteArray)).size + r10.size ≤ 9223372036854775807 then
 some ((r9 ++ (⟨#[32]⟩ : ByteArray)) ++ r10, r8.2.2)
 else
 none
 else
 none
 else
 none
 else if ((p.getD (0 : Int).toNat ByteArray.empty).toList == (⟨#[110, 101, 101, 100]⟩ : ByteArray).toList) = true then
 if (0 : Int) ≤ 0 ∧ (0 : Int) < n2.length then
 if (0 : Int) ≤ 1 ∧ (1 : Int) < n2.length then
 (Qal.f (n2.getD (0 : Int).toNat 0) (n2.getD (1 : Int).toNat 0)).bind fun r11 =>
 (Qq.f r11.1).bind fun r12 =>
 some (r12, r11.2)
 else
 none
 else
 none
 else if (0 : Int) ≤ 0 ∧ (0 : Int) < n2.length then
 (QaM.f (n2.getD (0 : Int).toNat 0)).bind fun r13 =>
 some (r13.1, r13.2)
 else
 none
 else
 none
def Qad.fn (n : Nat) (d0 : YD × YE × List YA) (p : List ByteArray) (n2 : List Int) : Option YT := Qad.top d0 p n2
def Qad.f (d0 : YD × YE × List YA) (p : List ByteArray) (n2 : List Int) : Option YT := Qad.fn NN d0 p n2
end
end Go.Pl

namespace Go.Pl
open Go.Ev
set_option linter.unusedVariables false
noncomputable section
def QK.g5 (L5 : ByteArray → Int → Int → Option YAE) (s0 : ByteArray) (n4 : Int) (i5 : Int) : Option YAE :=
 if (decide ((i5 : Int) < (s0.size : Int))) = true then
 if (0 : Int) ≤ i5 ∧ (i5 : Int) < s0.size then
 if (decide (((bt s0 i5) : Int) < 48)) = false then
 if (0 : Int) ≤ i5 ∧ (i5 : Int) < s0.size then
 if (decide ((57 : Int) < (bt s0 i5))) = true then
 some (0, false)
 else if (0 : Int) ≤ i5 ∧ (i5 : Int) < s0.size then
 L5 s0 (IntKind.i64.wrap ((IntKind.i64.wrap (10 * n4)) + (IntKind.i64.wrap (IntKind.u8.wrap ((bt s0 i5) - 48))))) (IntKind.i64.wrap (i5 + 1))
 else
 none
 else
 none
 else
 some (0, false)
 else
 none
 else
 (Qq.f n4).bind fun r1 =>
 some (n4, r1.toList == s0.toList)
def QK.l5 (n : Nat) : Nat → ByteArray → Int → Int → Option YAE
 | 0 => fun _ _ _ => none
 | k + 1 => QK.g5 (QK.l5 n k)
def QK.top (I5 : ByteArray → Int → Int → Option YAE) (s0 : ByteArray) : Option YAE :=
 if (decide (((s0.size : Int) : Int) < 1)) = false then
 if (decide ((13 : Int) < (s0.size : Int))) = true then
 some (0, false)
 else
 I5 s0 0 0
 else
 some (0, false)
def QK.fn (n : Nat) (s0 : ByteArray) : Option YAE := QK.top (QK.l5 n n) s0
def QK.f (s0 : ByteArray) : Option YAE := QK.fn NN s0
end
end Go.Pl

namespace Go.Pl
open Go.Ev
set_option linter.unusedVariables false
noncomputable section
def Qaz.top (s0 : ByteArray) : Option YAE :=
 if (decide ((0 : Int) < (s0.size : Int))) = true then
 if (0 : Int) ≤ 0 ∧ (0 : Int) < s0.size then
 if (((bt s0 0) : Int) == 45) = true then
 if (0 : Int) ≤ 1 ∧ (1 : Int) ≤ s0.size then
 (QK.f (s0.extract (1 : Int).toNat s0.size)).bind fun r1 =>
 if r1.2 = true then
 some (IntKind.i64.wrap (0 - r1.1), decide ((0 : Int) < r1.1))
 else
 some (IntKind.i64.wrap (0 - r1.1), false)
 else
 none
 else
 (QK.f s0).bind fun r2 =>
 some (r2.1, r2.2)
 else
 none
 else
 (QK.f s0).bind fun r3 =>
 some (r3.1, r3.2)
def Qaz.fn (n : Nat) (s0 : ByteArray) : Option YAE := Qaz.top s0
def Qaz.f (s0 : ByteArray) : Option YAE := Qaz.fn NN s0
end
end Go.Pl

namespace Go.Pl
open Go.Ev
set_option linter.unusedVariables false
noncomputable section
def QP.g4 (L4 : YAF) (s0 : ByteArray) (by1 : Int) (p : Int) (i7 : Int) (q : List ByteArray) : Option YQ :=
 if (decide ((i7 : Int) ≤ (s0.size : Int))) = true then
 if ((i7 : Int) == (s0.size : Int)) = false then
 if (0 : Int) ≤ i7 ∧ (i7 : Int) < s0.size then
 if (((bt s0 i7) : Int) == by1) = true then
 if (0 : Int) ≤ p ∧ (p : Int) ≤ i7 ∧ (i7 : Int) ≤ s0.size then
 if q.length + ([s0.extract (p : Int).toNat (i7 : Int).toNat]).length < room 16 then
 L4 s0 by1 (IntKind.i64.wrap (i7 + 1)) (IntKind.i64.wrap (i7 + 1)) (q ++ ([s0.extract (p : Int).toNat (i7 : Int).toNat]))
 else
 none
 else
 none
 else
 L4 s0 by1 p (IntKind.i64.wrap (i7 + 1)) q
 else
 none
 else if (0 : Int) ≤ p ∧ (p : Int) ≤ i7 ∧ (i7 : Int) ≤ s0.size then
 if q.length + ([s0.extract (p : Int).toNat (i7 : Int).toNat]).length < room 16 then
 L4 s0 by1 (IntKind.i64.wrap (i7 + 1)) (IntKind.i64.wrap (i7 + 1)) (q ++ ([s0.extract (p : Int).toNat (i7 : Int).toNat]))
 else
 none
 else
 none
 else
 some q
def QP.l4 (n : Nat) : Nat → ByteArray → Int → Int → Int → List ByteArray → Option YQ
 | 0 => fun _ _ _ _ _ => none
 | k + 1 => QP.g4 (QP.l4 n k)
def QP.top (I4 : YAF) (s0 : ByteArray) (by1 : Int) : Option YQ :=
 I4 s0 by1 0 0 []
def QP.fn (n : Nat) (s0 : ByteArray) (by1 : Int) : Option YQ := QP.top (QP.l4 n n) s0 by1
def QP.f (s0 : ByteArray) (by1 : Int) : Option YQ := QP.fn NN s0 by1
end
end Go.Pl

namespace Go.Pl
open Go.Ev
set_option linter.unusedVariables false
noncomputable section
def QaT.top (p : ByteArray) : Option ByteArray :=
 if (p.toList == (⟨#[111, 112, 101, 110]⟩ : ByteArray).toList) = true then
 some (⟨#[]⟩ : ByteArray)
 else if (p.toList == (⟨#[115, 116, 97, 116, 101]⟩ : ByteArray).toList) = true then
 if (p.toList == (⟨#[115, 116, 97, 116, 101]⟩ : ByteArray).toList) = true then
 some (⟨#[73]⟩ : ByteArray)
 else if (p.toList == (⟨#[108, 101, 102, 116]⟩ : ByteArray).toList) = true then
 some (⟨#[84]⟩ : ByteArray)
 else if (p.toList == (⟨#[99, 108, 101, 97, 114]⟩ : ByteArray).toList) = true then
 if (p.toList == (⟨#[99, 108, 101, 97, 114]⟩ : ByteArray).toList) = true then
 some (⟨#[84, 73]⟩ : ByteArray)
 else if (p.toList == (⟨#[110, 101, 101, 100]⟩ : ByteArray).toList) = true then
 some (⟨#[73, 73]⟩ : ByteArray)
 else if (p.toList == (⟨#[112, 101, 111, 112, 108, 101]⟩ : ByteArray).toList) = true then
 some (⟨#[84, 73, 74]⟩ : ByteArray)
 else if (p.toList == (⟨#[98, 111, 111, 107]⟩ : ByteArray).toList) = true then
 some (⟨#[84, 84, 73]⟩ : ByteArray)
 else
 some (⟨#[45]⟩ : ByteArray)
 else if (p.toList == (⟨#[115, 105, 103, 110, 97, 108]⟩ : ByteArray).toList) = true then
 some (⟨#[84, 73]⟩ : ByteArray)
 else if (p.toList == (⟨#[110, 101, 101, 100]⟩ : ByteArray).toList) = true then
 some (⟨#[73, 73]⟩ : ByteArray)
 else if (p.toList == (⟨#[112, 101, 111, 112, 108, 101]⟩ : ByteArray).toList) = true then
 some (⟨#[84, 73, 74]⟩ : ByteArray)
 else if (p.toList == (⟨#[98, 111, 111, 107]⟩ : ByteArray).toList) = true then
 some (⟨#[84, 84, 73]⟩ : ByteArray)
 else
 some (⟨#[45]⟩ : ByteArray)
 else if (p.toList == (⟨#[102, 105, 114, 101]⟩ : ByteArray).toList) = true then
 if (p.toList == (⟨#[102, 105, 114, 101]⟩ : ByteArray).toList) = true then
 some (⟨#[73]⟩ : ByteArray)
 else if (p.toList == (⟨#[108, 101, 102, 116]⟩ : ByteArray).toList) = true then
 some (⟨#[84]⟩ : ByteArray)
 else if (p.toList == (⟨#[99, 108, 101, 97, 114]⟩ : ByteArray).toList) = true then
 if (p.toList == (⟨#[99, 108, 101, 97, 114]⟩ : ByteArray).toList) = true then
 some (⟨#[84, 73]⟩ : ByteArray)
 else if (p.toList == (⟨#[110, 101, 101, 100]⟩ : ByteArray).toList) = true then
 some (⟨#[73, 73]⟩ : ByteArray)
 else if (p.toList == (⟨#[112, 101, 111, 112, 108, 101]⟩ : ByteArray).toList) = true then
 some (⟨#[84, 73, 74]⟩ : ByteArray)
 else if (p.toList == (⟨#[98, 111, 111, 107]⟩ : ByteArray).toList) = true then
 some (⟨#[84, 84, 73]⟩ : ByteArray)
 else
 some (⟨#[45]⟩ : ByteArray)
 else if (p.toList == (⟨#[115, 105, 103, 110, 97, 108]⟩ : ByteArray).toList) = true then
 some (⟨#[84, 73]⟩ : ByteArray)
 else if (p.toList == (⟨#[110, 101, 101, 100]⟩ : ByteArray).toList) = true then
 some (⟨#[73, 73]⟩ : ByteArray)
 else if (p.toList == (⟨#[112, 101, 111, 112, 108, 101]⟩ : ByteArray).toList) = true then
 some (⟨#[84, 73, 74]⟩ : ByteArray)
 else if (p.toList == (⟨#[98, 111, 111, 107]⟩ : ByteArray).toList) = true then
 some (⟨#[84, 84, 73]⟩ : ByteArray)
 else
 some (⟨#[45]⟩ : ByteArray)
 else if (p.toList == (⟨#[115, 101, 116, 116, 108, 101]⟩ : ByteArray).toList) = true then
 if (p.toList == (⟨#[115, 101, 116, 116, 108, 101]⟩ : ByteArray).toList) = true then
 some (⟨#[73]⟩ : ByteArray)
 else if (p.toList == (⟨#[108, 101, 102, 116]⟩ : ByteArray).toList) = true then
 some (⟨#[84]⟩ : ByteArray)
 else if (p.toList == (⟨#[99, 108, 101, 97, 114]⟩ : ByteArray).toList) = true then
 if (p.toList == (⟨#[99, 108, 101, 97, 114]⟩ : ByteArray).toList) = true then
 some (⟨#[84, 73]⟩ : ByteArray)
 else if (p.toList == (⟨#[110, 101, 101, 100]⟩ : ByteArray).toList) = true then
 some (⟨#[73, 73]⟩ : ByteArray)
 else if (p.toList == (⟨#[112, 101, 111, 112, 108, 101]⟩ : ByteArray).toList) = true then
 some (⟨#[84, 73, 74]⟩ : ByteArray)
 else if (p.toList == (⟨#[98, 111, 111, 107]⟩ : ByteArray).toList) = true then
 some (⟨#[84, 84, 73]⟩ : ByteArray)
 else
 some (⟨#[45]⟩ : ByteArray)
 else if (p.toList == (⟨#[115, 105, 103, 110, 97, 108]⟩ : ByteArray).toList) = true then
 some (⟨#[84, 73]⟩ : ByteArray)
 else if (p.toList == (⟨#[110, 101, 101, 100]⟩ : ByteArray).toList) = true then
 some (⟨#[73, 73]⟩ : ByteArray)
 else if (p.toList == (⟨#[112, 101, 111, 112, 108, 101]⟩ : ByteArray).toList) = true then
 some (⟨#[84, 73, 74]⟩ : ByteArray)
 else if (p.toList == (⟨#[98, 111, 111, 107]⟩ : ByteArray).toList) = true then
 some (⟨#[84, 84, 73]⟩ : ByteArray)
 else
 some (⟨#[45]⟩ : ByteArray)
 else if (p.toList == (⟨#[116, 111, 112]⟩ : ByteArray).toList) = true then
 if (p.toList == (⟨#[116, 111, 112]⟩ : ByteArray).toList) = true then
 some (⟨#[73]⟩ : ByteArray)
 else if (p.toList == (⟨#[108, 101, 102, 116]⟩ : ByteArray).toList) = true then
 some (⟨#[84]⟩ : ByteArray)
 else if (p.toList == (⟨#[99, 108, 101, 97, 114]⟩ : ByteArray).toList) = true then
 if (p.toList == (⟨#[99, 108, 101, 97, 114]⟩ : ByteArray).toList) = true then
 some (⟨#[84, 73]⟩ : ByteArray)
 else if (p.toList == (⟨#[110, 101, 101, 100]⟩ : ByteArray).toList) = true then
 some (⟨#[73, 73]⟩ : ByteArray)
 else if (p.toList == (⟨#[112, 101, 111, 112, 108, 101]⟩ : ByteArray).toList) = true then
 some (⟨#[84, 73, 74]⟩ : ByteArray)
 else if (p.toList == (⟨#[98, 111, 111, 107]⟩ : ByteArray).toList) = true then
 some (⟨#[84, 84, 73]⟩ : ByteArray)
 else
 some (⟨#[45]⟩ : ByteArray)
 else if (p.toList == (⟨#[115, 105, 103, 110, 97, 108]⟩ : ByteArray).toList) = true then
 some (⟨#[84, 73]⟩ : ByteArray)
 else if (p.toList == (⟨#[110, 101, 101, 100]⟩ : ByteArray).toList) = true then
 some (⟨#[73, 73]⟩ : ByteArray)
 else if (p.toList == (⟨#[112, 101, 111, 112, 108, 101]⟩ : ByteArray).toList) = true then
 some (⟨#[84, 73, 74]⟩ : ByteArray)
 else if (p.toList == (⟨#[98, 111, 111, 107]⟩ : ByteArray).toList) = true then
 some (⟨#[84, 84, 73]⟩ : ByteArray)
 else
 some (⟨#[45]⟩ : ByteArray)
 else if (p.toList == (⟨#[116, 105, 109, 101]⟩ : ByteArray).toList) = true then
 some (⟨#[73]⟩ : ByteArray)
 else if (p.toList == (⟨#[108, 101, 102, 116]⟩ : ByteArray).toList) = true then
 some (⟨#[84]⟩ : ByteArray)
 else if (p.toList == (⟨#[99, 108, 101, 97, 114]⟩ : ByteArray).toList) = true then
 if (p.toList == (⟨#[99, 108, 101, 97, 114]⟩ : ByteArray).toList) = true then
 some (⟨#[84, 73]⟩ : ByteArray)
 else if (p.toList == (⟨#[110, 101, 101, 100]⟩ : ByteArray).toList) = true then
 some (⟨#[73, 73]⟩ : ByteArray)
 else if (p.toList == (⟨#[112, 101, 111, 112, 108, 101]⟩ : ByteArray).toList) = true then
 some (⟨#[84, 73, 74]⟩ : ByteArray)
 else if (p.toList == (⟨#[98, 111, 111, 107]⟩ : ByteArray).toList) = true then
 some (⟨#[84, 84, 73]⟩ : ByteArray)
 else
 some (⟨#[45]⟩ : ByteArray)
 else if (p.toList == (⟨#[115, 105, 103, 110, 97, 108]⟩ : ByteArray).toList) = true then
 some (⟨#[84, 73]⟩ : ByteArray)
 else if (p.toList == (⟨#[110, 101, 101, 100]⟩ : ByteArray).toList) = true then
 some (⟨#[73, 73]⟩ : ByteArray)
 else if (p.toList == (⟨#[112, 101, 111, 112, 108, 101]⟩ : ByteArray).toList) = true then
 some (⟨#[84, 73, 74]⟩ : ByteArray)
 else if (p.toList == (⟨#[98, 111, 111, 107]⟩ : ByteArray).toList) = true then
 some (⟨#[84, 84, 73]⟩ : ByteArray)
 else
 some (⟨#[45]⟩ : ByteArray)
def QaT.fn (n : Nat) (p : ByteArray) : Option ByteArray := QaT.top p
def QaT.f (p : ByteArray) : Option ByteArray := QaT.fn NN p
end
end Go.Pl

namespace Go.Pl
open Go.Ev
set_option linter.unusedVariables false
noncomputable section
def Qn.g7 (L7 : ByteArray → Int → List ByteArray → List Int → Option YY) (q : ByteArray) (i8 : Int) (p : List ByteArray) (n7 : List Int) : Option YY :=
 if (decide ((i8 : Int) < (q.size : Int))) = true then
 if (0 : Int) ≤ i8 ∧ (i8 : Int) < q.size then
 if (((bt q i8) : Int) == 73) = true then
 if (0 : Int) ≤ (IntKind.i64.wrap (i8 + 1)) ∧ ((IntKind.i64.wrap (i8 + 1)) : Int) < p.length then
 (QK.f (p.getD ((IntKind.i64.wrap (i8 + 1)) : Int).toNat ByteArray.empty)).bind fun r3 =>
 if (!r3.2) = true then
 some ([], [], false)
 else if n7.length + ([r3.1]).length < room 8 then
 L7 q (IntKind.i64.wrap (i8 + 1)) p (n7 ++ ([r3.1]))
 else
 none
 else
 none
 else if (((bt q i8) : Int) == 74) = true then
 if (0 : Int) ≤ (IntKind.i64.wrap (i8 + 1)) ∧ ((IntKind.i64.wrap (i8 + 1)) : Int) < p.length then
 (Qaz.f (p.getD ((IntKind.i64.wrap (i8 + 1)) : Int).toNat ByteArray.empty)).bind fun r4 =>
 if (!r4.2) = true then
 some ([], [], false)
 else if n7.length + ([r4.1]).length < room 8 then
 L7 q (IntKind.i64.wrap (i8 + 1)) p (n7 ++ ([r4.1]))
 else
 none
 else
 none
 else
 L7 q (IntKind.i64.wrap (i8 + 1)) p n7
 else
 none
 else
 some (p, n7, true)
def Qn.l7 (n : Nat) : Nat → ByteArray → Int → List ByteArray → List Int → Option YY
 | 0 => fun _ _ _ _ => none
 | k + 1 => Qn.g7 (Qn.l7 n k)
def Qn.top (I7 : ByteArray → Int → List ByteArray → List Int → Option YY) (r : ByteArray) : Option YY :=
 (QP.f r 32).bind fun r1 =>
 if (0 : Int) ≤ 0 ∧ (0 : Int) < r1.length then
 (QaT.f (r1.getD (0 : Int).toNat ByteArray.empty)).bind fun r2 =>
 if (r2.toList == (⟨#[45]⟩ : ByteArray).toList) = false then
 if (((r1.length : Int) : Int) != (IntKind.i64.wrap ((r2.size : Int) + 1))) = true then
 some ([], [], false)
 else
 I7 r2 0 r1 []
 else
 some ([], [], false)
 else
 none
def Qn.fn (n : Nat) (r : ByteArray) : Option YY := Qn.top (Qn.l7 n n) r
def Qn.f (r : ByteArray) : Option YY := Qn.fn NN r
end
end Go.Pl

namespace Go.Pl
open Go.Ev
set_option linter.unusedVariables false
noncomputable section
def Qan.top (p : List YA) (m1 : Int × ByteArray × Int) : Option YU :=
 (QE.f p).bind fun r1 =>
 if (!r1) = true then
 some ([], 1)
 else if (((p.length : Int) : Int) == 40) = true then
 some ([], 3)
 else if ([] : List YA).length + p.length < room 32 then
 if (([] : List YA) ++ p).length + ([m1]).length < room 32 then
 (QE.f ((([] : List YA) ++ p) ++ ([m1]))).bind fun r2 =>
 if (!r2) = true then
 some ([], 5)
 else
 some ((([] : List YA) ++ p) ++ ([m1]), 0)
 else
 none
 else
 none
def Qan.fn (n : Nat) (p : List YA) (m1 : Int × ByteArray × Int) : Option YU := Qan.top p m1
def Qan.f (p : List YA) (m1 : Int × ByteArray × Int) : Option YU := Qan.fn NN p m1
end
end Go.Pl

namespace Go.Pl
open Go.Ev
set_option linter.unusedVariables false
noncomputable section
def Qg.g6 (L6 : YE → Int → YC → Option YX) (p : List YC) (at6 : Int) (x3 : Int × Int) : Option YX :=
 if (decide ((0 : Int) < at6)) = true then
 if (0 : Int) ≤ (IntKind.i64.wrap (at6 - 1)) ∧ ((IntKind.i64.wrap (at6 - 1)) : Int) < p.length then
 if (decide ((x3.1 : Int) < ((p.getD ((IntKind.i64.wrap (at6 - 1)) : Int).toNat (0, 0)).1))) = true then
 L6 p (IntKind.i64.wrap (at6 - 1)) x3
 else if (0 : Int) ≤ at6 ∧ (at6 : Int) ≤ p.length then
 if (0 : Int) ≤ at6 ∧ (at6 : Int) ≤ p.length then
 if ([] : List YC).length + (p.take (at6 : Int).toNat).length < room 16 then
 if (([] : List YC) ++ (p.take (at6 : Int).toNat)).length + ([x3]).length < room 16 then
 if ((([] : List YC) ++ (p.take (at6 : Int).toNat)) ++ ([x3])).length + (p.drop (at6 : Int).toNat).length < room 16 then
 (Qm.f (((([] : List YC) ++ (p.take (at6 : Int).toNat)) ++ ([x3])) ++ (p.drop (at6 : Int).toNat))).bind fun r2 =>
 if (!r2) = true then
 some ([], 5)
 else
 some (((([] : List YC) ++ (p.take (at6 : Int).toNat)) ++ ([x3])) ++ (p.drop (at6 : Int).toNat), 0)
 else
 none
 else
 none
 else
 none
 else
 none
 else
 none
 else
 none
 else if (0 : Int) ≤ at6 ∧ (at6 : Int) ≤ p.length then
 if (0 : Int) ≤ at6 ∧ (at6 : Int) ≤ p.length then
 if ([] : List YC).length + (p.take (at6 : Int).toNat).length < room 16 then
 if (([] : List YC) ++ (p.take (at6 : Int).toNat)).length + ([x3]).length < room 16 then
 if ((([] : List YC) ++ (p.take (at6 : Int).toNat)) ++ ([x3])).length + (p.drop (at6 : Int).toNat).length < room 16 then
 (Qm.f (((([] : List YC) ++ (p.take (at6 : Int).toNat)) ++ ([x3])) ++ (p.drop (at6 : Int).toNat))).bind fun r3 =>
 if (!r3) = true then
 some ([], 5)
 else
 some (((([] : List YC) ++ (p.take (at6 : Int).toNat)) ++ ([x3])) ++ (p.drop (at6 : Int).toNat), 0)
 else
 none
 else
 none
 else
 none
 else
 none
 else
 none
def Qg.l6 (n : Nat) : Nat → YE → Int → YC → Option YX
 | 0 => fun _ _ _ => none
 | k + 1 => Qg.g6 (Qg.l6 n k)
def Qg.top (I6 : YE → Int → YC → Option YX) (p : List YC) (x1 : Int × Int) : Option YX :=
 (Qm.f p).bind fun r1 =>
 if (!r1) = true then
 some ([], 1)
 else if (((p.length : Int) : Int) == 40) = true then
 some ([], 3)
 else
 I6 p (p.length : Int) x1
def Qg.fn (n : Nat) (p : List YC) (x1 : Int × Int) : Option YX := Qg.top (Qg.l6 n n) p x1
def Qg.f (p : List YC) (x1 : Int × Int) : Option YX := Qg.fn NN p x1
end
end Go.Pl

namespace Go.Pl
open Go.Ev
set_option linter.unusedVariables false
noncomputable section
def Qab.top (p : List YA) (b1 : Int × ByteArray × Int) : Option YU :=
 (Qh.f p).bind fun r1 =>
 if (!r1) = true then
 some ([], 1)
 else if (((p.length : Int) : Int) == 60) = true then
 some ([], 3)
 else if ([] : List YA).length + p.length < room 32 then
 if (([] : List YA) ++ p).length + ([b1]).length < room 32 then
 (Qh.f ((([] : List YA) ++ p) ++ ([b1]))).bind fun r2 =>
 if (!r2) = true then
 some ([], 5)
 else
 some ((([] : List YA) ++ p) ++ ([b1]), 0)
 else
 none
 else
 none
def Qab.fn (n : Nat) (p : List YA) (b1 : Int × ByteArray × Int) : Option YU := Qab.top p b1
def Qab.f (p : List YA) (b1 : Int × ByteArray × Int) : Option YU := Qab.fn NN p b1
end
end Go.Pl

namespace Go.Pl
open Go.Ev
set_option linter.unusedVariables false
noncomputable section
def QaI.top (p : List YA) : Option Int :=
 if (decide ((60 : Int) < (p.length : Int))) = true then
 some 3
 else
 (Qh.f p).bind fun r1 =>
 if (!r1) = true then
 some 5
 else
 some 0
def QaI.fn (n : Nat) (p : List YA) : Option Int := QaI.top p
def QaI.f (p : List YA) : Option Int := QaI.fn NN p
end
end Go.Pl

namespace Go.Pl
open Go.Ev
set_option linter.unusedVariables false
noncomputable section
def QH.g8 (L8 : YD → Int → Int → YD → List ByteArray → Option YU) (p : List YA) (q : Int) (i8 : Int) (s : List YA) (r : List ByteArray) : Option YU :=
 if (decide ((i8 : Int) < (r.length : Int))) = true then
 if (0 : Int) ≤ i8 ∧ (i8 : Int) < r.length then
 if (0 : Int) ≤ i8 ∧ (i8 : Int) < r.length then
 (QS.f p (r.getD (i8 : Int).toNat ByteArray.empty) (p.length : Int)).bind fun r4 =>
 if s.length + ([(q, (r.getD (i8 : Int).toNat ByteArray.empty, r4))]).length < room 32 then
 L8 p q (IntKind.i64.wrap (i8 + 1)) (s ++ ([(q, (r.getD (i8 : Int).toNat ByteArray.empty, r4))])) r
 else
 none
 else
 none
 else
 none
 else
 (QaI.f s).bind fun r5 =>
 if ((r5 : Int) != 0) = true then
 some ([], r5)
 else
 some (s, 0)
def QH.l8 (n : Nat) : Nat → YD → Int → Int → YD → List ByteArray → Option YU
 | 0 => fun _ _ _ _ _ => none
 | k + 1 => QH.g8 (QH.l8 n k)
def QH.top (I8 : YD → Int → Int → YD → List ByteArray → Option YU) (p : List YA) (q : Int) : Option YU :=
 (Qh.f p).bind fun r1 =>
 if (!r1) = true then
 some ([], 1)
 else
 (Qaj.f q 1 3).bind fun r2 =>
 if (!r2) = true then
 some ([], 2)
 else if ([] : List YA).length + p.length < room 32 then
 (Q5.f p).bind fun r3 =>
 I8 p q 0 (([] : List YA) ++ p) r3
 else
 none
def QH.fn (n : Nat) (p : List YA) (q : Int) : Option YU := QH.top (QH.l8 n n) p q
def QH.f (p : List YA) (q : Int) : Option YU := QH.fn NN p q
end
end Go.Pl

namespace Go.Pl
open Go.Ev
set_option linter.unusedVariables false
noncomputable section
def Qa3.top  : Option YQ :=
 some ([(⟨#[107, 101, 121, 97]⟩ : ByteArray), (⟨#[107, 101, 121, 98]⟩ : ByteArray), (⟨#[97, 114, 109]⟩ : ByteArray), (⟨#[100, 105, 115, 97, 114, 109]⟩ : ByteArray), (⟨#[104, 111, 108, 100]⟩ : ByteArray), (⟨#[114, 101, 115, 117, 109, 101]⟩ : ByteArray), (⟨#[115, 116, 111, 112]⟩ : ByteArray), (⟨#[112, 114, 101, 115, 115]⟩ : ByteArray), (⟨#[116, 105, 99, 107]⟩ : ByteArray), (⟨#[114, 101, 115, 101, 116]⟩ : ByteArray)])
def Qa3.fn (n : Nat)  : Option YQ := Qa3.top 
def Qa3.f  : Option YQ := Qa3.fn NN 
end
end Go.Pl

namespace Go.Pl
open Go.Ev
set_option linter.unusedVariables false
noncomputable section
def QT.g2 (L2 : List ByteArray → ByteArray → Int → Option Int) (p : List ByteArray) (q : ByteArray) (i5 : Int) : Option Int :=
 if (decide ((i5 : Int) < (p.length : Int))) = true then
 if (0 : Int) ≤ i5 ∧ (i5 : Int) < p.length then
 if ((p.getD (i5 : Int).toNat ByteArray.empty).toList == q.toList) = true then
 some i5
 else
 L2 p q (IntKind.i64.wrap (i5 + 1))
 else
 none
 else
 some (-1)
def QT.l2 (n : Nat) : Nat → List ByteArray → ByteArray → Int → Option Int
 | 0 => fun _ _ _ => none
 | k + 1 => QT.g2 (QT.l2 n k)
def QT.top (I2 : List ByteArray → ByteArray → Int → Option Int) (p : List ByteArray) (q : ByteArray) : Option Int :=
 I2 p q 0
def QT.fn (n : Nat) (p : List ByteArray) (q : ByteArray) : Option Int := QT.top (QT.l2 n n) p q
def QT.f (p : List ByteArray) (q : ByteArray) : Option Int := QT.fn NN p q
end
end Go.Pl

namespace Go.Pl
open Go.Ev
set_option linter.unusedVariables false
noncomputable section
def Qag.top (d0 : YD × YE × List YA) (p : List ByteArray) (n2 : List Int) : Option (YF × Int) :=
 if (0 : Int) ≤ 0 ∧ (0 : Int) < p.length then
 if ((p.getD (0 : Int).toNat ByteArray.empty).toList == (⟨#[112, 101, 111, 112, 108, 101]⟩ : ByteArray).toList) = true then
 if (0 : Int) ≤ 0 ∧ (0 : Int) < n2.length then
 if (0 : Int) ≤ 1 ∧ (1 : Int) < p.length then
 if (0 : Int) ≤ 1 ∧ (1 : Int) < n2.length then
 (Qan.f d0.1 (n2.getD (0 : Int).toNat 0, (p.getD (1 : Int).toNat ByteArray.empty, n2.getD (1 : Int).toNat 0))).bind fun r1 =>
 if ((r1.2 : Int) == 0) = true then
 some ((r1.1, d0.2), r1.2)
 else
 some (d0, r1.2)
 else
 none
 else
 none
 else
 none
 else if ((p.getD (0 : Int).toNat ByteArray.empty).toList == (⟨#[115, 105, 103, 110, 97, 108]⟩ : ByteArray).toList) = true then
 if (0 : Int) ≤ 1 ∧ (1 : Int) < p.length then
 (Qa3.f).bind fun r2 =>
 (QT.f r2 (p.getD (1 : Int).toNat ByteArray.empty)).bind fun r3 =>
 if (decide ((r3 : Int) < 0)) = true then
 some (d0, 6)
 else if (0 : Int) ≤ 0 ∧ (0 : Int) < n2.length then
 (Qg.f d0.2.1 (n2.getD (0 : Int).toNat 0, r3)).bind fun r4 =>
 if ((r4.2 : Int) == 0) = true then
 some ((d0.1, (r4.1, d0.2.2)), r4.2)
 else
 some (d0, r4.2)
 else
 none
 else
 none
 else if ((p.getD (0 : Int).toNat ByteArray.empty).toList == (⟨#[98, 111, 111, 107]⟩ : ByteArray).toList) = true then
 if (0 : Int) ≤ 1 ∧ (1 : Int) < p.length then
 (QT.f ([(⟨#[105, 110]⟩ : ByteArray), (⟨#[102, 105, 114, 101, 100]⟩ : ByteArray), (⟨#[114, 101, 116, 117, 114, 110, 101, 100]⟩ : ByteArray), (⟨#[100, 101, 115, 116, 114, 111, 121, 101, 100]⟩ : ByteArray)]) (p.getD (1 : Int).toNat ByteArray.empty)).bind fun r5 =>
 if (decide ((r5 : Int) < 0)) = true then
 some (d0, 6)
 else if (0 : Int) ≤ 2 ∧ (2 : Int) < p.length then
 if (0 : Int) ≤ 0 ∧ (0 : Int) < n2.length then
 (Qab.f d0.2.2 (r5, (p.getD (2 : Int).toNat ByteArray.empty, n2.getD (0 : Int).toNat 0))).bind fun r6 =>
 if ((r6.2 : Int) == 0) = true then
 some ((d0.1, (d0.2.1, r6.1)), r6.2)
 else
 some (d0, r6.2)
 else
 none
 else
 none
 else
 none
 else if (0 : Int) ≤ 0 ∧ (0 : Int) < n2.length then
 (QH.f d0.2.2 (n2.getD (0 : Int).toNat 0)).bind fun r7 =>
 if ((r7.2 : Int) == 0) = true then
 some ((d0.1, (d0.2.1, r7.1)), r7.2)
 else
 some (d0, r7.2)
 else
 none
 else
 none
def Qag.fn (n : Nat) (d0 : YD × YE × List YA) (p : List ByteArray) (n2 : List Int) : Option (YF × Int) := Qag.top d0 p n2
def Qag.f (d0 : YD × YE × List YA) (p : List ByteArray) (n2 : List Int) : Option (YF × Int) := Qag.fn NN d0 p n2
end
end Go.Pl

namespace Go.Pl
open Go.Ev
set_option linter.unusedVariables false
noncomputable section
def QF.top (d0 : YD × YE × List YA) (p : ByteArray) : Option YAH :=
 (Qn.f p).bind fun r1 =>
 if (!r1.2.2) = true then
 (Qq.f 6).bind fun r2 =>
 if (⟨#[101, 114, 114, 111, 114, 32]⟩ : ByteArray).size + r2.size ≤ 9223372036854775807 then
 some (d0, (⟨#[101, 114, 114, 111, 114, 32]⟩ : ByteArray) ++ r2)
 else
 none
 else if (0 : Int) ≤ 0 ∧ (0 : Int) < r1.1.length then
 if ((r1.1.getD (0 : Int).toNat ByteArray.empty).toList == (⟨#[112, 101, 111, 112, 108, 101]⟩ : ByteArray).toList) = true then
 if ((r1.1.getD (0 : Int).toNat ByteArray.empty).toList == (⟨#[112, 101, 111, 112, 108, 101]⟩ : ByteArray).toList) = true then
 (Qag.f d0 r1.1 r1.2.1).bind fun r3 =>
 if ((r3.2 : Int) != 0) = true then
 (Qq.f r3.2).bind fun r4 =>
 if (⟨#[101, 114, 114, 111, 114, 32]⟩ : ByteArray).size + r4.size ≤ 9223372036854775807 then
 some (d0, (⟨#[101, 114, 114, 111, 114, 32]⟩ : ByteArray) ++ r4)
 else
 none
 else
 some (r3.1, (⟨#[111, 107]⟩ : ByteArray))
 else
 (Qad.f d0 r1.1 r1.2.1).bind fun r5 =>
 if ((r5.2 : Int) != 0) = true then
 (Qq.f r5.2).bind fun r6 =>
 if (⟨#[101, 114, 114, 111, 114, 32]⟩ : ByteArray).size + r6.size ≤ 9223372036854775807 then
 some (d0, (⟨#[101, 114, 114, 111, 114, 32]⟩ : ByteArray) ++ r6)
 else
 none
 else
 some (d0, r5.1)
 else if ((r1.1.getD (0 : Int).toNat ByteArray.empty).toList == (⟨#[115, 105, 103, 110, 97, 108]⟩ : ByteArray).toList) = true then
 if ((r1.1.getD (0 : Int).toNat ByteArray.empty).toList == (⟨#[115, 105, 103, 110, 97, 108]⟩ : ByteArray).toList) = true then
 (Qag.f d0 r1.1 r1.2.1).bind fun r7 =>
 if ((r7.2 : Int) != 0) = true then
 (Qq.f r7.2).bind fun r8 =>
 if (⟨#[101, 114, 114, 111, 114, 32]⟩ : ByteArray).size + r8.size ≤ 9223372036854775807 then
 some (d0, (⟨#[101, 114, 114, 111, 114, 32]⟩ : ByteArray) ++ r8)
 else
 none
 else
 some (r7.1, (⟨#[111, 107]⟩ : ByteArray))
 else
 (Qad.f d0 r1.1 r1.2.1).bind fun r9 =>
 if ((r9.2 : Int) != 0) = true then
 (Qq.f r9.2).bind fun r10 =>
 if (⟨#[101, 114, 114, 111, 114, 32]⟩ : ByteArray).size + r10.size ≤ 9223372036854775807 then
 some (d0, (⟨#[101, 114, 114, 111, 114, 32]⟩ : ByteArray) ++ r10)
 else
 none
 else
 some (d0, r9.1)
 else if ((r1.1.getD (0 : Int).toNat ByteArray.empty).toList == (⟨#[98, 111, 111, 107]⟩ : ByteArray).toList) = true then
 if ((r1.1.getD (0 : Int).toNat ByteArray.empty).toList == (⟨#[98, 111, 111, 107]⟩ : ByteArray).toList) = true then
 (Qag.f d0 r1.1 r1.2.1).bind fun r11 =>
 if ((r11.2 : Int) != 0) = true then
 (Qq.f r11.2).bind fun r12 =>
 if (⟨#[101, 114, 114, 111, 114, 32]⟩ : ByteArray).size + r12.size ≤ 9223372036854775807 then
 some (d0, (⟨#[101, 114, 114, 111, 114, 32]⟩ : ByteArray) ++ r12)
 else
 none
 else
 some (r11.1, (⟨#[111, 107]⟩ : ByteArray))
 else
 (Qad.f d0 r1.1 r1.2.1).bind fun r13 =>
 if ((r13.2 : Int) != 0) = true then
 (Qq.f r13.2).bind fun r14 =>
 if (⟨#[101, 114, 114, 111, 114, 32]⟩ : ByteArray).size + r14.size ≤ 9223372036854775807 then
 some (d0, (⟨#[101, 114, 114, 111, 114, 32]⟩ : ByteArray) ++ r14)
 else
 none
 else
 some (d0, r13.1)
 else if ((r1.1.getD (0 : Int).toNat ByteArray.empty).toList == (⟨#[115, 101, 116, 116, 108, 101]⟩ : ByteArray).toList) = true then
 (Qag.f d0 r1.1 r1.2.1).bind fun r15 =>
 if ((r15.2 : Int) != 0) = true then
 (Qq.f r15.2).bind fun r16 =>
 if (⟨#[101, 114, 114, 111, 114, 32]⟩ : ByteArray).size + r16.size ≤ 9223372036854775807 then
 some (d0, (⟨#[101, 114, 114, 111, 114, 32]⟩ : ByteArray) ++ r16)
 else
 none
 else
 some (r15.1, (⟨#[111, 107]⟩ : ByteArray))
 else
 (Qad.f d0 r1.1 r1.2.1).bind fun r17 =>
 if ((r17.2 : Int) != 0) = true then
 (Qq.f r17.2).bind fun r18 =>
 if (⟨#[101, 114, 114, 111, 114, 32]⟩ : ByteArray).size + r18.size ≤ 9223372036854775807 then
 some (d0, (⟨#[101, 114, 114, 111, 114, 32]⟩ : ByteArray) ++ r18)
 else
 none
 else
 some (d0, r17.1)
 else
 none
def QF.fn (n : Nat) (d0 : YD × YE × List YA) (p : ByteArray) : Option YAH := QF.top d0 p
def QF.f (d0 : YD × YE × List YA) (p : ByteArray) : Option YAH := QF.fn NN d0 p
end
end Go.Pl

namespace Go.Pl
open Go.Ev
set_option linter.unusedVariables false
noncomputable section
def QN.g4 (L4 : YW) (p : List ByteArray) (i6 : Int) (d4 : YD × YE × List YA) (q : List ByteArray) (w3 : List YA) (w4 : List YC) (w5 : List YA) : Option YV :=
 if (decide ((i6 : Int) < (p.length : Int))) = true then
 if (0 : Int) ≤ i6 ∧ (i6 : Int) < p.length then
 (QF.f d4 (p.getD (i6 : Int).toNat ByteArray.empty)).bind fun r2 =>
 if q.length + ([r2.2]).length < room 16 then
 L4 p (IntKind.i64.wrap (i6 + 1)) r2.1 (q ++ ([r2.2])) w3 w4 w5
 else
 none
 else
 none
 else
 some (d4, q)
def QN.l4 (n : Nat) : Nat → List ByteArray → Int → YF → List ByteArray → YD → YE → YD → Option YV
 | 0 => fun _ _ _ _ _ _ _ => none
 | k + 1 => QN.g4 (QN.l4 n k)
def QN.top (I4 : YW) (p : List ByteArray) : Option YV :=
 (Qa8.f).bind fun r1 =>
 I4 p 0 (r1.1, (r1.2.1, r1.2.2)) [] [] [] []
def QN.fn (n : Nat) (p : List ByteArray) : Option YV := QN.top (QN.l4 n n) p
def QN.f (p : List ByteArray) : Option YV := QN.fn NN p
end
end Go.Pl

namespace Go.Pl
open Go.Ev
set_option linter.unusedVariables false
noncomputable section
def QaB.top (p : ByteArray) : Option YQ :=
 (QP.f p 10).bind fun r1 =>
 if (0 : Int) ≤ (IntKind.i64.wrap ((r1.length : Int) - 1)) ∧ ((IntKind.i64.wrap ((r1.length : Int) - 1)) : Int) < r1.length then
 if ((r1.getD ((IntKind.i64.wrap ((r1.length : Int) - 1)) : Int).toNat ByteArray.empty).toList == (⟨#[]⟩ : ByteArray).toList) = true then
 if (0 : Int) ≤ (IntKind.i64.wrap ((r1.length : Int) - 1)) ∧ ((IntKind.i64.wrap ((r1.length : Int) - 1)) : Int) ≤ r1.length then
 some (r1.take ((IntKind.i64.wrap ((r1.length : Int) - 1)) : Int).toNat)
 else
 none
 else
 some r1
 else
 none
def QaB.fn (n : Nat) (p : ByteArray) : Option YQ := QaB.top p
def QaB.f (p : ByteArray) : Option YQ := QaB.fn NN p
end
end Go.Pl

namespace Go.Pl
open Go.Ev
set_option linter.unusedVariables false
noncomputable section
def Qa2.top (p : ByteArray) : Option Bool :=
 if (decide (((p.size : Int) : Int) ≤ 1500)) = true then
 (QaB.f p).bind fun r1 =>
 some (decide (((r1.length : Int) : Int) ≤ 40))
 else
 some false
def Qa2.fn (n : Nat) (p : ByteArray) : Option Bool := Qa2.top p
def Qa2.f (p : ByteArray) : Option Bool := Qa2.fn NN p
end
end Go.Pl

namespace Go.Pl
open Go.Ev
set_option linter.unusedVariables false
noncomputable section
def QaA.top (p : ByteArray) : Option (YF × Int) :=
 (Qa2.f p).bind fun r1 =>
 if (!r1) = true then
 some (([], ([], [])), 3)
 else
 (QaB.f p).bind fun r2 =>
 (QN.f r2).bind fun r3 =>
 some (r3.1, 0)
def QaA.fn (n : Nat) (p : ByteArray) : Option (YF × Int) := QaA.top p
def QaA.f (p : ByteArray) : Option (YF × Int) := QaA.fn NN p
end
end Go.Pl

namespace Go.Pl
open Go.Ev
set_option linter.unusedVariables false
noncomputable section
def Qah.top (p : ByteArray) : Option Bool :=
 if (decide ((1000000 : Int) < (p.size : Int))) = true then
 some true
 else
 (QaA.f p).bind fun r1 =>
 (Qax.f p).bind fun r2 =>
 (Qa9.f (r2.1.1, (r2.1.2.1, r2.1.2.2)) r1.1).bind fun r3 =>
 if (!r3) = false then
 if ((r2.2 : Int) != r1.2) = true then
 some false
 else
 (QaQ.f (r2.1.1, (r2.1.2.1, r2.1.2.2)) 101).bind fun r4 =>
 (QaL.f (r4.2.1, (r4.2.2.1, r4.2.2.2)) 101).bind fun r5 =>
 if (decide ((r5 : Int) < 0)) = true then
 some false
 else if ((r5 : Int) != r4.1) = true then
 some false
 else
 (Qax.f p).bind fun r6 =>
 (Qa9.f (r6.1.1, (r6.1.2.1, r6.1.2.2)) r1.1).bind fun r7 =>
 if (!r7) = false then
 if ((r6.2 : Int) != r1.2) = true then
 some false
 else
 (QaL.f (r4.2.1, (r4.2.2.1, r4.2.2.2)) 101).bind fun r8 =>
 if (decide ((r8 : Int) < 0)) = true then
 some false
 else if ((r8 : Int) != r4.1) = true then
 some false
 else
 some true
 else
 some false
 else
 some false
def Qah.fn (n : Nat) (p : ByteArray) : Option Bool := Qah.top p
def Qah.f (p : ByteArray) : Option Bool := Qah.fn NN p
end
end Go.Pl

namespace Go.Ev.Tryz
open Go.Proofs Go.Pl
set_option linter.unusedVariables false
noncomputable section
def QP.st4 (s0 : ByteArray) (by1 : Int) (p : Int) (i7 : Int) (q : List ByteArray) : St := ⟨[.dat .str s0, .dat (.int .u8) by1, .gone, .gone, .gone, .ref 0, .dat (.int .i64) p, .dat (.int .i64) i7, .gone, .gone, .gone, .gone, .gone, .gone, .gone, .gone, .gone, .gone, .gone, .gone, .gone, .gone, .gone, .gone, .gone, .gone, .gone, .gone, .gone, .gone, .gone, .gone, .gone, .gone, .gone, .gone], [.row 9 .str q none]⟩
def QP.con : Con := { ps := [(.val, .str), (.val, (.int .u8))], rs := [(.own, (.sl 9 .str))], F := fun x => QP.f x.1 x.2 }
def QP.cs : List (FuncId × Con) := []
def QP.E : Env := envOf tab QP.cs 0 false
def QP.keep (i : Nat) : List Nat := if i = 4 then [0, 1, 5, 6, 7] else []
def QP.at4 (n : Nat) (x : ByteArray × Int) : Code × (Ex → St → Option (YQ)) := ctx QP.E QP.keep n [.snd, .snd, .snd, .fst, .snd, .blk] (codeOf Tryz.f62) (kEnd QP.E Tryz.f62 QP.con x)
def QP.LN4 (n : Nat) (x : ByteArray × Int) : Nat → St → Option (YQ) := loopN (exec QP.E QP.keep n (bodyOf (QP.at4 n x).1)) (St.norm 0 (QP.keep 4)) (QP.at4 n x).2
set_option maxRecDepth 100000 in
theorem QP.lem4 (n : Nat) (x : ByteArray × Int) : ∀ (k : Nat) (s0 : ByteArray) (by1 : Int) (p : Int) (i7 : Int) (q : List ByteArray), QP.LN4 n x k (QP.st4 s0 by1 p i7 q) = QP.l4 n k s0 by1 p i7 q := by
 intro k
 induction k with
 | zero => intro s0 by1 p i7 q; rfl
 | succ k ih =>
  intro s0 by1 p i7 q
  have h : QP.LN4 n x (k + 1) (QP.st4 s0 by1 p i7 q) = QP.g4 (fun s0 by1 p i7 q => QP.LN4 n x k (QP.st4 s0 by1 p i7 q)) s0 by1 p i7 q := by kernel_rfl
  rw [h]
  simp only [ih]
  rfl
set_option maxRecDepth 100000 in
theorem QP.body (n : Nat) (x : ByteArray × Int) : bodyF QP.E QP.keep n Tryz.f62 QP.con x = QP.fn n x.1 x.2 := by
 have h : bodyF QP.E QP.keep n Tryz.f62 QP.con x = QP.top (fun s0 by1 p i7 q => QP.LN4 n x n (QP.st4 s0 by1 p i7 q)) x.1 x.2 := by kernel_rfl
 rw [h]
 simp only [QP.lem4]
 rfl
set_option maxRecDepth 100000 in
theorem QP.good : Good Tryz.prog 62 QP.con :=
 good_of tabok (cs := QP.cs) trivial 0 false (fn := Tryz.f62) Tryz.func62 rfl (by decide) (by simp [QP.con]) QP.keep NN (fun _ => rfl) (fun x => QP.body NN x)
end
end Go.Ev.Tryz

namespace Go.Ev.Tryz
open Go.Proofs Go.Pl
set_option linter.unusedVariables false
noncomputable section
def QaB.con : Con := { ps := [(.val, .str)], rs := [(.val, (.sl 9 .str))], F := fun x => QaB.f x }
def QaB.cs : List (FuncId × Con) := [(62, QP.con)]
def QaB.E : Env := envOf tab QaB.cs 0 false
def QaB.keep (i : Nat) : List Nat := []
set_option maxRecDepth 100000 in
theorem QaB.body (n : Nat) (x : ByteArray) : bodyF QaB.E QaB.keep n Tryz.f32 QaB.con x = QaB.fn n x := by
 have h : bodyF QaB.E QaB.keep n Tryz.f32 QaB.con x = QaB.top x := by kernel_rfl
 exact h
set_option maxRecDepth 100000 in
theorem QaB.good : Good Tryz.prog 32 QaB.con :=
 good_of tabok (cs := QaB.cs) ⟨QP.good, trivial⟩ 0 false (fn := Tryz.f32) Tryz.func32 rfl (by decide) (by simp [QaB.con]) QaB.keep NN (fun _ => rfl) (fun x => QaB.body NN x)
end
end Go.Ev.Tryz

namespace Go.Ev.Tryz
open Go.Proofs Go.Pl
set_option linter.unusedVariables false
noncomputable section
def Qa2.con : Con := { ps := [(.val, .str)], rs := [(.val, .bool)], F := fun x => Qa2.f x }
def Qa2.cs : List (FuncId × Con) := [(32, QaB.con)]
def Qa2.E : Env := envOf tab Qa2.cs 0 false
def Qa2.keep (i : Nat) : List Nat := []
set_option maxRecDepth 100000 in
theorem Qa2.body (n : Nat) (x : ByteArray) : bodyF Qa2.E Qa2.keep n Tryz.f30 Qa2.con x = Qa2.fn n x := by
 have h : bodyF Qa2.E Qa2.keep n Tryz.f30 Qa2.con x = Qa2.top x := by kernel_rfl
 exact h
set_option maxRecDepth 100000 in
theorem Qa2.good : Good Tryz.prog 30 Qa2.con :=
 good_of tabok (cs := Qa2.cs) ⟨QaB.good, trivial⟩ 0 false (fn := Tryz.f30) Tryz.func30 rfl (by decide) (by simp [Qa2.con]) Qa2.keep NN (fun _ => rfl) (fun x => Qa2.body NN x)
end
end Go.Ev.Tryz

namespace Go.Ev.Tryz
open Go.Proofs Go.Pl
set_option linter.unusedVariables false
noncomputable section
def Qa8.con : Con := { ps := [], rs := [(.own, (.pair (.sl 70 (.pair (.int .i64) (.pair .str (.int .i64)))) (.pair (.sl 72 (.pair (.int .i64) (.int .i64))) (.sl 74 (.pair (.int .i64) (.pair .str (.int .i64)))))))], F := fun x => Qa8.f  }
def Qa8.cs : List (FuncId × Con) := []
def Qa8.E : Env := envOf tab Qa8.cs 0 false
def Qa8.keep (i : Nat) : List Nat := []
set_option maxRecDepth 100000 in
theorem Qa8.body (n : Nat) (x : Unit) : bodyF Qa8.E Qa8.keep n Tryz.f60 Qa8.con x = Qa8.fn n  := by
 have h : bodyF Qa8.E Qa8.keep n Tryz.f60 Qa8.con x = Qa8.top  := by kernel_rfl
 exact h
set_option maxRecDepth 100000 in
theorem Qa8.good : Good Tryz.prog 60 Qa8.con :=
 good_of tabok (cs := Qa8.cs) trivial 0 false (fn := Tryz.f60) Tryz.func60 rfl (by decide) (by simp [Qa8.con]) Qa8.keep NN (fun _ => rfl) (fun x => Qa8.body NN x)
end
end Go.Ev.Tryz

namespace Go.Ev.Tryz
open Go.Proofs Go.Pl
set_option linter.unusedVariables false
noncomputable section
def QaT.con : Con := { ps := [(.val, .str)], rs := [(.val, .str)], F := fun x => QaT.f x }
def QaT.cs : List (FuncId × Con) := []
def QaT.E : Env := envOf tab QaT.cs 0 false
def QaT.keep (i : Nat) : List Nat := []
set_option maxRecDepth 100000 in
theorem QaT.body (n : Nat) (x : ByteArray) : bodyF QaT.E QaT.keep n Tryz.f74 QaT.con x = QaT.fn n x := by
 have h : bodyF QaT.E QaT.keep n Tryz.f74 QaT.con x = QaT.top x := by kernel_rfl
 exact h
set_option maxRecDepth 100000 in
theorem QaT.good : Good Tryz.prog 74 QaT.con :=
 good_of tabok (cs := QaT.cs) trivial 0 false (fn := Tryz.f74) Tryz.func74 rfl (by decide) (by simp [QaT.con]) QaT.keep NN (fun _ => rfl) (fun x => QaT.body NN x)
end
end Go.Ev.Tryz

namespace Go.Ev.Tryz
open Go.Proofs Go.Pl
set_option linter.unusedVariables false
noncomputable section
def Qq.topraw (S : Int → Option ByteArray) (n0 : Int) : Option ByteArray :=
 if (decide ((n0 : Int) < 10)) = true then
  some (bytesOf ([IntKind.u8.wrap (IntKind.i64.wrap (48 + n0))]))
 else
  agree (
   (S (IntKind.i64.wrap (Int.tdiv n0 10))).bind fun r1 =>
   if r1.size + (bytesOf ([IntKind.u8.wrap (IntKind.i64.wrap (48 + (Int.tmod n0 10)))])).size ≤ 9223372036854775807 then
    some (r1 ++ (bytesOf ([IntKind.u8.wrap (IntKind.i64.wrap (48 + (Int.tmod n0 10)))])))
   else
    none
  ) (
   (S (IntKind.i64.wrap (Int.tdiv n0 10))).bind fun r1 =>
   if r1.size + (bytesOf ([IntKind.u8.wrap (IntKind.i64.wrap (48 + (Int.tmod n0 10)))])).size ≤ 9223372036854775807 then
    some (r1 ++ (bytesOf ([IntKind.u8.wrap (IntKind.i64.wrap (48 + (Int.tmod n0 10)))])))
   else
    none
  )
theorem Qq.topraw_eq (S : Int → Option ByteArray) (n0 : Int) : (Qq.topraw S) n0 = (Qq.top S) n0 := by
 unfold Qq.topraw Qq.top
 simp only [agree_self]
def Qq.con (S : Int → Option ByteArray) : Con := { ps := [(.val, (.int .i64))], rs := [(.val, .str)], F := fun x => S x }
def Qq.cs (S : Int → Option ByteArray) : List (FuncId × Con) := [(68, (Qq.con S))]
def Qq.E (S : Int → Option ByteArray) : Env := envOf tab (Qq.cs S) 0 false
def Qq.keep (i : Nat) : List Nat := []
set_option maxRecDepth 100000 in
theorem Qq.body (S : Int → Option ByteArray) (n : Nat) (x : Int) : bodyF (Qq.E S) Qq.keep n Tryz.f68 (Qq.con S) x = (Qq.fn S) n x := by
 have h : bodyF (Qq.E S) Qq.keep n Tryz.f68 (Qq.con S) x = (Qq.topraw S) x := by kernel_rfl
 rw [(Qq.topraw_eq S)] at h
 exact h
set_option maxRecDepth 100000 in
theorem Qq.goodk : ∀ k : Nat, Good Tryz.prog 68 (Qq.con (Qq.rc k)) := by
 intro k
 induction k with
 | zero => exact good_none (fn := Tryz.f68) Tryz.func68 rfl (by decide) (by simp [Qq.con]) (fun _ => rfl)
 | succ k ih => exact good_of tabok (cs := Qq.cs (Qq.rc k)) ⟨ih, trivial⟩ 0 false (fn := Tryz.f68) Tryz.func68 rfl (by decide) (by simp [Qq.con]) Qq.keep NN (fun _ => rfl) (fun x => Qq.body (Qq.rc k) NN x)
theorem Qq.good : Good Tryz.prog 68 (Qq.con (fun n0 => Qq.f n0)) := Qq.goodk NN
end
end Go.Ev.Tryz

namespace Go.Ev.Tryz
open Go.Proofs Go.Pl
set_option linter.unusedVariables false
noncomputable section
def QK.st5 (s0 : ByteArray) (n4 : Int) (i5 : Int) : St := ⟨[.dat .str s0, .gone, .gone, .gone, .dat (.int .i64) n4, .dat (.int .i64) i5, .gone, .gone, .gone, .gone, .gone, .gone, .gone, .gone, .gone, .gone, .gone, .gone, .gone, .gone, .gone, .gone, .gone, .gone, .gone, .gone, .gone, .gone, .gone, .gone, .gone, .gone, .gone, .gone, .gone, .gone, .gone, .gone, .gone, .gone, .gone, .gone, .gone], []⟩
def QK.con : Con := { ps := [(.val, .str)], rs := [(.val, (.int .i64)), (.val, .bool)], F := fun x => QK.f x }
def QK.cs : List (FuncId × Con) := [(68, (Qq.con (fun a0 => Qq.f a0)))]
def QK.E : Env := envOf tab QK.cs 0 false
def QK.keep (i : Nat) : List Nat := if i = 5 then [0, 4, 5] else []
def QK.at5 (n : Nat) (x : ByteArray) : Code × (Ex → St → Option (YAE)) := ctx QK.E QK.keep n [.snd, .snd, .snd, .fst, .snd, .blk] (codeOf Tryz.f75) (kEnd QK.E Tryz.f75 QK.con x)
def QK.LN5 (n : Nat) (x : ByteArray) : Nat → St → Option (YAE) := loopN (exec QK.E QK.keep n (bodyOf (QK.at5 n x).1)) (St.norm 0 (QK.keep 5)) (QK.at5 n x).2
set_option maxRecDepth 100000 in
theorem QK.lem5 (n : Nat) (x : ByteArray) : ∀ (k : Nat) (s0 : ByteArray) (n4 : Int) (i5 : Int), QK.LN5 n x k (QK.st5 s0 n4 i5) = QK.l5 n k s0 n4 i5 := by
 intro k
 induction k with
 | zero => intro s0 n4 i5; rfl
 | succ k ih =>
  intro s0 n4 i5
  have h : QK.LN5 n x (k + 1) (QK.st5 s0 n4 i5) = QK.g5 (fun s0 n4 i5 => QK.LN5 n x k (QK.st5 s0 n4 i5)) s0 n4 i5 := by kernel_rfl
  rw [h]
  simp only [ih]
  rfl
set_option maxRecDepth 100000 in
theorem QK.body (n : Nat) (x : ByteArray) : bodyF QK.E QK.keep n Tryz.f75 QK.con x = QK.fn n x := by
 have h : bodyF QK.E QK.keep n Tryz.f75 QK.con x = QK.top (fun s0 n4 i5 => QK.LN5 n x n (QK.st5 s0 n4 i5)) x := by kernel_rfl
 rw [h]
 simp only [QK.lem5]
 rfl
set_option maxRecDepth 100000 in
theorem QK.good : Good Tryz.prog 75 QK.con :=
 good_of tabok (cs := QK.cs) ⟨Qq.good, trivial⟩ 0 false (fn := Tryz.f75) Tryz.func75 rfl (by decide) (by simp [QK.con]) QK.keep NN (fun _ => rfl) (fun x => QK.body NN x)
end
end Go.Ev.Tryz

namespace Go.Ev.Tryz
open Go.Proofs Go.Pl
set_option linter.unusedVariables false
noncomputable section
def Qaz.con : Con := { ps := [(.val, .str)], rs := [(.val, (.int .i64)), (.val, .bool)], F := fun x => Qaz.f x }
def Qaz.cs : List (FuncId × Con) := [(75, QK.con)]
def Qaz.E : Env := envOf tab Qaz.cs 0 false
def Qaz.keep (i : Nat) : List Nat := []
set_option maxRecDepth 100000 in
theorem Qaz.body (n : Nat) (x : ByteArray) : bodyF Qaz.E Qaz.keep n Tryz.f76 Qaz.con x = Qaz.fn n x := by
 have h : bodyF Qaz.E Qaz.keep n Tryz.f76 Qaz.con x = Qaz.top x := by kernel_rfl
 exact h
set_option maxRecDepth 100000 in
theorem Qaz.good : Good Tryz.prog 76 Qaz.con :=
 good_of tabok (cs := Qaz.cs) ⟨QK.good, trivial⟩ 0 false (fn := Tryz.f76) Tryz.func76 rfl (by decide) (by simp [Qaz.con]) Qaz.keep NN (fun _ => rfl) (fun x => Qaz.body NN x)
end
end Go.Ev.Tryz

namespace Go.Ev.Tryz
open Go.Proofs Go.Pl
set_option linter.unusedVariables false
noncomputable section
def Qn.st7 (q : ByteArray) (i8 : Int) (p : List ByteArray) (n7 : List Int) : St := ⟨[.gone, .gone, .gone, .gone, .gone, .ref 0, .dat .str q, .ref 1, .dat (.int .i64) i8, .gone, .gone, .gone, .gone, .gone, .gone, .gone, .gone, .gone, .gone, .gone, .gone, .gone, .gone, .gone, .gone, .gone, .gone, .gone, .gone, .gone, .gone, .gone, .gone, .gone, .gone, .gone, .gone, .gone, .gone, .gone, .gone, .gone, .gone, .gone, .gone, .gone, .gone, .gone, .gone, .gone, .gone, .gone, .gone, .gone, .gone, .gone, .gone, .gone, .gone, .gone, .gone, .gone, .gone, .gone, .gone, .gone, .gone], [.row 9 .str p none, .row 2 (.int .i64) n7 none]⟩
def Qn.con : Con := { ps := [(.val, .str)], rs := [(.own, (.sl 9 .str)), (.own, (.sl 2 (.int .i64))), (.own, .bool)], F := fun x => Qn.f x }
def Qn.cs : List (FuncId × Con) := [(62, QP.con), (74, QaT.con), (75, QK.con), (76, Qaz.con)]
def Qn.E : Env := envOf tab Qn.cs 0 false
def Qn.keep (i : Nat) : List Nat := if i = 7 then [5, 6, 7, 8] else []
def Qn.at7 (n : Nat) (x : ByteArray) : Code × (Ex → St → Option (YY)) := ctx Qn.E Qn.keep n [.snd, .snd, .snd, .snd, .snd, .fst, .snd, .blk] (codeOf Tryz.f41) (kEnd Qn.E Tryz.f41 Qn.con x)
def Qn.LN7 (n : Nat) (x : ByteArray) : Nat → St → Option (YY) := loopN (exec Qn.E Qn.keep n (bodyOf (Qn.at7 n x).1)) (St.norm 0 (Qn.keep 7)) (Qn.at7 n x).2
set_option maxRecDepth 100000 in
theorem Qn.lem7 (n : Nat) (x : ByteArray) : ∀ (k : Nat) (q : ByteArray) (i8 : Int) (p : List ByteArray) (n7 : List Int), Qn.LN7 n x k (Qn.st7 q i8 p n7) = Qn.l7 n k q i8 p n7 := by
 intro k
 induction k with
 | zero => intro q i8 p n7; rfl
 | succ k ih =>
  intro q i8 p n7
  have h : Qn.LN7 n x (k + 1) (Qn.st7 q i8 p n7) = Qn.g7 (fun q i8 p n7 => Qn.LN7 n x k (Qn.st7 q i8 p n7)) q i8 p n7 := by kernel_rfl
  rw [h]
  simp only [ih]
  rfl
set_option maxRecDepth 100000 in
theorem Qn.body (n : Nat) (x : ByteArray) : bodyF Qn.E Qn.keep n Tryz.f41 Qn.con x = Qn.fn n x := by
 have h : bodyF Qn.E Qn.keep n Tryz.f41 Qn.con x = Qn.top (fun q i8 p n7 => Qn.LN7 n x n (Qn.st7 q i8 p n7)) x := by kernel_rfl
 rw [h]
 simp only [Qn.lem7]
 rfl
set_option maxRecDepth 100000 in
theorem Qn.good : Good Tryz.prog 41 Qn.con :=
 good_of tabok (cs := Qn.cs) ⟨QP.good, QaT.good, QK.good, Qaz.good, trivial⟩ 0 false (fn := Tryz.f41) Tryz.func41 rfl (by decide) (by simp [Qn.con]) Qn.keep NN (fun _ => rfl) (fun x => Qn.body NN x)
end
end Go.Ev.Tryz

namespace Go.Ev.Tryz
open Go.Proofs Go.Pl
set_option linter.unusedVariables false
noncomputable section
def Qa3.con : Con := { ps := [], rs := [(.own, (.sl 9 .str))], F := fun x => Qa3.f  }
def Qa3.cs : List (FuncId × Con) := []
def Qa3.E : Env := envOf tab Qa3.cs 0 false
def Qa3.keep (i : Nat) : List Nat := []
set_option maxRecDepth 100000 in
theorem Qa3.body (n : Nat) (x : Unit) : bodyF Qa3.E Qa3.keep n Tryz.f71 Qa3.con x = Qa3.fn n  := by
 have h : bodyF Qa3.E Qa3.keep n Tryz.f71 Qa3.con x = Qa3.top  := by kernel_rfl
 exact h
set_option maxRecDepth 100000 in
theorem Qa3.good : Good Tryz.prog 71 Qa3.con :=
 good_of tabok (cs := Qa3.cs) trivial 0 false (fn := Tryz.f71) Tryz.func71 rfl (by decide) (by simp [Qa3.con]) Qa3.keep NN (fun _ => rfl) (fun x => Qa3.body NN x)
end
end Go.Ev.Tryz

namespace Go.Ev.Tryz
open Go.Proofs Go.Pl
set_option linter.unusedVariables false
noncomputable section
def Qaj.con : Con := { ps := [(.val, (.int .i64)), (.val, (.int .i64)), (.val, (.int .i64))], rs := [(.val, .bool)], F := fun x => Qaj.f x.1 x.2.1 x.2.2 }
def Qaj.cs : List (FuncId × Con) := []
def Qaj.E : Env := envOf tab Qaj.cs 0 false
def Qaj.keep (i : Nat) : List Nat := []
set_option maxRecDepth 100000 in
theorem Qaj.body (n : Nat) (x : Int × Int × Int) : bodyF Qaj.E Qaj.keep n Tryz.f92 Qaj.con x = Qaj.fn n x.1 x.2.1 x.2.2 := by
 have h : bodyF Qaj.E Qaj.keep n Tryz.f92 Qaj.con x = Qaj.top x.1 x.2.1 x.2.2 := by kernel_rfl
 exact h
set_option maxRecDepth 100000 in
theorem Qaj.good : Good Tryz.prog 92 Qaj.con :=
 good_of tabok (cs := Qaj.cs) trivial 0 false (fn := Tryz.f92) Tryz.func92 rfl (by decide) (by simp [Qaj.con]) Qaj.keep NN (fun _ => rfl) (fun x => Qaj.body NN x)
end
end Go.Ev.Tryz

namespace Go.Ev.Tryz
open Go.Proofs Go.Pl
set_option linter.unusedVariables false
noncomputable section
def Qam.con : Con := { ps := [(.val, (.int .i64))], rs := [(.val, .bool)], F := fun x => Qam.f x }
def Qam.cs : List (FuncId × Con) := [(92, Qaj.con)]
def Qam.E : Env := envOf tab Qam.cs 0 false
def Qam.keep (i : Nat) : List Nat := []
set_option maxRecDepth 100000 in
theorem Qam.body (n : Nat) (x : Int) : bodyF Qam.E Qam.keep n Tryz.f90 Qam.con x = Qam.fn n x := by
 have h : bodyF Qam.E Qam.keep n Tryz.f90 Qam.con x = Qam.top x := by kernel_rfl
 exact h
set_option maxRecDepth 100000 in
theorem Qam.good : Good Tryz.prog 90 Qam.con :=
 good_of tabok (cs := Qam.cs) ⟨Qaj.good, trivial⟩ 0 false (fn := Tryz.f90) Tryz.func90 rfl (by decide) (by simp [Qam.con]) Qam.keep NN (fun _ => rfl) (fun x => Qam.body NN x)
end
end Go.Ev.Tryz

namespace Go.Ev.Tryz
open Go.Proofs Go.Pl
set_option linter.unusedVariables false
noncomputable section
def QW.st2 (s0 : ByteArray) (i3 : Int) : St := ⟨[.dat .str s0, .gone, .gone, .dat (.int .i64) i3, .gone, .gone, .gone, .gone, .gone, .gone, .gone, .gone, .gone, .gone, .gone, .gone, .gone, .gone, .gone, .gone, .gone, .gone, .gone], []⟩
def QW.con : Con := { ps := [(.val, .str)], rs := [(.val, .bool)], F := fun x => QW.f x }
def QW.cs : List (FuncId × Con) := [(92, Qaj.con)]
def QW.E : Env := envOf tab QW.cs 0 false
def QW.keep (i : Nat) : List Nat := if i = 2 then [0, 3] else []
def QW.at2 (n : Nat) (x : ByteArray) : Code × (Ex → St → Option (Bool)) := ctx QW.E QW.keep n [.snd, .fst, .snd, .blk] (codeOf Tryz.f91) (kEnd QW.E Tryz.f91 QW.con x)
def QW.LN2 (n : Nat) (x : ByteArray) : Nat → St → Option (Bool) := loopN (exec QW.E QW.keep n (bodyOf (QW.at2 n x).1)) (St.norm 0 (QW.keep 2)) (QW.at2 n x).2
set_option maxRecDepth 100000 in
theorem QW.lem2 (n : Nat) (x : ByteArray) : ∀ (k : Nat) (s0 : ByteArray) (i3 : Int), QW.LN2 n x k (QW.st2 s0 i3) = QW.l2 n k s0 i3 := by
 intro k
 induction k with
 | zero => intro s0 i3; rfl
 | succ k ih =>
  intro s0 i3
  have h : QW.LN2 n x (k + 1) (QW.st2 s0 i3) = QW.g2 (fun s0 i3 => QW.LN2 n x k (QW.st2 s0 i3)) s0 i3 := by kernel_rfl
  rw [h]
  simp only [ih]
  rfl
set_option maxRecDepth 100000 in
theorem QW.body (n : Nat) (x : ByteArray) : bodyF QW.E QW.keep n Tryz.f91 QW.con x = QW.fn n x := by
 have h : bodyF QW.E QW.keep n Tryz.f91 QW.con x = QW.top (fun s0 i3 => QW.LN2 n x n (QW.st2 s0 i3)) x := by kernel_rfl
 rw [h]
 simp only [QW.lem2]
 rfl
set_option maxRecDepth 100000 in
theorem QW.good : Good Tryz.prog 91 QW.con :=
 good_of tabok (cs := QW.cs) ⟨Qaj.good, trivial⟩ 0 false (fn := Tryz.f91) Tryz.func91 rfl (by decide) (by simp [QW.con]) QW.keep NN (fun _ => rfl) (fun x => QW.body NN x)
end
end Go.Ev.Tryz

namespace Go.Ev.Tryz
open Go.Proofs Go.Pl
set_option linter.unusedVariables false
noncomputable section
def QC.st3 (q : List YA) (r : ByteArray) (n2 : Int) (p : Int) (i8 : Int) : St := ⟨[.dat (.sl 70 (.pair (.int .i64) (.pair .str (.int .i64)))) q, .dat .str r, .dat (.int .i64) n2, .gone, .gone, .gone, .gone, .dat (.int .i64) p, .dat (.int .i64) i8, .gone, .gone, .gone, .gone, .gone, .gone, .gone, .gone, .gone, .gone, .gone, .gone, .gone, .gone, .gone, .gone, .gone, .gone, .gone, .gone], []⟩
def QC.con : Con := { ps := [(.val, (.sl 70 (.pair (.int .i64) (.pair .str (.int .i64))))), (.val, .str), (.val, (.int .i64))], rs := [(.val, (.int .i64))], F := fun x => QC.f x.1 x.2.1 x.2.2 }
def QC.cs : List (FuncId × Con) := []
def QC.E : Env := envOf tab QC.cs 0 false
def QC.keep (i : Nat) : List Nat := if i = 3 then [0, 1, 2, 7, 8] else []
def QC.at3 (n : Nat) (x : YD × ByteArray × Int) : Code × (Ex → St → Option (Int)) := ctx QC.E QC.keep n [.snd, .snd, .fst, .snd, .blk] (codeOf Tryz.f93) (kEnd QC.E Tryz.f93 QC.con x)
def QC.LN3 (n : Nat) (x : YD × ByteArray × Int) : Nat → St → Option (Int) := loopN (exec QC.E QC.keep n (bodyOf (QC.at3 n x).1)) (St.norm 0 (QC.keep 3)) (QC.at3 n x).2
set_option maxRecDepth 100000 in
theorem QC.lem3 (n : Nat) (x : YD × ByteArray × Int) : ∀ (k : Nat) (q : List YA) (r : ByteArray) (n2 : Int) (p : Int) (i8 : Int), QC.LN3 n x k (QC.st3 q r n2 p i8) = QC.l3 n k q r n2 p i8 := by
 intro k
 induction k with
 | zero => intro q r n2 p i8; rfl
 | succ k ih =>
  intro q r n2 p i8
  have h : QC.LN3 n x (k + 1) (QC.st3 q r n2 p i8) = QC.g3 (fun q r n2 p i8 => QC.LN3 n x k (QC.st3 q r n2 p i8)) q r n2 p i8 := by kernel_rfl
  rw [h]
  simp only [ih]
  rfl
set_option maxRecDepth 100000 in
theorem QC.body (n : Nat) (x : YD × ByteArray × Int) : bodyF QC.E QC.keep n Tryz.f93 QC.con x = QC.fn n x.1 x.2.1 x.2.2 := by
 have h : bodyF QC.E QC.keep n Tryz.f93 QC.con x = QC.top (fun q r n2 p i8 => QC.LN3 n x n (QC.st3 q r n2 p i8)) x.1 x.2.1 x.2.2 := by kernel_rfl
 rw [h]
 simp only [QC.lem3]
 rfl
set_option maxRecDepth 100000 in
theorem QC.good : Good Tryz.prog 93 QC.con :=
 good_of tabok (cs := QC.cs) trivial 0 false (fn := Tryz.f93) Tryz.func93 rfl (by decide) (by simp [QC.con]) QC.keep NN (fun _ => rfl) (fun x => QC.body NN x)
end
end Go.Ev.Tryz

namespace Go.Ev.Tryz
open Go.Proofs Go.Pl
set_option linter.unusedVariables false
noncomputable section
def QE.st2 (p : List YA) (i3 : Int) : St := ⟨[.dat (.sl 70 (.pair (.int .i64) (.pair .str (.int .i64)))) p, .gone, .gone, .dat (.int .i64) i3, .gone, .gone, .gone, .gone, .gone, .gone, .gone, .gone, .gone, .gone, .gone, .gone, .gone, .gone, .gone, .gone, .gone, .gone, .gone, .gone, .gone, .gone, .gone, .gone, .gone, .gone, .gone, .gone, .gone, .gone, .gone, .gone, .gone, .gone, .gone, .gone, .gone, .gone, .gone, .gone, .gone, .gone, .gone, .gone, .gone, .gone, .gone, .gone, .gone, .gone, .gone, .gone, .gone, .gone, .gone, .gone, .gone, .gone, .gone], []⟩
def QE.con : Con := { ps := [(.val, (.sl 70 (.pair (.int .i64) (.pair .str (.int .i64)))))], rs := [(.val, .bool)], F := fun x => QE.f x }
def QE.cs : List (FuncId × Con) := [(90, Qam.con), (91, QW.con), (92, Qaj.con), (93, QC.con)]
def QE.E : Env := envOf tab QE.cs 0 false
def QE.keep (i : Nat) : List Nat := if i = 2 then [0, 3] else []
def QE.at2 (n : Nat) (x : List YA) : Code × (Ex → St → Option (Bool)) := ctx QE.E QE.keep n [.snd, .fst, .snd, .blk] (codeOf Tryz.f57) (kEnd QE.E Tryz.f57 QE.con x)
def QE.LN2 (n : Nat) (x : List YA) : Nat → St → Option (Bool) := loopN (exec QE.E QE.keep n (bodyOf (QE.at2 n x).1)) (St.norm 0 (QE.keep 2)) (QE.at2 n x).2
set_option maxRecDepth 100000 in
theorem QE.lem2 (n : Nat) (x : List YA) : ∀ (k : Nat) (p : List YA) (i3 : Int), QE.LN2 n x k (QE.st2 p i3) = QE.l2 n k p i3 := by
 intro k
 induction k with
 | zero => intro p i3; rfl
 | succ k ih =>
  intro p i3
  have h : QE.LN2 n x (k + 1) (QE.st2 p i3) = QE.g2 (fun p i3 => QE.LN2 n x k (QE.st2 p i3)) p i3 := by kernel_rfl
  rw [h]
  simp only [ih]
  rfl
set_option maxRecDepth 100000 in
theorem QE.body (n : Nat) (x : List YA) : bodyF QE.E QE.keep n Tryz.f57 QE.con x = QE.fn n x := by
 have h : bodyF QE.E QE.keep n Tryz.f57 QE.con x = QE.top (fun p i3 => QE.LN2 n x n (QE.st2 p i3)) x := by kernel_rfl
 rw [h]
 simp only [QE.lem2]
 rfl
set_option maxRecDepth 100000 in
theorem QE.good : Good Tryz.prog 57 QE.con :=
 good_of tabok (cs := QE.cs) ⟨Qam.good, QW.good, Qaj.good, QC.good, trivial⟩ 0 false (fn := Tryz.f57) Tryz.func57 rfl (by decide) (by simp [QE.con]) QE.keep NN (fun _ => rfl) (fun x => QE.body NN x)
end
end Go.Ev.Tryz

namespace Go.Ev.Tryz
open Go.Proofs Go.Pl
set_option linter.unusedVariables false
noncomputable section
def Qan.tr0 (p : List YA) (m1 : Int × ByteArray × Int) : Option YU :=
 if ([] : List YA).length + p.length < room 32 then
  if (([] : List YA) ++ p).length + ([m1]).length < room 32 then
   (QE.f ((([] : List YA) ++ p) ++ ([m1]))).bind fun r2 =>
   if (!r2) = true then
    some ([], 5)
   else
    some ((([] : List YA) ++ p) ++ ([m1]), 0)
  else
   none
 else
  none
def Qan.tr1 (p : List YA) (m1 : Int × ByteArray × Int) : Option YU :=
 agree (
  Qan.tr0 p m1
 ) (
  Qan.tr0 p m1
 )
def Qan.topraw (p : List YA) (m1 : Int × ByteArray × Int) : Option YU :=
 (QE.f p).bind fun r1 =>
 if (!r1) = true then
  some ([], 1)
 else if (((p.length : Int) : Int) == 40) = true then
  some ([], 3)
 else
  agree (
   agree (
    Qan.tr0 p m1
   ) (
    Qan.tr1 p m1
   )
  ) (
   agree (
    Qan.tr1 p m1
   ) (
    Qan.tr0 p m1
   )
  )
theorem Qan.topraw_eq (p : List YA) (m1 : Int × ByteArray × Int) : Qan.topraw p m1 = Qan.top p m1 := by
 unfold Qan.topraw Qan.top
 simp only [agree_self, Qan.tr0, Qan.tr1]
def Qan.con : Con := { ps := [(.val, (.sl 70 (.pair (.int .i64) (.pair .str (.int .i64))))), (.val, (.pair (.int .i64) (.pair .str (.int .i64))))], rs := [(.own, (.sl 70 (.pair (.int .i64) (.pair .str (.int .i64))))), (.own, (.int .i64))], F := fun x => Qan.f x.1 x.2 }
def Qan.cs : List (FuncId × Con) := [(57, QE.con)]
def Qan.E : Env := envOf tab Qan.cs 0 false
def Qan.keep (i : Nat) : List Nat := []
set_option maxRecDepth 100000 in
theorem Qan.body (n : Nat) (x : YD × Int × ByteArray × Int) : bodyF Qan.E Qan.keep n Tryz.f114 Qan.con x = Qan.fn n x.1 x.2 := by
 have h : bodyF Qan.E Qan.keep n Tryz.f114 Qan.con x = Qan.topraw x.1 x.2 := by kernel_rfl
 rw [Qan.topraw_eq] at h
 exact h
set_option maxRecDepth 100000 in
theorem Qan.good : Good Tryz.prog 114 Qan.con :=
 good_of tabok (cs := Qan.cs) ⟨QE.good, trivial⟩ 0 false (fn := Tryz.f114) Tryz.func114 rfl (by decide) (by simp [Qan.con]) Qan.keep NN (fun _ => rfl) (fun x => Qan.body NN x)
end
end Go.Ev.Tryz

namespace Go.Ev.Tryz
open Go.Proofs Go.Pl
set_option linter.unusedVariables false
noncomputable section
def QS.st3 (q : List YA) (p : ByteArray) (n2 : Int) (r : Int) (i8 : Int) : St := ⟨[.dat (.sl 74 (.pair (.int .i64) (.pair .str (.int .i64)))) q, .dat .str p, .dat (.int .i64) n2, .gone, .gone, .gone, .gone, .dat (.int .i64) r, .dat (.int .i64) i8, .gone, .gone, .gone, .gone, .gone, .gone, .gone, .gone, .gone, .gone, .gone, .gone, .gone, .gone, .gone, .gone, .gone, .gone, .gone, .gone, .gone, .gone, .gone, .gone, .gone, .gone, .gone, .gone, .gone, .gone, .gone, .gone, .gone, .gone, .gone], []⟩
def QS.con : Con := { ps := [(.val, (.sl 74 (.pair (.int .i64) (.pair .str (.int .i64))))), (.val, .str), (.val, (.int .i64))], rs := [(.val, (.int .i64))], F := fun x => QS.f x.1 x.2.1 x.2.2 }
def QS.cs : List (FuncId × Con) := []
def QS.E : Env := envOf tab QS.cs 0 false
def QS.keep (i : Nat) : List Nat := if i = 3 then [0, 1, 2, 7, 8] else []
def QS.at3 (n : Nat) (x : YD × ByteArray × Int) : Code × (Ex → St → Option (Int)) := ctx QS.E QS.keep n [.snd, .snd, .fst, .snd, .blk] (codeOf Tryz.f94) (kEnd QS.E Tryz.f94 QS.con x)
def QS.LN3 (n : Nat) (x : YD × ByteArray × Int) : Nat → St → Option (Int) := loopN (exec QS.E QS.keep n (bodyOf (QS.at3 n x).1)) (St.norm 0 (QS.keep 3)) (QS.at3 n x).2
set_option maxRecDepth 100000 in
theorem QS.lem3 (n : Nat) (x : YD × ByteArray × Int) : ∀ (k : Nat) (q : List YA) (p : ByteArray) (n2 : Int) (r : Int) (i8 : Int), QS.LN3 n x k (QS.st3 q p n2 r i8) = QS.l3 n k q p n2 r i8 := by
 intro k
 induction k with
 | zero => intro q p n2 r i8; rfl
 | succ k ih =>
  intro q p n2 r i8
  have h : QS.LN3 n x (k + 1) (QS.st3 q p n2 r i8) = QS.g3 (fun q p n2 r i8 => QS.LN3 n x k (QS.st3 q p n2 r i8)) q p n2 r i8 := by kernel_rfl
  rw [h]
  simp only [ih]
  rfl
set_option maxRecDepth 100000 in
theorem QS.body (n : Nat) (x : YD × ByteArray × Int) : bodyF QS.E QS.keep n Tryz.f94 QS.con x = QS.fn n x.1 x.2.1 x.2.2 := by
 have h : bodyF QS.E QS.keep n Tryz.f94 QS.con x = QS.top (fun q p n2 r i8 => QS.LN3 n x n (QS.st3 q p n2 r i8)) x.1 x.2.1 x.2.2 := by kernel_rfl
 rw [h]
 simp only [QS.lem3]
 rfl
set_option maxRecDepth 100000 in
theorem QS.good : Good Tryz.prog 94 QS.con :=
 good_of tabok (cs := QS.cs) trivial 0 false (fn := Tryz.f94) Tryz.func94 rfl (by decide) (by simp [QS.con]) QS.keep NN (fun _ => rfl) (fun x => QS.body NN x)
end
end Go.Ev.Tryz

namespace Go.Ev.Tryz
open Go.Proofs Go.Pl
set_option linter.unusedVariables false
noncomputable section
def Qh.st2 (p : List YA) (i3 : Int) : St := ⟨[.dat (.sl 74 (.pair (.int .i64) (.pair .str (.int .i64)))) p, .gone, .gone, .dat (.int .i64) i3, .gone, .gone, .gone, .gone, .gone, .gone, .gone, .gone, .gone, .gone, .gone, .gone, .gone, .gone, .gone, .gone, .gone, .gone, .gone, .gone, .gone, .gone, .gone, .gone, .gone, .gone, .gone, .gone, .gone, .gone, .gone, .gone, .gone, .gone, .gone, .gone, .gone, .gone, .gone], []⟩
def Qh.con : Con := { ps := [(.val, (.sl 74 (.pair (.int .i64) (.pair .str (.int .i64)))))], rs := [(.val, .bool)], F := fun x => Qh.f x }
def Qh.cs : List (FuncId × Con) := [(91, QW.con), (92, Qaj.con), (94, QS.con)]
def Qh.E : Env := envOf tab Qh.cs 0 false
def Qh.keep (i : Nat) : List Nat := if i = 2 then [0, 3] else []
def Qh.at2 (n : Nat) (x : List YA) : Code × (Ex → St → Option (Bool)) := ctx Qh.E Qh.keep n [.snd, .fst, .snd, .blk] (codeOf Tryz.f59) (kEnd Qh.E Tryz.f59 Qh.con x)
def Qh.LN2 (n : Nat) (x : List YA) : Nat → St → Option (Bool) := loopN (exec Qh.E Qh.keep n (bodyOf (Qh.at2 n x).1)) (St.norm 0 (Qh.keep 2)) (Qh.at2 n x).2
set_option maxRecDepth 100000 in
theorem Qh.lem2 (n : Nat) (x : List YA) : ∀ (k : Nat) (p : List YA) (i3 : Int), Qh.LN2 n x k (Qh.st2 p i3) = Qh.l2 n k p i3 := by
 intro k
 induction k with
 | zero => intro p i3; rfl
 | succ k ih =>
  intro p i3
  have h : Qh.LN2 n x (k + 1) (Qh.st2 p i3) = Qh.g2 (fun p i3 => Qh.LN2 n x k (Qh.st2 p i3)) p i3 := by kernel_rfl
  rw [h]
  simp only [ih]
  rfl
set_option maxRecDepth 100000 in
theorem Qh.body (n : Nat) (x : List YA) : bodyF Qh.E Qh.keep n Tryz.f59 Qh.con x = Qh.fn n x := by
 have h : bodyF Qh.E Qh.keep n Tryz.f59 Qh.con x = Qh.top (fun p i3 => Qh.LN2 n x n (Qh.st2 p i3)) x := by kernel_rfl
 rw [h]
 simp only [Qh.lem2]
 rfl
set_option maxRecDepth 100000 in
theorem Qh.good : Good Tryz.prog 59 Qh.con :=
 good_of tabok (cs := Qh.cs) ⟨QW.good, Qaj.good, QS.good, trivial⟩ 0 false (fn := Tryz.f59) Tryz.func59 rfl (by decide) (by simp [Qh.con]) Qh.keep NN (fun _ => rfl) (fun x => Qh.body NN x)
end
end Go.Ev.Tryz

namespace Go.Ev.Tryz
open Go.Proofs Go.Pl
set_option linter.unusedVariables false
noncomputable section
def Qab.tr0 (p : List YA) (b1 : Int × ByteArray × Int) : Option YU :=
 if ([] : List YA).length + p.length < room 32 then
  if (([] : List YA) ++ p).length + ([b1]).length < room 32 then
   (Qh.f ((([] : List YA) ++ p) ++ ([b1]))).bind fun r2 =>
   if (!r2) = true then
    some ([], 5)
   else
    some ((([] : List YA) ++ p) ++ ([b1]), 0)
  else
   none
 else
  none
def Qab.tr1 (p : List YA) (b1 : Int × ByteArray × Int) : Option YU :=
 agree (
  Qab.tr0 p b1
 ) (
  Qab.tr0 p b1
 )
def Qab.topraw (p : List YA) (b1 : Int × ByteArray × Int) : Option YU :=
 (Qh.f p).bind fun r1 =>
 if (!r1) = true then
  some ([], 1)
 else if (((p.length : Int) : Int) == 60) = true then
  some ([], 3)
 else
  agree (
   agree (
    Qab.tr0 p b1
   ) (
    Qab.tr1 p b1
   )
  ) (
   agree (
    Qab.tr1 p b1
   ) (
    Qab.tr0 p b1
   )
  )
theorem Qab.topraw_eq (p : List YA) (b1 : Int × ByteArray × Int) : Qab.topraw p b1 = Qab.top p b1 := by
 unfold Qab.topraw Qab.top
 simp only [agree_self, Qab.tr0, Qab.tr1]
def Qab.con : Con := { ps := [(.val, (.sl 74 (.pair (.int .i64) (.pair .str (.int .i64))))), (.val, (.pair (.int .i64) (.pair .str (.int .i64))))], rs := [(.own, (.sl 74 (.pair (.int .i64) (.pair .str (.int .i64))))), (.own, (.int .i64))], F := fun x => Qab.f x.1 x.2 }
def Qab.cs : List (FuncId × Con) := [(59, Qh.con)]
def Qab.E : Env := envOf tab Qab.cs 0 false
def Qab.keep (i : Nat) : List Nat := []
set_option maxRecDepth 100000 in
theorem Qab.body (n : Nat) (x : YD × Int × ByteArray × Int) : bodyF Qab.E Qab.keep n Tryz.f115 Qab.con x = Qab.fn n x.1 x.2 := by
 have h : bodyF Qab.E Qab.keep n Tryz.f115 Qab.con x = Qab.topraw x.1 x.2 := by kernel_rfl
 rw [Qab.topraw_eq] at h
 exact h
set_option maxRecDepth 100000 in
theorem Qab.good : Good Tryz.prog 115 Qab.con :=
 good_of tabok (cs := Qab.cs) ⟨Qh.good, trivial⟩ 0 false (fn := Tryz.f115) Tryz.func115 rfl (by decide) (by simp [Qab.con]) Qab.keep NN (fun _ => rfl) (fun x => Qab.body NN x)
end
end Go.Ev.Tryz

namespace Go.Ev.Tryz
open Go.Proofs Go.Pl
set_option linter.unusedVariables false
noncomputable section
def QT.st2 (p : List ByteArray) (q : ByteArray) (i5 : Int) : St := ⟨[.dat (.sl 9 .str) p, .dat .str q, .gone, .gone, .gone, .dat (.int .i64) i5, .gone, .gone, .gone, .gone, .gone, .gone, .gone, .gone, .gone, .gone, .gone, .gone, .gone], []⟩
def QT.con : Con := { ps := [(.val, (.sl 9 .str)), (.val, .str)], rs := [(.val, (.int .i64))], F := fun x => QT.f x.1 x.2 }
def QT.cs : List (FuncId × Con) := []
def QT.E : Env := envOf tab QT.cs 0 false
def QT.keep (i : Nat) : List Nat := if i = 2 then [0, 1, 5] else []
def QT.at2 (n : Nat) (x : List ByteArray × ByteArray) : Code × (Ex → St → Option (Int)) := ctx QT.E QT.keep n [.snd, .fst, .snd, .blk] (codeOf Tryz.f118) (kEnd QT.E Tryz.f118 QT.con x)
def QT.LN2 (n : Nat) (x : List ByteArray × ByteArray) : Nat → St → Option (Int) := loopN (exec QT.E QT.keep n (bodyOf (QT.at2 n x).1)) (St.norm 0 (QT.keep 2)) (QT.at2 n x).2
set_option maxRecDepth 100000 in
theorem QT.lem2 (n : Nat) (x : List ByteArray × ByteArray) : ∀ (k : Nat) (p : List ByteArray) (q : ByteArray) (i5 : Int), QT.LN2 n x k (QT.st2 p q i5) = QT.l2 n k p q i5 := by
 intro k
 induction k with
 | zero => intro p q i5; rfl
 | succ k ih =>
  intro p q i5
  have h : QT.LN2 n x (k + 1) (QT.st2 p q i5) = QT.g2 (fun p q i5 => QT.LN2 n x k (QT.st2 p q i5)) p q i5 := by kernel_rfl
  rw [h]
  simp only [ih]
  rfl
set_option maxRecDepth 100000 in
theorem QT.body (n : Nat) (x : List ByteArray × ByteArray) : bodyF QT.E QT.keep n Tryz.f118 QT.con x = QT.fn n x.1 x.2 := by
 have h : bodyF QT.E QT.keep n Tryz.f118 QT.con x = QT.top (fun p q i5 => QT.LN2 n x n (QT.st2 p q i5)) x.1 x.2 := by kernel_rfl
 rw [h]
 simp only [QT.lem2]
 rfl
set_option maxRecDepth 100000 in
theorem QT.good : Good Tryz.prog 118 QT.con :=
 good_of tabok (cs := QT.cs) trivial 0 false (fn := Tryz.f118) Tryz.func118 rfl (by decide) (by simp [QT.con]) QT.keep NN (fun _ => rfl) (fun x => QT.body NN x)
end
end Go.Ev.Tryz

namespace Go.Ev.Tryz
open Go.Proofs Go.Pl
set_option linter.unusedVariables false
noncomputable section
def Qm.st2 (p : List YC) (i3 : Int) : St := ⟨[.dat (.sl 72 (.pair (.int .i64) (.int .i64))) p, .gone, .gone, .dat (.int .i64) i3, .gone, .gone, .gone, .gone, .gone, .gone, .gone, .gone, .gone, .gone, .gone, .gone, .gone, .gone, .gone, .gone, .gone, .gone, .gone, .gone, .gone, .gone, .gone, .gone, .gone, .gone, .gone, .gone, .gone, .gone, .gone, .gone, .gone, .gone, .gone, .gone, .gone, .gone, .gone, .gone, .gone, .gone, .gone, .gone], []⟩
def Qm.con : Con := { ps := [(.val, (.sl 72 (.pair (.int .i64) (.int .i64))))], rs := [(.val, .bool)], F := fun x => Qm.f x }
def Qm.cs : List (FuncId × Con) := [(92, Qaj.con)]
def Qm.E : Env := envOf tab Qm.cs 0 false
def Qm.keep (i : Nat) : List Nat := if i = 2 then [0, 3] else []
def Qm.at2 (n : Nat) (x : List YC) : Code × (Ex → St → Option (Bool)) := ctx Qm.E Qm.keep n [.snd, .fst, .snd, .blk] (codeOf Tryz.f58) (kEnd Qm.E Tryz.f58 Qm.con x)
def Qm.LN2 (n : Nat) (x : List YC) : Nat → St → Option (Bool) := loopN (exec Qm.E Qm.keep n (bodyOf (Qm.at2 n x).1)) (St.norm 0 (Qm.keep 2)) (Qm.at2 n x).2
set_option maxRecDepth 100000 in
theorem Qm.lem2 (n : Nat) (x : List YC) : ∀ (k : Nat) (p : List YC) (i3 : Int), Qm.LN2 n x k (Qm.st2 p i3) = Qm.l2 n k p i3 := by
 intro k
 induction k with
 | zero => intro p i3; rfl
 | succ k ih =>
  intro p i3
  have h : Qm.LN2 n x (k + 1) (Qm.st2 p i3) = Qm.g2 (fun p i3 => Qm.LN2 n x k (Qm.st2 p i3)) p i3 := by kernel_rfl
  rw [h]
  simp only [ih]
  rfl
set_option maxRecDepth 100000 in
theorem Qm.body (n : Nat) (x : List YC) : bodyF Qm.E Qm.keep n Tryz.f58 Qm.con x = Qm.fn n x := by
 have h : bodyF Qm.E Qm.keep n Tryz.f58 Qm.con x = Qm.top (fun p i3 => Qm.LN2 n x n (Qm.st2 p i3)) x := by kernel_rfl
 rw [h]
 simp only [Qm.lem2]
 rfl
set_option maxRecDepth 100000 in
theorem Qm.good : Good Tryz.prog 58 Qm.con :=
 good_of tabok (cs := Qm.cs) ⟨Qaj.good, trivial⟩ 0 false (fn := Tryz.f58) Tryz.func58 rfl (by decide) (by simp [Qm.con]) Qm.keep NN (fun _ => rfl) (fun x => Qm.body NN x)
end
end Go.Ev.Tryz

namespace Go.Ev.Tryz
open Go.Proofs Go.Pl
set_option linter.unusedVariables false
noncomputable section
def Qg.st6 (p : List YC) (at6 : Int) (x3 : Int × Int) : St := ⟨[.dat (.sl 72 (.pair (.int .i64) (.int .i64))) p, .gone, .gone, .ptr 0 [], .gone, .gone, .dat (.int .i64) at6, .gone, .gone, .gone, .gone, .gone, .gone, .gone, .gone, .gone, .gone, .gone, .gone, .gone, .gone, .gone, .gone, .gone, .gone, .gone, .gone, .gone, .gone, .gone, .gone, .gone, .gone, .gone, .gone, .gone, .gone, .gone, .gone, .gone, .gone, .gone, .gone, .gone, .gone, .gone, .gone], [.box 72 (.pair (.int .i64) (.int .i64)) (.dat (.pair (.int .i64) (.int .i64)) x3)]⟩
def Qg.tr0 (p : List YC) (at6 : Int) (x3 : Int × Int) : Option YX :=
 if ([] : List YC).length + (p.take (at6 : Int).toNat).length < room 16 then
  if (([] : List YC) ++ (p.take (at6 : Int).toNat)).length + ([x3]).length < room 16 then
   if ((([] : List YC) ++ (p.take (at6 : Int).toNat)) ++ ([x3])).length + (p.drop (at6 : Int).toNat).length < room 16 then
    (Qm.f (((([] : List YC) ++ (p.take (at6 : Int).toNat)) ++ ([x3])) ++ (p.drop (at6 : Int).toNat))).bind fun r2 =>
    if (!r2) = true then
     some ([], 5)
    else
     some (((([] : List YC) ++ (p.take (at6 : Int).toNat)) ++ ([x3])) ++ (p.drop (at6 : Int).toNat), 0)
   else
    none
  else
   none
 else
  none
def Qg.tr1 (p : List YC) (at6 : Int) (x3 : Int × Int) : Option YX :=
 agree (
  Qg.tr0 p at6 x3
 ) (
  Qg.tr0 p at6 x3
 )
def Qg.tr2 (p : List YC) (at6 : Int) (x3 : Int × Int) : Option YX :=
 if ([] : List YC).length + (p.take (at6 : Int).toNat).length < room 16 then
  if (([] : List YC) ++ (p.take (at6 : Int).toNat)).length + ([x3]).length < room 16 then
   if ((([] : List YC) ++ (p.take (at6 : Int).toNat)) ++ ([x3])).length + (p.drop (at6 : Int).toNat).length < room 16 then
    (Qm.f (((([] : List YC) ++ (p.take (at6 : Int).toNat)) ++ ([x3])) ++ (p.drop (at6 : Int).toNat))).bind fun r3 =>
    if (!r3) = true then
     some ([], 5)
    else
     some (((([] : List YC) ++ (p.take (at6 : Int).toNat)) ++ ([x3])) ++ (p.drop (at6 : Int).toNat), 0)
   else
    none
  else
   none
 else
  none
def Qg.tr3 (p : List YC) (at6 : Int) (x3 : Int × Int) : Option YX :=
 agree (
  Qg.tr2 p at6 x3
 ) (
  Qg.tr2 p at6 x3
 )
def Qg.g6raw (L6 : YE → Int → YC → Option YX) (p : List YC) (at6 : Int) (x3 : Int × Int) : Option YX :=
 if (decide ((0 : Int) < at6)) = true then
  if (0 : Int) ≤ (IntKind.i64.wrap (at6 - 1)) ∧ ((IntKind.i64.wrap (at6 - 1)) : Int) < p.length then
   if (decide ((x3.1 : Int) < ((p.getD ((IntKind.i64.wrap (at6 - 1)) : Int).toNat (0, 0)).1))) = true then
    L6 p (IntKind.i64.wrap (at6 - 1)) x3
   else if (0 : Int) ≤ at6 ∧ (at6 : Int) ≤ p.length then
    if (0 : Int) ≤ at6 ∧ (at6 : Int) ≤ p.length then
     agree (
      agree (
       Qg.tr0 p at6 x3
      ) (
       Qg.tr1 p at6 x3
      )
     ) (
      agree (
       Qg.tr1 p at6 x3
      ) (
       Qg.tr0 p at6 x3
      )
     )
    else
     none
   else
    none
  else
   none
 else if (0 : Int) ≤ at6 ∧ (at6 : Int) ≤ p.length then
  if (0 : Int) ≤ at6 ∧ (at6 : Int) ≤ p.length then
   agree (
    agree (
     Qg.tr2 p at6 x3
    ) (
     Qg.tr3 p at6 x3
    )
   ) (
    agree (
     Qg.tr3 p at6 x3
    ) (
     Qg.tr2 p at6 x3
    )
   )
  else
   none
 else
  none
theorem Qg.g6raw_eq (L6 : YE → Int → YC → Option YX) (p : List YC) (at6 : Int) (x3 : Int × Int) : Qg.g6raw L6 p at6 x3 = Qg.g6 L6 p at6 x3 := by
 unfold Qg.g6raw Qg.g6
 simp only [agree_self, Qg.tr0, Qg.tr1, Qg.tr2, Qg.tr3]
def Qg.con : Con := { ps := [(.val, (.sl 72 (.pair (.int .i64) (.int .i64)))), (.val, (.pair (.int .i64) (.int .i64)))], rs := [(.own, (.sl 72 (.pair (.int .i64) (.int .i64)))), (.own, (.int .i64))], F := fun x => Qg.f x.1 x.2 }
def Qg.cs : List (FuncId × Con) := [(58, Qm.con)]
def Qg.E : Env := envOf tab Qg.cs 0 false
def Qg.keep (i : Nat) : List Nat := if i = 6 then [0, 3, 6] else []
def Qg.at6 (n : Nat) (x : YE × Int × Int) : Code × (Ex → St → Option (YX)) := ctx Qg.E Qg.keep n [.snd, .snd, .snd, .snd, .fst, .blk] (codeOf Tryz.f119) (kEnd Qg.E Tryz.f119 Qg.con x)
def Qg.LN6 (n : Nat) (x : YE × Int × Int) : Nat → St → Option (YX) := loopN (exec Qg.E Qg.keep n (bodyOf (Qg.at6 n x).1)) (St.norm 0 (Qg.keep 6)) (Qg.at6 n x).2
set_option maxRecDepth 100000 in
theorem Qg.lem6 (n : Nat) (x : YE × Int × Int) : ∀ (k : Nat) (p : List YC) (at6 : Int) (x3 : Int × Int), Qg.LN6 n x k (Qg.st6 p at6 x3) = Qg.l6 n k p at6 x3 := by
 intro k
 induction k with
 | zero => intro p at6 x3; rfl
 | succ k ih =>
  intro p at6 x3
  have h : Qg.LN6 n x (k + 1) (Qg.st6 p at6 x3) = Qg.g6raw (fun p at6 x3 => Qg.LN6 n x k (Qg.st6 p at6 x3)) p at6 x3 := by kernel_rfl
  rw [Qg.g6raw_eq] at h
  rw [h]
  simp only [ih]
  rfl
set_option maxRecDepth 100000 in
theorem Qg.body (n : Nat) (x : YE × Int × Int) : bodyF Qg.E Qg.keep n Tryz.f119 Qg.con x = Qg.fn n x.1 x.2 := by
 have h : bodyF Qg.E Qg.keep n Tryz.f119 Qg.con x = Qg.top (fun p at6 x3 => Qg.LN6 n x n (Qg.st6 p at6 x3)) x.1 x.2 := by kernel_rfl
 rw [h]
 simp only [Qg.lem6]
 rfl
set_option maxRecDepth 100000 in
theorem Qg.good : Good Tryz.prog 119 Qg.con :=
 good_of tabok (cs := Qg.cs) ⟨Qm.good, trivial⟩ 0 false (fn := Tryz.f119) Tryz.func119 rfl (by decide) (by simp [Qg.con]) Qg.keep NN (fun _ => rfl) (fun x => Qg.body NN x)
end
end Go.Ev.Tryz

namespace Go.Ev.Tryz
open Go.Proofs Go.Pl
set_option linter.unusedVariables false
noncomputable section
def Qi.st2 (s1 : ByteArray) (at5 : Int) (p : List ByteArray) : St := ⟨[.ref 0, .dat .str s1, .gone, .gone, .gone, .dat (.int .i64) at5, .gone, .gone, .gone, .gone, .gone, .gone, .gone, .gone, .gone, .gone, .gone, .gone, .gone, .gone, .gone, .gone, .gone, .gone, .gone, .gone, .gone, .gone, .gone, .gone, .gone, .gone, .gone, .gone, .gone, .gone, .gone, .gone, .gone, .gone, .gone, .gone, .gone, .gone, .gone], [.row 9 .str p none]⟩
def Qi.tr0 (s1 : ByteArray) (at5 : Int) (p : List ByteArray) : Option YQ :=
 if ([] : List ByteArray).length + (p.take (at5 : Int).toNat).length < room 16 then
  if (([] : List ByteArray) ++ (p.take (at5 : Int).toNat)).length + ([s1]).length < room 16 then
   if ((([] : List ByteArray) ++ (p.take (at5 : Int).toNat)) ++ ([s1])).length + (p.drop (at5 : Int).toNat).length < room 16 then
    some (((([] : List ByteArray) ++ (p.take (at5 : Int).toNat)) ++ ([s1])) ++ (p.drop (at5 : Int).toNat))
   else
    none
  else
   none
 else
  none
def Qi.tr1 (s1 : ByteArray) (at5 : Int) (p : List ByteArray) : Option YQ :=
 if (0 : Int) ≤ at5 ∧ (at5 : Int) ≤ p.length then
  if (0 : Int) ≤ at5 ∧ (at5 : Int) ≤ p.length then
   agree (
    agree (
     Qi.tr0 s1 at5 p
    ) (
     Qi.tr0 s1 at5 p
    )
   ) (
    Qi.tr0 s1 at5 p
   )
  else
   none
 else
  none
def Qi.tr2 (s1 : ByteArray) (at5 : Int) (p : List ByteArray) : Option YQ :=
 if (decide ((at5 : Int) < (p.length : Int))) = true then
  if (0 : Int) ≤ at5 ∧ (at5 : Int) < p.length then
   if ((p.getD (at5 : Int).toNat ByteArray.empty).toList == s1.toList) = true then
    some p
   else
    Qi.tr1 s1 at5 p
  else
   none
 else
  Qi.tr1 s1 at5 p
def Qi.g2raw (L2 : YZ) (s1 : ByteArray) (at5 : Int) (p : List ByteArray) : Option YQ :=
 if (decide ((at5 : Int) < (p.length : Int))) = true then
  if (0 : Int) ≤ at5 ∧ (at5 : Int) < p.length then
   if (Op.bytesLess (p.getD (at5 : Int).toNat ByteArray.empty).toList s1.toList) = true then
    L2 s1 (IntKind.i64.wrap (at5 + 1)) p
   else
    Qi.tr2 s1 at5 p
  else
   none
 else
  Qi.tr2 s1 at5 p
theorem Qi.g2raw_eq (L2 : YZ) (s1 : ByteArray) (at5 : Int) (p : List ByteArray) : Qi.g2raw L2 s1 at5 p = Qi.g2 L2 s1 at5 p := by
 unfold Qi.g2raw Qi.g2
 simp only [agree_self, Qi.tr0, Qi.tr1, Qi.tr2]
def Qi.con : Con := { ps := [(.own, (.sl 9 .str)), (.val, .str)], rs := [(.own, (.sl 9 .str))], gv := true, F := fun x => Qi.f x.1 x.2 }
def Qi.cs : List (FuncId × Con) := []
def Qi.E : Env := envOf tab Qi.cs 0 false
def Qi.keep (i : Nat) : List Nat := if i = 2 then [0, 1, 5] else []
def Qi.at2 (n : Nat) (x : List ByteArray × ByteArray) : Code × (Ex → St → Option (YQ)) := ctx Qi.E Qi.keep n [.snd, .snd, .fst, .blk] (codeOf Tryz.f146) (kEnd Qi.E Tryz.f146 Qi.con x)
def Qi.LN2 (n : Nat) (x : List ByteArray × ByteArray) : Nat → St → Option (YQ) := loopN (exec Qi.E Qi.keep n (bodyOf (Qi.at2 n x).1)) (St.norm 0 (Qi.keep 2)) (Qi.at2 n x).2
set_option maxRecDepth 100000 in
theorem Qi.lem2 (n : Nat) (x : List ByteArray × ByteArray) : ∀ (k : Nat) (s1 : ByteArray) (at5 : Int) (p : List ByteArray), Qi.LN2 n x k (Qi.st2 s1 at5 p) = Qi.l2 n k s1 at5 p := by
 intro k
 induction k with
 | zero => intro s1 at5 p; rfl
 | succ k ih =>
  intro s1 at5 p
  have h : Qi.LN2 n x (k + 1) (Qi.st2 s1 at5 p) = Qi.g2raw (fun s1 at5 p => Qi.LN2 n x k (Qi.st2 s1 at5 p)) s1 at5 p := by kernel_rfl
  rw [Qi.g2raw_eq] at h
  rw [h]
  simp only [ih]
  rfl
set_option maxRecDepth 100000 in
theorem Qi.body (n : Nat) (x : List ByteArray × ByteArray) : bodyF Qi.E Qi.keep n Tryz.f146 Qi.con x = Qi.fn n x.1 x.2 := by
 have h : bodyF Qi.E Qi.keep n Tryz.f146 Qi.con x = Qi.top (fun s1 at5 p => Qi.LN2 n x n (Qi.st2 s1 at5 p)) x.1 x.2 := by kernel_rfl
 rw [h]
 simp only [Qi.lem2]
 rfl
set_option maxRecDepth 100000 in
theorem Qi.good : Good Tryz.prog 146 Qi.con :=
 good_of tabok (cs := Qi.cs) trivial 0 false (fn := Tryz.f146) Tryz.func146 rfl (by decide) (by simp [Qi.con]) Qi.keep NN (fun _ => rfl) (fun x => Qi.body NN x)
end
end Go.Ev.Tryz

namespace Go.Ev.Tryz
open Go.Proofs Go.Pl
set_option linter.unusedVariables false
noncomputable section
def Q5.st3 (p : List YA) (i4 : Int) (q : List ByteArray) : St := ⟨[.dat (.sl 74 (.pair (.int .i64) (.pair .str (.int .i64)))) p, .gone, .gone, .ref 0, .dat (.int .i64) i4, .gone, .gone, .gone, .gone, .gone, .gone, .gone, .gone, .gone, .gone, .gone, .gone, .gone, .gone, .gone, .gone, .gone, .gone, .gone, .gone, .gone, .gone, .gone, .gone, .gone], [.row 9 .str q none]⟩
def Q5.con : Con := { ps := [(.val, (.sl 74 (.pair (.int .i64) (.pair .str (.int .i64)))))], rs := [(.own, (.sl 9 .str))], F := fun x => Q5.f x }
def Q5.cs : List (FuncId × Con) := [(94, QS.con), (146, Qi.con)]
def Q5.E : Env := envOf tab Q5.cs 0 false
def Q5.keep (i : Nat) : List Nat := if i = 3 then [0, 3, 4] else []
def Q5.at3 (n : Nat) (x : List YA) : Code × (Ex → St → Option (YQ)) := ctx Q5.E Q5.keep n [.snd, .snd, .fst, .snd, .blk] (codeOf Tryz.f125) (kEnd Q5.E Tryz.f125 Q5.con x)
def Q5.LN3 (n : Nat) (x : List YA) : Nat → St → Option (YQ) := loopN (exec Q5.E Q5.keep n (bodyOf (Q5.at3 n x).1)) (St.norm 0 (Q5.keep 3)) (Q5.at3 n x).2
set_option maxRecDepth 100000 in
theorem Q5.lem3 (n : Nat) (x : List YA) : ∀ (k : Nat) (p : List YA) (i4 : Int) (q : List ByteArray), Q5.LN3 n x k (Q5.st3 p i4 q) = Q5.l3 n k p i4 q := by
 intro k
 induction k with
 | zero => intro p i4 q; rfl
 | succ k ih =>
  intro p i4 q
  have h : Q5.LN3 n x (k + 1) (Q5.st3 p i4 q) = Q5.g3 (fun p i4 q => Q5.LN3 n x k (Q5.st3 p i4 q)) p i4 q := by kernel_rfl
  rw [h]
  simp only [ih]
  rfl
set_option maxRecDepth 100000 in
theorem Q5.body (n : Nat) (x : List YA) : bodyF Q5.E Q5.keep n Tryz.f125 Q5.con x = Q5.fn n x := by
 have h : bodyF Q5.E Q5.keep n Tryz.f125 Q5.con x = Q5.top (fun p i4 q => Q5.LN3 n x n (Q5.st3 p i4 q)) x := by kernel_rfl
 rw [h]
 simp only [Q5.lem3]
 rfl
set_option maxRecDepth 100000 in
theorem Q5.good : Good Tryz.prog 125 Q5.con :=
 good_of tabok (cs := Q5.cs) ⟨QS.good, Qi.good, trivial⟩ 0 false (fn := Tryz.f125) Tryz.func125 rfl (by decide) (by simp [Q5.con]) Q5.keep NN (fun _ => rfl) (fun x => Q5.body NN x)
end
end Go.Ev.Tryz

namespace Go.Ev.Tryz
open Go.Proofs Go.Pl
set_option linter.unusedVariables false
noncomputable section
def QaI.con : Con := { ps := [(.val, (.sl 74 (.pair (.int .i64) (.pair .str (.int .i64)))))], rs := [(.val, (.int .i64))], F := fun x => QaI.f x }
def QaI.cs : List (FuncId × Con) := [(59, Qh.con)]
def QaI.E : Env := envOf tab QaI.cs 0 false
def QaI.keep (i : Nat) : List Nat := []
set_option maxRecDepth 100000 in
theorem QaI.body (n : Nat) (x : List YA) : bodyF QaI.E QaI.keep n Tryz.f142 QaI.con x = QaI.fn n x := by
 have h : bodyF QaI.E QaI.keep n Tryz.f142 QaI.con x = QaI.top x := by kernel_rfl
 exact h
set_option maxRecDepth 100000 in
theorem QaI.good : Good Tryz.prog 142 QaI.con :=
 good_of tabok (cs := QaI.cs) ⟨Qh.good, trivial⟩ 0 false (fn := Tryz.f142) Tryz.func142 rfl (by decide) (by simp [QaI.con]) QaI.keep NN (fun _ => rfl) (fun x => QaI.body NN x)
end
end Go.Ev.Tryz

namespace Go.Ev.Tryz
open Go.Proofs Go.Pl
set_option linter.unusedVariables false
noncomputable section
def QH.st8 (p : List YA) (q : Int) (i8 : Int) (s : List YA) (r : List ByteArray) : St := ⟨[.dat (.sl 74 (.pair (.int .i64) (.pair .str (.int .i64)))) p, .dat (.int .i64) q, .gone, .gone, .gone, .gone, .ref 0, .ref 1, .dat (.int .i64) i8, .gone, .gone, .gone, .gone, .gone, .gone, .gone, .gone, .gone, .gone, .gone, .gone, .gone, .gone, .gone, .gone, .gone, .gone, .gone, .gone, .gone, .gone, .gone, .gone, .gone, .gone, .gone, .gone, .gone, .gone, .gone, .gone, .gone, .gone, .gone, .gone, .gone, .gone, .gone, .gone, .gone], [.row 74 (.pair (.int .i64) (.pair .str (.int .i64))) s none, .row 9 .str r none]⟩
def QH.con : Con := { ps := [(.val, (.sl 74 (.pair (.int .i64) (.pair .str (.int .i64))))), (.val, (.int .i64))], rs := [(.own, (.sl 74 (.pair (.int .i64) (.pair .str (.int .i64))))), (.own, (.int .i64))], F := fun x => QH.f x.1 x.2 }
def QH.cs : List (FuncId × Con) := [(59, Qh.con), (92, Qaj.con), (94, QS.con), (125, Q5.con), (142, QaI.con)]
def QH.E : Env := envOf tab QH.cs 0 false
def QH.keep (i : Nat) : List Nat := if i = 8 then [0, 1, 6, 7, 8] else []
def QH.at8 (n : Nat) (x : YD × Int) : Code × (Ex → St → Option (YU)) := ctx QH.E QH.keep n [.snd, .snd, .snd, .snd, .snd, .fst, .snd, .blk] (codeOf Tryz.f120) (kEnd QH.E Tryz.f120 QH.con x)
def QH.LN8 (n : Nat) (x : YD × Int) : Nat → St → Option (YU) := loopN (exec QH.E QH.keep n (bodyOf (QH.at8 n x).1)) (St.norm 0 (QH.keep 8)) (QH.at8 n x).2
set_option maxRecDepth 100000 in
theorem QH.lem8 (n : Nat) (x : YD × Int) : ∀ (k : Nat) (p : List YA) (q : Int) (i8 : Int) (s : List YA) (r : List ByteArray), QH.LN8 n x k (QH.st8 p q i8 s r) = QH.l8 n k p q i8 s r := by
 intro k
 induction k with
 | zero => intro p q i8 s r; rfl
 | succ k ih =>
  intro p q i8 s r
  have h : QH.LN8 n x (k + 1) (QH.st8 p q i8 s r) = QH.g8 (fun p q i8 s r => QH.LN8 n x k (QH.st8 p q i8 s r)) p q i8 s r := by kernel_rfl
  rw [h]
  simp only [ih]
  rfl
set_option maxRecDepth 100000 in
theorem QH.body (n : Nat) (x : YD × Int) : bodyF QH.E QH.keep n Tryz.f120 QH.con x = QH.fn n x.1 x.2 := by
 have h : bodyF QH.E QH.keep n Tryz.f120 QH.con x = QH.top (fun p q i8 s r => QH.LN8 n x n (QH.st8 p q i8 s r)) x.1 x.2 := by kernel_rfl
 rw [h]
 simp only [QH.lem8]
 rfl
set_option maxRecDepth 100000 in
theorem QH.good : Good Tryz.prog 120 QH.con :=
 good_of tabok (cs := QH.cs) ⟨Qh.good, Qaj.good, QS.good, Q5.good, QaI.good, trivial⟩ 0 false (fn := Tryz.f120) Tryz.func120 rfl (by decide) (by simp [QH.con]) QH.keep NN (fun _ => rfl) (fun x => QH.body NN x)
end
end Go.Ev.Tryz

namespace Go.Ev.Tryz
open Go.Proofs Go.Pl
set_option linter.unusedVariables false
noncomputable section
def Qag.con : Con := { ps := [(.val, (.pair (.sl 70 (.pair (.int .i64) (.pair .str (.int .i64)))) (.pair (.sl 72 (.pair (.int .i64) (.int .i64))) (.sl 74 (.pair (.int .i64) (.pair .str (.int .i64))))))), (.val, (.sl 9 .str)), (.val, (.sl 2 (.int .i64)))], rs := [(.val, (.pair (.sl 70 (.pair (.int .i64) (.pair .str (.int .i64)))) (.pair (.sl 72 (.pair (.int .i64) (.int .i64))) (.sl 74 (.pair (.int .i64) (.pair .str (.int .i64))))))), (.val, (.int .i64))], F := fun x => Qag.f x.1 x.2.1 x.2.2 }
def Qag.cs : List (FuncId × Con) := [(71, Qa3.con), (114, Qan.con), (115, Qab.con), (118, QT.con), (119, Qg.con), (120, QH.con)]
def Qag.E : Env := envOf tab Qag.cs 0 false
def Qag.keep (i : Nat) : List Nat := []
set_option maxRecDepth 100000 in
theorem Qag.body (n : Nat) (x : YF × List ByteArray × List Int) : bodyF Qag.E Qag.keep n Tryz.f95 Qag.con x = Qag.fn n x.1 x.2.1 x.2.2 := by
 have h : bodyF Qag.E Qag.keep n Tryz.f95 Qag.con x = Qag.top x.1 x.2.1 x.2.2 := by kernel_rfl
 exact h
set_option maxRecDepth 100000 in
theorem Qag.good : Good Tryz.prog 95 Qag.con :=
 good_of tabok (cs := Qag.cs) ⟨Qa3.good, Qan.good, Qab.good, QT.good, Qg.good, QH.good, trivial⟩ 0 false (fn := Tryz.f95) Tryz.func95 rfl (by decide) (by simp [Qag.con]) Qag.keep NN (fun _ => rfl) (fun x => Qag.body NN x)
end
end Go.Ev.Tryz

namespace Go.Ev.Tryz
open Go.Proofs Go.Pl
set_option linter.unusedVariables false
noncomputable section
def Qa4.con : Con := { ps := [(.val, (.sl 70 (.pair (.int .i64) (.pair .str (.int .i64))))), (.val, .str), (.val, (.int .i64))], rs := [(.val, (.int .i64))], F := fun x => Qa4.f x.1 x.2.1 x.2.2 }
def Qa4.cs : List (FuncId × Con) := [(57, QE.con), (90, Qam.con), (91, QW.con)]
def Qa4.E : Env := envOf tab Qa4.cs 0 false
def Qa4.keep (i : Nat) : List Nat := []
set_option maxRecDepth 100000 in
theorem Qa4.body (n : Nat) (x : YD × ByteArray × Int) : bodyF Qa4.E Qa4.keep n Tryz.f143 Qa4.con x = Qa4.fn n x.1 x.2.1 x.2.2 := by
 have h : bodyF Qa4.E Qa4.keep n Tryz.f143 Qa4.con x = Qa4.top x.1 x.2.1 x.2.2 := by kernel_rfl
 exact h
set_option maxRecDepth 100000 in
theorem Qa4.good : Good Tryz.prog 143 Qa4.con :=
 good_of tabok (cs := Qa4.cs) ⟨QE.good, Qam.good, QW.good, trivial⟩ 0 false (fn := Tryz.f143) Tryz.func143 rfl (by decide) (by simp [Qa4.con]) Qa4.keep NN (fun _ => rfl) (fun x => Qa4.body NN x)
end
end Go.Ev.Tryz

namespace Go.Ev.Tryz
open Go.Proofs Go.Pl
set_option linter.unusedVariables false
noncomputable section
def Q2.st2 (p : List YA) (t1 : Int) (n5 : Int) : St := ⟨[.dat (.sl 70 (.pair (.int .i64) (.pair .str (.int .i64)))) p, .dat (.int .i64) t1, .gone, .gone, .gone, .dat (.int .i64) n5, .gone, .gone, .gone, .gone, .gone, .gone, .gone, .gone, .gone, .gone, .gone, .gone, .gone, .gone, .gone, .gone], []⟩
def Q2.con : Con := { ps := [(.val, (.sl 70 (.pair (.int .i64) (.pair .str (.int .i64))))), (.val, (.int .i64))], rs := [(.val, (.int .i64))], F := fun x => Q2.f x.1 x.2 }
def Q2.cs : List (FuncId × Con) := []
def Q2.E : Env := envOf tab Q2.cs 0 false
def Q2.keep (i : Nat) : List Nat := if i = 2 then [0, 1, 5] else []
def Q2.at2 (n : Nat) (x : YD × Int) : Code × (Ex → St → Option (Int)) := ctx Q2.E Q2.keep n [.snd, .snd, .fst, .blk] (codeOf Tryz.f160) (kEnd Q2.E Tryz.f160 Q2.con x)
def Q2.LN2 (n : Nat) (x : YD × Int) : Nat → St → Option (Int) := loopN (exec Q2.E Q2.keep n (bodyOf (Q2.at2 n x).1)) (St.norm 0 (Q2.keep 2)) (Q2.at2 n x).2
set_option maxRecDepth 100000 in
theorem Q2.lem2 (n : Nat) (x : YD × Int) : ∀ (k : Nat) (p : List YA) (t1 : Int) (n5 : Int), Q2.LN2 n x k (Q2.st2 p t1 n5) = Q2.l2 n k p t1 n5 := by
 intro k
 induction k with
 | zero => intro p t1 n5; rfl
 | succ k ih =>
  intro p t1 n5
  have h : Q2.LN2 n x (k + 1) (Q2.st2 p t1 n5) = Q2.g2 (fun p t1 n5 => Q2.LN2 n x k (Q2.st2 p t1 n5)) p t1 n5 := by kernel_rfl
  rw [h]
  simp only [ih]
  rfl
set_option maxRecDepth 100000 in
theorem Q2.body (n : Nat) (x : YD × Int) : bodyF Q2.E Q2.keep n Tryz.f160 Q2.con x = Q2.fn n x.1 x.2 := by
 have h : bodyF Q2.E Q2.keep n Tryz.f160 Q2.con x = Q2.top (fun p t1 n5 => Q2.LN2 n x n (Q2.st2 p t1 n5)) x.1 x.2 := by kernel_rfl
 rw [h]
 simp only [Q2.lem2]
 rfl
set_option maxRecDepth 100000 in
theorem Q2.good : Good Tryz.prog 160 Q2.con :=
 good_of tabok (cs := Q2.cs) trivial 0 false (fn := Tryz.f160) Tryz.func160 rfl (by decide) (by simp [Q2.con]) Q2.keep NN (fun _ => rfl) (fun x => Q2.body NN x)
end
end Go.Ev.Tryz

namespace Go.Ev.Tryz
open Go.Proofs Go.Pl
set_option linter.unusedVariables false
noncomputable section
def QO.st3 (p : List YA) (q : ByteArray) (t2 : Int) (n7 : Int) (i8 : Int) : St := ⟨[.dat (.sl 70 (.pair (.int .i64) (.pair .str (.int .i64)))) p, .dat .str q, .dat (.int .i64) t2, .gone, .gone, .gone, .gone, .dat (.int .i64) n7, .dat (.int .i64) i8, .gone, .gone, .gone, .gone, .gone, .gone, .gone, .gone, .gone, .gone, .gone, .gone, .gone, .gone, .gone, .gone, .gone, .gone, .gone, .gone, .gone, .gone, .gone, .gone, .gone, .gone, .gone, .gone, .gone, .gone], []⟩
def QO.con : Con := { ps := [(.val, (.sl 70 (.pair (.int .i64) (.pair .str (.int .i64))))), (.val, .str), (.val, (.int .i64))], rs := [(.val, .bool)], F := fun x => QO.f x.1 x.2.1 x.2.2 }
def QO.cs : List (FuncId × Con) := [(93, QC.con), (160, Q2.con)]
def QO.E : Env := envOf tab QO.cs 0 false
def QO.keep (i : Nat) : List Nat := if i = 3 then [0, 1, 2, 7, 8] else []
def QO.at3 (n : Nat) (x : YD × ByteArray × Int) : Code × (Ex → St → Option (Bool)) := ctx QO.E QO.keep n [.snd, .snd, .fst, .snd, .blk] (codeOf Tryz.f144) (kEnd QO.E Tryz.f144 QO.con x)
def QO.LN3 (n : Nat) (x : YD × ByteArray × Int) : Nat → St → Option (Bool) := loopN (exec QO.E QO.keep n (bodyOf (QO.at3 n x).1)) (St.norm 0 (QO.keep 3)) (QO.at3 n x).2
set_option maxRecDepth 100000 in
theorem QO.lem3 (n : Nat) (x : YD × ByteArray × Int) : ∀ (k : Nat) (p : List YA) (q : ByteArray) (t2 : Int) (n7 : Int) (i8 : Int), QO.LN3 n x k (QO.st3 p q t2 n7 i8) = QO.l3 n k p q t2 n7 i8 := by
 intro k
 induction k with
 | zero => intro p q t2 n7 i8; rfl
 | succ k ih =>
  intro p q t2 n7 i8
  have h : QO.LN3 n x (k + 1) (QO.st3 p q t2 n7 i8) = QO.g3 (fun p q t2 n7 i8 => QO.LN3 n x k (QO.st3 p q t2 n7 i8)) p q t2 n7 i8 := by kernel_rfl
  rw [h]
  simp only [ih]
  rfl
set_option maxRecDepth 100000 in
theorem QO.body (n : Nat) (x : YD × ByteArray × Int) : bodyF QO.E QO.keep n Tryz.f144 QO.con x = QO.fn n x.1 x.2.1 x.2.2 := by
 have h : bodyF QO.E QO.keep n Tryz.f144 QO.con x = QO.top (fun p q t2 n7 i8 => QO.LN3 n x n (QO.st3 p q t2 n7 i8)) x.1 x.2.1 x.2.2 := by kernel_rfl
 rw [h]
 simp only [QO.lem3]
 rfl
set_option maxRecDepth 100000 in
theorem QO.good : Good Tryz.prog 144 QO.con :=
 good_of tabok (cs := QO.cs) ⟨QC.good, Q2.good, trivial⟩ 0 false (fn := Tryz.f144) Tryz.func144 rfl (by decide) (by simp [QO.con]) QO.keep NN (fun _ => rfl) (fun x => QO.body NN x)
end
end Go.Ev.Tryz

namespace Go.Ev.Tryz
open Go.Proofs Go.Pl
set_option linter.unusedVariables false
noncomputable section
def QaZ.con : Con := { ps := [(.val, (.sl 70 (.pair (.int .i64) (.pair .str (.int .i64))))), (.val, .str), (.val, (.int .i64))], rs := [(.val, .bool), (.val, (.int .i64))], F := fun x => QaZ.f x.1 x.2.1 x.2.2 }
def QaZ.cs : List (FuncId × Con) := [(143, Qa4.con), (144, QO.con)]
def QaZ.E : Env := envOf tab QaZ.cs 0 false
def QaZ.keep (i : Nat) : List Nat := []
set_option maxRecDepth 100000 in
theorem QaZ.body (n : Nat) (x : YD × ByteArray × Int) : bodyF QaZ.E QaZ.keep n Tryz.f121 QaZ.con x = QaZ.fn n x.1 x.2.1 x.2.2 := by
 have h : bodyF QaZ.E QaZ.keep n Tryz.f121 QaZ.con x = QaZ.top x.1 x.2.1 x.2.2 := by kernel_rfl
 exact h
set_option maxRecDepth 100000 in
theorem QaZ.good : Good Tryz.prog 121 QaZ.con :=
 good_of tabok (cs := QaZ.cs) ⟨Qa4.good, QO.good, trivial⟩ 0 false (fn := Tryz.f121) Tryz.func121 rfl (by decide) (by simp [QaZ.con]) QaZ.keep NN (fun _ => rfl) (fun x => QaZ.body NN x)
end
end Go.Ev.Tryz

namespace Go.Ev.Tryz
open Go.Proofs Go.Pl
set_option linter.unusedVariables false
noncomputable section
def Qa7.con : Con := { ps := [(.val, (.sl 72 (.pair (.int .i64) (.int .i64)))), (.val, (.int .i64))], rs := [(.val, (.int .i64))], F := fun x => Qa7.f x.1 x.2 }
def Qa7.cs : List (FuncId × Con) := [(58, Qm.con), (92, Qaj.con)]
def Qa7.E : Env := envOf tab Qa7.cs 0 false
def Qa7.keep (i : Nat) : List Nat := []
set_option maxRecDepth 100000 in
theorem Qa7.body (n : Nat) (x : YE × Int) : bodyF Qa7.E Qa7.keep n Tryz.f161 Qa7.con x = Qa7.fn n x.1 x.2 := by
 have h : bodyF Qa7.E Qa7.keep n Tryz.f161 Qa7.con x = Qa7.top x.1 x.2 := by kernel_rfl
 exact h
set_option maxRecDepth 100000 in
theorem Qa7.good : Good Tryz.prog 161 Qa7.con :=
 good_of tabok (cs := Qa7.cs) ⟨Qm.good, Qaj.good, trivial⟩ 0 false (fn := Tryz.f161) Tryz.func161 rfl (by decide) (by simp [Qa7.con]) Qa7.keep NN (fun _ => rfl) (fun x => Qa7.body NN x)
end
end Go.Ev.Tryz

namespace Go.Ev.Tryz
open Go.Proofs Go.Pl
set_option linter.unusedVariables false
noncomputable section
def Qa1.con : Con := { ps := [(.val, (.pair .bool (.pair .bool (.pair .bool (.pair .bool (.pair .bool (.int .i64)))))))], rs := [(.val, (.pair .bool (.pair .bool (.pair .bool (.pair .bool (.pair .bool (.int .i64)))))))], F := fun x => Qa1.f x }
def Qa1.cs : List (FuncId × Con) := []
def Qa1.E : Env := envOf tab Qa1.cs 0 false
def Qa1.keep (i : Nat) : List Nat := []
set_option maxRecDepth 100000 in
theorem Qa1.body (n : Nat) (x : Bool × Bool × Bool × Bool × Bool × Int) : bodyF Qa1.E Qa1.keep n Tryz.f171 Qa1.con x = Qa1.fn n x := by
 have h : bodyF Qa1.E Qa1.keep n Tryz.f171 Qa1.con x = Qa1.top x := by kernel_rfl
 exact h
set_option maxRecDepth 100000 in
theorem Qa1.good : Good Tryz.prog 171 Qa1.con :=
 good_of tabok (cs := Qa1.cs) trivial 0 false (fn := Tryz.f171) Tryz.func171 rfl (by decide) (by simp [Qa1.con]) Qa1.keep NN (fun _ => rfl) (fun x => Qa1.body NN x)
end
end Go.Ev.Tryz

namespace Go.Ev.Tryz
open Go.Proofs Go.Pl
set_option linter.unusedVariables false
noncomputable section
def QaJ.con : Con := { ps := [(.val, (.pair .bool (.pair .bool (.pair .bool (.pair .bool (.pair .bool (.int .i64))))))), (.val, (.int .i64))], rs := [(.val, (.pair .bool (.pair .bool (.pair .bool (.pair .bool (.pair .bool (.int .i64))))))), (.val, .bool)], F := fun x => QaJ.f x.1 x.2 }
def QaJ.cs : List (FuncId × Con) := [(171, Qa1.con)]
def QaJ.E : Env := envOf tab QaJ.cs 0 false
def QaJ.keep (i : Nat) : List Nat := []
set_option maxRecDepth 100000 in
theorem QaJ.body (n : Nat) (x : YB × Int) : bodyF QaJ.E QaJ.keep n Tryz.f169 QaJ.con x = QaJ.fn n x.1 x.2 := by
 have h : bodyF QaJ.E QaJ.keep n Tryz.f169 QaJ.con x = QaJ.top x.1 x.2 := by kernel_rfl
 exact h
set_option maxRecDepth 100000 in
theorem QaJ.good : Good Tryz.prog 169 QaJ.con :=
 good_of tabok (cs := QaJ.cs) ⟨Qa1.good, trivial⟩ 0 false (fn := Tryz.f169) Tryz.func169 rfl (by decide) (by simp [QaJ.con]) QaJ.keep NN (fun _ => rfl) (fun x => QaJ.body NN x)
end
end Go.Ev.Tryz

namespace Go.Ev.Tryz
open Go.Proofs Go.Pl
set_option linter.unusedVariables false
noncomputable section
def QJ.st2 (k5 : Int) (c2 : Bool × Bool × Bool × Bool × Bool × Int) (v4a : Bool) (t : Bool) (s : Bool) (r : Bool) (p : Bool) (q : Int) : St := ⟨[.gone, .gone, .ptr 0 [], .gone, .ptr 1 [], .dat (.int .i64) k5, .gone, .gone, .gone, .gone, .gone, .gone, .gone, .gone, .gone, .gone, .gone, .gone, .gone, .gone, .gone], [.box 114 (.pair .bool (.pair .bool (.pair .bool (.pair .bool (.pair .bool (.int .i64)))))) (.dat (.pair .bool (.pair .bool (.pair .bool (.pair .bool (.pair .bool (.int .i64)))))) c2), .box 114 (.pair .bool (.pair .bool (.pair .bool (.pair .bool (.pair .bool (.int .i64)))))) (.pr (.dat .bool v4a) (.pr (.dat .bool t) (.pr (.dat .bool s) (.pr (.dat .bool r) (.pr (.dat .bool p) (.dat (.int .i64) q))))))]⟩
def QJ.con : Con := { ps := [(.val, (.pair .bool (.pair .bool (.pair .bool (.pair .bool (.pair .bool (.int .i64))))))), (.val, (.int .i64))], rs := [(.val, (.pair .bool (.pair .bool (.pair .bool (.pair .bool (.pair .bool (.int .i64)))))))], F := fun x => QJ.f x.1 x.2 }
def QJ.cs : List (FuncId × Con) := [(169, QaJ.con)]
def QJ.E : Env := envOf tab QJ.cs 0 false
def QJ.keep (i : Nat) : List Nat := if i = 2 then [2, 4, 5] else []
def QJ.at2 (n : Nat) (x : YB × Int) : Code × (Ex → St → Option (YB)) := ctx QJ.E QJ.keep n [.snd, .fst, .snd, .blk] (codeOf Tryz.f168) (kEnd QJ.E Tryz.f168 QJ.con x)
def QJ.LN2 (n : Nat) (x : YB × Int) : Nat → St → Option (YB) := loopN (exec QJ.E QJ.keep n (bodyOf (QJ.at2 n x).1)) (St.norm 0 (QJ.keep 2)) (QJ.at2 n x).2
set_option maxRecDepth 100000 in
theorem QJ.lem2 (n : Nat) (x : YB × Int) : ∀ (k : Nat) (k5 : Int) (c2 : Bool × Bool × Bool × Bool × Bool × Int) (v4a : Bool) (t : Bool) (s : Bool) (r : Bool) (p : Bool) (q : Int), QJ.LN2 n x k (QJ.st2 k5 c2 v4a t s r p q) = QJ.l2 n k k5 c2 v4a t s r p q := by
 intro k
 induction k with
 | zero => intro k5 c2 v4a t s r p q; rfl
 | succ k ih =>
  intro k5 c2 v4a t s r p q
  have h : QJ.LN2 n x (k + 1) (QJ.st2 k5 c2 v4a t s r p q) = QJ.g2 (fun k5 c2 v4a t s r p q => QJ.LN2 n x k (QJ.st2 k5 c2 v4a t s r p q)) k5 c2 v4a t s r p q := by kernel_rfl
  rw [h]
  simp only [ih]
  rfl
set_option maxRecDepth 100000 in
theorem QJ.body (n : Nat) (x : YB × Int) : bodyF QJ.E QJ.keep n Tryz.f168 QJ.con x = QJ.fn n x.1 x.2 := by
 have h : bodyF QJ.E QJ.keep n Tryz.f168 QJ.con x = QJ.top (fun k5 c2 v4a t s r p q => QJ.LN2 n x n (QJ.st2 k5 c2 v4a t s r p q)) x.1 x.2 := by kernel_rfl
 rw [h]
 simp only [QJ.lem2]
 rfl
set_option maxRecDepth 100000 in
theorem QJ.good : Good Tryz.prog 168 QJ.con :=
 good_of tabok (cs := QJ.cs) ⟨QaJ.good, trivial⟩ 0 false (fn := Tryz.f168) Tryz.func168 rfl (by decide) (by simp [QJ.con]) QJ.keep NN (fun _ => rfl) (fun x => QJ.body NN x)
end
end Go.Ev.Tryz

namespace Go.Ev.Tryz
open Go.Proofs Go.Pl
set_option linter.unusedVariables false
noncomputable section
def QQ.st4 (s : List YC) (u : Int) (y : Int) (i9 : Int) (v4a : Bool) (w : Bool) (v : Bool) (t : Bool) (q : Bool) (r : Int) (c6 : Bool × Bool × Bool × Bool × Bool × Int) (p : List Int) : St := ⟨[.dat (.sl 72 (.pair (.int .i64) (.int .i64))) s, .dat (.int .i64) u, .gone, .gone, .ptr 0 [], .gone, .ptr 1 [], .dat (.int .i64) y, .ref 2, .dat (.int .i64) i9, .gone, .gone, .gone, .gone, .gone, .gone, .gone, .gone, .gone, .gone, .gone, .gone, .gone, .gone, .gone, .gone, .gone, .gone, .gone, .gone, .gone, .gone, .gone, .gone, .gone, .gone, .gone, .gone, .gone, .gone, .gone, .gone, .gone, .gone, .gone, .gone, .gone, .gone, .gone, .gone, .gone, .gone, .gone, .gone, .gone, .gone, .gone, .gone, .gone, .gone, .gone, .gone, .gone, .gone, .gone], [.box 114 (.pair .bool (.pair .bool (.pair .bool (.pair .bool (.pair .bool (.int .i64)))))) (.pr (.dat .bool v4a) (.pr (.dat .bool w) (.pr (.dat .bool v) (.pr (.dat .bool t) (.pr (.dat .bool q) (.dat (.int .i64) r)))))), .box 114 (.pair .bool (.pair .bool (.pair .bool (.pair .bool (.pair .bool (.int .i64)))))) (.dat (.pair .bool (.pair .bool (.pair .bool (.pair .bool (.pair .bool (.int .i64)))))) c6), .row 2 (.int .i64) p none]⟩
def QQ.tr0 (L4 : YAC) (s : List YC) (u : Int) (i9 : Int) (v4a : Bool) (w : Bool) (v : Bool) (t : Bool) (q : Bool) (r : Int) (p : List Int) (r1 : YB) : Option YAB :=
 (QaJ.f r1 ((s.getD (i9 : Int).toNat (0, 0)).2)).bind fun r2 =>
 if r2.2 = true then
  L4 s u ((s.getD (i9 : Int).toNat (0, 0)).1) (IntKind.i64.wrap (i9 + 1)) v4a w v t q r r2.1 p
 else if p.length + ([i9]).length < room 8 then
  L4 s u ((s.getD (i9 : Int).toNat (0, 0)).1) (IntKind.i64.wrap (i9 + 1)) v4a w v t q r r1 (p ++ ([i9]))
 else
  none
def QQ.tr1 (L4 : YAC) (s : List YC) (u : Int) (i9 : Int) (v4a : Bool) (w : Bool) (v : Bool) (t : Bool) (q : Bool) (r : Int) (p : List Int) (r1 : YB) : Option YAB :=
 agree (
  QQ.tr0 L4 s u i9 v4a w v t q r p r1
 ) (
  QQ.tr0 L4 s u i9 v4a w v t q r p r1
 )
def QQ.tr2 (L4 : YAC) (s : List YC) (u : Int) (i9 : Int) (v4a : Bool) (w : Bool) (v : Bool) (t : Bool) (q : Bool) (r : Int) (p : List Int) (r1 : YB) : Option YAB :=
 agree (
  QQ.tr1 L4 s u i9 v4a w v t q r p r1
 ) (
  QQ.tr0 L4 s u i9 v4a w v t q r p r1
 )
def QQ.g4raw (L4 : YAC) (s : List YC) (u : Int) (y : Int) (i9 : Int) (v4a : Bool) (w : Bool) (v : Bool) (t : Bool) (q : Bool) (r : Int) (c6 : Bool × Bool × Bool × Bool × Bool × Int) (p : List Int) : Option YAB :=
 if (decide ((i9 : Int) < (s.length : Int))) = true then
  if (0 : Int) ≤ i9 ∧ (i9 : Int) < s.length then
   if (decide ((((s.getD (i9 : Int).toNat (0, 0)).1) : Int) ≤ u)) = true then
    if (0 : Int) ≤ i9 ∧ (i9 : Int) < s.length then
     (QJ.f c6 (IntKind.i64.wrap (((s.getD (i9 : Int).toNat (0, 0)).1) - y))).bind fun r1 =>
     if (0 : Int) ≤ i9 ∧ (i9 : Int) < s.length then
      if (0 : Int) ≤ i9 ∧ (i9 : Int) < s.length then
       agree (
        QQ.tr2 L4 s u i9 v4a w v t q r p r1
       ) (
        agree (
         QQ.tr2 L4 s u i9 v4a w v t q r p r1
        ) (
         QQ.tr1 L4 s u i9 v4a w v t q r p r1
        )
       )
      else
       none
     else
      none
    else
     none
   else
    (QJ.f c6 (IntKind.i64.wrap (u - y))).bind fun r3 =>
    some (r3, p)
  else
   none
 else
  (QJ.f c6 (IntKind.i64.wrap (u - y))).bind fun r4 =>
  some (r4, p)
theorem QQ.g4raw_eq (L4 : YAC) (s : List YC) (u : Int) (y : Int) (i9 : Int) (v4a : Bool) (w : Bool) (v : Bool) (t : Bool) (q : Bool) (r : Int) (c6 : Bool × Bool × Bool × Bool × Bool × Int) (p : List Int) : QQ.g4raw L4 s u y i9 v4a w v t q r c6 p = QQ.g4 L4 s u y i9 v4a w v t q r c6 p := by
 unfold QQ.g4raw QQ.g4
 simp only [agree_self, QQ.tr0, QQ.tr1, QQ.tr2]
def QQ.con : Con := { ps := [(.val, (.sl 72 (.pair (.int .i64) (.int .i64)))), (.val, (.int .i64))], rs := [(.own, (.pair .bool (.pair .bool (.pair .bool (.pair .bool (.pair .bool (.int .i64))))))), (.own, (.sl 2 (.int .i64)))], F := fun x => QQ.f x.1 x.2 }
def QQ.cs : List (FuncId × Con) := [(168, QJ.con), (169, QaJ.con)]
def QQ.E : Env := envOf tab QQ.cs 0 false
def QQ.keep (i : Nat) : List Nat := if i = 4 then [0, 1, 4, 6, 7, 8, 9, 200006] else []
def QQ.at4 (n : Nat) (x : YE × Int) : Code × (Ex → St → Option (YAB)) := ctx QQ.E QQ.keep n [.snd, .snd, .snd, .fst, .snd, .blk] (codeOf Tryz.f162) (kEnd QQ.E Tryz.f162 QQ.con x)
def QQ.LN4 (n : Nat) (x : YE × Int) : Nat → St → Option (YAB) := loopN (exec QQ.E QQ.keep n (bodyOf (QQ.at4 n x).1)) (St.norm 0 (QQ.keep 4)) (QQ.at4 n x).2
set_option maxRecDepth 100000 in
theorem QQ.lem4 (n : Nat) (x : YE × Int) : ∀ (k : Nat) (s : List YC) (u : Int) (y : Int) (i9 : Int) (v4a : Bool) (w : Bool) (v : Bool) (t : Bool) (q : Bool) (r : Int) (c6 : Bool × Bool × Bool × Bool × Bool × Int) (p : List Int), QQ.LN4 n x k (QQ.st4 s u y i9 v4a w v t q r c6 p) = QQ.l4 n k s u y i9 v4a w v t q r c6 p := by
 intro k
 induction k with
 | zero => intro s u y i9 v4a w v t q r c6 p; rfl
 | succ k ih =>
  intro s u y i9 v4a w v t q r c6 p
  have h : QQ.LN4 n x (k + 1) (QQ.st4 s u y i9 v4a w v t q r c6 p) = QQ.g4raw (fun s u y i9 v4a w v t q r c6 p => QQ.LN4 n x k (QQ.st4 s u y i9 v4a w v t q r c6 p)) s u y i9 v4a w v t q r c6 p := by kernel_rfl
  rw [QQ.g4raw_eq] at h
  rw [h]
  simp only [ih]
  rfl
set_option maxRecDepth 100000 in
theorem QQ.body (n : Nat) (x : YE × Int) : bodyF QQ.E QQ.keep n Tryz.f162 QQ.con x = QQ.fn n x.1 x.2 := by
 have h : bodyF QQ.E QQ.keep n Tryz.f162 QQ.con x = QQ.top (fun s u y i9 v4a w v t q r c6 p => QQ.LN4 n x n (QQ.st4 s u y i9 v4a w v t q r c6 p)) x.1 x.2 := by kernel_rfl
 rw [h]
 simp only [QQ.lem4]
 rfl
set_option maxRecDepth 100000 in
theorem QQ.good : Good Tryz.prog 162 QQ.con :=
 good_of tabok (cs := QQ.cs) ⟨QJ.good, QaJ.good, trivial⟩ 0 false (fn := Tryz.f162) Tryz.func162 rfl (by decide) (by simp [QQ.con]) QQ.keep NN (fun _ => rfl) (fun x => QQ.body NN x)
end
end Go.Ev.Tryz

namespace Go.Ev.Tryz
open Go.Proofs Go.Pl
set_option linter.unusedVariables false
noncomputable section
def Qaq.con : Con := { ps := [(.val, (.sl 72 (.pair (.int .i64) (.int .i64)))), (.val, (.int .i64))], rs := [(.val, (.pair .bool (.pair .bool (.pair .bool (.pair .bool (.pair .bool (.int .i64))))))), (.val, (.int .i64))], F := fun x => Qaq.f x.1 x.2 }
def Qaq.cs : List (FuncId × Con) := [(161, Qa7.con), (162, QQ.con)]
def Qaq.E : Env := envOf tab Qaq.cs 0 false
def Qaq.keep (i : Nat) : List Nat := []
set_option maxRecDepth 100000 in
theorem Qaq.body (n : Nat) (x : YE × Int) : bodyF Qaq.E Qaq.keep n Tryz.f145 Qaq.con x = Qaq.fn n x.1 x.2 := by
 have h : bodyF Qaq.E Qaq.keep n Tryz.f145 Qaq.con x = Qaq.top x.1 x.2 := by kernel_rfl
 exact h
set_option maxRecDepth 100000 in
theorem Qaq.good : Good Tryz.prog 145 Qaq.con :=
 good_of tabok (cs := Qaq.cs) ⟨Qa7.good, QQ.good, trivial⟩ 0 false (fn := Tryz.f145) Tryz.func145 rfl (by decide) (by simp [Qaq.con]) Qaq.keep NN (fun _ => rfl) (fun x => Qaq.body NN x)
end
end Go.Ev.Tryz

namespace Go.Ev.Tryz
open Go.Proofs Go.Pl
set_option linter.unusedVariables false
noncomputable section
def QaR.con : Con := { ps := [(.val, (.pair (.sl 70 (.pair (.int .i64) (.pair .str (.int .i64)))) (.pair (.sl 72 (.pair (.int .i64) (.int .i64))) (.sl 74 (.pair (.int .i64) (.pair .str (.int .i64))))))), (.val, (.int .i64))], rs := [(.val, .str), (.val, (.int .i64))], F := fun x => QaR.f x.1 x.2 }
def QaR.cs : List (FuncId × Con) := [(145, Qaq.con)]
def QaR.E : Env := envOf tab QaR.cs 0 false
def QaR.keep (i : Nat) : List Nat := []
set_option maxRecDepth 100000 in
theorem QaR.body (n : Nat) (x : YF × Int) : bodyF QaR.E QaR.keep n Tryz.f122 QaR.con x = QaR.fn n x.1 x.2 := by
 have h : bodyF QaR.E QaR.keep n Tryz.f122 QaR.con x = QaR.top x.1 x.2 := by kernel_rfl
 exact h
set_option maxRecDepth 100000 in
theorem QaR.good : Good Tryz.prog 122 QaR.con :=
 good_of tabok (cs := QaR.cs) ⟨Qaq.good, trivial⟩ 0 false (fn := Tryz.f122) Tryz.func122 rfl (by decide) (by simp [QaR.con]) QaR.keep NN (fun _ => rfl) (fun x => QaR.body NN x)
end
end Go.Ev.Tryz

namespace Go.Ev.Tryz
open Go.Proofs Go.Pl
set_option linter.unusedVariables false
noncomputable section
def Qe.st9 (p : List Int) (s : List YC) (q : List YA) (r : List ByteArray) (i10 : Int) (v : Int) (u : Bool) (k15 : Int) (t : List Int) : St := ⟨[.dat (.sl 2 (.int .i64)) p, .dat (.sl 72 (.pair (.int .i64) (.int .i64))) s, .dat (.sl 70 (.pair (.int .i64) (.pair .str (.int .i64)))) q, .dat (.sl 9 .str) r, .gone, .gone, .gone, .gone, .gone, .ref 0, .dat (.int .i64) i10, .dat (.int .i64) v, .gone, .gone, .dat .bool u, .dat (.int .i64) k15, .gone, .gone, .gone, .gone, .gone, .gone, .gone, .gone, .gone, .gone, .gone, .gone, .gone, .gone, .gone, .gone, .gone, .gone, .gone, .gone, .gone, .gone, .gone, .gone, .gone, .gone, .gone, .gone, .gone, .gone, .gone, .gone, .gone, .gone, .gone, .gone, .gone, .gone, .gone, .gone, .gone, .gone, .gone, .gone, .gone, .gone, .gone, .gone, .gone, .gone, .gone], [.row 2 (.int .i64) t none]⟩
def Qe.st3 (p : List Int) (s : List YC) (q : List YA) (r : List ByteArray) (i10 : Int) (t : List Int) : St := ⟨[.dat (.sl 2 (.int .i64)) p, .dat (.sl 72 (.pair (.int .i64) (.int .i64))) s, .dat (.sl 70 (.pair (.int .i64) (.pair .str (.int .i64)))) q, .dat (.sl 9 .str) r, .gone, .gone, .gone, .gone, .gone, .ref 0, .dat (.int .i64) i10, .gone, .gone, .gone, .gone, .gone, .gone, .gone, .gone, .gone, .gone, .gone, .gone, .gone, .gone, .gone, .gone, .gone, .gone, .gone, .gone, .gone, .gone, .gone, .gone, .gone, .gone, .gone, .gone, .gone, .gone, .gone, .gone, .gone, .gone, .gone, .gone, .gone, .gone, .gone, .gone, .gone, .gone, .gone, .gone, .gone, .gone, .gone, .gone, .gone, .gone, .gone, .gone, .gone, .gone, .gone, .gone], [.row 2 (.int .i64) t none]⟩
def Qe.con : Con := { ps := [(.val, (.sl 2 (.int .i64))), (.val, (.sl 72 (.pair (.int .i64) (.int .i64)))), (.val, (.sl 70 (.pair (.int .i64) (.pair .str (.int .i64))))), (.val, (.sl 9 .str))], rs := [(.own, (.sl 2 (.int .i64)))], F := fun x => Qe.f x.1 x.2.1 x.2.2.1 x.2.2.2 }
def Qe.cs : List (FuncId × Con) := [(144, QO.con), (162, QQ.con)]
def Qe.E : Env := envOf tab Qe.cs 0 false
def Qe.keep (i : Nat) : List Nat := if i = 9 then [0, 1, 2, 3, 9, 10, 11, 14, 15] else if i = 3 then [0, 1, 2, 3, 9, 10] else []
def Qe.at9 (n : Nat) (x : List Int × YE × YD × List ByteArray) (M3 : St → Option (YN)) : Code × (Ex → St → Option (YN)) := ctx Qe.E Qe.keep n [.snd, .snd, .fst, .snd, .blk, .rd M3, .snd, .fst, .blk, .snd, .snd, .snd, .fst, .snd, .blk] (codeOf Tryz.f147) (kEnd Qe.E Tryz.f147 Qe.con x)
def Qe.LN9 (n : Nat) (x : List Int × YE × YD × List ByteArray) (M3 : St → Option (YN)) : Nat → St → Option (YN) := loopN (exec Qe.E Qe.keep n (bodyOf (Qe.at9 n x M3).1)) (St.norm 0 (Qe.keep 9)) (Qe.at9 n x M3).2
def Qe.at3 (n : Nat) (x : List Int × YE × YD × List ByteArray) : Code × (Ex → St → Option (YN)) := ctx Qe.E Qe.keep n [.snd, .snd, .fst, .snd, .blk] (codeOf Tryz.f147) (kEnd Qe.E Tryz.f147 Qe.con x)
def Qe.LN3 (n : Nat) (x : List Int × YE × YD × List ByteArray) : Nat → St → Option (YN) := loopN (exec Qe.E Qe.keep n (bodyOf (Qe.at3 n x).1)) (St.norm 0 (Qe.keep 3)) (Qe.at3 n x).2
set_option maxRecDepth 100000 in
theorem Qe.lem9 (n : Nat) (x : List Int × YE × YD × List ByteArray) (M3 : St → Option (YN)) : ∀ (k : Nat) (p : List Int) (s : List YC) (q : List YA) (r : List ByteArray) (i10 : Int) (v : Int) (u : Bool) (k15 : Int) (t : List Int), Qe.LN9 n x M3 k (Qe.st9 p s q r i10 v u k15 t) = Qe.l9 n (fun p s q r i10 t => M3 (Qe.st3 p s q r i10 t)) k p s q r i10 v u k15 t := by
 intro k
 induction k with
 | zero => intro p s q r i10 v u k15 t; rfl
 | succ k ih =>
  intro p s q r i10 v u k15 t
  have h : Qe.LN9 n x M3 (k + 1) (Qe.st9 p s q r i10 v u k15 t) = Qe.g9 (fun p s q r i10 t => M3 (Qe.st3 p s q r i10 t)) (fun p s q r i10 v u k15 t => Qe.LN9 n x M3 k (Qe.st9 p s q r i10 v u k15 t)) p s q r i10 v u k15 t := by kernel_rfl
  rw [h]
  simp only [ih]
  rfl
set_option maxRecDepth 100000 in
theorem Qe.lem3 (n : Nat) (x : List Int × YE × YD × List ByteArray) : ∀ (k : Nat) (p : List Int) (s : List YC) (q : List YA) (r : List ByteArray) (i10 : Int) (t : List Int), Qe.LN3 n x k (Qe.st3 p s q r i10 t) = Qe.l3 n k p s q r i10 t := by
 intro k
 induction k with
 | zero => intro p s q r i10 t; rfl
 | succ k ih =>
  intro p s q r i10 t
  have h : Qe.LN3 n x (k + 1) (Qe.st3 p s q r i10 t) = Qe.g3 (fun p s q r i10 v u k15 t => Qe.LN9 n x (Qe.LN3 n x k) n (Qe.st9 p s q r i10 v u k15 t)) (fun p s q r i10 t => Qe.LN3 n x k (Qe.st3 p s q r i10 t)) p s q r i10 t := by kernel_rfl
  rw [h]
  simp only [ih, Qe.lem9]
  rfl
set_option maxRecDepth 100000 in
theorem Qe.body (n : Nat) (x : List Int × YE × YD × List ByteArray) : bodyF Qe.E Qe.keep n Tryz.f147 Qe.con x = Qe.fn n x.1 x.2.1 x.2.2.1 x.2.2.2 := by
 have h : bodyF Qe.E Qe.keep n Tryz.f147 Qe.con x = Qe.top (fun p s q r i10 t => Qe.LN3 n x n (Qe.st3 p s q r i10 t)) x.1 x.2.1 x.2.2.1 x.2.2.2 := by kernel_rfl
 rw [h]
 simp only [Qe.lem3]
 rfl
set_option maxRecDepth 100000 in
theorem Qe.good : Good Tryz.prog 147 Qe.con :=
 good_of tabok (cs := Qe.cs) ⟨QO.good, QQ.good, trivial⟩ 0 false (fn := Tryz.f147) Tryz.func147 rfl (by decide) (by simp [Qe.con]) Qe.keep NN (fun _ => rfl) (fun x => Qe.body NN x)
end
end Go.Ev.Tryz

namespace Go.Ev.Tryz
open Go.Proofs Go.Pl
set_option linter.unusedVariables false
noncomputable section
def Q6.st5 (t1 : Int) (i7 : Int) (d2 : YD × YE × List YA) (p : List ByteArray) : St := ⟨[.gone, .dat (.int .i64) t1, .ptr 0 [], .gone, .gone, .gone, .ref 1, .dat (.int .i64) i7, .gone, .gone, .gone, .gone, .gone, .gone, .gone, .gone, .gone, .gone, .gone, .gone, .gone, .gone, .gone, .gone, .gone, .gone, .gone, .gone, .gone, .gone, .gone, .gone, .gone, .gone, .gone, .gone, .gone, .gone, .gone, .gone, .gone, .gone], [.box 35 (.pair (.sl 70 (.pair (.int .i64) (.pair .str (.int .i64)))) (.pair (.sl 72 (.pair (.int .i64) (.int .i64))) (.sl 74 (.pair (.int .i64) (.pair .str (.int .i64)))))) (.dat (.pair (.sl 70 (.pair (.int .i64) (.pair .str (.int .i64)))) (.pair (.sl 72 (.pair (.int .i64) (.int .i64))) (.sl 74 (.pair (.int .i64) (.pair .str (.int .i64)))))) d2), .row 9 .str p none]⟩
def Q6.con : Con := { ps := [(.val, (.pair (.sl 70 (.pair (.int .i64) (.pair .str (.int .i64)))) (.pair (.sl 72 (.pair (.int .i64) (.int .i64))) (.sl 74 (.pair (.int .i64) (.pair .str (.int .i64))))))), (.val, (.int .i64))], rs := [(.val, .str), (.val, (.int .i64))], F := fun x => Q6.f x.1 x.2 }
def Q6.cs : List (FuncId × Con) := [(68, (Qq.con (fun a0 => Qq.f a0))), (90, Qam.con), (146, Qi.con), (147, Qe.con)]
def Q6.E : Env := envOf tab Q6.cs 0 false
def Q6.keep (i : Nat) : List Nat := if i = 5 then [1, 2, 6, 7] else []
def Q6.at5 (n : Nat) (x : YF × Int) : Code × (Ex → St → Option (YT)) := ctx Q6.E Q6.keep n [.snd, .snd, .snd, .fst, .snd, .blk] (codeOf Tryz.f123) (kEnd Q6.E Tryz.f123 Q6.con x)
def Q6.LN5 (n : Nat) (x : YF × Int) : Nat → St → Option (YT) := loopN (exec Q6.E Q6.keep n (bodyOf (Q6.at5 n x).1)) (St.norm 0 (Q6.keep 5)) (Q6.at5 n x).2
set_option maxRecDepth 100000 in
theorem Q6.lem5 (n : Nat) (x : YF × Int) : ∀ (k : Nat) (t1 : Int) (i7 : Int) (d2 : YD × YE × List YA) (p : List ByteArray), Q6.LN5 n x k (Q6.st5 t1 i7 d2 p) = Q6.l5 n k t1 i7 d2 p := by
 intro k
 induction k with
 | zero => intro t1 i7 d2 p; rfl
 | succ k ih =>
  intro t1 i7 d2 p
  have h : Q6.LN5 n x (k + 1) (Q6.st5 t1 i7 d2 p) = Q6.g5 (fun t1 i7 d2 p => Q6.LN5 n x k (Q6.st5 t1 i7 d2 p)) t1 i7 d2 p := by kernel_rfl
  rw [h]
  simp only [ih]
  rfl
set_option maxRecDepth 100000 in
theorem Q6.body (n : Nat) (x : YF × Int) : bodyF Q6.E Q6.keep n Tryz.f123 Q6.con x = Q6.fn n x.1 x.2 := by
 have h : bodyF Q6.E Q6.keep n Tryz.f123 Q6.con x = Q6.top (fun t1 i7 d2 p => Q6.LN5 n x n (Q6.st5 t1 i7 d2 p)) x.1 x.2 := by kernel_rfl
 rw [h]
 simp only [Q6.lem5]
 rfl
set_option maxRecDepth 100000 in
theorem Q6.good : Good Tryz.prog 123 Q6.con :=
 good_of tabok (cs := Q6.cs) ⟨Qq.good, Qam.good, Qi.good, Qe.good, trivial⟩ 0 false (fn := Tryz.f123) Tryz.func123 rfl (by decide) (by simp [Q6.con]) Q6.keep NN (fun _ => rfl) (fun x => Q6.body NN x)
end
end Go.Ev.Tryz

namespace Go.Ev.Tryz
open Go.Proofs Go.Pl
set_option linter.unusedVariables false
noncomputable section
def Qaw.con : Con := { ps := [(.val, (.sl 74 (.pair (.int .i64) (.pair .str (.int .i64))))), (.val, .str)], rs := [(.val, (.int .i64)), (.val, (.int .i64))], F := fun x => Qaw.f x.1 x.2 }
def Qaw.cs : List (FuncId × Con) := [(59, Qh.con), (91, QW.con), (94, QS.con)]
def Qaw.E : Env := envOf tab Qaw.cs 0 false
def Qaw.keep (i : Nat) : List Nat := []
set_option maxRecDepth 100000 in
theorem Qaw.body (n : Nat) (x : YD × ByteArray) : bodyF Qaw.E Qaw.keep n Tryz.f124 Qaw.con x = Qaw.fn n x.1 x.2 := by
 have h : bodyF Qaw.E Qaw.keep n Tryz.f124 Qaw.con x = Qaw.top x.1 x.2 := by kernel_rfl
 exact h
set_option maxRecDepth 100000 in
theorem Qaw.good : Good Tryz.prog 124 Qaw.con :=
 good_of tabok (cs := Qaw.cs) ⟨Qh.good, QW.good, QS.good, trivial⟩ 0 false (fn := Tryz.f124) Tryz.func124 rfl (by decide) (by simp [Qaw.con]) Qaw.keep NN (fun _ => rfl) (fun x => Qaw.body NN x)
end
end Go.Ev.Tryz

namespace Go.Ev.Tryz
open Go.Proofs Go.Pl
set_option linter.unusedVariables false
noncomputable section
def Q0.st3 (p : List ByteArray) (by1 : ByteArray) (q : ByteArray) (i6 : Int) : St := ⟨[.dat (.sl 9 .str) p, .dat .str by1, .gone, .gone, .gone, .dat .str q, .dat (.int .i64) i6, .gone, .gone, .gone, .gone, .gone, .gone, .gone, .gone, .gone, .gone, .gone, .gone, .gone, .gone, .gone, .gone, .gone, .gone], []⟩
def Q0.con : Con := { ps := [(.val, (.sl 9 .str)), (.val, .str)], rs := [(.val, .str)], F := fun x => Q0.f x.1 x.2 }
def Q0.cs : List (FuncId × Con) := []
def Q0.E : Env := envOf tab Q0.cs 0 false
def Q0.keep (i : Nat) : List Nat := if i = 3 then [0, 1, 5, 6] else []
def Q0.at3 (n : Nat) (x : List ByteArray × ByteArray) : Code × (Ex → St → Option (ByteArray)) := ctx Q0.E Q0.keep n [.snd, .snd, .fst, .snd, .blk] (codeOf Tryz.f126) (kEnd Q0.E Tryz.f126 Q0.con x)
def Q0.LN3 (n : Nat) (x : List ByteArray × ByteArray) : Nat → St → Option (ByteArray) := loopN (exec Q0.E Q0.keep n (bodyOf (Q0.at3 n x).1)) (St.norm 0 (Q0.keep 3)) (Q0.at3 n x).2
set_option maxRecDepth 100000 in
theorem Q0.lem3 (n : Nat) (x : List ByteArray × ByteArray) : ∀ (k : Nat) (p : List ByteArray) (by1 : ByteArray) (q : ByteArray) (i6 : Int), Q0.LN3 n x k (Q0.st3 p by1 q i6) = Q0.l3 n k p by1 q i6 := by
 intro k
 induction k with
 | zero => intro p by1 q i6; rfl
 | succ k ih =>
  intro p by1 q i6
  have h : Q0.LN3 n x (k + 1) (Q0.st3 p by1 q i6) = Q0.g3 (fun p by1 q i6 => Q0.LN3 n x k (Q0.st3 p by1 q i6)) p by1 q i6 := by kernel_rfl
  rw [h]
  simp only [ih]
  rfl
set_option maxRecDepth 100000 in
theorem Q0.body (n : Nat) (x : List ByteArray × ByteArray) : bodyF Q0.E Q0.keep n Tryz.f126 Q0.con x = Q0.fn n x.1 x.2 := by
 have h : bodyF Q0.E Q0.keep n Tryz.f126 Q0.con x = Q0.top (fun p by1 q i6 => Q0.LN3 n x n (Q0.st3 p by1 q i6)) x.1 x.2 := by kernel_rfl
 rw [h]
 simp only [Q0.lem3]
 rfl
set_option maxRecDepth 100000 in
theorem Q0.good : Good Tryz.prog 126 Q0.con :=
 good_of tabok (cs := Q0.cs) trivial 0 false (fn := Tryz.f126) Tryz.func126 rfl (by decide) (by simp [Q0.con]) Q0.keep NN (fun _ => rfl) (fun x => Q0.body NN x)
end
end Go.Ev.Tryz

namespace Go.Ev.Tryz
open Go.Proofs Go.Pl
set_option linter.unusedVariables false
noncomputable section
def Qa6.con : Con := { ps := [(.val, (.int .i64)), (.val, (.int .i64)), (.val, (.int .i64)), (.val, (.int .i64))], rs := [(.val, (.int .i64))], F := fun x => Qa6.f x.1 x.2.1 x.2.2.1 x.2.2.2 }
def Qa6.cs : List (FuncId × Con) := [(92, Qaj.con)]
def Qa6.E : Env := envOf tab Qa6.cs 0 false
def Qa6.keep (i : Nat) : List Nat := []
set_option maxRecDepth 100000 in
theorem Qa6.body (n : Nat) (x : Int × Int × Int × Int) : bodyF Qa6.E Qa6.keep n Tryz.f148 Qa6.con x = Qa6.fn n x.1 x.2.1 x.2.2.1 x.2.2.2 := by
 have h : bodyF Qa6.E Qa6.keep n Tryz.f148 Qa6.con x = Qa6.top x.1 x.2.1 x.2.2.1 x.2.2.2 := by kernel_rfl
 exact h
set_option maxRecDepth 100000 in
theorem Qa6.good : Good Tryz.prog 148 Qa6.con :=
 good_of tabok (cs := Qa6.cs) ⟨Qaj.good, trivial⟩ 0 false (fn := Tryz.f148) Tryz.func148 rfl (by decide) (by simp [Qa6.con]) Qa6.keep NN (fun _ => rfl) (fun x => Qa6.body NN x)
end
end Go.Ev.Tryz

namespace Go.Ev.Tryz
open Go.Proofs Go.Pl
set_option linter.unusedVariables false
noncomputable section
def QaV.con : Con := { ps := [(.val, (.int .i64)), (.val, (.int .i64))], rs := [(.val, (.int .i64))], F := fun x => QaV.f x.1 x.2 }
def QaV.cs : List (FuncId × Con) := []
def QaV.E : Env := envOf tab QaV.cs 0 false
def QaV.keep (i : Nat) : List Nat := []
set_option maxRecDepth 100000 in
theorem QaV.body (n : Nat) (x : Int × Int) : bodyF QaV.E QaV.keep n Tryz.f170 QaV.con x = QaV.fn n x.1 x.2 := by
 have h : bodyF QaV.E QaV.keep n Tryz.f170 QaV.con x = QaV.top x.1 x.2 := by kernel_rfl
 exact h
set_option maxRecDepth 100000 in
theorem QaV.good : Good Tryz.prog 170 QaV.con :=
 good_of tabok (cs := QaV.cs) trivial 0 false (fn := Tryz.f170) Tryz.func170 rfl (by decide) (by simp [QaV.con]) QaV.keep NN (fun _ => rfl) (fun x => QaV.body NN x)
end
end Go.Ev.Tryz

namespace Go.Ev.Tryz
open Go.Proofs Go.Pl
set_option linter.unusedVariables false
noncomputable section
def Qau.con : Con := { ps := [(.val, (.int .i64)), (.val, (.int .i64))], rs := [(.val, (.int .i64))], F := fun x => Qau.f x.1 x.2 }
def Qau.cs : List (FuncId × Con) := [(170, QaV.con)]
def Qau.E : Env := envOf tab Qau.cs 0 false
def Qau.keep (i : Nat) : List Nat := []
set_option maxRecDepth 100000 in
theorem Qau.body (n : Nat) (x : Int × Int) : bodyF Qau.E Qau.keep n Tryz.f163 Qau.con x = Qau.fn n x.1 x.2 := by
 have h : bodyF Qau.E Qau.keep n Tryz.f163 Qau.con x = Qau.top x.1 x.2 := by kernel_rfl
 exact h
set_option maxRecDepth 100000 in
theorem Qau.good : Good Tryz.prog 163 Qau.con :=
 good_of tabok (cs := Qau.cs) ⟨QaV.good, trivial⟩ 0 false (fn := Tryz.f163) Tryz.func163 rfl (by decide) (by simp [Qau.con]) Qau.keep NN (fun _ => rfl) (fun x => Qau.body NN x)
end
end Go.Ev.Tryz

namespace Go.Ev.Tryz
open Go.Proofs Go.Pl
set_option linter.unusedVariables false
noncomputable section
def Qaa.st3 (up0 : Int) (t4 : Int) (p : Int) : St := ⟨[.dat (.int .i64) up0, .gone, .gone, .gone, .dat (.int .i64) t4, .dat (.int .i64) p, .gone, .gone, .gone, .gone, .gone, .gone, .gone, .gone, .gone, .gone, .gone, .gone, .gone, .gone, .gone, .gone, .gone, .gone, .gone, .gone, .gone, .gone, .gone, .gone, .gone, .gone, .gone, .gone, .gone, .gone, .gone, .gone], []⟩
def Qaa.con : Con := { ps := [(.val, (.int .i64))], rs := [(.val, (.int .i64)), (.val, (.int .i64))], F := fun x => Qaa.f x }
def Qaa.cs : List (FuncId × Con) := [(163, Qau.con)]
def Qaa.E : Env := envOf tab Qaa.cs 0 false
def Qaa.keep (i : Nat) : List Nat := if i = 3 then [0, 4, 5] else []
def Qaa.at3 (n : Nat) (x : Int) : Code × (Ex → St → Option (YC)) := ctx Qaa.E Qaa.keep n [.snd, .snd, .snd, .fst, .blk] (codeOf Tryz.f149) (kEnd Qaa.E Tryz.f149 Qaa.con x)
def Qaa.LN3 (n : Nat) (x : Int) : Nat → St → Option (YC) := loopN (exec Qaa.E Qaa.keep n (bodyOf (Qaa.at3 n x).1)) (St.norm 0 (Qaa.keep 3)) (Qaa.at3 n x).2
set_option maxRecDepth 100000 in
theorem Qaa.lem3 (n : Nat) (x : Int) : ∀ (k : Nat) (up0 : Int) (t4 : Int) (p : Int), Qaa.LN3 n x k (Qaa.st3 up0 t4 p) = Qaa.l3 n k up0 t4 p := by
 intro k
 induction k with
 | zero => intro up0 t4 p; rfl
 | succ k ih =>
  intro up0 t4 p
  have h : Qaa.LN3 n x (k + 1) (Qaa.st3 up0 t4 p) = Qaa.g3 (fun up0 t4 p => Qaa.LN3 n x k (Qaa.st3 up0 t4 p)) up0 t4 p := by kernel_rfl
  rw [h]
  simp only [ih]
  rfl
set_option maxRecDepth 100000 in
theorem Qaa.body (n : Nat) (x : Int) : bodyF Qaa.E Qaa.keep n Tryz.f149 Qaa.con x = Qaa.fn n x := by
 have h : bodyF Qaa.E Qaa.keep n Tryz.f149 Qaa.con x = Qaa.top (fun up0 t4 p => Qaa.LN3 n x n (Qaa.st3 up0 t4 p)) x := by kernel_rfl
 rw [h]
 simp only [Qaa.lem3]
 rfl
set_option maxRecDepth 100000 in
theorem Qaa.good : Good Tryz.prog 149 Qaa.con :=
 good_of tabok (cs := Qaa.cs) ⟨Qau.good, trivial⟩ 0 false (fn := Tryz.f149) Tryz.func149 rfl (by decide) (by simp [Qaa.con]) Qaa.keep NN (fun _ => rfl) (fun x => Qaa.body NN x)
end
end Go.Ev.Tryz

namespace Go.Ev.Tryz
open Go.Proofs Go.Pl
set_option linter.unusedVariables false
noncomputable section
def Qbc.con : Con := { ps := [(.val, (.int .i64))], rs := [(.val, (.int .i64)), (.val, (.int .i64)), (.val, (.int .i64))], F := fun x => Qbc.f x }
def Qbc.cs : List (FuncId × Con) := [(148, Qa6.con), (149, Qaa.con)]
def Qbc.E : Env := envOf tab Qbc.cs 0 false
def Qbc.keep (i : Nat) : List Nat := []
set_option maxRecDepth 100000 in
theorem Qbc.body (n : Nat) (x : Int) : bodyF Qbc.E Qbc.keep n Tryz.f127 Qbc.con x = Qbc.fn n x := by
 have h : bodyF Qbc.E Qbc.keep n Tryz.f127 Qbc.con x = Qbc.top x := by kernel_rfl
 exact h
set_option maxRecDepth 100000 in
theorem Qbc.good : Good Tryz.prog 127 Qbc.con :=
 good_of tabok (cs := Qbc.cs) ⟨Qa6.good, Qaa.good, trivial⟩ 0 false (fn := Tryz.f127) Tryz.func127 rfl (by decide) (by simp [Qbc.con]) Qbc.keep NN (fun _ => rfl) (fun x => Qbc.body NN x)
end
end Go.Ev.Tryz

namespace Go.Ev.Tryz
open Go.Proofs Go.Pl
set_option linter.unusedVariables false
noncomputable section
def Qa5.con : Con := { ps := [(.val, (.int .i64)), (.val, (.int .i64))], rs := [(.val, (.int .i64))], F := fun x => Qa5.f x.1 x.2 }
def Qa5.cs : List (FuncId × Con) := [(92, Qaj.con)]
def Qa5.E : Env := envOf tab Qa5.cs 0 false
def Qa5.keep (i : Nat) : List Nat := []
set_option maxRecDepth 100000 in
theorem Qa5.body (n : Nat) (x : Int × Int) : bodyF Qa5.E Qa5.keep n Tryz.f150 Qa5.con x = Qa5.fn n x.1 x.2 := by
 have h : bodyF Qa5.E Qa5.keep n Tryz.f150 Qa5.con x = Qa5.top x.1 x.2 := by kernel_rfl
 exact h
set_option maxRecDepth 100000 in
theorem Qa5.good : Good Tryz.prog 150 Qa5.con :=
 good_of tabok (cs := Qa5.cs) ⟨Qaj.good, trivial⟩ 0 false (fn := Tryz.f150) Tryz.func150 rfl (by decide) (by simp [Qa5.con]) Qa5.keep NN (fun _ => rfl) (fun x => Qa5.body NN x)
end
end Go.Ev.Tryz

namespace Go.Ev.Tryz
open Go.Proofs Go.Pl
set_option linter.unusedVariables false
noncomputable section
def QaW.con : Con := { ps := [(.val, (.int .i64))], rs := [(.val, (.int .i64))], F := fun x => QaW.f x }
def QaW.cs : List (FuncId × Con) := []
def QaW.E : Env := envOf tab QaW.cs 0 false
def QaW.keep (i : Nat) : List Nat := []
set_option maxRecDepth 100000 in
theorem QaW.body (n : Nat) (x : Int) : bodyF QaW.E QaW.keep n Tryz.f164 QaW.con x = QaW.fn n x := by
 have h : bodyF QaW.E QaW.keep n Tryz.f164 QaW.con x = QaW.top x := by kernel_rfl
 exact h
set_option maxRecDepth 100000 in
theorem QaW.good : Good Tryz.prog 164 QaW.con :=
 good_of tabok (cs := QaW.cs) trivial 0 false (fn := Tryz.f164) Tryz.func164 rfl (by decide) (by simp [QaW.con]) QaW.keep NN (fun _ => rfl) (fun x => QaW.body NN x)
end
end Go.Ev.Tryz

namespace Go.Ev.Tryz
open Go.Proofs Go.Pl
set_option linter.unusedVariables false
noncomputable section
def Q8.st2 (p : Int) (q : Int) (s : Int) (r : Int) : St := ⟨[.dat (.int .i64) p, .dat (.int .i64) q, .gone, .gone, .gone, .dat (.int .i64) s, .dat (.int .i64) r, .gone, .gone, .gone, .gone, .gone, .gone, .gone, .gone, .gone, .gone, .gone, .gone, .gone, .gone, .gone, .gone, .gone, .gone, .gone], []⟩
def Q8.con : Con := { ps := [(.val, (.int .i64)), (.val, (.int .i64))], rs := [(.val, (.int .i64))], F := fun x => Q8.f x.1 x.2 }
def Q8.cs : List (FuncId × Con) := [(164, QaW.con)]
def Q8.E : Env := envOf tab Q8.cs 0 false
def Q8.keep (i : Nat) : List Nat := if i = 2 then [0, 1, 5, 6] else []
def Q8.at2 (n : Nat) (x : Int × Int) : Code × (Ex → St → Option (Int)) := ctx Q8.E Q8.keep n [.snd, .snd, .fst, .blk] (codeOf Tryz.f151) (kEnd Q8.E Tryz.f151 Q8.con x)
def Q8.LN2 (n : Nat) (x : Int × Int) : Nat → St → Option (Int) := loopN (exec Q8.E Q8.keep n (bodyOf (Q8.at2 n x).1)) (St.norm 0 (Q8.keep 2)) (Q8.at2 n x).2
set_option maxRecDepth 100000 in
theorem Q8.lem2 (n : Nat) (x : Int × Int) : ∀ (k : Nat) (p : Int) (q : Int) (s : Int) (r : Int), Q8.LN2 n x k (Q8.st2 p q s r) = Q8.l2 n k p q s r := by
 intro k
 induction k with
 | zero => intro p q s r; rfl
 | succ k ih =>
  intro p q s r
  have h : Q8.LN2 n x (k + 1) (Q8.st2 p q s r) = Q8.g2 (fun p q s r => Q8.LN2 n x k (Q8.st2 p q s r)) p q s r := by kernel_rfl
  rw [h]
  simp only [ih]
  rfl
set_option maxRecDepth 100000 in
theorem Q8.body (n : Nat) (x : Int × Int) : bodyF Q8.E Q8.keep n Tryz.f151 Q8.con x = Q8.fn n x.1 x.2 := by
 have h : bodyF Q8.E Q8.keep n Tryz.f151 Q8.con x = Q8.top (fun p q s r => Q8.LN2 n x n (Q8.st2 p q s r)) x.1 x.2 := by kernel_rfl
 rw [h]
 simp only [Q8.lem2]
 rfl
set_option maxRecDepth 100000 in
theorem Q8.good : Good Tryz.prog 151 Q8.con :=
 good_of tabok (cs := Q8.cs) ⟨QaW.good, trivial⟩ 0 false (fn := Tryz.f151) Tryz.func151 rfl (by decide) (by simp [Q8.con]) Q8.keep NN (fun _ => rfl) (fun x => Q8.body NN x)
end
end Go.Ev.Tryz

namespace Go.Ev.Tryz
open Go.Proofs Go.Pl
set_option linter.unusedVariables false
noncomputable section
def Qal.con : Con := { ps := [(.val, (.int .i64)), (.val, (.int .i64))], rs := [(.val, (.int .i64)), (.val, (.int .i64))], F := fun x => Qal.f x.1 x.2 }
def Qal.cs : List (FuncId × Con) := [(150, Qa5.con), (151, Q8.con)]
def Qal.E : Env := envOf tab Qal.cs 0 false
def Qal.keep (i : Nat) : List Nat := []
set_option maxRecDepth 100000 in
theorem Qal.body (n : Nat) (x : Int × Int) : bodyF Qal.E Qal.keep n Tryz.f128 Qal.con x = Qal.fn n x.1 x.2 := by
 have h : bodyF Qal.E Qal.keep n Tryz.f128 Qal.con x = Qal.top x.1 x.2 := by kernel_rfl
 exact h
set_option maxRecDepth 100000 in
theorem Qal.good : Good Tryz.prog 128 Qal.con :=
 good_of tabok (cs := Qal.cs) ⟨Qa5.good, Q8.good, trivial⟩ 0 false (fn := Tryz.f128) Tryz.func128 rfl (by decide) (by simp [Qal.con]) Qal.keep NN (fun _ => rfl) (fun x => Qal.body NN x)
end
end Go.Ev.Tryz

namespace Go.Ev.Tryz
open Go.Proofs Go.Pl
set_option linter.unusedVariables false
noncomputable section
def Qa0.con : Con := { ps := [(.val, (.int .i64))], rs := [(.val, .str)], F := fun x => Qa0.f x }
def Qa0.cs : List (FuncId × Con) := [(68, (Qq.con (fun a0 => Qq.f a0)))]
def Qa0.E : Env := envOf tab Qa0.cs 0 false
def Qa0.keep (i : Nat) : List Nat := []
set_option maxRecDepth 100000 in
theorem Qa0.body (n : Nat) (x : Int) : bodyF Qa0.E Qa0.keep n Tryz.f152 Qa0.con x = Qa0.fn n x := by
 have h : bodyF Qa0.E Qa0.keep n Tryz.f152 Qa0.con x = Qa0.top x := by kernel_rfl
 exact h
set_option maxRecDepth 100000 in
theorem Qa0.good : Good Tryz.prog 152 Qa0.con :=
 good_of tabok (cs := Qa0.cs) ⟨Qq.good, trivial⟩ 0 false (fn := Tryz.f152) Tryz.func152 rfl (by decide) (by simp [Qa0.con]) Qa0.keep NN (fun _ => rfl) (fun x => Qa0.body NN x)
end
end Go.Ev.Tryz

namespace Go.Ev.Tryz
open Go.Proofs Go.Pl
set_option linter.unusedVariables false
noncomputable section
def QaM.con : Con := { ps := [(.val, (.int .i64))], rs := [(.val, .str), (.val, (.int .i64))], F := fun x => QaM.f x }
def QaM.cs : List (FuncId × Con) := [(90, Qam.con), (152, Qa0.con)]
def QaM.E : Env := envOf tab QaM.cs 0 false
def QaM.keep (i : Nat) : List Nat := []
set_option maxRecDepth 100000 in
theorem QaM.body (n : Nat) (x : Int) : bodyF QaM.E QaM.keep n Tryz.f129 QaM.con x = QaM.fn n x := by
 have h : bodyF QaM.E QaM.keep n Tryz.f129 QaM.con x = QaM.top x := by kernel_rfl
 exact h
set_option maxRecDepth 100000 in
theorem QaM.good : Good Tryz.prog 129 QaM.con :=
 good_of tabok (cs := QaM.cs) ⟨Qam.good, Qa0.good, trivial⟩ 0 false (fn := Tryz.f129) Tryz.func129 rfl (by decide) (by simp [QaM.con]) QaM.keep NN (fun _ => rfl) (fun x => QaM.body NN x)
end
end Go.Ev.Tryz

namespace Go.Ev.Tryz
open Go.Proofs Go.Pl
set_option linter.unusedVariables false
noncomputable section
def Qad.con : Con := { ps := [(.val, (.pair (.sl 70 (.pair (.int .i64) (.pair .str (.int .i64)))) (.pair (.sl 72 (.pair (.int .i64) (.int .i64))) (.sl 74 (.pair (.int .i64) (.pair .str (.int .i64))))))), (.val, (.sl 9 .str)), (.val, (.sl 2 (.int .i64)))], rs := [(.val, .str), (.val, (.int .i64))], F := fun x => Qad.f x.1 x.2.1 x.2.2 }
def Qad.cs : List (FuncId × Con) := [(68, (Qq.con (fun a0 => Qq.f a0))), (121, QaZ.con), (122, QaR.con), (123, Q6.con), (124, Qaw.con), (125, Q5.con), (126, Q0.con), (127, Qbc.con), (128, Qal.con), (129, QaM.con)]
def Qad.E : Env := envOf tab Qad.cs 0 false
def Qad.keep (i : Nat) : List Nat := []
set_option maxRecDepth 100000 in
theorem Qad.body (n : Nat) (x : YF × List ByteArray × List Int) : bodyF Qad.E Qad.keep n Tryz.f96 Qad.con x = Qad.fn n x.1 x.2.1 x.2.2 := by
 have h : bodyF Qad.E Qad.keep n Tryz.f96 Qad.con x = Qad.top x.1 x.2.1 x.2.2 := by kernel_rfl
 exact h
set_option maxRecDepth 100000 in
theorem Qad.good : Good Tryz.prog 96 Qad.con :=
 good_of tabok (cs := Qad.cs) ⟨Qq.good, QaZ.good, QaR.good, Q6.good, Qaw.good, Q5.good, Q0.good, Qbc.good, Qal.good, QaM.good, trivial⟩ 0 false (fn := Tryz.f96) Tryz.func96 rfl (by decide) (by simp [Qad.con]) Qad.keep NN (fun _ => rfl) (fun x => Qad.body NN x)
end
end Go.Ev.Tryz

namespace Go.Ev.Tryz
open Go.Proofs Go.Pl
set_option linter.unusedVariables false
noncomputable section
def QF.tr0 (d0 : YD × YE × List YA) : Option YAH :=
 (Qq.f 6).bind fun r2 =>
 if (⟨#[101, 114, 114, 111, 114, 32]⟩ : ByteArray).size + r2.size ≤ 9223372036854775807 then
  some (d0, (⟨#[101, 114, 114, 111, 114, 32]⟩ : ByteArray) ++ r2)
 else
  none
def QF.tr1 (d0 : YD × YE × List YA) (r3 : (YF × Int)) : Option YAH :=
 (Qq.f r3.2).bind fun r4 =>
 if (⟨#[101, 114, 114, 111, 114, 32]⟩ : ByteArray).size + r4.size ≤ 9223372036854775807 then
  some (d0, (⟨#[101, 114, 114, 111, 114, 32]⟩ : ByteArray) ++ r4)
 else
  none
def QF.tr2 (d0 : YD × YE × List YA) (r5 : YT) : Option YAH :=
 (Qq.f r5.2).bind fun r6 =>
 if (⟨#[101, 114, 114, 111, 114, 32]⟩ : ByteArray).size + r6.size ≤ 9223372036854775807 then
  some (d0, (⟨#[101, 114, 114, 111, 114, 32]⟩ : ByteArray) ++ r6)
 else
  none
def QF.tr3 (d0 : YD × YE × List YA) (r7 : (YF × Int)) : Option YAH :=
 (Qq.f r7.2).bind fun r8 =>
 if (⟨#[101, 114, 114, 111, 114, 32]⟩ : ByteArray).size + r8.size ≤ 9223372036854775807 then
  some (d0, (⟨#[101, 114, 114, 111, 114, 32]⟩ : ByteArray) ++ r8)
 else
  none
def QF.tr4 (d0 : YD × YE × List YA) (r9 : YT) : Option YAH :=
 (Qq.f r9.2).bind fun r10 =>
 if (⟨#[101, 114, 114, 111, 114, 32]⟩ : ByteArray).size + r10.size ≤ 9223372036854775807 then
  some (d0, (⟨#[101, 114, 114, 111, 114, 32]⟩ : ByteArray) ++ r10)
 else
  none
def QF.tr5 (d0 : YD × YE × List YA) (r11 : (YF × Int)) : Option YAH :=
 (Qq.f r11.2).bind fun r12 =>
 if (⟨#[101, 114, 114, 111, 114, 32]⟩ : ByteArray).size + r12.size ≤ 9223372036854775807 then
  some (d0, (⟨#[101, 114, 114, 111, 114, 32]⟩ : ByteArray) ++ r12)
 else
  none
def QF.tr6 (d0 : YD × YE × List YA) (r13 : YT) : Option YAH :=
 (Qq.f r13.2).bind fun r14 =>
 if (⟨#[101, 114, 114, 111, 114, 32]⟩ : ByteArray).size + r14.size ≤ 9223372036854775807 then
  some (d0, (⟨#[101, 114, 114, 111, 114, 32]⟩ : ByteArray) ++ r14)
 else
  none
def QF.tr7 (d0 : YD × YE × List YA) (r15 : (YF × Int)) : Option YAH :=
 (Qq.f r15.2).bind fun r16 =>
 if (⟨#[101, 114, 114, 111, 114, 32]⟩ : ByteArray).size + r16.size ≤ 9223372036854775807 then
  some (d0, (⟨#[101, 114, 114, 111, 114, 32]⟩ : ByteArray) ++ r16)
 else
  none
def QF.tr8 (d0 : YD × YE × List YA) (r17 : YT) : Option YAH :=
 (Qq.f r17.2).bind fun r18 =>
 if (⟨#[101, 114, 114, 111, 114, 32]⟩ : ByteArray).size + r18.size ≤ 9223372036854775807 then
  some (d0, (⟨#[101, 114, 114, 111, 114, 32]⟩ : ByteArray) ++ r18)
 else
  none
def QF.topraw (d0 : YD × YE × List YA) (p : ByteArray) : Option YAH :=
 (Qn.f p).bind fun r1 =>
 if (!r1.2.2) = true then
  agree (
   QF.tr0 d0
  ) (
   QF.tr0 d0
  )
 else if (0 : Int) ≤ 0 ∧ (0 : Int) < r1.1.length then
  if ((r1.1.getD (0 : Int).toNat ByteArray.empty).toList == (⟨#[112, 101, 111, 112, 108, 101]⟩ : ByteArray).toList) = true then
   if ((r1.1.getD (0 : Int).toNat ByteArray.empty).toList == (⟨#[112, 101, 111, 112, 108, 101]⟩ : ByteArray).toList) = true then
    (Qag.f d0 r1.1 r1.2.1).bind fun r3 =>
    if ((r3.2 : Int) != 0) = true then
     agree (
      QF.tr1 d0 r3
     ) (
      QF.tr1 d0 r3
     )
    else
     some (r3.1, (⟨#[111, 107]⟩ : ByteArray))
   else
    (Qad.f d0 r1.1 r1.2.1).bind fun r5 =>
    if ((r5.2 : Int) != 0) = true then
     agree (
      QF.tr2 d0 r5
     ) (
      QF.tr2 d0 r5
     )
    else
     some (d0, r5.1)
  else if ((r1.1.getD (0 : Int).toNat ByteArray.empty).toList == (⟨#[115, 105, 103, 110, 97, 108]⟩ : ByteArray).toList) = true then
   if ((r1.1.getD (0 : Int).toNat ByteArray.empty).toList == (⟨#[115, 105, 103, 110, 97, 108]⟩ : ByteArray).toList) = true then
    (Qag.f d0 r1.1 r1.2.1).bind fun r7 =>
    if ((r7.2 : Int) != 0) = true then
     agree (
      QF.tr3 d0 r7
     ) (
      QF.tr3 d0 r7
     )
    else
     some (r7.1, (⟨#[111, 107]⟩ : ByteArray))
   else
    (Qad.f d0 r1.1 r1.2.1).bind fun r9 =>
    if ((r9.2 : Int) != 0) = true then
     agree (
      QF.tr4 d0 r9
     ) (
      QF.tr4 d0 r9
     )
    else
     some (d0, r9.1)
  else if ((r1.1.getD (0 : Int).toNat ByteArray.empty).toList == (⟨#[98, 111, 111, 107]⟩ : ByteArray).toList) = true then
   if ((r1.1.getD (0 : Int).toNat ByteArray.empty).toList == (⟨#[98, 111, 111, 107]⟩ : ByteArray).toList) = true then
    (Qag.f d0 r1.1 r1.2.1).bind fun r11 =>
    if ((r11.2 : Int) != 0) = true then
     agree (
      QF.tr5 d0 r11
     ) (
      QF.tr5 d0 r11
     )
    else
     some (r11.1, (⟨#[111, 107]⟩ : ByteArray))
   else
    (Qad.f d0 r1.1 r1.2.1).bind fun r13 =>
    if ((r13.2 : Int) != 0) = true then
     agree (
      QF.tr6 d0 r13
     ) (
      QF.tr6 d0 r13
     )
    else
     some (d0, r13.1)
  else if ((r1.1.getD (0 : Int).toNat ByteArray.empty).toList == (⟨#[115, 101, 116, 116, 108, 101]⟩ : ByteArray).toList) = true then
   (Qag.f d0 r1.1 r1.2.1).bind fun r15 =>
   if ((r15.2 : Int) != 0) = true then
    agree (
     QF.tr7 d0 r15
    ) (
     QF.tr7 d0 r15
    )
   else
    some (r15.1, (⟨#[111, 107]⟩ : ByteArray))
  else
   (Qad.f d0 r1.1 r1.2.1).bind fun r17 =>
   if ((r17.2 : Int) != 0) = true then
    agree (
     QF.tr8 d0 r17
    ) (
     QF.tr8 d0 r17
    )
   else
    some (d0, r17.1)
 else
  none
theorem QF.topraw_eq (d0 : YD × YE × List YA) (p : ByteArray) : QF.topraw d0 p = QF.top d0 p := by
 unfold QF.topraw QF.top
 simp only [agree_self, QF.tr0, QF.tr1, QF.tr2, QF.tr3, QF.tr4, QF.tr5, QF.tr6, QF.tr7, QF.tr8]
def QF.con : Con := { ps := [(.val, (.pair (.sl 70 (.pair (.int .i64) (.pair .str (.int .i64)))) (.pair (.sl 72 (.pair (.int .i64) (.int .i64))) (.sl 74 (.pair (.int .i64) (.pair .str (.int .i64))))))), (.val, .str)], rs := [(.val, (.pair (.sl 70 (.pair (.int .i64) (.pair .str (.int .i64)))) (.pair (.sl 72 (.pair (.int .i64) (.int .i64))) (.sl 74 (.pair (.int .i64) (.pair .str (.int .i64))))))), (.val, .str)], F := fun x => QF.f x.1 x.2 }
def QF.cs : List (FuncId × Con) := [(41, Qn.con), (68, (Qq.con (fun a0 => Qq.f a0))), (95, Qag.con), (96, Qad.con)]
def QF.E : Env := envOf tab QF.cs 0 false
def QF.keep (i : Nat) : List Nat := []
set_option maxRecDepth 100000 in
theorem QF.body (n : Nat) (x : YF × ByteArray) : bodyF QF.E QF.keep n Tryz.f61 QF.con x = QF.fn n x.1 x.2 := by
 have h : bodyF QF.E QF.keep n Tryz.f61 QF.con x = QF.topraw x.1 x.2 := by kernel_rfl
 rw [QF.topraw_eq] at h
 exact h
set_option maxRecDepth 100000 in
theorem QF.good : Good Tryz.prog 61 QF.con :=
 good_of tabok (cs := QF.cs) ⟨Qn.good, Qq.good, Qag.good, Qad.good, trivial⟩ 0 false (fn := Tryz.f61) Tryz.func61 rfl (by decide) (by simp [QF.con]) QF.keep NN (fun _ => rfl) (fun x => QF.body NN x)
end
end Go.Ev.Tryz

namespace Go.Ev.Tryz
open Go.Proofs Go.Pl
set_option linter.unusedVariables false
noncomputable section
def QN.st4 (p : List ByteArray) (i6 : Int) (d4 : YD × YE × List YA) (q : List ByteArray) (w3 : List YA) (w4 : List YC) (w5 : List YA) : St := ⟨[.dat (.sl 9 .str) p, .gone, .ptr 0 [], .gone, .ptr 1 [], .ref 2, .dat (.int .i64) i6, .gone, .gone, .gone, .gone, .gone, .gone, .gone, .gone, .gone, .gone, .gone, .gone, .gone, .gone, .gone, .gone, .gone, .gone, .gone, .gone, .gone, .gone, .gone, .gone, .gone, .gone], [.box 35 (.pair (.sl 70 (.pair (.int .i64) (.pair .str (.int .i64)))) (.pair (.sl 72 (.pair (.int .i64) (.int .i64))) (.sl 74 (.pair (.int .i64) (.pair .str (.int .i64)))))) (.pr (.ref 3) (.pr (.ref 4) (.ref 5))), .box 35 (.pair (.sl 70 (.pair (.int .i64) (.pair .str (.int .i64)))) (.pair (.sl 72 (.pair (.int .i64) (.int .i64))) (.sl 74 (.pair (.int .i64) (.pair .str (.int .i64)))))) (.dat (.pair (.sl 70 (.pair (.int .i64) (.pair .str (.int .i64)))) (.pair (.sl 72 (.pair (.int .i64) (.int .i64))) (.sl 74 (.pair (.int .i64) (.pair .str (.int .i64)))))) d4), .row 9 .str q none, .row 70 (.pair (.int .i64) (.pair .str (.int .i64))) w3 none, .row 72 (.pair (.int .i64) (.int .i64)) w4 none, .row 74 (.pair (.int .i64) (.pair .str (.int .i64))) w5 none]⟩
def QN.tr0 (L4 : YW) (p : List ByteArray) (i6 : Int) (d4 : YD × YE × List YA) (q : List ByteArray) (w3 : List YA) (w4 : List YC) (w5 : List YA) : Option YV :=
 (QF.f d4 (p.getD (i6 : Int).toNat ByteArray.empty)).bind fun r2 =>
 if q.length + ([r2.2]).length < room 16 then
  L4 p (IntKind.i64.wrap (i6 + 1)) r2.1 (q ++ ([r2.2])) w3 w4 w5
 else
  none
def QN.tr1 (L4 : YW) (p : List ByteArray) (i6 : Int) (d4 : YD × YE × List YA) (q : List ByteArray) (w3 : List YA) (w4 : List YC) (w5 : List YA) : Option YV :=
 agree (
  QN.tr0 L4 p i6 d4 q w3 w4 w5
 ) (
  QN.tr0 L4 p i6 d4 q w3 w4 w5
 )
def QN.tr2 (L4 : YW) (p : List ByteArray) (i6 : Int) (d4 : YD × YE × List YA) (q : List ByteArray) (w3 : List YA) (w4 : List YC) (w5 : List YA) : Option YV :=
 agree (
  QN.tr1 L4 p i6 d4 q w3 w4 w5
 ) (
  QN.tr0 L4 p i6 d4 q w3 w4 w5
 )
def QN.g4raw (L4 : YW) (p : List ByteArray) (i6 : Int) (d4 : YD × YE × List YA) (q : List ByteArray) (w3 : List YA) (w4 : List YC) (w5 : List YA) : Option YV :=
 if (decide ((i6 : Int) < (p.length : Int))) = true then
  if (0 : Int) ≤ i6 ∧ (i6 : Int) < p.length then
   agree (
    QN.tr2 L4 p i6 d4 q w3 w4 w5
   ) (
    agree (
     QN.tr2 L4 p i6 d4 q w3 w4 w5
    ) (
     QN.tr1 L4 p i6 d4 q w3 w4 w5
    )
   )
  else
   none
 else
  some (d4, q)
theorem QN.g4raw_eq (L4 : YW) (p : List ByteArray) (i6 : Int) (d4 : YD × YE × List YA) (q : List ByteArray) (w3 : List YA) (w4 : List YC) (w5 : List YA) : QN.g4raw L4 p i6 d4 q w3 w4 w5 = QN.g4 L4 p i6 d4 q w3 w4 w5 := by
 unfold QN.g4raw QN.g4
 simp only [agree_self, QN.tr0, QN.tr1, QN.tr2]
def QN.con : Con := { ps := [(.val, (.sl 9 .str))], rs := [(.val, (.pair (.sl 70 (.pair (.int .i64) (.pair .str (.int .i64)))) (.pair (.sl 72 (.pair (.int .i64) (.int .i64))) (.sl 74 (.pair (.int .i64) (.pair .str (.int .i64))))))), (.val, (.sl 9 .str))], F := fun x => QN.f x }
def QN.cs : List (FuncId × Con) := [(60, Qa8.con), (61, QF.con)]
def QN.E : Env := envOf tab QN.cs 0 false
def QN.keep (i : Nat) : List Nat := if i = 4 then [0, 2, 4, 5, 6, 200004, 100004] else []
def QN.at4 (n : Nat) (x : List ByteArray) : Code × (Ex → St → Option (YV)) := ctx QN.E QN.keep n [.snd, .snd, .snd, .fst, .snd, .blk] (codeOf Tryz.f31) (kEnd QN.E Tryz.f31 QN.con x)
def QN.LN4 (n : Nat) (x : List ByteArray) : Nat → St → Option (YV) := loopN (exec QN.E QN.keep n (bodyOf (QN.at4 n x).1)) (St.norm 0 (QN.keep 4)) (QN.at4 n x).2
set_option maxRecDepth 100000 in
theorem QN.lem4 (n : Nat) (x : List ByteArray) : ∀ (k : Nat) (p : List ByteArray) (i6 : Int) (d4 : YD × YE × List YA) (q : List ByteArray) (w3 : List YA) (w4 : List YC) (w5 : List YA), QN.LN4 n x k (QN.st4 p i6 d4 q w3 w4 w5) = QN.l4 n k p i6 d4 q w3 w4 w5 := by
 intro k
 induction k with
 | zero => intro p i6 d4 q w3 w4 w5; rfl
 | succ k ih =>
  intro p i6 d4 q w3 w4 w5
  have h : QN.LN4 n x (k + 1) (QN.st4 p i6 d4 q w3 w4 w5) = QN.g4raw (fun p i6 d4 q w3 w4 w5 => QN.LN4 n x k (QN.st4 p i6 d4 q w3 w4 w5)) p i6 d4 q w3 w4 w5 := by kernel_rfl
  rw [QN.g4raw_eq] at h
  rw [h]
  simp only [ih]
  rfl
set_option maxRecDepth 100000 in
theorem QN.body (n : Nat) (x : List ByteArray) : bodyF QN.E QN.keep n Tryz.f31 QN.con x = QN.fn n x := by
 have h : bodyF QN.E QN.keep n Tryz.f31 QN.con x = QN.top (fun p i6 d4 q w3 w4 w5 => QN.LN4 n x n (QN.st4 p i6 d4 q w3 w4 w5)) x := by kernel_rfl
 rw [h]
 simp only [QN.lem4]
 rfl
set_option maxRecDepth 100000 in
theorem QN.good : Good Tryz.prog 31 QN.con :=
 good_of tabok (cs := QN.cs) ⟨Qa8.good, QF.good, trivial⟩ 0 false (fn := Tryz.f31) Tryz.func31 rfl (by decide) (by simp [QN.con]) QN.keep NN (fun _ => rfl) (fun x => QN.body NN x)
end
end Go.Ev.Tryz

namespace Go.Ev.Tryz
open Go.Proofs Go.Pl
set_option linter.unusedVariables false
noncomputable section
def QaA.con : Con := { ps := [(.val, .str)], rs := [(.val, (.pair (.sl 70 (.pair (.int .i64) (.pair .str (.int .i64)))) (.pair (.sl 72 (.pair (.int .i64) (.int .i64))) (.sl 74 (.pair (.int .i64) (.pair .str (.int .i64))))))), (.val, (.int .i64))], F := fun x => QaA.f x }
def QaA.cs : List (FuncId × Con) := [(30, Qa2.con), (31, QN.con), (32, QaB.con)]
def QaA.E : Env := envOf tab QaA.cs 0 false
def QaA.keep (i : Nat) : List Nat := []
set_option maxRecDepth 100000 in
theorem QaA.body (n : Nat) (x : ByteArray) : bodyF QaA.E QaA.keep n Tryz.f18 QaA.con x = QaA.fn n x := by
 have h : bodyF QaA.E QaA.keep n Tryz.f18 QaA.con x = QaA.top x := by kernel_rfl
 exact h
set_option maxRecDepth 100000 in
theorem QaA.good : Good Tryz.prog 18 QaA.con :=
 good_of tabok (cs := QaA.cs) ⟨Qa2.good, QN.good, QaB.good, trivial⟩ 0 false (fn := Tryz.f18) Tryz.func18 rfl (by decide) (by simp [QaA.con]) QaA.keep NN (fun _ => rfl) (fun x => QaA.body NN x)
end
end Go.Ev.Tryz

namespace Go.Pl
open Go.Ev
set_option linter.unusedVariables false
theorem wf64 {n : Int} : (Lit.int .i64 n).wf = true ↔ (-9223372036854775808 ≤ n ∧ n ≤ 9223372036854775807) := by
 simp only [Lit.wf, Bool.and_eq_true, decide_eq_true_eq]
 have e1 : IntKind.i64.min = -9223372036854775808 := by decide
 have e2 : IntKind.i64.max = 9223372036854775807 := by decide
 omega
theorem w8 {n : Int} (h1 : 0 ≤ n) (h2 : n < 256) : IntKind.u8.wrap n = n := by
 simp only [IntKind.wrap, IntKind.bits, IntKind.signed]
 simp
 omega
theorem mid_get {α : Type} (p r : List α) (x z : α) : (p ++ x :: r).getD (p.length : Int).toNat z = x := by simp
theorem mid_set {α : Type} (p r : List α) (x y : α) : (p ++ x :: r).set (p.length : Int).toNat y = p ++ y :: r := by simp
theorem mid_getn {α : Type} (p r : List α) (x z : α) : (p ++ x :: r).getD p.length z = x := by simp
theorem mid_setn {α : Type} (p r : List α) (x y : α) : (p ++ x :: r).set p.length y = p ++ y :: r := by simp
theorem mid_len {α : Type} (p r : List α) (x : α) : ((p ++ x :: r).length : Int) = (p.length : Int) + r.length + 1 := by simp; omega
theorem mid_snoc {α : Type} (p r : List α) (x : α) : (p ++ [x]) ++ r = p ++ x :: r := by simp
theorem snoc_len {α : Type} (p : List α) (x : α) : ((p ++ [x]).length : Int) = (p.length : Int) + 1 := by simp
theorem ba_toList {a b : ByteArray} : a.toList = b.toList ↔ a = b := by
 rw [ByteArray.toList_eq, ByteArray.toList_eq]
 exact ⟨fun h => ByteArray.ext (Array.toList_inj.mp h), fun h => by rw [h]⟩
theorem ba_beq (a b : ByteArray) : (a.toList == b.toList) = decide (a = b) := by
 by_cases h : a = b
 ·subst h; simp
 ·rw [decide_eq_false h, beq_eq_false_iff_ne]; exact fun e => h (ba_toList.1 e)
def bl (s : ByteArray) : List UInt8 := s.data.toList
def ob (l : List UInt8) : ByteArray := ⟨l.toArray⟩
theorem bl_ob (l : List UInt8) : bl (ob l) = l := by simp [bl, ob]
theorem ob_bl (s : ByteArray) : ob (bl s) = s := by simp [bl, ob]
theorem bl_inj {a b : ByteArray} (h : bl a = bl b) : a = b := by rw [← ob_bl a, h, ob_bl]
theorem bl_length (s : ByteArray) : (bl s).length = s.size := by simp only [bl, Array.length_toList]; rfl
theorem ob_size (l : List UInt8) : (ob l).size = l.length := by rw [← bl_length, bl_ob]
theorem bl_append (a b : ByteArray) : bl (a ++ b) = bl a ++ bl b := by simp [bl]
theorem ob_append (a b : List UInt8) : ob a ++ ob b = ob (a ++ b) := by apply bl_inj; rw [bl_append, bl_ob, bl_ob, bl_ob]
theorem bl_extract (s : ByteArray) (i j : Nat) : bl (s.extract i j) = ((bl s).take j).drop i := by
 simp only [bl, ByteArray.data_extract, Array.toList_extract, List.extract]
 rw [List.drop_take]
theorem ob_extract (l : List UInt8) (i j : Nat) : (ob l).extract i j = ob ((l.take j).drop i) := by apply bl_inj; rw [bl_extract, bl_ob, bl_ob]
theorem bt_ob (l : List UInt8) (i : Int) : bt (ob l) i = ((l.getD i.toNat 0).toNat : Int) := rfl
theorem bt_mid (p r : List UInt8) (c : UInt8) : bt (ob (p ++ c :: r)) (p.length : Int) = (c.toNat : Int) := by rw [bt_ob, mid_get]
theorem u8_eq {a : UInt8} {n : Nat} (h : n < 256) : ((a.toNat : Int) = (n : Int)) ↔ a = UInt8.ofNat n := by
 constructor
 ·intro e
  apply UInt8.toNat_inj.mp
  rw [UInt8.toNat_ofNat']; omega
 ·rintro rfl
  rw [UInt8.toNat_ofNat']; omega
theorem bytesOf_ob (l : List Int) : bytesOf l = ob (l.map fun n => UInt8.ofNat n.toNat) := rfl
theorem ob_all {P : ByteArray → Prop} (h : ∀ l, P (ob l)) (s : ByteArray) : P s := by rw [← ob_bl s]; exact h _
theorem room8 : room 8 = 17592186044416 := by decide
theorem room16 : room 16 = 8796093022208 := by decide
theorem room32 : room 32 = 4398046511104 := by decide
theorem NNb : (1000000000000 : Nat) < NN := by rw [NN_eq]; omega
theorem NN_lt {n : Nat} (h : n < 1152921504606846976) : n < NN := by rw [NN_eq]; omega
end Go.Pl

namespace Go.Ev
set_option linter.unusedVariables false
set_option linter.unusedSimpArgs false
open Go.RowKit Go.WideShapes Go.ChangeShapes Go.ChangeAt
variable {P : Program}
def Rg (k : IntKind) (n : Int) : Prop := (Lit.int k n).wf = true
def Sz (s : ByteArray) : Prop := s.size ≤ 140737488355328
def Ls {α : Type} (Q : α → Prop) (xs : List α) : Prop := xs.length ≤ 140737488355328 ∧ ∀ x ∈ xs, Q x
def Plain : (t : Ty) → t.I → Prop
 | .int k, n => Rg k n
 | .bool, _ => True
 | .str, s => Sz s
 | .sl _ t, xs => Ls (Plain t) xs
 | .slb _ _, _ => True
 | .pair a b, x => Plain a x.1 ∧ Plain b x.2
 | .arr n t, xs => xs.length = n ∧ ∀ x ∈ xs, Plain t x
def PlainAll : (ts : List Ty) → Tup ts → Prop
 | [], _ => True
 | [t], x => Plain t x
 | t :: u :: r, x => Plain t x.1 ∧ PlainAll (u :: r) x.2
def okE (B : TypeId → Nat) : Ty → Bool
 | .sl e t => decide (1 ≤ B e) && okE B t
 | .slb e t => decide (1 ≤ B e) && okE B t
 | .pair a b => okE B a && okE B b
 | .arr _ t => okE B t
 | _ => true
theorem reach_lt : reachBytes ≤ 140737488355328 := by decide
theorem fit_plain {B : TypeId → Nat} : ∀ (t : Ty) (x : t.I), okE B t = true → Fit B t x → Plain t x := by
 intro t
 induction t with
 | int k => intro x _ h; exact h
 | bool => intro x _ h; trivial
 | str => intro x _ h; exact Nat.le_trans h reach_lt
 | sl e t ih =>
  intro x ho h
  simp only [okE, Bool.and_eq_true, decide_eq_true_eq] at ho
  refine ⟨?_, fun y hy => ih y ho.2 (h.2 y hy)⟩
  have h1 : x.length * 1 ≤ x.length * B e := Nat.mul_le_mul_left _ ho.1
  have h2 := h.1
  have h3 := reach_lt
  omega
 | slb e t ih => intro x ho h; trivial
 | pair a b iha ihb =>
  intro x ho h
  simp only [okE, Bool.and_eq_true] at ho
  exact ⟨iha _ ho.1 h.1, ihb _ ho.2 h.2⟩
 | arr n t ih => intro x ho h; exact ⟨h.1, fun y hy => ih y ho (h.2 y hy)⟩
theorem fit_plainAll {B : TypeId → Nat} : ∀ (ts : List Ty) (x : Tup ts), ts.all (okE B) = true → FitAll B ts x → PlainAll ts x := by
 intro ts
 induction ts with
 | nil => intro x _ _; trivial
 | cons t r ih =>
  intro x ho h
  simp only [List.all_cons, Bool.and_eq_true] at ho
  cases r with
  | nil => exact fit_plain t x ho.1 h
  | cons u r => exact ⟨fit_plain t x.1 ho.1 h.1, ih x.2 ho.2 h.2⟩
theorem ok_all {tab : List TRow} (h : okB P tab = true) : tab.all (rowB P tab) = true := by
 unfold okB at h; simp only [Bool.and_eq_true] at h; exact h.2.2
theorem bytes_sound {tab : List TRow} (h : okB P tab = true) : ∀ t x, tabT tab t = some x → P.bytesOf t = tabB tab t := by
 intro t x ht
 have hs := tab_sound (ok_all h)
 obtain ⟨ty, n⟩ := x
 obtain ⟨i, h1, h2⟩ := (hs.1 t ty n ht).info
 unfold Program.bytesOf
 rw [h1]
 exact hs.2 t _ ht i h1
section
variable {H : Type} {enc : TypeId × Value → H} {w : World} {base : Nat} {spare : Nat → Bool} {held : Bool}
theorem law_row {tab : List TRow} (hok : okB P tab = true) (hpos : posB tab = true) {f : FuncId} {c : Con} (hg : Good P f c) (hps : (c.ps.map (·.2)).map ((Kn.val, ·)) = c.ps) (hE : (c.ps.map (·.2)).all (okE (tabB tab)) = true)
  (hlaw : ∀ x, PlainAll (c.ps.map (·.2)) x → ∃ r, c.F x = some r ∧ kds' c.rs (dats _ r) = [(.val, ⟨.bool, true⟩)])
  {r : Reach} {b0 : Nat} {ts : List TypeId} {args : Array Value} {ds : List (DataW H)} {p : List MemPlace} (hts : tysOf (tabT tab) ts = some (c.ps.map (·.2))) (h : DataW.TrodAll enc P w base spare held ts args.toList ds p)
  (hval : ∀ (j : Nat) t v, ts[j]? = some t → args[j]? = some v → Value.okWide P w r b0 t v) {vt : List TypeId} {gs : List (DataW H)} (hgs : vt = [] ∨ gs = []) (hw : (DataW.weightsEach P (ts ++ vt) (ds ++ gs)).all (· ≤ reachBytes) = true) (hl : ts.length = ds.length) :
  Calls P f args w fun e w' => e = .returned (.bool true) ∧ Below w.heap.size w w' := by
 refine law_calls (tab_sound (ok_all hok)).1 (bytes_sound hok) (posB_sound hpos) hg hps (fun x hx => hlaw x (fit_plainAll _ x hE hx)) hts h (fun j t v hj hv => hval j t v hj (by simpa using hv)) ?_
 have key : ∀ (ts : List TypeId) (ds : List (DataW H)), ts.length = ds.length → ∀ m ∈ DataW.weightsEach P ts ds, m ∈ DataW.weightsEach P (ts ++ vt) (ds ++ gs) := by
  intro ts
  induction ts with
  | nil => intro ds hl m hm; cases ds <;> simp [DataW.weightsEach] at hm
  | cons t ts ih =>
   intro ds hl m hm
   cases ds with
   | nil => simp [DataW.weightsEach] at hm
   | cons d ds =>
    simp only [List.cons_append, DataW.weightsEach, List.mem_append] at hm ⊢
    rcases hm with hm | hm
    ·exact .inl hm
    ·exact .inr (ih ds (by simpa using hl) m hm)
 intro m hm
 have := List.all_eq_true.1 hw m (key ts ds hl m hm)
 simpa using this
end
end Go.Ev

namespace Go.Pl
open Go.Ev
set_option linter.unusedVariables false
def Sm (s : ByteArray) : Prop := s.size ≤ 1000000
def Lm {α : Type} (Q : α → Prop) (xs : List α) : Prop := xs.length ≤ 1000000 ∧ ∀ x ∈ xs, Q x
theorem eqS_loop {α : Type} {E : α → Prop} (l : Nat → List α → List α → Int → Option Bool) (a : List α) (hE : ∀ x ∈ a, E x)
  (hs : ∀ k p x r, E x → a = p ++ x :: r → l (k + 1) a a p.length = l k a a ((p.length : Int) + 1)) (he : ∀ k, l (k + 1) a a a.length = some true) :
  ∀ k, a.length < k → l k a a 0 = some true := by
 have key : ∀ (r p : List α) (k : Nat), a = p ++ r → r.length < k → l k a a p.length = some true := by
  intro r
  induction r with
  | nil =>
   intro p k h hk
   obtain ⟨k, rfl⟩ : ∃ j, k = j + 1 := ⟨k - 1, by omega⟩
   rw [List.append_nil] at h
   rw [← h]; exact he k
  | cons x r ih =>
   intro p k h hk
   simp only [List.length_cons] at hk
   obtain ⟨k, rfl⟩ : ∃ j, k = j + 1 := ⟨k - 1, by omega⟩
   rw [hs k p x r (hE x (by rw [h]; simp)) h]
   have := ih (p ++ [x]) k (by rw [h]; simp) (by omega)
   rw [snoc_len] at this
   exact this
 intro k hk
 have := key a [] k (by simp) hk
 simpa using this
theorem mark_held {α : Type} {Q : α → Prop} (l : Nat → List α → Int → Int → Option (Int × List α)) (lh : Nat → List α → Int → Int → Option Int) (C : Nat) (K : Int)
  (he : ∀ k p n, l (k + 1) p n p.length = some (n, p)) (heh : ∀ k p n, lh (k + 1) p n p.length = some n)
  (hs : ∀ x, Q x → ∀ n, 0 ≤ n → n ≤ K → ∃ x' n', n ≤ n' ∧ n' ≤ n + C ∧ (∀ k p r, p.length + r.length + 1 ≤ 1000000 → l (k + 1) (p ++ x :: r) n p.length = l k (p ++ x' :: r) n' ((p.length : Int) + 1))
   ∧ (∀ k p r, p.length + r.length + 1 ≤ 1000000 → lh (k + 1) (p ++ x' :: r) n p.length = lh k (p ++ x' :: r) n' ((p.length : Int) + 1)))
  (a : List α) (ha : Lm Q a) (n : Int) (h0 : 0 ≤ n) (h1 : n + (1000000 * C : Nat) ≤ K) (k kh : Nat) (hk : 1000000 < k) (hkh : 1000000 < kh) :
  ∃ n' a', l k a n 0 = some (n', a') ∧ lh kh a' n 0 = some n' ∧ n ≤ n' ∧ n' ≤ n + (1000000 * C : Nat) := by
 have key : ∀ (r p : List α) (k : Nat) (n : Int), p.length + r.length ≤ 1000000 → (∀ x ∈ r, Q x) → 0 ≤ n → n + ((r.length * C : Nat) : Int) ≤ K → r.length < k →
   ∃ n' r', l k (p ++ r) n p.length = some (n', p ++ r') ∧ r'.length = r.length ∧ n ≤ n' ∧ n' ≤ n + ((r.length * C : Nat) : Int) ∧ (∀ (q : List α) kh, q.length = p.length → r.length < kh → lh kh (q ++ r') n q.length = some n') := by
  intro r
  induction r with
  | nil =>
   intro p k n _ _ h0 _ hk
   obtain ⟨k, rfl⟩ : ∃ j, k = j + 1 := ⟨k - 1, by omega⟩
   refine ⟨n, [], by rw [List.append_nil]; exact he k p n, rfl, by omega, by simp, fun q kh _ hkh => ?_⟩
   obtain ⟨kh, rfl⟩ : ∃ j, kh = j + 1 := ⟨kh - 1, by simp at hkh; omega⟩
   rw [List.append_nil]; exact heh kh q n
  | cons x r ih =>
   intro p k n hb hq h0 hK hk
   simp only [List.length_cons] at hk hb hK
   obtain ⟨k, rfl⟩ : ∃ j, k = j + 1 := ⟨k - 1, by omega⟩
   have hm : (r.length + 1) * C = r.length * C + C := by rw [Nat.add_mul, Nat.one_mul]
   rw [hm] at hK
   obtain ⟨x', n1, a1, a2, a3, a4⟩ := hs x (hq x (by simp)) n h0 (by omega)
   rw [a3 k p r (by omega)]
   obtain ⟨n', r', b1, b2, b3, b4, b5⟩ := ih (p ++ [x']) k n1 (by simp; omega) (fun y hy => hq y (by simp [hy])) (by omega) (by omega) (by omega)
   rw [mid_snoc, snoc_len] at b1
   refine ⟨n', x' :: r', by rw [b1]; simp, by simp [b2], by omega, by simp only [List.length_cons]; rw [hm]; omega, fun q kh hq' hkh => ?_⟩
   simp only [List.length_cons] at hkh
   obtain ⟨kh, rfl⟩ : ∃ j, kh = j + 1 := ⟨kh - 1, by omega⟩
   rw [a4 kh q r' (by omega)]
   have := b5 (q ++ [x']) kh (by simp [hq']) (by omega)
   rw [mid_snoc, snoc_len] at this
   exact this
 have hle : ((a.length * C : Nat) : Int) ≤ ((1000000 * C : Nat) : Int) := Int.ofNat_le.2 (Nat.mul_le_mul_right _ ha.1)
 obtain ⟨n', r', b1, b2, b3, b4, b5⟩ := key a [] k n (by simpa using ha.1) ha.2 h0 (by omega) (by have := ha.1; omega)
 have := b5 [] kh rfl (by have := ha.1; omega)
 exact ⟨n', r', by simpa using b1, by simpa using this, b3, by omega⟩
end Go.Pl

namespace Go.Pl
open Go.Ev
set_option linter.unusedVariables false
theorem all_loop {α : Type} {E : α → Prop} (P : α → Bool) (fin : List α → Option Bool) (l : Nat → List α → Int → Option Bool)
  (hn : ∀ k p, l (k + 1) p p.length = fin p)
  (hc : ∀ k p a r, E a → (0 : Int) ≤ (p.length : Int) → (p.length : Int) < ((p ++ a :: r).length : Int) → IntKind.i64.wrap ((p.length : Int) + 1) = (p.length : Int) + 1 → l (k + 1) (p ++ a :: r) p.length = if P a = true then l k (p ++ a :: r) ((p.length : Int) + 1) else some false)
  (xs : List α) (hE : ∀ x ∈ xs, E x) (hB : xs.length ≤ 140737488355328) (k : Nat) (hk : xs.length < k) : l k xs 0 = if xs.all P = true then fin xs else some false := by
 have key : ∀ (r p : List α) (k : Nat), p.length + r.length ≤ 140737488355328 → (∀ x ∈ r, E x) → r.length < k → l k (p ++ r) p.length = if r.all P = true then fin (p ++ r) else some false := by
  intro r
  induction r with
  | nil =>
   intro p k _ _ hk
   obtain ⟨k, rfl⟩ : ∃ j, k = j + 1 := ⟨k - 1, by omega⟩
   rw [List.append_nil, hn]; simp
  | cons a r ih =>
   intro p k hb he hk
   simp only [List.length_cons] at hk hb
   obtain ⟨k, rfl⟩ : ∃ j, k = j + 1 := ⟨k - 1, by omega⟩
   have hm := mid_len p r a
   rw [hc k p a r (he a (by simp)) (by omega) (by omega) (w64 (by omega) (by omega))]
   have := ih (p ++ [a]) k (by simp; omega) (fun y hy => he y (by simp [hy])) (by omega)
   rw [mid_snoc, snoc_len] at this
   rw [this]
   cases h : P a <;> simp [h]
 have := key xs [] k (by simpa using hB) hE hk
 simpa using this
theorem all_loop_str (P : UInt8 → Bool) (fin : ByteArray → Option Bool) (l : Nat → ByteArray → Int → Option Bool)
  (hn : ∀ k p, l (k + 1) (ob p) p.length = fin (ob p))
  (hc : ∀ k p a r, (0 : Int) ≤ (p.length : Int) → (p.length : Int) < ((ob (p ++ a :: r)).size : Int) → IntKind.i64.wrap ((p.length : Int) + 1) = (p.length : Int) + 1 → l (k + 1) (ob (p ++ a :: r)) p.length = if P a = true then l k (ob (p ++ a :: r)) ((p.length : Int) + 1) else some false)
  (s : ByteArray) (hB : s.size ≤ 140737488355328) (k : Nat) (hk : s.size < k) : l k s 0 = if (bl s).all P = true then fin s else some false := by
 have := all_loop (E := fun _ => True) P (fun x => fin (ob x)) (fun k x i => l k (ob x) i) hn (fun k p a r _ h1 h2 h3 => hc k p a r h1 (by rw [ob_size]; exact h2) h3) (bl s) (fun _ _ => trivial) (by rw [bl_length]; exact hB) k (by rw [bl_length]; exact hk)
 rw [ob_bl] at this
 exact this
def foldi {α σ : Type} (f : Nat → σ → α → σ) : Nat → σ → List α → σ
 | _, st, [] => st
 | i, st, a :: r => foldi f (i + 1) (f i st a) r
theorem foldi_foldl {α σ : Type} (f : σ → α → σ) : ∀ (xs : List α) (i : Nat) (st : σ), foldi (fun _ => f) i st xs = xs.foldl f st := by
 intro xs
 induction xs with
 | nil => intro i st; rfl
 | cons a r ih => intro i st; exact ih _ _
theorem fold_fix {α σ ρ : Type} {E : α → Prop} (I : List α → σ → Prop) (f : Nat → σ → α → σ) (fin : σ → Option ρ) (l : Nat → Int → σ → Option ρ) (xs : List α)
  (hn : ∀ k st, I xs st → l (k + 1) xs.length st = fin st)
  (hc : ∀ k p a r st, xs = p ++ a :: r → E a → I p st → (0 : Int) ≤ (p.length : Int) → (p.length : Int) < (xs.length : Int) → p.length < 140737488355328 → IntKind.i64.wrap ((p.length : Int) + 1) = (p.length : Int) + 1 → (∀ z, xs.getD p.length z = a) →
   I (p ++ [a]) (f p.length st a) ∧ l (k + 1) p.length st = l k ((p.length : Int) + 1) (f p.length st a))
  (st : σ) (hE : ∀ x ∈ xs, E x) (hI : I [] st) (hB : xs.length ≤ 140737488355328) (k : Nat) (hk : xs.length < k) :
  I xs (foldi f 0 st xs) ∧ l k 0 st = fin (foldi f 0 st xs) := by
 have key : ∀ (r p : List α) (k : Nat) (st : σ), xs = p ++ r → (∀ x ∈ r, E x) → I p st → r.length < k → I xs (foldi f p.length st r) ∧ l k p.length st = fin (foldi f p.length st r) := by
  intro r
  induction r with
  | nil =>
   intro p k st hx _ hI hk
   obtain ⟨k, rfl⟩ : ∃ j, k = j + 1 := ⟨k - 1, by omega⟩
   rw [List.append_nil] at hx
   subst hx; exact ⟨hI, hn k st hI⟩
  | cons a r ih =>
   intro p k st hx he hI hk
   simp only [List.length_cons] at hk
   obtain ⟨k, rfl⟩ : ∃ j, k = j + 1 := ⟨k - 1, by omega⟩
   have hm := mid_len p r a
   have hxl : (xs.length : Int) = ((p ++ a :: r).length : Int) := by rw [hx]
   obtain ⟨h1, h2⟩ := hc k p a r st hx (he a (by simp)) hI (by omega) (by omega) (by omega) (w64 (by omega) (by omega)) (fun z => by rw [hx, mid_getn])
   have := ih (p ++ [a]) k (f p.length st a) (by rw [hx]; simp) (fun y hy => he y (by simp [hy])) h1 (by omega)
   rw [snoc_len] at this
   rw [h2]
   simpa [foldi] using this
 have := key xs [] k st (by simp) hE hI hk
 simpa using this
def firstOf {α : Type} (P : α → Bool) : Nat → List α → Option (Nat × α)
 | _, [] => none
 | i, a :: r => if P a = true then some (i, a) else firstOf P (i + 1) r
theorem find_loop {α ρ : Type} {E : α → Prop} (P : α → Bool) (hit : Nat → α → Option ρ) (fin : List α → Option ρ) (l : Nat → List α → Int → Option ρ)
  (hn : ∀ k p, l (k + 1) p p.length = fin p)
  (hc : ∀ k p a r, E a → (0 : Int) ≤ (p.length : Int) → (p.length : Int) < ((p ++ a :: r).length : Int) → p.length < 140737488355328 → IntKind.i64.wrap ((p.length : Int) + 1) = (p.length : Int) + 1 → l (k + 1) (p ++ a :: r) p.length = if P a = true then hit p.length a else l k (p ++ a :: r) ((p.length : Int) + 1))
  (xs : List α) (hE : ∀ x ∈ xs, E x) (hB : xs.length ≤ 140737488355328) (k : Nat) (hk : xs.length < k) : l k xs 0 = (firstOf P 0 xs).elim (fin xs) (fun x => hit x.1 x.2) := by
 have key : ∀ (r p : List α) (k : Nat), p.length + r.length ≤ 140737488355328 → (∀ x ∈ r, E x) → r.length < k → l k (p ++ r) p.length = (firstOf P p.length r).elim (fin (p ++ r)) (fun x => hit x.1 x.2) := by
  intro r
  induction r with
  | nil =>
   intro p k _ _ hk
   obtain ⟨k, rfl⟩ : ∃ j, k = j + 1 := ⟨k - 1, by omega⟩
   rw [List.append_nil, hn]; rfl
  | cons a r ih =>
   intro p k hb he hk
   simp only [List.length_cons] at hk hb
   obtain ⟨k, rfl⟩ : ∃ j, k = j + 1 := ⟨k - 1, by omega⟩
   have hm := mid_len p r a
   rw [hc k p a r (he a (by simp)) (by omega) (by omega) (by omega) (w64 (by omega) (by omega))]
   have := ih (p ++ [a]) k (by simp; omega) (fun y hy => he y (by simp [hy])) (by omega)
   rw [mid_snoc, snoc_len] at this
   rw [this]
   cases h : P a <;> simp [h, firstOf]
 have := key xs [] k (by simpa using hB) hE hk
 simpa using this
end Go.Pl

namespace Go.Ev
set_option linter.unusedVariables false
set_option linter.unusedSimpArgs false
variable {ρ : Type} {P : Program}
def V.lt (n : Nat) : V → Bool
 | .ref i => decide (i < n)
 | .ptr i _ => decide (i < n)
 | .vw i _ => decide (i < n)
 | .pr a b => a.lt n && b.lt n
 | .tp a b => a.lt n && b.lt n
 | _ => true
section
variable {φ φ' : Nat → Value} {hk hk' : Nat → Option Kd} {w w' : World} {S S' : Nat → Prop} {n : Nat}
theorem VC_lt (hφ : ∀ i k, i < n → hk i = some k → φ' i = φ i) (hkk : ∀ i k, i < n → hk i = some k → hk' i = some k ∨ hk' i = some .dead) (h : ∀ b, S b → S' b ∧ w'.heap[b]? = w.heap[b]?) :
  ∀ (t : Ty) (v : V) (cs : List Value), v.lt n = true → VC φ hk w S t v cs → VC φ' hk' w' S' t v cs := by
 intro t v
 induction v generalizing t with
 | dat u x => intro cs _ k; exact VC_dat.2 ⟨(VC_dat.1 k).1, Rs_move h _ _ _ (VC_dat.1 k).2⟩
 | ref id =>
  intro cs hl k
  have hl := of_decide_eq_true hl
  cases t with
  | sl e t =>
   rcases k with ⟨h1, h2⟩ | ⟨h1, rfl, A, n, c, h3⟩
   ·exact .inl ⟨(hkk _ _ hl h1).elim (fun h => h) (fun h => h), h2⟩
   ·rcases hkk _ _ hl h1 with h4 | h4
    ·exact .inr ⟨h4, by rw [hφ _ _ hl h1], A, n, c, by rw [hφ _ _ hl h1, h3]⟩
    ·exact .inl ⟨h4, A, n, c, by rw [h3]⟩
  | _ => exact k.elim
 | pr a b iha ihb =>
  intro cs hl k
  simp only [V.lt, Bool.and_eq_true] at hl
  cases t with
  | pair t u => obtain ⟨c0, c1, rfl, h0, h1⟩ := k; exact ⟨c0, c1, rfl, iha _ _ hl.1 h0, ihb _ _ hl.2 h1⟩
  | _ => exact k.elim
 | _ => intro cs _ k; cases t <;> exact k.elim
theorem VR_lt (hφ : ∀ i k, i < n → hk i = some k → φ' i = φ i) (hkk : ∀ i k, i < n → hk i = some k → hk' i = some k ∨ hk' i = some .dead) (h : ∀ b, S b → S' b ∧ w'.heap[b]? = w.heap[b]?) :
  ∀ (v : V), v.lt n = true → (∀ u, VR φ hk w S v u → VR φ' hk' w' S' v u) ∧ (∀ l, VRt φ hk w S v l → VRt φ' hk' w' S' v l) := by
 intro v
 induction v with
 | dat t x => intro _; exact ⟨fun u ⟨cs, h1, h2⟩ => ⟨cs, Rs_move h _ _ _ h1, h2⟩, fun l hl => hl⟩
 | nil => intro _; exact ⟨fun u k => k, fun l hl => hl⟩
 | ref id =>
  intro hl
  have hl := of_decide_eq_true hl
  refine ⟨fun u k => ?_, fun l hl => hl⟩
  rcases k with k | ⟨⟨e, t, k⟩, rfl⟩
  ·exact .inl ((hkk _ _ hl k).elim (fun h => h) (fun h => h))
  ·rcases hkk _ _ hl k with h4 | h4
   ·exact .inr ⟨⟨e, t, h4⟩, (hφ _ _ hl k).symm⟩
   ·exact .inl h4
 | ptr id p =>
  intro hl
  have hl := of_decide_eq_true hl
  refine ⟨fun u k => ?_, fun l hl => hl⟩
  rcases k with k | ⟨e, t, g, n, c, i, q, k, h1, h2, h0, h3⟩ | ⟨e, t, g, k, h1, h0, h2⟩
  ·exact .inl ((hkk _ _ hl k).elim (fun h => h) (fun h => h))
  ·rcases hkk _ _ hl k with h4 | h4
   ·exact .inr (.inl ⟨e, t, g, n, c, i, q, h4, (hφ _ _ hl k).trans h1, h2, h0, h3⟩)
   ·exact .inl h4
  ·rcases hkk _ _ hl k with h4 | h4
   ·exact .inr (.inr ⟨e, t, g, h4, (hφ _ _ hl k).trans h1, h0, h2⟩)
   ·exact .inl h4
 | dptr t x =>
  intro _
  exact ⟨fun u ⟨p, cs, h1, h2, h3, h4, h5⟩ => ⟨p, cs, h1, h2, (h _ h3).1, Rs_move h _ _ _ h4, fun j u hu => (cell_move (a := ⟨p.block, p.off + j, none⟩) (h _ h3).2).trans (h5 j u hu)⟩, fun l hl => hl⟩
 | pr a b iha ihb => intro hl; exact ⟨fun u ⟨t, cs, h1, h2⟩ => ⟨t, cs, VC_lt hφ hkk h t (.pr a b) cs hl h1, h2⟩, fun l hl => hl⟩
 | tp a b iha ihb =>
  intro hl
  simp only [V.lt, Bool.and_eq_true] at hl
  refine ⟨?_, ?_⟩
  ·rintro v ⟨u, r, rfl, h1, h2⟩
   exact ⟨u, r, rfl, (iha hl.1).1 u h1, (ihb hl.2).2 r h2⟩
  ·rintro l ⟨u, r, rfl, h1, h2⟩
   exact ⟨u, r, rfl, (iha hl.1).1 u h1, (ihb hl.2).2 r h2⟩
 | vw id l =>
  intro hl
  have hl := of_decide_eq_true hl
  refine ⟨fun u k => ?_, fun l hl => hl⟩
  rcases k with k | ⟨e, t, A, n, c, k, h1, h2, h3⟩
  ·exact .inl ((hkk _ _ hl k).elim (fun h => h) (fun h => h))
  ·rcases hkk _ _ hl k with h4 | h4
   ·exact .inr ⟨e, t, A, n, c, h4, (hφ _ _ hl k).trans h1, h2, h3⟩
   ·exact .inl h4
 | und => intro _; exact ⟨fun _ hl => hl, fun l hl => hl⟩
 | gone => intro _; exact ⟨fun _ _ => trivial, fun l hl => hl⟩
end
section
variable {base io : Nat} {W0 : World} {IO Old : Nat → Prop} {φ0 : Nat → Value × Kd} {s s3 : St} {a a3 : Act} {w w3 : World} {ow ow3 : Nat → Option Nat} {φ φ3 : Nat → Value}
def atCall (φ : Nat → Value) (hp : List Blk) : Nat → Value × Kd := fun i => (φ i, (kds hp i).getD .dead)
def OldIn (ow : Nat → Option Nat) (w : World) (Old : Nat → Prop) (base b : Nat) : Prop := Fz ow w Old base b ∨ ∃ id, ow b = some id
theorem Fz_in {b : Nat} (h : Fz ow w Old base b) : Fz ow w (OldIn ow w Old base) w.heap.size b := ⟨h.1, h.2.1, .inl (.inl h)⟩
theorem enter_rel {m : Nat} (hm : m ≤ s.hp.length) (hr : Rel base W0 IO Old io φ0 s a w ow φ) {vs : List V} {us : List Value} (h : All2 (VR φ (kds s.hp) w (Fz ow w Old base)) vs us) (n : Nat) :
  Rel w.heap.size w (fun b => ∃ id, ow b = some id) (OldIn ow w Old base) m (atCall φ s.hp) ⟨vs ++ List.replicate n .und, s.hp⟩ { tmps := (us ++ List.replicate n undef).toArray, defers := [] } w ow φ := by
 have mv : ∀ (v : V) (u : Value), VR φ (kds s.hp) w (Fz ow w Old base) v u → VR φ (kds s.hp) w (Fz ow w (OldIn ow w Old base) w.heap.size) v u := fun v u k => ((VR_move (fun _ _ _ => rfl) (fun i k hk => .inl hk) (fun b hb => ⟨Fz_in hb, rfl⟩)) v).1 u k
 have hl := h.length
 refine ⟨rfl, ?_, ?_, ?_, ?_, ?_, Nat.le_refl _, ⟨rfl, rfl, rfl⟩, hm, fun i _ => rfl, fun i k _ hk => .inr ?_⟩
 ·simp [hl]
 ·intro i v hv
  by_cases hi : i < vs.length
  ·rw [List.getElem?_append_left hi] at hv
   obtain ⟨u, h1, h2⟩ := h.get.2 i v hv
   refine ⟨u, ?_, mv v u h2⟩
   have hi2 : i < us.length := by omega
   simp only [List.getElem?_toArray]
   rw [List.getElem?_append_left hi2]; exact h1
  ·rw [List.getElem?_append_right (by omega)] at hv
   obtain ⟨h1, h2⟩ := List.getElem?_eq_some_iff.1 hv
   rw [List.getElem_replicate] at h2
   subst h2
   refine ⟨undef, ?_, rfl⟩
   simp only [List.getElem?_toArray]
   rw [List.getElem?_append_right (by omega), List.getElem?_replicate, if_pos (by simpa [hl] using h1)]
 ·intro id b hb
  exact BR_move rfl (fun _ _ _ => rfl) (fun i k hk => .inl hk) (fun b hb => ⟨Fz_in hb, rfl⟩) (fun g hg => ⟨hg, rfl⟩) (hr.hp id b hb)
 ·intro b id hb
  have := hr.own b id hb
  exact ⟨this.1, .inr ⟨⟨id, hb⟩, .inr (.inr ⟨id, hb⟩)⟩, this.2.2⟩
 ·intro b _ _; rfl
 ·show k = (kds s.hp i).getD .dead
  rw [hk]; rfl
theorem leave_rel {m : Nat} (hlt : ∀ v ∈ s.sl, v.lt m = true) (hr : Rel base W0 IO Old 0 φ0 s a w ow φ) (h3 : Rel w.heap.size w (fun b => ∃ id, ow b = some id) (OldIn ow w Old base) m (atCall φ s.hp) s3 a3 w3 ow3 φ3) :
  Rel base W0 IO Old 0 φ0 ⟨s.sl, s3.hp⟩ a w3 ow3 φ3 := by
 have hφ : ∀ i k, i < m → kds s.hp i = some k → φ3 i = φ i := fun i k hi hk => h3.f0 i hi
 have hkk : ∀ i k, i < m → kds s.hp i = some k → kds s3.hp i = some k ∨ kds s3.hp i = some .dead := fun i k hi hk => by
  have hi3 : i < s3.hp.length := Nat.lt_of_lt_of_le hi h3.iol
  obtain ⟨k', hk'⟩ : ∃ k', kds s3.hp i = some k' := ⟨_, kds_some.2 ⟨s3.hp[i], List.getElem?_eq_getElem hi3, rfl⟩⟩
  have := h3.k0 i k' hi hk'
  have e : (atCall φ s.hp i).2 = k := by show (kds s.hp i).getD .dead = k; rw [hk]; rfl
  rw [e] at this
  rcases this with rfl | rfl
  ·exact .inr hk'
  ·exact .inl hk'
 have hS : ∀ b, Fz ow w Old base b → Fz ow3 w3 Old base b ∧ w3.heap[b]? = w.heap[b]? := fun b hb => by
  have hn : ¬ ∃ id, ow b = some id := fun ⟨id, h⟩ => by rw [hb.1] at h; cases h
  refine ⟨⟨?_, Nat.lt_of_lt_of_le hb.2.1 h3.sz, hb.2.2⟩, h3.fr b hb.2.1 hn⟩
  cases e : ow3 b with
  | none => rfl
  | some id =>
   rcases (h3.own b id e).2.1 with h | h
   ·exact absurd hb.2.1 (Nat.not_lt.2 h)
   ·exact absurd h.1 hn
 refine ⟨hr.dl, hr.len, ?_, ?_, ?_, ?_, Nat.le_trans hr.sz h3.sz, ⟨h3.mt.1.trans hr.mt.1, h3.mt.2.1.trans hr.mt.2.1, h3.mt.2.2.trans hr.mt.2.2⟩, Nat.zero_le _, fun i hi => absurd hi (Nat.not_lt_zero _), fun i k hi => absurd hi (Nat.not_lt_zero _)⟩
 ·intro i v hv
  obtain ⟨u, h1, h2⟩ := hr.sl i v hv
  exact ⟨u, h1, (VR_lt hφ hkk hS v (hlt v (List.mem_of_getElem? hv))).1 u h2⟩
 ·intro id b hb
  refine BR_move (F' := Fz ow3 w3 Old base) rfl (fun _ _ _ => rfl) (fun i k hk => .inl hk) (fun b hb => ⟨⟨hb.1, hb.2.1, ?_⟩, rfl⟩) (fun g hg => ⟨hg, rfl⟩) (h3.hp id b hb)
  rcases hb.2.2 with (h | ⟨id0, h⟩) | h
  ·exact h.2.2
  ·rcases (hr.own b id0 h).2.1 with k | ⟨k1, k2 | k2⟩
   ·exact .inr k
   ·exact absurd k2 (Nat.not_lt_zero _)
   ·exact .inl k2
  ·exact .inr (Nat.le_trans hr.sz h)
 ·intro b id hb
  have := h3.own b id hb
  refine ⟨this.1, ?_, this.2.2⟩
  rcases this.2.1 with h | ⟨⟨id0, h⟩, _⟩
  ·exact .inl (Nat.le_trans hr.sz h)
  ·rcases (hr.own b id0 h).2.1 with k | ⟨k1, k2 | k2⟩
   ·exact .inl k
   ·exact absurd k2 (Nat.not_lt_zero _)
   ·exact .inr ⟨k1, .inr k2⟩
 ·intro b hb hi
  have hlt : b < w.heap.size := Nat.lt_of_lt_of_le hb hr.sz
  rw [h3.fr b hlt ?_]
  ·exact hr.fr b hb hi
  ·rintro ⟨id, h⟩
   rcases (hr.own b id h).2.1 with k | ⟨k, _⟩
   ·exact absurd hb (Nat.not_lt.2 k)
   ·exact hi k
end
def lastCall (I : FuncId → Option Func) (ops : Array Oper) : Option (List Oper × Oper × FuncId × Func × List Operand) := match ops.toList.reverse with
 | o :: r => match o.guard, o.op with
  | none, .call c => match c.callee with
   | .value (.func f) => match I f with
    | some fn => if fn.results.toList.isEmpty then some (r.reverse, o, f, fn, c.args.toList) else none
    | none => none
   | _ => none
  | _, _ => none
 | [] => none
def evAll (s : St) : List Operand → Option (List V)
 | [] => some []
 | x :: r => match s.ev x, evAll s r with
  | some v, some l => some (v :: l)
  | _, _ => none
def kIn (k : St → Option ρ) (sl : List V) (dst : Option Tmp) : Ex → St → Option ρ := fun e s3 => match e with
 | .exit _ => none
 | _ => k (({ sl := sl, hp := s3.hp } : St).put dst .gone)
def keepIn (keep : Nat → List Nat) (id : Nat) : Nat → List Nat := fun i => keep (10000000 * (id + 1) + i)
def envIn (E : Env) (io : Nat) : Env := { E with io := io, fr := true }
def V.top : V → Nat
 | .ref i => i + 1
 | .ptr i _ => i + 1
 | .vw i _ => i + 1
 | .pr a b => max a.top b.top
 | .tp a b => max a.top b.top
 | _ => 0
def topS (s : St) : Nat := s.sl.foldl (fun m v => max m v.top) 0
noncomputable def inPlace (E : Env) (keep : Nat → List Nat) (n id : Nat) (fn : Func) (args : List Operand) (dst : Option Tmp) (s : St) (k : St → Option ρ) : Option ρ := match evAll s args with
 | some vs => if E.io = 0 ∧ topS s ≤ s.hp.length ∧ (s.sl.all fun v => v.lt (topS s)) = true then exec (envIn E (topS s)) (keepIn keep id) n (codeOf fn) (kIn k s.sl dst) ⟨vs ++ List.replicate (fn.ntmps - vs.length) .und, s.hp⟩ else none
 | none => none
noncomputable def execI (E : Env) (I : FuncId → Option Func) (keep : Nat → List Nat) (n : Nat) : Code → (Ex → St → Option ρ) → St → Option ρ
 | .skip, K, s => K .normal s
 | .seq a b, K, s => execI E I keep n a (kSeq (cutAt E.io (keep (1000000 + firstId b)) n (execI E I keep n b K)) K) s
 | .cond c a b, K, s => match s.ev c with
  | some (.dat .bool c) => if c = true then execI E I keep n a K s else execI E I keep n b K s
  | _ => none
 | .block id c, K, s => execI E I keep n c (kBlock id K) s
 | .loop c, K, s => match s.norm E.io (keep (firstId c)) with
  | some s => loopN (execI E I keep n c) (St.norm E.io (keep (firstId c))) K n s
  | none => none
 | .region id ops false, K, s => match lastCall I ops with
  | some (pre, o, _, fn, args) => evOps E ops pre s fun s => inPlace E keep n id fn args o.dst s (K .normal)
  | none => evOps E ops ops.toList s (K .normal)
 | .region _ ops true, K, s => if Region.noSelect ops = true then evDrawSM E ops ops.size 0 s (K .normal) else none
 | .exit id, K, s => K (.exit id) s
 | .ret, K, s => K .ret s
 | _, _, _ => none
noncomputable def ctxI (E : Env) (I : FuncId → Option Func) (keep : Nat → List Nat) (n : Nat) : List (Way ρ) → Code → (Ex → St → Option ρ) → Code × (Ex → St → Option ρ)
 | .fst :: p, .seq a b, K => ctxI E I keep n p a (kSeq (cutAt E.io (keep (1000000 + firstId b)) n (execI E I keep n b K)) K)
 | .snd :: p, .seq _ b, K => ctxI E I keep n p b K
 | .yes :: p, .cond _ a _, K => ctxI E I keep n p a K
 | .no :: p, .cond _ _ b, K => ctxI E I keep n p b K
 | .blk :: p, .block id c, K => ctxI E I keep n p c (kBlock id K)
 | .rd L :: p, .loop c, K => ctxI E I keep n p c (kLoop (St.norm E.io (keep (firstId c))) L K)
 | _, c, K => (c, K)
section
variable {E : Env} {base : Nat} {W0 : World} {IO Old : Nat → Prop} {φ0 : Nat → Value × Kd} {s : St} {a : Act} {w w' : World} {o : Oper} {r : ρ} {ow : Nat → Option Nat} {φ : Nat → Value}
theorem lastCall_some {I : FuncId → Option Func} {ops : Array Oper} {pre : List Oper} {o : Oper} {f : FuncId} {fn : Func} {args : List Operand} (h : lastCall I ops = some (pre, o, f, fn, args)) :
  ops.toList = pre ++ [o] ∧ o.guard = none ∧ I f = some fn ∧ fn.results.toList = [] ∧ ∃ c, o.op = .call c ∧ c.callee = .value (.func f) ∧ c.args.toList = args := by
 unfold lastCall at h
 split at h
 ·rename_i o' r he
  split at h
  ·rename_i c hg ho
   split at h
   ·rename_i f' hc
    split at h
    ·rename_i fn' hI
     split at h
     ·rename_i hr
      simp only [Option.some.injEq, Prod.mk.injEq] at h
      obtain ⟨rfl, rfl, rfl, rfl, rfl⟩ := h
      have := congrArg List.reverse he
      simp only [List.reverse_reverse, List.reverse_cons] at this
      exact ⟨this, hg, hI, List.isEmpty_iff.1 hr, c, ho, hc, rfl⟩
     ·cases h
    ·cases h
   ·cases h
  ·cases h
 ·cases h
theorem evAll_sound (hr : Rel base W0 IO Old E.io φ0 s a w ow φ) : ∀ (l : List Operand) (vs : List V), evAll s l = some vs → All2 (VR φ (kds s.hp) w (Fz ow w Old base)) vs (l.map a.eval) := by
 intro l
 induction l with
 | nil => intro vs h; cases h; exact .nil
 | cons x l ih =>
  intro vs h
  simp only [evAll] at h
  split at h
  ·rename_i v l' h1 h2
   cases h
   exact .cons (ev_sound hr h1) (ih _ h2)
  ·cases h
theorem ops_then (hE : EnvOk P E IO Old) {ops : Array Oper} {Q : Exit → Act → World → Prop} {rest : List Oper} : ∀ (l : List Oper) (s : St) (k : St → Option ρ) (a : Act) (w : World), evOps E ops l s k = some r → RelE base W0 IO Old E.io φ0 s a w →
  (∀ s' a' w', k s' = some r → RelE base W0 IO Old E.io φ0 s' a' w' → wpList P ops Q rest a' w') → wpList P ops Q (l ++ rest) a w := by
 intro l
 induction l with
 | nil => intro s k a w h hr hq; exact hq s a w h hr
 | cons o l ih =>
  intro s k a w h hr hq
  simp only [evOps] at h
  show wpList P ops Q (o :: (l ++ rest)) a w
  unfold wpList
  rcases ev1_sound (Q := Q) (next := wpList P ops Q (l ++ rest)) hE h hr (fun s' a' w' hk hr' => ih s' k a' w' hk hr' hq) with ⟨h1, h2⟩ | ⟨h1, h2⟩
  ·rw [if_pos h1]; exact .inl h2.wp
  ·rw [if_neg (by simp [h1])]; exact h2
theorem inPlace_sound (hE : EnvOk P E IO Old) {I : FuncId → Option Func} (hI : ∀ f fn, I f = some fn → P.funcs[f]? = some fn ∧ fn.body.isSome = true ∧ fn.name ≠ "runtime.NumGoroutine") {o : Oper} {f : FuncId} {fn : Func} {args : List Operand} {cl : Call}
  (ho : o.op = .call cl) (hc : cl.callee = .value (.func f)) (ha : cl.args.toList = args) (hf : I f = some fn) (hres : fn.results.toList = []) {keep : Nat → List Nat} {n id : Nat} {k : St → Option ρ} (h : inPlace E keep n id fn args o.dst s k = some r) (hr : RelE base W0 IO Old E.io φ0 s a w)
  {next : Act → World → Prop} {Q : Exit → Act → World → Prop} (hn : ∀ s' a' w', k s' = some r → RelE base W0 IO Old E.io φ0 s' a' w' → next a' w') : o.wp P a w next Q := by
 obtain ⟨ow, φ, hr⟩ := hr
 unfold inPlace at h
 split at h
 rotate_left
 ·cases h
 rename_i vs hvs
 split at h
 rotate_left
 ·cases h
 rename_i hio
 have hall := evAll_sound hr args vs hvs
 obtain ⟨hP, hb, hname⟩ := hI f fn hf
 obtain ⟨code, hcode⟩ := Option.isSome_iff_exists.1 hb
 have hent := enter_rel hio.2.1 hr hall (fn.ntmps - vs.length)
 have hE' : EnvOk P (envIn E (topS s)) (fun b => ∃ id, ow b = some id) (OldIn ow w Old base) := ⟨hE.mo, hE.ty, hE.eq', hE.by', hE.con, fun _ b hb => .inr hb⟩
 have hlen := hall.length
 have hcall : Calls P f (args.map a.eval).toArray w fun e w' => e = .returned (retOf []) ∧ next (a.put o.dst (retOf [])) w' := by
  refine calls_of_wp hP hcode ?_
  have htm : (args.map a.eval).toArray ++ Array.replicate (fn.ntmps - (args.map a.eval).toArray.size) undef = (args.map a.eval ++ List.replicate (fn.ntmps - vs.length) undef).toArray := by
   apply Array.ext'
   simp only [List.length_map] at hlen
   simp [hlen]
  rw [htm]
  have hcd : codeOf fn = code := by unfold codeOf; rw [hcode]
  rw [hcd] at h
  refine exec_sound hE' _ n code _ _ _ _ _ h ⟨ow, φ, hent⟩ fun e s3 a3 w3 hk hr3 => ?_
  obtain ⟨ow3, φ3, hr3⟩ := hr3
  have key : k (({ sl := s.sl, hp := s3.hp } : St).put o.dst .gone) = some r → a3.defers = [] ∧ ∃ v, (results fn a3.tmps).run P w3 = .ok v w3 ∧ ((Ending.returned v = .returned (retOf [])) ∧ next (a.put o.dst (retOf [])) w3) := fun hk => by
   have hr0 := hr
   rw [hio.1] at hr0
   have hl := leave_rel (List.all_eq_true.1 hio.2.2) hr0 hr3
   have hp := Rel.put hl (v := .gone) (u := retOf []) trivial o.dst
   obtain ⟨us, hu, hrun⟩ := results_run hE' hr3 (vs := []) (by rw [hres]; rfl)
   have hu0 : us = [] := List.length_eq_zero_iff.1 (by have := hu.length; simpa using this.symm)
   rw [hu0] at hrun
   exact ⟨hr3.dl, retOf [], hrun, rfl, hn _ _ _ hk ⟨_, _, by rw [hio.1]; exact hp⟩⟩
  cases e with
  | normal => exact key hk
  | exit i => cases hk
  | ret => exact key hk
 have hrun : (execOp a.eval o).run P w = .ok (.enter f (args.map a.eval).toArray) w := by
  have hbn : fn.body.isNone = false := by cases hb : fn.body <;> simp_all
  have e1 : (args.map a.eval).toArray = cl.args.map a.eval := by rw [← ha, ← Array.toList_map]
  rw [e1]
  simp [execOp, ho, resolve, hc, Act.eval, Deferred.ofValue, invoke, callFunc, hP, hname, hbn]
  intro hb
  rw [hb] at hcode
  cases hcode
 unfold Oper.wp
 rw [hrun, Oper.upon_enter]
 refine hcall.mono fun e w' hpost => ?_
 obtain ⟨rfl, h2⟩ := hpost
 exact h2
theorem execI_sound (hE : EnvOk P E IO Old) {I : FuncId → Option Func} (hI : ∀ f fn, I f = some fn → P.funcs[f]? = some fn ∧ fn.body.isSome = true ∧ fn.name ≠ "runtime.NumGoroutine") (keep : Nat → List Nat) (n : Nat) : ∀ (c : Code) (K : Ex → St → Option ρ) (Q : Exit → Act → World → Prop) (s : St) (a : Act) (w : World), execI E I keep n c K s = some r → RelE base W0 IO Old E.io φ0 s a w →
  (∀ e s' a' w', K e s' = some r → RelE base W0 IO Old E.io φ0 s' a' w' → Q e.to a' w') → c.wp P Q a w := by
 intro c
 induction c with
 | skip => intro K Q s a w h hr hq; exact wp_skip (hq .normal s a w h hr)
 | seq x y ihx ihy =>
  intro K Q s a w h hr hq
  refine wp_seq (ihx _ _ s a w h hr fun e s' a' w' hk hr' => ?_)
  cases e with
  | normal =>
   rcases cutAt_some hk with hk | ⟨s2, hs2, hk⟩
   ·exact ihy K Q s' a' w' hk hr' hq
   ·exact ihy K Q s2 a' w' hk (norm_sound hr' hs2) hq
  | exit i => exact hq _ s' a' w' hk hr'
  | ret => exact hq _ s' a' w' hk hr'
 | cond c x y ihx ihy =>
  intro K Q s a w h hr hq
  simp only [execI] at h
  split at h
  ·rename_i b hb
   obtain ⟨ow, φ, hr0⟩ := hr
   have hv := VR_bool (ev_sound hr0 hb)
   split at h
   ·rename_i hbt
    subst hbt
    exact wp_cond_true hv (ihx K Q s a w h ⟨ow, φ, hr0⟩ hq)
   ·rename_i hbf
    simp only [Bool.not_eq_true] at hbf
    subst hbf
    exact wp_cond_false hv (ihy K Q s a w h ⟨ow, φ, hr0⟩ hq)
  ·cases h
 | block id c ih =>
  intro K Q s a w h hr hq
  refine wp_block (ih _ _ s a w h hr fun e s' a' w' hk hr' => ?_)
  cases e with
  | normal => exact hq .normal s' a' w' hk hr'
  | exit i =>
   simp only [kBlock] at hk
   show (if i = id then Q .normal a' w' else Q (.exit i) a' w')
   split at hk
   ·rename_i hi; rw [if_pos hi]; exact hq .normal s' a' w' hk hr'
   ·rename_i hi; rw [if_neg hi]; exact hq (.exit i) s' a' w' hk hr'
  | ret => exact hq .ret s' a' w' hk hr'
 | loop c ih =>
  intro K Q s a w h hr hq
  simp only [execI] at h
  split at h
  rotate_left
  ·cases h
  rename_i s0 hs0
  have hr0 := norm_sound hr hs0
  have key : ∀ m s a w, loopN (execI E I keep n c) (St.norm E.io (keep (firstId c))) K m s = some r → RelE base W0 IO Old E.io φ0 s a w → ∀ b k cs,
    ∃ e a' w', Q e a' w' ∧ Arrives P (lone (b.at a (.code c :: .inLoop c :: k)) cs w) b k cs e a' w' := by
   intro m
   induction m with
   | zero => intro s a w h; cases h
   | succ m ihm =>
    intro s a w h hr b k cs
    simp only [loopN] at h
    obtain ⟨e, a₁, w₁, hq1, harr⟩ := ih _ (fun e a' w' => match e with
     | .normal => ∃ s', RelE base W0 IO Old E.io φ0 s' a' w' ∧ loopN (execI E I keep n c) (St.norm E.io (keep (firstId c))) K m s' = some r
     | e => Q e a' w') s a w h hr (fun e s' a' w' hk hr' => by
      cases e with
      | normal =>
       simp only [kLoop] at hk
       split at hk
       ·rename_i s2 hs2; exact ⟨s2, norm_sound hr' hs2, hk⟩
       ·cases hk
      | exit i => exact hq _ s' a' w' hk hr'
      | ret => exact hq _ s' a' w' hk hr') b (.inLoop c :: k) cs
    cases e with
    | normal =>
     obtain ⟨s', hr', hl⟩ := hq1
     obtain ⟨e₂, a₂, w₂, hq₂, harr₂⟩ := ihm s' a₁ w₁ hl hr' b k cs
     exact ⟨e₂, a₂, w₂, hq₂, .of_steps (Steps.trans harr (.one step_inLoop)) harr₂⟩
    | exit id => exact ⟨_, a₁, w₁, hq1, .pass (x := .inLoop c) rfl (fun _ _ => .inl (by simp)) harr⟩
    | goto l => exact ⟨_, a₁, w₁, hq1, .pass (x := .inLoop c) rfl (fun _ _ => .inl (by simp)) harr⟩
    | ret => exact ⟨_, a₁, w₁, hq1, .pass (x := .inLoop c) rfl (fun _ _ => .inl (by simp)) harr⟩
    | panic ch => exact ⟨_, a₁, w₁, hq1, .pass (x := .inLoop c) rfl (fun _ _ => .inl (by simp)) harr⟩
    | outgrown => exact ⟨_, a₁, w₁, hq1, .pass (x := .inLoop c) rfl (fun _ _ => .inl (by simp)) harr⟩
  intro b k cs
  obtain ⟨e, a', w', hq', harr⟩ := key n s0 a w h hr0 b k cs
  exact ⟨e, a', w', hq', .of_steps (.one step_loop) harr⟩
 | region id ops draw =>
  intro K Q s a w h hr hq
  cases draw with
  | false =>
   simp only [execI] at h
   split at h
   ·rename_i pre o f fn args hl
    obtain ⟨h1, h2, h3, h4, c, h5, h6, h7⟩ := lastCall_some hl
    refine wp_region_list ?_
    rw [h1]
    refine ops_then hE pre s _ a w h hr (fun s' a' w' hk hr' => ?_)
    unfold wpList
    rw [if_pos (by simp [Region.wanted, h2])]
    refine .inl (inPlace_sound hE hI h5 h6 h7 h3 h4 hk hr' fun s2 a2 w2 hk2 hr2 => ?_)
    unfold wpList
    exact hq .normal s2 a2 w2 hk2 hr2
   ·exact wp_region_list (ops_sound hE ops.toList s (K .normal) a w h hr (fun s' a' w' hk hr' => hq .normal s' a' w' hk hr'))
  | true =>
   simp only [execI] at h
   split at h
   ·rename_i hs
    exact region_sound hE hs h hr (fun s' a' w' hk hr' => hq .normal s' a' w' hk hr')
   ·cases h
 | exit id => intro K Q s a w h hr hq; exact wp_exit (hq (.exit id) s a w h hr)
 | ret => intro K Q s a w h hr hq; exact wp_ret (hq .ret s a w h hr)
 | _ => intro K Q s a w h; simp [execI] at h
end
section
variable {E : Env}
theorem sound_of_execI (hE : ∀ IO Old : Nat → Prop, EnvOk P E IO Old) {I : FuncId → Option Func} (hI : ∀ f fn, I f = some fn → P.funcs[f]? = some fn ∧ fn.body.isSome = true ∧ fn.name ≠ "runtime.NumGoroutine") {f : FuncId} {fn : Func} {code : Code} {c : Con} (hf : P.funcs[f]? = some fn) (hb : fn.body = some code) (keep : Nat → List Nat)
  (hio : ∀ x : Tup (c.ps.map (·.2)), ioN c.gv (ksB (kds' c.ps (dats _ x))).length = E.io)
  (h : ∀ x r, c.F x = some r → ∃ n, execI E I keep n code (fun e s => match e with | .exit _ => none | _ => finish E c (kds' c.ps (dats _ x)) fn.results.toList s) (initSt (kds' c.ps (dats _ x)) (fn.ntmps - c.ps.length)) = some r) : Sound P f c := by
 intro x r hF w vs gs Old hO hn hlt hks
 obtain ⟨n, hex⟩ := h x r hF
 have hdx := dats_types _ x
 obtain ⟨φ0, ow, fs, hfs, hφfs, hkfs, hvr0, hgs0, hrel⟩ := entry hks hO hn hlt (fn.ntmps - c.ps.length) c.gv
 rw [hio x] at hrel
 have hvl : vs.length = c.ps.length := by
  have h1 := (KsOk_len _ _ _ hks).1
  have h2 := congrArg List.length hdx
  simp only [List.length_map] at h2
  rw [kds_len _ _ (by omega)] at h1
  exact h1
 refine calls_of_wp hf hb ?_
 have htm : vs.toArray ++ Array.replicate (fn.ntmps - vs.toArray.size) undef = (vs ++ List.replicate (fn.ntmps - c.ps.length) undef).toArray := by
  apply Array.ext'
  simp [hvl]
 rw [htm]
 refine execI_sound (hE _ _) hI keep n code _ _ _ _ _ hex ⟨_, _, hrel⟩ fun e s a w' hk hr => ?_
 have key : finish E c (kds' c.ps (dats _ x)) fn.results.toList s = some r → a.defers = [] ∧ ∃ v, (results fn a.tmps).run P w' = .ok v w' ∧ ∃ us hs, Ending.returned v = .returned (retOf us) ∧ us.length = c.rs.length ∧ (hs.flatten ++ kpG c.gv gs).Nodup ∧ (∀ h ∈ hs.flatten, (w.heap.size ≤ h ∨ h ∈ gvG c.gv gs) ∧ h < w'.heap.size) ∧
   KsOk w' (Aft (fun b => Old b ∨ b ∈ gvG c.gv gs) w w' (hs.flatten ++ kpG c.gv gs)) (kds' c.rs (dats _ r)) us hs ∧
   KsOk w' (Aft (fun b => Old b ∨ b ∈ gvG c.gv gs) w w' (hs.flatten ++ kpG c.gv gs)) (kds' (iosG c.gv c.ps) ((dats _ r).drop c.rs.length)) (ioVsG c.gv c.ps vs) (ioGsG c.gv c.ps gs) ∧
   (∀ b, b < w.heap.size → b ∉ gs.flatten → w'.heap[b]? = w.heap[b]?) ∧ w.heap.size ≤ w'.heap.size ∧ w'.os = w.os ∧ w'.tape = w.tape ∧ w'.output = w.output := by
  intro hfin
  obtain ⟨ow0, φ', hr⟩ := hr
  unfold finish at hfin
  obtain ⟨ow', hr⟩ := freezes_sound (retFrz E c fn.results.toList s) s ow0 φ' (fun i hi => by
   unfold retFrz at hi
   split at hi
   ·simpa using (List.mem_filter.1 hi).2
   ·cases hi) hr
  generalize s.freezes (retFrz E c fn.results.toList s) = s at hr hfin
  unfold finish0 at hfin
  split at hfin
  rotate_left
  ·cases hfin
  rename_i rv hrv
  split at hfin
  rotate_left
  ·cases hfin
  rename_i hc
  simp only [Bool.and_eq_true, decide_eq_true_eq] at hc
  obtain ⟨hnd, hrl⟩ := hc
  have hnd := nodupB_sound _ hnd
  obtain ⟨us, hus, hrun⟩ := results_run (hE _ _) hr hrv
  have hul := hus.length
  -- the parameters that were written
  have hlk : (kds (ksB (kds' c.ps (dats _ x)))) = kds (ksB (kds' c.ps (dats _ x))) := rfl
  have hlen : c.gv = false → (ksB (kds' c.ps (dats _ x))).length = E.io := fun hg => by rw [← hio x, hg]; rfl
  have hne : c.gv = false → ∀ id, kds (ksB (kds' c.ps (dats _ x))) id ≠ none → id < E.io := fun hg id hh => by
   cases hk : kds (ksB (kds' c.ps (dats _ x))) id with
   | none => exact absurd hk hh
   | some k => rw [← hlen hg]; exact kds_lt hk
  have hpl : c.ps.length = (ksV (kds' c.ps (dats _ x)) 0).length := by rw [hvr0.length, hvl]
  have hioe : All2 (VR φ' (kds s.hp) w' (Fz ow' w' (fun b => Old b ∨ b ∈ gvG c.gv gs) w.heap.size)) (ioVG c.gv c.ps (ksV (kds' c.ps (dats _ x)) 0)) (ioVsG c.gv c.ps vs) := by
   cases hg : c.gv
   rotate_left
   ·exact .nil
   show All2 _ (ioV c.ps (ksV (kds' c.ps (dats _ x)) 0)) (ioVs c.ps vs)
   refine io_exit (φ0 := φ0) ?_ (fun id k hh hk => hr.k0 id k (hne hg id hh) hk) (fun id hh => hr.f0 id (hne hg id hh)) c.ps _ _ hpl hvr0 (fun q hq => ?_)
   ·intro id k hk
    refine ⟨hkfs id k hk, ?_⟩
    rintro rfl
    obtain ⟨b, hb1, hb2⟩ := kds_some.1 hk
    obtain ⟨v, _, hv2⟩ := (BlksV_blk _ _ _ hfs).2 id b hb1
    cases b <;> simp [Blk.kd] at hb2
    exact hv2
   ·refine finT_each _ _ _ hfin q ?_
    rw [List.zip_append hrl.symm]
    refine List.mem_append_right _ ?_
    rw [hg]; exact hq
  have hall := hus.append hioe
  obtain ⟨_, hown⟩ := finT_sound (S' := fun _ => True) hr.hp (fun _ _ => trivial) _ _ _ _ hall hfin
  have hids : idsL (c.rs ++ iosG c.gv c.ps) (rv ++ ioVG c.gv c.ps (ksV (kds' c.ps (dats _ x)) 0)) = idsL c.rs rv ++ idsL (iosG c.gv c.ps) (ioVG c.gv c.ps (ksV (kds' c.ps (dats _ x)) 0)) := idsL_append _ _ _ _ hrl.symm
  rw [hids] at hown
  have hioids : (idsL (iosG c.gv c.ps) (ioVG c.gv c.ps (ksV (kds' c.ps (dats _ x)) 0))).flatten = List.range E.io := by
   cases hg : c.gv
   ·show (idsL (ios c.ps) (ioV c.ps _)).flatten = _
    rw [io_ids _ _ _ hdx, hlen hg, List.range_eq_range']
   ·rw [← hio x, hg]; rfl
  have hiog : (idsL (iosG c.gv c.ps) (ioVG c.gv c.ps (ksV (kds' c.ps (dats _ x)) 0))).map (blksOf φ') = ioGsG c.gv c.ps gs := by
   cases hg : c.gv
   rotate_left
   ·rfl
   show (idsL (ios c.ps) (ioV c.ps _)).map (blksOf φ') = ioGs c.ps gs
   rw [io_ksI _ _ _ hdx, ioGs_map, hgs0 φ' (fun j v hv => ?_)]
   have hj := (List.getElem?_eq_some_iff.1 hv).1
   rw [BlksV_len _ _ _ hfs, hlen hg] at hj
   rw [hr.f0 j hj]; exact hφfs j v hv
  obtain ⟨hgf, hgl1, hgl2⟩ := ioGs_flat c.ps _ vs gs hdx hks
  let hs := (idsL c.rs rv).map (blksOf φ')
  have hhs : hs.flatten = blksOf φ' (idsL c.rs rv).flatten := blksOf_flat _
  have hgs : kpG c.gv gs = blksOf φ' (List.range E.io) := by
   cases hg : c.gv
   ·show gs.flatten = _
    rw [← hgf, ← hioids, ← blksOf_flat, hiog, hg]; rfl
   ·rw [← hio x, hg]; rfl
  have hown' : ∀ id ∈ (idsL c.rs rv).flatten ++ List.range E.io, ∀ g, blkOf (φ' id) = some g → ow' g = some id := by
   rw [List.flatten_append, hioids] at hown; exact hown
  have hboth : hs.flatten ++ kpG c.gv gs = blksOf φ' ((idsL c.rs rv).flatten ++ List.range E.io) := by rw [hhs, hgs]; simp [blksOf]
  have hF : ∀ b, Fz ow' w' (fun b => Old b ∨ b ∈ gvG c.gv gs) w.heap.size b → Aft (fun b => Old b ∨ b ∈ gvG c.gv gs) w w' (hs.flatten ++ kpG c.gv gs) b := by
   rintro b ⟨h1, h2, h3⟩
   refine ⟨h3, h2, fun hm => ?_⟩
   rw [hboth] at hm
   obtain ⟨id, i1, i2⟩ := blksOf_mem hm
   rw [hown' id i1 b i2] at h1; cases h1
  obtain ⟨hks', _⟩ := finT_sound (S' := Aft (fun b => Old b ∨ b ∈ gvG c.gv gs) w w' (hs.flatten ++ kpG c.gv gs)) hr.hp hF _ _ _ _ hall hfin
  have hdr := dats_types _ r
  have hdl : c.rs.length ≤ (dats _ r).length := by
   have := congrArg List.length hdr
   simp only [List.length_map, List.length_append] at this
   omega
  rw [hids, List.map_append (f := blksOf φ'), hiog, kds_append _ _ _ hdl] at hks'
  obtain ⟨hk1, hk2⟩ := KsOk_split _ _ _ _ _ _ (by rw [kds_len _ _ hdl, ← hul, hrl]) (by rw [kds_len _ _ hdl, List.length_map, idsL_len _ _ hrl.symm, hrl]) hks'
  refine ⟨hr.dl, _, hrun, us, hs, rfl, by omega, ?_, fun g hg => ?_, hk1, hk2, hr.fr, hr.sz, hr.mt⟩
  ·rw [hboth]; exact blksOf_nodup _ hnd hown'
  ·rw [hhs] at hg
   obtain ⟨id, i1, i2⟩ := blksOf_mem hg
   have hog := hown' id (List.mem_append_left _ i1) g i2
   obtain ⟨o1, o2, _⟩ := hr.own g id hog
   refine ⟨?_, o1⟩
   rcases o2 with o2 | ⟨o3, o4⟩
   ·exact .inl o2
   ·refine .inr ?_
    rcases o4 with o4 | o4 | o4
    ·exact absurd rfl ((List.nodup_append.1 hnd).2.2 id i1 id (List.mem_range.2 o4))
    ·exact absurd o3 (hO g o4).2
    ·exact o4
 cases e with
 | normal => exact key hk
 | ret => exact key hk
 | exit id => simp at hk
end
noncomputable def bodyFI (E : Env) (I : FuncId → Option Func) (keep : Nat → List Nat) (n : Nat) (fn : Func) (c : Con) (x : Tup (c.ps.map (·.2))) : Option (Tup ((c.rs ++ iosG c.gv c.ps).map (·.2))) :=
 execI E I keep n (codeOf fn) (kEnd E fn c x) (initSt (kds' c.ps (dats _ x)) (fn.ntmps - c.ps.length))
theorem good_ofI {tab : List TRow} (h : okB P tab = true) {cs : List (FuncId × Con)} (hc : Goods P cs) (io : Nat) (mv : Bool) {f : FuncId} {fn : Func} {c : Con} (hf : P.funcs[f]? = some fn) (hb : fn.body.isSome = true) (hn : fn.name ≠ "runtime.NumGoroutine") (hrs : c.rs ≠ []) (keep : Nat → List Nat) (n : Nat)
  (hio : ∀ x : Tup (c.ps.map (·.2)), ioN c.gv (ksB (kds' c.ps (dats _ x))).length = io) {I : FuncId → Option Func} (hI : ∀ f fn, I f = some fn → P.funcs[f]? = some fn ∧ fn.body.isSome = true ∧ fn.name ≠ "runtime.NumGoroutine") (hx : ∀ x, bodyFI (envOf tab cs io mv) I keep n fn c x = c.F x) : Good P f c :=
 ⟨sound_of_execI (code := codeOf fn) (envOk h hc io mv) hI hf (by unfold codeOf; cases hb' : fn.body <;> simp_all) keep hio (fun x r hr => ⟨n, (hx x).trans hr⟩), fn, hf, hb, hn, hrs⟩
end Go.Ev

namespace Go.Ev
set_option linter.unusedVariables false
set_option linter.unusedSimpArgs false
variable {ρ : Type} {P : Program}
theorem All2.mono2 {α β : Type} {R T : α → β → Prop} (h : ∀ a b, R a b → T a b) {l : List α} {m : List β} (k : All2 R l m) : All2 T l m := by
 induction k with
 | nil => exact .nil
 | cons h1 h2 ih => exact .cons (h _ _ h1) ih
theorem retVs_nil {E : Env} {s : St} : ∀ {l : List ResultVar}, retVs E s l = some [] → l = [] := by
 intro l h
 cases l with
 | nil => rfl
 | cons x r =>
  cases x <;> simp only [retVs] at h <;> (repeat' split at h) <;> first | cases h | simp at h
def callOf (I : FuncId → Option Func) (o : Oper) : Option (FuncId × Func × List Operand) := match o.guard, o.op with
 | none, .call c => match c.callee with
  | .value (.func f) => match I f with
   | some fn => if fn.results.toList.isEmpty then none else some (f, fn, c.args.toList)
   | none => none
  | _ => none
 | _, _ => none
def findCall (I : FuncId → Option Func) : List Oper → Option (List Oper × Oper × FuncId × Func × List Operand × List Oper)
 | [] => none
 | o :: r => match callOf I o with
  | some (f, fn, args) => some ([], o, f, fn, args, r)
  | none => match findCall I r with
   | some (pre, x) => some (o :: pre, x)
   | none => none
def kInR (E : Env) (m : Nat) (rs : List ResultVar) (k : St → Option ρ) (sl : List V) (dst : Option Tmp) : Ex → St → Option ρ := fun e s3 => match e with
 | .exit _ => none
 | _ => match retVs (envIn E m) s3 rs with
  | some vs => k (({ sl := sl, hp := s3.hp } : St).put dst (resOf vs))
  | none => none
noncomputable def inPlaceR (E : Env) (keep : Nat → List Nat) (n id : Nat) (fn : Func) (args : List Operand) (dst : Option Tmp) (s : St) (k : St → Option ρ) : Option ρ := match evAll s args with
 | some vs => if E.io = 0 ∧ topS s ≤ s.hp.length ∧ (s.sl.all fun v => v.lt (topS s)) = true then exec (envIn E (topS s)) (keepIn keep id) n (codeOf fn) (kInR E (topS s) fn.results.toList k s.sl dst) ⟨vs ++ List.replicate (fn.ntmps - vs.length) .und, s.hp⟩ else none
 | none => none
noncomputable def execR (E : Env) (I : FuncId → Option Func) (keep : Nat → List Nat) (n : Nat) : Code → (Ex → St → Option ρ) → St → Option ρ
 | .skip, K, s => K .normal s
 | .seq a b, K, s => execR E I keep n a (kSeq (cutAt E.io (keep (1000000 + firstId b)) n (execR E I keep n b K)) K) s
 | .cond c a b, K, s => match s.ev c with
  | some (.dat .bool c) => if c = true then execR E I keep n a K s else execR E I keep n b K s
  | _ => none
 | .block id c, K, s => execR E I keep n c (kBlock id K) s
 | .loop c, K, s => match s.norm E.io (keep (firstId c)) with
  | some s => loopN (execR E I keep n c) (St.norm E.io (keep (firstId c))) K n s
  | none => none
 | .region id ops false, K, s => match findCall I ops.toList with
  | some (pre, o, _, fn, args, post) => evOps E ops pre s fun s => inPlaceR E keep n id fn args o.dst s fun s => evOps E ops post s (K .normal)
  | none => evOps E ops ops.toList s (K .normal)
 | .region _ ops true, K, s => if Region.noSelect ops = true then evDrawSM E ops ops.size 0 s (K .normal) else none
 | .exit id, K, s => K (.exit id) s
 | .ret, K, s => K .ret s
 | _, _, _ => none
noncomputable def ctxR (E : Env) (I : FuncId → Option Func) (keep : Nat → List Nat) (n : Nat) : List (Way ρ) → Code → (Ex → St → Option ρ) → Code × (Ex → St → Option ρ)
 | .fst :: p, .seq a b, K => ctxR E I keep n p a (kSeq (cutAt E.io (keep (1000000 + firstId b)) n (execR E I keep n b K)) K)
 | .snd :: p, .seq _ b, K => ctxR E I keep n p b K
 | .yes :: p, .cond _ a _, K => ctxR E I keep n p a K
 | .no :: p, .cond _ _ b, K => ctxR E I keep n p b K
 | .blk :: p, .block id c, K => ctxR E I keep n p c (kBlock id K)
 | .rd L :: p, .loop c, K => ctxR E I keep n p c (kLoop (St.norm E.io (keep (firstId c))) L K)
 | _, c, K => (c, K)
section
variable {E : Env} {base : Nat} {W0 : World} {IO Old : Nat → Prop} {φ0 : Nat → Value × Kd} {s : St} {a : Act} {w w' : World} {o : Oper} {r : ρ} {ow : Nat → Option Nat} {φ : Nat → Value}
theorem callOf_some {I : FuncId → Option Func} {o : Oper} {f : FuncId} {fn : Func} {args : List Operand} (h : callOf I o = some (f, fn, args)) :
  o.guard = none ∧ I f = some fn ∧ fn.results.toList ≠ [] ∧ ∃ c, o.op = .call c ∧ c.callee = .value (.func f) ∧ c.args.toList = args := by
 unfold callOf at h
 split at h
 ·rename_i c hg ho
  split at h
  ·rename_i f' hc
   split at h
   ·rename_i fn' hI
    split at h
    ·cases h
    ·rename_i hr
     simp only [Option.some.injEq, Prod.mk.injEq] at h
     obtain ⟨rfl, rfl, rfl⟩ := h
     exact ⟨hg, hI, fun e => hr (by rw [e]; rfl), c, ho, hc, rfl⟩
   ·cases h
  ·cases h
 ·cases h
theorem findCall_some {I : FuncId → Option Func} : ∀ {ops pre post : List Oper} {o : Oper} {f : FuncId} {fn : Func} {args : List Operand}, findCall I ops = some (pre, o, f, fn, args, post) →
  ops = pre ++ o :: post ∧ callOf I o = some (f, fn, args) := by
 intro ops
 induction ops with
 | nil => intro pre post o f fn args h; cases h
 | cons x r ih =>
  intro pre post o f fn args h
  simp only [findCall] at h
  split at h
  ·rename_i f' fn' args' hc
   simp only [Option.some.injEq, Prod.mk.injEq] at h
   obtain ⟨rfl, rfl, rfl, rfl, rfl, rfl⟩ := h
   exact ⟨rfl, hc⟩
  ·split at h
   ·rename_i pre' y hf
    simp only [Option.some.injEq, Prod.mk.injEq] at h
    obtain ⟨rfl, rfl⟩ := h
    obtain ⟨h1, h2⟩ := ih hf
    exact ⟨by rw [h1]; rfl, h2⟩
   ·cases h
theorem leave_VR {m : Nat} {s3 : St} {a3 : Act} {w3 : World} {ow3 : Nat → Option Nat} {φ3 : Nat → Value} (hr : Rel base W0 IO Old 0 φ0 s a w ow φ) (h3 : Rel w.heap.size w (fun b => ∃ id, ow b = some id) (OldIn ow w Old base) m (atCall φ s.hp) s3 a3 w3 ow3 φ3) (v : V) (u : Value)
  (k : VR φ3 (kds s3.hp) w3 (Fz ow3 w3 (OldIn ow w Old base) w.heap.size) v u) : VR φ3 (kds s3.hp) w3 (Fz ow3 w3 Old base) v u := by
 refine ((VR_move (fun _ _ _ => rfl) (fun i k hk => .inl hk) (fun b hb => ⟨⟨hb.1, hb.2.1, ?_⟩, rfl⟩)) v).1 u k
 rcases hb.2.2 with (h | ⟨id0, h⟩) | h
 ·exact h.2.2
 ·rcases (hr.own b id0 h).2.1 with k | ⟨k1, k2 | k2⟩
  ·exact .inr k
  ·exact absurd k2 (Nat.not_lt_zero _)
  ·exact .inl k2
 ·exact .inr (Nat.le_trans hr.sz h)
theorem inPlaceR_sound (hE : EnvOk P E IO Old) {I : FuncId → Option Func} (hI : ∀ f fn, I f = some fn → P.funcs[f]? = some fn ∧ fn.body.isSome = true ∧ fn.name ≠ "runtime.NumGoroutine") {o : Oper} {f : FuncId} {fn : Func} {args : List Operand} {cl : Call}
  (ho : o.op = .call cl) (hc : cl.callee = .value (.func f)) (ha : cl.args.toList = args) (hf : I f = some fn) (hres : fn.results.toList ≠ []) {keep : Nat → List Nat} {n id : Nat} {k : St → Option ρ} (h : inPlaceR E keep n id fn args o.dst s k = some r) (hr : RelE base W0 IO Old E.io φ0 s a w)
  {next : Act → World → Prop} {Q : Exit → Act → World → Prop} (hn : ∀ s' a' w', k s' = some r → RelE base W0 IO Old E.io φ0 s' a' w' → next a' w') : o.wp P a w next Q := by
 obtain ⟨ow, φ, hr⟩ := hr
 unfold inPlaceR at h
 split at h
 rotate_left
 ·cases h
 rename_i vs hvs
 split at h
 rotate_left
 ·cases h
 rename_i hio
 have hall := evAll_sound hr args vs hvs
 obtain ⟨hP, hb, hname⟩ := hI f fn hf
 obtain ⟨code, hcode⟩ := Option.isSome_iff_exists.1 hb
 have hent := enter_rel hio.2.1 hr hall (fn.ntmps - vs.length)
 have hE' : EnvOk P (envIn E (topS s)) (fun b => ∃ id, ow b = some id) (OldIn ow w Old base) := ⟨hE.mo, hE.ty, hE.eq', hE.by', hE.con, fun _ b hb => .inr hb⟩
 have hlen := hall.length
 have hcall : Calls P f (args.map a.eval).toArray w fun e w' => ∃ us, e = .returned (retOf us) ∧ next (a.put o.dst (retOf us)) w' := by
  refine calls_of_wp hP hcode ?_
  have htm : (args.map a.eval).toArray ++ Array.replicate (fn.ntmps - (args.map a.eval).toArray.size) undef = (args.map a.eval ++ List.replicate (fn.ntmps - vs.length) undef).toArray := by
   apply Array.ext'
   simp only [List.length_map] at hlen
   simp [hlen]
  rw [htm]
  have hcd : codeOf fn = code := by unfold codeOf; rw [hcode]
  rw [hcd] at h
  refine exec_sound hE' _ n code _ _ _ _ _ h ⟨ow, φ, hent⟩ fun e s3 a3 w3 hk hr3 => ?_
  obtain ⟨ow3, φ3, hr3⟩ := hr3
  have key : (match retVs (envIn E (topS s)) s3 fn.results.toList with
    | some vs => k (({ sl := s.sl, hp := s3.hp } : St).put o.dst (resOf vs))
    | none => none) = some r → a3.defers = [] ∧ ∃ v, (results fn a3.tmps).run P w3 = .ok v w3 ∧ (∃ us, Ending.returned v = .returned (retOf us) ∧ next (a.put o.dst (retOf us)) w3) := fun hk => by
   split at hk
   rotate_left
   ·cases hk
   rename_i rvs hrv
   have hr0 := hr
   rw [hio.1] at hr0
   have hl := leave_rel (List.all_eq_true.1 hio.2.2) hr0 hr3
   obtain ⟨us, hu, hrun⟩ := results_run hE' hr3 hrv
   have hu2 : All2 (VR φ3 (kds s3.hp) w3 (Fz ow3 w3 Old base)) rvs us := hu.mono2 fun v u k => leave_VR hr0 hr3 v u k
   have hne : us ≠ [] := by
    intro e
    have h1 := hu.length
    rw [e] at h1
    have h2 : rvs = [] := List.length_eq_zero_iff.1 h1
    rw [h2] at hrv
    exact hres (retVs_nil hrv)
   have hp := Rel.put hl (v := resOf rvs) (u := retOf us) (retOf_VR hu2 hne) o.dst
   exact ⟨hr3.dl, _, hrun, us, rfl, hn _ _ _ hk ⟨_, _, by rw [hio.1]; exact hp⟩⟩
  cases e with
  | normal => exact key hk
  | exit i => cases hk
  | ret => exact key hk
 have hrun : (execOp a.eval o).run P w = .ok (.enter f (args.map a.eval).toArray) w := by
  have hbn : fn.body.isNone = false := by cases hb : fn.body <;> simp_all
  have e1 : (args.map a.eval).toArray = cl.args.map a.eval := by rw [← ha, ← Array.toList_map]
  rw [e1]
  simp [execOp, ho, resolve, hc, Act.eval, Deferred.ofValue, invoke, callFunc, hP, hname, hbn]
  intro hb
  rw [hb] at hcode
  cases hcode
 unfold Oper.wp
 rw [hrun, Oper.upon_enter]
 refine hcall.mono fun e w' hpost => ?_
 obtain ⟨us, rfl, h2⟩ := hpost
 exact h2
theorem execR_sound (hE : EnvOk P E IO Old) {I : FuncId → Option Func} (hI : ∀ f fn, I f = some fn → P.funcs[f]? = some fn ∧ fn.body.isSome = true ∧ fn.name ≠ "runtime.NumGoroutine") (keep : Nat → List Nat) (n : Nat) : ∀ (c : Code) (K : Ex → St → Option ρ) (Q : Exit → Act → World → Prop) (s : St) (a : Act) (w : World), execR E I keep n c K s = some r → RelE base W0 IO Old E.io φ0 s a w →
  (∀ e s' a' w', K e s' = some r → RelE base W0 IO Old E.io φ0 s' a' w' → Q e.to a' w') → c.wp P Q a w := by
 intro c
 induction c with
 | skip => intro K Q s a w h hr hq; exact wp_skip (hq .normal s a w h hr)
 | seq x y ihx ihy =>
  intro K Q s a w h hr hq
  refine wp_seq (ihx _ _ s a w h hr fun e s' a' w' hk hr' => ?_)
  cases e with
  | normal =>
   rcases cutAt_some hk with hk | ⟨s2, hs2, hk⟩
   ·exact ihy K Q s' a' w' hk hr' hq
   ·exact ihy K Q s2 a' w' hk (norm_sound hr' hs2) hq
  | exit i => exact hq _ s' a' w' hk hr'
  | ret => exact hq _ s' a' w' hk hr'
 | cond c x y ihx ihy =>
  intro K Q s a w h hr hq
  simp only [execR] at h
  split at h
  ·rename_i b hb
   obtain ⟨ow, φ, hr0⟩ := hr
   have hv := VR_bool (ev_sound hr0 hb)
   split at h
   ·rename_i hbt
    subst hbt
    exact wp_cond_true hv (ihx K Q s a w h ⟨ow, φ, hr0⟩ hq)
   ·rename_i hbf
    simp only [Bool.not_eq_true] at hbf
    subst hbf
    exact wp_cond_false hv (ihy K Q s a w h ⟨ow, φ, hr0⟩ hq)
  ·cases h
 | block id c ih =>
  intro K Q s a w h hr hq
  refine wp_block (ih _ _ s a w h hr fun e s' a' w' hk hr' => ?_)
  cases e with
  | normal => exact hq .normal s' a' w' hk hr'
  | exit i =>
   simp only [kBlock] at hk
   show (if i = id then Q .normal a' w' else Q (.exit i) a' w')
   split at hk
   ·rename_i hi; rw [if_pos hi]; exact hq .normal s' a' w' hk hr'
   ·rename_i hi; rw [if_neg hi]; exact hq (.exit i) s' a' w' hk hr'
  | ret => exact hq .ret s' a' w' hk hr'
 | loop c ih =>
  intro K Q s a w h hr hq
  simp only [execR] at h
  split at h
  rotate_left
  ·cases h
  rename_i s0 hs0
  have hr0 := norm_sound hr hs0
  have key : ∀ m s a w, loopN (execR E I keep n c) (St.norm E.io (keep (firstId c))) K m s = some r → RelE base W0 IO Old E.io φ0 s a w → ∀ b k cs,
    ∃ e a' w', Q e a' w' ∧ Arrives P (lone (b.at a (.code c :: .inLoop c :: k)) cs w) b k cs e a' w' := by
   intro m
   induction m with
   | zero => intro s a w h; cases h
   | succ m ihm =>
    intro s a w h hr b k cs
    simp only [loopN] at h
    obtain ⟨e, a₁, w₁, hq1, harr⟩ := ih _ (fun e a' w' => match e with
     | .normal => ∃ s', RelE base W0 IO Old E.io φ0 s' a' w' ∧ loopN (execR E I keep n c) (St.norm E.io (keep (firstId c))) K m s' = some r
     | e => Q e a' w') s a w h hr (fun e s' a' w' hk hr' => by
      cases e with
      | normal =>
       simp only [kLoop] at hk
       split at hk
       ·rename_i s2 hs2; exact ⟨s2, norm_sound hr' hs2, hk⟩
       ·cases hk
      | exit i => exact hq _ s' a' w' hk hr'
      | ret => exact hq _ s' a' w' hk hr') b (.inLoop c :: k) cs
    cases e with
    | normal =>
     obtain ⟨s', hr', hl⟩ := hq1
     obtain ⟨e₂, a₂, w₂, hq₂, harr₂⟩ := ihm s' a₁ w₁ hl hr' b k cs
     exact ⟨e₂, a₂, w₂, hq₂, .of_steps (Steps.trans harr (.one step_inLoop)) harr₂⟩
    | exit id => exact ⟨_, a₁, w₁, hq1, .pass (x := .inLoop c) rfl (fun _ _ => .inl (by simp)) harr⟩
    | goto l => exact ⟨_, a₁, w₁, hq1, .pass (x := .inLoop c) rfl (fun _ _ => .inl (by simp)) harr⟩
    | ret => exact ⟨_, a₁, w₁, hq1, .pass (x := .inLoop c) rfl (fun _ _ => .inl (by simp)) harr⟩
    | panic ch => exact ⟨_, a₁, w₁, hq1, .pass (x := .inLoop c) rfl (fun _ _ => .inl (by simp)) harr⟩
    | outgrown => exact ⟨_, a₁, w₁, hq1, .pass (x := .inLoop c) rfl (fun _ _ => .inl (by simp)) harr⟩
  intro b k cs
  obtain ⟨e, a', w', hq', harr⟩ := key n s0 a w h hr0 b k cs
  exact ⟨e, a', w', hq', .of_steps (.one step_loop) harr⟩
 | region id ops draw =>
  intro K Q s a w h hr hq
  cases draw with
  | false =>
   simp only [execR] at h
   split at h
   ·rename_i pre o f fn args post hl
    obtain ⟨h1, hcl⟩ := findCall_some hl
    obtain ⟨h2, h3, h4, c, h5, h6, h7⟩ := callOf_some hcl
    refine wp_region_list ?_
    rw [h1]
    refine ops_then hE pre s _ a w h hr (fun s' a' w' hk hr' => ?_)
    unfold wpList
    rw [if_pos (by simp [Region.wanted, h2])]
    refine .inl (inPlaceR_sound hE hI h5 h6 h7 h3 h4 hk hr' fun s2 a2 w2 hk2 hr2 => ?_)
    exact ops_sound hE post s2 (K .normal) a2 w2 hk2 hr2 (fun s' a' w' hk hr' => hq .normal s' a' w' hk hr')
   ·exact wp_region_list (ops_sound hE ops.toList s (K .normal) a w h hr (fun s' a' w' hk hr' => hq .normal s' a' w' hk hr'))
  | true =>
   simp only [execR] at h
   split at h
   ·rename_i hs
    exact region_sound hE hs h hr (fun s' a' w' hk hr' => hq .normal s' a' w' hk hr')
   ·cases h
 | exit id => intro K Q s a w h hr hq; exact wp_exit (hq (.exit id) s a w h hr)
 | ret => intro K Q s a w h hr hq; exact wp_ret (hq .ret s a w h hr)
 | _ => intro K Q s a w h; simp [execR] at h
end
section
variable {E : Env}
theorem sound_of_execR (hE : ∀ IO Old : Nat → Prop, EnvOk P E IO Old) {I : FuncId → Option Func} (hI : ∀ f fn, I f = some fn → P.funcs[f]? = some fn ∧ fn.body.isSome = true ∧ fn.name ≠ "runtime.NumGoroutine") {f : FuncId} {fn : Func} {code : Code} {c : Con} (hf : P.funcs[f]? = some fn) (hb : fn.body = some code) (keep : Nat → List Nat)
  (hio : ∀ x : Tup (c.ps.map (·.2)), ioN c.gv (ksB (kds' c.ps (dats _ x))).length = E.io)
  (h : ∀ x r, c.F x = some r → ∃ n, execR E I keep n code (fun e s => match e with | .exit _ => none | _ => finish E c (kds' c.ps (dats _ x)) fn.results.toList s) (initSt (kds' c.ps (dats _ x)) (fn.ntmps - c.ps.length)) = some r) : Sound P f c := by
 intro x r hF w vs gs Old hO hn hlt hks
 obtain ⟨n, hex⟩ := h x r hF
 have hdx := dats_types _ x
 obtain ⟨φ0, ow, fs, hfs, hφfs, hkfs, hvr0, hgs0, hrel⟩ := entry hks hO hn hlt (fn.ntmps - c.ps.length) c.gv
 rw [hio x] at hrel
 have hvl : vs.length = c.ps.length := by
  have h1 := (KsOk_len _ _ _ hks).1
  have h2 := congrArg List.length hdx
  simp only [List.length_map] at h2
  rw [kds_len _ _ (by omega)] at h1
  exact h1
 refine calls_of_wp hf hb ?_
 have htm : vs.toArray ++ Array.replicate (fn.ntmps - vs.toArray.size) undef = (vs ++ List.replicate (fn.ntmps - c.ps.length) undef).toArray := by
  apply Array.ext'
  simp [hvl]
 rw [htm]
 refine execR_sound (hE _ _) hI keep n code _ _ _ _ _ hex ⟨_, _, hrel⟩ fun e s a w' hk hr => ?_
 have key : finish E c (kds' c.ps (dats _ x)) fn.results.toList s = some r → a.defers = [] ∧ ∃ v, (results fn a.tmps).run P w' = .ok v w' ∧ ∃ us hs, Ending.returned v = .returned (retOf us) ∧ us.length = c.rs.length ∧ (hs.flatten ++ kpG c.gv gs).Nodup ∧ (∀ h ∈ hs.flatten, (w.heap.size ≤ h ∨ h ∈ gvG c.gv gs) ∧ h < w'.heap.size) ∧
   KsOk w' (Aft (fun b => Old b ∨ b ∈ gvG c.gv gs) w w' (hs.flatten ++ kpG c.gv gs)) (kds' c.rs (dats _ r)) us hs ∧
   KsOk w' (Aft (fun b => Old b ∨ b ∈ gvG c.gv gs) w w' (hs.flatten ++ kpG c.gv gs)) (kds' (iosG c.gv c.ps) ((dats _ r).drop c.rs.length)) (ioVsG c.gv c.ps vs) (ioGsG c.gv c.ps gs) ∧
   (∀ b, b < w.heap.size → b ∉ gs.flatten → w'.heap[b]? = w.heap[b]?) ∧ w.heap.size ≤ w'.heap.size ∧ w'.os = w.os ∧ w'.tape = w.tape ∧ w'.output = w.output := by
  intro hfin
  obtain ⟨ow0, φ', hr⟩ := hr
  unfold finish at hfin
  obtain ⟨ow', hr⟩ := freezes_sound (retFrz E c fn.results.toList s) s ow0 φ' (fun i hi => by
   unfold retFrz at hi
   split at hi
   ·simpa using (List.mem_filter.1 hi).2
   ·cases hi) hr
  generalize s.freezes (retFrz E c fn.results.toList s) = s at hr hfin
  unfold finish0 at hfin
  split at hfin
  rotate_left
  ·cases hfin
  rename_i rv hrv
  split at hfin
  rotate_left
  ·cases hfin
  rename_i hc
  simp only [Bool.and_eq_true, decide_eq_true_eq] at hc
  obtain ⟨hnd, hrl⟩ := hc
  have hnd := nodupB_sound _ hnd
  obtain ⟨us, hus, hrun⟩ := results_run (hE _ _) hr hrv
  have hul := hus.length
  -- the parameters that were written
  have hlk : (kds (ksB (kds' c.ps (dats _ x)))) = kds (ksB (kds' c.ps (dats _ x))) := rfl
  have hlen : c.gv = false → (ksB (kds' c.ps (dats _ x))).length = E.io := fun hg => by rw [← hio x, hg]; rfl
  have hne : c.gv = false → ∀ id, kds (ksB (kds' c.ps (dats _ x))) id ≠ none → id < E.io := fun hg id hh => by
   cases hk : kds (ksB (kds' c.ps (dats _ x))) id with
   | none => exact absurd hk hh
   | some k => rw [← hlen hg]; exact kds_lt hk
  have hpl : c.ps.length = (ksV (kds' c.ps (dats _ x)) 0).length := by rw [hvr0.length, hvl]
  have hioe : All2 (VR φ' (kds s.hp) w' (Fz ow' w' (fun b => Old b ∨ b ∈ gvG c.gv gs) w.heap.size)) (ioVG c.gv c.ps (ksV (kds' c.ps (dats _ x)) 0)) (ioVsG c.gv c.ps vs) := by
   cases hg : c.gv
   rotate_left
   ·exact .nil
   show All2 _ (ioV c.ps (ksV (kds' c.ps (dats _ x)) 0)) (ioVs c.ps vs)
   refine io_exit (φ0 := φ0) ?_ (fun id k hh hk => hr.k0 id k (hne hg id hh) hk) (fun id hh => hr.f0 id (hne hg id hh)) c.ps _ _ hpl hvr0 (fun q hq => ?_)
   ·intro id k hk
    refine ⟨hkfs id k hk, ?_⟩
    rintro rfl
    obtain ⟨b, hb1, hb2⟩ := kds_some.1 hk
    obtain ⟨v, _, hv2⟩ := (BlksV_blk _ _ _ hfs).2 id b hb1
    cases b <;> simp [Blk.kd] at hb2
    exact hv2
   ·refine finT_each _ _ _ hfin q ?_
    rw [List.zip_append hrl.symm]
    refine List.mem_append_right _ ?_
    rw [hg]; exact hq
  have hall := hus.append hioe
  obtain ⟨_, hown⟩ := finT_sound (S' := fun _ => True) hr.hp (fun _ _ => trivial) _ _ _ _ hall hfin
  have hids : idsL (c.rs ++ iosG c.gv c.ps) (rv ++ ioVG c.gv c.ps (ksV (kds' c.ps (dats _ x)) 0)) = idsL c.rs rv ++ idsL (iosG c.gv c.ps) (ioVG c.gv c.ps (ksV (kds' c.ps (dats _ x)) 0)) := idsL_append _ _ _ _ hrl.symm
  rw [hids] at hown
  have hioids : (idsL (iosG c.gv c.ps) (ioVG c.gv c.ps (ksV (kds' c.ps (dats _ x)) 0))).flatten = List.range E.io := by
   cases hg : c.gv
   ·show (idsL (ios c.ps) (ioV c.ps _)).flatten = _
    rw [io_ids _ _ _ hdx, hlen hg, List.range_eq_range']
   ·rw [← hio x, hg]; rfl
  have hiog : (idsL (iosG c.gv c.ps) (ioVG c.gv c.ps (ksV (kds' c.ps (dats _ x)) 0))).map (blksOf φ') = ioGsG c.gv c.ps gs := by
   cases hg : c.gv
   rotate_left
   ·rfl
   show (idsL (ios c.ps) (ioV c.ps _)).map (blksOf φ') = ioGs c.ps gs
   rw [io_ksI _ _ _ hdx, ioGs_map, hgs0 φ' (fun j v hv => ?_)]
   have hj := (List.getElem?_eq_some_iff.1 hv).1
   rw [BlksV_len _ _ _ hfs, hlen hg] at hj
   rw [hr.f0 j hj]; exact hφfs j v hv
  obtain ⟨hgf, hgl1, hgl2⟩ := ioGs_flat c.ps _ vs gs hdx hks
  let hs := (idsL c.rs rv).map (blksOf φ')
  have hhs : hs.flatten = blksOf φ' (idsL c.rs rv).flatten := blksOf_flat _
  have hgs : kpG c.gv gs = blksOf φ' (List.range E.io) := by
   cases hg : c.gv
   ·show gs.flatten = _
    rw [← hgf, ← hioids, ← blksOf_flat, hiog, hg]; rfl
   ·rw [← hio x, hg]; rfl
  have hown' : ∀ id ∈ (idsL c.rs rv).flatten ++ List.range E.io, ∀ g, blkOf (φ' id) = some g → ow' g = some id := by
   rw [List.flatten_append, hioids] at hown; exact hown
  have hboth : hs.flatten ++ kpG c.gv gs = blksOf φ' ((idsL c.rs rv).flatten ++ List.range E.io) := by rw [hhs, hgs]; simp [blksOf]
  have hF : ∀ b, Fz ow' w' (fun b => Old b ∨ b ∈ gvG c.gv gs) w.heap.size b → Aft (fun b => Old b ∨ b ∈ gvG c.gv gs) w w' (hs.flatten ++ kpG c.gv gs) b := by
   rintro b ⟨h1, h2, h3⟩
   refine ⟨h3, h2, fun hm => ?_⟩
   rw [hboth] at hm
   obtain ⟨id, i1, i2⟩ := blksOf_mem hm
   rw [hown' id i1 b i2] at h1; cases h1
  obtain ⟨hks', _⟩ := finT_sound (S' := Aft (fun b => Old b ∨ b ∈ gvG c.gv gs) w w' (hs.flatten ++ kpG c.gv gs)) hr.hp hF _ _ _ _ hall hfin
  have hdr := dats_types _ r
  have hdl : c.rs.length ≤ (dats _ r).length := by
   have := congrArg List.length hdr
   simp only [List.length_map, List.length_append] at this
   omega
  rw [hids, List.map_append (f := blksOf φ'), hiog, kds_append _ _ _ hdl] at hks'
  obtain ⟨hk1, hk2⟩ := KsOk_split _ _ _ _ _ _ (by rw [kds_len _ _ hdl, ← hul, hrl]) (by rw [kds_len _ _ hdl, List.length_map, idsL_len _ _ hrl.symm, hrl]) hks'
  refine ⟨hr.dl, _, hrun, us, hs, rfl, by omega, ?_, fun g hg => ?_, hk1, hk2, hr.fr, hr.sz, hr.mt⟩
  ·rw [hboth]; exact blksOf_nodup _ hnd hown'
  ·rw [hhs] at hg
   obtain ⟨id, i1, i2⟩ := blksOf_mem hg
   have hog := hown' id (List.mem_append_left _ i1) g i2
   obtain ⟨o1, o2, _⟩ := hr.own g id hog
   refine ⟨?_, o1⟩
   rcases o2 with o2 | ⟨o3, o4⟩
   ·exact .inl o2
   ·refine .inr ?_
    rcases o4 with o4 | o4 | o4
    ·exact absurd rfl ((List.nodup_append.1 hnd).2.2 id i1 id (List.mem_range.2 o4))
    ·exact absurd o3 (hO g o4).2
    ·exact o4
 cases e with
 | normal => exact key hk
 | ret => exact key hk
 | exit id => simp at hk
end
def postOf (I : FuncId → Option Func) (ops : Array Oper) : List Oper := match findCall I ops.toList with
 | some (_, _, _, _, _, post) => post
 | none => []
noncomputable def postK (E : Env) (I : FuncId → Option Func) (c : Code × (Ex → St → Option ρ)) : St → Option ρ := match c.1 with
 | .region _ ops _ => fun s => evOps E ops (postOf I ops) s (c.2 .normal)
 | _ => fun _ => none
noncomputable def bodyFR (E : Env) (I : FuncId → Option Func) (keep : Nat → List Nat) (n : Nat) (fn : Func) (c : Con) (x : Tup (c.ps.map (·.2))) : Option (Tup ((c.rs ++ iosG c.gv c.ps).map (·.2))) :=
 execR E I keep n (codeOf fn) (kEnd E fn c x) (initSt (kds' c.ps (dats _ x)) (fn.ntmps - c.ps.length))
theorem good_ofR {tab : List TRow} (h : okB P tab = true) {cs : List (FuncId × Con)} (hc : Goods P cs) (io : Nat) (mv : Bool) {f : FuncId} {fn : Func} {c : Con} (hf : P.funcs[f]? = some fn) (hb : fn.body.isSome = true) (hn : fn.name ≠ "runtime.NumGoroutine") (hrs : c.rs ≠ []) (keep : Nat → List Nat) (n : Nat)
  (hio : ∀ x : Tup (c.ps.map (·.2)), ioN c.gv (ksB (kds' c.ps (dats _ x))).length = io) {I : FuncId → Option Func} (hI : ∀ f fn, I f = some fn → P.funcs[f]? = some fn ∧ fn.body.isSome = true ∧ fn.name ≠ "runtime.NumGoroutine") (hx : ∀ x, bodyFR (envOf tab cs io mv) I keep n fn c x = c.F x) : Good P f c :=
 ⟨sound_of_execR (code := codeOf fn) (envOk h hc io mv) hI hf (by unfold codeOf; cases hb' : fn.body <;> simp_all) keep hio (fun x r hr => ⟨n, (hx x).trans hr⟩), fn, hf, hb, hn, hrs⟩
end Go.Ev

namespace Go.Ev.Tryz
open Go.Proofs Go.Pl
set_option linter.unusedVariables false
noncomputable section
def QZ.st4 (s0 : ByteArray) (b1 : Int) (p : Int) (i7 : Int) (q : List ByteArray) : St := ⟨[.dat .str s0, .dat (.int .u8) b1, .gone, .gone, .gone, .ref 0, .dat (.int .i64) p, .dat (.int .i64) i7, .gone, .gone, .gone, .gone, .gone, .gone, .gone, .gone, .gone, .gone, .gone, .gone, .gone, .gone, .gone, .gone, .gone, .gone, .gone, .gone, .gone, .gone, .gone, .gone, .gone, .gone], [.row 9 .str q none]⟩
def QZ.con : Con := { ps := [(.val, .str), (.val, (.int .u8))], rs := [(.own, (.sl 9 .str))], F := fun x => QZ.f x.1 x.2 }
def QZ.cs : List (FuncId × Con) := []
def QZ.E : Env := envOf tab QZ.cs 0 false
def QZ.keep (i : Nat) : List Nat := if i = 4 then [0, 1, 5, 6, 7] else []
def QZ.at4 (n : Nat) (x : ByteArray × Int) : Code × (Ex → St → Option (YQ)) := ctx QZ.E QZ.keep n [.snd, .snd, .snd, .fst, .snd, .blk] (codeOf Tryz.f63) (kEnd QZ.E Tryz.f63 QZ.con x)
def QZ.LN4 (n : Nat) (x : ByteArray × Int) : Nat → St → Option (YQ) := loopN (exec QZ.E QZ.keep n (bodyOf (QZ.at4 n x).1)) (St.norm 0 (QZ.keep 4)) (QZ.at4 n x).2
set_option maxRecDepth 100000 in
theorem QZ.lem4 (n : Nat) (x : ByteArray × Int) : ∀ (k : Nat) (s0 : ByteArray) (b1 : Int) (p : Int) (i7 : Int) (q : List ByteArray), QZ.LN4 n x k (QZ.st4 s0 b1 p i7 q) = QZ.l4 n k s0 b1 p i7 q := by
 intro k
 induction k with
 | zero => intro s0 b1 p i7 q; rfl
 | succ k ih =>
  intro s0 b1 p i7 q
  have h : QZ.LN4 n x (k + 1) (QZ.st4 s0 b1 p i7 q) = QZ.g4 (fun s0 b1 p i7 q => QZ.LN4 n x k (QZ.st4 s0 b1 p i7 q)) s0 b1 p i7 q := by kernel_rfl
  rw [h]
  simp only [ih]
  rfl
set_option maxRecDepth 100000 in
theorem QZ.body (n : Nat) (x : ByteArray × Int) : bodyF QZ.E QZ.keep n Tryz.f63 QZ.con x = QZ.fn n x.1 x.2 := by
 have h : bodyF QZ.E QZ.keep n Tryz.f63 QZ.con x = QZ.top (fun s0 b1 p i7 q => QZ.LN4 n x n (QZ.st4 s0 b1 p i7 q)) x.1 x.2 := by kernel_rfl
 rw [h]
 simp only [QZ.lem4]
 rfl
set_option maxRecDepth 100000 in
theorem QZ.good : Good Tryz.prog 63 QZ.con :=
 good_of tabok (cs := QZ.cs) trivial 0 false (fn := Tryz.f63) Tryz.func63 rfl (by decide) (by simp [QZ.con]) QZ.keep NN (fun _ => rfl) (fun x => QZ.body NN x)
end
end Go.Ev.Tryz

namespace Go.Ev.Tryz
open Go.Proofs Go.Pl
set_option linter.unusedVariables false
noncomputable section
def Qao.con : Con := { ps := [(.val, .str)], rs := [(.val, .str), (.val, .bool)], F := fun x => Qao.f x }
def Qao.cs : List (FuncId × Con) := []
def Qao.E : Env := envOf tab Qao.cs 0 false
def Qao.keep (i : Nat) : List Nat := []
set_option maxRecDepth 100000 in
theorem Qao.body (n : Nat) (x : ByteArray) : bodyF Qao.E Qao.keep n Tryz.f72 Qao.con x = Qao.fn n x := by
 have h : bodyF Qao.E Qao.keep n Tryz.f72 Qao.con x = Qao.top x := by kernel_rfl
 exact h
set_option maxRecDepth 100000 in
theorem Qao.good : Good Tryz.prog 72 Qao.con :=
 good_of tabok (cs := Qao.cs) trivial 0 false (fn := Tryz.f72) Tryz.func72 rfl (by decide) (by simp [Qao.con]) Qao.keep NN (fun _ => rfl) (fun x => Qao.body NN x)
end
end Go.Ev.Tryz

namespace Go.Ev.Tryz
open Go.Proofs Go.Pl
set_option linter.unusedVariables false
noncomputable section
def Qr.st8 (s0 : ByteArray) (p : ByteArray) (n5 : Int) (i6 : Int) : St := ⟨[.dat .str s0, .gone, .gone, .gone, .dat .str p, .dat (.int .i64) n5, .dat (.int .i64) i6, .gone, .gone, .gone, .gone, .gone, .gone, .gone, .gone, .gone, .gone, .gone, .gone, .gone, .gone, .gone, .gone, .gone, .gone, .gone, .gone, .gone, .gone, .gone, .gone, .gone, .gone, .gone, .gone, .gone, .gone, .gone, .gone, .gone, .gone, .gone, .gone, .gone, .gone, .gone, .gone, .gone, .gone, .gone, .gone, .gone, .gone, .gone, .gone, .gone, .gone, .gone, .gone, .gone, .gone, .gone, .gone, .gone, .gone, .gone, .gone, .gone, .gone, .gone, .gone, .gone, .gone], []⟩
def Qr.con : Con := { ps := [(.val, .str)], rs := [(.val, (.int .i64)), (.val, .bool)], F := fun x => Qr.f x }
def Qr.cs : List (FuncId × Con) := []
def Qr.E : Env := envOf tab Qr.cs 0 false
def Qr.keep (i : Nat) : List Nat := if i = 8 then [0, 4, 5, 6] else []
def Qr.at8 (n : Nat) (x : ByteArray) : Code × (Ex → St → Option (YAE)) := ctx Qr.E Qr.keep n [.snd, .snd, .snd, .snd, .snd, .fst, .snd, .blk] (codeOf Tryz.f73) (kEnd Qr.E Tryz.f73 Qr.con x)
def Qr.LN8 (n : Nat) (x : ByteArray) : Nat → St → Option (YAE) := loopN (exec Qr.E Qr.keep n (bodyOf (Qr.at8 n x).1)) (St.norm 0 (Qr.keep 8)) (Qr.at8 n x).2
set_option maxRecDepth 100000 in
theorem Qr.lem8 (n : Nat) (x : ByteArray) : ∀ (k : Nat) (s0 : ByteArray) (p : ByteArray) (n5 : Int) (i6 : Int), Qr.LN8 n x k (Qr.st8 s0 p n5 i6) = Qr.l8 n k s0 p n5 i6 := by
 intro k
 induction k with
 | zero => intro s0 p n5 i6; rfl
 | succ k ih =>
  intro s0 p n5 i6
  have h : Qr.LN8 n x (k + 1) (Qr.st8 s0 p n5 i6) = Qr.g8 (fun s0 p n5 i6 => Qr.LN8 n x k (Qr.st8 s0 p n5 i6)) s0 p n5 i6 := by kernel_rfl
  rw [h]
  simp only [ih]
  rfl
set_option maxRecDepth 100000 in
theorem Qr.body (n : Nat) (x : ByteArray) : bodyF Qr.E Qr.keep n Tryz.f73 Qr.con x = Qr.fn n x := by
 have h : bodyF Qr.E Qr.keep n Tryz.f73 Qr.con x = Qr.top (fun s0 p n5 i6 => Qr.LN8 n x n (Qr.st8 s0 p n5 i6)) x := by kernel_rfl
 rw [h]
 simp only [Qr.lem8]
 rfl
set_option maxRecDepth 100000 in
theorem Qr.good : Good Tryz.prog 73 Qr.con :=
 good_of tabok (cs := Qr.cs) trivial 0 false (fn := Tryz.f73) Tryz.func73 rfl (by decide) (by simp [Qr.con]) Qr.keep NN (fun _ => rfl) (fun x => Qr.body NN x)
end
end Go.Ev.Tryz

namespace Go.Ev.Tryz
open Go.Proofs Go.Pl
set_option linter.unusedVariables false
noncomputable section
def Qx.st7 (p : ByteArray) (i8 : Int) (v2a : ByteArray) (q : List ByteArray) (c7a : ByteArray) (w3 : List ByteArray) (w4 : List Int) (w5 : List ByteArray) (w6 : List Int) : St := ⟨[.gone, .gone, .ptr 0 [], .gone, .ref 1, .dat .str p, .gone, .ptr 2 [], .dat (.int .i64) i8, .gone, .gone, .gone, .gone, .gone, .gone, .gone, .gone, .gone, .gone, .gone, .gone, .gone, .gone, .gone, .gone, .gone, .gone, .gone, .gone, .gone, .gone, .gone, .gone, .gone, .gone, .gone, .gone, .gone, .gone, .gone, .gone, .gone, .gone, .gone, .gone, .gone, .gone, .gone, .gone, .gone, .gone, .gone, .gone, .gone, .gone, .gone, .gone, .gone, .gone, .gone, .gone, .gone, .gone, .gone, .gone, .gone, .gone, .gone, .gone, .gone, .gone, .gone, .gone, .gone, .gone, .gone, .gone, .gone, .gone, .gone, .gone, .gone, .gone, .gone, .gone, .gone, .gone, .gone, .gone, .gone, .gone, .gone, .gone], [.box 58 (.pair .str (.pair (.sl 9 .str) (.sl 2 (.int .i64)))) (.pr (.dat .str v2a) (.pr (.ref 3) (.ref 4))), .row 9 .str q none, .box 58 (.pair .str (.pair (.sl 9 .str) (.sl 2 (.int .i64)))) (.pr (.dat .str c7a) (.pr (.ref 5) (.ref 6))), .row 9 .str w3 none, .row 2 (.int .i64) w4 none, .row 9 .str w5 none, .row 2 (.int .i64) w6 none]⟩
def Qx.con : Con := { ps := [(.val, .str)], rs := [(.own, (.pair .str (.pair (.sl 9 .str) (.sl 2 (.int .i64))))), (.own, .bool)], F := fun x => Qx.f x }
def Qx.cs : List (FuncId × Con) := [(63, QZ.con), (72, Qao.con), (73, Qr.con)]
def Qx.E : Env := envOf tab Qx.cs 0 false
def Qx.keep (i : Nat) : List Nat := if i = 7 then [2, 4, 5, 7, 8] else []
def Qx.at7 (n : Nat) (x : ByteArray) : Code × (Ex → St → Option ((YS × Bool))) := ctx Qx.E Qx.keep n [.snd, .snd, .snd, .snd, .snd, .fst, .snd, .blk] (codeOf Tryz.f40) (kEnd Qx.E Tryz.f40 Qx.con x)
def Qx.LN7 (n : Nat) (x : ByteArray) : Nat → St → Option ((YS × Bool)) := loopN (exec Qx.E Qx.keep n (bodyOf (Qx.at7 n x).1)) (St.norm 0 (Qx.keep 7)) (Qx.at7 n x).2
set_option maxRecDepth 100000 in
theorem Qx.lem7 (n : Nat) (x : ByteArray) : ∀ (k : Nat) (p : ByteArray) (i8 : Int) (v2a : ByteArray) (q : List ByteArray) (c7a : ByteArray) (w3 : List ByteArray) (w4 : List Int) (w5 : List ByteArray) (w6 : List Int), Qx.LN7 n x k (Qx.st7 p i8 v2a q c7a w3 w4 w5 w6) = Qx.l7 n k p i8 v2a q c7a w3 w4 w5 w6 := by
 intro k
 induction k with
 | zero => intro p i8 v2a q c7a w3 w4 w5 w6; rfl
 | succ k ih =>
  intro p i8 v2a q c7a w3 w4 w5 w6
  have h : Qx.LN7 n x (k + 1) (Qx.st7 p i8 v2a q c7a w3 w4 w5 w6) = Qx.g7 (fun p i8 v2a q c7a w3 w4 w5 w6 => Qx.LN7 n x k (Qx.st7 p i8 v2a q c7a w3 w4 w5 w6)) p i8 v2a q c7a w3 w4 w5 w6 := by kernel_rfl
  rw [h]
  simp only [ih]
  rfl
set_option maxRecDepth 100000 in
theorem Qx.body (n : Nat) (x : ByteArray) : bodyF Qx.E Qx.keep n Tryz.f40 Qx.con x = Qx.fn n x := by
 have h : bodyF Qx.E Qx.keep n Tryz.f40 Qx.con x = Qx.top (fun p i8 v2a q c7a w3 w4 w5 w6 => Qx.LN7 n x n (Qx.st7 p i8 v2a q c7a w3 w4 w5 w6)) x := by kernel_rfl
 rw [h]
 simp only [Qx.lem7]
 rfl
set_option maxRecDepth 100000 in
theorem Qx.good : Good Tryz.prog 40 Qx.con :=
 good_of tabok (cs := Qx.cs) ⟨QZ.good, Qao.good, Qr.good, trivial⟩ 0 false (fn := Tryz.f40) Tryz.func40 rfl (by decide) (by simp [Qx.con]) Qx.keep NN (fun _ => rfl) (fun x => Qx.body NN x)
end
end Go.Ev.Tryz

namespace Go.Ev.Tryz
open Go.Proofs Go.Pl
set_option linter.unusedVariables false
noncomputable section
def Qd.st4 (n0 : Int) (p : ByteArray) : St := ⟨[.dat (.int .i64) n0, .gone, .gone, .dat .str p, .gone, .gone, .gone, .gone, .gone, .gone, .gone, .gone, .gone, .gone, .gone, .gone, .gone, .gone, .gone, .gone, .gone, .gone, .gone], []⟩
def Qd.con (S : Int → Option ByteArray) : Con := { ps := [(.val, (.int .i64))], rs := [(.val, .str)], F := fun x => S x }
def Qd.cs (S : Int → Option ByteArray) : List (FuncId × Con) := [(64, (Qd.con S))]
def Qd.E (S : Int → Option ByteArray) : Env := envOf tab (Qd.cs S) 0 false
def Qd.keep (i : Nat) : List Nat := if i = 4 then [0, 3] else []
def Qd.at4 (S : Int → Option ByteArray) (n : Nat) (x : Int) : Code × (Ex → St → Option (ByteArray)) := ctx (Qd.E S) Qd.keep n [.snd, .snd, .snd, .blk] (codeOf Tryz.f64) (kEnd (Qd.E S) Tryz.f64 (Qd.con S) x)
def Qd.LN4 (S : Int → Option ByteArray) (n : Nat) (x : Int) : Nat → St → Option (ByteArray) := loopN (exec (Qd.E S) Qd.keep n (bodyOf ((Qd.at4 S) n x).1)) (St.norm 0 (Qd.keep 4)) ((Qd.at4 S) n x).2
set_option maxRecDepth 100000 in
theorem Qd.lem4 (S : Int → Option ByteArray) (n : Nat) (x : Int) : ∀ (k : Nat) (n0 : Int) (p : ByteArray), (Qd.LN4 S) n x k (Qd.st4 n0 p) = (Qd.l4 S) n k n0 p := by
 intro k
 induction k with
 | zero => intro n0 p; rfl
 | succ k ih =>
  intro n0 p
  have h : (Qd.LN4 S) n x (k + 1) (Qd.st4 n0 p) = (Qd.g4 S) (fun n0 p => (Qd.LN4 S) n x k (Qd.st4 n0 p)) n0 p := by kernel_rfl
  rw [h]
  simp only [ih]
  rfl
set_option maxRecDepth 100000 in
theorem Qd.body (S : Int → Option ByteArray) (n : Nat) (x : Int) : bodyF (Qd.E S) Qd.keep n Tryz.f64 (Qd.con S) x = (Qd.fn S) n x := by
 have h : bodyF (Qd.E S) Qd.keep n Tryz.f64 (Qd.con S) x = (Qd.top S) (fun n0 p => (Qd.LN4 S) n x n (Qd.st4 n0 p)) x := by kernel_rfl
 rw [h]
 simp only [(Qd.lem4 S)]
 rfl
set_option maxRecDepth 100000 in
theorem Qd.goodk : ∀ k : Nat, Good Tryz.prog 64 (Qd.con (Qd.rc k)) := by
 intro k
 induction k with
 | zero => exact good_none (fn := Tryz.f64) Tryz.func64 rfl (by decide) (by simp [Qd.con]) (fun _ => rfl)
 | succ k ih => exact good_of tabok (cs := Qd.cs (Qd.rc k)) ⟨ih, trivial⟩ 0 false (fn := Tryz.f64) Tryz.func64 rfl (by decide) (by simp [Qd.con]) Qd.keep NN (fun _ => rfl) (fun x => Qd.body (Qd.rc k) NN x)
theorem Qd.good : Good Tryz.prog 64 (Qd.con (fun n0 => Qd.f n0)) := Qd.goodk NN
end
end Go.Ev.Tryz

namespace Go.Ev.Tryz
open Go.Proofs Go.Pl
set_option linter.unusedVariables false
noncomputable section
def Qaf.con : Con := { ps := [(.val, (.int .i64)), (.val, (.int .i64)), (.val, (.int .i64))], rs := [(.val, .bool)], F := fun x => Qaf.f x.1 x.2.1 x.2.2 }
def Qaf.cs : List (FuncId × Con) := []
def Qaf.E : Env := envOf tab Qaf.cs 0 false
def Qaf.keep (i : Nat) : List Nat := []
set_option maxRecDepth 100000 in
theorem Qaf.body (n : Nat) (x : Int × Int × Int) : bodyF Qaf.E Qaf.keep n Tryz.f86 Qaf.con x = Qaf.fn n x.1 x.2.1 x.2.2 := by
 have h : bodyF Qaf.E Qaf.keep n Tryz.f86 Qaf.con x = Qaf.top x.1 x.2.1 x.2.2 := by kernel_rfl
 exact h
set_option maxRecDepth 100000 in
theorem Qaf.good : Good Tryz.prog 86 Qaf.con :=
 good_of tabok (cs := Qaf.cs) trivial 0 false (fn := Tryz.f86) Tryz.func86 rfl (by decide) (by simp [Qaf.con]) Qaf.keep NN (fun _ => rfl) (fun x => Qaf.body NN x)
end
end Go.Ev.Tryz

namespace Go.Ev.Tryz
open Go.Proofs Go.Pl
set_option linter.unusedVariables false
noncomputable section
def QaN.con : Con := { ps := [(.val, (.int .i64))], rs := [(.val, .bool)], F := fun x => QaN.f x }
def QaN.cs : List (FuncId × Con) := [(86, Qaf.con)]
def QaN.E : Env := envOf tab QaN.cs 0 false
def QaN.keep (i : Nat) : List Nat := []
set_option maxRecDepth 100000 in
theorem QaN.body (n : Nat) (x : Int) : bodyF QaN.E QaN.keep n Tryz.f84 QaN.con x = QaN.fn n x := by
 have h : bodyF QaN.E QaN.keep n Tryz.f84 QaN.con x = QaN.top x := by kernel_rfl
 exact h
set_option maxRecDepth 100000 in
theorem QaN.good : Good Tryz.prog 84 QaN.con :=
 good_of tabok (cs := QaN.cs) ⟨Qaf.good, trivial⟩ 0 false (fn := Tryz.f84) Tryz.func84 rfl (by decide) (by simp [QaN.con]) QaN.keep NN (fun _ => rfl) (fun x => QaN.body NN x)
end
end Go.Ev.Tryz

namespace Go.Ev.Tryz
open Go.Proofs Go.Pl
set_option linter.unusedVariables false
noncomputable section
def QR.st4 (s0 : ByteArray) (i3 : Int) : St := ⟨[.dat .str s0, .gone, .gone, .dat (.int .i64) i3, .gone, .gone, .gone, .gone, .gone, .gone, .gone, .gone, .gone, .gone, .gone, .gone, .gone, .gone, .gone, .gone, .gone, .gone, .gone, .gone, .gone, .gone, .gone, .gone], []⟩
def QR.con : Con := { ps := [(.val, .str)], rs := [(.val, .bool)], F := fun x => QR.f x }
def QR.cs : List (FuncId × Con) := []
def QR.E : Env := envOf tab QR.cs 0 false
def QR.keep (i : Nat) : List Nat := if i = 4 then [0, 3] else []
def QR.at4 (n : Nat) (x : ByteArray) : Code × (Ex → St → Option (Bool)) := ctx QR.E QR.keep n [.snd, .snd, .fst, .snd, .blk] (codeOf Tryz.f85) (kEnd QR.E Tryz.f85 QR.con x)
def QR.LN4 (n : Nat) (x : ByteArray) : Nat → St → Option (Bool) := loopN (exec QR.E QR.keep n (bodyOf (QR.at4 n x).1)) (St.norm 0 (QR.keep 4)) (QR.at4 n x).2
set_option maxRecDepth 100000 in
theorem QR.lem4 (n : Nat) (x : ByteArray) : ∀ (k : Nat) (s0 : ByteArray) (i3 : Int), QR.LN4 n x k (QR.st4 s0 i3) = QR.l4 n k s0 i3 := by
 intro k
 induction k with
 | zero => intro s0 i3; rfl
 | succ k ih =>
  intro s0 i3
  have h : QR.LN4 n x (k + 1) (QR.st4 s0 i3) = QR.g4 (fun s0 i3 => QR.LN4 n x k (QR.st4 s0 i3)) s0 i3 := by kernel_rfl
  rw [h]
  simp only [ih]
  rfl
set_option maxRecDepth 100000 in
theorem QR.body (n : Nat) (x : ByteArray) : bodyF QR.E QR.keep n Tryz.f85 QR.con x = QR.fn n x := by
 have h : bodyF QR.E QR.keep n Tryz.f85 QR.con x = QR.top (fun s0 i3 => QR.LN4 n x n (QR.st4 s0 i3)) x := by kernel_rfl
 rw [h]
 simp only [QR.lem4]
 rfl
set_option maxRecDepth 100000 in
theorem QR.good : Good Tryz.prog 85 QR.con :=
 good_of tabok (cs := QR.cs) trivial 0 false (fn := Tryz.f85) Tryz.func85 rfl (by decide) (by simp [QR.con]) QR.keep NN (fun _ => rfl) (fun x => QR.body NN x)
end
end Go.Ev.Tryz

namespace Go.Ev.Tryz
open Go.Proofs Go.Pl
set_option linter.unusedVariables false
noncomputable section
def QD.st3 (p : ByteArray) (t2 : Int) (q : Int) (v10 : List YA) (v11 : Int) (v12 : Int) : St := ⟨[.gone, .dat .str p, .dat (.int .i64) t2, .gone, .gone, .gone, .gone, .dat (.int .i64) q, .gone, .gone, .dat (.sl 70 (.pair (.int .i64) (.pair .str (.int .i64)))) v10, .dat (.int .i64) v11, .dat (.int .i64) v12, .gone, .gone, .gone, .gone, .gone, .gone, .gone, .gone, .gone, .gone, .gone, .gone, .gone, .gone, .gone, .gone, .gone, .gone, .gone], []⟩
def QD.con : Con := { ps := [(.val, (.sl 70 (.pair (.int .i64) (.pair .str (.int .i64))))), (.val, .str), (.val, (.int .i64))], rs := [(.val, (.int .i64))], F := fun x => QD.f x.1 x.2.1 x.2.2 }
def QD.cs : List (FuncId × Con) := []
def QD.E : Env := envOf tab QD.cs 0 false
def QD.keep (i : Nat) : List Nat := if i = 3 then [1, 2, 7, 10, 11, 12] else []
def QD.at3 (n : Nat) (x : YD × ByteArray × Int) : Code × (Ex → St → Option (Int)) := ctx QD.E QD.keep n [.snd, .snd, .fst, .snd, .blk] (codeOf Tryz.f87) (kEnd QD.E Tryz.f87 QD.con x)
def QD.LN3 (n : Nat) (x : YD × ByteArray × Int) : Nat → St → Option (Int) := loopN (exec QD.E QD.keep n (bodyOf (QD.at3 n x).1)) (St.norm 0 (QD.keep 3)) (QD.at3 n x).2
set_option maxRecDepth 100000 in
theorem QD.lem3 (n : Nat) (x : YD × ByteArray × Int) : ∀ (k : Nat) (p : ByteArray) (t2 : Int) (q : Int) (v10 : List YA) (v11 : Int) (v12 : Int), QD.LN3 n x k (QD.st3 p t2 q v10 v11 v12) = QD.l3 n k p t2 q v10 v11 v12 := by
 intro k
 induction k with
 | zero => intro p t2 q v10 v11 v12; rfl
 | succ k ih =>
  intro p t2 q v10 v11 v12
  have h : QD.LN3 n x (k + 1) (QD.st3 p t2 q v10 v11 v12) = QD.g3 (fun p t2 q v10 v11 v12 => QD.LN3 n x k (QD.st3 p t2 q v10 v11 v12)) p t2 q v10 v11 v12 := by kernel_rfl
  rw [h]
  simp only [ih]
  rfl
set_option maxRecDepth 100000 in
theorem QD.body (n : Nat) (x : YD × ByteArray × Int) : bodyF QD.E QD.keep n Tryz.f87 QD.con x = QD.fn n x.1 x.2.1 x.2.2 := by
 have h : bodyF QD.E QD.keep n Tryz.f87 QD.con x = QD.top (fun p t2 q v10 v11 v12 => QD.LN3 n x n (QD.st3 p t2 q v10 v11 v12)) x.1 x.2.1 x.2.2 := by kernel_rfl
 rw [h]
 simp only [QD.lem3]
 rfl
set_option maxRecDepth 100000 in
theorem QD.good : Good Tryz.prog 87 QD.con :=
 good_of tabok (cs := QD.cs) trivial 0 false (fn := Tryz.f87) Tryz.func87 rfl (by decide) (by simp [QD.con]) QD.keep NN (fun _ => rfl) (fun x => QD.body NN x)
end
end Go.Ev.Tryz

namespace Go.Ev.Tryz
open Go.Proofs Go.Pl
set_option linter.unusedVariables false
noncomputable section
def QA.st4 (p : List YA) (v8 : List YA) (v9 : Int) (v10 : Int) : St := ⟨[.dat (.sl 70 (.pair (.int .i64) (.pair .str (.int .i64)))) p, .gone, .gone, .gone, .gone, .gone, .gone, .gone, .dat (.sl 70 (.pair (.int .i64) (.pair .str (.int .i64)))) v8, .dat (.int .i64) v9, .dat (.int .i64) v10, .gone, .gone, .gone, .gone, .gone, .gone, .gone, .gone, .gone, .gone, .gone, .gone, .gone, .gone, .gone, .gone, .gone, .gone, .gone, .gone, .gone, .gone, .gone, .gone, .gone, .gone, .gone, .gone, .gone, .gone, .gone, .gone, .gone, .gone, .gone, .gone, .gone, .gone, .gone, .gone, .gone, .gone, .gone, .gone, .gone, .gone, .gone, .gone, .gone, .gone, .gone], []⟩
def QA.con : Con := { ps := [(.val, (.sl 70 (.pair (.int .i64) (.pair .str (.int .i64)))))], rs := [(.val, .bool)], F := fun x => QA.f x }
def QA.cs : List (FuncId × Con) := [(84, QaN.con), (85, QR.con), (86, Qaf.con), (87, QD.con)]
def QA.E : Env := envOf tab QA.cs 0 false
def QA.keep (i : Nat) : List Nat := if i = 4 then [0, 8, 9, 10] else []
def QA.at4 (n : Nat) (x : List YA) : Code × (Ex → St → Option (Bool)) := ctx QA.E QA.keep n [.snd, .snd, .fst, .snd, .blk] (codeOf Tryz.f54) (kEnd QA.E Tryz.f54 QA.con x)
def QA.LN4 (n : Nat) (x : List YA) : Nat → St → Option (Bool) := loopN (exec QA.E QA.keep n (bodyOf (QA.at4 n x).1)) (St.norm 0 (QA.keep 4)) (QA.at4 n x).2
set_option maxRecDepth 100000 in
theorem QA.lem4 (n : Nat) (x : List YA) : ∀ (k : Nat) (p : List YA) (v8 : List YA) (v9 : Int) (v10 : Int), QA.LN4 n x k (QA.st4 p v8 v9 v10) = QA.l4 n k p v8 v9 v10 := by
 intro k
 induction k with
 | zero => intro p v8 v9 v10; rfl
 | succ k ih =>
  intro p v8 v9 v10
  have h : QA.LN4 n x (k + 1) (QA.st4 p v8 v9 v10) = QA.g4 (fun p v8 v9 v10 => QA.LN4 n x k (QA.st4 p v8 v9 v10)) p v8 v9 v10 := by kernel_rfl
  rw [h]
  simp only [ih]
  rfl
set_option maxRecDepth 100000 in
theorem QA.body (n : Nat) (x : List YA) : bodyF QA.E QA.keep n Tryz.f54 QA.con x = QA.fn n x := by
 have h : bodyF QA.E QA.keep n Tryz.f54 QA.con x = QA.top (fun p v8 v9 v10 => QA.LN4 n x n (QA.st4 p v8 v9 v10)) x := by kernel_rfl
 rw [h]
 simp only [QA.lem4]
 rfl
set_option maxRecDepth 100000 in
theorem QA.good : Good Tryz.prog 54 QA.con :=
 good_of tabok (cs := QA.cs) ⟨QaN.good, QR.good, Qaf.good, QD.good, trivial⟩ 0 false (fn := Tryz.f54) Tryz.func54 rfl (by decide) (by simp [QA.con]) QA.keep NN (fun _ => rfl) (fun x => QA.body NN x)
end
end Go.Ev.Tryz

namespace Go.Ev.Tryz
open Go.Proofs Go.Pl
set_option linter.unusedVariables false
noncomputable section
def Qak.tr0 (p : List YA) (m1 : Int × ByteArray × Int) : Option YU :=
 if ([] : List YA).length + p.length < room 32 then
  if (([] : List YA) ++ p).length + ([m1]).length < room 32 then
   (QA.f ((([] : List YA) ++ p) ++ ([m1]))).bind fun r2 =>
   if (!r2) = true then
    some ([], 5)
   else
    some ((([] : List YA) ++ p) ++ ([m1]), 0)
  else
   none
 else
  none
def Qak.tr1 (p : List YA) (m1 : Int × ByteArray × Int) : Option YU :=
 agree (
  Qak.tr0 p m1
 ) (
  Qak.tr0 p m1
 )
def Qak.topraw (p : List YA) (m1 : Int × ByteArray × Int) : Option YU :=
 (QA.f p).bind fun r1 =>
 if (!r1) = true then
  some ([], 1)
 else if (((p.length : Int) : Int) == 40) = true then
  some ([], 3)
 else
  agree (
   agree (
    Qak.tr0 p m1
   ) (
    Qak.tr1 p m1
   )
  ) (
   agree (
    Qak.tr1 p m1
   ) (
    Qak.tr0 p m1
   )
  )
theorem Qak.topraw_eq (p : List YA) (m1 : Int × ByteArray × Int) : Qak.topraw p m1 = Qak.top p m1 := by
 unfold Qak.topraw Qak.top
 simp only [agree_self, Qak.tr0, Qak.tr1]
def Qak.con : Con := { ps := [(.val, (.sl 70 (.pair (.int .i64) (.pair .str (.int .i64))))), (.val, (.pair (.int .i64) (.pair .str (.int .i64))))], rs := [(.own, (.sl 70 (.pair (.int .i64) (.pair .str (.int .i64))))), (.own, (.int .i64))], F := fun x => Qak.f x.1 x.2 }
def Qak.cs : List (FuncId × Con) := [(54, QA.con)]
def Qak.E : Env := envOf tab Qak.cs 0 false
def Qak.keep (i : Nat) : List Nat := []
set_option maxRecDepth 100000 in
theorem Qak.body (n : Nat) (x : YD × Int × ByteArray × Int) : bodyF Qak.E Qak.keep n Tryz.f97 Qak.con x = Qak.fn n x.1 x.2 := by
 have h : bodyF Qak.E Qak.keep n Tryz.f97 Qak.con x = Qak.topraw x.1 x.2 := by kernel_rfl
 rw [Qak.topraw_eq] at h
 exact h
set_option maxRecDepth 100000 in
theorem Qak.good : Good Tryz.prog 97 Qak.con :=
 good_of tabok (cs := Qak.cs) ⟨QA.good, trivial⟩ 0 false (fn := Tryz.f97) Tryz.func97 rfl (by decide) (by simp [Qak.con]) Qak.keep NN (fun _ => rfl) (fun x => Qak.body NN x)
end
end Go.Ev.Tryz

namespace Go.Ev.Tryz
open Go.Proofs Go.Pl
set_option linter.unusedVariables false
noncomputable section
def QaG.con : Con := { ps := [(.val, (.sl 70 (.pair (.int .i64) (.pair .str (.int .i64))))), (.val, .str), (.val, (.int .i64))], rs := [(.val, (.int .i64))], F := fun x => QaG.f x.1 x.2.1 x.2.2 }
def QaG.cs : List (FuncId × Con) := [(54, QA.con), (84, QaN.con), (85, QR.con)]
def QaG.E : Env := envOf tab QaG.cs 0 false
def QaG.keep (i : Nat) : List Nat := []
set_option maxRecDepth 100000 in
theorem QaG.body (n : Nat) (x : YD × ByteArray × Int) : bodyF QaG.E QaG.keep n Tryz.f130 QaG.con x = QaG.fn n x.1 x.2.1 x.2.2 := by
 have h : bodyF QaG.E QaG.keep n Tryz.f130 QaG.con x = QaG.top x.1 x.2.1 x.2.2 := by kernel_rfl
 exact h
set_option maxRecDepth 100000 in
theorem QaG.good : Good Tryz.prog 130 QaG.con :=
 good_of tabok (cs := QaG.cs) ⟨QA.good, QaN.good, QR.good, trivial⟩ 0 false (fn := Tryz.f130) Tryz.func130 rfl (by decide) (by simp [QaG.con]) QaG.keep NN (fun _ => rfl) (fun x => QaG.body NN x)
end
end Go.Ev.Tryz
