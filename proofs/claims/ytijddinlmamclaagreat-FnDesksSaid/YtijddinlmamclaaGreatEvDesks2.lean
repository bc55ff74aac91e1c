/- Part 2 of what the law FnDesks stands on: an evaluator of the model's code, proved sound; the functions as plain texts; their contracts. -/
import Derived.Test.YtijddinlmamclaaGreatChecked
import Derived.Test.YtijddinlmamclaaGreatProg
import Derived.Test.YtijddinlmamclaaGreatRows
import Derived.Below
import Derived.Calls
import Derived.Carry
import Derived.ChangeArms
import Derived.ChangeKeysEq
import Derived.ChangeOld
import Derived.Deep.Quiet
import Derived.KernelRfl
import Derived.Laws.Append
import Derived.Laws.BytesString
import Derived.Laws.MakeOwn
import Derived.Laws.Strings
import Derived.Laws.StructEq
import Derived.OpenShut
import Derived.OrdersHeld
import Derived.ProofKit
import Derived.ShutString
import Derived.SizedLaws
import Derived.Tactics
import Derived.WalkKit
import Derived.WideShapes
import Derived.Test.YtijddinlmamclaaGreatEvDesks1
namespace Go.Pl
open Go.Ev
set_option linter.unusedVariables false
noncomputable section
def Qm.g2 (L2 : YAD) (s1 : ByteArray) (at5 : Int) (p : List ByteArray) : Option YJ :=
 if (decide ((at5 : Int) < (p.length : Int))) = true then
 if (0 : Int) ≤ at5 ∧ (at5 : Int) < p.length then
 if (Op.bytesLess (p.getD (at5 : Int).toNat ByteArray.empty).toList s1.toList) = true then
 L2 s1 (IntKind.i64.wrap (at5 + 1)) p
 else if (decide ((at5 : Int) < (p.length : Int))) = true then
 if (0 : Int) ≤ at5 ∧ (at5 : Int) < p.length then
 if ((p.getD (at5 : Int).toNat ByteArray.empty).toList == s1.toList) = true then
 some p
 else if (0 : Int) ≤ at5 ∧ (at5 : Int) ≤ p.length then
 if (0 : Int) ≤ at5 ∧ (at5 : Int) ≤ p.length then
 if ([] : List ByteArray).length + (p.take (at5 : Int).toNat).length < room 16 then
 if (([] : List ByteArray) ++ (p.take (at5 : Int).toNat)).length + ([s1]).length < room 16 then
 if ((([] : List ByteArray) ++ (p.take (at5 : Int).toNat)) ++ ([s1])).length + (p.drop (at5 : Int).toNat).length < room 16 then
 some (((([] : List ByteArray) ++ (p.take (at5 : Int).toNat)) ++ ([s1])) ++ (p.drop (at5 : Int).toNat))
 else
 none
 else
 none
 else
 none
 else
 none
 else
 none
 else
 none
 else if (0 : Int) ≤ at5 ∧ (at5 : Int) ≤ p.length then
 if (0 : Int) ≤ at5 ∧ (at5 : Int) ≤ p.length then
 if ([] : List ByteArray).length + (p.take (at5 : Int).toNat).length < room 16 then
 if (([] : List ByteArray) ++ (p.take (at5 : Int).toNat)).length + ([s1]).length < room 16 then
 if ((([] : List ByteArray) ++ (p.take (at5 : Int).toNat)) ++ ([s1])).length + (p.drop (at5 : Int).toNat).length < room 16 then
 some (((([] : List ByteArray) ++ (p.take (at5 : Int).toNat)) ++ ([s1])) ++ (p.drop (at5 : Int).toNat))
 else
 none
 else
 none
 else
 none
 else
 none
 else
 none
 else
 none
 else if (decide ((at5 : Int) < (p.length : Int))) = true then
 if (0 : Int) ≤ at5 ∧ (at5 : Int) < p.length then
 if ((p.getD (at5 : Int).toNat ByteArray.empty).toList == s1.toList) = true then
 some p
 else if (0 : Int) ≤ at5 ∧ (at5 : Int) ≤ p.length then
 if (0 : Int) ≤ at5 ∧ (at5 : Int) ≤ p.length then
 if ([] : List ByteArray).length + (p.take (at5 : Int).toNat).length < room 16 then
 if (([] : List ByteArray) ++ (p.take (at5 : Int).toNat)).length + ([s1]).length < room 16 then
 if ((([] : List ByteArray) ++ (p.take (at5 : Int).toNat)) ++ ([s1])).length + (p.drop (at5 : Int).toNat).length < room 16 then
 some (((([] : List ByteArray) ++ (p.take (at5 : Int).toNat)) ++ ([s1])) ++ (p.drop (at5 : Int).toNat))
 else
 none
 else
 none
 else
 none
 else
 none
 else
 none
 else
 none
 else if (0 : Int) ≤ at5 ∧ (at5 : Int) ≤ p.length then
 if (0 : Int) ≤ at5 ∧ (at5 : Int) ≤ p.length then
 if ([] : List ByteArray).length + (p.take (at5 : Int).toNat).length < room 16 then
 if (([] : List ByteArray) ++ (p.take (at5 : Int).toNat)).length + ([s1]).length < room 16 then
 if ((([] : List ByteArray) ++ (p.take (at5 : Int).toNat)) ++ ([s1])).length + (p.drop (at5 : Int).toNat).length < room 16 then
 some (((([] : List ByteArray) ++ (p.take (at5 : Int).toNat)) ++ ([s1])) ++ (p.drop (at5 : Int).toNat))
 else
 none
 else
 none
 else
 none
 else
 none
 else
 none
def Qm.l2 (n : Nat) : Nat → ByteArray → Int → List ByteArray → Option YJ
 | 0 => fun _ _ _ => none
 | k + 1 => Qm.g2 (Qm.l2 n k)
def Qm.top (I2 : YAD) (p : List ByteArray) (s1 : ByteArray) : Option YJ :=
 I2 s1 0 p
def Qm.fn (n : Nat) (p : List ByteArray) (s1 : ByteArray) : Option YJ := Qm.top (Qm.l2 n n) p s1
def Qm.f (p : List ByteArray) (s1 : ByteArray) : Option YJ := Qm.fn NN p s1
end
end Go.Pl

namespace Go.Pl
open Go.Ev
set_option linter.unusedVariables false
noncomputable section
def Q5.g3 (L3 : YD → Int → List ByteArray → Option YJ) (p : List YA) (i4 : Int) (q : List ByteArray) : Option YJ :=
 if (decide ((i4 : Int) < (p.length : Int))) = true then
 if (0 : Int) ≤ i4 ∧ (i4 : Int) < p.length then
 (QJ.f p (((p.getD (i4 : Int).toNat (0, (ByteArray.empty, 0))).2).1) (p.length : Int)).bind fun r1 =>
 if (decide ((0 : Int) < r1)) = true then
 if (0 : Int) ≤ i4 ∧ (i4 : Int) < p.length then
 (Qm.f q (((p.getD (i4 : Int).toNat (0, (ByteArray.empty, 0))).2).1)).bind fun r2 =>
 L3 p (IntKind.i64.wrap (i4 + 1)) r2
 else
 none
 else
 L3 p (IntKind.i64.wrap (i4 + 1)) q
 else
 none
 else
 some q
def Q5.l3 (n : Nat) : Nat → YD → Int → List ByteArray → Option YJ
 | 0 => fun _ _ _ => none
 | k + 1 => Q5.g3 (Q5.l3 n k)
def Q5.top (I3 : YD → Int → List ByteArray → Option YJ) (p : List YA) : Option YJ :=
 I3 p 0 []
def Q5.fn (n : Nat) (p : List YA) : Option YJ := Q5.top (Q5.l3 n n) p
def Q5.f (p : List YA) : Option YJ := Q5.fn NN p
end
end Go.Pl

namespace Go.Pl
open Go.Ev
set_option linter.unusedVariables false
noncomputable section
def Qa8.top (c0 : Bool × Bool × Bool × Bool × Bool × Int) : Option YB :=
 some (c0.1, (c0.2.1, (false, (false, c0.2.2.2.2))))
def Qa8.fn (n : Nat) (c0 : Bool × Bool × Bool × Bool × Bool × Int) : Option YB := Qa8.top c0
def Qa8.f (c0 : Bool × Bool × Bool × Bool × Bool × Int) : Option YB := Qa8.fn NN c0
end
end Go.Pl

namespace Go.Pl
open Go.Ev
set_option linter.unusedVariables false
noncomputable section
def QaT.top (c0 : Bool × Bool × Bool × Bool × Bool × Int) (p : Int) : Option (YB × Bool) :=
 if ((p : Int) == 0) = true then
 if (!(!c0.1)) = true then
 (Qa8.f (!c0.1, c0.2)).bind fun r1 =>
 some (r1, true)
 else
 some ((!c0.1, c0.2), true)
 else if ((p : Int) == 1) = true then
 if (!(!c0.2.1)) = true then
 (Qa8.f (c0.1, (!c0.2.1, c0.2.2))).bind fun r2 =>
 some (r2, true)
 else
 some ((c0.1, (!c0.2.1, c0.2.2)), true)
 else if ((p : Int) == 2) = true then
 if (!c0.1) = false then
 if (!c0.2.1) = false then
 if c0.2.2.2.2.1 = true then
 some (c0, false)
 else
 some ((c0.1, (c0.2.1, (true, (false, (c0.2.2.2.2.1, 0))))), true)
 else
 some (c0, false)
 else
 some (c0, false)
 else if ((p : Int) == 3) = true then
 (Qa8.f c0).bind fun r3 =>
 some (r3, true)
 else if ((p : Int) == 4) = true then
 if (!c0.2.2.1) = false then
 if c0.2.2.2.1 = true then
 some (c0, false)
 else
 some ((c0.1, (c0.2.1, (c0.2.2.1, (true, c0.2.2.2.2)))), true)
 else
 some (c0, false)
 else if ((p : Int) == 5) = true then
 if (!c0.2.2.2.1) = true then
 some (c0, false)
 else
 some ((c0.1, (c0.2.1, (c0.2.2.1, (false, c0.2.2.2.2)))), true)
 else if ((p : Int) == 6) = true then
 (Qa8.f c0).bind fun r4 =>
 some ((r4.1, (r4.2.1, (r4.2.2.1, (r4.2.2.2.1, (true, r4.2.2.2.2.2))))), true)
 else if ((p : Int) == 7) = true then
 some ((c0.1, (c0.2.1, (c0.2.2.1, (c0.2.2.2.1, (c0.2.2.2.2.1, 0))))), true)
 else if ((p : Int) == 8) = true then
 if (decide ((3 : Int) < (if (IntKind.i64.wrap (c0.2.2.2.2.2 + 1)) < 4 then (IntKind.i64.wrap (c0.2.2.2.2.2 + 1)) else 4))) = true then
 (Qa8.f (c0.1, (c0.2.1, (c0.2.2.1, (c0.2.2.2.1, (c0.2.2.2.2.1, (if (IntKind.i64.wrap (c0.2.2.2.2.2 + 1)) < 4 then (IntKind.i64.wrap (c0.2.2.2.2.2 + 1)) else 4))))))).bind fun r5 =>
 some (r5, true)
 else
 some ((c0.1, (c0.2.1, (c0.2.2.1, (c0.2.2.2.1, (c0.2.2.2.2.1, (if (IntKind.i64.wrap (c0.2.2.2.2.2 + 1)) < 4 then (IntKind.i64.wrap (c0.2.2.2.2.2 + 1)) else 4)))))), true)
 else if (!c0.2.2.2.2.1) = false then
 if c0.1 = false then
 if c0.2.1 = true then
 some (c0, false)
 else
 some ((c0.1, (c0.2.1, (c0.2.2.1, (c0.2.2.2.1, (false, c0.2.2.2.2.2))))), true)
 else
 some (c0, false)
 else
 some (c0, false)
def QaT.fn (n : Nat) (c0 : Bool × Bool × Bool × Bool × Bool × Int) (p : Int) : Option (YB × Bool) := QaT.top c0 p
def QaT.f (c0 : Bool × Bool × Bool × Bool × Bool × Int) (p : Int) : Option (YB × Bool) := QaT.fn NN c0 p
end
end Go.Pl

namespace Go.Pl
open Go.Ev
set_option linter.unusedVariables false
noncomputable section
def QL.g2 (L2 : Int → YB → Bool → Bool → Bool → Bool → Bool → Int → Option YB) (k5 : Int) (c2 : Bool × Bool × Bool × Bool × Bool × Int) (v4a : Bool) (t : Bool) (s : Bool) (r : Bool) (p : Bool) (q : Int) : Option YB :=
 if (decide ((0 : Int) < k5)) = true then
 (QaT.f c2 8).bind fun r1 =>
 L2 (IntKind.i64.wrap (k5 - 1)) r1.1 v4a t s r p q
 else
 some c2
def QL.l2 (n : Nat) : Nat → Int → YB → Bool → Bool → Bool → Bool → Bool → Int → Option YB
 | 0 => fun _ _ _ _ _ _ _ _ => none
 | k + 1 => QL.g2 (QL.l2 n k)
def QL.top (I2 : Int → YB → Bool → Bool → Bool → Bool → Bool → Int → Option YB) (c0 : Bool × Bool × Bool × Bool × Bool × Int) (n1 : Int) : Option YB :=
 I2 (if 5 < n1 then 5 else n1) c0 false false false false false 0
def QL.fn (n : Nat) (c0 : Bool × Bool × Bool × Bool × Bool × Int) (n1 : Int) : Option YB := QL.top (QL.l2 n n) c0 n1
def QL.f (c0 : Bool × Bool × Bool × Bool × Bool × Int) (n1 : Int) : Option YB := QL.fn NN c0 n1
end
end Go.Pl

namespace Go.Pl
open Go.Ev
set_option linter.unusedVariables false
noncomputable section
def QR.g4 (L4 : YAF) (p : List YC) (q : Int) (v : Int) (i9 : Int) (v4a : Bool) (y : Bool) (w : Bool) (u : Bool) (s : Bool) (t : Int) (c6 : Bool × Bool × Bool × Bool × Bool × Int) (r : List Int) : Option YAE :=
 if (decide ((i9 : Int) < (p.length : Int))) = true then
 if (0 : Int) ≤ i9 ∧ (i9 : Int) < p.length then
 if (decide ((((p.getD (i9 : Int).toNat (0, 0)).1) : Int) ≤ q)) = true then
 if (0 : Int) ≤ i9 ∧ (i9 : Int) < p.length then
 (QL.f c6 (IntKind.i64.wrap (((p.getD (i9 : Int).toNat (0, 0)).1) - v))).bind fun r1 =>
 if (0 : Int) ≤ i9 ∧ (i9 : Int) < p.length then
 if (0 : Int) ≤ i9 ∧ (i9 : Int) < p.length then
 (QaT.f r1 ((p.getD (i9 : Int).toNat (0, 0)).2)).bind fun r2 =>
 if r2.2 = true then
 L4 p q ((p.getD (i9 : Int).toNat (0, 0)).1) (IntKind.i64.wrap (i9 + 1)) v4a y w u s t r2.1 r
 else if r.length + ([i9]).length < room 8 then
 L4 p q ((p.getD (i9 : Int).toNat (0, 0)).1) (IntKind.i64.wrap (i9 + 1)) v4a y w u s t r1 (r ++ ([i9]))
 else
 none
 else
 none
 else
 none
 else
 none
 else
 (QL.f c6 (IntKind.i64.wrap (q - v))).bind fun r3 =>
 some (r3, r)
 else
 none
 else
 (QL.f c6 (IntKind.i64.wrap (q - v))).bind fun r4 =>
 some (r4, r)
def QR.l4 (n : Nat) : Nat → YE → Int → Int → Int → Bool → Bool → Bool → Bool → Bool → Int → YB → List Int → Option YAE
 | 0 => fun _ _ _ _ _ _ _ _ _ _ _ _ => none
 | k + 1 => QR.g4 (QR.l4 n k)
def QR.top (I4 : YAF) (p : List YC) (q : Int) : Option YAE :=
 I4 p q 0 0 false false false false false 0 (false, (false, (false, (false, (false, 0))))) []
def QR.fn (n : Nat) (p : List YC) (q : Int) : Option YAE := QR.top (QR.l4 n n) p q
def QR.f (p : List YC) (q : Int) : Option YAE := QR.fn NN p q
end
end Go.Pl

namespace Go.Pl
open Go.Ev
set_option linter.unusedVariables false
noncomputable section
def Qh.g9 (L3 : YAH) (L9 : List Int → YE → YD → List ByteArray → Int → Int → Bool → Int → List Int → Option YO) (p : List Int) (s : List YC) (r : List YA) (q : List ByteArray) (i10 : Int) (u : Int) (v : Bool) (k15 : Int) (t : List Int) : Option YO :=
 if (decide ((k15 : Int) < (q.length : Int))) = true then
 if v = true then
 if (0 : Int) ≤ k15 ∧ (k15 : Int) < q.length then
 (QP.f r (q.getD (k15 : Int).toNat ByteArray.empty) (IntKind.i64.wrap (u * 100))).bind fun r2 =>
 L9 p s r q i10 u r2 (IntKind.i64.wrap (k15 + 1)) t
 else
 none
 else
 L9 p s r q i10 u false (IntKind.i64.wrap (k15 + 1)) t
 else if v = true then
 if t.length + ([u]).length < room 8 then
 L3 p s r q (IntKind.i64.wrap (i10 + 1)) (t ++ ([u]))
 else
 none
 else if t.length + ([(-1)]).length < room 8 then
 L3 p s r q (IntKind.i64.wrap (i10 + 1)) (t ++ ([(-1)]))
 else
 none
def Qh.l9 (n : Nat) (L3 : YAH) : Nat → List Int → YE → YD → List ByteArray → Int → Int → Bool → Int → List Int → Option YO
 | 0 => fun _ _ _ _ _ _ _ _ _ => none
 | k + 1 => Qh.g9 L3 (Qh.l9 n L3 k)
def Qh.g3 (I9 : List Int → YE → YD → List ByteArray → Int → Int → Bool → Int → List Int → Option YO) (L3 : YAH) (p : List Int) (s : List YC) (r : List YA) (q : List ByteArray) (i10 : Int) (t : List Int) : Option YO :=
 if (decide ((i10 : Int) < (p.length : Int))) = true then
 if (0 : Int) ≤ i10 ∧ (i10 : Int) < p.length then
 (QR.f s (IntKind.i64.wrap (Int.tdiv (p.getD (i10 : Int).toNat 0) 100))).bind fun r1 =>
 if r1.1.2.2.1 = true then
 I9 p s r q i10 (IntKind.i64.wrap (Int.tdiv (p.getD (i10 : Int).toNat 0) 100)) (!r1.1.2.2.2.1) 0 t
 else
 I9 p s r q i10 (IntKind.i64.wrap (Int.tdiv (p.getD (i10 : Int).toNat 0) 100)) false 0 t
 else
 none
 else
 some t
def Qh.l3 (n : Nat) : Nat → List Int → YE → YD → List ByteArray → Int → List Int → Option YO
 | 0 => fun _ _ _ _ _ _ => none
 | k + 1 => Qh.g3 (Qh.l9 n (Qh.l3 n k) n) (Qh.l3 n k)
def Qh.top (I3 : YAH) (p : List Int) (s : List YC) (r : List YA) (q : List ByteArray) : Option YO :=
 I3 p s r q 0 []
def Qh.fn (n : Nat) (p : List Int) (s : List YC) (r : List YA) (q : List ByteArray) : Option YO := Qh.top (Qh.l3 n n) p s r q
def Qh.f (p : List Int) (s : List YC) (r : List YA) (q : List ByteArray) : Option YO := Qh.fn NN p s r q
end
end Go.Pl

namespace Go.Pl
open Go.Ev
set_option linter.unusedVariables false
noncomputable section
def Q7.g5 (L5 : Int → Int → YF → List ByteArray → Option YU) (t1 : Int) (i7 : Int) (d2 : YD × YE × List YA) (p : List ByteArray) : Option YU :=
 if (decide ((i7 : Int) < (d2.1.length : Int))) = true then
 if (0 : Int) ≤ i7 ∧ (i7 : Int) < d2.1.length then
 (Qm.f p (((d2.1.getD (i7 : Int).toNat (0, (ByteArray.empty, 0))).2).1)).bind fun r2 =>
 L5 t1 (IntKind.i64.wrap (i7 + 1)) d2 r2
 else
 none
 else
 (Qh.f ([t1]) d2.2.1 d2.1 p).bind fun r3 =>
 if (0 : Int) ≤ 0 ∧ (0 : Int) < r3.length then
 if (decide (((r3.getD (0 : Int).toNat 0) : Int) < 0)) = true then
 some ((⟨#[109, 105, 115, 115, 101, 100]⟩ : ByteArray), 0)
 else
 (Qf.f (r3.getD (0 : Int).toNat 0)).bind fun r4 =>
 some (r4, 0)
 else
 none
def Q7.l5 (n : Nat) : Nat → Int → Int → YF → List ByteArray → Option YU
 | 0 => fun _ _ _ _ => none
 | k + 1 => Q7.g5 (Q7.l5 n k)
def Q7.top (I5 : Int → Int → YF → List ByteArray → Option YU) (d0 : YD × YE × List YA) (t1 : Int) : Option YU :=
 (Qar.f t1).bind fun r1 =>
 if (!r1) = true then
 some ((⟨#[]⟩ : ByteArray), 1)
 else
 I5 t1 0 d0 []
def Q7.fn (n : Nat) (d0 : YD × YE × List YA) (t1 : Int) : Option YU := Q7.top (Q7.l5 n n) d0 t1
def Q7.f (d0 : YD × YE × List YA) (t1 : Int) : Option YU := Q7.fn NN d0 t1
end
end Go.Pl

namespace Go.Pl
open Go.Ev
set_option linter.unusedVariables false
noncomputable section
def Qq.g2 (L2 : YE → Int → Option Bool) (p : List YC) (i3 : Int) : Option Bool :=
 if (decide ((i3 : Int) < (p.length : Int))) = true then
 if (0 : Int) ≤ i3 ∧ (i3 : Int) < p.length then
 (Qaj.f ((p.getD (i3 : Int).toNat (0, 0)).1) 0 100000).bind fun r1 =>
 if (!r1) = false then
 (Qaj.f ((p.getD (i3 : Int).toNat (0, 0)).2) 0 9).bind fun r2 =>
 if (!r2) = false then
 if ((((p.getD (i3 : Int).toNat (0, 0)).2) : Int) == 8) = false then
 if (decide ((0 : Int) < i3)) = true then
 if (0 : Int) ≤ (IntKind.i64.wrap (i3 - 1)) ∧ ((IntKind.i64.wrap (i3 - 1)) : Int) < p.length then
 if (decide ((((p.getD (i3 : Int).toNat (0, 0)).1) : Int) < ((p.getD ((IntKind.i64.wrap (i3 - 1)) : Int).toNat (0, 0)).1))) = true then
 some false
 else
 L2 p (IntKind.i64.wrap (i3 + 1))
 else
 none
 else
 L2 p (IntKind.i64.wrap (i3 + 1))
 else
 some false
 else
 some false
 else
 some false
 else
 none
 else
 some (decide (((p.length : Int) : Int) ≤ 40))
def Qq.l2 (n : Nat) : Nat → YE → Int → Option Bool
 | 0 => fun _ _ => none
 | k + 1 => Qq.g2 (Qq.l2 n k)
def Qq.top (I2 : YE → Int → Option Bool) (p : List YC) : Option Bool :=
 I2 p 0
def Qq.fn (n : Nat) (p : List YC) : Option Bool := Qq.top (Qq.l2 n n) p
def Qq.f (p : List YC) : Option Bool := Qq.fn NN p
end
end Go.Pl

namespace Go.Pl
open Go.Ev
set_option linter.unusedVariables false
noncomputable section
def Qbe.top (p : List YC) (q : Int) : Option Int :=
 (Qq.f p).bind fun r1 =>
 if (!r1) = true then
 some 1
 else
 (Qaj.f q 0 100000).bind fun r2 =>
 if (!r2) = true then
 some 2
 else
 some 0
def Qbe.fn (n : Nat) (p : List YC) (q : Int) : Option Int := Qbe.top p q
def Qbe.f (p : List YC) (q : Int) : Option Int := Qbe.fn NN p q
end
end Go.Pl

namespace Go.Pl
open Go.Ev
set_option linter.unusedVariables false
noncomputable section
def Qav.top (p : List YC) (q : Int) : Option YK :=
 (Qbe.f p q).bind fun r1 =>
 if ((r1 : Int) != 0) = true then
 some ((false, (false, (false, (false, (false, 0))))), r1)
 else
 (QR.f p q).bind fun r2 =>
 some ((r2.1.1, (r2.1.2.1, (r2.1.2.2.1, (r2.1.2.2.2.1, (r2.1.2.2.2.2.1, r2.1.2.2.2.2.2))))), 0)
def Qav.fn (n : Nat) (p : List YC) (q : Int) : Option YK := Qav.top p q
def Qav.f (p : List YC) (q : Int) : Option YK := Qav.fn NN p q
end
end Go.Pl

namespace Go.Pl
open Go.Ev
set_option linter.unusedVariables false
noncomputable section
def QaY.top (d0 : YD × YE × List YA) (p : Int) : Option YU :=
 (Qav.f d0.2.1 p).bind fun r1 =>
 if r1.1.2.2.2.2.1 = true then
 some ((⟨#[115, 116, 111, 112, 112, 101, 100]⟩ : ByteArray), r1.2)
 else if r1.1.2.2.2.1 = true then
 some ((⟨#[104, 101, 108, 100]⟩ : ByteArray), r1.2)
 else if r1.1.2.2.1 = true then
 some ((⟨#[97, 114, 109, 101, 100]⟩ : ByteArray), r1.2)
 else
 some ((⟨#[111, 102, 102]⟩ : ByteArray), r1.2)
def QaY.fn (n : Nat) (d0 : YD × YE × List YA) (p : Int) : Option YU := QaY.top d0 p
def QaY.f (d0 : YD × YE × List YA) (p : Int) : Option YU := QaY.fn NN d0 p
end
end Go.Pl

namespace Go.Pl
open Go.Ev
set_option linter.unusedVariables false
noncomputable section
def Qah.top (d0 : YD × YE × List YA) (p : List ByteArray) (n2 : List Int) : Option YU :=
 if (0 : Int) ≤ 0 ∧ (0 : Int) < p.length then
 if ((p.getD (0 : Int).toNat ByteArray.empty).toList == (⟨#[99, 108, 101, 97, 114]⟩ : ByteArray).toList) = true then
 if (0 : Int) ≤ 1 ∧ (1 : Int) < p.length then
 if (0 : Int) ≤ 0 ∧ (0 : Int) < n2.length then
 (Qa6.f d0.1 (p.getD (1 : Int).toNat ByteArray.empty) (n2.getD (0 : Int).toNat 0)).bind fun r1 =>
 if r1.1 = true then
 some ((⟨#[121, 101, 115]⟩ : ByteArray), r1.2)
 else
 some ((⟨#[110, 111]⟩ : ByteArray), r1.2)
 else
 none
 else
 none
 else if ((p.getD (0 : Int).toNat ByteArray.empty).toList == (⟨#[115, 116, 97, 116, 101]⟩ : ByteArray).toList) = true then
 if (0 : Int) ≤ 0 ∧ (0 : Int) < n2.length then
 (QaY.f d0 (n2.getD (0 : Int).toNat 0)).bind fun r2 =>
 some (r2.1, r2.2)
 else
 none
 else if ((p.getD (0 : Int).toNat ByteArray.empty).toList == (⟨#[102, 105, 114, 101]⟩ : ByteArray).toList) = true then
 if (0 : Int) ≤ 0 ∧ (0 : Int) < n2.length then
 (Q7.f d0 (n2.getD (0 : Int).toNat 0)).bind fun r3 =>
 some (r3.1, r3.2)
 else
 none
 else if ((p.getD (0 : Int).toNat ByteArray.empty).toList == (⟨#[108, 101, 102, 116]⟩ : ByteArray).toList) = true then
 if (0 : Int) ≤ 1 ∧ (1 : Int) < p.length then
 (QaD.f d0.2.2 (p.getD (1 : Int).toNat ByteArray.empty)).bind fun r4 =>
 (Qf.f r4.1).bind fun r5 =>
 some (r5, r4.2)
 else
 none
 else if ((p.getD (0 : Int).toNat ByteArray.empty).toList == (⟨#[111, 112, 101, 110]⟩ : ByteArray).toList) = true then
 (Q5.f d0.2.2).bind fun r6 =>
 if (((r6.length : Int) : Int) == 0) = true then
 some ((⟨#[45]⟩ : ByteArray), 0)
 else
 (Q3.f r6 (⟨#[44]⟩ : ByteArray)).bind fun r7 =>
 some (r7, 0)
 else if ((p.getD (0 : Int).toNat ByteArray.empty).toList == (⟨#[116, 111, 112]⟩ : ByteArray).toList) = true then
 if (0 : Int) ≤ 0 ∧ (0 : Int) < n2.length then
 (Qbk.f (n2.getD (0 : Int).toNat 0)).bind fun r8 =>
 (Qf.f r8.1).bind fun r9 =>
 if r9.size + (⟨#[32]⟩ : ByteArray).size ≤ 9223372036854775807 then
 (Qf.f r8.2.1).bind fun r10 =>
 if (r9 ++ (⟨#[32]⟩ : ByteArray)).size + r10.size ≤ 9223372036854775807 then
 some ((r9 ++ (⟨#[32]⟩ : ByteArray)) ++ r10, r8.2.2)
 else
 none
 else
 none
 else
 none
 else if ((p.getD (0 : Int).toNat ByteArray.empty).toList == (⟨#[110, 101, 101, 100]⟩ : ByteArray).toList) = true then
 if (0 : Int) ≤ 0 ∧ (0 : Int) < n2.length then
 if (0 : Int) ≤ 1 ∧ (1 : Int) < n2.length then
 (Qaq.f (n2.getD (0 : Int).toNat 0) (n2.getD (1 : Int).toNat 0)).bind fun r11 =>
 (Qf.f r11.1).bind fun r12 =>
 some (r12, r11.2)
 else
 none
 else
 none
 else if (0 : Int) ≤ 0 ∧ (0 : Int) < n2.length then
 (QaV.f (n2.getD (0 : Int).toNat 0)).bind fun r13 =>
 some (r13.1, r13.2)
 else
 none
 else
 none
def Qah.fn (n : Nat) (d0 : YD × YE × List YA) (p : List ByteArray) (n2 : List Int) : Option YU := Qah.top d0 p n2
def Qah.f (d0 : YD × YE × List YA) (p : List ByteArray) (n2 : List Int) : Option YU := Qah.fn NN d0 p n2
end
end Go.Pl

namespace Go.Pl
open Go.Ev
set_option linter.unusedVariables false
noncomputable section
def QM.g5 (L5 : ByteArray → Int → Int → Option YAK) (s0 : ByteArray) (n4 : Int) (i5 : Int) : Option YAK :=
 if (decide ((i5 : Int) < (s0.size : Int))) = true then
 if (0 : Int) ≤ i5 ∧ (i5 : Int) < s0.size then
 if (decide (((bt s0 i5) : Int) < 48)) = false then
 if (0 : Int) ≤ i5 ∧ (i5 : Int) < s0.size then
 if (decide ((57 : Int) < (bt s0 i5))) = true then
 some (0, false)
 else if (0 : Int) ≤ i5 ∧ (i5 : Int) < s0.size then
 L5 s0 (IntKind.i64.wrap ((IntKind.i64.wrap (10 * n4)) + (IntKind.i64.wrap (IntKind.u8.wrap ((bt s0 i5) - 48))))) (IntKind.i64.wrap (i5 + 1))
 else
 none
 else
 none
 else
 some (0, false)
 else
 none
 else
 (Qf.f n4).bind fun r1 =>
 some (n4, r1.toList == s0.toList)
def QM.l5 (n : Nat) : Nat → ByteArray → Int → Int → Option YAK
 | 0 => fun _ _ _ => none
 | k + 1 => QM.g5 (QM.l5 n k)
def QM.top (I5 : ByteArray → Int → Int → Option YAK) (s0 : ByteArray) : Option YAK :=
 if (decide (((s0.size : Int) : Int) < 1)) = false then
 if (decide ((13 : Int) < (s0.size : Int))) = true then
 some (0, false)
 else
 I5 s0 0 0
 else
 some (0, false)
def QM.fn (n : Nat) (s0 : ByteArray) : Option YAK := QM.top (QM.l5 n n) s0
def QM.f (s0 : ByteArray) : Option YAK := QM.fn NN s0
end
end Go.Pl

namespace Go.Pl
open Go.Ev
set_option linter.unusedVariables false
noncomputable section
def QaG.top (s0 : ByteArray) : Option YAK :=
 if (decide ((0 : Int) < (s0.size : Int))) = true then
 if (0 : Int) ≤ 0 ∧ (0 : Int) < s0.size then
 if (((bt s0 0) : Int) == 45) = true then
 if (0 : Int) ≤ 1 ∧ (1 : Int) ≤ s0.size then
 (QM.f (s0.extract (1 : Int).toNat s0.size)).bind fun r1 =>
 if r1.2 = true then
 some (IntKind.i64.wrap (0 - r1.1), decide ((0 : Int) < r1.1))
 else
 some (IntKind.i64.wrap (0 - r1.1), false)
 else
 none
 else
 (QM.f s0).bind fun r2 =>
 some (r2.1, r2.2)
 else
 none
 else
 (QM.f s0).bind fun r3 =>
 some (r3.1, r3.2)
def QaG.fn (n : Nat) (s0 : ByteArray) : Option YAK := QaG.top s0
def QaG.f (s0 : ByteArray) : Option YAK := QaG.fn NN s0
end
end Go.Pl

namespace Go.Pl
open Go.Ev
set_option linter.unusedVariables false
noncomputable section
def QQ.g4 (L4 : YAL) (s0 : ByteArray) (by1 : Int) (p : Int) (i7 : Int) (q : List ByteArray) : Option YJ :=
 if (decide ((i7 : Int) ≤ (s0.size : Int))) = true then
 if ((i7 : Int) == (s0.size : Int)) = false then
 if (0 : Int) ≤ i7 ∧ (i7 : Int) < s0.size then
 if (((bt s0 i7) : Int) == by1) = true then
 if (0 : Int) ≤ p ∧ (p : Int) ≤ i7 ∧ (i7 : Int) ≤ s0.size then
 if q.length + ([s0.extract (p : Int).toNat (i7 : Int).toNat]).length < room 16 then
 L4 s0 by1 (IntKind.i64.wrap (i7 + 1)) (IntKind.i64.wrap (i7 + 1)) (q ++ ([s0.extract (p : Int).toNat (i7 : Int).toNat]))
 else
 none
 else
 none
 else
 L4 s0 by1 p (IntKind.i64.wrap (i7 + 1)) q
 else
 none
 else if (0 : Int) ≤ p ∧ (p : Int) ≤ i7 ∧ (i7 : Int) ≤ s0.size then
 if q.length + ([s0.extract (p : Int).toNat (i7 : Int).toNat]).length < room 16 then
 L4 s0 by1 (IntKind.i64.wrap (i7 + 1)) (IntKind.i64.wrap (i7 + 1)) (q ++ ([s0.extract (p : Int).toNat (i7 : Int).toNat]))
 else
 none
 else
 none
 else
 some q
def QQ.l4 (n : Nat) : Nat → ByteArray → Int → Int → Int → List ByteArray → Option YJ
 | 0 => fun _ _ _ _ _ => none
 | k + 1 => QQ.g4 (QQ.l4 n k)
def QQ.top (I4 : YAL) (s0 : ByteArray) (by1 : Int) : Option YJ :=
 I4 s0 by1 0 0 []
def QQ.fn (n : Nat) (s0 : ByteArray) (by1 : Int) : Option YJ := QQ.top (QQ.l4 n n) s0 by1
def QQ.f (s0 : ByteArray) (by1 : Int) : Option YJ := QQ.fn NN s0 by1
end
end Go.Pl

namespace Go.Pl
open Go.Ev
set_option linter.unusedVariables false
noncomputable section
def QaZ.top (p : ByteArray) : Option ByteArray :=
 if (p.toList == (⟨#[111, 112, 101, 110]⟩ : ByteArray).toList) = true then
 some (⟨#[]⟩ : ByteArray)
 else if (p.toList == (⟨#[115, 116, 97, 116, 101]⟩ : ByteArray).toList) = true then
 if (p.toList == (⟨#[115, 116, 97, 116, 101]⟩ : ByteArray).toList) = true then
 some (⟨#[73]⟩ : ByteArray)
 else if (p.toList == (⟨#[108, 101, 102, 116]⟩ : ByteArray).toList) = true then
 some (⟨#[84]⟩ : ByteArray)
 else if (p.toList == (⟨#[99, 108, 101, 97, 114]⟩ : ByteArray).toList) = true then
 if (p.toList == (⟨#[99, 108, 101, 97, 114]⟩ : ByteArray).toList) = true then
 some (⟨#[84, 73]⟩ : ByteArray)
 else if (p.toList == (⟨#[110, 101, 101, 100]⟩ : ByteArray).toList) = true then
 some (⟨#[73, 73]⟩ : ByteArray)
 else if (p.toList == (⟨#[112, 101, 111, 112, 108, 101]⟩ : ByteArray).toList) = true then
 some (⟨#[84, 73, 74]⟩ : ByteArray)
 else if (p.toList == (⟨#[98, 111, 111, 107]⟩ : ByteArray).toList) = true then
 some (⟨#[84, 84, 73]⟩ : ByteArray)
 else
 some (⟨#[45]⟩ : ByteArray)
 else if (p.toList == (⟨#[115, 105, 103, 110, 97, 108]⟩ : ByteArray).toList) = true then
 some (⟨#[84, 73]⟩ : ByteArray)
 else if (p.toList == (⟨#[110, 101, 101, 100]⟩ : ByteArray).toList) = true then
 some (⟨#[73, 73]⟩ : ByteArray)
 else if (p.toList == (⟨#[112, 101, 111, 112, 108, 101]⟩ : ByteArray).toList) = true then
 some (⟨#[84, 73, 74]⟩ : ByteArray)
 else if (p.toList == (⟨#[98, 111, 111, 107]⟩ : ByteArray).toList) = true then
 some (⟨#[84, 84, 73]⟩ : ByteArray)
 else
 some (⟨#[45]⟩ : ByteArray)
 else if (p.toList == (⟨#[102, 105, 114, 101]⟩ : ByteArray).toList) = true then
 if (p.toList == (⟨#[102, 105, 114, 101]⟩ : ByteArray).toList) = true then
 some (⟨#[73]⟩ : ByteArray)
 else if (p.toList == (⟨#[108, 101, 102, 116]⟩ : ByteArray).toList) = true then
 some (⟨#[84]⟩ : ByteArray)
 else if (p.toList == (⟨#[99, 108, 101, 97, 114]⟩ : ByteArray).toList) = true then
 if (p.toList == (⟨#[99, 108, 101, 97, 114]⟩ : ByteArray).toList) = true then
 some (⟨#[84, 73]⟩ : ByteArray)
 else if (p.toList == (⟨#[110, 101, 101, 100]⟩ : ByteArray).toList) = true then
 some (⟨#[73, 73]⟩ : ByteArray)
 else if (p.toList == (⟨#[112, 101, 111, 112, 108, 101]⟩ : ByteArray).toList) = true then
 some (⟨#[84, 73, 74]⟩ : ByteArray)
 else if (p.toList == (⟨#[98, 111, 111, 107]⟩ : ByteArray).toList) = true then
 some (⟨#[84, 84, 73]⟩ : ByteArray)
 else
 some (⟨#[45]⟩ : ByteArray)
 else if (p.toList == (⟨#[115, 105, 103, 110, 97, 108]⟩ : ByteArray).toList) = true then
 some (⟨#[84, 73]⟩ : ByteArray)
 else if (p.toList == (⟨#[110, 101, 101, 100]⟩ : ByteArray).toList) = true then
 some (⟨#[73, 73]⟩ : ByteArray)
 else if (p.toList == (⟨#[112, 101, 111, 112, 108, 101]⟩ : ByteArray).toList) = true then
 some (⟨#[84, 73, 74]⟩ : ByteArray)
 else if (p.toList == (⟨#[98, 111, 111, 107]⟩ : ByteArray).toList) = true then
 some (⟨#[84, 84, 73]⟩ : ByteArray)
 else
 some (⟨#[45]⟩ : ByteArray)
 else if (p.toList == (⟨#[115, 101, 116, 116, 108, 101]⟩ : ByteArray).toList) = true then
 if (p.toList == (⟨#[115, 101, 116, 116, 108, 101]⟩ : ByteArray).toList) = true then
 some (⟨#[73]⟩ : ByteArray)
 else if (p.toList == (⟨#[108, 101, 102, 116]⟩ : ByteArray).toList) = true then
 some (⟨#[84]⟩ : ByteArray)
 else if (p.toList == (⟨#[99, 108, 101, 97, 114]⟩ : ByteArray).toList) = true then
 if (p.toList == (⟨#[99, 108, 101, 97, 114]⟩ : ByteArray).toList) = true then
 some (⟨#[84, 73]⟩ : ByteArray)
 else if (p.toList == (⟨#[110, 101, 101, 100]⟩ : ByteArray).toList) = true then
 some (⟨#[73, 73]⟩ : ByteArray)
 else if (p.toList == (⟨#[112, 101, 111, 112, 108, 101]⟩ : ByteArray).toList) = true then
 some (⟨#[84, 73, 74]⟩ : ByteArray)
 else if (p.toList == (⟨#[98, 111, 111, 107]⟩ : ByteArray).toList) = true then
 some (⟨#[84, 84, 73]⟩ : ByteArray)
 else
 some (⟨#[45]⟩ : ByteArray)
 else if (p.toList == (⟨#[115, 105, 103, 110, 97, 108]⟩ : ByteArray).toList) = true then
 some (⟨#[84, 73]⟩ : ByteArray)
 else if (p.toList == (⟨#[110, 101, 101, 100]⟩ : ByteArray).toList) = true then
 some (⟨#[73, 73]⟩ : ByteArray)
 else if (p.toList == (⟨#[112, 101, 111, 112, 108, 101]⟩ : ByteArray).toList) = true then
 some (⟨#[84, 73, 74]⟩ : ByteArray)
 else if (p.toList == (⟨#[98, 111, 111, 107]⟩ : ByteArray).toList) = true then
 some (⟨#[84, 84, 73]⟩ : ByteArray)
 else
 some (⟨#[45]⟩ : ByteArray)
 else if (p.toList == (⟨#[116, 111, 112]⟩ : ByteArray).toList) = true then
 if (p.toList == (⟨#[116, 111, 112]⟩ : ByteArray).toList) = true then
 some (⟨#[73]⟩ : ByteArray)
 else if (p.toList == (⟨#[108, 101, 102, 116]⟩ : ByteArray).toList) = true then
 some (⟨#[84]⟩ : ByteArray)
 else if (p.toList == (⟨#[99, 108, 101, 97, 114]⟩ : ByteArray).toList) = true then
 if (p.toList == (⟨#[99, 108, 101, 97, 114]⟩ : ByteArray).toList) = true then
 some (⟨#[84, 73]⟩ : ByteArray)
 else if (p.toList == (⟨#[110, 101, 101, 100]⟩ : ByteArray).toList) = true then
 some (⟨#[73, 73]⟩ : ByteArray)
 else if (p.toList == (⟨#[112, 101, 111, 112, 108, 101]⟩ : ByteArray).toList) = true then
 some (⟨#[84, 73, 74]⟩ : ByteArray)
 else if (p.toList == (⟨#[98, 111, 111, 107]⟩ : ByteArray).toList) = true then
 some (⟨#[84, 84, 73]⟩ : ByteArray)
 else
 some (⟨#[45]⟩ : ByteArray)
 else if (p.toList == (⟨#[115, 105, 103, 110, 97, 108]⟩ : ByteArray).toList) = true then
 some (⟨#[84, 73]⟩ : ByteArray)
 else if (p.toList == (⟨#[110, 101, 101, 100]⟩ : ByteArray).toList) = true then
 some (⟨#[73, 73]⟩ : ByteArray)
 else if (p.toList == (⟨#[112, 101, 111, 112, 108, 101]⟩ : ByteArray).toList) = true then
 some (⟨#[84, 73, 74]⟩ : ByteArray)
 else if (p.toList == (⟨#[98, 111, 111, 107]⟩ : ByteArray).toList) = true then
 some (⟨#[84, 84, 73]⟩ : ByteArray)
 else
 some (⟨#[45]⟩ : ByteArray)
 else if (p.toList == (⟨#[116, 105, 109, 101]⟩ : ByteArray).toList) = true then
 some (⟨#[73]⟩ : ByteArray)
 else if (p.toList == (⟨#[108, 101, 102, 116]⟩ : ByteArray).toList) = true then
 some (⟨#[84]⟩ : ByteArray)
 else if (p.toList == (⟨#[99, 108, 101, 97, 114]⟩ : ByteArray).toList) = true then
 if (p.toList == (⟨#[99, 108, 101, 97, 114]⟩ : ByteArray).toList) = true then
 some (⟨#[84, 73]⟩ : ByteArray)
 else if (p.toList == (⟨#[110, 101, 101, 100]⟩ : ByteArray).toList) = true then
 some (⟨#[73, 73]⟩ : ByteArray)
 else if (p.toList == (⟨#[112, 101, 111, 112, 108, 101]⟩ : ByteArray).toList) = true then
 some (⟨#[84, 73, 74]⟩ : ByteArray)
 else if (p.toList == (⟨#[98, 111, 111, 107]⟩ : ByteArray).toList) = true then
 some (⟨#[84, 84, 73]⟩ : ByteArray)
 else
 some (⟨#[45]⟩ : ByteArray)
 else if (p.toList == (⟨#[115, 105, 103, 110, 97, 108]⟩ : ByteArray).toList) = true then
 some (⟨#[84, 73]⟩ : ByteArray)
 else if (p.toList == (⟨#[110, 101, 101, 100]⟩ : ByteArray).toList) = true then
 some (⟨#[73, 73]⟩ : ByteArray)
 else if (p.toList == (⟨#[112, 101, 111, 112, 108, 101]⟩ : ByteArray).toList) = true then
 some (⟨#[84, 73, 74]⟩ : ByteArray)
 else if (p.toList == (⟨#[98, 111, 111, 107]⟩ : ByteArray).toList) = true then
 some (⟨#[84, 84, 73]⟩ : ByteArray)
 else
 some (⟨#[45]⟩ : ByteArray)
def QaZ.fn (n : Nat) (p : ByteArray) : Option ByteArray := QaZ.top p
def QaZ.f (p : ByteArray) : Option ByteArray := QaZ.fn NN p
end
end Go.Pl

namespace Go.Pl
open Go.Ev
set_option linter.unusedVariables false
noncomputable section
def Qs.g7 (L7 : ByteArray → Int → List ByteArray → List Int → Option YAB) (q : ByteArray) (i8 : Int) (p : List ByteArray) (n7 : List Int) : Option YAB :=
 if (decide ((i8 : Int) < (q.size : Int))) = true then
 if (0 : Int) ≤ i8 ∧ (i8 : Int) < q.size then
 if (((bt q i8) : Int) == 73) = true then
 if (0 : Int) ≤ (IntKind.i64.wrap (i8 + 1)) ∧ ((IntKind.i64.wrap (i8 + 1)) : Int) < p.length then
 (QM.f (p.getD ((IntKind.i64.wrap (i8 + 1)) : Int).toNat ByteArray.empty)).bind fun r3 =>
 if (!r3.2) = true then
 some ([], [], false)
 else if n7.length + ([r3.1]).length < room 8 then
 L7 q (IntKind.i64.wrap (i8 + 1)) p (n7 ++ ([r3.1]))
 else
 none
 else
 none
 else if (((bt q i8) : Int) == 74) = true then
 if (0 : Int) ≤ (IntKind.i64.wrap (i8 + 1)) ∧ ((IntKind.i64.wrap (i8 + 1)) : Int) < p.length then
 (QaG.f (p.getD ((IntKind.i64.wrap (i8 + 1)) : Int).toNat ByteArray.empty)).bind fun r4 =>
 if (!r4.2) = true then
 some ([], [], false)
 else if n7.length + ([r4.1]).length < room 8 then
 L7 q (IntKind.i64.wrap (i8 + 1)) p (n7 ++ ([r4.1]))
 else
 none
 else
 none
 else
 L7 q (IntKind.i64.wrap (i8 + 1)) p n7
 else
 none
 else
 some (p, n7, true)
def Qs.l7 (n : Nat) : Nat → ByteArray → Int → List ByteArray → List Int → Option YAB
 | 0 => fun _ _ _ _ => none
 | k + 1 => Qs.g7 (Qs.l7 n k)
def Qs.top (I7 : ByteArray → Int → List ByteArray → List Int → Option YAB) (r : ByteArray) : Option YAB :=
 (QQ.f r 32).bind fun r1 =>
 if (0 : Int) ≤ 0 ∧ (0 : Int) < r1.length then
 (QaZ.f (r1.getD (0 : Int).toNat ByteArray.empty)).bind fun r2 =>
 if (r2.toList == (⟨#[45]⟩ : ByteArray).toList) = false then
 if (((r1.length : Int) : Int) != (IntKind.i64.wrap ((r2.size : Int) + 1))) = true then
 some ([], [], false)
 else
 I7 r2 0 r1 []
 else
 some ([], [], false)
 else
 none
def Qs.fn (n : Nat) (r : ByteArray) : Option YAB := Qs.top (Qs.l7 n n) r
def Qs.f (r : ByteArray) : Option YAB := Qs.fn NN r
end
end Go.Pl

namespace Go.Pl
open Go.Ev
set_option linter.unusedVariables false
noncomputable section
def Qal.top (p : List YA) (m1 : Int × ByteArray × Int) : Option YW :=
 (QC.f p).bind fun r1 =>
 if (!r1) = true then
 some ([], 1)
 else if (((p.length : Int) : Int) == 40) = true then
 some ([], 3)
 else if ([] : List YA).length + p.length < room 32 then
 if (([] : List YA) ++ p).length + ([m1]).length < room 32 then
 (QC.f ((([] : List YA) ++ p) ++ ([m1]))).bind fun r2 =>
 if (!r2) = true then
 some ([], 5)
 else
 some ((([] : List YA) ++ p) ++ ([m1]), 0)
 else
 none
 else
 none
def Qal.fn (n : Nat) (p : List YA) (m1 : Int × ByteArray × Int) : Option YW := Qal.top p m1
def Qal.f (p : List YA) (m1 : Int × ByteArray × Int) : Option YW := Qal.fn NN p m1
end
end Go.Pl

namespace Go.Pl
open Go.Ev
set_option linter.unusedVariables false
noncomputable section
def Ql.g6 (L6 : YE → Int → YC → Option YZ) (p : List YC) (at6 : Int) (x3 : Int × Int) : Option YZ :=
 if (decide ((0 : Int) < at6)) = true then
 if (0 : Int) ≤ (IntKind.i64.wrap (at6 - 1)) ∧ ((IntKind.i64.wrap (at6 - 1)) : Int) < p.length then
 if (decide ((x3.1 : Int) < ((p.getD ((IntKind.i64.wrap (at6 - 1)) : Int).toNat (0, 0)).1))) = true then
 L6 p (IntKind.i64.wrap (at6 - 1)) x3
 else if (0 : Int) ≤ at6 ∧ (at6 : Int) ≤ p.length then
 if (0 : Int) ≤ at6 ∧ (at6 : Int) ≤ p.length then
 if ([] : List YC).length + (p.take (at6 : Int).toNat).length < room 16 then
 if (([] : List YC) ++ (p.take (at6 : Int).toNat)).length + ([x3]).length < room 16 then
 if ((([] : List YC) ++ (p.take (at6 : Int).toNat)) ++ ([x3])).length + (p.drop (at6 : Int).toNat).length < room 16 then
 (Qq.f (((([] : List YC) ++ (p.take (at6 : Int).toNat)) ++ ([x3])) ++ (p.drop (at6 : Int).toNat))).bind fun r2 =>
 if (!r2) = true then
 some ([], 5)
 else
 some (((([] : List YC) ++ (p.take (at6 : Int).toNat)) ++ ([x3])) ++ (p.drop (at6 : Int).toNat), 0)
 else
 none
 else
 none
 else
 none
 else
 none
 else
 none
 else
 none
 else if (0 : Int) ≤ at6 ∧ (at6 : Int) ≤ p.length then
 if (0 : Int) ≤ at6 ∧ (at6 : Int) ≤ p.length then
 if ([] : List YC).length + (p.take (at6 : Int).toNat).length < room 16 then
 if (([] : List YC) ++ (p.take (at6 : Int).toNat)).length + ([x3]).length < room 16 then
 if ((([] : List YC) ++ (p.take (at6 : Int).toNat)) ++ ([x3])).length + (p.drop (at6 : Int).toNat).length < room 16 then
 (Qq.f (((([] : List YC) ++ (p.take (at6 : Int).toNat)) ++ ([x3])) ++ (p.drop (at6 : Int).toNat))).bind fun r3 =>
 if (!r3) = true then
 some ([], 5)
 else
 some (((([] : List YC) ++ (p.take (at6 : Int).toNat)) ++ ([x3])) ++ (p.drop (at6 : Int).toNat), 0)
 else
 none
 else
 none
 else
 none
 else
 none
 else
 none
def Ql.l6 (n : Nat) : Nat → YE → Int → YC → Option YZ
 | 0 => fun _ _ _ => none
 | k + 1 => Ql.g6 (Ql.l6 n k)
def Ql.top (I6 : YE → Int → YC → Option YZ) (p : List YC) (x1 : Int × Int) : Option YZ :=
 (Qq.f p).bind fun r1 =>
 if (!r1) = true then
 some ([], 1)
 else if (((p.length : Int) : Int) == 40) = true then
 some ([], 3)
 else
 I6 p (p.length : Int) x1
def Ql.fn (n : Nat) (p : List YC) (x1 : Int × Int) : Option YZ := Ql.top (Ql.l6 n n) p x1
def Ql.f (p : List YC) (x1 : Int × Int) : Option YZ := Ql.fn NN p x1
end
end Go.Pl

namespace Go.Pl
open Go.Ev
set_option linter.unusedVariables false
noncomputable section
def Qz.top (p : List YA) (b1 : Int × ByteArray × Int) : Option YW :=
 (Qi.f p).bind fun r1 =>
 if (!r1) = true then
 some ([], 1)
 else if (((p.length : Int) : Int) == 60) = true then
 some ([], 3)
 else if ([] : List YA).length + p.length < room 32 then
 if (([] : List YA) ++ p).length + ([b1]).length < room 32 then
 (Qi.f ((([] : List YA) ++ p) ++ ([b1]))).bind fun r2 =>
 if (!r2) = true then
 some ([], 5)
 else
 some ((([] : List YA) ++ p) ++ ([b1]), 0)
 else
 none
 else
 none
def Qz.fn (n : Nat) (p : List YA) (b1 : Int × ByteArray × Int) : Option YW := Qz.top p b1
def Qz.f (p : List YA) (b1 : Int × ByteArray × Int) : Option YW := Qz.fn NN p b1
end
end Go.Pl

namespace Go.Pl
open Go.Ev
set_option linter.unusedVariables false
noncomputable section
def QaS.top (p : List YA) : Option Int :=
 if (decide ((60 : Int) < (p.length : Int))) = true then
 some 3
 else
 (Qi.f p).bind fun r1 =>
 if (!r1) = true then
 some 5
 else
 some 0
def QaS.fn (n : Nat) (p : List YA) : Option Int := QaS.top p
def QaS.f (p : List YA) : Option Int := QaS.fn NN p
end
end Go.Pl

namespace Go.Pl
open Go.Ev
set_option linter.unusedVariables false
noncomputable section
def QI.g8 (L8 : YD → Int → Int → YD → List ByteArray → Option YW) (p : List YA) (q : Int) (i8 : Int) (s : List YA) (r : List ByteArray) : Option YW :=
 if (decide ((i8 : Int) < (r.length : Int))) = true then
 if (0 : Int) ≤ i8 ∧ (i8 : Int) < r.length then
 if (0 : Int) ≤ i8 ∧ (i8 : Int) < r.length then
 (QJ.f p (r.getD (i8 : Int).toNat ByteArray.empty) (p.length : Int)).bind fun r4 =>
 if s.length + ([(q, (r.getD (i8 : Int).toNat ByteArray.empty, r4))]).length < room 32 then
 L8 p q (IntKind.i64.wrap (i8 + 1)) (s ++ ([(q, (r.getD (i8 : Int).toNat ByteArray.empty, r4))])) r
 else
 none
 else
 none
 else
 none
 else
 (QaS.f s).bind fun r5 =>
 if ((r5 : Int) != 0) = true then
 some ([], r5)
 else
 some (s, 0)
def QI.l8 (n : Nat) : Nat → YD → Int → Int → YD → List ByteArray → Option YW
 | 0 => fun _ _ _ _ _ => none
 | k + 1 => QI.g8 (QI.l8 n k)
def QI.top (I8 : YD → Int → Int → YD → List ByteArray → Option YW) (p : List YA) (q : Int) : Option YW :=
 (Qi.f p).bind fun r1 =>
 if (!r1) = true then
 some ([], 1)
 else
 (Qaj.f q 1 3).bind fun r2 =>
 if (!r2) = true then
 some ([], 2)
 else if ([] : List YA).length + p.length < room 32 then
 (Q5.f p).bind fun r3 =>
 I8 p q 0 (([] : List YA) ++ p) r3
 else
 none
def QI.fn (n : Nat) (p : List YA) (q : Int) : Option YW := QI.top (QI.l8 n n) p q
def QI.f (p : List YA) (q : Int) : Option YW := QI.fn NN p q
end
end Go.Pl

namespace Go.Pl
open Go.Ev
set_option linter.unusedVariables false
noncomputable section
def QaP.top  : Option YJ :=
 some ([(⟨#[107, 101, 121, 97]⟩ : ByteArray), (⟨#[107, 101, 121, 98]⟩ : ByteArray), (⟨#[97, 114, 109]⟩ : ByteArray), (⟨#[100, 105, 115, 97, 114, 109]⟩ : ByteArray), (⟨#[104, 111, 108, 100]⟩ : ByteArray), (⟨#[114, 101, 115, 117, 109, 101]⟩ : ByteArray), (⟨#[115, 116, 111, 112]⟩ : ByteArray), (⟨#[112, 114, 101, 115, 115]⟩ : ByteArray), (⟨#[116, 105, 99, 107]⟩ : ByteArray), (⟨#[114, 101, 115, 101, 116]⟩ : ByteArray)])
def QaP.fn (n : Nat)  : Option YJ := QaP.top 
def QaP.f  : Option YJ := QaP.fn NN 
end
end Go.Pl

namespace Go.Pl
open Go.Ev
set_option linter.unusedVariables false
noncomputable section
def QV.g2 (L2 : List ByteArray → ByteArray → Int → Option Int) (p : List ByteArray) (q : ByteArray) (i5 : Int) : Option Int :=
 if (decide ((i5 : Int) < (p.length : Int))) = true then
 if (0 : Int) ≤ i5 ∧ (i5 : Int) < p.length then
 if ((p.getD (i5 : Int).toNat ByteArray.empty).toList == q.toList) = true then
 some i5
 else
 L2 p q (IntKind.i64.wrap (i5 + 1))
 else
 none
 else
 some (-1)
def QV.l2 (n : Nat) : Nat → List ByteArray → ByteArray → Int → Option Int
 | 0 => fun _ _ _ => none
 | k + 1 => QV.g2 (QV.l2 n k)
def QV.top (I2 : List ByteArray → ByteArray → Int → Option Int) (p : List ByteArray) (q : ByteArray) : Option Int :=
 I2 p q 0
def QV.fn (n : Nat) (p : List ByteArray) (q : ByteArray) : Option Int := QV.top (QV.l2 n n) p q
def QV.f (p : List ByteArray) (q : ByteArray) : Option Int := QV.fn NN p q
end
end Go.Pl

namespace Go.Pl
open Go.Ev
set_option linter.unusedVariables false
noncomputable section
def Qam.top (d0 : YD × YE × List YA) (p : List ByteArray) (n2 : List Int) : Option (YF × Int) :=
 if (0 : Int) ≤ 0 ∧ (0 : Int) < p.length then
 if ((p.getD (0 : Int).toNat ByteArray.empty).toList == (⟨#[112, 101, 111, 112, 108, 101]⟩ : ByteArray).toList) = true then
 if (0 : Int) ≤ 0 ∧ (0 : Int) < n2.length then
 if (0 : Int) ≤ 1 ∧ (1 : Int) < p.length then
 if (0 : Int) ≤ 1 ∧ (1 : Int) < n2.length then
 (Qal.f d0.1 (n2.getD (0 : Int).toNat 0, (p.getD (1 : Int).toNat ByteArray.empty, n2.getD (1 : Int).toNat 0))).bind fun r1 =>
 if ((r1.2 : Int) == 0) = true then
 some ((r1.1, d0.2), r1.2)
 else
 some (d0, r1.2)
 else
 none
 else
 none
 else
 none
 else if ((p.getD (0 : Int).toNat ByteArray.empty).toList == (⟨#[115, 105, 103, 110, 97, 108]⟩ : ByteArray).toList) = true then
 if (0 : Int) ≤ 1 ∧ (1 : Int) < p.length then
 (QaP.f).bind fun r2 =>
 (QV.f r2 (p.getD (1 : Int).toNat ByteArray.empty)).bind fun r3 =>
 if (decide ((r3 : Int) < 0)) = true then
 some (d0, 6)
 else if (0 : Int) ≤ 0 ∧ (0 : Int) < n2.length then
 (Ql.f d0.2.1 (n2.getD (0 : Int).toNat 0, r3)).bind fun r4 =>
 if ((r4.2 : Int) == 0) = true then
 some ((d0.1, (r4.1, d0.2.2)), r4.2)
 else
 some (d0, r4.2)
 else
 none
 else
 none
 else if ((p.getD (0 : Int).toNat ByteArray.empty).toList == (⟨#[98, 111, 111, 107]⟩ : ByteArray).toList) = true then
 if (0 : Int) ≤ 1 ∧ (1 : Int) < p.length then
 (QV.f ([(⟨#[105, 110]⟩ : ByteArray), (⟨#[102, 105, 114, 101, 100]⟩ : ByteArray), (⟨#[114, 101, 116, 117, 114, 110, 101, 100]⟩ : ByteArray), (⟨#[100, 101, 115, 116, 114, 111, 121, 101, 100]⟩ : ByteArray)]) (p.getD (1 : Int).toNat ByteArray.empty)).bind fun r5 =>
 if (decide ((r5 : Int) < 0)) = true then
 some (d0, 6)
 else if (0 : Int) ≤ 2 ∧ (2 : Int) < p.length then
 if (0 : Int) ≤ 0 ∧ (0 : Int) < n2.length then
 (Qz.f d0.2.2 (r5, (p.getD (2 : Int).toNat ByteArray.empty, n2.getD (0 : Int).toNat 0))).bind fun r6 =>
 if ((r6.2 : Int) == 0) = true then
 some ((d0.1, (d0.2.1, r6.1)), r6.2)
 else
 some (d0, r6.2)
 else
 none
 else
 none
 else
 none
 else if (0 : Int) ≤ 0 ∧ (0 : Int) < n2.length then
 (QI.f d0.2.2 (n2.getD (0 : Int).toNat 0)).bind fun r7 =>
 if ((r7.2 : Int) == 0) = true then
 some ((d0.1, (d0.2.1, r7.1)), r7.2)
 else
 some (d0, r7.2)
 else
 none
 else
 none
def Qam.fn (n : Nat) (d0 : YD × YE × List YA) (p : List ByteArray) (n2 : List Int) : Option (YF × Int) := Qam.top d0 p n2
def Qam.f (d0 : YD × YE × List YA) (p : List ByteArray) (n2 : List Int) : Option (YF × Int) := Qam.fn NN d0 p n2
end
end Go.Pl

namespace Go.Pl
open Go.Ev
set_option linter.unusedVariables false
noncomputable section
def QF.top (d0 : YD × YE × List YA) (p : ByteArray) : Option YAN :=
 (Qs.f p).bind fun r1 =>
 if (!r1.2.2) = true then
 (Qf.f 6).bind fun r2 =>
 if (⟨#[101, 114, 114, 111, 114, 32]⟩ : ByteArray).size + r2.size ≤ 9223372036854775807 then
 some (d0, (⟨#[101, 114, 114, 111, 114, 32]⟩ : ByteArray) ++ r2)
 else
 none
 else if (0 : Int) ≤ 0 ∧ (0 : Int) < r1.1.length then
 if ((r1.1.getD (0 : Int).toNat ByteArray.empty).toList == (⟨#[112, 101, 111, 112, 108, 101]⟩ : ByteArray).toList) = true then
 if ((r1.1.getD (0 : Int).toNat ByteArray.empty).toList == (⟨#[112, 101, 111, 112, 108, 101]⟩ : ByteArray).toList) = true then
 (Qam.f d0 r1.1 r1.2.1).bind fun r3 =>
 if ((r3.2 : Int) != 0) = true then
 (Qf.f r3.2).bind fun r4 =>
 if (⟨#[101, 114, 114, 111, 114, 32]⟩ : ByteArray).size + r4.size ≤ 9223372036854775807 then
 some (d0, (⟨#[101, 114, 114, 111, 114, 32]⟩ : ByteArray) ++ r4)
 else
 none
 else
 some (r3.1, (⟨#[111, 107]⟩ : ByteArray))
 else
 (Qah.f d0 r1.1 r1.2.1).bind fun r5 =>
 if ((r5.2 : Int) != 0) = true then
 (Qf.f r5.2).bind fun r6 =>
 if (⟨#[101, 114, 114, 111, 114, 32]⟩ : ByteArray).size + r6.size ≤ 9223372036854775807 then
 some (d0, (⟨#[101, 114, 114, 111, 114, 32]⟩ : ByteArray) ++ r6)
 else
 none
 else
 some (d0, r5.1)
 else if ((r1.1.getD (0 : Int).toNat ByteArray.empty).toList == (⟨#[115, 105, 103, 110, 97, 108]⟩ : ByteArray).toList) = true then
 if ((r1.1.getD (0 : Int).toNat ByteArray.empty).toList == (⟨#[115, 105, 103, 110, 97, 108]⟩ : ByteArray).toList) = true then
 (Qam.f d0 r1.1 r1.2.1).bind fun r7 =>
 if ((r7.2 : Int) != 0) = true then
 (Qf.f r7.2).bind fun r8 =>
 if (⟨#[101, 114, 114, 111, 114, 32]⟩ : ByteArray).size + r8.size ≤ 9223372036854775807 then
 some (d0, (⟨#[101, 114, 114, 111, 114, 32]⟩ : ByteArray) ++ r8)
 else
 none
 else
 some (r7.1, (⟨#[111, 107]⟩ : ByteArray))
 else
 (Qah.f d0 r1.1 r1.2.1).bind fun r9 =>
 if ((r9.2 : Int) != 0) = true then
 (Qf.f r9.2).bind fun r10 =>
 if (⟨#[101, 114, 114, 111, 114, 32]⟩ : ByteArray).size + r10.size ≤ 9223372036854775807 then
 some (d0, (⟨#[101, 114, 114, 111, 114, 32]⟩ : ByteArray) ++ r10)
 else
 none
 else
 some (d0, r9.1)
 else if ((r1.1.getD (0 : Int).toNat ByteArray.empty).toList == (⟨#[98, 111, 111, 107]⟩ : ByteArray).toList) = true then
 if ((r1.1.getD (0 : Int).toNat ByteArray.empty).toList == (⟨#[98, 111, 111, 107]⟩ : ByteArray).toList) = true then
 (Qam.f d0 r1.1 r1.2.1).bind fun r11 =>
 if ((r11.2 : Int) != 0) = true then
 (Qf.f r11.2).bind fun r12 =>
 if (⟨#[101, 114, 114, 111, 114, 32]⟩ : ByteArray).size + r12.size ≤ 9223372036854775807 then
 some (d0, (⟨#[101, 114, 114, 111, 114, 32]⟩ : ByteArray) ++ r12)
 else
 none
 else
 some (r11.1, (⟨#[111, 107]⟩ : ByteArray))
 else
 (Qah.f d0 r1.1 r1.2.1).bind fun r13 =>
 if ((r13.2 : Int) != 0) = true then
 (Qf.f r13.2).bind fun r14 =>
 if (⟨#[101, 114, 114, 111, 114, 32]⟩ : ByteArray).size + r14.size ≤ 9223372036854775807 then
 some (d0, (⟨#[101, 114, 114, 111, 114, 32]⟩ : ByteArray) ++ r14)
 else
 none
 else
 some (d0, r13.1)
 else if ((r1.1.getD (0 : Int).toNat ByteArray.empty).toList == (⟨#[115, 101, 116, 116, 108, 101]⟩ : ByteArray).toList) = true then
 (Qam.f d0 r1.1 r1.2.1).bind fun r15 =>
 if ((r15.2 : Int) != 0) = true then
 (Qf.f r15.2).bind fun r16 =>
 if (⟨#[101, 114, 114, 111, 114, 32]⟩ : ByteArray).size + r16.size ≤ 9223372036854775807 then
 some (d0, (⟨#[101, 114, 114, 111, 114, 32]⟩ : ByteArray) ++ r16)
 else
 none
 else
 some (r15.1, (⟨#[111, 107]⟩ : ByteArray))
 else
 (Qah.f d0 r1.1 r1.2.1).bind fun r17 =>
 if ((r17.2 : Int) != 0) = true then
 (Qf.f r17.2).bind fun r18 =>
 if (⟨#[101, 114, 114, 111, 114, 32]⟩ : ByteArray).size + r18.size ≤ 9223372036854775807 then
 some (d0, (⟨#[101, 114, 114, 111, 114, 32]⟩ : ByteArray) ++ r18)
 else
 none
 else
 some (d0, r17.1)
 else
 none
def QF.fn (n : Nat) (d0 : YD × YE × List YA) (p : ByteArray) : Option YAN := QF.top d0 p
def QF.f (d0 : YD × YE × List YA) (p : ByteArray) : Option YAN := QF.fn NN d0 p
end
end Go.Pl

namespace Go.Pl
open Go.Ev
set_option linter.unusedVariables false
noncomputable section
def QN.g4 (L4 : YY) (p : List ByteArray) (i6 : Int) (d4 : YD × YE × List YA) (q : List ByteArray) (w3 : List YA) (w4 : List YC) (w5 : List YA) : Option YX :=
 if (decide ((i6 : Int) < (p.length : Int))) = true then
 if (0 : Int) ≤ i6 ∧ (i6 : Int) < p.length then
 (QF.f d4 (p.getD (i6 : Int).toNat ByteArray.empty)).bind fun r2 =>
 if q.length + ([r2.2]).length < room 16 then
 L4 p (IntKind.i64.wrap (i6 + 1)) r2.1 (q ++ ([r2.2])) w3 w4 w5
 else
 none
 else
 none
 else
 some (d4, q)
def QN.l4 (n : Nat) : Nat → List ByteArray → Int → YF → List ByteArray → YD → YE → YD → Option YX
 | 0 => fun _ _ _ _ _ _ _ => none
 | k + 1 => QN.g4 (QN.l4 n k)
def QN.top (I4 : YY) (p : List ByteArray) : Option YX :=
 (Qbf.f).bind fun r1 =>
 I4 p 0 (r1.1, (r1.2.1, r1.2.2)) [] [] [] []
def QN.fn (n : Nat) (p : List ByteArray) : Option YX := QN.top (QN.l4 n n) p
def QN.f (p : List ByteArray) : Option YX := QN.fn NN p
end
end Go.Pl

namespace Go.Pl
open Go.Ev
set_option linter.unusedVariables false
noncomputable section
def QaF.top (p : ByteArray) : Option YJ :=
 (QQ.f p 10).bind fun r1 =>
 if (0 : Int) ≤ (IntKind.i64.wrap ((r1.length : Int) - 1)) ∧ ((IntKind.i64.wrap ((r1.length : Int) - 1)) : Int) < r1.length then
 if ((r1.getD ((IntKind.i64.wrap ((r1.length : Int) - 1)) : Int).toNat ByteArray.empty).toList == (⟨#[]⟩ : ByteArray).toList) = true then
 if (0 : Int) ≤ (IntKind.i64.wrap ((r1.length : Int) - 1)) ∧ ((IntKind.i64.wrap ((r1.length : Int) - 1)) : Int) ≤ r1.length then
 some (r1.take ((IntKind.i64.wrap ((r1.length : Int) - 1)) : Int).toNat)
 else
 none
 else
 some r1
 else
 none
def QaF.fn (n : Nat) (p : ByteArray) : Option YJ := QaF.top p
def QaF.f (p : ByteArray) : Option YJ := QaF.fn NN p
end
end Go.Pl

namespace Go.Pl
open Go.Ev
set_option linter.unusedVariables false
noncomputable section
def Qa4.top (p : ByteArray) : Option Bool :=
 if (decide (((p.size : Int) : Int) ≤ 1500)) = true then
 (QaF.f p).bind fun r1 =>
 some (decide (((r1.length : Int) : Int) ≤ 40))
 else
 some false
def Qa4.fn (n : Nat) (p : ByteArray) : Option Bool := Qa4.top p
def Qa4.f (p : ByteArray) : Option Bool := Qa4.fn NN p
end
end Go.Pl

namespace Go.Pl
open Go.Ev
set_option linter.unusedVariables false
noncomputable section
def QaC.top (p : ByteArray) : Option (YF × Int) :=
 (Qa4.f p).bind fun r1 =>
 if (!r1) = true then
 some (([], ([], [])), 3)
 else
 (QaF.f p).bind fun r2 =>
 (QN.f r2).bind fun r3 =>
 some (r3.1, 0)
def QaC.fn (n : Nat) (p : ByteArray) : Option (YF × Int) := QaC.top p
def QaC.f (p : ByteArray) : Option (YF × Int) := QaC.fn NN p
end
end Go.Pl

namespace Go.Pl
open Go.Ev
set_option linter.unusedVariables false
noncomputable section
def QW.g3 (L3 : List Int → Int → List Int → Int → Int → Option YI) (p : List Int) (i4 : Int) (s3a : List Int) (q : Int) (r : Int) : Option YI :=
 if (decide ((i4 : Int) < (p.length : Int))) = true then
 if (decide ((i4 : Int) < 64)) = true then
 if (0 : Int) ≤ i4 ∧ (i4 : Int) < p.length then
 L3 p (IntKind.i64.wrap (i4 + 1)) s3a q (Int.tmod (IntKind.i64.wrap ((IntKind.i64.wrap (r * 83)) + (IntKind.i64.wrap (p.getD (i4 : Int).toNat 0)))) 2147483647)
 else
 none
 else
 some (s3a, (q, r))
 else
 some (s3a, (q, r))
def QW.l3 (n : Nat) : Nat → List Int → Int → List Int → Int → Int → Option YI
 | 0 => fun _ _ _ _ _ => none
 | k + 1 => QW.g3 (QW.l3 n k)
def QW.top (I3 : List Int → Int → List Int → Int → Int → Option YI) (p : List Int) : Option YI :=
 I3 p 0 p 0 61043
def QW.fn (n : Nat) (p : List Int) : Option YI := QW.top (QW.l3 n n) p
def QW.f (p : List Int) : Option YI := QW.fn NN p
end
end Go.Pl

namespace Go.Pl
open Go.Ev
set_option linter.unusedVariables false
noncomputable section
def Qd.top (s0 : List Int × Int × Int) (n1 : Int) : Option YR :=
 if (decide ((n1 : Int) ≤ 1)) = true then
 some (0, s0)
 else if (decide ((s0.2.1 : Int) < (s0.1.length : Int))) = true then
 if (0 : Int) ≤ s0.2.1 ∧ (s0.2.1 : Int) < s0.1.length then
 if (decide ((n1 : Int) ≤ 256)) = true then
 if (((Int.tmod (IntKind.i64.wrap (s0.2.1 + 1)) 2) : Int) == 0) = true then
 if (0 : Int) ≤ (IntKind.i64.wrap ((IntKind.i64.wrap (s0.2.1 + 1)) - 1)) ∧ ((IntKind.i64.wrap ((IntKind.i64.wrap (s0.2.1 + 1)) - 1)) : Int) < s0.1.length then
 if n1 = 0 then
 none
 else
 some (Int.tmod (IntKind.i64.wrap (s0.1.getD ((IntKind.i64.wrap ((IntKind.i64.wrap (s0.2.1 + 1)) - 1)) : Int).toNat 0)) n1, (s0.1, (IntKind.i64.wrap (s0.2.1 + 1), Int.tmod (IntKind.i64.wrap ((IntKind.i64.wrap (s0.2.2 * 48271)) + 29)) 2147483647)))
 else
 none
 else if n1 = 0 then
 none
 else
 some (Int.tmod (IntKind.i64.wrap ((IntKind.i64.wrap (Int.tdiv (Int.tmod (IntKind.i64.wrap ((IntKind.i64.wrap (s0.2.2 * 48271)) + 29)) 2147483647) 31)) + (IntKind.i64.wrap (s0.1.getD (s0.2.1 : Int).toNat 0)))) n1, (s0.1, (IntKind.i64.wrap (s0.2.1 + 1), Int.tmod (IntKind.i64.wrap ((IntKind.i64.wrap (s0.2.2 * 48271)) + 29)) 2147483647)))
 else if n1 = 0 then
 none
 else
 some (Int.tmod (IntKind.i64.wrap ((IntKind.i64.wrap (Int.tdiv (Int.tmod (IntKind.i64.wrap ((IntKind.i64.wrap (s0.2.2 * 48271)) + 29)) 2147483647) 31)) + (IntKind.i64.wrap (s0.1.getD (s0.2.1 : Int).toNat 0)))) n1, (s0.1, (IntKind.i64.wrap (s0.2.1 + 1), Int.tmod (IntKind.i64.wrap ((IntKind.i64.wrap (s0.2.2 * 48271)) + 29)) 2147483647)))
 else
 none
 else if n1 = 0 then
 none
 else
 some (Int.tmod (IntKind.i64.wrap (Int.tdiv (Int.tmod (IntKind.i64.wrap ((IntKind.i64.wrap (s0.2.2 * 48271)) + 29)) 2147483647) 31)) n1, (s0.1, (s0.2.1, Int.tmod (IntKind.i64.wrap ((IntKind.i64.wrap (s0.2.2 * 48271)) + 29)) 2147483647)))
def Qd.fn (n : Nat) (s0 : List Int × Int × Int) (n1 : Int) : Option YR := Qd.top s0 n1
def Qd.f (s0 : List Int × Int × Int) (n1 : Int) : Option YR := Qd.fn NN s0 n1
end
end Go.Pl

namespace Go.Pl
open Go.Ev
set_option linter.unusedVariables false
noncomputable section
def Qao.top (s0 : List Int × Int × Int) (t1 : ByteArray) : Option YG :=
 (Qd.f s0 (IntKind.i64.wrap ((t1.size : Int) + 1))).bind fun r1 =>
 (Qd.f r1.2 8).bind fun r2 =>
 if ((r2.1 : Int) == 0) = true then
 if (0 : Int) ≤ r1.1 ∧ (r1.1 : Int) ≤ t1.size then
 some (t1.extract 0 (r1.1 : Int).toNat, r2.2)
 else
 none
 else if ((r2.1 : Int) == 1) = true then
 if (0 : Int) ≤ r1.1 ∧ (r1.1 : Int) ≤ t1.size then
 if (0 : Int) ≤ r1.1 ∧ (r1.1 : Int) ≤ t1.size then
 (Qd.f r2.2 8).bind fun r3 =>
 if (0 : Int) ≤ r3.1 ∧ (r3.1 : Int) < ([(⟨#[48]⟩ : ByteArray), (⟨#[35]⟩ : ByteArray), (⟨#[46]⟩ : ByteArray), (⟨#[47]⟩ : ByteArray), (⟨#[32]⟩ : ByteArray), (⟨#[97]⟩ : ByteArray), (⟨#[45]⟩ : ByteArray), (⟨#[10]⟩ : ByteArray)]).length then
 if (t1.extract 0 (r1.1 : Int).toNat).size + (([(⟨#[48]⟩ : ByteArray), (⟨#[35]⟩ : ByteArray), (⟨#[46]⟩ : ByteArray), (⟨#[47]⟩ : ByteArray), (⟨#[32]⟩ : ByteArray), (⟨#[97]⟩ : ByteArray), (⟨#[45]⟩ : ByteArray), (⟨#[10]⟩ : ByteArray)]).getD (r3.1 : Int).toNat ByteArray.empty).size ≤ 9223372036854775807 then
 if ((t1.extract 0 (r1.1 : Int).toNat) ++ (([(⟨#[48]⟩ : ByteArray), (⟨#[35]⟩ : ByteArray), (⟨#[46]⟩ : ByteArray), (⟨#[47]⟩ : ByteArray), (⟨#[32]⟩ : ByteArray), (⟨#[97]⟩ : ByteArray), (⟨#[45]⟩ : ByteArray), (⟨#[10]⟩ : ByteArray)]).getD (r3.1 : Int).toNat ByteArray.empty)).size + (t1.extract (r1.1 : Int).toNat t1.size).size ≤ 9223372036854775807 then
 some (((t1.extract 0 (r1.1 : Int).toNat) ++ (([(⟨#[48]⟩ : ByteArray), (⟨#[35]⟩ : ByteArray), (⟨#[46]⟩ : ByteArray), (⟨#[47]⟩ : ByteArray), (⟨#[32]⟩ : ByteArray), (⟨#[97]⟩ : ByteArray), (⟨#[45]⟩ : ByteArray), (⟨#[10]⟩ : ByteArray)]).getD (r3.1 : Int).toNat ByteArray.empty)) ++ (t1.extract (r1.1 : Int).toNat t1.size), r3.2)
 else
 none
 else
 none
 else
 none
 else
 none
 else
 none
 else if ((r2.1 : Int) == 2) = true then
 if (decide ((r1.1 : Int) < (t1.size : Int))) = true then
 if (0 : Int) ≤ r1.1 ∧ (r1.1 : Int) ≤ t1.size then
 if (0 : Int) ≤ (IntKind.i64.wrap (r1.1 + 1)) ∧ ((IntKind.i64.wrap (r1.1 + 1)) : Int) ≤ t1.size then
 if (t1.extract 0 (r1.1 : Int).toNat).size + (t1.extract ((IntKind.i64.wrap (r1.1 + 1)) : Int).toNat t1.size).size ≤ 9223372036854775807 then
 some ((t1.extract 0 (r1.1 : Int).toNat) ++ (t1.extract ((IntKind.i64.wrap (r1.1 + 1)) : Int).toNat t1.size), r2.2)
 else
 none
 else
 none
 else
 none
 else
 some (t1, r2.2)
 else
 some (t1, r2.2)
def Qao.fn (n : Nat) (s0 : List Int × Int × Int) (t1 : ByteArray) : Option YG := Qao.top s0 t1
def Qao.f (s0 : List Int × Int × Int) (t1 : ByteArray) : Option YG := Qao.fn NN s0 t1
end
end Go.Pl

namespace Go.Pl
open Go.Ev
set_option linter.unusedVariables false
noncomputable section
def QaL.top (n0 : Int) : Option ByteArray :=
 if (decide ((n0 : Int) < 0)) = true then
 (Qf.f (IntKind.i64.wrap (0 - n0))).bind fun r1 =>
 if (⟨#[45]⟩ : ByteArray).size + r1.size ≤ 9223372036854775807 then
 some ((⟨#[45]⟩ : ByteArray) ++ r1)
 else
 none
 else
 (Qf.f n0).bind fun r2 =>
 some r2
def QaL.fn (n : Nat) (n0 : Int) : Option ByteArray := QaL.top n0
def QaL.f (n0 : Int) : Option ByteArray := QaL.fn NN n0
end
end Go.Pl

namespace Go.Pl
open Go.Ev
set_option linter.unusedVariables false
noncomputable section
def Qae.top (s0 : List Int × Int × Int) (p : List Int) : Option YR :=
 (Qd.f s0 (p.length : Int)).bind fun r1 =>
 if (0 : Int) ≤ r1.1 ∧ (r1.1 : Int) < p.length then
 some (p.getD (r1.1 : Int).toNat 0, r1.2)
 else
 none
def Qae.fn (n : Nat) (s0 : List Int × Int × Int) (p : List Int) : Option YR := Qae.top s0 p
def Qae.f (s0 : List Int × Int × Int) (p : List Int) : Option YR := Qae.fn NN s0 p
end
end Go.Pl

namespace Go.Pl
open Go.Ev
set_option linter.unusedVariables false
noncomputable section
def QaQ.top  : Option YJ :=
 some ([(⟨#[97, 115, 116, 101, 114]⟩ : ByteArray), (⟨#[99, 111, 109, 101, 116]⟩ : ByteArray), (⟨#[100, 97, 104, 108, 105, 97]⟩ : ByteArray), (⟨#[112, 97, 108, 109]⟩ : ByteArray), (⟨#[112, 101, 111, 110, 121]⟩ : ByteArray), (⟨#[119, 105, 108, 108, 111, 119]⟩ : ByteArray)])
def QaQ.fn (n : Nat)  : Option YJ := QaQ.top 
def QaQ.f  : Option YJ := QaQ.fn NN 
end
end Go.Pl

namespace Go.Pl
open Go.Ev
set_option linter.unusedVariables false
noncomputable section
def QaH.top (s0 : List Int × Int × Int) : Option YG :=
 (Qd.f s0 3).bind fun r1 =>
 if (0 : Int) ≤ r1.1 ∧ (r1.1 : Int) < ([(⟨#[98, 97, 110, 107]⟩ : ByteArray), (⟨#[102, 105, 101, 108, 100]⟩ : ByteArray), (⟨#[114, 105, 118, 101, 114]⟩ : ByteArray)]).length then
 some (([(⟨#[98, 97, 110, 107]⟩ : ByteArray), (⟨#[102, 105, 101, 108, 100]⟩ : ByteArray), (⟨#[114, 105, 118, 101, 114]⟩ : ByteArray)]).getD (r1.1 : Int).toNat ByteArray.empty, r1.2)
 else
 none
def QaH.fn (n : Nat) (s0 : List Int × Int × Int) : Option YG := QaH.top s0
def QaH.f (s0 : List Int × Int × Int) : Option YG := QaH.fn NN s0
end
end Go.Pl

namespace Go.Pl
open Go.Ev
set_option linter.unusedVariables false
noncomputable section
def Qc.g1000016 (L1000016 : YAM) (p : ByteArray) (r : ByteArray) (v18 : Int) (v58 : Bool) (s0 : List Int × Int × Int) : Option YG :=
 if v58 = true then
 (QaP.f).bind fun r17 =>
 (Qae.f s0 ([2, 2, 4, 5, 6, 7, 7])).bind fun r18 =>
 if (0 : Int) ≤ r18.1 ∧ (r18.1 : Int) < r17.length then
 agree (
 if (⟨#[115, 105, 103, 110, 97, 108, 32]⟩ : ByteArray).size + (r17.getD (r18.1 : Int).toNat ByteArray.empty).size ≤ 9223372036854775807 then
 if ((⟨#[115, 105, 103, 110, 97, 108, 32]⟩ : ByteArray) ++ (r17.getD (r18.1 : Int).toNat ByteArray.empty)).size + (⟨#[32]⟩ : ByteArray).size ≤ 9223372036854775807 then
 (Qd.f r18.2 9).bind fun r19 =>
 (Qf.f (IntKind.i64.wrap (3 + r19.1))).bind fun r20 =>
 if (((⟨#[115, 105, 103, 110, 97, 108, 32]⟩ : ByteArray) ++ (r17.getD (r18.1 : Int).toNat ByteArray.empty)) ++ (⟨#[32]⟩ : ByteArray)).size + r20.size ≤ 9223372036854775807 then
 some ((((⟨#[115, 105, 103, 110, 97, 108, 32]⟩ : ByteArray) ++ (r17.getD (r18.1 : Int).toNat ByteArray.empty)) ++ (⟨#[32]⟩ : ByteArray)) ++ r20, r19.2)
 else
 none
 else
 none
 else
 none
 ) (
 (Qd.f r18.2 9).bind fun r19 =>
 if (⟨#[115, 105, 103, 110, 97, 108, 32]⟩ : ByteArray).size + (r17.getD (r18.1 : Int).toNat ByteArray.empty).size ≤ 9223372036854775807 then
 if ((⟨#[115, 105, 103, 110, 97, 108, 32]⟩ : ByteArray) ++ (r17.getD (r18.1 : Int).toNat ByteArray.empty)).size + (⟨#[32]⟩ : ByteArray).size ≤ 9223372036854775807 then
 (Qf.f (IntKind.i64.wrap (3 + r19.1))).bind fun r20 =>
 if (((⟨#[115, 105, 103, 110, 97, 108, 32]⟩ : ByteArray) ++ (r17.getD (r18.1 : Int).toNat ByteArray.empty)) ++ (⟨#[32]⟩ : ByteArray)).size + r20.size ≤ 9223372036854775807 then
 some ((((⟨#[115, 105, 103, 110, 97, 108, 32]⟩ : ByteArray) ++ (r17.getD (r18.1 : Int).toNat ByteArray.empty)) ++ (⟨#[32]⟩ : ByteArray)) ++ r20, r19.2)
 else
 none
 else
 none
 else
 none
 )
 else
 none
 else if ((v18 : Int) == 7) = true then
 agree (
 (Qd.f s0 2).bind fun r21 =>
 if (0 : Int) ≤ r21.1 ∧ (r21.1 : Int) < ([(⟨#[115, 116, 97, 116, 101, 32]⟩ : ByteArray), (⟨#[102, 105, 114, 101, 32]⟩ : ByteArray)]).length then
 (Qd.f r21.2 12).bind fun r22 =>
 (Qf.f r22.1).bind fun r23 =>
 if (([(⟨#[115, 116, 97, 116, 101, 32]⟩ : ByteArray), (⟨#[102, 105, 114, 101, 32]⟩ : ByteArray)]).getD (r21.1 : Int).toNat ByteArray.empty).size + r23.size ≤ 9223372036854775807 then
 some ((([(⟨#[115, 116, 97, 116, 101, 32]⟩ : ByteArray), (⟨#[102, 105, 114, 101, 32]⟩ : ByteArray)]).getD (r21.1 : Int).toNat ByteArray.empty) ++ r23, r22.2)
 else
 none
 else
 none
 ) (
 (Qd.f s0 2).bind fun r21 =>
 agree (
 if (0 : Int) ≤ r21.1 ∧ (r21.1 : Int) < ([(⟨#[115, 116, 97, 116, 101, 32]⟩ : ByteArray), (⟨#[102, 105, 114, 101, 32]⟩ : ByteArray)]).length then
 (Qd.f r21.2 12).bind fun r22 =>
 (Qf.f r22.1).bind fun r23 =>
 if (([(⟨#[115, 116, 97, 116, 101, 32]⟩ : ByteArray), (⟨#[102, 105, 114, 101, 32]⟩ : ByteArray)]).getD (r21.1 : Int).toNat ByteArray.empty).size + r23.size ≤ 9223372036854775807 then
 some ((([(⟨#[115, 116, 97, 116, 101, 32]⟩ : ByteArray), (⟨#[102, 105, 114, 101, 32]⟩ : ByteArray)]).getD (r21.1 : Int).toNat ByteArray.empty) ++ r23, r22.2)
 else
 none
 else
 none
 ) (
 (Qd.f r21.2 12).bind fun r22 =>
 agree (
 if (0 : Int) ≤ r21.1 ∧ (r21.1 : Int) < ([(⟨#[115, 116, 97, 116, 101, 32]⟩ : ByteArray), (⟨#[102, 105, 114, 101, 32]⟩ : ByteArray)]).length then
 (Qf.f r22.1).bind fun r23 =>
 if (([(⟨#[115, 116, 97, 116, 101, 32]⟩ : ByteArray), (⟨#[102, 105, 114, 101, 32]⟩ : ByteArray)]).getD (r21.1 : Int).toNat ByteArray.empty).size + r23.size ≤ 9223372036854775807 then
 some ((([(⟨#[115, 116, 97, 116, 101, 32]⟩ : ByteArray), (⟨#[102, 105, 114, 101, 32]⟩ : ByteArray)]).getD (r21.1 : Int).toNat ByteArray.empty) ++ r23, r22.2)
 else
 none
 else
 none
 ) (
 (Qf.f r22.1).bind fun r23 =>
 if (0 : Int) ≤ r21.1 ∧ (r21.1 : Int) < ([(⟨#[115, 116, 97, 116, 101, 32]⟩ : ByteArray), (⟨#[102, 105, 114, 101, 32]⟩ : ByteArray)]).length then
 if (([(⟨#[115, 116, 97, 116, 101, 32]⟩ : ByteArray), (⟨#[102, 105, 114, 101, 32]⟩ : ByteArray)]).getD (r21.1 : Int).toNat ByteArray.empty).size + r23.size ≤ 9223372036854775807 then
 some ((([(⟨#[115, 116, 97, 116, 101, 32]⟩ : ByteArray), (⟨#[102, 105, 114, 101, 32]⟩ : ByteArray)]).getD (r21.1 : Int).toNat ByteArray.empty) ++ r23, r22.2)
 else
 none
 else
 none
 )
 )
 )
 else if ((v18 : Int) == 8) = true then
 (Qd.f s0 1200).bind fun r24 =>
 (Qf.f r24.1).bind fun r25 =>
 if (⟨#[102, 105, 114, 101, 32]⟩ : ByteArray).size + r25.size ≤ 9223372036854775807 then
 some ((⟨#[102, 105, 114, 101, 32]⟩ : ByteArray) ++ r25, r24.2)
 else
 none
 else if ((v18 : Int) == 9) = true then
 if (⟨#[98, 111, 111, 107, 32, 105, 110, 32]⟩ : ByteArray).size + p.size ≤ 9223372036854775807 then
 if ((⟨#[98, 111, 111, 107, 32, 105, 110, 32]⟩ : ByteArray) ++ p).size + (⟨#[32]⟩ : ByteArray).size ≤ 9223372036854775807 then
 if (((⟨#[98, 111, 111, 107, 32, 105, 110, 32]⟩ : ByteArray) ++ p) ++ (⟨#[32]⟩ : ByteArray)).size + r.size ≤ 9223372036854775807 then
 some ((((⟨#[98, 111, 111, 107, 32, 105, 110, 32]⟩ : ByteArray) ++ p) ++ (⟨#[32]⟩ : ByteArray)) ++ r, s0)
 else
 none
 else
 none
 else
 none
 else if ((v18 : Int) == 10) = true then
 (Qd.f s0 3).bind fun r26 =>
 if (0 : Int) ≤ r26.1 ∧ (r26.1 : Int) < ([(⟨#[102, 105, 114, 101, 100]⟩ : ByteArray), (⟨#[114, 101, 116, 117, 114, 110, 101, 100]⟩ : ByteArray), (⟨#[100, 101, 115, 116, 114, 111, 121, 101, 100]⟩ : ByteArray)]).length then
 if (⟨#[98, 111, 111, 107, 32]⟩ : ByteArray).size + (([(⟨#[102, 105, 114, 101, 100]⟩ : ByteArray), (⟨#[114, 101, 116, 117, 114, 110, 101, 100]⟩ : ByteArray), (⟨#[100, 101, 115, 116, 114, 111, 121, 101, 100]⟩ : ByteArray)]).getD (r26.1 : Int).toNat ByteArray.empty).size ≤ 9223372036854775807 then
 if ((⟨#[98, 111, 111, 107, 32]⟩ : ByteArray) ++ (([(⟨#[102, 105, 114, 101, 100]⟩ : ByteArray), (⟨#[114, 101, 116, 117, 114, 110, 101, 100]⟩ : ByteArray), (⟨#[100, 101, 115, 116, 114, 111, 121, 101, 100]⟩ : ByteArray)]).getD (r26.1 : Int).toNat ByteArray.empty)).size + (⟨#[32]⟩ : ByteArray).size ≤ 9223372036854775807 then
 if (((⟨#[98, 111, 111, 107, 32]⟩ : ByteArray) ++ (([(⟨#[102, 105, 114, 101, 100]⟩ : ByteArray), (⟨#[114, 101, 116, 117, 114, 110, 101, 100]⟩ : ByteArray), (⟨#[100, 101, 115, 116, 114, 111, 121, 101, 100]⟩ : ByteArray)]).getD (r26.1 : Int).toNat ByteArray.empty)) ++ (⟨#[32]⟩ : ByteArray)).size + p.size ≤ 9223372036854775807 then
 if ((((⟨#[98, 111, 111, 107, 32]⟩ : ByteArray) ++ (([(⟨#[102, 105, 114, 101, 100]⟩ : ByteArray), (⟨#[114, 101, 116, 117, 114, 110, 101, 100]⟩ : ByteArray), (⟨#[100, 101, 115, 116, 114, 111, 121, 101, 100]⟩ : ByteArray)]).getD (r26.1 : Int).toNat ByteArray.empty)) ++ (⟨#[32]⟩ : ByteArray)) ++ p).size + (⟨#[32]⟩ : ByteArray).size ≤ 9223372036854775807 then
 if (((((⟨#[98, 111, 111, 107, 32]⟩ : ByteArray) ++ (([(⟨#[102, 105, 114, 101, 100]⟩ : ByteArray), (⟨#[114, 101, 116, 117, 114, 110, 101, 100]⟩ : ByteArray), (⟨#[100, 101, 115, 116, 114, 111, 121, 101, 100]⟩ : ByteArray)]).getD (r26.1 : Int).toNat ByteArray.empty)) ++ (⟨#[32]⟩ : ByteArray)) ++ p) ++ (⟨#[32]⟩ : ByteArray)).size + r.size ≤ 9223372036854775807 then
 some ((((((⟨#[98, 111, 111, 107, 32]⟩ : ByteArray) ++ (([(⟨#[102, 105, 114, 101, 100]⟩ : ByteArray), (⟨#[114, 101, 116, 117, 114, 110, 101, 100]⟩ : ByteArray), (⟨#[100, 101, 115, 116, 114, 111, 121, 101, 100]⟩ : ByteArray)]).getD (r26.1 : Int).toNat ByteArray.empty)) ++ (⟨#[32]⟩ : ByteArray)) ++ p) ++ (⟨#[32]⟩ : ByteArray)) ++ r, r26.2)
 else
 none
 else
 none
 else
 none
 else
 none
 else
 none
 else
 none
 else if ((v18 : Int) == 11) = true then
 if (⟨#[108, 101, 102, 116, 32]⟩ : ByteArray).size + p.size ≤ 9223372036854775807 then
 (Qd.f s0 2).bind fun r27 =>
 if (0 : Int) ≤ r27.1 ∧ (r27.1 : Int) < ([(⟨#[108, 101, 102, 116, 32]⟩ : ByteArray) ++ p, (⟨#[111, 112, 101, 110]⟩ : ByteArray)]).length then
 some (([(⟨#[108, 101, 102, 116, 32]⟩ : ByteArray) ++ p, (⟨#[111, 112, 101, 110]⟩ : ByteArray)]).getD (r27.1 : Int).toNat ByteArray.empty, r27.2)
 else
 none
 else
 none
 else if ((v18 : Int) == 12) = true then
 (Qd.f s0 4).bind fun r28 =>
 (Qf.f r28.1).bind fun r29 =>
 if (⟨#[115, 101, 116, 116, 108, 101, 32]⟩ : ByteArray).size + r29.size ≤ 9223372036854775807 then
 (Qd.f r28.2 5000).bind fun r30 =>
 (Qf.f r30.1).bind fun r31 =>
 if (⟨#[110, 101, 101, 100, 32, 49, 50, 32]⟩ : ByteArray).size + r31.size ≤ 9223372036854775807 then
 (Qd.f r30.2 2).bind fun r32 =>
 if (0 : Int) ≤ r32.1 ∧ (r32.1 : Int) < ([(⟨#[115, 101, 116, 116, 108, 101, 32]⟩ : ByteArray) ++ r29, (⟨#[110, 101, 101, 100, 32, 49, 50, 32]⟩ : ByteArray) ++ r31]).length then
 some (([(⟨#[115, 101, 116, 116, 108, 101, 32]⟩ : ByteArray) ++ r29, (⟨#[110, 101, 101, 100, 32, 49, 50, 32]⟩ : ByteArray) ++ r31]).getD (r32.1 : Int).toNat ByteArray.empty, r32.2)
 else
 none
 else
 none
 else
 none
 else
 agree (
 (Qd.f s0 2).bind fun r33 =>
 if (0 : Int) ≤ r33.1 ∧ (r33.1 : Int) < ([(⟨#[116, 111, 112, 32]⟩ : ByteArray), (⟨#[116, 105, 109, 101, 32]⟩ : ByteArray)]).length then
 (Qd.f r33.2 90000).bind fun r34 =>
 (Qf.f r34.1).bind fun r35 =>
 if (([(⟨#[116, 111, 112, 32]⟩ : ByteArray), (⟨#[116, 105, 109, 101, 32]⟩ : ByteArray)]).getD (r33.1 : Int).toNat ByteArray.empty).size + r35.size ≤ 9223372036854775807 then
 some ((([(⟨#[116, 111, 112, 32]⟩ : ByteArray), (⟨#[116, 105, 109, 101, 32]⟩ : ByteArray)]).getD (r33.1 : Int).toNat ByteArray.empty) ++ r35, r34.2)
 else
 none
 else
 none
 ) (
 (Qd.f s0 2).bind fun r33 =>
 agree (
 if (0 : Int) ≤ r33.1 ∧ (r33.1 : Int) < ([(⟨#[116, 111, 112, 32]⟩ : ByteArray), (⟨#[116, 105, 109, 101, 32]⟩ : ByteArray)]).length then
 (Qd.f r33.2 90000).bind fun r34 =>
 (Qf.f r34.1).bind fun r35 =>
 if (([(⟨#[116, 111, 112, 32]⟩ : ByteArray), (⟨#[116, 105, 109, 101, 32]⟩ : ByteArray)]).getD (r33.1 : Int).toNat ByteArray.empty).size + r35.size ≤ 9223372036854775807 then
 some ((([(⟨#[116, 111, 112, 32]⟩ : ByteArray), (⟨#[116, 105, 109, 101, 32]⟩ : ByteArray)]).getD (r33.1 : Int).toNat ByteArray.empty) ++ r35, r34.2)
 else
 none
 else
 none
 ) (
 (Qd.f r33.2 90000).bind fun r34 =>
 agree (
 if (0 : Int) ≤ r33.1 ∧ (r33.1 : Int) < ([(⟨#[116, 111, 112, 32]⟩ : ByteArray), (⟨#[116, 105, 109, 101, 32]⟩ : ByteArray)]).length then
 (Qf.f r34.1).bind fun r35 =>
 if (([(⟨#[116, 111, 112, 32]⟩ : ByteArray), (⟨#[116, 105, 109, 101, 32]⟩ : ByteArray)]).getD (r33.1 : Int).toNat ByteArray.empty).size + r35.size ≤ 9223372036854775807 then
 some ((([(⟨#[116, 111, 112, 32]⟩ : ByteArray), (⟨#[116, 105, 109, 101, 32]⟩ : ByteArray)]).getD (r33.1 : Int).toNat ByteArray.empty) ++ r35, r34.2)
 else
 none
 else
 none
 ) (
 (Qf.f r34.1).bind fun r35 =>
 if (0 : Int) ≤ r33.1 ∧ (r33.1 : Int) < ([(⟨#[116, 111, 112, 32]⟩ : ByteArray), (⟨#[116, 105, 109, 101, 32]⟩ : ByteArray)]).length then
 if (([(⟨#[116, 111, 112, 32]⟩ : ByteArray), (⟨#[116, 105, 109, 101, 32]⟩ : ByteArray)]).getD (r33.1 : Int).toNat ByteArray.empty).size + r35.size ≤ 9223372036854775807 then
 some ((([(⟨#[116, 111, 112, 32]⟩ : ByteArray), (⟨#[116, 105, 109, 101, 32]⟩ : ByteArray)]).getD (r33.1 : Int).toNat ByteArray.empty) ++ r35, r34.2)
 else
 none
 else
 none
 )
 )
 )
def Qc.l1000016 (n : Nat) : Nat → ByteArray → ByteArray → Int → Bool → YI → Option YG
 | 0 => fun _ _ _ _ _ => none
 | k + 1 => Qc.g1000016 (Qc.l1000016 n k)
theorem Qc.c1000016 {n : Nat} (h : 0 < n) : Qc.l1000016 n n = Qc.g1000016 (Qc.l1000016 n (n - 1)) := by
  cases n with
  | zero => exact absurd h (Nat.lt_irrefl 0)
  | succ n => rfl
def Qc.g1000007 (I1000016 : YAM) (L1000007 : ByteArray → ByteArray → ByteArray → Int → Bool → YI → Option YG) (q : ByteArray) (p : ByteArray) (r : ByteArray) (v18 : Int) (v19 : Bool) (s0 : List Int × Int × Int) : Option YG :=
 if v19 = true then
 if (⟨#[112, 101, 111, 112, 108, 101, 32]⟩ : ByteArray).size + q.size ≤ 9223372036854775807 then
 if ((⟨#[112, 101, 111, 112, 108, 101, 32]⟩ : ByteArray) ++ q).size + (⟨#[32]⟩ : ByteArray).size ≤ 9223372036854775807 then
 (Qd.f s0 30).bind fun r7 =>
 (Qf.f (IntKind.i64.wrap (1000 * r7.1))).bind fun r8 =>
 if (((⟨#[112, 101, 111, 112, 108, 101, 32]⟩ : ByteArray) ++ q) ++ (⟨#[32]⟩ : ByteArray)).size + r8.size ≤ 9223372036854775807 then
 if ((((⟨#[112, 101, 111, 112, 108, 101, 32]⟩ : ByteArray) ++ q) ++ (⟨#[32]⟩ : ByteArray)) ++ r8).size + (⟨#[32]⟩ : ByteArray).size ≤ 9223372036854775807 then
 (Qae.f r7.2 ([1, 2, (-1), (-2)])).bind fun r9 =>
 (QaL.f r9.1).bind fun r10 =>
 if (((((⟨#[112, 101, 111, 112, 108, 101, 32]⟩ : ByteArray) ++ q) ++ (⟨#[32]⟩ : ByteArray)) ++ r8) ++ (⟨#[32]⟩ : ByteArray)).size + r10.size ≤ 9223372036854775807 then
 some ((((((⟨#[112, 101, 111, 112, 108, 101, 32]⟩ : ByteArray) ++ q) ++ (⟨#[32]⟩ : ByteArray)) ++ r8) ++ (⟨#[32]⟩ : ByteArray)) ++ r10, r9.2)
 else
 none
 else
 none
 else
 none
 else
 none
 else
 none
 else if ((v18 : Int) == 2) = true then
 if (⟨#[99, 108, 101, 97, 114, 32]⟩ : ByteArray).size + q.size ≤ 9223372036854775807 then
 if ((⟨#[99, 108, 101, 97, 114, 32]⟩ : ByteArray) ++ q).size + (⟨#[32]⟩ : ByteArray).size ≤ 9223372036854775807 then
 (Qd.f s0 60).bind fun r11 =>
 (Qf.f (IntKind.i64.wrap (1000 * r11.1))).bind fun r12 =>
 if (((⟨#[99, 108, 101, 97, 114, 32]⟩ : ByteArray) ++ q) ++ (⟨#[32]⟩ : ByteArray)).size + r12.size ≤ 9223372036854775807 then
 some ((((⟨#[99, 108, 101, 97, 114, 32]⟩ : ByteArray) ++ q) ++ (⟨#[32]⟩ : ByteArray)) ++ r12, r11.2)
 else
 none
 else
 none
 else
 none
 else if ((v18 : Int) == 3) = true then
 (Qd.f s0 3).bind fun r13 =>
 (Qf.f r13.1).bind fun r14 =>
 if (⟨#[115, 105, 103, 110, 97, 108, 32, 107, 101, 121, 97, 32]⟩ : ByteArray).size + r14.size ≤ 9223372036854775807 then
 some ((⟨#[115, 105, 103, 110, 97, 108, 32, 107, 101, 121, 97, 32]⟩ : ByteArray) ++ r14, r13.2)
 else
 none
 else if ((v18 : Int) == 4) = true then
 (Qd.f s0 3).bind fun r15 =>
 (Qf.f r15.1).bind fun r16 =>
 if (⟨#[115, 105, 103, 110, 97, 108, 32, 107, 101, 121, 98, 32]⟩ : ByteArray).size + r16.size ≤ 9223372036854775807 then
 some ((⟨#[115, 105, 103, 110, 97, 108, 32, 107, 101, 121, 98, 32]⟩ : ByteArray) ++ r16, r15.2)
 else
 none
 else if ((v18 : Int) == 5) = true then
 I1000016 p r v18 ((v18 : Int) == 5) s0
 else
 I1000016 p r v18 ((v18 : Int) == 6) s0
def Qc.l1000007 (n : Nat) : Nat → ByteArray → ByteArray → ByteArray → Int → Bool → YI → Option YG
 | 0 => fun _ _ _ _ _ _ => none
 | k + 1 => Qc.g1000007 (Qc.l1000016 n n) (Qc.l1000007 n k)
theorem Qc.c1000007 {n : Nat} (h : 0 < n) : Qc.l1000007 n n = Qc.g1000007 (Qc.l1000016 n n) (Qc.l1000007 n (n - 1)) := by
  cases n with
  | zero => exact absurd h (Nat.lt_irrefl 0)
  | succ n => rfl
def Qc.top (I1000007 : ByteArray → ByteArray → ByteArray → Int → Bool → YI → Option YG) (s0 : List Int × Int × Int) : Option YG :=
 (QaH.f s0).bind fun r1 =>
 (QaQ.f).bind fun r2 =>
 (Qd.f r1.2 3).bind fun r3 =>
 if (0 : Int) ≤ r3.1 ∧ (r3.1 : Int) < r2.length then
 (Qd.f r3.2 9).bind fun r4 =>
 (Qf.f (IntKind.i64.wrap (1 + r4.1))).bind fun r5 =>
 (Qd.f r4.2 14).bind fun r6 =>
 if ((r6.1 : Int) == 0) = true then
 I1000007 r1.1 (r2.getD (r3.1 : Int).toNat ByteArray.empty) r5 r6.1 ((r6.1 : Int) == 0) r6.2
 else
 I1000007 r1.1 (r2.getD (r3.1 : Int).toNat ByteArray.empty) r5 r6.1 ((r6.1 : Int) == 1) r6.2
 else
 none
def Qc.fn (n : Nat) (s0 : List Int × Int × Int) : Option YG := Qc.top (Qc.l1000007 n n) s0
def Qc.f (s0 : List Int × Int × Int) : Option YG := Qc.fn NN s0
end
end Go.Pl

namespace Go.Pl
open Go.Ev
set_option linter.unusedVariables false
noncomputable section
def Qn.g12 (L12 : ByteArray → Int → YI → Option YG) (t3 : ByteArray) (k6 : Int) (w0 : List Int × Int × Int) : Option YG :=
 if (decide ((k6 : Int) < 36)) = true then
 if t3.size + (⟨#[111, 112, 101, 110, 10]⟩ : ByteArray).size ≤ 9223372036854775807 then
 L12 (t3 ++ (⟨#[111, 112, 101, 110, 10]⟩ : ByteArray)) (IntKind.i64.wrap (k6 + 1)) w0
 else
 none
 else
 some (t3, w0)
def Qn.l12 (n : Nat) : Nat → ByteArray → Int → YI → Option YG
 | 0 => fun _ _ _ => none
 | k + 1 => Qn.g12 (Qn.l12 n k)
def Qn.g3 (I12 : ByteArray → Int → YI → Option YG) (L3 : ByteArray → Int → YI → Option YG) (t3 : ByteArray) (n4 : Int) (s0 : List Int × Int × Int) : Option YG :=
 if (decide ((0 : Int) < n4)) = true then
 (Qc.f s0).bind fun r2 =>
 (Qd.f r2.2 16).bind fun r3 =>
 if ((r3.1 : Int) == 0) = true then
 (Qao.f r3.2 r2.1).bind fun r4 =>
 if t3.size + r4.1.size ≤ 9223372036854775807 then
 if (t3 ++ r4.1).size + (⟨#[10]⟩ : ByteArray).size ≤ 9223372036854775807 then
 L3 ((t3 ++ r4.1) ++ (⟨#[10]⟩ : ByteArray)) (IntKind.i64.wrap (n4 - 1)) r4.2
 else
 none
 else
 none
 else if t3.size + r2.1.size ≤ 9223372036854775807 then
 if (t3 ++ r2.1).size + (⟨#[10]⟩ : ByteArray).size ≤ 9223372036854775807 then
 L3 ((t3 ++ r2.1) ++ (⟨#[10]⟩ : ByteArray)) (IntKind.i64.wrap (n4 - 1)) r3.2
 else
 none
 else
 none
 else
 (Qd.f s0 40).bind fun r5 =>
 if ((r5.1 : Int) == 0) = true then
 I12 t3 0 r5.2
 else if ((r5.1 : Int) == 1) = true then
 if t3.size + (⟨#[111, 112, 101, 110]⟩ : ByteArray).size ≤ 9223372036854775807 then
 some (t3 ++ (⟨#[111, 112, 101, 110]⟩ : ByteArray), r5.2)
 else
 none
 else
 some (t3, r5.2)
def Qn.l3 (n : Nat) : Nat → ByteArray → Int → YI → Option YG
 | 0 => fun _ _ _ => none
 | k + 1 => Qn.g3 (Qn.l12 n n) (Qn.l3 n k)
def Qn.top (I3 : ByteArray → Int → YI → Option YG) (s0 : List Int × Int × Int) : Option YG :=
 (Qd.f s0 16).bind fun r1 =>
 I3 (⟨#[]⟩ : ByteArray) r1.1 r1.2
def Qn.fn (n : Nat) (s0 : List Int × Int × Int) : Option YG := Qn.top (Qn.l3 n n) s0
def Qn.f (s0 : List Int × Int × Int) : Option YG := Qn.fn NN s0
end
end Go.Pl

namespace Go.Pl
open Go.Ev
set_option linter.unusedVariables false
noncomputable section
def Qat.top (p : List Int) : Option ByteArray :=
 (QW.f p).bind fun r1 =>
 (Qn.f r1).bind fun r2 =>
 some r2.1
def Qat.fn (n : Nat) (p : List Int) : Option ByteArray := Qat.top p
def Qat.f (p : List Int) : Option ByteArray := Qat.fn NN p
end
end Go.Pl

namespace Go.Pl
open Go.Ev
set_option linter.unusedVariables false
noncomputable section
def Q2.g4 (L4 : Int → Int → YI → YD → Option YH) (t4 : Int) (n5 : Int) (s0 : List Int × Int × Int) (p : List YA) : Option YH :=
 if (decide ((0 : Int) < n5)) = true then
 (QaH.f s0).bind fun r3 =>
 (Qd.f r3.2 4).bind fun r4 =>
 (QB.f p r3.1 (p.length : Int)).bind fun r5 =>
 if (decide ((0 : Int) < r5)) = true then
 (Qd.f r4.2 3).bind fun r6 =>
 if (decide ((0 : Int) < r6.1)) = true then
 (Qae.f r6.2 ([r5, 1, r5])).bind fun r7 =>
 (Qal.f p (t4, (r3.1, IntKind.i64.wrap (0 - r7.1)))).bind fun r8 =>
 if ((r8.2 : Int) == 0) = true then
 (Qd.f r7.2 20000).bind fun r9 =>
 (Qd.f r9.2 60000).bind fun r10 =>
 (Qae.f r10.2 ([0, r9.1, r10.1])).bind fun r11 =>
 L4 (IntKind.i64.wrap (t4 + r11.1)) (IntKind.i64.wrap (n5 - 1)) r11.2 r8.1
 else
 (Qd.f r7.2 20000).bind fun r12 =>
 (Qd.f r12.2 60000).bind fun r13 =>
 (Qae.f r13.2 ([0, r12.1, r13.1])).bind fun r14 =>
 L4 (IntKind.i64.wrap (t4 + r14.1)) (IntKind.i64.wrap (n5 - 1)) r14.2 p
 else
 (Qal.f p (t4, (r3.1, IntKind.i64.wrap (1 + r4.1)))).bind fun r15 =>
 if ((r15.2 : Int) == 0) = true then
 (Qd.f r6.2 20000).bind fun r16 =>
 (Qd.f r16.2 60000).bind fun r17 =>
 (Qae.f r17.2 ([0, r16.1, r17.1])).bind fun r18 =>
 L4 (IntKind.i64.wrap (t4 + r18.1)) (IntKind.i64.wrap (n5 - 1)) r18.2 r15.1
 else
 (Qd.f r6.2 20000).bind fun r19 =>
 (Qd.f r19.2 60000).bind fun r20 =>
 (Qae.f r20.2 ([0, r19.1, r20.1])).bind fun r21 =>
 L4 (IntKind.i64.wrap (t4 + r21.1)) (IntKind.i64.wrap (n5 - 1)) r21.2 p
 else
 (Qal.f p (t4, (r3.1, IntKind.i64.wrap (1 + r4.1)))).bind fun r22 =>
 if ((r22.2 : Int) == 0) = true then
 (Qd.f r4.2 20000).bind fun r23 =>
 (Qd.f r23.2 60000).bind fun r24 =>
 (Qae.f r24.2 ([0, r23.1, r24.1])).bind fun r25 =>
 L4 (IntKind.i64.wrap (t4 + r25.1)) (IntKind.i64.wrap (n5 - 1)) r25.2 r22.1
 else
 (Qd.f r4.2 20000).bind fun r26 =>
 (Qd.f r26.2 60000).bind fun r27 =>
 (Qae.f r27.2 ([0, r26.1, r27.1])).bind fun r28 =>
 L4 (IntKind.i64.wrap (t4 + r28.1)) (IntKind.i64.wrap (n5 - 1)) r28.2 p
 else
 some (p, s0)
def Q2.l4 (n : Nat) : Nat → Int → Int → YI → YD → Option YH
 | 0 => fun _ _ _ _ => none
 | k + 1 => Q2.g4 (Q2.l4 n k)
def Q2.top (I4 : Int → Int → YI → YD → Option YH) (s0 : List Int × Int × Int) : Option YH :=
 (Qd.f s0 5000).bind fun r1 =>
 (Qd.f r1.2 9).bind fun r2 =>
 I4 r1.1 r2.1 r2.2 []
def Q2.fn (n : Nat) (s0 : List Int × Int × Int) : Option YH := Q2.top (Q2.l4 n n) s0
def Q2.f (s0 : List Int × Int × Int) : Option YH := Q2.fn NN s0
end
end Go.Pl

namespace Go.Pl
open Go.Ev
set_option linter.unusedVariables false
noncomputable section
def Q8.g6 (L6 : YI → YD → Option YH) (s0 : List Int × Int × Int) (p : List YA) : Option YH :=
 (Qd.f s0 2).bind fun r6 =>
 if (decide (((p.length : Int) : Int) < (IntKind.i64.wrap (40 + r6.1)))) = true then
 if p.length + ([(900000, ((⟨#[102, 105, 101, 108, 100]⟩ : ByteArray), 1))]).length < room 32 then
 L6 r6.2 (p ++ ([(900000, ((⟨#[102, 105, 101, 108, 100]⟩ : ByteArray), 1))]))
 else
 none
 else
 some (p, r6.2)
def Q8.l6 (n : Nat) : Nat → YI → YD → Option YH
 | 0 => fun _ _ => none
 | k + 1 => Q8.g6 (Q8.l6 n k)
def Q8.top (I6 : YI → YD → Option YH) (s0 : List Int × Int × Int) : Option YH :=
 (Q2.f s0).bind fun r1 =>
 (Qd.f r1.2 30).bind fun r2 =>
 if ((r2.1 : Int) == 0) = true then
 (Qae.f r2.2 ([0, 10000000, 10000001])).bind fun r3 =>
 (QaH.f r3.2).bind fun r4 =>
 (Qae.f r4.2 ([(-1), 0, 1000, 1001])).bind fun r5 =>
 if r1.1.length + ([(r3.1, (r4.1, r5.1))]).length < room 32 then
 some (r1.1 ++ ([(r3.1, (r4.1, r5.1))]), r5.2)
 else
 none
 else if ((r2.1 : Int) == 1) = true then
 I6 r2.2 r1.1
 else
 some (r1.1, r2.2)
def Q8.fn (n : Nat) (s0 : List Int × Int × Int) : Option YH := Q8.top (Q8.l6 n n) s0
def Q8.f (s0 : List Int × Int × Int) : Option YH := Q8.fn NN s0
end
end Go.Pl

namespace Go.Pl
open Go.Ev
set_option linter.unusedVariables false
noncomputable section
def Q9.g7 (L7 : Int → Int → YI → YE → Option YT) (p : Int) (n5 : Int) (s0 : List Int × Int × Int) (q : List YC) : Option YT :=
 if (decide ((0 : Int) < n5)) = true then
 (Qae.f s0 ([0, 1, 2, 3, 4])).bind fun r5 =>
 (Qae.f r5.2 ([7, 7, 7, 7, 2, 4, 5, 0, 6, 3, 9])).bind fun r6 =>
 if q.length + ([(IntKind.i64.wrap (p + r5.1), r6.1)]).length < room 16 then
 L7 (IntKind.i64.wrap (p + r5.1)) (IntKind.i64.wrap (n5 - 1)) r6.2 (q ++ ([(IntKind.i64.wrap (p + r5.1), r6.1)]))
 else
 none
 else
 some (q, s0)
def Q9.l7 (n : Nat) : Nat → Int → Int → YI → YE → Option YT
 | 0 => fun _ _ _ _ => none
 | k + 1 => Q9.g7 (Q9.l7 n k)
def Q9.top (I7 : Int → Int → YI → YE → Option YT) (s0 : List Int × Int × Int) : Option YT :=
 (Qd.f s0 5).bind fun r1 =>
 (Qd.f r1.2 6).bind fun r2 =>
 if (decide ((0 : Int) < r2.1)) = true then
 if ([] : List YC).length + ([(r1.1, 0), (r1.1, 1), (IntKind.i64.wrap (r1.1 + 1), 2)]).length < room 16 then
 (Qd.f r2.2 20).bind fun r3 =>
 I7 (IntKind.i64.wrap (r1.1 + 1)) r3.1 r3.2 (([] : List YC) ++ ([(r1.1, 0), (r1.1, 1), (IntKind.i64.wrap (r1.1 + 1), 2)]))
 else
 none
 else
 (Qd.f r2.2 20).bind fun r4 =>
 I7 r1.1 r4.1 r4.2 []
def Q9.fn (n : Nat) (s0 : List Int × Int × Int) : Option YT := Q9.top (Q9.l7 n n) s0
def Q9.f (s0 : List Int × Int × Int) : Option YT := Q9.fn NN s0
end
end Go.Pl

namespace Go.Pl
open Go.Ev
set_option linter.unusedVariables false
noncomputable section
def Qaa.g8 (L8 : YI → YE → Option YT) (s0 : List Int × Int × Int) (p : List YC) : Option YT :=
 (Qd.f s0 2).bind fun r5 =>
 if (decide (((p.length : Int) : Int) < (IntKind.i64.wrap (40 + r5.1)))) = true then
 if p.length + ([(300, 7)]).length < room 16 then
 L8 r5.2 (p ++ ([(300, 7)]))
 else
 none
 else
 some (p, r5.2)
def Qaa.l8 (n : Nat) : Nat → YI → YE → Option YT
 | 0 => fun _ _ => none
 | k + 1 => Qaa.g8 (Qaa.l8 n k)
def Qaa.top (I8 : YI → YE → Option YT) (s0 : List Int × Int × Int) : Option YT :=
 (Q9.f s0).bind fun r1 =>
 (Qd.f r1.2 40).bind fun r2 =>
 if ((r2.1 : Int) == 0) = true then
 (Qae.f r2.2 ([8, (-1), 10, 7])).bind fun r3 =>
 if r1.1.length + ([(200, r3.1)]).length < room 16 then
 some (r1.1 ++ ([(200, r3.1)]), r3.2)
 else
 none
 else if ((r2.1 : Int) == 1) = true then
 (Qae.f r2.2 ([0, 100000, 100001])).bind fun r4 =>
 if r1.1.length + ([(r4.1, 7)]).length < room 16 then
 some (r1.1 ++ ([(r4.1, 7)]), r4.2)
 else
 none
 else if ((r2.1 : Int) == 2) = true then
 I8 r2.2 r1.1
 else
 some (r1.1, r2.2)
def Qaa.fn (n : Nat) (s0 : List Int × Int × Int) : Option YT := Qaa.top (Qaa.l8 n n) s0
def Qaa.f (s0 : List Int × Int × Int) : Option YT := Qaa.fn NN s0
end
end Go.Pl

namespace Go.Pl
open Go.Ev
set_option linter.unusedVariables false
noncomputable section
def Qa9.top (s0 : List Int × Int × Int) : Option YG :=
 (Qd.f s0 12).bind fun r1 =>
 if (0 : Int) ≤ r1.1 ∧ (r1.1 : Int) < ([(⟨#[97, 100, 97]⟩ : ByteArray), (⟨#[98, 114, 117, 110, 111]⟩ : ByteArray), (⟨#[99, 108, 97, 114, 97]⟩ : ByteArray), (⟨#[100, 111, 114, 97]⟩ : ByteArray), (⟨#[101, 109, 105, 108]⟩ : ByteArray), (⟨#[102, 114, 105, 100, 97]⟩ : ByteArray), (⟨#[103, 117, 115, 116, 97, 118]⟩ : ByteArray), (⟨#[104, 97, 110, 110, 97]⟩ : ByteArray), (⟨#[105, 118, 97, 110]⟩ : ByteArray), (⟨#[106, 97, 110, 97]⟩ : ByteArray), (⟨#[107, 97, 114, 108]⟩ : ByteArray), (⟨#[108, 101, 110, 97]⟩ : ByteArray)]).length then
 some (([(⟨#[97, 100, 97]⟩ : ByteArray), (⟨#[98, 114, 117, 110, 111]⟩ : ByteArray), (⟨#[99, 108, 97, 114, 97]⟩ : ByteArray), (⟨#[100, 111, 114, 97]⟩ : ByteArray), (⟨#[101, 109, 105, 108]⟩ : ByteArray), (⟨#[102, 114, 105, 100, 97]⟩ : ByteArray), (⟨#[103, 117, 115, 116, 97, 118]⟩ : ByteArray), (⟨#[104, 97, 110, 110, 97]⟩ : ByteArray), (⟨#[105, 118, 97, 110]⟩ : ByteArray), (⟨#[106, 97, 110, 97]⟩ : ByteArray), (⟨#[107, 97, 114, 108]⟩ : ByteArray), (⟨#[108, 101, 110, 97]⟩ : ByteArray)]).getD (r1.1 : Int).toNat ByteArray.empty, r1.2)
 else
 none
def Qa9.fn (n : Nat) (s0 : List Int × Int × Int) : Option YG := Qa9.top s0
def Qa9.f (s0 : List Int × Int × Int) : Option YG := Qa9.fn NN s0
end
end Go.Pl

namespace Go.Pl
open Go.Ev
set_option linter.unusedVariables false
noncomputable section
def Qaw.top (s0 : List Int × Int × Int) : Option YG :=
 (Qd.f s0 24).bind fun r1 =>
 if ((r1.1 : Int) == 0) = true then
 (Qd.f r1.2 6).bind fun r2 =>
 if (0 : Int) ≤ r2.1 ∧ (r2.1 : Int) < ([(⟨#[]⟩ : ByteArray), (⟨#[65, 100, 97]⟩ : ByteArray), (⟨#[97, 49]⟩ : ByteArray), (⟨#[97, 98, 99, 100, 101, 102, 103, 104, 105, 106, 107, 108, 109, 110, 111, 112]⟩ : ByteArray), (⟨#[97, 98, 99, 100, 101, 102, 103, 104, 105, 106, 107, 108, 109, 110, 111, 112, 113]⟩ : ByteArray), (⟨#[97, 32, 98]⟩ : ByteArray)]).length then
 some (([(⟨#[]⟩ : ByteArray), (⟨#[65, 100, 97]⟩ : ByteArray), (⟨#[97, 49]⟩ : ByteArray), (⟨#[97, 98, 99, 100, 101, 102, 103, 104, 105, 106, 107, 108, 109, 110, 111, 112]⟩ : ByteArray), (⟨#[97, 98, 99, 100, 101, 102, 103, 104, 105, 106, 107, 108, 109, 110, 111, 112, 113]⟩ : ByteArray), (⟨#[97, 32, 98]⟩ : ByteArray)]).getD (r2.1 : Int).toNat ByteArray.empty, r2.2)
 else
 none
 else
 (Qa9.f r1.2).bind fun r3 =>
 some (r3.1, r3.2)
def Qaw.fn (n : Nat) (s0 : List Int × Int × Int) : Option YG := Qaw.top s0
def Qaw.f (s0 : List Int × Int × Int) : Option YG := Qaw.fn NN s0
end
end Go.Pl

namespace Go.Pl
open Go.Ev
set_option linter.unusedVariables false
noncomputable section
def Qu.g4 (L4 : YAA) (n5 : Int) (s0 : List Int × Int × Int) (q : List YA) (p : List ByteArray) : Option YH :=
 if (decide ((0 : Int) < n5)) = true then
 (Qd.f s0 4).bind fun r3 =>
 (Qd.f r3.2 4).bind fun r4 =>
 if (0 : Int) ≤ r4.1 ∧ (r4.1 : Int) < p.length then
 (Qd.f r4.2 12).bind fun r5 =>
 (QJ.f q (p.getD (r4.1 : Int).toNat ByteArray.empty) (q.length : Int)).bind fun r6 =>
 if (decide ((0 : Int) < r3.1)) = true then
 if (decide ((0 : Int) < r6)) = true then
 (Qd.f r5.2 2).bind fun r7 =>
 if ((r7.1 : Int) == 0) = true then
 if ((r6 : Int) == 0) = true then
 (Qz.f q (0, (p.getD (r4.1 : Int).toNat ByteArray.empty, (if r6 < 1000 then r6 else 1000)))).bind fun r8 =>
 if ((r8.2 : Int) == 0) = true then
 L4 (IntKind.i64.wrap (n5 - 1)) r7.2 r8.1 p
 else
 L4 (IntKind.i64.wrap (n5 - 1)) r7.2 q p
 else
 (Qz.f q (r3.1, (p.getD (r4.1 : Int).toNat ByteArray.empty, (if r6 < 1000 then r6 else 1000)))).bind fun r9 =>
 if ((r9.2 : Int) == 0) = true then
 L4 (IntKind.i64.wrap (n5 - 1)) r7.2 r9.1 p
 else
 L4 (IntKind.i64.wrap (n5 - 1)) r7.2 q p
 else if ((r6 : Int) == 0) = true then
 (Qz.f q (0, (p.getD (r4.1 : Int).toNat ByteArray.empty, IntKind.i64.wrap (1 + r5.1)))).bind fun r10 =>
 if ((r10.2 : Int) == 0) = true then
 L4 (IntKind.i64.wrap (n5 - 1)) r7.2 r10.1 p
 else
 L4 (IntKind.i64.wrap (n5 - 1)) r7.2 q p
 else
 (Qz.f q (r3.1, (p.getD (r4.1 : Int).toNat ByteArray.empty, IntKind.i64.wrap (1 + r5.1)))).bind fun r11 =>
 if ((r11.2 : Int) == 0) = true then
 L4 (IntKind.i64.wrap (n5 - 1)) r7.2 r11.1 p
 else
 L4 (IntKind.i64.wrap (n5 - 1)) r7.2 q p
 else if ((r6 : Int) == 0) = true then
 (Qz.f q (0, (p.getD (r4.1 : Int).toNat ByteArray.empty, IntKind.i64.wrap (1 + r5.1)))).bind fun r12 =>
 if ((r12.2 : Int) == 0) = true then
 L4 (IntKind.i64.wrap (n5 - 1)) r5.2 r12.1 p
 else
 L4 (IntKind.i64.wrap (n5 - 1)) r5.2 q p
 else
 (Qz.f q (r3.1, (p.getD (r4.1 : Int).toNat ByteArray.empty, IntKind.i64.wrap (1 + r5.1)))).bind fun r13 =>
 if ((r13.2 : Int) == 0) = true then
 L4 (IntKind.i64.wrap (n5 - 1)) r5.2 r13.1 p
 else
 L4 (IntKind.i64.wrap (n5 - 1)) r5.2 q p
 else if ((r6 : Int) == 0) = true then
 (Qz.f q (0, (p.getD (r4.1 : Int).toNat ByteArray.empty, IntKind.i64.wrap (1 + r5.1)))).bind fun r14 =>
 if ((r14.2 : Int) == 0) = true then
 L4 (IntKind.i64.wrap (n5 - 1)) r5.2 r14.1 p
 else
 L4 (IntKind.i64.wrap (n5 - 1)) r5.2 q p
 else
 (Qz.f q (r3.1, (p.getD (r4.1 : Int).toNat ByteArray.empty, IntKind.i64.wrap (1 + r5.1)))).bind fun r15 =>
 if ((r15.2 : Int) == 0) = true then
 L4 (IntKind.i64.wrap (n5 - 1)) r5.2 r15.1 p
 else
 L4 (IntKind.i64.wrap (n5 - 1)) r5.2 q p
 else
 none
 else
 some (q, s0)
def Qu.l4 (n : Nat) : Nat → Int → YI → YD → List ByteArray → Option YH
 | 0 => fun _ _ _ _ => none
 | k + 1 => Qu.g4 (Qu.l4 n k)
def Qu.top (I4 : YAA) (s0 : List Int × Int × Int) : Option YH :=
 (QaQ.f).bind fun r1 =>
 (Qd.f s0 10).bind fun r2 =>
 I4 r2.1 r2.2 [] r1
def Qu.fn (n : Nat) (s0 : List Int × Int × Int) : Option YH := Qu.top (Qu.l4 n n) s0
def Qu.f (s0 : List Int × Int × Int) : Option YH := Qu.fn NN s0
end
end Go.Pl

namespace Go.Pl
open Go.Ev
set_option linter.unusedVariables false
noncomputable section
def QY.g6 (L6 : YI → YD → Option YH) (s0 : List Int × Int × Int) (p : List YA) : Option YH :=
 (Qd.f s0 2).bind fun r6 =>
 if (decide (((p.length : Int) : Int) < (IntKind.i64.wrap (60 + r6.1)))) = true then
 if p.length + ([(0, ((⟨#[112, 97, 108, 109]⟩ : ByteArray), 1))]).length < room 32 then
 L6 r6.2 (p ++ ([(0, ((⟨#[112, 97, 108, 109]⟩ : ByteArray), 1))]))
 else
 none
 else
 some (p, r6.2)
def QY.l6 (n : Nat) : Nat → YI → YD → Option YH
 | 0 => fun _ _ => none
 | k + 1 => QY.g6 (QY.l6 n k)
def QY.top (I6 : YI → YD → Option YH) (s0 : List Int × Int × Int) : Option YH :=
 (Qu.f s0).bind fun r1 =>
 (Qd.f r1.2 30).bind fun r2 =>
 if ((r2.1 : Int) == 0) = true then
 (Qd.f r2.2 6).bind fun r3 =>
 (Qaw.f r3.2).bind fun r4 =>
 (Qae.f r4.2 ([0, 1, 1000, 1001])).bind fun r5 =>
 if r1.1.length + ([(IntKind.i64.wrap (r3.1 - 1), (r4.1, r5.1))]).length < room 32 then
 some (r1.1 ++ ([(IntKind.i64.wrap (r3.1 - 1), (r4.1, r5.1))]), r5.2)
 else
 none
 else if ((r2.1 : Int) == 1) = true then
 I6 r2.2 r1.1
 else if ((r2.1 : Int) == 2) = true then
 if r1.1.length + ([(0, ((⟨#[97, 115, 116, 101, 114]⟩ : ByteArray), 1000)), (0, ((⟨#[97, 115, 116, 101, 114]⟩ : ByteArray), 700))]).length < room 32 then
 some (r1.1 ++ ([(0, ((⟨#[97, 115, 116, 101, 114]⟩ : ByteArray), 1000)), (0, ((⟨#[97, 115, 116, 101, 114]⟩ : ByteArray), 700))]), r2.2)
 else
 none
 else
 some (r1.1, r2.2)
def QY.fn (n : Nat) (s0 : List Int × Int × Int) : Option YH := QY.top (QY.l6 n n) s0
def QY.f (s0 : List Int × Int × Int) : Option YH := QY.fn NN s0
end
end Go.Pl

namespace Go.Pl
open Go.Ev
set_option linter.unusedVariables false
noncomputable section
def QaE.top (p : List Int) : Option YF :=
 (QW.f p).bind fun r1 =>
 (Qn.f r1).bind fun r2 =>
 (QaC.f r2.1).bind fun r3 =>
 (Qd.f r2.2 12).bind fun r4 =>
 if ((r4.1 : Int) == 0) = true then
 (Q8.f r4.2).bind fun r5 =>
 some (r5.1, r3.1.2)
 else if ((r4.1 : Int) == 1) = true then
 (Qaa.f r4.2).bind fun r6 =>
 some (r3.1.1, (r6.1, r3.1.2.2))
 else if ((r4.1 : Int) == 2) = true then
 (QY.f r4.2).bind fun r7 =>
 some (r3.1.1, (r3.1.2.1, r7.1))
 else
 some r3.1
def QaE.fn (n : Nat) (p : List Int) : Option YF := QaE.top p
def QaE.f (p : List Int) : Option YF := QaE.fn NN p
end
end Go.Pl

namespace Go.Pl
open Go.Ev
set_option linter.unusedVariables false
noncomputable section
def Qbi.top (d0 : YD × YE × List YA) : Option Bool :=
 (QC.f d0.1).bind fun r1 =>
 if r1 = true then
 (Qq.f d0.2.1).bind fun r2 =>
 if r2 = true then
 (Qi.f d0.2.2).bind fun r3 =>
 some r3
 else
 some false
 else
 some false
def Qbi.fn (n : Nat) (d0 : YD × YE × List YA) : Option Bool := Qbi.top d0
def Qbi.f (d0 : YD × YE × List YA) : Option Bool := Qbi.fn NN d0
end
end Go.Pl

namespace Go.Pl
open Go.Ev
set_option linter.unusedVariables false
noncomputable section
def Qbh.top (p : List Int) : Option Bool :=
 (Qbo.f p).bind fun r1 =>
 if r1 = true then
 some true
 else
 (Qat.f p).bind fun r2 =>
 (QaK.f r2).bind fun r3 =>
 (QaC.f r2).bind fun r4 =>
 (QaE.f p).bind fun r5 =>
 if ((r3.2 : Int) != r4.2) = false then
 (QK.f r3.1.1 r4.1.1).bind fun r6 =>
 if (!r6) = false then
 (Qw.f r3.1.2.1 r4.1.2.1).bind fun r7 =>
 if (!r7) = false then
 (Qr.f r3.1.2.2 r4.1.2.2).bind fun r8 =>
 if (!r8) = false then
 (Qbg.f r5).bind fun r9 =>
 (Qbi.f r5).bind fun r10 =>
 if (!(r9 == r10)) = true then
 some false
 else if ((r3.2 : Int) != 0) = false then
 (Qbg.f r3.1).bind fun r11 =>
 some r11
 else
 some true
 else
 some false
 else
 some false
 else
 some false
 else
 some false
def Qbh.fn (n : Nat) (p : List Int) : Option Bool := Qbh.top p
def Qbh.f (p : List Int) : Option Bool := Qbh.fn NN p
end
end Go.Pl

namespace Go.Ev.Tryz
open Go.Proofs Go.Pl
set_option linter.unusedVariables false
noncomputable section
def Qbo.con : Con := { ps := [(.val, (.sl 5 (.int .u8)))], rs := [(.val, .bool)], F := fun x => Qbo.f x }
def Qbo.cs : List (FuncId × Con) := []
def Qbo.E : Env := envOf tab Qbo.cs 0 false
def Qbo.keep (i : Nat) : List Nat := []
set_option maxRecDepth 100000 in
theorem Qbo.body (n : Nat) (x : List Int) : bodyF Qbo.E Qbo.keep n Tryz.f12 Qbo.con x = Qbo.fn n x := by
 have h : bodyF Qbo.E Qbo.keep n Tryz.f12 Qbo.con x = Qbo.top x := by kernel_rfl
 exact h
set_option maxRecDepth 100000 in
theorem Qbo.good : Good Tryz.prog 12 Qbo.con :=
 Vf tabok (cs := Qbo.cs) trivial 0 false (fn := Tryz.f12) Tryz.func12 rfl (by decide) (by simp [Qbo.con]) Qbo.keep NN (fun _ => rfl) (fun x => Qbo.body NN x)
end
end Go.Ev.Tryz

namespace Go.Ev.Tryz
open Go.Proofs Go.Pl
set_option linter.unusedVariables false
noncomputable section
def QQ.st4 (s0 : ByteArray) (by1 : Int) (p : Int) (i7 : Int) (q : List ByteArray) : St := ⟨[.dat .str s0, .dat (.int .u8) by1, .gone, .gone, .gone, .ref 0, .dat (.int .i64) p, .dat (.int .i64) i7, .gone, .gone, .gone, .gone, .gone, .gone, .gone, .gone, .gone, .gone, .gone, .gone, .gone, .gone, .gone, .gone, .gone, .gone, .gone, .gone, .gone, .gone, .gone, .gone, .gone, .gone, .gone, .gone], [.row 9 .str q none]⟩
def QQ.con : Con := { ps := [(.val, .str), (.val, (.int .u8))], rs := [(.own, (.sl 9 .str))], F := fun x => QQ.f x.1 x.2 }
def QQ.cs : List (FuncId × Con) := []
def QQ.E : Env := envOf tab QQ.cs 0 false
def QQ.keep (i : Nat) : List Nat := if i = 4 then [0, 1, 5, 6, 7] else []
def QQ.at4 (n : Nat) (x : ByteArray × Int) : Code × (Ex → St → Option (YJ)) := ctx QQ.E QQ.keep n [.snd, .snd, .snd, .fst, .snd, .blk] (Vg Tryz.f62) (kEnd QQ.E Tryz.f62 QQ.con x)
def QQ.LN4 (n : Nat) (x : ByteArray × Int) : Nat → St → Option (YJ) := loopN (exec QQ.E QQ.keep n (Vj (QQ.at4 n x).1)) (St.norm 0 (QQ.keep 4)) (QQ.at4 n x).2
set_option maxRecDepth 100000 in
theorem QQ.lem4 (n : Nat) (x : ByteArray × Int) : ∀ (k : Nat) (s0 : ByteArray) (by1 : Int) (p : Int) (i7 : Int) (q : List ByteArray), QQ.LN4 n x k (QQ.st4 s0 by1 p i7 q) = QQ.l4 n k s0 by1 p i7 q := by
 intro k
 induction k with
 | zero => intro s0 by1 p i7 q; rfl
 | succ k ih =>
  intro s0 by1 p i7 q
  have h : QQ.LN4 n x (k + 1) (QQ.st4 s0 by1 p i7 q) = QQ.g4 (fun s0 by1 p i7 q => QQ.LN4 n x k (QQ.st4 s0 by1 p i7 q)) s0 by1 p i7 q := by kernel_rfl
  rw [h]
  simp only [ih]
  rfl
set_option maxRecDepth 100000 in
theorem QQ.body (n : Nat) (x : ByteArray × Int) : bodyF QQ.E QQ.keep n Tryz.f62 QQ.con x = QQ.fn n x.1 x.2 := by
 have h : bodyF QQ.E QQ.keep n Tryz.f62 QQ.con x = QQ.top (fun s0 by1 p i7 q => QQ.LN4 n x n (QQ.st4 s0 by1 p i7 q)) x.1 x.2 := by kernel_rfl
 rw [h]
 simp only [QQ.lem4]
 rfl
set_option maxRecDepth 100000 in
theorem QQ.good : Good Tryz.prog 62 QQ.con :=
 Vf tabok (cs := QQ.cs) trivial 0 false (fn := Tryz.f62) Tryz.func62 rfl (by decide) (by simp [QQ.con]) QQ.keep NN (fun _ => rfl) (fun x => QQ.body NN x)
end
end Go.Ev.Tryz

namespace Go.Ev.Tryz
open Go.Proofs Go.Pl
set_option linter.unusedVariables false
noncomputable section
def QaF.con : Con := { ps := [(.val, .str)], rs := [(.val, (.sl 9 .str))], F := fun x => QaF.f x }
def QaF.cs : List (FuncId × Con) := [(62, QQ.con)]
def QaF.E : Env := envOf tab QaF.cs 0 false
def QaF.keep (i : Nat) : List Nat := []
set_option maxRecDepth 100000 in
theorem QaF.body (n : Nat) (x : ByteArray) : bodyF QaF.E QaF.keep n Tryz.f32 QaF.con x = QaF.fn n x := by
 have h : bodyF QaF.E QaF.keep n Tryz.f32 QaF.con x = QaF.top x := by kernel_rfl
 exact h
set_option maxRecDepth 100000 in
theorem QaF.good : Good Tryz.prog 32 QaF.con :=
 Vf tabok (cs := QaF.cs) ⟨QQ.good, trivial⟩ 0 false (fn := Tryz.f32) Tryz.func32 rfl (by decide) (by simp [QaF.con]) QaF.keep NN (fun _ => rfl) (fun x => QaF.body NN x)
end
end Go.Ev.Tryz

namespace Go.Ev.Tryz
open Go.Proofs Go.Pl
set_option linter.unusedVariables false
noncomputable section
def Qa4.con : Con := { ps := [(.val, .str)], rs := [(.val, .bool)], F := fun x => Qa4.f x }
def Qa4.cs : List (FuncId × Con) := [(32, QaF.con)]
def Qa4.E : Env := envOf tab Qa4.cs 0 false
def Qa4.keep (i : Nat) : List Nat := []
set_option maxRecDepth 100000 in
theorem Qa4.body (n : Nat) (x : ByteArray) : bodyF Qa4.E Qa4.keep n Tryz.f30 Qa4.con x = Qa4.fn n x := by
 have h : bodyF Qa4.E Qa4.keep n Tryz.f30 Qa4.con x = Qa4.top x := by kernel_rfl
 exact h
set_option maxRecDepth 100000 in
theorem Qa4.good : Good Tryz.prog 30 Qa4.con :=
 Vf tabok (cs := Qa4.cs) ⟨QaF.good, trivial⟩ 0 false (fn := Tryz.f30) Tryz.func30 rfl (by decide) (by simp [Qa4.con]) Qa4.keep NN (fun _ => rfl) (fun x => Qa4.body NN x)
end
end Go.Ev.Tryz

namespace Go.Ev.Tryz
open Go.Proofs Go.Pl
set_option linter.unusedVariables false
noncomputable section
def Qbf.con : Con := { ps := [], rs := [(.own, (.pair (.sl 70 (.pair (.int .i64) (.pair .str (.int .i64)))) (.pair (.sl 72 (.pair (.int .i64) (.int .i64))) (.sl 74 (.pair (.int .i64) (.pair .str (.int .i64)))))))], F := fun x => Qbf.f  }
def Qbf.cs : List (FuncId × Con) := []
def Qbf.E : Env := envOf tab Qbf.cs 0 false
def Qbf.keep (i : Nat) : List Nat := []
set_option maxRecDepth 100000 in
theorem Qbf.body (n : Nat) (x : Unit) : bodyF Qbf.E Qbf.keep n Tryz.f60 Qbf.con x = Qbf.fn n  := by
 have h : bodyF Qbf.E Qbf.keep n Tryz.f60 Qbf.con x = Qbf.top  := by kernel_rfl
 exact h
set_option maxRecDepth 100000 in
theorem Qbf.good : Good Tryz.prog 60 Qbf.con :=
 Vf tabok (cs := Qbf.cs) trivial 0 false (fn := Tryz.f60) Tryz.func60 rfl (by decide) (by simp [Qbf.con]) Qbf.keep NN (fun _ => rfl) (fun x => Qbf.body NN x)
end
end Go.Ev.Tryz

namespace Go.Ev.Tryz
open Go.Proofs Go.Pl
set_option linter.unusedVariables false
noncomputable section
def QaZ.con : Con := { ps := [(.val, .str)], rs := [(.val, .str)], F := fun x => QaZ.f x }
def QaZ.cs : List (FuncId × Con) := []
def QaZ.E : Env := envOf tab QaZ.cs 0 false
def QaZ.keep (i : Nat) : List Nat := []
set_option maxRecDepth 100000 in
theorem QaZ.body (n : Nat) (x : ByteArray) : bodyF QaZ.E QaZ.keep n Tryz.f74 QaZ.con x = QaZ.fn n x := by
 have h : bodyF QaZ.E QaZ.keep n Tryz.f74 QaZ.con x = QaZ.top x := by kernel_rfl
 exact h
set_option maxRecDepth 100000 in
theorem QaZ.good : Good Tryz.prog 74 QaZ.con :=
 Vf tabok (cs := QaZ.cs) trivial 0 false (fn := Tryz.f74) Tryz.func74 rfl (by decide) (by simp [QaZ.con]) QaZ.keep NN (fun _ => rfl) (fun x => QaZ.body NN x)
end
end Go.Ev.Tryz

namespace Go.Ev.Tryz
open Go.Proofs Go.Pl
set_option linter.unusedVariables false
noncomputable section
def Qf.topraw (S : Int → Option ByteArray) (n0 : Int) : Option ByteArray :=
 if (decide ((n0 : Int) < 10)) = true then
  some (bytesOf ([IntKind.u8.wrap (IntKind.i64.wrap (48 + n0))]))
 else
  agree (
   (S (IntKind.i64.wrap (Int.tdiv n0 10))).bind fun r1 =>
   if r1.size + (bytesOf ([IntKind.u8.wrap (IntKind.i64.wrap (48 + (Int.tmod n0 10)))])).size ≤ 9223372036854775807 then
    some (r1 ++ (bytesOf ([IntKind.u8.wrap (IntKind.i64.wrap (48 + (Int.tmod n0 10)))])))
   else
    none
  ) (
   (S (IntKind.i64.wrap (Int.tdiv n0 10))).bind fun r1 =>
   if r1.size + (bytesOf ([IntKind.u8.wrap (IntKind.i64.wrap (48 + (Int.tmod n0 10)))])).size ≤ 9223372036854775807 then
    some (r1 ++ (bytesOf ([IntKind.u8.wrap (IntKind.i64.wrap (48 + (Int.tmod n0 10)))])))
   else
    none
  )
theorem Qf.topraw_eq (S : Int → Option ByteArray) (n0 : Int) : (Qf.topraw S) n0 = (Qf.top S) n0 := by
 unfold Qf.topraw Qf.top
 simp only [Vt]
def Qf.con (S : Int → Option ByteArray) : Con := { ps := [(.val, (.int .i64))], rs := [(.val, .str)], F := fun x => S x }
def Qf.cs (S : Int → Option ByteArray) : List (FuncId × Con) := [(68, (Qf.con S))]
def Qf.E (S : Int → Option ByteArray) : Env := envOf tab (Qf.cs S) 0 false
def Qf.keep (i : Nat) : List Nat := []
set_option maxRecDepth 100000 in
theorem Qf.body (S : Int → Option ByteArray) (n : Nat) (x : Int) : bodyF (Qf.E S) Qf.keep n Tryz.f68 (Qf.con S) x = (Qf.fn S) n x := by
 have h : bodyF (Qf.E S) Qf.keep n Tryz.f68 (Qf.con S) x = (Qf.topraw S) x := by kernel_rfl
 rw [(Qf.topraw_eq S)] at h
 exact h
set_option maxRecDepth 100000 in
theorem Qf.goodk : ∀ k : Nat, Good Tryz.prog 68 (Qf.con (Qf.rc k)) := by
 intro k
 induction k with
 | zero => exact VeH (fn := Tryz.f68) Tryz.func68 rfl (by decide) (by simp [Qf.con]) (fun _ => rfl)
 | succ k ih => exact Vf tabok (cs := Qf.cs (Qf.rc k)) ⟨ih, trivial⟩ 0 false (fn := Tryz.f68) Tryz.func68 rfl (by decide) (by simp [Qf.con]) Qf.keep NN (fun _ => rfl) (fun x => Qf.body (Qf.rc k) NN x)
theorem Qf.good : Good Tryz.prog 68 (Qf.con (fun n0 => Qf.f n0)) := Qf.goodk NN
end
end Go.Ev.Tryz

namespace Go.Ev.Tryz
open Go.Proofs Go.Pl
set_option linter.unusedVariables false
noncomputable section
def QM.st5 (s0 : ByteArray) (n4 : Int) (i5 : Int) : St := ⟨[.dat .str s0, .gone, .gone, .gone, .dat (.int .i64) n4, .dat (.int .i64) i5, .gone, .gone, .gone, .gone, .gone, .gone, .gone, .gone, .gone, .gone, .gone, .gone, .gone, .gone, .gone, .gone, .gone, .gone, .gone, .gone, .gone, .gone, .gone, .gone, .gone, .gone, .gone, .gone, .gone, .gone, .gone, .gone, .gone, .gone, .gone, .gone, .gone], []⟩
def QM.con : Con := { ps := [(.val, .str)], rs := [(.val, (.int .i64)), (.val, .bool)], F := fun x => QM.f x }
def QM.cs : List (FuncId × Con) := [(68, (Qf.con (fun a0 => Qf.f a0)))]
def QM.E : Env := envOf tab QM.cs 0 false
def QM.keep (i : Nat) : List Nat := if i = 5 then [0, 4, 5] else []
def QM.at5 (n : Nat) (x : ByteArray) : Code × (Ex → St → Option (YAK)) := ctx QM.E QM.keep n [.snd, .snd, .snd, .fst, .snd, .blk] (Vg Tryz.f75) (kEnd QM.E Tryz.f75 QM.con x)
def QM.LN5 (n : Nat) (x : ByteArray) : Nat → St → Option (YAK) := loopN (exec QM.E QM.keep n (Vj (QM.at5 n x).1)) (St.norm 0 (QM.keep 5)) (QM.at5 n x).2
set_option maxRecDepth 100000 in
theorem QM.lem5 (n : Nat) (x : ByteArray) : ∀ (k : Nat) (s0 : ByteArray) (n4 : Int) (i5 : Int), QM.LN5 n x k (QM.st5 s0 n4 i5) = QM.l5 n k s0 n4 i5 := by
 intro k
 induction k with
 | zero => intro s0 n4 i5; rfl
 | succ k ih =>
  intro s0 n4 i5
  have h : QM.LN5 n x (k + 1) (QM.st5 s0 n4 i5) = QM.g5 (fun s0 n4 i5 => QM.LN5 n x k (QM.st5 s0 n4 i5)) s0 n4 i5 := by kernel_rfl
  rw [h]
  simp only [ih]
  rfl
set_option maxRecDepth 100000 in
theorem QM.body (n : Nat) (x : ByteArray) : bodyF QM.E QM.keep n Tryz.f75 QM.con x = QM.fn n x := by
 have h : bodyF QM.E QM.keep n Tryz.f75 QM.con x = QM.top (fun s0 n4 i5 => QM.LN5 n x n (QM.st5 s0 n4 i5)) x := by kernel_rfl
 rw [h]
 simp only [QM.lem5]
 rfl
set_option maxRecDepth 100000 in
theorem QM.good : Good Tryz.prog 75 QM.con :=
 Vf tabok (cs := QM.cs) ⟨Qf.good, trivial⟩ 0 false (fn := Tryz.f75) Tryz.func75 rfl (by decide) (by simp [QM.con]) QM.keep NN (fun _ => rfl) (fun x => QM.body NN x)
end
end Go.Ev.Tryz

namespace Go.Ev.Tryz
open Go.Proofs Go.Pl
set_option linter.unusedVariables false
noncomputable section
def QaG.con : Con := { ps := [(.val, .str)], rs := [(.val, (.int .i64)), (.val, .bool)], F := fun x => QaG.f x }
def QaG.cs : List (FuncId × Con) := [(75, QM.con)]
def QaG.E : Env := envOf tab QaG.cs 0 false
def QaG.keep (i : Nat) : List Nat := []
set_option maxRecDepth 100000 in
theorem QaG.body (n : Nat) (x : ByteArray) : bodyF QaG.E QaG.keep n Tryz.f76 QaG.con x = QaG.fn n x := by
 have h : bodyF QaG.E QaG.keep n Tryz.f76 QaG.con x = QaG.top x := by kernel_rfl
 exact h
set_option maxRecDepth 100000 in
theorem QaG.good : Good Tryz.prog 76 QaG.con :=
 Vf tabok (cs := QaG.cs) ⟨QM.good, trivial⟩ 0 false (fn := Tryz.f76) Tryz.func76 rfl (by decide) (by simp [QaG.con]) QaG.keep NN (fun _ => rfl) (fun x => QaG.body NN x)
end
end Go.Ev.Tryz

namespace Go.Ev.Tryz
open Go.Proofs Go.Pl
set_option linter.unusedVariables false
noncomputable section
def Qs.st7 (q : ByteArray) (i8 : Int) (p : List ByteArray) (n7 : List Int) : St := ⟨[.gone, .gone, .gone, .gone, .gone, .ref 0, .dat .str q, .ref 1, .dat (.int .i64) i8, .gone, .gone, .gone, .gone, .gone, .gone, .gone, .gone, .gone, .gone, .gone, .gone, .gone, .gone, .gone, .gone, .gone, .gone, .gone, .gone, .gone, .gone, .gone, .gone, .gone, .gone, .gone, .gone, .gone, .gone, .gone, .gone, .gone, .gone, .gone, .gone, .gone, .gone, .gone, .gone, .gone, .gone, .gone, .gone, .gone, .gone, .gone, .gone, .gone, .gone, .gone, .gone, .gone, .gone, .gone, .gone, .gone, .gone], [.row 9 .str p none, .row 2 (.int .i64) n7 none]⟩
def Qs.con : Con := { ps := [(.val, .str)], rs := [(.own, (.sl 9 .str)), (.own, (.sl 2 (.int .i64))), (.own, .bool)], F := fun x => Qs.f x }
def Qs.cs : List (FuncId × Con) := [(62, QQ.con), (74, QaZ.con), (75, QM.con), (76, QaG.con)]
def Qs.E : Env := envOf tab Qs.cs 0 false
def Qs.keep (i : Nat) : List Nat := if i = 7 then [5, 6, 7, 8] else []
def Qs.at7 (n : Nat) (x : ByteArray) : Code × (Ex → St → Option (YAB)) := ctx Qs.E Qs.keep n [.snd, .snd, .snd, .snd, .snd, .fst, .snd, .blk] (Vg Tryz.f41) (kEnd Qs.E Tryz.f41 Qs.con x)
def Qs.LN7 (n : Nat) (x : ByteArray) : Nat → St → Option (YAB) := loopN (exec Qs.E Qs.keep n (Vj (Qs.at7 n x).1)) (St.norm 0 (Qs.keep 7)) (Qs.at7 n x).2
set_option maxRecDepth 100000 in
theorem Qs.lem7 (n : Nat) (x : ByteArray) : ∀ (k : Nat) (q : ByteArray) (i8 : Int) (p : List ByteArray) (n7 : List Int), Qs.LN7 n x k (Qs.st7 q i8 p n7) = Qs.l7 n k q i8 p n7 := by
 intro k
 induction k with
 | zero => intro q i8 p n7; rfl
 | succ k ih =>
  intro q i8 p n7
  have h : Qs.LN7 n x (k + 1) (Qs.st7 q i8 p n7) = Qs.g7 (fun q i8 p n7 => Qs.LN7 n x k (Qs.st7 q i8 p n7)) q i8 p n7 := by kernel_rfl
  rw [h]
  simp only [ih]
  rfl
set_option maxRecDepth 100000 in
theorem Qs.body (n : Nat) (x : ByteArray) : bodyF Qs.E Qs.keep n Tryz.f41 Qs.con x = Qs.fn n x := by
 have h : bodyF Qs.E Qs.keep n Tryz.f41 Qs.con x = Qs.top (fun q i8 p n7 => Qs.LN7 n x n (Qs.st7 q i8 p n7)) x := by kernel_rfl
 rw [h]
 simp only [Qs.lem7]
 rfl
set_option maxRecDepth 100000 in
theorem Qs.good : Good Tryz.prog 41 Qs.con :=
 Vf tabok (cs := Qs.cs) ⟨QQ.good, QaZ.good, QM.good, QaG.good, trivial⟩ 0 false (fn := Tryz.f41) Tryz.func41 rfl (by decide) (by simp [Qs.con]) Qs.keep NN (fun _ => rfl) (fun x => Qs.body NN x)
end
end Go.Ev.Tryz

namespace Go.Ev.Tryz
open Go.Proofs Go.Pl
set_option linter.unusedVariables false
noncomputable section
def QaP.con : Con := { ps := [], rs := [(.own, (.sl 9 .str))], F := fun x => QaP.f  }
def QaP.cs : List (FuncId × Con) := []
def QaP.E : Env := envOf tab QaP.cs 0 false
def QaP.keep (i : Nat) : List Nat := []
set_option maxRecDepth 100000 in
theorem QaP.body (n : Nat) (x : Unit) : bodyF QaP.E QaP.keep n Tryz.f71 QaP.con x = QaP.fn n  := by
 have h : bodyF QaP.E QaP.keep n Tryz.f71 QaP.con x = QaP.top  := by kernel_rfl
 exact h
set_option maxRecDepth 100000 in
theorem QaP.good : Good Tryz.prog 71 QaP.con :=
 Vf tabok (cs := QaP.cs) trivial 0 false (fn := Tryz.f71) Tryz.func71 rfl (by decide) (by simp [QaP.con]) QaP.keep NN (fun _ => rfl) (fun x => QaP.body NN x)
end
end Go.Ev.Tryz

namespace Go.Ev.Tryz
open Go.Proofs Go.Pl
set_option linter.unusedVariables false
noncomputable section
def Qaj.con : Con := { ps := [(.val, (.int .i64)), (.val, (.int .i64)), (.val, (.int .i64))], rs := [(.val, .bool)], F := fun x => Qaj.f x.1 x.2.1 x.2.2 }
def Qaj.cs : List (FuncId × Con) := []
def Qaj.E : Env := envOf tab Qaj.cs 0 false
def Qaj.keep (i : Nat) : List Nat := []
set_option maxRecDepth 100000 in
theorem Qaj.body (n : Nat) (x : Int × Int × Int) : bodyF Qaj.E Qaj.keep n Tryz.f92 Qaj.con x = Qaj.fn n x.1 x.2.1 x.2.2 := by
 have h : bodyF Qaj.E Qaj.keep n Tryz.f92 Qaj.con x = Qaj.top x.1 x.2.1 x.2.2 := by kernel_rfl
 exact h
set_option maxRecDepth 100000 in
theorem Qaj.good : Good Tryz.prog 92 Qaj.con :=
 Vf tabok (cs := Qaj.cs) trivial 0 false (fn := Tryz.f92) Tryz.func92 rfl (by decide) (by simp [Qaj.con]) Qaj.keep NN (fun _ => rfl) (fun x => Qaj.body NN x)
end
end Go.Ev.Tryz

namespace Go.Ev.Tryz
open Go.Proofs Go.Pl
set_option linter.unusedVariables false
noncomputable section
def Qar.con : Con := { ps := [(.val, (.int .i64))], rs := [(.val, .bool)], F := fun x => Qar.f x }
def Qar.cs : List (FuncId × Con) := [(92, Qaj.con)]
def Qar.E : Env := envOf tab Qar.cs 0 false
def Qar.keep (i : Nat) : List Nat := []
set_option maxRecDepth 100000 in
theorem Qar.body (n : Nat) (x : Int) : bodyF Qar.E Qar.keep n Tryz.f90 Qar.con x = Qar.fn n x := by
 have h : bodyF Qar.E Qar.keep n Tryz.f90 Qar.con x = Qar.top x := by kernel_rfl
 exact h
set_option maxRecDepth 100000 in
theorem Qar.good : Good Tryz.prog 90 Qar.con :=
 Vf tabok (cs := Qar.cs) ⟨Qaj.good, trivial⟩ 0 false (fn := Tryz.f90) Tryz.func90 rfl (by decide) (by simp [Qar.con]) Qar.keep NN (fun _ => rfl) (fun x => Qar.body NN x)
end
end Go.Ev.Tryz

namespace Go.Ev.Tryz
open Go.Proofs Go.Pl
set_option linter.unusedVariables false
noncomputable section
def QT.st2 (s0 : ByteArray) (i3 : Int) : St := ⟨[.dat .str s0, .gone, .gone, .dat (.int .i64) i3, .gone, .gone, .gone, .gone, .gone, .gone, .gone, .gone, .gone, .gone, .gone, .gone, .gone, .gone, .gone, .gone, .gone, .gone, .gone], []⟩
def QT.con : Con := { ps := [(.val, .str)], rs := [(.val, .bool)], F := fun x => QT.f x }
def QT.cs : List (FuncId × Con) := [(92, Qaj.con)]
def QT.E : Env := envOf tab QT.cs 0 false
def QT.keep (i : Nat) : List Nat := if i = 2 then [0, 3] else []
def QT.at2 (n : Nat) (x : ByteArray) : Code × (Ex → St → Option (Bool)) := ctx QT.E QT.keep n [.snd, .fst, .snd, .blk] (Vg Tryz.f91) (kEnd QT.E Tryz.f91 QT.con x)
def QT.LN2 (n : Nat) (x : ByteArray) : Nat → St → Option (Bool) := loopN (exec QT.E QT.keep n (Vj (QT.at2 n x).1)) (St.norm 0 (QT.keep 2)) (QT.at2 n x).2
set_option maxRecDepth 100000 in
theorem QT.lem2 (n : Nat) (x : ByteArray) : ∀ (k : Nat) (s0 : ByteArray) (i3 : Int), QT.LN2 n x k (QT.st2 s0 i3) = QT.l2 n k s0 i3 := by
 intro k
 induction k with
 | zero => intro s0 i3; rfl
 | succ k ih =>
  intro s0 i3
  have h : QT.LN2 n x (k + 1) (QT.st2 s0 i3) = QT.g2 (fun s0 i3 => QT.LN2 n x k (QT.st2 s0 i3)) s0 i3 := by kernel_rfl
  rw [h]
  simp only [ih]
  rfl
set_option maxRecDepth 100000 in
theorem QT.body (n : Nat) (x : ByteArray) : bodyF QT.E QT.keep n Tryz.f91 QT.con x = QT.fn n x := by
 have h : bodyF QT.E QT.keep n Tryz.f91 QT.con x = QT.top (fun s0 i3 => QT.LN2 n x n (QT.st2 s0 i3)) x := by kernel_rfl
 rw [h]
 simp only [QT.lem2]
 rfl
set_option maxRecDepth 100000 in
theorem QT.good : Good Tryz.prog 91 QT.con :=
 Vf tabok (cs := QT.cs) ⟨Qaj.good, trivial⟩ 0 false (fn := Tryz.f91) Tryz.func91 rfl (by decide) (by simp [QT.con]) QT.keep NN (fun _ => rfl) (fun x => QT.body NN x)
end
end Go.Ev.Tryz

namespace Go.Ev.Tryz
open Go.Proofs Go.Pl
set_option linter.unusedVariables false
noncomputable section
def QB.st3 (q : List YA) (r : ByteArray) (n2 : Int) (p : Int) (i8 : Int) : St := ⟨[.dat (.sl 70 (.pair (.int .i64) (.pair .str (.int .i64)))) q, .dat .str r, .dat (.int .i64) n2, .gone, .gone, .gone, .gone, .dat (.int .i64) p, .dat (.int .i64) i8, .gone, .gone, .gone, .gone, .gone, .gone, .gone, .gone, .gone, .gone, .gone, .gone, .gone, .gone, .gone, .gone, .gone, .gone, .gone, .gone], []⟩
def QB.con : Con := { ps := [(.val, (.sl 70 (.pair (.int .i64) (.pair .str (.int .i64))))), (.val, .str), (.val, (.int .i64))], rs := [(.val, (.int .i64))], F := fun x => QB.f x.1 x.2.1 x.2.2 }
def QB.cs : List (FuncId × Con) := []
def QB.E : Env := envOf tab QB.cs 0 false
def QB.keep (i : Nat) : List Nat := if i = 3 then [0, 1, 2, 7, 8] else []
def QB.at3 (n : Nat) (x : YD × ByteArray × Int) : Code × (Ex → St → Option (Int)) := ctx QB.E QB.keep n [.snd, .snd, .fst, .snd, .blk] (Vg Tryz.f93) (kEnd QB.E Tryz.f93 QB.con x)
def QB.LN3 (n : Nat) (x : YD × ByteArray × Int) : Nat → St → Option (Int) := loopN (exec QB.E QB.keep n (Vj (QB.at3 n x).1)) (St.norm 0 (QB.keep 3)) (QB.at3 n x).2
set_option maxRecDepth 100000 in
theorem QB.lem3 (n : Nat) (x : YD × ByteArray × Int) : ∀ (k : Nat) (q : List YA) (r : ByteArray) (n2 : Int) (p : Int) (i8 : Int), QB.LN3 n x k (QB.st3 q r n2 p i8) = QB.l3 n k q r n2 p i8 := by
 intro k
 induction k with
 | zero => intro q r n2 p i8; rfl
 | succ k ih =>
  intro q r n2 p i8
  have h : QB.LN3 n x (k + 1) (QB.st3 q r n2 p i8) = QB.g3 (fun q r n2 p i8 => QB.LN3 n x k (QB.st3 q r n2 p i8)) q r n2 p i8 := by kernel_rfl
  rw [h]
  simp only [ih]
  rfl
set_option maxRecDepth 100000 in
theorem QB.body (n : Nat) (x : YD × ByteArray × Int) : bodyF QB.E QB.keep n Tryz.f93 QB.con x = QB.fn n x.1 x.2.1 x.2.2 := by
 have h : bodyF QB.E QB.keep n Tryz.f93 QB.con x = QB.top (fun q r n2 p i8 => QB.LN3 n x n (QB.st3 q r n2 p i8)) x.1 x.2.1 x.2.2 := by kernel_rfl
 rw [h]
 simp only [QB.lem3]
 rfl
set_option maxRecDepth 100000 in
theorem QB.good : Good Tryz.prog 93 QB.con :=
 Vf tabok (cs := QB.cs) trivial 0 false (fn := Tryz.f93) Tryz.func93 rfl (by decide) (by simp [QB.con]) QB.keep NN (fun _ => rfl) (fun x => QB.body NN x)
end
end Go.Ev.Tryz

namespace Go.Ev.Tryz
open Go.Proofs Go.Pl
set_option linter.unusedVariables false
noncomputable section
def QC.st2 (p : List YA) (i3 : Int) : St := ⟨[.dat (.sl 70 (.pair (.int .i64) (.pair .str (.int .i64)))) p, .gone, .gone, .dat (.int .i64) i3, .gone, .gone, .gone, .gone, .gone, .gone, .gone, .gone, .gone, .gone, .gone, .gone, .gone, .gone, .gone, .gone, .gone, .gone, .gone, .gone, .gone, .gone, .gone, .gone, .gone, .gone, .gone, .gone, .gone, .gone, .gone, .gone, .gone, .gone, .gone, .gone, .gone, .gone, .gone, .gone, .gone, .gone, .gone, .gone, .gone, .gone, .gone, .gone, .gone, .gone, .gone, .gone, .gone, .gone, .gone, .gone, .gone, .gone, .gone], []⟩
def QC.con : Con := { ps := [(.val, (.sl 70 (.pair (.int .i64) (.pair .str (.int .i64)))))], rs := [(.val, .bool)], F := fun x => QC.f x }
def QC.cs : List (FuncId × Con) := [(90, Qar.con), (91, QT.con), (92, Qaj.con), (93, QB.con)]
def QC.E : Env := envOf tab QC.cs 0 false
def QC.keep (i : Nat) : List Nat := if i = 2 then [0, 3] else []
def QC.at2 (n : Nat) (x : List YA) : Code × (Ex → St → Option (Bool)) := ctx QC.E QC.keep n [.snd, .fst, .snd, .blk] (Vg Tryz.f57) (kEnd QC.E Tryz.f57 QC.con x)
def QC.LN2 (n : Nat) (x : List YA) : Nat → St → Option (Bool) := loopN (exec QC.E QC.keep n (Vj (QC.at2 n x).1)) (St.norm 0 (QC.keep 2)) (QC.at2 n x).2
set_option maxRecDepth 100000 in
theorem QC.lem2 (n : Nat) (x : List YA) : ∀ (k : Nat) (p : List YA) (i3 : Int), QC.LN2 n x k (QC.st2 p i3) = QC.l2 n k p i3 := by
 intro k
 induction k with
 | zero => intro p i3; rfl
 | succ k ih =>
  intro p i3
  have h : QC.LN2 n x (k + 1) (QC.st2 p i3) = QC.g2 (fun p i3 => QC.LN2 n x k (QC.st2 p i3)) p i3 := by kernel_rfl
  rw [h]
  simp only [ih]
  rfl
set_option maxRecDepth 100000 in
theorem QC.body (n : Nat) (x : List YA) : bodyF QC.E QC.keep n Tryz.f57 QC.con x = QC.fn n x := by
 have h : bodyF QC.E QC.keep n Tryz.f57 QC.con x = QC.top (fun p i3 => QC.LN2 n x n (QC.st2 p i3)) x := by kernel_rfl
 rw [h]
 simp only [QC.lem2]
 rfl
set_option maxRecDepth 100000 in
theorem QC.good : Good Tryz.prog 57 QC.con :=
 Vf tabok (cs := QC.cs) ⟨Qar.good, QT.good, Qaj.good, QB.good, trivial⟩ 0 false (fn := Tryz.f57) Tryz.func57 rfl (by decide) (by simp [QC.con]) QC.keep NN (fun _ => rfl) (fun x => QC.body NN x)
end
end Go.Ev.Tryz

namespace Go.Ev.Tryz
open Go.Proofs Go.Pl
set_option linter.unusedVariables false
noncomputable section
def Qal.tr0 (p : List YA) (m1 : Int × ByteArray × Int) : Option YW :=
 if ([] : List YA).length + p.length < room 32 then
  if (([] : List YA) ++ p).length + ([m1]).length < room 32 then
   (QC.f ((([] : List YA) ++ p) ++ ([m1]))).bind fun r2 =>
   if (!r2) = true then
    some ([], 5)
   else
    some ((([] : List YA) ++ p) ++ ([m1]), 0)
  else
   none
 else
  none
def Qal.tr1 (p : List YA) (m1 : Int × ByteArray × Int) : Option YW :=
 agree (
  Qal.tr0 p m1
 ) (
  Qal.tr0 p m1
 )
def Qal.topraw (p : List YA) (m1 : Int × ByteArray × Int) : Option YW :=
 (QC.f p).bind fun r1 =>
 if (!r1) = true then
  some ([], 1)
 else if (((p.length : Int) : Int) == 40) = true then
  some ([], 3)
 else
  agree (
   agree (
    Qal.tr0 p m1
   ) (
    Qal.tr1 p m1
   )
  ) (
   agree (
    Qal.tr1 p m1
   ) (
    Qal.tr0 p m1
   )
  )
theorem Qal.topraw_eq (p : List YA) (m1 : Int × ByteArray × Int) : Qal.topraw p m1 = Qal.top p m1 := by
 unfold Qal.topraw Qal.top
 simp only [Vt, Qal.tr0, Qal.tr1]
def Qal.con : Con := { ps := [(.val, (.sl 70 (.pair (.int .i64) (.pair .str (.int .i64))))), (.val, (.pair (.int .i64) (.pair .str (.int .i64))))], rs := [(.own, (.sl 70 (.pair (.int .i64) (.pair .str (.int .i64))))), (.own, (.int .i64))], F := fun x => Qal.f x.1 x.2 }
def Qal.cs : List (FuncId × Con) := [(57, QC.con)]
def Qal.E : Env := envOf tab Qal.cs 0 false
def Qal.keep (i : Nat) : List Nat := []
set_option maxRecDepth 100000 in
theorem Qal.body (n : Nat) (x : YD × Int × ByteArray × Int) : bodyF Qal.E Qal.keep n Tryz.f114 Qal.con x = Qal.fn n x.1 x.2 := by
 have h : bodyF Qal.E Qal.keep n Tryz.f114 Qal.con x = Qal.topraw x.1 x.2 := by kernel_rfl
 rw [Qal.topraw_eq] at h
 exact h
set_option maxRecDepth 100000 in
theorem Qal.good : Good Tryz.prog 114 Qal.con :=
 Vf tabok (cs := Qal.cs) ⟨QC.good, trivial⟩ 0 false (fn := Tryz.f114) Tryz.func114 rfl (by decide) (by simp [Qal.con]) Qal.keep NN (fun _ => rfl) (fun x => Qal.body NN x)
end
end Go.Ev.Tryz

namespace Go.Ev.Tryz
open Go.Proofs Go.Pl
set_option linter.unusedVariables false
noncomputable section
def QJ.st3 (q : List YA) (p : ByteArray) (n2 : Int) (r : Int) (i8 : Int) : St := ⟨[.dat (.sl 74 (.pair (.int .i64) (.pair .str (.int .i64)))) q, .dat .str p, .dat (.int .i64) n2, .gone, .gone, .gone, .gone, .dat (.int .i64) r, .dat (.int .i64) i8, .gone, .gone, .gone, .gone, .gone, .gone, .gone, .gone, .gone, .gone, .gone, .gone, .gone, .gone, .gone, .gone, .gone, .gone, .gone, .gone, .gone, .gone, .gone, .gone, .gone, .gone, .gone, .gone, .gone, .gone, .gone, .gone, .gone, .gone, .gone], []⟩
def QJ.con : Con := { ps := [(.val, (.sl 74 (.pair (.int .i64) (.pair .str (.int .i64))))), (.val, .str), (.val, (.int .i64))], rs := [(.val, (.int .i64))], F := fun x => QJ.f x.1 x.2.1 x.2.2 }
def QJ.cs : List (FuncId × Con) := []
def QJ.E : Env := envOf tab QJ.cs 0 false
def QJ.keep (i : Nat) : List Nat := if i = 3 then [0, 1, 2, 7, 8] else []
def QJ.at3 (n : Nat) (x : YD × ByteArray × Int) : Code × (Ex → St → Option (Int)) := ctx QJ.E QJ.keep n [.snd, .snd, .fst, .snd, .blk] (Vg Tryz.f94) (kEnd QJ.E Tryz.f94 QJ.con x)
def QJ.LN3 (n : Nat) (x : YD × ByteArray × Int) : Nat → St → Option (Int) := loopN (exec QJ.E QJ.keep n (Vj (QJ.at3 n x).1)) (St.norm 0 (QJ.keep 3)) (QJ.at3 n x).2
set_option maxRecDepth 100000 in
theorem QJ.lem3 (n : Nat) (x : YD × ByteArray × Int) : ∀ (k : Nat) (q : List YA) (p : ByteArray) (n2 : Int) (r : Int) (i8 : Int), QJ.LN3 n x k (QJ.st3 q p n2 r i8) = QJ.l3 n k q p n2 r i8 := by
 intro k
 induction k with
 | zero => intro q p n2 r i8; rfl
 | succ k ih =>
  intro q p n2 r i8
  have h : QJ.LN3 n x (k + 1) (QJ.st3 q p n2 r i8) = QJ.g3 (fun q p n2 r i8 => QJ.LN3 n x k (QJ.st3 q p n2 r i8)) q p n2 r i8 := by kernel_rfl
  rw [h]
  simp only [ih]
  rfl
set_option maxRecDepth 100000 in
theorem QJ.body (n : Nat) (x : YD × ByteArray × Int) : bodyF QJ.E QJ.keep n Tryz.f94 QJ.con x = QJ.fn n x.1 x.2.1 x.2.2 := by
 have h : bodyF QJ.E QJ.keep n Tryz.f94 QJ.con x = QJ.top (fun q p n2 r i8 => QJ.LN3 n x n (QJ.st3 q p n2 r i8)) x.1 x.2.1 x.2.2 := by kernel_rfl
 rw [h]
 simp only [QJ.lem3]
 rfl
set_option maxRecDepth 100000 in
theorem QJ.good : Good Tryz.prog 94 QJ.con :=
 Vf tabok (cs := QJ.cs) trivial 0 false (fn := Tryz.f94) Tryz.func94 rfl (by decide) (by simp [QJ.con]) QJ.keep NN (fun _ => rfl) (fun x => QJ.body NN x)
end
end Go.Ev.Tryz

namespace Go.Ev.Tryz
open Go.Proofs Go.Pl
set_option linter.unusedVariables false
noncomputable section
def Qi.st2 (p : List YA) (i3 : Int) : St := ⟨[.dat (.sl 74 (.pair (.int .i64) (.pair .str (.int .i64)))) p, .gone, .gone, .dat (.int .i64) i3, .gone, .gone, .gone, .gone, .gone, .gone, .gone, .gone, .gone, .gone, .gone, .gone, .gone, .gone, .gone, .gone, .gone, .gone, .gone, .gone, .gone, .gone, .gone, .gone, .gone, .gone, .gone, .gone, .gone, .gone, .gone, .gone, .gone, .gone, .gone, .gone, .gone, .gone, .gone], []⟩
def Qi.con : Con := { ps := [(.val, (.sl 74 (.pair (.int .i64) (.pair .str (.int .i64)))))], rs := [(.val, .bool)], F := fun x => Qi.f x }
def Qi.cs : List (FuncId × Con) := [(91, QT.con), (92, Qaj.con), (94, QJ.con)]
def Qi.E : Env := envOf tab Qi.cs 0 false
def Qi.keep (i : Nat) : List Nat := if i = 2 then [0, 3] else []
def Qi.at2 (n : Nat) (x : List YA) : Code × (Ex → St → Option (Bool)) := ctx Qi.E Qi.keep n [.snd, .fst, .snd, .blk] (Vg Tryz.f59) (kEnd Qi.E Tryz.f59 Qi.con x)
def Qi.LN2 (n : Nat) (x : List YA) : Nat → St → Option (Bool) := loopN (exec Qi.E Qi.keep n (Vj (Qi.at2 n x).1)) (St.norm 0 (Qi.keep 2)) (Qi.at2 n x).2
set_option maxRecDepth 100000 in
theorem Qi.lem2 (n : Nat) (x : List YA) : ∀ (k : Nat) (p : List YA) (i3 : Int), Qi.LN2 n x k (Qi.st2 p i3) = Qi.l2 n k p i3 := by
 intro k
 induction k with
 | zero => intro p i3; rfl
 | succ k ih =>
  intro p i3
  have h : Qi.LN2 n x (k + 1) (Qi.st2 p i3) = Qi.g2 (fun p i3 => Qi.LN2 n x k (Qi.st2 p i3)) p i3 := by kernel_rfl
  rw [h]
  simp only [ih]
  rfl
set_option maxRecDepth 100000 in
theorem Qi.body (n : Nat) (x : List YA) : bodyF Qi.E Qi.keep n Tryz.f59 Qi.con x = Qi.fn n x := by
 have h : bodyF Qi.E Qi.keep n Tryz.f59 Qi.con x = Qi.top (fun p i3 => Qi.LN2 n x n (Qi.st2 p i3)) x := by kernel_rfl
 rw [h]
 simp only [Qi.lem2]
 rfl
set_option maxRecDepth 100000 in
theorem Qi.good : Good Tryz.prog 59 Qi.con :=
 Vf tabok (cs := Qi.cs) ⟨QT.good, Qaj.good, QJ.good, trivial⟩ 0 false (fn := Tryz.f59) Tryz.func59 rfl (by decide) (by simp [Qi.con]) Qi.keep NN (fun _ => rfl) (fun x => Qi.body NN x)
end
end Go.Ev.Tryz

namespace Go.Ev.Tryz
open Go.Proofs Go.Pl
set_option linter.unusedVariables false
noncomputable section
def Qz.tr0 (p : List YA) (b1 : Int × ByteArray × Int) : Option YW :=
 if ([] : List YA).length + p.length < room 32 then
  if (([] : List YA) ++ p).length + ([b1]).length < room 32 then
   (Qi.f ((([] : List YA) ++ p) ++ ([b1]))).bind fun r2 =>
   if (!r2) = true then
    some ([], 5)
   else
    some ((([] : List YA) ++ p) ++ ([b1]), 0)
  else
   none
 else
  none
def Qz.tr1 (p : List YA) (b1 : Int × ByteArray × Int) : Option YW :=
 agree (
  Qz.tr0 p b1
 ) (
  Qz.tr0 p b1
 )
def Qz.topraw (p : List YA) (b1 : Int × ByteArray × Int) : Option YW :=
 (Qi.f p).bind fun r1 =>
 if (!r1) = true then
  some ([], 1)
 else if (((p.length : Int) : Int) == 60) = true then
  some ([], 3)
 else
  agree (
   agree (
    Qz.tr0 p b1
   ) (
    Qz.tr1 p b1
   )
  ) (
   agree (
    Qz.tr1 p b1
   ) (
    Qz.tr0 p b1
   )
  )
theorem Qz.topraw_eq (p : List YA) (b1 : Int × ByteArray × Int) : Qz.topraw p b1 = Qz.top p b1 := by
 unfold Qz.topraw Qz.top
 simp only [Vt, Qz.tr0, Qz.tr1]
def Qz.con : Con := { ps := [(.val, (.sl 74 (.pair (.int .i64) (.pair .str (.int .i64))))), (.val, (.pair (.int .i64) (.pair .str (.int .i64))))], rs := [(.own, (.sl 74 (.pair (.int .i64) (.pair .str (.int .i64))))), (.own, (.int .i64))], F := fun x => Qz.f x.1 x.2 }
def Qz.cs : List (FuncId × Con) := [(59, Qi.con)]
def Qz.E : Env := envOf tab Qz.cs 0 false
def Qz.keep (i : Nat) : List Nat := []
set_option maxRecDepth 100000 in
theorem Qz.body (n : Nat) (x : YD × Int × ByteArray × Int) : bodyF Qz.E Qz.keep n Tryz.f115 Qz.con x = Qz.fn n x.1 x.2 := by
 have h : bodyF Qz.E Qz.keep n Tryz.f115 Qz.con x = Qz.topraw x.1 x.2 := by kernel_rfl
 rw [Qz.topraw_eq] at h
 exact h
set_option maxRecDepth 100000 in
theorem Qz.good : Good Tryz.prog 115 Qz.con :=
 Vf tabok (cs := Qz.cs) ⟨Qi.good, trivial⟩ 0 false (fn := Tryz.f115) Tryz.func115 rfl (by decide) (by simp [Qz.con]) Qz.keep NN (fun _ => rfl) (fun x => Qz.body NN x)
end
end Go.Ev.Tryz

namespace Go.Ev.Tryz
open Go.Proofs Go.Pl
set_option linter.unusedVariables false
noncomputable section
def QV.st2 (p : List ByteArray) (q : ByteArray) (i5 : Int) : St := ⟨[.dat (.sl 9 .str) p, .dat .str q, .gone, .gone, .gone, .dat (.int .i64) i5, .gone, .gone, .gone, .gone, .gone, .gone, .gone, .gone, .gone, .gone, .gone, .gone, .gone], []⟩
def QV.con : Con := { ps := [(.val, (.sl 9 .str)), (.val, .str)], rs := [(.val, (.int .i64))], F := fun x => QV.f x.1 x.2 }
def QV.cs : List (FuncId × Con) := []
def QV.E : Env := envOf tab QV.cs 0 false
def QV.keep (i : Nat) : List Nat := if i = 2 then [0, 1, 5] else []
def QV.at2 (n : Nat) (x : List ByteArray × ByteArray) : Code × (Ex → St → Option (Int)) := ctx QV.E QV.keep n [.snd, .fst, .snd, .blk] (Vg Tryz.f118) (kEnd QV.E Tryz.f118 QV.con x)
def QV.LN2 (n : Nat) (x : List ByteArray × ByteArray) : Nat → St → Option (Int) := loopN (exec QV.E QV.keep n (Vj (QV.at2 n x).1)) (St.norm 0 (QV.keep 2)) (QV.at2 n x).2
set_option maxRecDepth 100000 in
theorem QV.lem2 (n : Nat) (x : List ByteArray × ByteArray) : ∀ (k : Nat) (p : List ByteArray) (q : ByteArray) (i5 : Int), QV.LN2 n x k (QV.st2 p q i5) = QV.l2 n k p q i5 := by
 intro k
 induction k with
 | zero => intro p q i5; rfl
 | succ k ih =>
  intro p q i5
  have h : QV.LN2 n x (k + 1) (QV.st2 p q i5) = QV.g2 (fun p q i5 => QV.LN2 n x k (QV.st2 p q i5)) p q i5 := by kernel_rfl
  rw [h]
  simp only [ih]
  rfl
set_option maxRecDepth 100000 in
theorem QV.body (n : Nat) (x : List ByteArray × ByteArray) : bodyF QV.E QV.keep n Tryz.f118 QV.con x = QV.fn n x.1 x.2 := by
 have h : bodyF QV.E QV.keep n Tryz.f118 QV.con x = QV.top (fun p q i5 => QV.LN2 n x n (QV.st2 p q i5)) x.1 x.2 := by kernel_rfl
 rw [h]
 simp only [QV.lem2]
 rfl
set_option maxRecDepth 100000 in
theorem QV.good : Good Tryz.prog 118 QV.con :=
 Vf tabok (cs := QV.cs) trivial 0 false (fn := Tryz.f118) Tryz.func118 rfl (by decide) (by simp [QV.con]) QV.keep NN (fun _ => rfl) (fun x => QV.body NN x)
end
end Go.Ev.Tryz

namespace Go.Ev.Tryz
open Go.Proofs Go.Pl
set_option linter.unusedVariables false
noncomputable section
def Qq.st2 (p : List YC) (i3 : Int) : St := ⟨[.dat (.sl 72 (.pair (.int .i64) (.int .i64))) p, .gone, .gone, .dat (.int .i64) i3, .gone, .gone, .gone, .gone, .gone, .gone, .gone, .gone, .gone, .gone, .gone, .gone, .gone, .gone, .gone, .gone, .gone, .gone, .gone, .gone, .gone, .gone, .gone, .gone, .gone, .gone, .gone, .gone, .gone, .gone, .gone, .gone, .gone, .gone, .gone, .gone, .gone, .gone, .gone, .gone, .gone, .gone, .gone, .gone], []⟩
def Qq.con : Con := { ps := [(.val, (.sl 72 (.pair (.int .i64) (.int .i64))))], rs := [(.val, .bool)], F := fun x => Qq.f x }
def Qq.cs : List (FuncId × Con) := [(92, Qaj.con)]
def Qq.E : Env := envOf tab Qq.cs 0 false
def Qq.keep (i : Nat) : List Nat := if i = 2 then [0, 3] else []
def Qq.at2 (n : Nat) (x : List YC) : Code × (Ex → St → Option (Bool)) := ctx Qq.E Qq.keep n [.snd, .fst, .snd, .blk] (Vg Tryz.f58) (kEnd Qq.E Tryz.f58 Qq.con x)
def Qq.LN2 (n : Nat) (x : List YC) : Nat → St → Option (Bool) := loopN (exec Qq.E Qq.keep n (Vj (Qq.at2 n x).1)) (St.norm 0 (Qq.keep 2)) (Qq.at2 n x).2
set_option maxRecDepth 100000 in
theorem Qq.lem2 (n : Nat) (x : List YC) : ∀ (k : Nat) (p : List YC) (i3 : Int), Qq.LN2 n x k (Qq.st2 p i3) = Qq.l2 n k p i3 := by
 intro k
 induction k with
 | zero => intro p i3; rfl
 | succ k ih =>
  intro p i3
  have h : Qq.LN2 n x (k + 1) (Qq.st2 p i3) = Qq.g2 (fun p i3 => Qq.LN2 n x k (Qq.st2 p i3)) p i3 := by kernel_rfl
  rw [h]
  simp only [ih]
  rfl
set_option maxRecDepth 100000 in
theorem Qq.body (n : Nat) (x : List YC) : bodyF Qq.E Qq.keep n Tryz.f58 Qq.con x = Qq.fn n x := by
 have h : bodyF Qq.E Qq.keep n Tryz.f58 Qq.con x = Qq.top (fun p i3 => Qq.LN2 n x n (Qq.st2 p i3)) x := by kernel_rfl
 rw [h]
 simp only [Qq.lem2]
 rfl
set_option maxRecDepth 100000 in
theorem Qq.good : Good Tryz.prog 58 Qq.con :=
 Vf tabok (cs := Qq.cs) ⟨Qaj.good, trivial⟩ 0 false (fn := Tryz.f58) Tryz.func58 rfl (by decide) (by simp [Qq.con]) Qq.keep NN (fun _ => rfl) (fun x => Qq.body NN x)
end
end Go.Ev.Tryz

namespace Go.Ev.Tryz
open Go.Proofs Go.Pl
set_option linter.unusedVariables false
noncomputable section
def Ql.st6 (p : List YC) (at6 : Int) (x3 : Int × Int) : St := ⟨[.dat (.sl 72 (.pair (.int .i64) (.int .i64))) p, .gone, .gone, .ptr 0 [], .gone, .gone, .dat (.int .i64) at6, .gone, .gone, .gone, .gone, .gone, .gone, .gone, .gone, .gone, .gone, .gone, .gone, .gone, .gone, .gone, .gone, .gone, .gone, .gone, .gone, .gone, .gone, .gone, .gone, .gone, .gone, .gone, .gone, .gone, .gone, .gone, .gone, .gone, .gone, .gone, .gone, .gone, .gone, .gone, .gone], [.box 72 (.pair (.int .i64) (.int .i64)) (.dat (.pair (.int .i64) (.int .i64)) x3)]⟩
def Ql.tr0 (p : List YC) (at6 : Int) (x3 : Int × Int) : Option YZ :=
 if ([] : List YC).length + (p.take (at6 : Int).toNat).length < room 16 then
  if (([] : List YC) ++ (p.take (at6 : Int).toNat)).length + ([x3]).length < room 16 then
   if ((([] : List YC) ++ (p.take (at6 : Int).toNat)) ++ ([x3])).length + (p.drop (at6 : Int).toNat).length < room 16 then
    (Qq.f (((([] : List YC) ++ (p.take (at6 : Int).toNat)) ++ ([x3])) ++ (p.drop (at6 : Int).toNat))).bind fun r2 =>
    if (!r2) = true then
     some ([], 5)
    else
     some (((([] : List YC) ++ (p.take (at6 : Int).toNat)) ++ ([x3])) ++ (p.drop (at6 : Int).toNat), 0)
   else
    none
  else
   none
 else
  none
def Ql.tr1 (p : List YC) (at6 : Int) (x3 : Int × Int) : Option YZ :=
 agree (
  Ql.tr0 p at6 x3
 ) (
  Ql.tr0 p at6 x3
 )
def Ql.tr2 (p : List YC) (at6 : Int) (x3 : Int × Int) : Option YZ :=
 if ([] : List YC).length + (p.take (at6 : Int).toNat).length < room 16 then
  if (([] : List YC) ++ (p.take (at6 : Int).toNat)).length + ([x3]).length < room 16 then
   if ((([] : List YC) ++ (p.take (at6 : Int).toNat)) ++ ([x3])).length + (p.drop (at6 : Int).toNat).length < room 16 then
    (Qq.f (((([] : List YC) ++ (p.take (at6 : Int).toNat)) ++ ([x3])) ++ (p.drop (at6 : Int).toNat))).bind fun r3 =>
    if (!r3) = true then
     some ([], 5)
    else
     some (((([] : List YC) ++ (p.take (at6 : Int).toNat)) ++ ([x3])) ++ (p.drop (at6 : Int).toNat), 0)
   else
    none
  else
   none
 else
  none
def Ql.tr3 (p : List YC) (at6 : Int) (x3 : Int × Int) : Option YZ :=
 agree (
  Ql.tr2 p at6 x3
 ) (
  Ql.tr2 p at6 x3
 )
def Ql.g6raw (L6 : YE → Int → YC → Option YZ) (p : List YC) (at6 : Int) (x3 : Int × Int) : Option YZ :=
 if (decide ((0 : Int) < at6)) = true then
  if (0 : Int) ≤ (IntKind.i64.wrap (at6 - 1)) ∧ ((IntKind.i64.wrap (at6 - 1)) : Int) < p.length then
   if (decide ((x3.1 : Int) < ((p.getD ((IntKind.i64.wrap (at6 - 1)) : Int).toNat (0, 0)).1))) = true then
    L6 p (IntKind.i64.wrap (at6 - 1)) x3
   else if (0 : Int) ≤ at6 ∧ (at6 : Int) ≤ p.length then
    if (0 : Int) ≤ at6 ∧ (at6 : Int) ≤ p.length then
     agree (
      agree (
       Ql.tr0 p at6 x3
      ) (
       Ql.tr1 p at6 x3
      )
     ) (
      agree (
       Ql.tr1 p at6 x3
      ) (
       Ql.tr0 p at6 x3
      )
     )
    else
     none
   else
    none
  else
   none
 else if (0 : Int) ≤ at6 ∧ (at6 : Int) ≤ p.length then
  if (0 : Int) ≤ at6 ∧ (at6 : Int) ≤ p.length then
   agree (
    agree (
     Ql.tr2 p at6 x3
    ) (
     Ql.tr3 p at6 x3
    )
   ) (
    agree (
     Ql.tr3 p at6 x3
    ) (
     Ql.tr2 p at6 x3
    )
   )
  else
   none
 else
  none
theorem Ql.g6raw_eq (L6 : YE → Int → YC → Option YZ) (p : List YC) (at6 : Int) (x3 : Int × Int) : Ql.g6raw L6 p at6 x3 = Ql.g6 L6 p at6 x3 := by
 unfold Ql.g6raw Ql.g6
 simp only [Vt, Ql.tr0, Ql.tr1, Ql.tr2, Ql.tr3]
def Ql.con : Con := { ps := [(.val, (.sl 72 (.pair (.int .i64) (.int .i64)))), (.val, (.pair (.int .i64) (.int .i64)))], rs := [(.own, (.sl 72 (.pair (.int .i64) (.int .i64)))), (.own, (.int .i64))], F := fun x => Ql.f x.1 x.2 }
def Ql.cs : List (FuncId × Con) := [(58, Qq.con)]
def Ql.E : Env := envOf tab Ql.cs 0 false
def Ql.keep (i : Nat) : List Nat := if i = 6 then [0, 3, 6] else []
def Ql.at6 (n : Nat) (x : YE × Int × Int) : Code × (Ex → St → Option (YZ)) := ctx Ql.E Ql.keep n [.snd, .snd, .snd, .snd, .fst, .blk] (Vg Tryz.f119) (kEnd Ql.E Tryz.f119 Ql.con x)
def Ql.LN6 (n : Nat) (x : YE × Int × Int) : Nat → St → Option (YZ) := loopN (exec Ql.E Ql.keep n (Vj (Ql.at6 n x).1)) (St.norm 0 (Ql.keep 6)) (Ql.at6 n x).2
set_option maxRecDepth 100000 in
theorem Ql.lem6 (n : Nat) (x : YE × Int × Int) : ∀ (k : Nat) (p : List YC) (at6 : Int) (x3 : Int × Int), Ql.LN6 n x k (Ql.st6 p at6 x3) = Ql.l6 n k p at6 x3 := by
 intro k
 induction k with
 | zero => intro p at6 x3; rfl
 | succ k ih =>
  intro p at6 x3
  have h : Ql.LN6 n x (k + 1) (Ql.st6 p at6 x3) = Ql.g6raw (fun p at6 x3 => Ql.LN6 n x k (Ql.st6 p at6 x3)) p at6 x3 := by kernel_rfl
  rw [Ql.g6raw_eq] at h
  rw [h]
  simp only [ih]
  rfl
set_option maxRecDepth 100000 in
theorem Ql.body (n : Nat) (x : YE × Int × Int) : bodyF Ql.E Ql.keep n Tryz.f119 Ql.con x = Ql.fn n x.1 x.2 := by
 have h : bodyF Ql.E Ql.keep n Tryz.f119 Ql.con x = Ql.top (fun p at6 x3 => Ql.LN6 n x n (Ql.st6 p at6 x3)) x.1 x.2 := by kernel_rfl
 rw [h]
 simp only [Ql.lem6]
 rfl
set_option maxRecDepth 100000 in
theorem Ql.good : Good Tryz.prog 119 Ql.con :=
 Vf tabok (cs := Ql.cs) ⟨Qq.good, trivial⟩ 0 false (fn := Tryz.f119) Tryz.func119 rfl (by decide) (by simp [Ql.con]) Ql.keep NN (fun _ => rfl) (fun x => Ql.body NN x)
end
end Go.Ev.Tryz

namespace Go.Ev.Tryz
open Go.Proofs Go.Pl
set_option linter.unusedVariables false
noncomputable section
def Qm.st2 (s1 : ByteArray) (at5 : Int) (p : List ByteArray) : St := ⟨[.ref 0, .dat .str s1, .gone, .gone, .gone, .dat (.int .i64) at5, .gone, .gone, .gone, .gone, .gone, .gone, .gone, .gone, .gone, .gone, .gone, .gone, .gone, .gone, .gone, .gone, .gone, .gone, .gone, .gone, .gone, .gone, .gone, .gone, .gone, .gone, .gone, .gone, .gone, .gone, .gone, .gone, .gone, .gone, .gone, .gone, .gone, .gone, .gone], [.row 9 .str p none]⟩
def Qm.tr0 (s1 : ByteArray) (at5 : Int) (p : List ByteArray) : Option YJ :=
 if ([] : List ByteArray).length + (p.take (at5 : Int).toNat).length < room 16 then
  if (([] : List ByteArray) ++ (p.take (at5 : Int).toNat)).length + ([s1]).length < room 16 then
   if ((([] : List ByteArray) ++ (p.take (at5 : Int).toNat)) ++ ([s1])).length + (p.drop (at5 : Int).toNat).length < room 16 then
    some (((([] : List ByteArray) ++ (p.take (at5 : Int).toNat)) ++ ([s1])) ++ (p.drop (at5 : Int).toNat))
   else
    none
  else
   none
 else
  none
def Qm.tr1 (s1 : ByteArray) (at5 : Int) (p : List ByteArray) : Option YJ :=
 if (0 : Int) ≤ at5 ∧ (at5 : Int) ≤ p.length then
  if (0 : Int) ≤ at5 ∧ (at5 : Int) ≤ p.length then
   agree (
    agree (
     Qm.tr0 s1 at5 p
    ) (
     Qm.tr0 s1 at5 p
    )
   ) (
    Qm.tr0 s1 at5 p
   )
  else
   none
 else
  none
def Qm.tr2 (s1 : ByteArray) (at5 : Int) (p : List ByteArray) : Option YJ :=
 if (decide ((at5 : Int) < (p.length : Int))) = true then
  if (0 : Int) ≤ at5 ∧ (at5 : Int) < p.length then
   if ((p.getD (at5 : Int).toNat ByteArray.empty).toList == s1.toList) = true then
    some p
   else
    Qm.tr1 s1 at5 p
  else
   none
 else
  Qm.tr1 s1 at5 p
def Qm.g2raw (L2 : YAD) (s1 : ByteArray) (at5 : Int) (p : List ByteArray) : Option YJ :=
 if (decide ((at5 : Int) < (p.length : Int))) = true then
  if (0 : Int) ≤ at5 ∧ (at5 : Int) < p.length then
   if (Op.bytesLess (p.getD (at5 : Int).toNat ByteArray.empty).toList s1.toList) = true then
    L2 s1 (IntKind.i64.wrap (at5 + 1)) p
   else
    Qm.tr2 s1 at5 p
  else
   none
 else
  Qm.tr2 s1 at5 p
theorem Qm.g2raw_eq (L2 : YAD) (s1 : ByteArray) (at5 : Int) (p : List ByteArray) : Qm.g2raw L2 s1 at5 p = Qm.g2 L2 s1 at5 p := by
 unfold Qm.g2raw Qm.g2
 simp only [Vt, Qm.tr0, Qm.tr1, Qm.tr2]
def Qm.con : Con := { ps := [(.own, (.sl 9 .str)), (.val, .str)], rs := [(.own, (.sl 9 .str))], gv := true, F := fun x => Qm.f x.1 x.2 }
def Qm.cs : List (FuncId × Con) := []
def Qm.E : Env := envOf tab Qm.cs 0 false
def Qm.keep (i : Nat) : List Nat := if i = 2 then [0, 1, 5] else []
def Qm.at2 (n : Nat) (x : List ByteArray × ByteArray) : Code × (Ex → St → Option (YJ)) := ctx Qm.E Qm.keep n [.snd, .snd, .fst, .blk] (Vg Tryz.f146) (kEnd Qm.E Tryz.f146 Qm.con x)
def Qm.LN2 (n : Nat) (x : List ByteArray × ByteArray) : Nat → St → Option (YJ) := loopN (exec Qm.E Qm.keep n (Vj (Qm.at2 n x).1)) (St.norm 0 (Qm.keep 2)) (Qm.at2 n x).2
set_option maxRecDepth 100000 in
theorem Qm.lem2 (n : Nat) (x : List ByteArray × ByteArray) : ∀ (k : Nat) (s1 : ByteArray) (at5 : Int) (p : List ByteArray), Qm.LN2 n x k (Qm.st2 s1 at5 p) = Qm.l2 n k s1 at5 p := by
 intro k
 induction k with
 | zero => intro s1 at5 p; rfl
 | succ k ih =>
  intro s1 at5 p
  have h : Qm.LN2 n x (k + 1) (Qm.st2 s1 at5 p) = Qm.g2raw (fun s1 at5 p => Qm.LN2 n x k (Qm.st2 s1 at5 p)) s1 at5 p := by kernel_rfl
  rw [Qm.g2raw_eq] at h
  rw [h]
  simp only [ih]
  rfl
set_option maxRecDepth 100000 in
theorem Qm.body (n : Nat) (x : List ByteArray × ByteArray) : bodyF Qm.E Qm.keep n Tryz.f146 Qm.con x = Qm.fn n x.1 x.2 := by
 have h : bodyF Qm.E Qm.keep n Tryz.f146 Qm.con x = Qm.top (fun s1 at5 p => Qm.LN2 n x n (Qm.st2 s1 at5 p)) x.1 x.2 := by kernel_rfl
 rw [h]
 simp only [Qm.lem2]
 rfl
set_option maxRecDepth 100000 in
theorem Qm.good : Good Tryz.prog 146 Qm.con :=
 Vf tabok (cs := Qm.cs) trivial 0 false (fn := Tryz.f146) Tryz.func146 rfl (by decide) (by simp [Qm.con]) Qm.keep NN (fun _ => rfl) (fun x => Qm.body NN x)
end
end Go.Ev.Tryz

namespace Go.Ev.Tryz
open Go.Proofs Go.Pl
set_option linter.unusedVariables false
noncomputable section
def Q5.st3 (p : List YA) (i4 : Int) (q : List ByteArray) : St := ⟨[.dat (.sl 74 (.pair (.int .i64) (.pair .str (.int .i64)))) p, .gone, .gone, .ref 0, .dat (.int .i64) i4, .gone, .gone, .gone, .gone, .gone, .gone, .gone, .gone, .gone, .gone, .gone, .gone, .gone, .gone, .gone, .gone, .gone, .gone, .gone, .gone, .gone, .gone, .gone, .gone, .gone], [.row 9 .str q none]⟩
def Q5.con : Con := { ps := [(.val, (.sl 74 (.pair (.int .i64) (.pair .str (.int .i64)))))], rs := [(.own, (.sl 9 .str))], F := fun x => Q5.f x }
def Q5.cs : List (FuncId × Con) := [(94, QJ.con), (146, Qm.con)]
def Q5.E : Env := envOf tab Q5.cs 0 false
def Q5.keep (i : Nat) : List Nat := if i = 3 then [0, 3, 4] else []
def Q5.at3 (n : Nat) (x : List YA) : Code × (Ex → St → Option (YJ)) := ctx Q5.E Q5.keep n [.snd, .snd, .fst, .snd, .blk] (Vg Tryz.f125) (kEnd Q5.E Tryz.f125 Q5.con x)
def Q5.LN3 (n : Nat) (x : List YA) : Nat → St → Option (YJ) := loopN (exec Q5.E Q5.keep n (Vj (Q5.at3 n x).1)) (St.norm 0 (Q5.keep 3)) (Q5.at3 n x).2
set_option maxRecDepth 100000 in
theorem Q5.lem3 (n : Nat) (x : List YA) : ∀ (k : Nat) (p : List YA) (i4 : Int) (q : List ByteArray), Q5.LN3 n x k (Q5.st3 p i4 q) = Q5.l3 n k p i4 q := by
 intro k
 induction k with
 | zero => intro p i4 q; rfl
 | succ k ih =>
  intro p i4 q
  have h : Q5.LN3 n x (k + 1) (Q5.st3 p i4 q) = Q5.g3 (fun p i4 q => Q5.LN3 n x k (Q5.st3 p i4 q)) p i4 q := by kernel_rfl
  rw [h]
  simp only [ih]
  rfl
set_option maxRecDepth 100000 in
theorem Q5.body (n : Nat) (x : List YA) : bodyF Q5.E Q5.keep n Tryz.f125 Q5.con x = Q5.fn n x := by
 have h : bodyF Q5.E Q5.keep n Tryz.f125 Q5.con x = Q5.top (fun p i4 q => Q5.LN3 n x n (Q5.st3 p i4 q)) x := by kernel_rfl
 rw [h]
 simp only [Q5.lem3]
 rfl
set_option maxRecDepth 100000 in
theorem Q5.good : Good Tryz.prog 125 Q5.con :=
 Vf tabok (cs := Q5.cs) ⟨QJ.good, Qm.good, trivial⟩ 0 false (fn := Tryz.f125) Tryz.func125 rfl (by decide) (by simp [Q5.con]) Q5.keep NN (fun _ => rfl) (fun x => Q5.body NN x)
end
end Go.Ev.Tryz

namespace Go.Ev.Tryz
open Go.Proofs Go.Pl
set_option linter.unusedVariables false
noncomputable section
def QaS.con : Con := { ps := [(.val, (.sl 74 (.pair (.int .i64) (.pair .str (.int .i64)))))], rs := [(.val, (.int .i64))], F := fun x => QaS.f x }
def QaS.cs : List (FuncId × Con) := [(59, Qi.con)]
def QaS.E : Env := envOf tab QaS.cs 0 false
def QaS.keep (i : Nat) : List Nat := []
set_option maxRecDepth 100000 in
theorem QaS.body (n : Nat) (x : List YA) : bodyF QaS.E QaS.keep n Tryz.f142 QaS.con x = QaS.fn n x := by
 have h : bodyF QaS.E QaS.keep n Tryz.f142 QaS.con x = QaS.top x := by kernel_rfl
 exact h
set_option maxRecDepth 100000 in
theorem QaS.good : Good Tryz.prog 142 QaS.con :=
 Vf tabok (cs := QaS.cs) ⟨Qi.good, trivial⟩ 0 false (fn := Tryz.f142) Tryz.func142 rfl (by decide) (by simp [QaS.con]) QaS.keep NN (fun _ => rfl) (fun x => QaS.body NN x)
end
end Go.Ev.Tryz

namespace Go.Ev.Tryz
open Go.Proofs Go.Pl
set_option linter.unusedVariables false
noncomputable section
def QI.st8 (p : List YA) (q : Int) (i8 : Int) (s : List YA) (r : List ByteArray) : St := ⟨[.dat (.sl 74 (.pair (.int .i64) (.pair .str (.int .i64)))) p, .dat (.int .i64) q, .gone, .gone, .gone, .gone, .ref 0, .ref 1, .dat (.int .i64) i8, .gone, .gone, .gone, .gone, .gone, .gone, .gone, .gone, .gone, .gone, .gone, .gone, .gone, .gone, .gone, .gone, .gone, .gone, .gone, .gone, .gone, .gone, .gone, .gone, .gone, .gone, .gone, .gone, .gone, .gone, .gone, .gone, .gone, .gone, .gone, .gone, .gone, .gone, .gone, .gone, .gone], [.row 74 (.pair (.int .i64) (.pair .str (.int .i64))) s none, .row 9 .str r none]⟩
def QI.con : Con := { ps := [(.val, (.sl 74 (.pair (.int .i64) (.pair .str (.int .i64))))), (.val, (.int .i64))], rs := [(.own, (.sl 74 (.pair (.int .i64) (.pair .str (.int .i64))))), (.own, (.int .i64))], F := fun x => QI.f x.1 x.2 }
def QI.cs : List (FuncId × Con) := [(59, Qi.con), (92, Qaj.con), (94, QJ.con), (125, Q5.con), (142, QaS.con)]
def QI.E : Env := envOf tab QI.cs 0 false
def QI.keep (i : Nat) : List Nat := if i = 8 then [0, 1, 6, 7, 8] else []
def QI.at8 (n : Nat) (x : YD × Int) : Code × (Ex → St → Option (YW)) := ctx QI.E QI.keep n [.snd, .snd, .snd, .snd, .snd, .fst, .snd, .blk] (Vg Tryz.f120) (kEnd QI.E Tryz.f120 QI.con x)
def QI.LN8 (n : Nat) (x : YD × Int) : Nat → St → Option (YW) := loopN (exec QI.E QI.keep n (Vj (QI.at8 n x).1)) (St.norm 0 (QI.keep 8)) (QI.at8 n x).2
set_option maxRecDepth 100000 in
theorem QI.lem8 (n : Nat) (x : YD × Int) : ∀ (k : Nat) (p : List YA) (q : Int) (i8 : Int) (s : List YA) (r : List ByteArray), QI.LN8 n x k (QI.st8 p q i8 s r) = QI.l8 n k p q i8 s r := by
 intro k
 induction k with
 | zero => intro p q i8 s r; rfl
 | succ k ih =>
  intro p q i8 s r
  have h : QI.LN8 n x (k + 1) (QI.st8 p q i8 s r) = QI.g8 (fun p q i8 s r => QI.LN8 n x k (QI.st8 p q i8 s r)) p q i8 s r := by kernel_rfl
  rw [h]
  simp only [ih]
  rfl
set_option maxRecDepth 100000 in
theorem QI.body (n : Nat) (x : YD × Int) : bodyF QI.E QI.keep n Tryz.f120 QI.con x = QI.fn n x.1 x.2 := by
 have h : bodyF QI.E QI.keep n Tryz.f120 QI.con x = QI.top (fun p q i8 s r => QI.LN8 n x n (QI.st8 p q i8 s r)) x.1 x.2 := by kernel_rfl
 rw [h]
 simp only [QI.lem8]
 rfl
set_option maxRecDepth 100000 in
theorem QI.good : Good Tryz.prog 120 QI.con :=
 Vf tabok (cs := QI.cs) ⟨Qi.good, Qaj.good, QJ.good, Q5.good, QaS.good, trivial⟩ 0 false (fn := Tryz.f120) Tryz.func120 rfl (by decide) (by simp [QI.con]) QI.keep NN (fun _ => rfl) (fun x => QI.body NN x)
end
end Go.Ev.Tryz

namespace Go.Ev.Tryz
open Go.Proofs Go.Pl
set_option linter.unusedVariables false
noncomputable section
def Qam.con : Con := { ps := [(.val, (.pair (.sl 70 (.pair (.int .i64) (.pair .str (.int .i64)))) (.pair (.sl 72 (.pair (.int .i64) (.int .i64))) (.sl 74 (.pair (.int .i64) (.pair .str (.int .i64))))))), (.val, (.sl 9 .str)), (.val, (.sl 2 (.int .i64)))], rs := [(.val, (.pair (.sl 70 (.pair (.int .i64) (.pair .str (.int .i64)))) (.pair (.sl 72 (.pair (.int .i64) (.int .i64))) (.sl 74 (.pair (.int .i64) (.pair .str (.int .i64))))))), (.val, (.int .i64))], F := fun x => Qam.f x.1 x.2.1 x.2.2 }
def Qam.cs : List (FuncId × Con) := [(71, QaP.con), (114, Qal.con), (115, Qz.con), (118, QV.con), (119, Ql.con), (120, QI.con)]
def Qam.E : Env := envOf tab Qam.cs 0 false
def Qam.keep (i : Nat) : List Nat := []
set_option maxRecDepth 100000 in
theorem Qam.body (n : Nat) (x : YF × List ByteArray × List Int) : bodyF Qam.E Qam.keep n Tryz.f95 Qam.con x = Qam.fn n x.1 x.2.1 x.2.2 := by
 have h : bodyF Qam.E Qam.keep n Tryz.f95 Qam.con x = Qam.top x.1 x.2.1 x.2.2 := by kernel_rfl
 exact h
set_option maxRecDepth 100000 in
theorem Qam.good : Good Tryz.prog 95 Qam.con :=
 Vf tabok (cs := Qam.cs) ⟨QaP.good, Qal.good, Qz.good, QV.good, Ql.good, QI.good, trivial⟩ 0 false (fn := Tryz.f95) Tryz.func95 rfl (by decide) (by simp [Qam.con]) Qam.keep NN (fun _ => rfl) (fun x => Qam.body NN x)
end
end Go.Ev.Tryz

namespace Go.Ev.Tryz
open Go.Proofs Go.Pl
set_option linter.unusedVariables false
noncomputable section
def Qbb.con : Con := { ps := [(.val, (.sl 70 (.pair (.int .i64) (.pair .str (.int .i64))))), (.val, .str), (.val, (.int .i64))], rs := [(.val, (.int .i64))], F := fun x => Qbb.f x.1 x.2.1 x.2.2 }
def Qbb.cs : List (FuncId × Con) := [(57, QC.con), (90, Qar.con), (91, QT.con)]
def Qbb.E : Env := envOf tab Qbb.cs 0 false
def Qbb.keep (i : Nat) : List Nat := []
set_option maxRecDepth 100000 in
theorem Qbb.body (n : Nat) (x : YD × ByteArray × Int) : bodyF Qbb.E Qbb.keep n Tryz.f143 Qbb.con x = Qbb.fn n x.1 x.2.1 x.2.2 := by
 have h : bodyF Qbb.E Qbb.keep n Tryz.f143 Qbb.con x = Qbb.top x.1 x.2.1 x.2.2 := by kernel_rfl
 exact h
set_option maxRecDepth 100000 in
theorem Qbb.good : Good Tryz.prog 143 Qbb.con :=
 Vf tabok (cs := Qbb.cs) ⟨QC.good, Qar.good, QT.good, trivial⟩ 0 false (fn := Tryz.f143) Tryz.func143 rfl (by decide) (by simp [Qbb.con]) Qbb.keep NN (fun _ => rfl) (fun x => Qbb.body NN x)
end
end Go.Ev.Tryz

namespace Go.Ev.Tryz
open Go.Proofs Go.Pl
set_option linter.unusedVariables false
noncomputable section
def Q4.st2 (p : List YA) (t1 : Int) (n5 : Int) : St := ⟨[.dat (.sl 70 (.pair (.int .i64) (.pair .str (.int .i64)))) p, .dat (.int .i64) t1, .gone, .gone, .gone, .dat (.int .i64) n5, .gone, .gone, .gone, .gone, .gone, .gone, .gone, .gone, .gone, .gone, .gone, .gone, .gone, .gone, .gone, .gone], []⟩
def Q4.con : Con := { ps := [(.val, (.sl 70 (.pair (.int .i64) (.pair .str (.int .i64))))), (.val, (.int .i64))], rs := [(.val, (.int .i64))], F := fun x => Q4.f x.1 x.2 }
def Q4.cs : List (FuncId × Con) := []
def Q4.E : Env := envOf tab Q4.cs 0 false
def Q4.keep (i : Nat) : List Nat := if i = 2 then [0, 1, 5] else []
def Q4.at2 (n : Nat) (x : YD × Int) : Code × (Ex → St → Option (Int)) := ctx Q4.E Q4.keep n [.snd, .snd, .fst, .blk] (Vg Tryz.f160) (kEnd Q4.E Tryz.f160 Q4.con x)
def Q4.LN2 (n : Nat) (x : YD × Int) : Nat → St → Option (Int) := loopN (exec Q4.E Q4.keep n (Vj (Q4.at2 n x).1)) (St.norm 0 (Q4.keep 2)) (Q4.at2 n x).2
set_option maxRecDepth 100000 in
theorem Q4.lem2 (n : Nat) (x : YD × Int) : ∀ (k : Nat) (p : List YA) (t1 : Int) (n5 : Int), Q4.LN2 n x k (Q4.st2 p t1 n5) = Q4.l2 n k p t1 n5 := by
 intro k
 induction k with
 | zero => intro p t1 n5; rfl
 | succ k ih =>
  intro p t1 n5
  have h : Q4.LN2 n x (k + 1) (Q4.st2 p t1 n5) = Q4.g2 (fun p t1 n5 => Q4.LN2 n x k (Q4.st2 p t1 n5)) p t1 n5 := by kernel_rfl
  rw [h]
  simp only [ih]
  rfl
set_option maxRecDepth 100000 in
theorem Q4.body (n : Nat) (x : YD × Int) : bodyF Q4.E Q4.keep n Tryz.f160 Q4.con x = Q4.fn n x.1 x.2 := by
 have h : bodyF Q4.E Q4.keep n Tryz.f160 Q4.con x = Q4.top (fun p t1 n5 => Q4.LN2 n x n (Q4.st2 p t1 n5)) x.1 x.2 := by kernel_rfl
 rw [h]
 simp only [Q4.lem2]
 rfl
set_option maxRecDepth 100000 in
theorem Q4.good : Good Tryz.prog 160 Q4.con :=
 Vf tabok (cs := Q4.cs) trivial 0 false (fn := Tryz.f160) Tryz.func160 rfl (by decide) (by simp [Q4.con]) Q4.keep NN (fun _ => rfl) (fun x => Q4.body NN x)
end
end Go.Ev.Tryz

namespace Go.Ev.Tryz
open Go.Proofs Go.Pl
set_option linter.unusedVariables false
noncomputable section
def QP.st3 (p : List YA) (q : ByteArray) (t2 : Int) (n7 : Int) (i8 : Int) : St := ⟨[.dat (.sl 70 (.pair (.int .i64) (.pair .str (.int .i64)))) p, .dat .str q, .dat (.int .i64) t2, .gone, .gone, .gone, .gone, .dat (.int .i64) n7, .dat (.int .i64) i8, .gone, .gone, .gone, .gone, .gone, .gone, .gone, .gone, .gone, .gone, .gone, .gone, .gone, .gone, .gone, .gone, .gone, .gone, .gone, .gone, .gone, .gone, .gone, .gone, .gone, .gone, .gone, .gone, .gone, .gone], []⟩
def QP.con : Con := { ps := [(.val, (.sl 70 (.pair (.int .i64) (.pair .str (.int .i64))))), (.val, .str), (.val, (.int .i64))], rs := [(.val, .bool)], F := fun x => QP.f x.1 x.2.1 x.2.2 }
def QP.cs : List (FuncId × Con) := [(93, QB.con), (160, Q4.con)]
def QP.E : Env := envOf tab QP.cs 0 false
def QP.keep (i : Nat) : List Nat := if i = 3 then [0, 1, 2, 7, 8] else []
def QP.at3 (n : Nat) (x : YD × ByteArray × Int) : Code × (Ex → St → Option (Bool)) := ctx QP.E QP.keep n [.snd, .snd, .fst, .snd, .blk] (Vg Tryz.f144) (kEnd QP.E Tryz.f144 QP.con x)
def QP.LN3 (n : Nat) (x : YD × ByteArray × Int) : Nat → St → Option (Bool) := loopN (exec QP.E QP.keep n (Vj (QP.at3 n x).1)) (St.norm 0 (QP.keep 3)) (QP.at3 n x).2
set_option maxRecDepth 100000 in
theorem QP.lem3 (n : Nat) (x : YD × ByteArray × Int) : ∀ (k : Nat) (p : List YA) (q : ByteArray) (t2 : Int) (n7 : Int) (i8 : Int), QP.LN3 n x k (QP.st3 p q t2 n7 i8) = QP.l3 n k p q t2 n7 i8 := by
 intro k
 induction k with
 | zero => intro p q t2 n7 i8; rfl
 | succ k ih =>
  intro p q t2 n7 i8
  have h : QP.LN3 n x (k + 1) (QP.st3 p q t2 n7 i8) = QP.g3 (fun p q t2 n7 i8 => QP.LN3 n x k (QP.st3 p q t2 n7 i8)) p q t2 n7 i8 := by kernel_rfl
  rw [h]
  simp only [ih]
  rfl
set_option maxRecDepth 100000 in
theorem QP.body (n : Nat) (x : YD × ByteArray × Int) : bodyF QP.E QP.keep n Tryz.f144 QP.con x = QP.fn n x.1 x.2.1 x.2.2 := by
 have h : bodyF QP.E QP.keep n Tryz.f144 QP.con x = QP.top (fun p q t2 n7 i8 => QP.LN3 n x n (QP.st3 p q t2 n7 i8)) x.1 x.2.1 x.2.2 := by kernel_rfl
 rw [h]
 simp only [QP.lem3]
 rfl
set_option maxRecDepth 100000 in
theorem QP.good : Good Tryz.prog 144 QP.con :=
 Vf tabok (cs := QP.cs) ⟨QB.good, Q4.good, trivial⟩ 0 false (fn := Tryz.f144) Tryz.func144 rfl (by decide) (by simp [QP.con]) QP.keep NN (fun _ => rfl) (fun x => QP.body NN x)
end
end Go.Ev.Tryz

namespace Go.Ev.Tryz
open Go.Proofs Go.Pl
set_option linter.unusedVariables false
noncomputable section
def Qa6.con : Con := { ps := [(.val, (.sl 70 (.pair (.int .i64) (.pair .str (.int .i64))))), (.val, .str), (.val, (.int .i64))], rs := [(.val, .bool), (.val, (.int .i64))], F := fun x => Qa6.f x.1 x.2.1 x.2.2 }
def Qa6.cs : List (FuncId × Con) := [(143, Qbb.con), (144, QP.con)]
def Qa6.E : Env := envOf tab Qa6.cs 0 false
def Qa6.keep (i : Nat) : List Nat := []
set_option maxRecDepth 100000 in
theorem Qa6.body (n : Nat) (x : YD × ByteArray × Int) : bodyF Qa6.E Qa6.keep n Tryz.f121 Qa6.con x = Qa6.fn n x.1 x.2.1 x.2.2 := by
 have h : bodyF Qa6.E Qa6.keep n Tryz.f121 Qa6.con x = Qa6.top x.1 x.2.1 x.2.2 := by kernel_rfl
 exact h
set_option maxRecDepth 100000 in
theorem Qa6.good : Good Tryz.prog 121 Qa6.con :=
 Vf tabok (cs := Qa6.cs) ⟨Qbb.good, QP.good, trivial⟩ 0 false (fn := Tryz.f121) Tryz.func121 rfl (by decide) (by simp [Qa6.con]) Qa6.keep NN (fun _ => rfl) (fun x => Qa6.body NN x)
end
end Go.Ev.Tryz

namespace Go.Ev.Tryz
open Go.Proofs Go.Pl
set_option linter.unusedVariables false
noncomputable section
def Qbe.con : Con := { ps := [(.val, (.sl 72 (.pair (.int .i64) (.int .i64)))), (.val, (.int .i64))], rs := [(.val, (.int .i64))], F := fun x => Qbe.f x.1 x.2 }
def Qbe.cs : List (FuncId × Con) := [(58, Qq.con), (92, Qaj.con)]
def Qbe.E : Env := envOf tab Qbe.cs 0 false
def Qbe.keep (i : Nat) : List Nat := []
set_option maxRecDepth 100000 in
theorem Qbe.body (n : Nat) (x : YE × Int) : bodyF Qbe.E Qbe.keep n Tryz.f161 Qbe.con x = Qbe.fn n x.1 x.2 := by
 have h : bodyF Qbe.E Qbe.keep n Tryz.f161 Qbe.con x = Qbe.top x.1 x.2 := by kernel_rfl
 exact h
set_option maxRecDepth 100000 in
theorem Qbe.good : Good Tryz.prog 161 Qbe.con :=
 Vf tabok (cs := Qbe.cs) ⟨Qq.good, Qaj.good, trivial⟩ 0 false (fn := Tryz.f161) Tryz.func161 rfl (by decide) (by simp [Qbe.con]) Qbe.keep NN (fun _ => rfl) (fun x => Qbe.body NN x)
end
end Go.Ev.Tryz

namespace Go.Ev.Tryz
open Go.Proofs Go.Pl
set_option linter.unusedVariables false
noncomputable section
def Qa8.con : Con := { ps := [(.val, (.pair .bool (.pair .bool (.pair .bool (.pair .bool (.pair .bool (.int .i64)))))))], rs := [(.val, (.pair .bool (.pair .bool (.pair .bool (.pair .bool (.pair .bool (.int .i64)))))))], F := fun x => Qa8.f x }
def Qa8.cs : List (FuncId × Con) := []
def Qa8.E : Env := envOf tab Qa8.cs 0 false
def Qa8.keep (i : Nat) : List Nat := []
set_option maxRecDepth 100000 in
theorem Qa8.body (n : Nat) (x : Bool × Bool × Bool × Bool × Bool × Int) : bodyF Qa8.E Qa8.keep n Tryz.f171 Qa8.con x = Qa8.fn n x := by
 have h : bodyF Qa8.E Qa8.keep n Tryz.f171 Qa8.con x = Qa8.top x := by kernel_rfl
 exact h
set_option maxRecDepth 100000 in
theorem Qa8.good : Good Tryz.prog 171 Qa8.con :=
 Vf tabok (cs := Qa8.cs) trivial 0 false (fn := Tryz.f171) Tryz.func171 rfl (by decide) (by simp [Qa8.con]) Qa8.keep NN (fun _ => rfl) (fun x => Qa8.body NN x)
end
end Go.Ev.Tryz

namespace Go.Ev.Tryz
open Go.Proofs Go.Pl
set_option linter.unusedVariables false
noncomputable section
def QaT.con : Con := { ps := [(.val, (.pair .bool (.pair .bool (.pair .bool (.pair .bool (.pair .bool (.int .i64))))))), (.val, (.int .i64))], rs := [(.val, (.pair .bool (.pair .bool (.pair .bool (.pair .bool (.pair .bool (.int .i64))))))), (.val, .bool)], F := fun x => QaT.f x.1 x.2 }
def QaT.cs : List (FuncId × Con) := [(171, Qa8.con)]
def QaT.E : Env := envOf tab QaT.cs 0 false
def QaT.keep (i : Nat) : List Nat := []
set_option maxRecDepth 100000 in
theorem QaT.body (n : Nat) (x : YB × Int) : bodyF QaT.E QaT.keep n Tryz.f169 QaT.con x = QaT.fn n x.1 x.2 := by
 have h : bodyF QaT.E QaT.keep n Tryz.f169 QaT.con x = QaT.top x.1 x.2 := by kernel_rfl
 exact h
set_option maxRecDepth 100000 in
theorem QaT.good : Good Tryz.prog 169 QaT.con :=
 Vf tabok (cs := QaT.cs) ⟨Qa8.good, trivial⟩ 0 false (fn := Tryz.f169) Tryz.func169 rfl (by decide) (by simp [QaT.con]) QaT.keep NN (fun _ => rfl) (fun x => QaT.body NN x)
end
end Go.Ev.Tryz

namespace Go.Ev.Tryz
open Go.Proofs Go.Pl
set_option linter.unusedVariables false
noncomputable section
def QL.st2 (k5 : Int) (c2 : Bool × Bool × Bool × Bool × Bool × Int) (v4a : Bool) (t : Bool) (s : Bool) (r : Bool) (p : Bool) (q : Int) : St := ⟨[.gone, .gone, .ptr 0 [], .gone, .ptr 1 [], .dat (.int .i64) k5, .gone, .gone, .gone, .gone, .gone, .gone, .gone, .gone, .gone, .gone, .gone, .gone, .gone, .gone, .gone], [.box 114 (.pair .bool (.pair .bool (.pair .bool (.pair .bool (.pair .bool (.int .i64)))))) (.dat (.pair .bool (.pair .bool (.pair .bool (.pair .bool (.pair .bool (.int .i64)))))) c2), .box 114 (.pair .bool (.pair .bool (.pair .bool (.pair .bool (.pair .bool (.int .i64)))))) (.pr (.dat .bool v4a) (.pr (.dat .bool t) (.pr (.dat .bool s) (.pr (.dat .bool r) (.pr (.dat .bool p) (.dat (.int .i64) q))))))]⟩
def QL.con : Con := { ps := [(.val, (.pair .bool (.pair .bool (.pair .bool (.pair .bool (.pair .bool (.int .i64))))))), (.val, (.int .i64))], rs := [(.val, (.pair .bool (.pair .bool (.pair .bool (.pair .bool (.pair .bool (.int .i64)))))))], F := fun x => QL.f x.1 x.2 }
def QL.cs : List (FuncId × Con) := [(169, QaT.con)]
def QL.E : Env := envOf tab QL.cs 0 false
def QL.keep (i : Nat) : List Nat := if i = 2 then [2, 4, 5] else []
def QL.at2 (n : Nat) (x : YB × Int) : Code × (Ex → St → Option (YB)) := ctx QL.E QL.keep n [.snd, .fst, .snd, .blk] (Vg Tryz.f168) (kEnd QL.E Tryz.f168 QL.con x)
def QL.LN2 (n : Nat) (x : YB × Int) : Nat → St → Option (YB) := loopN (exec QL.E QL.keep n (Vj (QL.at2 n x).1)) (St.norm 0 (QL.keep 2)) (QL.at2 n x).2
set_option maxRecDepth 100000 in
theorem QL.lem2 (n : Nat) (x : YB × Int) : ∀ (k : Nat) (k5 : Int) (c2 : Bool × Bool × Bool × Bool × Bool × Int) (v4a : Bool) (t : Bool) (s : Bool) (r : Bool) (p : Bool) (q : Int), QL.LN2 n x k (QL.st2 k5 c2 v4a t s r p q) = QL.l2 n k k5 c2 v4a t s r p q := by
 intro k
 induction k with
 | zero => intro k5 c2 v4a t s r p q; rfl
 | succ k ih =>
  intro k5 c2 v4a t s r p q
  have h : QL.LN2 n x (k + 1) (QL.st2 k5 c2 v4a t s r p q) = QL.g2 (fun k5 c2 v4a t s r p q => QL.LN2 n x k (QL.st2 k5 c2 v4a t s r p q)) k5 c2 v4a t s r p q := by kernel_rfl
  rw [h]
  simp only [ih]
  rfl
set_option maxRecDepth 100000 in
theorem QL.body (n : Nat) (x : YB × Int) : bodyF QL.E QL.keep n Tryz.f168 QL.con x = QL.fn n x.1 x.2 := by
 have h : bodyF QL.E QL.keep n Tryz.f168 QL.con x = QL.top (fun k5 c2 v4a t s r p q => QL.LN2 n x n (QL.st2 k5 c2 v4a t s r p q)) x.1 x.2 := by kernel_rfl
 rw [h]
 simp only [QL.lem2]
 rfl
set_option maxRecDepth 100000 in
theorem QL.good : Good Tryz.prog 168 QL.con :=
 Vf tabok (cs := QL.cs) ⟨QaT.good, trivial⟩ 0 false (fn := Tryz.f168) Tryz.func168 rfl (by decide) (by simp [QL.con]) QL.keep NN (fun _ => rfl) (fun x => QL.body NN x)
end
end Go.Ev.Tryz

namespace Go.Ev.Tryz
open Go.Proofs Go.Pl
set_option linter.unusedVariables false
noncomputable section
def QR.st4 (s : List YC) (u : Int) (y : Int) (i9 : Int) (v4a : Bool) (w : Bool) (v : Bool) (t : Bool) (q : Bool) (r : Int) (c6 : Bool × Bool × Bool × Bool × Bool × Int) (p : List Int) : St := ⟨[.dat (.sl 72 (.pair (.int .i64) (.int .i64))) s, .dat (.int .i64) u, .gone, .gone, .ptr 0 [], .gone, .ptr 1 [], .dat (.int .i64) y, .ref 2, .dat (.int .i64) i9, .gone, .gone, .gone, .gone, .gone, .gone, .gone, .gone, .gone, .gone, .gone, .gone, .gone, .gone, .gone, .gone, .gone, .gone, .gone, .gone, .gone, .gone, .gone, .gone, .gone, .gone, .gone, .gone, .gone, .gone, .gone, .gone, .gone, .gone, .gone, .gone, .gone, .gone, .gone, .gone, .gone, .gone, .gone, .gone, .gone, .gone, .gone, .gone, .gone, .gone, .gone, .gone, .gone, .gone, .gone], [.box 114 (.pair .bool (.pair .bool (.pair .bool (.pair .bool (.pair .bool (.int .i64)))))) (.pr (.dat .bool v4a) (.pr (.dat .bool w) (.pr (.dat .bool v) (.pr (.dat .bool t) (.pr (.dat .bool q) (.dat (.int .i64) r)))))), .box 114 (.pair .bool (.pair .bool (.pair .bool (.pair .bool (.pair .bool (.int .i64)))))) (.dat (.pair .bool (.pair .bool (.pair .bool (.pair .bool (.pair .bool (.int .i64)))))) c6), .row 2 (.int .i64) p none]⟩
def QR.tr0 (L4 : YAF) (s : List YC) (u : Int) (i9 : Int) (v4a : Bool) (w : Bool) (v : Bool) (t : Bool) (q : Bool) (r : Int) (p : List Int) (r1 : YB) : Option YAE :=
 (QaT.f r1 ((s.getD (i9 : Int).toNat (0, 0)).2)).bind fun r2 =>
 if r2.2 = true then
  L4 s u ((s.getD (i9 : Int).toNat (0, 0)).1) (IntKind.i64.wrap (i9 + 1)) v4a w v t q r r2.1 p
 else if p.length + ([i9]).length < room 8 then
  L4 s u ((s.getD (i9 : Int).toNat (0, 0)).1) (IntKind.i64.wrap (i9 + 1)) v4a w v t q r r1 (p ++ ([i9]))
 else
  none
def QR.tr1 (L4 : YAF) (s : List YC) (u : Int) (i9 : Int) (v4a : Bool) (w : Bool) (v : Bool) (t : Bool) (q : Bool) (r : Int) (p : List Int) (r1 : YB) : Option YAE :=
 agree (
  QR.tr0 L4 s u i9 v4a w v t q r p r1
 ) (
  QR.tr0 L4 s u i9 v4a w v t q r p r1
 )
def QR.tr2 (L4 : YAF) (s : List YC) (u : Int) (i9 : Int) (v4a : Bool) (w : Bool) (v : Bool) (t : Bool) (q : Bool) (r : Int) (p : List Int) (r1 : YB) : Option YAE :=
 agree (
  QR.tr1 L4 s u i9 v4a w v t q r p r1
 ) (
  QR.tr0 L4 s u i9 v4a w v t q r p r1
 )
def QR.g4raw (L4 : YAF) (s : List YC) (u : Int) (y : Int) (i9 : Int) (v4a : Bool) (w : Bool) (v : Bool) (t : Bool) (q : Bool) (r : Int) (c6 : Bool × Bool × Bool × Bool × Bool × Int) (p : List Int) : Option YAE :=
 if (decide ((i9 : Int) < (s.length : Int))) = true then
  if (0 : Int) ≤ i9 ∧ (i9 : Int) < s.length then
   if (decide ((((s.getD (i9 : Int).toNat (0, 0)).1) : Int) ≤ u)) = true then
    if (0 : Int) ≤ i9 ∧ (i9 : Int) < s.length then
     (QL.f c6 (IntKind.i64.wrap (((s.getD (i9 : Int).toNat (0, 0)).1) - y))).bind fun r1 =>
     if (0 : Int) ≤ i9 ∧ (i9 : Int) < s.length then
      if (0 : Int) ≤ i9 ∧ (i9 : Int) < s.length then
       agree (
        QR.tr2 L4 s u i9 v4a w v t q r p r1
       ) (
        agree (
         QR.tr2 L4 s u i9 v4a w v t q r p r1
        ) (
         QR.tr1 L4 s u i9 v4a w v t q r p r1
        )
       )
      else
       none
     else
      none
    else
     none
   else
    (QL.f c6 (IntKind.i64.wrap (u - y))).bind fun r3 =>
    some (r3, p)
  else
   none
 else
  (QL.f c6 (IntKind.i64.wrap (u - y))).bind fun r4 =>
  some (r4, p)
theorem QR.g4raw_eq (L4 : YAF) (s : List YC) (u : Int) (y : Int) (i9 : Int) (v4a : Bool) (w : Bool) (v : Bool) (t : Bool) (q : Bool) (r : Int) (c6 : Bool × Bool × Bool × Bool × Bool × Int) (p : List Int) : QR.g4raw L4 s u y i9 v4a w v t q r c6 p = QR.g4 L4 s u y i9 v4a w v t q r c6 p := by
 unfold QR.g4raw QR.g4
 simp only [Vt, QR.tr0, QR.tr1, QR.tr2]
def QR.con : Con := { ps := [(.val, (.sl 72 (.pair (.int .i64) (.int .i64)))), (.val, (.int .i64))], rs := [(.own, (.pair .bool (.pair .bool (.pair .bool (.pair .bool (.pair .bool (.int .i64))))))), (.own, (.sl 2 (.int .i64)))], F := fun x => QR.f x.1 x.2 }
def QR.cs : List (FuncId × Con) := [(168, QL.con), (169, QaT.con)]
def QR.E : Env := envOf tab QR.cs 0 false
def QR.keep (i : Nat) : List Nat := if i = 4 then [0, 1, 4, 6, 7, 8, 9, 200006] else []
def QR.at4 (n : Nat) (x : YE × Int) : Code × (Ex → St → Option (YAE)) := ctx QR.E QR.keep n [.snd, .snd, .snd, .fst, .snd, .blk] (Vg Tryz.f162) (kEnd QR.E Tryz.f162 QR.con x)
def QR.LN4 (n : Nat) (x : YE × Int) : Nat → St → Option (YAE) := loopN (exec QR.E QR.keep n (Vj (QR.at4 n x).1)) (St.norm 0 (QR.keep 4)) (QR.at4 n x).2
set_option maxRecDepth 100000 in
theorem QR.lem4 (n : Nat) (x : YE × Int) : ∀ (k : Nat) (s : List YC) (u : Int) (y : Int) (i9 : Int) (v4a : Bool) (w : Bool) (v : Bool) (t : Bool) (q : Bool) (r : Int) (c6 : Bool × Bool × Bool × Bool × Bool × Int) (p : List Int), QR.LN4 n x k (QR.st4 s u y i9 v4a w v t q r c6 p) = QR.l4 n k s u y i9 v4a w v t q r c6 p := by
 intro k
 induction k with
 | zero => intro s u y i9 v4a w v t q r c6 p; rfl
 | succ k ih =>
  intro s u y i9 v4a w v t q r c6 p
  have h : QR.LN4 n x (k + 1) (QR.st4 s u y i9 v4a w v t q r c6 p) = QR.g4raw (fun s u y i9 v4a w v t q r c6 p => QR.LN4 n x k (QR.st4 s u y i9 v4a w v t q r c6 p)) s u y i9 v4a w v t q r c6 p := by kernel_rfl
  rw [QR.g4raw_eq] at h
  rw [h]
  simp only [ih]
  rfl
set_option maxRecDepth 100000 in
theorem QR.body (n : Nat) (x : YE × Int) : bodyF QR.E QR.keep n Tryz.f162 QR.con x = QR.fn n x.1 x.2 := by
 have h : bodyF QR.E QR.keep n Tryz.f162 QR.con x = QR.top (fun s u y i9 v4a w v t q r c6 p => QR.LN4 n x n (QR.st4 s u y i9 v4a w v t q r c6 p)) x.1 x.2 := by kernel_rfl
 rw [h]
 simp only [QR.lem4]
 rfl
set_option maxRecDepth 100000 in
theorem QR.good : Good Tryz.prog 162 QR.con :=
 Vf tabok (cs := QR.cs) ⟨QL.good, QaT.good, trivial⟩ 0 false (fn := Tryz.f162) Tryz.func162 rfl (by decide) (by simp [QR.con]) QR.keep NN (fun _ => rfl) (fun x => QR.body NN x)
end
end Go.Ev.Tryz

namespace Go.Ev.Tryz
open Go.Proofs Go.Pl
set_option linter.unusedVariables false
noncomputable section
def Qav.con : Con := { ps := [(.val, (.sl 72 (.pair (.int .i64) (.int .i64)))), (.val, (.int .i64))], rs := [(.val, (.pair .bool (.pair .bool (.pair .bool (.pair .bool (.pair .bool (.int .i64))))))), (.val, (.int .i64))], F := fun x => Qav.f x.1 x.2 }
def Qav.cs : List (FuncId × Con) := [(161, Qbe.con), (162, QR.con)]
def Qav.E : Env := envOf tab Qav.cs 0 false
def Qav.keep (i : Nat) : List Nat := []
set_option maxRecDepth 100000 in
theorem Qav.body (n : Nat) (x : YE × Int) : bodyF Qav.E Qav.keep n Tryz.f145 Qav.con x = Qav.fn n x.1 x.2 := by
 have h : bodyF Qav.E Qav.keep n Tryz.f145 Qav.con x = Qav.top x.1 x.2 := by kernel_rfl
 exact h
set_option maxRecDepth 100000 in
theorem Qav.good : Good Tryz.prog 145 Qav.con :=
 Vf tabok (cs := Qav.cs) ⟨Qbe.good, QR.good, trivial⟩ 0 false (fn := Tryz.f145) Tryz.func145 rfl (by decide) (by simp [Qav.con]) Qav.keep NN (fun _ => rfl) (fun x => Qav.body NN x)
end
end Go.Ev.Tryz

namespace Go.Ev.Tryz
open Go.Proofs Go.Pl
set_option linter.unusedVariables false
noncomputable section
def QaY.con : Con := { ps := [(.val, (.pair (.sl 70 (.pair (.int .i64) (.pair .str (.int .i64)))) (.pair (.sl 72 (.pair (.int .i64) (.int .i64))) (.sl 74 (.pair (.int .i64) (.pair .str (.int .i64))))))), (.val, (.int .i64))], rs := [(.val, .str), (.val, (.int .i64))], F := fun x => QaY.f x.1 x.2 }
def QaY.cs : List (FuncId × Con) := [(145, Qav.con)]
def QaY.E : Env := envOf tab QaY.cs 0 false
def QaY.keep (i : Nat) : List Nat := []
set_option maxRecDepth 100000 in
theorem QaY.body (n : Nat) (x : YF × Int) : bodyF QaY.E QaY.keep n Tryz.f122 QaY.con x = QaY.fn n x.1 x.2 := by
 have h : bodyF QaY.E QaY.keep n Tryz.f122 QaY.con x = QaY.top x.1 x.2 := by kernel_rfl
 exact h
set_option maxRecDepth 100000 in
theorem QaY.good : Good Tryz.prog 122 QaY.con :=
 Vf tabok (cs := QaY.cs) ⟨Qav.good, trivial⟩ 0 false (fn := Tryz.f122) Tryz.func122 rfl (by decide) (by simp [QaY.con]) QaY.keep NN (fun _ => rfl) (fun x => QaY.body NN x)
end
end Go.Ev.Tryz

namespace Go.Ev.Tryz
open Go.Proofs Go.Pl
set_option linter.unusedVariables false
noncomputable section
def Qh.st9 (p : List Int) (s : List YC) (q : List YA) (r : List ByteArray) (i10 : Int) (v : Int) (u : Bool) (k15 : Int) (t : List Int) : St := ⟨[.dat (.sl 2 (.int .i64)) p, .dat (.sl 72 (.pair (.int .i64) (.int .i64))) s, .dat (.sl 70 (.pair (.int .i64) (.pair .str (.int .i64)))) q, .dat (.sl 9 .str) r, .gone, .gone, .gone, .gone, .gone, .ref 0, .dat (.int .i64) i10, .dat (.int .i64) v, .gone, .gone, .dat .bool u, .dat (.int .i64) k15, .gone, .gone, .gone, .gone, .gone, .gone, .gone, .gone, .gone, .gone, .gone, .gone, .gone, .gone, .gone, .gone, .gone, .gone, .gone, .gone, .gone, .gone, .gone, .gone, .gone, .gone, .gone, .gone, .gone, .gone, .gone, .gone, .gone, .gone, .gone, .gone, .gone, .gone, .gone, .gone, .gone, .gone, .gone, .gone, .gone, .gone, .gone, .gone, .gone, .gone, .gone], [.row 2 (.int .i64) t none]⟩
def Qh.st3 (p : List Int) (s : List YC) (q : List YA) (r : List ByteArray) (i10 : Int) (t : List Int) : St := ⟨[.dat (.sl 2 (.int .i64)) p, .dat (.sl 72 (.pair (.int .i64) (.int .i64))) s, .dat (.sl 70 (.pair (.int .i64) (.pair .str (.int .i64)))) q, .dat (.sl 9 .str) r, .gone, .gone, .gone, .gone, .gone, .ref 0, .dat (.int .i64) i10, .gone, .gone, .gone, .gone, .gone, .gone, .gone, .gone, .gone, .gone, .gone, .gone, .gone, .gone, .gone, .gone, .gone, .gone, .gone, .gone, .gone, .gone, .gone, .gone, .gone, .gone, .gone, .gone, .gone, .gone, .gone, .gone, .gone, .gone, .gone, .gone, .gone, .gone, .gone, .gone, .gone, .gone, .gone, .gone, .gone, .gone, .gone, .gone, .gone, .gone, .gone, .gone, .gone, .gone, .gone, .gone], [.row 2 (.int .i64) t none]⟩
def Qh.con : Con := { ps := [(.val, (.sl 2 (.int .i64))), (.val, (.sl 72 (.pair (.int .i64) (.int .i64)))), (.val, (.sl 70 (.pair (.int .i64) (.pair .str (.int .i64))))), (.val, (.sl 9 .str))], rs := [(.own, (.sl 2 (.int .i64)))], F := fun x => Qh.f x.1 x.2.1 x.2.2.1 x.2.2.2 }
def Qh.cs : List (FuncId × Con) := [(144, QP.con), (162, QR.con)]
def Qh.E : Env := envOf tab Qh.cs 0 false
def Qh.keep (i : Nat) : List Nat := if i = 9 then [0, 1, 2, 3, 9, 10, 11, 14, 15] else if i = 3 then [0, 1, 2, 3, 9, 10] else []
def Qh.at9 (n : Nat) (x : List Int × YE × YD × List ByteArray) (M3 : St → Option (YO)) : Code × (Ex → St → Option (YO)) := ctx Qh.E Qh.keep n [.snd, .snd, .fst, .snd, .blk, .rd M3, .snd, .fst, .blk, .snd, .snd, .snd, .fst, .snd, .blk] (Vg Tryz.f147) (kEnd Qh.E Tryz.f147 Qh.con x)
def Qh.LN9 (n : Nat) (x : List Int × YE × YD × List ByteArray) (M3 : St → Option (YO)) : Nat → St → Option (YO) := loopN (exec Qh.E Qh.keep n (Vj (Qh.at9 n x M3).1)) (St.norm 0 (Qh.keep 9)) (Qh.at9 n x M3).2
def Qh.at3 (n : Nat) (x : List Int × YE × YD × List ByteArray) : Code × (Ex → St → Option (YO)) := ctx Qh.E Qh.keep n [.snd, .snd, .fst, .snd, .blk] (Vg Tryz.f147) (kEnd Qh.E Tryz.f147 Qh.con x)
def Qh.LN3 (n : Nat) (x : List Int × YE × YD × List ByteArray) : Nat → St → Option (YO) := loopN (exec Qh.E Qh.keep n (Vj (Qh.at3 n x).1)) (St.norm 0 (Qh.keep 3)) (Qh.at3 n x).2
set_option maxRecDepth 100000 in
theorem Qh.lem9 (n : Nat) (x : List Int × YE × YD × List ByteArray) (M3 : St → Option (YO)) : ∀ (k : Nat) (p : List Int) (s : List YC) (q : List YA) (r : List ByteArray) (i10 : Int) (v : Int) (u : Bool) (k15 : Int) (t : List Int), Qh.LN9 n x M3 k (Qh.st9 p s q r i10 v u k15 t) = Qh.l9 n (fun p s q r i10 t => M3 (Qh.st3 p s q r i10 t)) k p s q r i10 v u k15 t := by
 intro k
 induction k with
 | zero => intro p s q r i10 v u k15 t; rfl
 | succ k ih =>
  intro p s q r i10 v u k15 t
  have h : Qh.LN9 n x M3 (k + 1) (Qh.st9 p s q r i10 v u k15 t) = Qh.g9 (fun p s q r i10 t => M3 (Qh.st3 p s q r i10 t)) (fun p s q r i10 v u k15 t => Qh.LN9 n x M3 k (Qh.st9 p s q r i10 v u k15 t)) p s q r i10 v u k15 t := by kernel_rfl
  rw [h]
  simp only [ih]
  rfl
set_option maxRecDepth 100000 in
theorem Qh.lem3 (n : Nat) (x : List Int × YE × YD × List ByteArray) : ∀ (k : Nat) (p : List Int) (s : List YC) (q : List YA) (r : List ByteArray) (i10 : Int) (t : List Int), Qh.LN3 n x k (Qh.st3 p s q r i10 t) = Qh.l3 n k p s q r i10 t := by
 intro k
 induction k with
 | zero => intro p s q r i10 t; rfl
 | succ k ih =>
  intro p s q r i10 t
  have h : Qh.LN3 n x (k + 1) (Qh.st3 p s q r i10 t) = Qh.g3 (fun p s q r i10 v u k15 t => Qh.LN9 n x (Qh.LN3 n x k) n (Qh.st9 p s q r i10 v u k15 t)) (fun p s q r i10 t => Qh.LN3 n x k (Qh.st3 p s q r i10 t)) p s q r i10 t := by kernel_rfl
  rw [h]
  simp only [ih, Qh.lem9]
  rfl
set_option maxRecDepth 100000 in
theorem Qh.body (n : Nat) (x : List Int × YE × YD × List ByteArray) : bodyF Qh.E Qh.keep n Tryz.f147 Qh.con x = Qh.fn n x.1 x.2.1 x.2.2.1 x.2.2.2 := by
 have h : bodyF Qh.E Qh.keep n Tryz.f147 Qh.con x = Qh.top (fun p s q r i10 t => Qh.LN3 n x n (Qh.st3 p s q r i10 t)) x.1 x.2.1 x.2.2.1 x.2.2.2 := by kernel_rfl
 rw [h]
 simp only [Qh.lem3]
 rfl
set_option maxRecDepth 100000 in
theorem Qh.good : Good Tryz.prog 147 Qh.con :=
 Vf tabok (cs := Qh.cs) ⟨QP.good, QR.good, trivial⟩ 0 false (fn := Tryz.f147) Tryz.func147 rfl (by decide) (by simp [Qh.con]) Qh.keep NN (fun _ => rfl) (fun x => Qh.body NN x)
end
end Go.Ev.Tryz

namespace Go.Ev.Tryz
open Go.Proofs Go.Pl
set_option linter.unusedVariables false
noncomputable section
def Q7.st5 (t1 : Int) (i7 : Int) (d2 : YD × YE × List YA) (p : List ByteArray) : St := ⟨[.gone, .dat (.int .i64) t1, .ptr 0 [], .gone, .gone, .gone, .ref 1, .dat (.int .i64) i7, .gone, .gone, .gone, .gone, .gone, .gone, .gone, .gone, .gone, .gone, .gone, .gone, .gone, .gone, .gone, .gone, .gone, .gone, .gone, .gone, .gone, .gone, .gone, .gone, .gone, .gone, .gone, .gone, .gone, .gone, .gone, .gone, .gone, .gone], [.box 35 (.pair (.sl 70 (.pair (.int .i64) (.pair .str (.int .i64)))) (.pair (.sl 72 (.pair (.int .i64) (.int .i64))) (.sl 74 (.pair (.int .i64) (.pair .str (.int .i64)))))) (.dat (.pair (.sl 70 (.pair (.int .i64) (.pair .str (.int .i64)))) (.pair (.sl 72 (.pair (.int .i64) (.int .i64))) (.sl 74 (.pair (.int .i64) (.pair .str (.int .i64)))))) d2), .row 9 .str p none]⟩
def Q7.con : Con := { ps := [(.val, (.pair (.sl 70 (.pair (.int .i64) (.pair .str (.int .i64)))) (.pair (.sl 72 (.pair (.int .i64) (.int .i64))) (.sl 74 (.pair (.int .i64) (.pair .str (.int .i64))))))), (.val, (.int .i64))], rs := [(.val, .str), (.val, (.int .i64))], F := fun x => Q7.f x.1 x.2 }
def Q7.cs : List (FuncId × Con) := [(68, (Qf.con (fun a0 => Qf.f a0))), (90, Qar.con), (146, Qm.con), (147, Qh.con)]
def Q7.E : Env := envOf tab Q7.cs 0 false
def Q7.keep (i : Nat) : List Nat := if i = 5 then [1, 2, 6, 7] else []
def Q7.at5 (n : Nat) (x : YF × Int) : Code × (Ex → St → Option (YU)) := ctx Q7.E Q7.keep n [.snd, .snd, .snd, .fst, .snd, .blk] (Vg Tryz.f123) (kEnd Q7.E Tryz.f123 Q7.con x)
def Q7.LN5 (n : Nat) (x : YF × Int) : Nat → St → Option (YU) := loopN (exec Q7.E Q7.keep n (Vj (Q7.at5 n x).1)) (St.norm 0 (Q7.keep 5)) (Q7.at5 n x).2
set_option maxRecDepth 100000 in
theorem Q7.lem5 (n : Nat) (x : YF × Int) : ∀ (k : Nat) (t1 : Int) (i7 : Int) (d2 : YD × YE × List YA) (p : List ByteArray), Q7.LN5 n x k (Q7.st5 t1 i7 d2 p) = Q7.l5 n k t1 i7 d2 p := by
 intro k
 induction k with
 | zero => intro t1 i7 d2 p; rfl
 | succ k ih =>
  intro t1 i7 d2 p
  have h : Q7.LN5 n x (k + 1) (Q7.st5 t1 i7 d2 p) = Q7.g5 (fun t1 i7 d2 p => Q7.LN5 n x k (Q7.st5 t1 i7 d2 p)) t1 i7 d2 p := by kernel_rfl
  rw [h]
  simp only [ih]
  rfl
set_option maxRecDepth 100000 in
theorem Q7.body (n : Nat) (x : YF × Int) : bodyF Q7.E Q7.keep n Tryz.f123 Q7.con x = Q7.fn n x.1 x.2 := by
 have h : bodyF Q7.E Q7.keep n Tryz.f123 Q7.con x = Q7.top (fun t1 i7 d2 p => Q7.LN5 n x n (Q7.st5 t1 i7 d2 p)) x.1 x.2 := by kernel_rfl
 rw [h]
 simp only [Q7.lem5]
 rfl
set_option maxRecDepth 100000 in
theorem Q7.good : Good Tryz.prog 123 Q7.con :=
 Vf tabok (cs := Q7.cs) ⟨Qf.good, Qar.good, Qm.good, Qh.good, trivial⟩ 0 false (fn := Tryz.f123) Tryz.func123 rfl (by decide) (by simp [Q7.con]) Q7.keep NN (fun _ => rfl) (fun x => Q7.body NN x)
end
end Go.Ev.Tryz

namespace Go.Ev.Tryz
open Go.Proofs Go.Pl
set_option linter.unusedVariables false
noncomputable section
def QaD.con : Con := { ps := [(.val, (.sl 74 (.pair (.int .i64) (.pair .str (.int .i64))))), (.val, .str)], rs := [(.val, (.int .i64)), (.val, (.int .i64))], F := fun x => QaD.f x.1 x.2 }
def QaD.cs : List (FuncId × Con) := [(59, Qi.con), (91, QT.con), (94, QJ.con)]
def QaD.E : Env := envOf tab QaD.cs 0 false
def QaD.keep (i : Nat) : List Nat := []
set_option maxRecDepth 100000 in
theorem QaD.body (n : Nat) (x : YD × ByteArray) : bodyF QaD.E QaD.keep n Tryz.f124 QaD.con x = QaD.fn n x.1 x.2 := by
 have h : bodyF QaD.E QaD.keep n Tryz.f124 QaD.con x = QaD.top x.1 x.2 := by kernel_rfl
 exact h
set_option maxRecDepth 100000 in
theorem QaD.good : Good Tryz.prog 124 QaD.con :=
 Vf tabok (cs := QaD.cs) ⟨Qi.good, QT.good, QJ.good, trivial⟩ 0 false (fn := Tryz.f124) Tryz.func124 rfl (by decide) (by simp [QaD.con]) QaD.keep NN (fun _ => rfl) (fun x => QaD.body NN x)
end
end Go.Ev.Tryz

namespace Go.Ev.Tryz
open Go.Proofs Go.Pl
set_option linter.unusedVariables false
noncomputable section
def Q3.st3 (p : List ByteArray) (by1 : ByteArray) (q : ByteArray) (i6 : Int) : St := ⟨[.dat (.sl 9 .str) p, .dat .str by1, .gone, .gone, .gone, .dat .str q, .dat (.int .i64) i6, .gone, .gone, .gone, .gone, .gone, .gone, .gone, .gone, .gone, .gone, .gone, .gone, .gone, .gone, .gone, .gone, .gone, .gone], []⟩
def Q3.con : Con := { ps := [(.val, (.sl 9 .str)), (.val, .str)], rs := [(.val, .str)], F := fun x => Q3.f x.1 x.2 }
def Q3.cs : List (FuncId × Con) := []
def Q3.E : Env := envOf tab Q3.cs 0 false
def Q3.keep (i : Nat) : List Nat := if i = 3 then [0, 1, 5, 6] else []
def Q3.at3 (n : Nat) (x : List ByteArray × ByteArray) : Code × (Ex → St → Option (ByteArray)) := ctx Q3.E Q3.keep n [.snd, .snd, .fst, .snd, .blk] (Vg Tryz.f126) (kEnd Q3.E Tryz.f126 Q3.con x)
def Q3.LN3 (n : Nat) (x : List ByteArray × ByteArray) : Nat → St → Option (ByteArray) := loopN (exec Q3.E Q3.keep n (Vj (Q3.at3 n x).1)) (St.norm 0 (Q3.keep 3)) (Q3.at3 n x).2
set_option maxRecDepth 100000 in
theorem Q3.lem3 (n : Nat) (x : List ByteArray × ByteArray) : ∀ (k : Nat) (p : List ByteArray) (by1 : ByteArray) (q : ByteArray) (i6 : Int), Q3.LN3 n x k (Q3.st3 p by1 q i6) = Q3.l3 n k p by1 q i6 := by
 intro k
 induction k with
 | zero => intro p by1 q i6; rfl
 | succ k ih =>
  intro p by1 q i6
  have h : Q3.LN3 n x (k + 1) (Q3.st3 p by1 q i6) = Q3.g3 (fun p by1 q i6 => Q3.LN3 n x k (Q3.st3 p by1 q i6)) p by1 q i6 := by kernel_rfl
  rw [h]
  simp only [ih]
  rfl
set_option maxRecDepth 100000 in
theorem Q3.body (n : Nat) (x : List ByteArray × ByteArray) : bodyF Q3.E Q3.keep n Tryz.f126 Q3.con x = Q3.fn n x.1 x.2 := by
 have h : bodyF Q3.E Q3.keep n Tryz.f126 Q3.con x = Q3.top (fun p by1 q i6 => Q3.LN3 n x n (Q3.st3 p by1 q i6)) x.1 x.2 := by kernel_rfl
 rw [h]
 simp only [Q3.lem3]
 rfl
set_option maxRecDepth 100000 in
theorem Q3.good : Good Tryz.prog 126 Q3.con :=
 Vf tabok (cs := Q3.cs) trivial 0 false (fn := Tryz.f126) Tryz.func126 rfl (by decide) (by simp [Q3.con]) Q3.keep NN (fun _ => rfl) (fun x => Q3.body NN x)
end
end Go.Ev.Tryz

namespace Go.Ev.Tryz
open Go.Proofs Go.Pl
set_option linter.unusedVariables false
noncomputable section
def Qbd.con : Con := { ps := [(.val, (.int .i64)), (.val, (.int .i64)), (.val, (.int .i64)), (.val, (.int .i64))], rs := [(.val, (.int .i64))], F := fun x => Qbd.f x.1 x.2.1 x.2.2.1 x.2.2.2 }
def Qbd.cs : List (FuncId × Con) := [(92, Qaj.con)]
def Qbd.E : Env := envOf tab Qbd.cs 0 false
def Qbd.keep (i : Nat) : List Nat := []
set_option maxRecDepth 100000 in
theorem Qbd.body (n : Nat) (x : Int × Int × Int × Int) : bodyF Qbd.E Qbd.keep n Tryz.f148 Qbd.con x = Qbd.fn n x.1 x.2.1 x.2.2.1 x.2.2.2 := by
 have h : bodyF Qbd.E Qbd.keep n Tryz.f148 Qbd.con x = Qbd.top x.1 x.2.1 x.2.2.1 x.2.2.2 := by kernel_rfl
 exact h
set_option maxRecDepth 100000 in
theorem Qbd.good : Good Tryz.prog 148 Qbd.con :=
 Vf tabok (cs := Qbd.cs) ⟨Qaj.good, trivial⟩ 0 false (fn := Tryz.f148) Tryz.func148 rfl (by decide) (by simp [Qbd.con]) Qbd.keep NN (fun _ => rfl) (fun x => Qbd.body NN x)
end
end Go.Ev.Tryz

namespace Go.Ev.Tryz
open Go.Proofs Go.Pl
set_option linter.unusedVariables false
noncomputable section
def Qa1.con : Con := { ps := [(.val, (.int .i64)), (.val, (.int .i64))], rs := [(.val, (.int .i64))], F := fun x => Qa1.f x.1 x.2 }
def Qa1.cs : List (FuncId × Con) := []
def Qa1.E : Env := envOf tab Qa1.cs 0 false
def Qa1.keep (i : Nat) : List Nat := []
set_option maxRecDepth 100000 in
theorem Qa1.body (n : Nat) (x : Int × Int) : bodyF Qa1.E Qa1.keep n Tryz.f170 Qa1.con x = Qa1.fn n x.1 x.2 := by
 have h : bodyF Qa1.E Qa1.keep n Tryz.f170 Qa1.con x = Qa1.top x.1 x.2 := by kernel_rfl
 exact h
set_option maxRecDepth 100000 in
theorem Qa1.good : Good Tryz.prog 170 Qa1.con :=
 Vf tabok (cs := Qa1.cs) trivial 0 false (fn := Tryz.f170) Tryz.func170 rfl (by decide) (by simp [Qa1.con]) Qa1.keep NN (fun _ => rfl) (fun x => Qa1.body NN x)
end
end Go.Ev.Tryz

namespace Go.Ev.Tryz
open Go.Proofs Go.Pl
set_option linter.unusedVariables false
noncomputable section
def Qay.con : Con := { ps := [(.val, (.int .i64)), (.val, (.int .i64))], rs := [(.val, (.int .i64))], F := fun x => Qay.f x.1 x.2 }
def Qay.cs : List (FuncId × Con) := [(170, Qa1.con)]
def Qay.E : Env := envOf tab Qay.cs 0 false
def Qay.keep (i : Nat) : List Nat := []
set_option maxRecDepth 100000 in
theorem Qay.body (n : Nat) (x : Int × Int) : bodyF Qay.E Qay.keep n Tryz.f163 Qay.con x = Qay.fn n x.1 x.2 := by
 have h : bodyF Qay.E Qay.keep n Tryz.f163 Qay.con x = Qay.top x.1 x.2 := by kernel_rfl
 exact h
set_option maxRecDepth 100000 in
theorem Qay.good : Good Tryz.prog 163 Qay.con :=
 Vf tabok (cs := Qay.cs) ⟨Qa1.good, trivial⟩ 0 false (fn := Tryz.f163) Tryz.func163 rfl (by decide) (by simp [Qay.con]) Qay.keep NN (fun _ => rfl) (fun x => Qay.body NN x)
end
end Go.Ev.Tryz

namespace Go.Ev.Tryz
open Go.Proofs Go.Pl
set_option linter.unusedVariables false
noncomputable section
def Qad.st3 (up0 : Int) (t4 : Int) (p : Int) : St := ⟨[.dat (.int .i64) up0, .gone, .gone, .gone, .dat (.int .i64) t4, .dat (.int .i64) p, .gone, .gone, .gone, .gone, .gone, .gone, .gone, .gone, .gone, .gone, .gone, .gone, .gone, .gone, .gone, .gone, .gone, .gone, .gone, .gone, .gone, .gone, .gone, .gone, .gone, .gone, .gone, .gone, .gone, .gone, .gone, .gone], []⟩
def Qad.con : Con := { ps := [(.val, (.int .i64))], rs := [(.val, (.int .i64)), (.val, (.int .i64))], F := fun x => Qad.f x }
def Qad.cs : List (FuncId × Con) := [(163, Qay.con)]
def Qad.E : Env := envOf tab Qad.cs 0 false
def Qad.keep (i : Nat) : List Nat := if i = 3 then [0, 4, 5] else []
def Qad.at3 (n : Nat) (x : Int) : Code × (Ex → St → Option (YC)) := ctx Qad.E Qad.keep n [.snd, .snd, .snd, .fst, .blk] (Vg Tryz.f149) (kEnd Qad.E Tryz.f149 Qad.con x)
def Qad.LN3 (n : Nat) (x : Int) : Nat → St → Option (YC) := loopN (exec Qad.E Qad.keep n (Vj (Qad.at3 n x).1)) (St.norm 0 (Qad.keep 3)) (Qad.at3 n x).2
set_option maxRecDepth 100000 in
theorem Qad.lem3 (n : Nat) (x : Int) : ∀ (k : Nat) (up0 : Int) (t4 : Int) (p : Int), Qad.LN3 n x k (Qad.st3 up0 t4 p) = Qad.l3 n k up0 t4 p := by
 intro k
 induction k with
 | zero => intro up0 t4 p; rfl
 | succ k ih =>
  intro up0 t4 p
  have h : Qad.LN3 n x (k + 1) (Qad.st3 up0 t4 p) = Qad.g3 (fun up0 t4 p => Qad.LN3 n x k (Qad.st3 up0 t4 p)) up0 t4 p := by kernel_rfl
  rw [h]
  simp only [ih]
  rfl
set_option maxRecDepth 100000 in
theorem Qad.body (n : Nat) (x : Int) : bodyF Qad.E Qad.keep n Tryz.f149 Qad.con x = Qad.fn n x := by
 have h : bodyF Qad.E Qad.keep n Tryz.f149 Qad.con x = Qad.top (fun up0 t4 p => Qad.LN3 n x n (Qad.st3 up0 t4 p)) x := by kernel_rfl
 rw [h]
 simp only [Qad.lem3]
 rfl
set_option maxRecDepth 100000 in
theorem Qad.good : Good Tryz.prog 149 Qad.con :=
 Vf tabok (cs := Qad.cs) ⟨Qay.good, trivial⟩ 0 false (fn := Tryz.f149) Tryz.func149 rfl (by decide) (by simp [Qad.con]) Qad.keep NN (fun _ => rfl) (fun x => Qad.body NN x)
end
end Go.Ev.Tryz

namespace Go.Ev.Tryz
open Go.Proofs Go.Pl
set_option linter.unusedVariables false
noncomputable section
def Qbk.con : Con := { ps := [(.val, (.int .i64))], rs := [(.val, (.int .i64)), (.val, (.int .i64)), (.val, (.int .i64))], F := fun x => Qbk.f x }
def Qbk.cs : List (FuncId × Con) := [(148, Qbd.con), (149, Qad.con)]
def Qbk.E : Env := envOf tab Qbk.cs 0 false
def Qbk.keep (i : Nat) : List Nat := []
set_option maxRecDepth 100000 in
theorem Qbk.body (n : Nat) (x : Int) : bodyF Qbk.E Qbk.keep n Tryz.f127 Qbk.con x = Qbk.fn n x := by
 have h : bodyF Qbk.E Qbk.keep n Tryz.f127 Qbk.con x = Qbk.top x := by kernel_rfl
 exact h
set_option maxRecDepth 100000 in
theorem Qbk.good : Good Tryz.prog 127 Qbk.con :=
 Vf tabok (cs := Qbk.cs) ⟨Qbd.good, Qad.good, trivial⟩ 0 false (fn := Tryz.f127) Tryz.func127 rfl (by decide) (by simp [Qbk.con]) Qbk.keep NN (fun _ => rfl) (fun x => Qbk.body NN x)
end
end Go.Ev.Tryz

namespace Go.Ev.Tryz
open Go.Proofs Go.Pl
set_option linter.unusedVariables false
noncomputable section
def Qbc.con : Con := { ps := [(.val, (.int .i64)), (.val, (.int .i64))], rs := [(.val, (.int .i64))], F := fun x => Qbc.f x.1 x.2 }
def Qbc.cs : List (FuncId × Con) := [(92, Qaj.con)]
def Qbc.E : Env := envOf tab Qbc.cs 0 false
def Qbc.keep (i : Nat) : List Nat := []
set_option maxRecDepth 100000 in
theorem Qbc.body (n : Nat) (x : Int × Int) : bodyF Qbc.E Qbc.keep n Tryz.f150 Qbc.con x = Qbc.fn n x.1 x.2 := by
 have h : bodyF Qbc.E Qbc.keep n Tryz.f150 Qbc.con x = Qbc.top x.1 x.2 := by kernel_rfl
 exact h
set_option maxRecDepth 100000 in
theorem Qbc.good : Good Tryz.prog 150 Qbc.con :=
 Vf tabok (cs := Qbc.cs) ⟨Qaj.good, trivial⟩ 0 false (fn := Tryz.f150) Tryz.func150 rfl (by decide) (by simp [Qbc.con]) Qbc.keep NN (fun _ => rfl) (fun x => Qbc.body NN x)
end
end Go.Ev.Tryz

namespace Go.Ev.Tryz
open Go.Proofs Go.Pl
set_option linter.unusedVariables false
noncomputable section
def Qa3.con : Con := { ps := [(.val, (.int .i64))], rs := [(.val, (.int .i64))], F := fun x => Qa3.f x }
def Qa3.cs : List (FuncId × Con) := []
def Qa3.E : Env := envOf tab Qa3.cs 0 false
def Qa3.keep (i : Nat) : List Nat := []
set_option maxRecDepth 100000 in
theorem Qa3.body (n : Nat) (x : Int) : bodyF Qa3.E Qa3.keep n Tryz.f164 Qa3.con x = Qa3.fn n x := by
 have h : bodyF Qa3.E Qa3.keep n Tryz.f164 Qa3.con x = Qa3.top x := by kernel_rfl
 exact h
set_option maxRecDepth 100000 in
theorem Qa3.good : Good Tryz.prog 164 Qa3.con :=
 Vf tabok (cs := Qa3.cs) trivial 0 false (fn := Tryz.f164) Tryz.func164 rfl (by decide) (by simp [Qa3.con]) Qa3.keep NN (fun _ => rfl) (fun x => Qa3.body NN x)
end
end Go.Ev.Tryz

namespace Go.Ev.Tryz
open Go.Proofs Go.Pl
set_option linter.unusedVariables false
noncomputable section
def Qac.st2 (p : Int) (q : Int) (s : Int) (r : Int) : St := ⟨[.dat (.int .i64) p, .dat (.int .i64) q, .gone, .gone, .gone, .dat (.int .i64) s, .dat (.int .i64) r, .gone, .gone, .gone, .gone, .gone, .gone, .gone, .gone, .gone, .gone, .gone, .gone, .gone, .gone, .gone, .gone, .gone, .gone, .gone], []⟩
def Qac.con : Con := { ps := [(.val, (.int .i64)), (.val, (.int .i64))], rs := [(.val, (.int .i64))], F := fun x => Qac.f x.1 x.2 }
def Qac.cs : List (FuncId × Con) := [(164, Qa3.con)]
def Qac.E : Env := envOf tab Qac.cs 0 false
def Qac.keep (i : Nat) : List Nat := if i = 2 then [0, 1, 5, 6] else []
def Qac.at2 (n : Nat) (x : Int × Int) : Code × (Ex → St → Option (Int)) := ctx Qac.E Qac.keep n [.snd, .snd, .fst, .blk] (Vg Tryz.f151) (kEnd Qac.E Tryz.f151 Qac.con x)
def Qac.LN2 (n : Nat) (x : Int × Int) : Nat → St → Option (Int) := loopN (exec Qac.E Qac.keep n (Vj (Qac.at2 n x).1)) (St.norm 0 (Qac.keep 2)) (Qac.at2 n x).2
set_option maxRecDepth 100000 in
theorem Qac.lem2 (n : Nat) (x : Int × Int) : ∀ (k : Nat) (p : Int) (q : Int) (s : Int) (r : Int), Qac.LN2 n x k (Qac.st2 p q s r) = Qac.l2 n k p q s r := by
 intro k
 induction k with
 | zero => intro p q s r; rfl
 | succ k ih =>
  intro p q s r
  have h : Qac.LN2 n x (k + 1) (Qac.st2 p q s r) = Qac.g2 (fun p q s r => Qac.LN2 n x k (Qac.st2 p q s r)) p q s r := by kernel_rfl
  rw [h]
  simp only [ih]
  rfl
set_option maxRecDepth 100000 in
theorem Qac.body (n : Nat) (x : Int × Int) : bodyF Qac.E Qac.keep n Tryz.f151 Qac.con x = Qac.fn n x.1 x.2 := by
 have h : bodyF Qac.E Qac.keep n Tryz.f151 Qac.con x = Qac.top (fun p q s r => Qac.LN2 n x n (Qac.st2 p q s r)) x.1 x.2 := by kernel_rfl
 rw [h]
 simp only [Qac.lem2]
 rfl
set_option maxRecDepth 100000 in
theorem Qac.good : Good Tryz.prog 151 Qac.con :=
 Vf tabok (cs := Qac.cs) ⟨Qa3.good, trivial⟩ 0 false (fn := Tryz.f151) Tryz.func151 rfl (by decide) (by simp [Qac.con]) Qac.keep NN (fun _ => rfl) (fun x => Qac.body NN x)
end
end Go.Ev.Tryz

namespace Go.Ev.Tryz
open Go.Proofs Go.Pl
set_option linter.unusedVariables false
noncomputable section
def Qaq.con : Con := { ps := [(.val, (.int .i64)), (.val, (.int .i64))], rs := [(.val, (.int .i64)), (.val, (.int .i64))], F := fun x => Qaq.f x.1 x.2 }
def Qaq.cs : List (FuncId × Con) := [(150, Qbc.con), (151, Qac.con)]
def Qaq.E : Env := envOf tab Qaq.cs 0 false
def Qaq.keep (i : Nat) : List Nat := []
set_option maxRecDepth 100000 in
theorem Qaq.body (n : Nat) (x : Int × Int) : bodyF Qaq.E Qaq.keep n Tryz.f128 Qaq.con x = Qaq.fn n x.1 x.2 := by
 have h : bodyF Qaq.E Qaq.keep n Tryz.f128 Qaq.con x = Qaq.top x.1 x.2 := by kernel_rfl
 exact h
set_option maxRecDepth 100000 in
theorem Qaq.good : Good Tryz.prog 128 Qaq.con :=
 Vf tabok (cs := Qaq.cs) ⟨Qbc.good, Qac.good, trivial⟩ 0 false (fn := Tryz.f128) Tryz.func128 rfl (by decide) (by simp [Qaq.con]) Qaq.keep NN (fun _ => rfl) (fun x => Qaq.body NN x)
end
end Go.Ev.Tryz

namespace Go.Ev.Tryz
open Go.Proofs Go.Pl
set_option linter.unusedVariables false
noncomputable section
def Qa7.con : Con := { ps := [(.val, (.int .i64))], rs := [(.val, .str)], F := fun x => Qa7.f x }
def Qa7.cs : List (FuncId × Con) := [(68, (Qf.con (fun a0 => Qf.f a0)))]
def Qa7.E : Env := envOf tab Qa7.cs 0 false
def Qa7.keep (i : Nat) : List Nat := []
set_option maxRecDepth 100000 in
theorem Qa7.body (n : Nat) (x : Int) : bodyF Qa7.E Qa7.keep n Tryz.f152 Qa7.con x = Qa7.fn n x := by
 have h : bodyF Qa7.E Qa7.keep n Tryz.f152 Qa7.con x = Qa7.top x := by kernel_rfl
 exact h
set_option maxRecDepth 100000 in
theorem Qa7.good : Good Tryz.prog 152 Qa7.con :=
 Vf tabok (cs := Qa7.cs) ⟨Qf.good, trivial⟩ 0 false (fn := Tryz.f152) Tryz.func152 rfl (by decide) (by simp [Qa7.con]) Qa7.keep NN (fun _ => rfl) (fun x => Qa7.body NN x)
end
end Go.Ev.Tryz

namespace Go.Ev.Tryz
open Go.Proofs Go.Pl
set_option linter.unusedVariables false
noncomputable section
def QaV.con : Con := { ps := [(.val, (.int .i64))], rs := [(.val, .str), (.val, (.int .i64))], F := fun x => QaV.f x }
def QaV.cs : List (FuncId × Con) := [(90, Qar.con), (152, Qa7.con)]
def QaV.E : Env := envOf tab QaV.cs 0 false
def QaV.keep (i : Nat) : List Nat := []
set_option maxRecDepth 100000 in
theorem QaV.body (n : Nat) (x : Int) : bodyF QaV.E QaV.keep n Tryz.f129 QaV.con x = QaV.fn n x := by
 have h : bodyF QaV.E QaV.keep n Tryz.f129 QaV.con x = QaV.top x := by kernel_rfl
 exact h
set_option maxRecDepth 100000 in
theorem QaV.good : Good Tryz.prog 129 QaV.con :=
 Vf tabok (cs := QaV.cs) ⟨Qar.good, Qa7.good, trivial⟩ 0 false (fn := Tryz.f129) Tryz.func129 rfl (by decide) (by simp [QaV.con]) QaV.keep NN (fun _ => rfl) (fun x => QaV.body NN x)
end
end Go.Ev.Tryz

namespace Go.Ev.Tryz
open Go.Proofs Go.Pl
set_option linter.unusedVariables false
noncomputable section
def Qah.con : Con := { ps := [(.val, (.pair (.sl 70 (.pair (.int .i64) (.pair .str (.int .i64)))) (.pair (.sl 72 (.pair (.int .i64) (.int .i64))) (.sl 74 (.pair (.int .i64) (.pair .str (.int .i64))))))), (.val, (.sl 9 .str)), (.val, (.sl 2 (.int .i64)))], rs := [(.val, .str), (.val, (.int .i64))], F := fun x => Qah.f x.1 x.2.1 x.2.2 }
def Qah.cs : List (FuncId × Con) := [(68, (Qf.con (fun a0 => Qf.f a0))), (121, Qa6.con), (122, QaY.con), (123, Q7.con), (124, QaD.con), (125, Q5.con), (126, Q3.con), (127, Qbk.con), (128, Qaq.con), (129, QaV.con)]
def Qah.E : Env := envOf tab Qah.cs 0 false
def Qah.keep (i : Nat) : List Nat := []
set_option maxRecDepth 100000 in
theorem Qah.body (n : Nat) (x : YF × List ByteArray × List Int) : bodyF Qah.E Qah.keep n Tryz.f96 Qah.con x = Qah.fn n x.1 x.2.1 x.2.2 := by
 have h : bodyF Qah.E Qah.keep n Tryz.f96 Qah.con x = Qah.top x.1 x.2.1 x.2.2 := by kernel_rfl
 exact h
set_option maxRecDepth 100000 in
theorem Qah.good : Good Tryz.prog 96 Qah.con :=
 Vf tabok (cs := Qah.cs) ⟨Qf.good, Qa6.good, QaY.good, Q7.good, QaD.good, Q5.good, Q3.good, Qbk.good, Qaq.good, QaV.good, trivial⟩ 0 false (fn := Tryz.f96) Tryz.func96 rfl (by decide) (by simp [Qah.con]) Qah.keep NN (fun _ => rfl) (fun x => Qah.body NN x)
end
end Go.Ev.Tryz

namespace Go.Ev.Tryz
open Go.Proofs Go.Pl
set_option linter.unusedVariables false
noncomputable section
def QF.tr0 (d0 : YD × YE × List YA) : Option YAN :=
 (Qf.f 6).bind fun r2 =>
 if (⟨#[101, 114, 114, 111, 114, 32]⟩ : ByteArray).size + r2.size ≤ 9223372036854775807 then
  some (d0, (⟨#[101, 114, 114, 111, 114, 32]⟩ : ByteArray) ++ r2)
 else
  none
def QF.tr1 (d0 : YD × YE × List YA) (r3 : (YF × Int)) : Option YAN :=
 (Qf.f r3.2).bind fun r4 =>
 if (⟨#[101, 114, 114, 111, 114, 32]⟩ : ByteArray).size + r4.size ≤ 9223372036854775807 then
  some (d0, (⟨#[101, 114, 114, 111, 114, 32]⟩ : ByteArray) ++ r4)
 else
  none
def QF.tr2 (d0 : YD × YE × List YA) (r5 : YU) : Option YAN :=
 (Qf.f r5.2).bind fun r6 =>
 if (⟨#[101, 114, 114, 111, 114, 32]⟩ : ByteArray).size + r6.size ≤ 9223372036854775807 then
  some (d0, (⟨#[101, 114, 114, 111, 114, 32]⟩ : ByteArray) ++ r6)
 else
  none
def QF.tr3 (d0 : YD × YE × List YA) (r7 : (YF × Int)) : Option YAN :=
 (Qf.f r7.2).bind fun r8 =>
 if (⟨#[101, 114, 114, 111, 114, 32]⟩ : ByteArray).size + r8.size ≤ 9223372036854775807 then
  some (d0, (⟨#[101, 114, 114, 111, 114, 32]⟩ : ByteArray) ++ r8)
 else
  none
def QF.tr4 (d0 : YD × YE × List YA) (r9 : YU) : Option YAN :=
 (Qf.f r9.2).bind fun r10 =>
 if (⟨#[101, 114, 114, 111, 114, 32]⟩ : ByteArray).size + r10.size ≤ 9223372036854775807 then
  some (d0, (⟨#[101, 114, 114, 111, 114, 32]⟩ : ByteArray) ++ r10)
 else
  none
def QF.tr5 (d0 : YD × YE × List YA) (r11 : (YF × Int)) : Option YAN :=
 (Qf.f r11.2).bind fun r12 =>
 if (⟨#[101, 114, 114, 111, 114, 32]⟩ : ByteArray).size + r12.size ≤ 9223372036854775807 then
  some (d0, (⟨#[101, 114, 114, 111, 114, 32]⟩ : ByteArray) ++ r12)
 else
  none
def QF.tr6 (d0 : YD × YE × List YA) (r13 : YU) : Option YAN :=
 (Qf.f r13.2).bind fun r14 =>
 if (⟨#[101, 114, 114, 111, 114, 32]⟩ : ByteArray).size + r14.size ≤ 9223372036854775807 then
  some (d0, (⟨#[101, 114, 114, 111, 114, 32]⟩ : ByteArray) ++ r14)
 else
  none
def QF.tr7 (d0 : YD × YE × List YA) (r15 : (YF × Int)) : Option YAN :=
 (Qf.f r15.2).bind fun r16 =>
 if (⟨#[101, 114, 114, 111, 114, 32]⟩ : ByteArray).size + r16.size ≤ 9223372036854775807 then
  some (d0, (⟨#[101, 114, 114, 111, 114, 32]⟩ : ByteArray) ++ r16)
 else
  none
def QF.tr8 (d0 : YD × YE × List YA) (r17 : YU) : Option YAN :=
 (Qf.f r17.2).bind fun r18 =>
 if (⟨#[101, 114, 114, 111, 114, 32]⟩ : ByteArray).size + r18.size ≤ 9223372036854775807 then
  some (d0, (⟨#[101, 114, 114, 111, 114, 32]⟩ : ByteArray) ++ r18)
 else
  none
def QF.topraw (d0 : YD × YE × List YA) (p : ByteArray) : Option YAN :=
 (Qs.f p).bind fun r1 =>
 if (!r1.2.2) = true then
  agree (
   QF.tr0 d0
  ) (
   QF.tr0 d0
  )
 else if (0 : Int) ≤ 0 ∧ (0 : Int) < r1.1.length then
  if ((r1.1.getD (0 : Int).toNat ByteArray.empty).toList == (⟨#[112, 101, 111, 112, 108, 101]⟩ : ByteArray).toList) = true then
   if ((r1.1.getD (0 : Int).toNat ByteArray.empty).toList == (⟨#[112, 101, 111, 112, 108, 101]⟩ : ByteArray).toList) = true then
    (Qam.f d0 r1.1 r1.2.1).bind fun r3 =>
    if ((r3.2 : Int) != 0) = true then
     agree (
      QF.tr1 d0 r3
     ) (
      QF.tr1 d0 r3
     )
    else
     some (r3.1, (⟨#[111, 107]⟩ : ByteArray))
   else
    (Qah.f d0 r1.1 r1.2.1).bind fun r5 =>
    if ((r5.2 : Int) != 0) = true then
     agree (
      QF.tr2 d0 r5
     ) (
      QF.tr2 d0 r5
     )
    else
     some (d0, r5.1)
  else if ((r1.1.getD (0 : Int).toNat ByteArray.empty).toList == (⟨#[115, 105, 103, 110, 97, 108]⟩ : ByteArray).toList) = true then
   if ((r1.1.getD (0 : Int).toNat ByteArray.empty).toList == (⟨#[115, 105, 103, 110, 97, 108]⟩ : ByteArray).toList) = true then
    (Qam.f d0 r1.1 r1.2.1).bind fun r7 =>
    if ((r7.2 : Int) != 0) = true then
     agree (
      QF.tr3 d0 r7
     ) (
      QF.tr3 d0 r7
     )
    else
     some (r7.1, (⟨#[111, 107]⟩ : ByteArray))
   else
    (Qah.f d0 r1.1 r1.2.1).bind fun r9 =>
    if ((r9.2 : Int) != 0) = true then
     agree (
      QF.tr4 d0 r9
     ) (
      QF.tr4 d0 r9
     )
    else
     some (d0, r9.1)
  else if ((r1.1.getD (0 : Int).toNat ByteArray.empty).toList == (⟨#[98, 111, 111, 107]⟩ : ByteArray).toList) = true then
   if ((r1.1.getD (0 : Int).toNat ByteArray.empty).toList == (⟨#[98, 111, 111, 107]⟩ : ByteArray).toList) = true then
    (Qam.f d0 r1.1 r1.2.1).bind fun r11 =>
    if ((r11.2 : Int) != 0) = true then
     agree (
      QF.tr5 d0 r11
     ) (
      QF.tr5 d0 r11
     )
    else
     some (r11.1, (⟨#[111, 107]⟩ : ByteArray))
   else
    (Qah.f d0 r1.1 r1.2.1).bind fun r13 =>
    if ((r13.2 : Int) != 0) = true then
     agree (
      QF.tr6 d0 r13
     ) (
      QF.tr6 d0 r13
     )
    else
     some (d0, r13.1)
  else if ((r1.1.getD (0 : Int).toNat ByteArray.empty).toList == (⟨#[115, 101, 116, 116, 108, 101]⟩ : ByteArray).toList) = true then
   (Qam.f d0 r1.1 r1.2.1).bind fun r15 =>
   if ((r15.2 : Int) != 0) = true then
    agree (
     QF.tr7 d0 r15
    ) (
     QF.tr7 d0 r15
    )
   else
    some (r15.1, (⟨#[111, 107]⟩ : ByteArray))
  else
   (Qah.f d0 r1.1 r1.2.1).bind fun r17 =>
   if ((r17.2 : Int) != 0) = true then
    agree (
     QF.tr8 d0 r17
    ) (
     QF.tr8 d0 r17
    )
   else
    some (d0, r17.1)
 else
  none
theorem QF.topraw_eq (d0 : YD × YE × List YA) (p : ByteArray) : QF.topraw d0 p = QF.top d0 p := by
 unfold QF.topraw QF.top
 simp only [Vt, QF.tr0, QF.tr1, QF.tr2, QF.tr3, QF.tr4, QF.tr5, QF.tr6, QF.tr7, QF.tr8]
def QF.con : Con := { ps := [(.val, (.pair (.sl 70 (.pair (.int .i64) (.pair .str (.int .i64)))) (.pair (.sl 72 (.pair (.int .i64) (.int .i64))) (.sl 74 (.pair (.int .i64) (.pair .str (.int .i64))))))), (.val, .str)], rs := [(.val, (.pair (.sl 70 (.pair (.int .i64) (.pair .str (.int .i64)))) (.pair (.sl 72 (.pair (.int .i64) (.int .i64))) (.sl 74 (.pair (.int .i64) (.pair .str (.int .i64))))))), (.val, .str)], F := fun x => QF.f x.1 x.2 }
def QF.cs : List (FuncId × Con) := [(41, Qs.con), (68, (Qf.con (fun a0 => Qf.f a0))), (95, Qam.con), (96, Qah.con)]
def QF.E : Env := envOf tab QF.cs 0 false
def QF.keep (i : Nat) : List Nat := []
set_option maxRecDepth 100000 in
theorem QF.body (n : Nat) (x : YF × ByteArray) : bodyF QF.E QF.keep n Tryz.f61 QF.con x = QF.fn n x.1 x.2 := by
 have h : bodyF QF.E QF.keep n Tryz.f61 QF.con x = QF.topraw x.1 x.2 := by kernel_rfl
 rw [QF.topraw_eq] at h
 exact h
set_option maxRecDepth 100000 in
theorem QF.good : Good Tryz.prog 61 QF.con :=
 Vf tabok (cs := QF.cs) ⟨Qs.good, Qf.good, Qam.good, Qah.good, trivial⟩ 0 false (fn := Tryz.f61) Tryz.func61 rfl (by decide) (by simp [QF.con]) QF.keep NN (fun _ => rfl) (fun x => QF.body NN x)
end
end Go.Ev.Tryz

namespace Go.Ev.Tryz
open Go.Proofs Go.Pl
set_option linter.unusedVariables false
noncomputable section
def QN.st4 (p : List ByteArray) (i6 : Int) (d4 : YD × YE × List YA) (q : List ByteArray) (w3 : List YA) (w4 : List YC) (w5 : List YA) : St := ⟨[.dat (.sl 9 .str) p, .gone, .ptr 0 [], .gone, .ptr 1 [], .ref 2, .dat (.int .i64) i6, .gone, .gone, .gone, .gone, .gone, .gone, .gone, .gone, .gone, .gone, .gone, .gone, .gone, .gone, .gone, .gone, .gone, .gone, .gone, .gone, .gone, .gone, .gone, .gone, .gone, .gone], [.box 35 (.pair (.sl 70 (.pair (.int .i64) (.pair .str (.int .i64)))) (.pair (.sl 72 (.pair (.int .i64) (.int .i64))) (.sl 74 (.pair (.int .i64) (.pair .str (.int .i64)))))) (.pr (.ref 3) (.pr (.ref 4) (.ref 5))), .box 35 (.pair (.sl 70 (.pair (.int .i64) (.pair .str (.int .i64)))) (.pair (.sl 72 (.pair (.int .i64) (.int .i64))) (.sl 74 (.pair (.int .i64) (.pair .str (.int .i64)))))) (.dat (.pair (.sl 70 (.pair (.int .i64) (.pair .str (.int .i64)))) (.pair (.sl 72 (.pair (.int .i64) (.int .i64))) (.sl 74 (.pair (.int .i64) (.pair .str (.int .i64)))))) d4), .row 9 .str q none, .row 70 (.pair (.int .i64) (.pair .str (.int .i64))) w3 none, .row 72 (.pair (.int .i64) (.int .i64)) w4 none, .row 74 (.pair (.int .i64) (.pair .str (.int .i64))) w5 none]⟩
def QN.tr0 (L4 : YY) (p : List ByteArray) (i6 : Int) (d4 : YD × YE × List YA) (q : List ByteArray) (w3 : List YA) (w4 : List YC) (w5 : List YA) : Option YX :=
 (QF.f d4 (p.getD (i6 : Int).toNat ByteArray.empty)).bind fun r2 =>
 if q.length + ([r2.2]).length < room 16 then
  L4 p (IntKind.i64.wrap (i6 + 1)) r2.1 (q ++ ([r2.2])) w3 w4 w5
 else
  none
def QN.tr1 (L4 : YY) (p : List ByteArray) (i6 : Int) (d4 : YD × YE × List YA) (q : List ByteArray) (w3 : List YA) (w4 : List YC) (w5 : List YA) : Option YX :=
 agree (
  QN.tr0 L4 p i6 d4 q w3 w4 w5
 ) (
  QN.tr0 L4 p i6 d4 q w3 w4 w5
 )
def QN.tr2 (L4 : YY) (p : List ByteArray) (i6 : Int) (d4 : YD × YE × List YA) (q : List ByteArray) (w3 : List YA) (w4 : List YC) (w5 : List YA) : Option YX :=
 agree (
  QN.tr1 L4 p i6 d4 q w3 w4 w5
 ) (
  QN.tr0 L4 p i6 d4 q w3 w4 w5
 )
def QN.g4raw (L4 : YY) (p : List ByteArray) (i6 : Int) (d4 : YD × YE × List YA) (q : List ByteArray) (w3 : List YA) (w4 : List YC) (w5 : List YA) : Option YX :=
 if (decide ((i6 : Int) < (p.length : Int))) = true then
  if (0 : Int) ≤ i6 ∧ (i6 : Int) < p.length then
   agree (
    QN.tr2 L4 p i6 d4 q w3 w4 w5
   ) (
    agree (
     QN.tr2 L4 p i6 d4 q w3 w4 w5
    ) (
     QN.tr1 L4 p i6 d4 q w3 w4 w5
    )
   )
  else
   none
 else
  some (d4, q)
theorem QN.g4raw_eq (L4 : YY) (p : List ByteArray) (i6 : Int) (d4 : YD × YE × List YA) (q : List ByteArray) (w3 : List YA) (w4 : List YC) (w5 : List YA) : QN.g4raw L4 p i6 d4 q w3 w4 w5 = QN.g4 L4 p i6 d4 q w3 w4 w5 := by
 unfold QN.g4raw QN.g4
 simp only [Vt, QN.tr0, QN.tr1, QN.tr2]
def QN.con : Con := { ps := [(.val, (.sl 9 .str))], rs := [(.val, (.pair (.sl 70 (.pair (.int .i64) (.pair .str (.int .i64)))) (.pair (.sl 72 (.pair (.int .i64) (.int .i64))) (.sl 74 (.pair (.int .i64) (.pair .str (.int .i64))))))), (.val, (.sl 9 .str))], F := fun x => QN.f x }
def QN.cs : List (FuncId × Con) := [(60, Qbf.con), (61, QF.con)]
def QN.E : Env := envOf tab QN.cs 0 false
def QN.keep (i : Nat) : List Nat := if i = 4 then [0, 2, 4, 5, 6, 200004, 100004] else []
def QN.at4 (n : Nat) (x : List ByteArray) : Code × (Ex → St → Option (YX)) := ctx QN.E QN.keep n [.snd, .snd, .snd, .fst, .snd, .blk] (Vg Tryz.f31) (kEnd QN.E Tryz.f31 QN.con x)
def QN.LN4 (n : Nat) (x : List ByteArray) : Nat → St → Option (YX) := loopN (exec QN.E QN.keep n (Vj (QN.at4 n x).1)) (St.norm 0 (QN.keep 4)) (QN.at4 n x).2
set_option maxRecDepth 100000 in
theorem QN.lem4 (n : Nat) (x : List ByteArray) : ∀ (k : Nat) (p : List ByteArray) (i6 : Int) (d4 : YD × YE × List YA) (q : List ByteArray) (w3 : List YA) (w4 : List YC) (w5 : List YA), QN.LN4 n x k (QN.st4 p i6 d4 q w3 w4 w5) = QN.l4 n k p i6 d4 q w3 w4 w5 := by
 intro k
 induction k with
 | zero => intro p i6 d4 q w3 w4 w5; rfl
 | succ k ih =>
  intro p i6 d4 q w3 w4 w5
  have h : QN.LN4 n x (k + 1) (QN.st4 p i6 d4 q w3 w4 w5) = QN.g4raw (fun p i6 d4 q w3 w4 w5 => QN.LN4 n x k (QN.st4 p i6 d4 q w3 w4 w5)) p i6 d4 q w3 w4 w5 := by kernel_rfl
  rw [QN.g4raw_eq] at h
  rw [h]
  simp only [ih]
  rfl
set_option maxRecDepth 100000 in
theorem QN.body (n : Nat) (x : List ByteArray) : bodyF QN.E QN.keep n Tryz.f31 QN.con x = QN.fn n x := by
 have h : bodyF QN.E QN.keep n Tryz.f31 QN.con x = QN.top (fun p i6 d4 q w3 w4 w5 => QN.LN4 n x n (QN.st4 p i6 d4 q w3 w4 w5)) x := by kernel_rfl
 rw [h]
 simp only [QN.lem4]
 rfl
set_option maxRecDepth 100000 in
theorem QN.good : Good Tryz.prog 31 QN.con :=
 Vf tabok (cs := QN.cs) ⟨Qbf.good, QF.good, trivial⟩ 0 false (fn := Tryz.f31) Tryz.func31 rfl (by decide) (by simp [QN.con]) QN.keep NN (fun _ => rfl) (fun x => QN.body NN x)
end
end Go.Ev.Tryz

namespace Go.Ev.Tryz
open Go.Proofs Go.Pl
set_option linter.unusedVariables false
noncomputable section
def QaC.con : Con := { ps := [(.val, .str)], rs := [(.val, (.pair (.sl 70 (.pair (.int .i64) (.pair .str (.int .i64)))) (.pair (.sl 72 (.pair (.int .i64) (.int .i64))) (.sl 74 (.pair (.int .i64) (.pair .str (.int .i64))))))), (.val, (.int .i64))], F := fun x => QaC.f x }
def QaC.cs : List (FuncId × Con) := [(30, Qa4.con), (31, QN.con), (32, QaF.con)]
def QaC.E : Env := envOf tab QaC.cs 0 false
def QaC.keep (i : Nat) : List Nat := []
set_option maxRecDepth 100000 in
theorem QaC.body (n : Nat) (x : ByteArray) : bodyF QaC.E QaC.keep n Tryz.f18 QaC.con x = QaC.fn n x := by
 have h : bodyF QaC.E QaC.keep n Tryz.f18 QaC.con x = QaC.top x := by kernel_rfl
 exact h
set_option maxRecDepth 100000 in
theorem QaC.good : Good Tryz.prog 18 QaC.con :=
 Vf tabok (cs := QaC.cs) ⟨Qa4.good, QN.good, QaF.good, trivial⟩ 0 false (fn := Tryz.f18) Tryz.func18 rfl (by decide) (by simp [QaC.con]) QaC.keep NN (fun _ => rfl) (fun x => QaC.body NN x)
end
end Go.Ev.Tryz

namespace Go.Ev.Tryz
open Go.Proofs Go.Pl
set_option linter.unusedVariables false
noncomputable section
def Q0.st4 (s0 : ByteArray) (b1 : Int) (p : Int) (i7 : Int) (q : List ByteArray) : St := ⟨[.dat .str s0, .dat (.int .u8) b1, .gone, .gone, .gone, .ref 0, .dat (.int .i64) p, .dat (.int .i64) i7, .gone, .gone, .gone, .gone, .gone, .gone, .gone, .gone, .gone, .gone, .gone, .gone, .gone, .gone, .gone, .gone, .gone, .gone, .gone, .gone, .gone, .gone, .gone, .gone, .gone, .gone], [.row 9 .str q none]⟩
def Q0.con : Con := { ps := [(.val, .str), (.val, (.int .u8))], rs := [(.own, (.sl 9 .str))], F := fun x => Q0.f x.1 x.2 }
def Q0.cs : List (FuncId × Con) := []
def Q0.E : Env := envOf tab Q0.cs 0 false
def Q0.keep (i : Nat) : List Nat := if i = 4 then [0, 1, 5, 6, 7] else []
def Q0.at4 (n : Nat) (x : ByteArray × Int) : Code × (Ex → St → Option (YJ)) := ctx Q0.E Q0.keep n [.snd, .snd, .snd, .fst, .snd, .blk] (Vg Tryz.f63) (kEnd Q0.E Tryz.f63 Q0.con x)
def Q0.LN4 (n : Nat) (x : ByteArray × Int) : Nat → St → Option (YJ) := loopN (exec Q0.E Q0.keep n (Vj (Q0.at4 n x).1)) (St.norm 0 (Q0.keep 4)) (Q0.at4 n x).2
set_option maxRecDepth 100000 in
theorem Q0.lem4 (n : Nat) (x : ByteArray × Int) : ∀ (k : Nat) (s0 : ByteArray) (b1 : Int) (p : Int) (i7 : Int) (q : List ByteArray), Q0.LN4 n x k (Q0.st4 s0 b1 p i7 q) = Q0.l4 n k s0 b1 p i7 q := by
 intro k
 induction k with
 | zero => intro s0 b1 p i7 q; rfl
 | succ k ih =>
  intro s0 b1 p i7 q
  have h : Q0.LN4 n x (k + 1) (Q0.st4 s0 b1 p i7 q) = Q0.g4 (fun s0 b1 p i7 q => Q0.LN4 n x k (Q0.st4 s0 b1 p i7 q)) s0 b1 p i7 q := by kernel_rfl
  rw [h]
  simp only [ih]
  rfl
set_option maxRecDepth 100000 in
theorem Q0.body (n : Nat) (x : ByteArray × Int) : bodyF Q0.E Q0.keep n Tryz.f63 Q0.con x = Q0.fn n x.1 x.2 := by
 have h : bodyF Q0.E Q0.keep n Tryz.f63 Q0.con x = Q0.top (fun s0 b1 p i7 q => Q0.LN4 n x n (Q0.st4 s0 b1 p i7 q)) x.1 x.2 := by kernel_rfl
 rw [h]
 simp only [Q0.lem4]
 rfl
set_option maxRecDepth 100000 in
theorem Q0.good : Good Tryz.prog 63 Q0.con :=
 Vf tabok (cs := Q0.cs) trivial 0 false (fn := Tryz.f63) Tryz.func63 rfl (by decide) (by simp [Q0.con]) Q0.keep NN (fun _ => rfl) (fun x => Q0.body NN x)
end
end Go.Ev.Tryz

namespace Go.Ev.Tryz
open Go.Proofs Go.Pl
set_option linter.unusedVariables false
noncomputable section
def Qas.con : Con := { ps := [(.val, .str)], rs := [(.val, .str), (.val, .bool)], F := fun x => Qas.f x }
def Qas.cs : List (FuncId × Con) := []
def Qas.E : Env := envOf tab Qas.cs 0 false
def Qas.keep (i : Nat) : List Nat := []
set_option maxRecDepth 100000 in
theorem Qas.body (n : Nat) (x : ByteArray) : bodyF Qas.E Qas.keep n Tryz.f72 Qas.con x = Qas.fn n x := by
 have h : bodyF Qas.E Qas.keep n Tryz.f72 Qas.con x = Qas.top x := by kernel_rfl
 exact h
set_option maxRecDepth 100000 in
theorem Qas.good : Good Tryz.prog 72 Qas.con :=
 Vf tabok (cs := Qas.cs) trivial 0 false (fn := Tryz.f72) Tryz.func72 rfl (by decide) (by simp [Qas.con]) Qas.keep NN (fun _ => rfl) (fun x => Qas.body NN x)
end
end Go.Ev.Tryz

namespace Go.Ev.Tryz
open Go.Proofs Go.Pl
set_option linter.unusedVariables false
noncomputable section
def Qt.st8 (s0 : ByteArray) (p : ByteArray) (n5 : Int) (i6 : Int) : St := ⟨[.dat .str s0, .gone, .gone, .gone, .dat .str p, .dat (.int .i64) n5, .dat (.int .i64) i6, .gone, .gone, .gone, .gone, .gone, .gone, .gone, .gone, .gone, .gone, .gone, .gone, .gone, .gone, .gone, .gone, .gone, .gone, .gone, .gone, .gone, .gone, .gone, .gone, .gone, .gone, .gone, .gone, .gone, .gone, .gone, .gone, .gone, .gone, .gone, .gone, .gone, .gone, .gone, .gone, .gone, .gone, .gone, .gone, .gone, .gone, .gone, .gone, .gone, .gone, .gone, .gone, .gone, .gone, .gone, .gone, .gone, .gone, .gone, .gone, .gone, .gone, .gone, .gone, .gone, .gone], []⟩
def Qt.con : Con := { ps := [(.val, .str)], rs := [(.val, (.int .i64)), (.val, .bool)], F := fun x => Qt.f x }
def Qt.cs : List (FuncId × Con) := []
def Qt.E : Env := envOf tab Qt.cs 0 false
def Qt.keep (i : Nat) : List Nat := if i = 8 then [0, 4, 5, 6] else []
def Qt.at8 (n : Nat) (x : ByteArray) : Code × (Ex → St → Option (YAK)) := ctx Qt.E Qt.keep n [.snd, .snd, .snd, .snd, .snd, .fst, .snd, .blk] (Vg Tryz.f73) (kEnd Qt.E Tryz.f73 Qt.con x)
def Qt.LN8 (n : Nat) (x : ByteArray) : Nat → St → Option (YAK) := loopN (exec Qt.E Qt.keep n (Vj (Qt.at8 n x).1)) (St.norm 0 (Qt.keep 8)) (Qt.at8 n x).2
set_option maxRecDepth 100000 in
theorem Qt.lem8 (n : Nat) (x : ByteArray) : ∀ (k : Nat) (s0 : ByteArray) (p : ByteArray) (n5 : Int) (i6 : Int), Qt.LN8 n x k (Qt.st8 s0 p n5 i6) = Qt.l8 n k s0 p n5 i6 := by
 intro k
 induction k with
 | zero => intro s0 p n5 i6; rfl
 | succ k ih =>
  intro s0 p n5 i6
  have h : Qt.LN8 n x (k + 1) (Qt.st8 s0 p n5 i6) = Qt.g8 (fun s0 p n5 i6 => Qt.LN8 n x k (Qt.st8 s0 p n5 i6)) s0 p n5 i6 := by kernel_rfl
  rw [h]
  simp only [ih]
  rfl
set_option maxRecDepth 100000 in
theorem Qt.body (n : Nat) (x : ByteArray) : bodyF Qt.E Qt.keep n Tryz.f73 Qt.con x = Qt.fn n x := by
 have h : bodyF Qt.E Qt.keep n Tryz.f73 Qt.con x = Qt.top (fun s0 p n5 i6 => Qt.LN8 n x n (Qt.st8 s0 p n5 i6)) x := by kernel_rfl
 rw [h]
 simp only [Qt.lem8]
 rfl
set_option maxRecDepth 100000 in
theorem Qt.good : Good Tryz.prog 73 Qt.con :=
 Vf tabok (cs := Qt.cs) trivial 0 false (fn := Tryz.f73) Tryz.func73 rfl (by decide) (by simp [Qt.con]) Qt.keep NN (fun _ => rfl) (fun x => Qt.body NN x)
end
end Go.Ev.Tryz

namespace Go.Ev.Tryz
open Go.Proofs Go.Pl
set_option linter.unusedVariables false
noncomputable section
def QA.st7 (p : ByteArray) (i8 : Int) (v2a : ByteArray) (q : List ByteArray) (c7a : ByteArray) (w3 : List ByteArray) (w4 : List Int) (w5 : List ByteArray) (w6 : List Int) : St := ⟨[.gone, .gone, .ptr 0 [], .gone, .ref 1, .dat .str p, .gone, .ptr 2 [], .dat (.int .i64) i8, .gone, .gone, .gone, .gone, .gone, .gone, .gone, .gone, .gone, .gone, .gone, .gone, .gone, .gone, .gone, .gone, .gone, .gone, .gone, .gone, .gone, .gone, .gone, .gone, .gone, .gone, .gone, .gone, .gone, .gone, .gone, .gone, .gone, .gone, .gone, .gone, .gone, .gone, .gone, .gone, .gone, .gone, .gone, .gone, .gone, .gone, .gone, .gone, .gone, .gone, .gone, .gone, .gone, .gone, .gone, .gone, .gone, .gone, .gone, .gone, .gone, .gone, .gone, .gone, .gone, .gone, .gone, .gone, .gone, .gone, .gone, .gone, .gone, .gone, .gone, .gone, .gone, .gone, .gone, .gone, .gone, .gone, .gone, .gone], [.box 58 (.pair .str (.pair (.sl 9 .str) (.sl 2 (.int .i64)))) (.pr (.dat .str v2a) (.pr (.ref 3) (.ref 4))), .row 9 .str q none, .box 58 (.pair .str (.pair (.sl 9 .str) (.sl 2 (.int .i64)))) (.pr (.dat .str c7a) (.pr (.ref 5) (.ref 6))), .row 9 .str w3 none, .row 2 (.int .i64) w4 none, .row 9 .str w5 none, .row 2 (.int .i64) w6 none]⟩
def QA.con : Con := { ps := [(.val, .str)], rs := [(.own, (.pair .str (.pair (.sl 9 .str) (.sl 2 (.int .i64))))), (.own, .bool)], F := fun x => QA.f x }
def QA.cs : List (FuncId × Con) := [(63, Q0.con), (72, Qas.con), (73, Qt.con)]
def QA.E : Env := envOf tab QA.cs 0 false
def QA.keep (i : Nat) : List Nat := if i = 7 then [2, 4, 5, 7, 8] else []
def QA.at7 (n : Nat) (x : ByteArray) : Code × (Ex → St → Option ((YS × Bool))) := ctx QA.E QA.keep n [.snd, .snd, .snd, .snd, .snd, .fst, .snd, .blk] (Vg Tryz.f40) (kEnd QA.E Tryz.f40 QA.con x)
def QA.LN7 (n : Nat) (x : ByteArray) : Nat → St → Option ((YS × Bool)) := loopN (exec QA.E QA.keep n (Vj (QA.at7 n x).1)) (St.norm 0 (QA.keep 7)) (QA.at7 n x).2
set_option maxRecDepth 100000 in
theorem QA.lem7 (n : Nat) (x : ByteArray) : ∀ (k : Nat) (p : ByteArray) (i8 : Int) (v2a : ByteArray) (q : List ByteArray) (c7a : ByteArray) (w3 : List ByteArray) (w4 : List Int) (w5 : List ByteArray) (w6 : List Int), QA.LN7 n x k (QA.st7 p i8 v2a q c7a w3 w4 w5 w6) = QA.l7 n k p i8 v2a q c7a w3 w4 w5 w6 := by
 intro k
 induction k with
 | zero => intro p i8 v2a q c7a w3 w4 w5 w6; rfl
 | succ k ih =>
  intro p i8 v2a q c7a w3 w4 w5 w6
  have h : QA.LN7 n x (k + 1) (QA.st7 p i8 v2a q c7a w3 w4 w5 w6) = QA.g7 (fun p i8 v2a q c7a w3 w4 w5 w6 => QA.LN7 n x k (QA.st7 p i8 v2a q c7a w3 w4 w5 w6)) p i8 v2a q c7a w3 w4 w5 w6 := by kernel_rfl
  rw [h]
  simp only [ih]
  rfl
set_option maxRecDepth 100000 in
theorem QA.body (n : Nat) (x : ByteArray) : bodyF QA.E QA.keep n Tryz.f40 QA.con x = QA.fn n x := by
 have h : bodyF QA.E QA.keep n Tryz.f40 QA.con x = QA.top (fun p i8 v2a q c7a w3 w4 w5 w6 => QA.LN7 n x n (QA.st7 p i8 v2a q c7a w3 w4 w5 w6)) x := by kernel_rfl
 rw [h]
 simp only [QA.lem7]
 rfl
set_option maxRecDepth 100000 in
theorem QA.good : Good Tryz.prog 40 QA.con :=
 Vf tabok (cs := QA.cs) ⟨Q0.good, Qas.good, Qt.good, trivial⟩ 0 false (fn := Tryz.f40) Tryz.func40 rfl (by decide) (by simp [QA.con]) QA.keep NN (fun _ => rfl) (fun x => QA.body NN x)
end
end Go.Ev.Tryz

namespace Go.Ev.Tryz
open Go.Proofs Go.Pl
set_option linter.unusedVariables false
noncomputable section
def Qg.st4 (n0 : Int) (p : ByteArray) : St := ⟨[.dat (.int .i64) n0, .gone, .gone, .dat .str p, .gone, .gone, .gone, .gone, .gone, .gone, .gone, .gone, .gone, .gone, .gone, .gone, .gone, .gone, .gone, .gone, .gone, .gone, .gone], []⟩
def Qg.con (S : Int → Option ByteArray) : Con := { ps := [(.val, (.int .i64))], rs := [(.val, .str)], F := fun x => S x }
def Qg.cs (S : Int → Option ByteArray) : List (FuncId × Con) := [(64, (Qg.con S))]
def Qg.E (S : Int → Option ByteArray) : Env := envOf tab (Qg.cs S) 0 false
def Qg.keep (i : Nat) : List Nat := if i = 4 then [0, 3] else []
def Qg.at4 (S : Int → Option ByteArray) (n : Nat) (x : Int) : Code × (Ex → St → Option (ByteArray)) := ctx (Qg.E S) Qg.keep n [.snd, .snd, .snd, .blk] (Vg Tryz.f64) (kEnd (Qg.E S) Tryz.f64 (Qg.con S) x)
def Qg.LN4 (S : Int → Option ByteArray) (n : Nat) (x : Int) : Nat → St → Option (ByteArray) := loopN (exec (Qg.E S) Qg.keep n (Vj ((Qg.at4 S) n x).1)) (St.norm 0 (Qg.keep 4)) ((Qg.at4 S) n x).2
set_option maxRecDepth 100000 in
theorem Qg.lem4 (S : Int → Option ByteArray) (n : Nat) (x : Int) : ∀ (k : Nat) (n0 : Int) (p : ByteArray), (Qg.LN4 S) n x k (Qg.st4 n0 p) = (Qg.l4 S) n k n0 p := by
 intro k
 induction k with
 | zero => intro n0 p; rfl
 | succ k ih =>
  intro n0 p
  have h : (Qg.LN4 S) n x (k + 1) (Qg.st4 n0 p) = (Qg.g4 S) (fun n0 p => (Qg.LN4 S) n x k (Qg.st4 n0 p)) n0 p := by kernel_rfl
  rw [h]
  simp only [ih]
  rfl
set_option maxRecDepth 100000 in
theorem Qg.body (S : Int → Option ByteArray) (n : Nat) (x : Int) : bodyF (Qg.E S) Qg.keep n Tryz.f64 (Qg.con S) x = (Qg.fn S) n x := by
 have h : bodyF (Qg.E S) Qg.keep n Tryz.f64 (Qg.con S) x = (Qg.top S) (fun n0 p => (Qg.LN4 S) n x n (Qg.st4 n0 p)) x := by kernel_rfl
 rw [h]
 simp only [(Qg.lem4 S)]
 rfl
set_option maxRecDepth 100000 in
theorem Qg.goodk : ∀ k : Nat, Good Tryz.prog 64 (Qg.con (Qg.rc k)) := by
 intro k
 induction k with
 | zero => exact VeH (fn := Tryz.f64) Tryz.func64 rfl (by decide) (by simp [Qg.con]) (fun _ => rfl)
 | succ k ih => exact Vf tabok (cs := Qg.cs (Qg.rc k)) ⟨ih, trivial⟩ 0 false (fn := Tryz.f64) Tryz.func64 rfl (by decide) (by simp [Qg.con]) Qg.keep NN (fun _ => rfl) (fun x => Qg.body (Qg.rc k) NN x)
theorem Qg.good : Good Tryz.prog 64 (Qg.con (fun n0 => Qg.f n0)) := Qg.goodk NN
end
end Go.Ev.Tryz

namespace Go.Ev.Tryz
open Go.Proofs Go.Pl
set_option linter.unusedVariables false
noncomputable section
def Qag.con : Con := { ps := [(.val, (.int .i64)), (.val, (.int .i64)), (.val, (.int .i64))], rs := [(.val, .bool)], F := fun x => Qag.f x.1 x.2.1 x.2.2 }
def Qag.cs : List (FuncId × Con) := []
def Qag.E : Env := envOf tab Qag.cs 0 false
def Qag.keep (i : Nat) : List Nat := []
set_option maxRecDepth 100000 in
theorem Qag.body (n : Nat) (x : Int × Int × Int) : bodyF Qag.E Qag.keep n Tryz.f86 Qag.con x = Qag.fn n x.1 x.2.1 x.2.2 := by
 have h : bodyF Qag.E Qag.keep n Tryz.f86 Qag.con x = Qag.top x.1 x.2.1 x.2.2 := by kernel_rfl
 exact h
set_option maxRecDepth 100000 in
theorem Qag.good : Good Tryz.prog 86 Qag.con :=
 Vf tabok (cs := Qag.cs) trivial 0 false (fn := Tryz.f86) Tryz.func86 rfl (by decide) (by simp [Qag.con]) Qag.keep NN (fun _ => rfl) (fun x => Qag.body NN x)
end
end Go.Ev.Tryz

namespace Go.Ev.Tryz
open Go.Proofs Go.Pl
set_option linter.unusedVariables false
noncomputable section
def QaW.con : Con := { ps := [(.val, (.int .i64))], rs := [(.val, .bool)], F := fun x => QaW.f x }
def QaW.cs : List (FuncId × Con) := [(86, Qag.con)]
def QaW.E : Env := envOf tab QaW.cs 0 false
def QaW.keep (i : Nat) : List Nat := []
set_option maxRecDepth 100000 in
theorem QaW.body (n : Nat) (x : Int) : bodyF QaW.E QaW.keep n Tryz.f84 QaW.con x = QaW.fn n x := by
 have h : bodyF QaW.E QaW.keep n Tryz.f84 QaW.con x = QaW.top x := by kernel_rfl
 exact h
set_option maxRecDepth 100000 in
theorem QaW.good : Good Tryz.prog 84 QaW.con :=
 Vf tabok (cs := QaW.cs) ⟨Qag.good, trivial⟩ 0 false (fn := Tryz.f84) Tryz.func84 rfl (by decide) (by simp [QaW.con]) QaW.keep NN (fun _ => rfl) (fun x => QaW.body NN x)
end
end Go.Ev.Tryz

namespace Go.Ev.Tryz
open Go.Proofs Go.Pl
set_option linter.unusedVariables false
noncomputable section
def QO.st4 (s0 : ByteArray) (i3 : Int) : St := ⟨[.dat .str s0, .gone, .gone, .dat (.int .i64) i3, .gone, .gone, .gone, .gone, .gone, .gone, .gone, .gone, .gone, .gone, .gone, .gone, .gone, .gone, .gone, .gone, .gone, .gone, .gone, .gone, .gone, .gone, .gone, .gone], []⟩
def QO.con : Con := { ps := [(.val, .str)], rs := [(.val, .bool)], F := fun x => QO.f x }
def QO.cs : List (FuncId × Con) := []
def QO.E : Env := envOf tab QO.cs 0 false
def QO.keep (i : Nat) : List Nat := if i = 4 then [0, 3] else []
def QO.at4 (n : Nat) (x : ByteArray) : Code × (Ex → St → Option (Bool)) := ctx QO.E QO.keep n [.snd, .snd, .fst, .snd, .blk] (Vg Tryz.f85) (kEnd QO.E Tryz.f85 QO.con x)
def QO.LN4 (n : Nat) (x : ByteArray) : Nat → St → Option (Bool) := loopN (exec QO.E QO.keep n (Vj (QO.at4 n x).1)) (St.norm 0 (QO.keep 4)) (QO.at4 n x).2
set_option maxRecDepth 100000 in
theorem QO.lem4 (n : Nat) (x : ByteArray) : ∀ (k : Nat) (s0 : ByteArray) (i3 : Int), QO.LN4 n x k (QO.st4 s0 i3) = QO.l4 n k s0 i3 := by
 intro k
 induction k with
 | zero => intro s0 i3; rfl
 | succ k ih =>
  intro s0 i3
  have h : QO.LN4 n x (k + 1) (QO.st4 s0 i3) = QO.g4 (fun s0 i3 => QO.LN4 n x k (QO.st4 s0 i3)) s0 i3 := by kernel_rfl
  rw [h]
  simp only [ih]
  rfl
set_option maxRecDepth 100000 in
theorem QO.body (n : Nat) (x : ByteArray) : bodyF QO.E QO.keep n Tryz.f85 QO.con x = QO.fn n x := by
 have h : bodyF QO.E QO.keep n Tryz.f85 QO.con x = QO.top (fun s0 i3 => QO.LN4 n x n (QO.st4 s0 i3)) x := by kernel_rfl
 rw [h]
 simp only [QO.lem4]
 rfl
set_option maxRecDepth 100000 in
theorem QO.good : Good Tryz.prog 85 QO.con :=
 Vf tabok (cs := QO.cs) trivial 0 false (fn := Tryz.f85) Tryz.func85 rfl (by decide) (by simp [QO.con]) QO.keep NN (fun _ => rfl) (fun x => QO.body NN x)
end
end Go.Ev.Tryz

namespace Go.Ev.Tryz
open Go.Proofs Go.Pl
set_option linter.unusedVariables false
noncomputable section
def QE.st3 (p : ByteArray) (t2 : Int) (q : Int) (v10 : List YA) (v11 : Int) (v12 : Int) : St := ⟨[.gone, .dat .str p, .dat (.int .i64) t2, .gone, .gone, .gone, .gone, .dat (.int .i64) q, .gone, .gone, .dat (.sl 70 (.pair (.int .i64) (.pair .str (.int .i64)))) v10, .dat (.int .i64) v11, .dat (.int .i64) v12, .gone, .gone, .gone, .gone, .gone, .gone, .gone, .gone, .gone, .gone, .gone, .gone, .gone, .gone, .gone, .gone, .gone, .gone, .gone], []⟩
def QE.con : Con := { ps := [(.val, (.sl 70 (.pair (.int .i64) (.pair .str (.int .i64))))), (.val, .str), (.val, (.int .i64))], rs := [(.val, (.int .i64))], F := fun x => QE.f x.1 x.2.1 x.2.2 }
def QE.cs : List (FuncId × Con) := []
def QE.E : Env := envOf tab QE.cs 0 false
def QE.keep (i : Nat) : List Nat := if i = 3 then [1, 2, 7, 10, 11, 12] else []
def QE.at3 (n : Nat) (x : YD × ByteArray × Int) : Code × (Ex → St → Option (Int)) := ctx QE.E QE.keep n [.snd, .snd, .fst, .snd, .blk] (Vg Tryz.f87) (kEnd QE.E Tryz.f87 QE.con x)
def QE.LN3 (n : Nat) (x : YD × ByteArray × Int) : Nat → St → Option (Int) := loopN (exec QE.E QE.keep n (Vj (QE.at3 n x).1)) (St.norm 0 (QE.keep 3)) (QE.at3 n x).2
set_option maxRecDepth 100000 in
theorem QE.lem3 (n : Nat) (x : YD × ByteArray × Int) : ∀ (k : Nat) (p : ByteArray) (t2 : Int) (q : Int) (v10 : List YA) (v11 : Int) (v12 : Int), QE.LN3 n x k (QE.st3 p t2 q v10 v11 v12) = QE.l3 n k p t2 q v10 v11 v12 := by
 intro k
 induction k with
 | zero => intro p t2 q v10 v11 v12; rfl
 | succ k ih =>
  intro p t2 q v10 v11 v12
  have h : QE.LN3 n x (k + 1) (QE.st3 p t2 q v10 v11 v12) = QE.g3 (fun p t2 q v10 v11 v12 => QE.LN3 n x k (QE.st3 p t2 q v10 v11 v12)) p t2 q v10 v11 v12 := by kernel_rfl
  rw [h]
  simp only [ih]
  rfl
set_option maxRecDepth 100000 in
theorem QE.body (n : Nat) (x : YD × ByteArray × Int) : bodyF QE.E QE.keep n Tryz.f87 QE.con x = QE.fn n x.1 x.2.1 x.2.2 := by
 have h : bodyF QE.E QE.keep n Tryz.f87 QE.con x = QE.top (fun p t2 q v10 v11 v12 => QE.LN3 n x n (QE.st3 p t2 q v10 v11 v12)) x.1 x.2.1 x.2.2 := by kernel_rfl
 rw [h]
 simp only [QE.lem3]
 rfl
set_option maxRecDepth 100000 in
theorem QE.good : Good Tryz.prog 87 QE.con :=
 Vf tabok (cs := QE.cs) trivial 0 false (fn := Tryz.f87) Tryz.func87 rfl (by decide) (by simp [QE.con]) QE.keep NN (fun _ => rfl) (fun x => QE.body NN x)
end
end Go.Ev.Tryz

namespace Go.Ev.Tryz
open Go.Proofs Go.Pl
set_option linter.unusedVariables false
noncomputable section
def Qx.st4 (p : List YA) (v8 : List YA) (v9 : Int) (v10 : Int) : St := ⟨[.dat (.sl 70 (.pair (.int .i64) (.pair .str (.int .i64)))) p, .gone, .gone, .gone, .gone, .gone, .gone, .gone, .dat (.sl 70 (.pair (.int .i64) (.pair .str (.int .i64)))) v8, .dat (.int .i64) v9, .dat (.int .i64) v10, .gone, .gone, .gone, .gone, .gone, .gone, .gone, .gone, .gone, .gone, .gone, .gone, .gone, .gone, .gone, .gone, .gone, .gone, .gone, .gone, .gone, .gone, .gone, .gone, .gone, .gone, .gone, .gone, .gone, .gone, .gone, .gone, .gone, .gone, .gone, .gone, .gone, .gone, .gone, .gone, .gone, .gone, .gone, .gone, .gone, .gone, .gone, .gone, .gone, .gone, .gone], []⟩
def Qx.con : Con := { ps := [(.val, (.sl 70 (.pair (.int .i64) (.pair .str (.int .i64)))))], rs := [(.val, .bool)], F := fun x => Qx.f x }
def Qx.cs : List (FuncId × Con) := [(84, QaW.con), (85, QO.con), (86, Qag.con), (87, QE.con)]
def Qx.E : Env := envOf tab Qx.cs 0 false
def Qx.keep (i : Nat) : List Nat := if i = 4 then [0, 8, 9, 10] else []
def Qx.at4 (n : Nat) (x : List YA) : Code × (Ex → St → Option (Bool)) := ctx Qx.E Qx.keep n [.snd, .snd, .fst, .snd, .blk] (Vg Tryz.f54) (kEnd Qx.E Tryz.f54 Qx.con x)
def Qx.LN4 (n : Nat) (x : List YA) : Nat → St → Option (Bool) := loopN (exec Qx.E Qx.keep n (Vj (Qx.at4 n x).1)) (St.norm 0 (Qx.keep 4)) (Qx.at4 n x).2
set_option maxRecDepth 100000 in
theorem Qx.lem4 (n : Nat) (x : List YA) : ∀ (k : Nat) (p : List YA) (v8 : List YA) (v9 : Int) (v10 : Int), Qx.LN4 n x k (Qx.st4 p v8 v9 v10) = Qx.l4 n k p v8 v9 v10 := by
 intro k
 induction k with
 | zero => intro p v8 v9 v10; rfl
 | succ k ih =>
  intro p v8 v9 v10
  have h : Qx.LN4 n x (k + 1) (Qx.st4 p v8 v9 v10) = Qx.g4 (fun p v8 v9 v10 => Qx.LN4 n x k (Qx.st4 p v8 v9 v10)) p v8 v9 v10 := by kernel_rfl
  rw [h]
  simp only [ih]
  rfl
set_option maxRecDepth 100000 in
theorem Qx.body (n : Nat) (x : List YA) : bodyF Qx.E Qx.keep n Tryz.f54 Qx.con x = Qx.fn n x := by
 have h : bodyF Qx.E Qx.keep n Tryz.f54 Qx.con x = Qx.top (fun p v8 v9 v10 => Qx.LN4 n x n (Qx.st4 p v8 v9 v10)) x := by kernel_rfl
 rw [h]
 simp only [Qx.lem4]
 rfl
set_option maxRecDepth 100000 in
theorem Qx.good : Good Tryz.prog 54 Qx.con :=
 Vf tabok (cs := Qx.cs) ⟨QaW.good, QO.good, Qag.good, QE.good, trivial⟩ 0 false (fn := Tryz.f54) Tryz.func54 rfl (by decide) (by simp [Qx.con]) Qx.keep NN (fun _ => rfl) (fun x => Qx.body NN x)
end
end Go.Ev.Tryz

namespace Go.Ev.Tryz
open Go.Proofs Go.Pl
set_option linter.unusedVariables false
noncomputable section
def Qap.tr0 (p : List YA) (m1 : Int × ByteArray × Int) : Option YW :=
 if ([] : List YA).length + p.length < room 32 then
  if (([] : List YA) ++ p).length + ([m1]).length < room 32 then
   (Qx.f ((([] : List YA) ++ p) ++ ([m1]))).bind fun r2 =>
   if (!r2) = true then
    some ([], 5)
   else
    some ((([] : List YA) ++ p) ++ ([m1]), 0)
  else
   none
 else
  none
def Qap.tr1 (p : List YA) (m1 : Int × ByteArray × Int) : Option YW :=
 agree (
  Qap.tr0 p m1
 ) (
  Qap.tr0 p m1
 )
def Qap.topraw (p : List YA) (m1 : Int × ByteArray × Int) : Option YW :=
 (Qx.f p).bind fun r1 =>
 if (!r1) = true then
  some ([], 1)
 else if (((p.length : Int) : Int) == 40) = true then
  some ([], 3)
 else
  agree (
   agree (
    Qap.tr0 p m1
   ) (
    Qap.tr1 p m1
   )
  ) (
   agree (
    Qap.tr1 p m1
   ) (
    Qap.tr0 p m1
   )
  )
theorem Qap.topraw_eq (p : List YA) (m1 : Int × ByteArray × Int) : Qap.topraw p m1 = Qap.top p m1 := by
 unfold Qap.topraw Qap.top
 simp only [Vt, Qap.tr0, Qap.tr1]
def Qap.con : Con := { ps := [(.val, (.sl 70 (.pair (.int .i64) (.pair .str (.int .i64))))), (.val, (.pair (.int .i64) (.pair .str (.int .i64))))], rs := [(.own, (.sl 70 (.pair (.int .i64) (.pair .str (.int .i64))))), (.own, (.int .i64))], F := fun x => Qap.f x.1 x.2 }
def Qap.cs : List (FuncId × Con) := [(54, Qx.con)]
def Qap.E : Env := envOf tab Qap.cs 0 false
def Qap.keep (i : Nat) : List Nat := []
set_option maxRecDepth 100000 in
theorem Qap.body (n : Nat) (x : YD × Int × ByteArray × Int) : bodyF Qap.E Qap.keep n Tryz.f97 Qap.con x = Qap.fn n x.1 x.2 := by
 have h : bodyF Qap.E Qap.keep n Tryz.f97 Qap.con x = Qap.topraw x.1 x.2 := by kernel_rfl
 rw [Qap.topraw_eq] at h
 exact h
set_option maxRecDepth 100000 in
theorem Qap.good : Good Tryz.prog 97 Qap.con :=
 Vf tabok (cs := Qap.cs) ⟨Qx.good, trivial⟩ 0 false (fn := Tryz.f97) Tryz.func97 rfl (by decide) (by simp [Qap.con]) Qap.keep NN (fun _ => rfl) (fun x => Qap.body NN x)
end
end Go.Ev.Tryz

namespace Go.Ev.Tryz
open Go.Proofs Go.Pl
set_option linter.unusedVariables false
noncomputable section
def QaR.con : Con := { ps := [(.val, (.sl 70 (.pair (.int .i64) (.pair .str (.int .i64))))), (.val, .str), (.val, (.int .i64))], rs := [(.val, (.int .i64))], F := fun x => QaR.f x.1 x.2.1 x.2.2 }
def QaR.cs : List (FuncId × Con) := [(54, Qx.con), (84, QaW.con), (85, QO.con)]
def QaR.E : Env := envOf tab QaR.cs 0 false
def QaR.keep (i : Nat) : List Nat := []
set_option maxRecDepth 100000 in
theorem QaR.body (n : Nat) (x : YD × ByteArray × Int) : bodyF QaR.E QaR.keep n Tryz.f130 QaR.con x = QaR.fn n x.1 x.2.1 x.2.2 := by
 have h : bodyF QaR.E QaR.keep n Tryz.f130 QaR.con x = QaR.top x.1 x.2.1 x.2.2 := by kernel_rfl
 exact h
set_option maxRecDepth 100000 in
theorem QaR.good : Good Tryz.prog 130 QaR.con :=
 Vf tabok (cs := QaR.cs) ⟨Qx.good, QaW.good, QO.good, trivial⟩ 0 false (fn := Tryz.f130) Tryz.func130 rfl (by decide) (by simp [QaR.con]) QaR.keep NN (fun _ => rfl) (fun x => QaR.body NN x)
end
end Go.Ev.Tryz

namespace Go.Ev.Tryz
open Go.Proofs Go.Pl
set_option linter.unusedVariables false
noncomputable section
def Q1.st2 (p : List YA) (q : ByteArray) (t2 : Int) (v9 : List YA) (v10 : Int) (v11 : Int) : St := ⟨[.dat (.sl 70 (.pair (.int .i64) (.pair .str (.int .i64)))) p, .dat .str q, .dat (.int .i64) t2, .gone, .gone, .gone, .gone, .gone, .gone, .dat (.sl 70 (.pair (.int .i64) (.pair .str (.int .i64)))) v9, .dat (.int .i64) v10, .dat (.int .i64) v11, .gone, .gone, .gone, .gone, .gone, .gone, .gone, .gone, .gone, .gone, .gone, .gone, .gone, .gone, .gone, .gone, .gone, .gone, .gone, .gone, .gone, .gone, .gone, .gone, .gone, .gone], []⟩
def Q1.con : Con := { ps := [(.val, (.sl 70 (.pair (.int .i64) (.pair .str (.int .i64))))), (.val, .str), (.val, (.int .i64))], rs := [(.val, .bool)], F := fun x => Q1.f x.1 x.2.1 x.2.2 }
def Q1.cs : List (FuncId × Con) := [(87, QE.con)]
def Q1.E : Env := envOf tab Q1.cs 0 false
def Q1.keep (i : Nat) : List Nat := if i = 2 then [0, 1, 2, 9, 10, 11] else []
def Q1.at2 (n : Nat) (x : YD × ByteArray × Int) : Code × (Ex → St → Option (Bool)) := ctx Q1.E Q1.keep n [.snd, .fst, .snd, .blk] (Vg Tryz.f131) (kEnd Q1.E Tryz.f131 Q1.con x)
def Q1.LN2 (n : Nat) (x : YD × ByteArray × Int) : Nat → St → Option (Bool) := loopN (exec Q1.E Q1.keep n (Vj (Q1.at2 n x).1)) (St.norm 0 (Q1.keep 2)) (Q1.at2 n x).2
set_option maxRecDepth 100000 in
theorem Q1.lem2 (n : Nat) (x : YD × ByteArray × Int) : ∀ (k : Nat) (p : List YA) (q : ByteArray) (t2 : Int) (v9 : List YA) (v10 : Int) (v11 : Int), Q1.LN2 n x k (Q1.st2 p q t2 v9 v10 v11) = Q1.l2 n k p q t2 v9 v10 v11 := by
 intro k
 induction k with
 | zero => intro p q t2 v9 v10 v11; rfl
 | succ k ih =>
  intro p q t2 v9 v10 v11
  have h : Q1.LN2 n x (k + 1) (Q1.st2 p q t2 v9 v10 v11) = Q1.g2 (fun p q t2 v9 v10 v11 => Q1.LN2 n x k (Q1.st2 p q t2 v9 v10 v11)) p q t2 v9 v10 v11 := by kernel_rfl
  rw [h]
  simp only [ih]
  rfl
set_option maxRecDepth 100000 in
theorem Q1.body (n : Nat) (x : YD × ByteArray × Int) : bodyF Q1.E Q1.keep n Tryz.f131 Q1.con x = Q1.fn n x.1 x.2.1 x.2.2 := by
 have h : bodyF Q1.E Q1.keep n Tryz.f131 Q1.con x = Q1.top (fun p q t2 v9 v10 v11 => Q1.LN2 n x n (Q1.st2 p q t2 v9 v10 v11)) x.1 x.2.1 x.2.2 := by kernel_rfl
 rw [h]
 simp only [Q1.lem2]
 rfl
set_option maxRecDepth 100000 in
theorem Q1.good : Good Tryz.prog 131 Q1.con :=
 Vf tabok (cs := Q1.cs) ⟨QE.good, trivial⟩ 0 false (fn := Tryz.f131) Tryz.func131 rfl (by decide) (by simp [Q1.con]) Q1.keep NN (fun _ => rfl) (fun x => Q1.body NN x)
end
end Go.Ev.Tryz

namespace Go.Ev.Tryz
open Go.Proofs Go.Pl
set_option linter.unusedVariables false
noncomputable section
def Qa2.con : Con := { ps := [(.val, (.sl 70 (.pair (.int .i64) (.pair .str (.int .i64))))), (.val, .str), (.val, (.int .i64))], rs := [(.val, .bool), (.val, (.int .i64))], F := fun x => Qa2.f x.1 x.2.1 x.2.2 }
def Qa2.cs : List (FuncId × Con) := [(130, QaR.con), (131, Q1.con)]
def Qa2.E : Env := envOf tab Qa2.cs 0 false
def Qa2.keep (i : Nat) : List Nat := []
set_option maxRecDepth 100000 in
theorem Qa2.body (n : Nat) (x : YD × ByteArray × Int) : bodyF Qa2.E Qa2.keep n Tryz.f98 Qa2.con x = Qa2.fn n x.1 x.2.1 x.2.2 := by
 have h : bodyF Qa2.E Qa2.keep n Tryz.f98 Qa2.con x = Qa2.top x.1 x.2.1 x.2.2 := by kernel_rfl
 exact h
set_option maxRecDepth 100000 in
theorem Qa2.good : Good Tryz.prog 98 Qa2.con :=
 Vf tabok (cs := Qa2.cs) ⟨QaR.good, Q1.good, trivial⟩ 0 false (fn := Tryz.f98) Tryz.func98 rfl (by decide) (by simp [Qa2.con]) Qa2.keep NN (fun _ => rfl) (fun x => Qa2.body NN x)
end
end Go.Ev.Tryz

namespace Go.Ev.Tryz
open Go.Proofs Go.Pl
set_option linter.unusedVariables false
noncomputable section
def QD.st2 (p : ByteArray) (v7 : List ByteArray) (v8 : Int) (v9 : Int) : St := ⟨[.gone, .dat .str p, .gone, .gone, .gone, .gone, .gone, .dat (.sl 9 .str) v7, .dat (.int .i64) v8, .dat (.int .i64) v9, .gone, .gone, .gone, .gone, .gone, .gone, .gone, .gone, .gone], []⟩
def QD.con : Con := { ps := [(.val, (.sl 9 .str)), (.val, .str)], rs := [(.val, (.int .i64))], F := fun x => QD.f x.1 x.2 }
def QD.cs : List (FuncId × Con) := []
def QD.E : Env := envOf tab QD.cs 0 false
def QD.keep (i : Nat) : List Nat := if i = 2 then [1, 7, 8, 9] else []
def QD.at2 (n : Nat) (x : List ByteArray × ByteArray) : Code × (Ex → St → Option (Int)) := ctx QD.E QD.keep n [.snd, .fst, .snd, .blk] (Vg Tryz.f99) (kEnd QD.E Tryz.f99 QD.con x)
def QD.LN2 (n : Nat) (x : List ByteArray × ByteArray) : Nat → St → Option (Int) := loopN (exec QD.E QD.keep n (Vj (QD.at2 n x).1)) (St.norm 0 (QD.keep 2)) (QD.at2 n x).2
set_option maxRecDepth 100000 in
theorem QD.lem2 (n : Nat) (x : List ByteArray × ByteArray) : ∀ (k : Nat) (p : ByteArray) (v7 : List ByteArray) (v8 : Int) (v9 : Int), QD.LN2 n x k (QD.st2 p v7 v8 v9) = QD.l2 n k p v7 v8 v9 := by
 intro k
 induction k with
 | zero => intro p v7 v8 v9; rfl
 | succ k ih =>
  intro p v7 v8 v9
  have h : QD.LN2 n x (k + 1) (QD.st2 p v7 v8 v9) = QD.g2 (fun p v7 v8 v9 => QD.LN2 n x k (QD.st2 p v7 v8 v9)) p v7 v8 v9 := by kernel_rfl
  rw [h]
  simp only [ih]
  rfl
set_option maxRecDepth 100000 in
theorem QD.body (n : Nat) (x : List ByteArray × ByteArray) : bodyF QD.E QD.keep n Tryz.f99 QD.con x = QD.fn n x.1 x.2 := by
 have h : bodyF QD.E QD.keep n Tryz.f99 QD.con x = QD.top (fun p v7 v8 v9 => QD.LN2 n x n (QD.st2 p v7 v8 v9)) x.1 x.2 := by kernel_rfl
 rw [h]
 simp only [QD.lem2]
 rfl
set_option maxRecDepth 100000 in
theorem QD.good : Good Tryz.prog 99 QD.con :=
 Vf tabok (cs := QD.cs) trivial 0 false (fn := Tryz.f99) Tryz.func99 rfl (by decide) (by simp [QD.con]) QD.keep NN (fun _ => rfl) (fun x => QD.body NN x)
end
end Go.Ev.Tryz

namespace Go.Ev.Tryz
open Go.Proofs Go.Pl
set_option linter.unusedVariables false
noncomputable section
def QaI.con : Con := { ps := [], rs := [(.own, (.sl 9 .str))], F := fun x => QaI.f  }
def QaI.cs : List (FuncId × Con) := []
def QaI.E : Env := envOf tab QaI.cs 0 false
def QaI.keep (i : Nat) : List Nat := []
set_option maxRecDepth 100000 in
theorem QaI.body (n : Nat) (x : Unit) : bodyF QaI.E QaI.keep n Tryz.f100 QaI.con x = QaI.fn n  := by
 have h : bodyF QaI.E QaI.keep n Tryz.f100 QaI.con x = QaI.top  := by kernel_rfl
 exact h
set_option maxRecDepth 100000 in
theorem QaI.good : Good Tryz.prog 100 QaI.con :=
 Vf tabok (cs := QaI.cs) trivial 0 false (fn := Tryz.f100) Tryz.func100 rfl (by decide) (by simp [QaI.con]) QaI.keep NN (fun _ => rfl) (fun x => QaI.body NN x)
end
end Go.Ev.Tryz

namespace Go.Ev.Tryz
open Go.Proofs Go.Pl
set_option linter.unusedVariables false
noncomputable section
def Qa5.con : Con := { ps := [(.val, (.int .i64))], rs := [(.val, .bool)], F := fun x => Qa5.f x }
def Qa5.cs : List (FuncId × Con) := [(86, Qag.con)]
def Qa5.E : Env := envOf tab Qa5.cs 0 false
def Qa5.keep (i : Nat) : List Nat := []
set_option maxRecDepth 100000 in
theorem Qa5.body (n : Nat) (x : Int) : bodyF Qa5.E Qa5.keep n Tryz.f88 Qa5.con x = Qa5.fn n x := by
 have h : bodyF Qa5.E Qa5.keep n Tryz.f88 Qa5.con x = Qa5.top x := by kernel_rfl
 exact h
set_option maxRecDepth 100000 in
theorem Qa5.good : Good Tryz.prog 88 Qa5.con :=
 Vf tabok (cs := Qa5.cs) ⟨Qag.good, trivial⟩ 0 false (fn := Tryz.f88) Tryz.func88 rfl (by decide) (by simp [Qa5.con]) Qa5.keep NN (fun _ => rfl) (fun x => Qa5.body NN x)
end
end Go.Ev.Tryz

namespace Go.Ev.Tryz
open Go.Proofs Go.Pl
set_option linter.unusedVariables false
noncomputable section
def Qo.st4 (p : List YC) (v8 : List YC) (v9 : Int) (v10 : Int) : St := ⟨[.dat (.sl 72 (.pair (.int .i64) (.int .i64))) p, .gone, .gone, .gone, .gone, .gone, .gone, .gone, .dat (.sl 72 (.pair (.int .i64) (.int .i64))) v8, .dat (.int .i64) v9, .dat (.int .i64) v10, .gone, .gone, .gone, .gone, .gone, .gone, .gone, .gone, .gone, .gone, .gone, .gone, .gone, .gone, .gone, .gone, .gone, .gone, .gone, .gone, .gone, .gone, .gone, .gone, .gone, .gone, .gone, .gone, .gone, .gone, .gone, .gone, .gone, .gone, .gone], []⟩
def Qo.con : Con := { ps := [(.val, (.sl 72 (.pair (.int .i64) (.int .i64))))], rs := [(.val, .bool)], F := fun x => Qo.f x }
def Qo.cs : List (FuncId × Con) := [(86, Qag.con), (88, Qa5.con)]
def Qo.E : Env := envOf tab Qo.cs 0 false
def Qo.keep (i : Nat) : List Nat := if i = 4 then [0, 8, 9, 10] else []
def Qo.at4 (n : Nat) (x : List YC) : Code × (Ex → St → Option (Bool)) := ctx Qo.E Qo.keep n [.snd, .snd, .fst, .snd, .blk] (Vg Tryz.f55) (kEnd Qo.E Tryz.f55 Qo.con x)
def Qo.LN4 (n : Nat) (x : List YC) : Nat → St → Option (Bool) := loopN (exec Qo.E Qo.keep n (Vj (Qo.at4 n x).1)) (St.norm 0 (Qo.keep 4)) (Qo.at4 n x).2
set_option maxRecDepth 100000 in
theorem Qo.lem4 (n : Nat) (x : List YC) : ∀ (k : Nat) (p : List YC) (v8 : List YC) (v9 : Int) (v10 : Int), Qo.LN4 n x k (Qo.st4 p v8 v9 v10) = Qo.l4 n k p v8 v9 v10 := by
 intro k
 induction k with
 | zero => intro p v8 v9 v10; rfl
 | succ k ih =>
  intro p v8 v9 v10
  have h : Qo.LN4 n x (k + 1) (Qo.st4 p v8 v9 v10) = Qo.g4 (fun p v8 v9 v10 => Qo.LN4 n x k (Qo.st4 p v8 v9 v10)) p v8 v9 v10 := by kernel_rfl
  rw [h]
  simp only [ih]
  rfl
set_option maxRecDepth 100000 in
theorem Qo.body (n : Nat) (x : List YC) : bodyF Qo.E Qo.keep n Tryz.f55 Qo.con x = Qo.fn n x := by
 have h : bodyF Qo.E Qo.keep n Tryz.f55 Qo.con x = Qo.top (fun p v8 v9 v10 => Qo.LN4 n x n (Qo.st4 p v8 v9 v10)) x := by kernel_rfl
 rw [h]
 simp only [Qo.lem4]
 rfl
set_option maxRecDepth 100000 in
theorem Qo.good : Good Tryz.prog 55 Qo.con :=
 Vf tabok (cs := Qo.cs) ⟨Qag.good, Qa5.good, trivial⟩ 0 false (fn := Tryz.f55) Tryz.func55 rfl (by decide) (by simp [Qo.con]) Qo.keep NN (fun _ => rfl) (fun x => Qo.body NN x)
end
end Go.Ev.Tryz

namespace Go.Ev.Tryz
open Go.Proofs Go.Pl
set_option linter.unusedVariables false
noncomputable section
def Qj.st7 (k7 : Int) (p : List YC) : St := ⟨[.gone, .gone, .gone, .gone, .gone, .gone, .ref 0, .dat (.int .i64) k7, .gone, .gone, .gone, .gone, .gone, .gone, .gone, .gone, .gone, .gone, .gone, .gone, .gone, .gone, .gone, .gone, .gone, .gone, .gone, .gone, .gone, .gone, .gone, .gone, .gone, .gone, .gone, .gone, .gone, .gone, .gone, .gone, .gone, .gone, .gone, .gone, .gone, .gone, .gone, .gone, .gone, .gone, .gone, .gone, .gone, .gone, .gone, .gone, .gone, .gone, .gone, .gone, .gone], [.row 72 (.pair (.int .i64) (.int .i64)) p none]⟩
def Qj.tr0 (L7 : YAO) (k7 : Int) (p : List YC) : Option YZ :=
 if (0 : Int) ≤ (IntKind.i64.wrap (k7 - 1)) ∧ ((IntKind.i64.wrap (k7 - 1)) : Int) < p.length then
  if (0 : Int) ≤ k7 ∧ (k7 : Int) < (p.set ((IntKind.i64.wrap (k7 - 1)) : Int).toNat (p.getD (k7 : Int).toNat (0, 0))).length then
   L7 (IntKind.i64.wrap (k7 - 1)) ((p.set ((IntKind.i64.wrap (k7 - 1)) : Int).toNat (p.getD (k7 : Int).toNat (0, 0))).set (k7 : Int).toNat (p.getD ((IntKind.i64.wrap (k7 - 1)) : Int).toNat (0, 0)))
  else
   none
 else
  none
def Qj.g7raw (L7 : YAO) (k7 : Int) (p : List YC) : Option YZ :=
 if (decide ((0 : Int) < k7)) = true then
  if (0 : Int) ≤ (IntKind.i64.wrap (k7 - 1)) ∧ ((IntKind.i64.wrap (k7 - 1)) : Int) < p.length then
   if (0 : Int) ≤ k7 ∧ (k7 : Int) < p.length then
    if (decide ((((p.getD (k7 : Int).toNat (0, 0)).1) : Int) < ((p.getD ((IntKind.i64.wrap (k7 - 1)) : Int).toNat (0, 0)).1))) = true then
     if (0 : Int) ≤ k7 ∧ (k7 : Int) < p.length then
      if (0 : Int) ≤ (IntKind.i64.wrap (k7 - 1)) ∧ ((IntKind.i64.wrap (k7 - 1)) : Int) < p.length then
       agree (
        Qj.tr0 L7 k7 p
       ) (
        Qj.tr0 L7 k7 p
       )
      else
       none
     else
      none
    else
     (Qo.f p).bind fun r2 =>
     if (!r2) = true then
      some ([], 5)
     else
      some (p, 0)
   else
    none
  else
   none
 else
  (Qo.f p).bind fun r3 =>
  if (!r3) = true then
   some ([], 5)
  else
   some (p, 0)
theorem Qj.g7raw_eq (L7 : YAO) (k7 : Int) (p : List YC) : Qj.g7raw L7 k7 p = Qj.g7 L7 k7 p := by
 unfold Qj.g7raw Qj.g7
 simp only [Vt, Qj.tr0]
def Qj.tr1 (I7 : YAO) (q : List YC) (x1 : Int × Int) : Option YZ :=
 if ([] : List YC).length + q.length < room 16 then
  if (([] : List YC) ++ q).length + ([x1]).length < room 16 then
   I7 (IntKind.i64.wrap ((((([] : List YC) ++ q) ++ ([x1])).length : Int) - 1)) ((([] : List YC) ++ q) ++ ([x1]))
  else
   none
 else
  none
def Qj.tr2 (I7 : YAO) (q : List YC) (x1 : Int × Int) : Option YZ :=
 agree (
  Qj.tr1 I7 q x1
 ) (
  Qj.tr1 I7 q x1
 )
def Qj.topraw (I7 : YAO) (q : List YC) (x1 : Int × Int) : Option YZ :=
 (Qo.f q).bind fun r1 =>
 if (!r1) = true then
  some ([], 1)
 else if (((q.length : Int) : Int) == 40) = true then
  some ([], 3)
 else
  agree (
   agree (
    Qj.tr1 I7 q x1
   ) (
    Qj.tr2 I7 q x1
   )
  ) (
   agree (
    Qj.tr2 I7 q x1
   ) (
    Qj.tr1 I7 q x1
   )
  )
theorem Qj.topraw_eq (I7 : YAO) (q : List YC) (x1 : Int × Int) : Qj.topraw I7 q x1 = Qj.top I7 q x1 := by
 unfold Qj.topraw Qj.top
 simp only [Vt, Qj.tr1, Qj.tr2]
def Qj.con : Con := { ps := [(.val, (.sl 72 (.pair (.int .i64) (.int .i64)))), (.val, (.pair (.int .i64) (.int .i64)))], rs := [(.own, (.sl 72 (.pair (.int .i64) (.int .i64)))), (.own, (.int .i64))], F := fun x => Qj.f x.1 x.2 }
def Qj.cs : List (FuncId × Con) := [(55, Qo.con)]
def Qj.E : Env := envOf tab Qj.cs 0 false
def Qj.keep (i : Nat) : List Nat := if i = 7 then [6, 7] else []
def Qj.at7 (n : Nat) (x : YE × Int × Int) : Code × (Ex → St → Option (YZ)) := ctx Qj.E Qj.keep n [.snd, .snd, .snd, .snd, .fst, .snd, .blk] (Vg Tryz.f101) (kEnd Qj.E Tryz.f101 Qj.con x)
def Qj.LN7 (n : Nat) (x : YE × Int × Int) : Nat → St → Option (YZ) := loopN (exec Qj.E Qj.keep n (Vj (Qj.at7 n x).1)) (St.norm 0 (Qj.keep 7)) (Qj.at7 n x).2
set_option maxRecDepth 100000 in
theorem Qj.lem7 (n : Nat) (x : YE × Int × Int) : ∀ (k : Nat) (k7 : Int) (p : List YC), Qj.LN7 n x k (Qj.st7 k7 p) = Qj.l7 n k k7 p := by
 intro k
 induction k with
 | zero => intro k7 p; rfl
 | succ k ih =>
  intro k7 p
  have h : Qj.LN7 n x (k + 1) (Qj.st7 k7 p) = Qj.g7raw (fun k7 p => Qj.LN7 n x k (Qj.st7 k7 p)) k7 p := by kernel_rfl
  rw [Qj.g7raw_eq] at h
  rw [h]
  simp only [ih]
  rfl
set_option maxRecDepth 100000 in
theorem Qj.body (n : Nat) (x : YE × Int × Int) : bodyF Qj.E Qj.keep n Tryz.f101 Qj.con x = Qj.fn n x.1 x.2 := by
 have h : bodyF Qj.E Qj.keep n Tryz.f101 Qj.con x = Qj.topraw (fun k7 p => Qj.LN7 n x n (Qj.st7 k7 p)) x.1 x.2 := by kernel_rfl
 rw [Qj.topraw_eq] at h
 rw [h]
 simp only [Qj.lem7]
 rfl
set_option maxRecDepth 100000 in
theorem Qj.good : Good Tryz.prog 101 Qj.con :=
 Vf tabok (cs := Qj.cs) ⟨Qo.good, trivial⟩ 0 false (fn := Tryz.f101) Tryz.func101 rfl (by decide) (by simp [Qj.con]) Qj.keep NN (fun _ => rfl) (fun x => Qj.body NN x)
end
end Go.Ev.Tryz

namespace Go.Pl
open Go.Ev
set_option linter.unusedVariables false
theorem wf64 {n : Int} : (Lit.int .i64 n).wf = true ↔ (-9223372036854775808 ≤ n ∧ n ≤ 9223372036854775807) := by
 simp only [Lit.wf, Bool.and_eq_true, decide_eq_true_eq]
 have e1 : IntKind.i64.min = -9223372036854775808 := by decide
 have e2 : IntKind.i64.max = 9223372036854775807 := by decide
 omega
theorem wf8 {n : Int} : (Lit.int .u8 n).wf = true ↔ (0 ≤ n ∧ n ≤ 255) := by
 simp only [Lit.wf, Bool.and_eq_true, decide_eq_true_eq]
 have e1 : IntKind.u8.min = 0 := by decide
 have e2 : IntKind.u8.max = 255 := by decide
 omega
theorem w8 {n : Int} (h1 : 0 ≤ n) (h2 : n < 256) : IntKind.u8.wrap n = n := by
 simp only [IntKind.wrap, IntKind.bits, IntKind.signed]
 simp
 omega
theorem Vc {α : Type} (p r : List α) (x z : α) : (p ++ x :: r).getD (p.length : Int).toNat z = x := by simp
theorem Vd {α : Type} (p r : List α) (x y : α) : (p ++ x :: r).set (p.length : Int).toNat y = p ++ y :: r := by simp
theorem Va {α : Type} (p r : List α) (x z : α) : (p ++ x :: r).getD p.length z = x := by simp
theorem Vb {α : Type} (p r : List α) (x y : α) : (p ++ x :: r).set p.length y = p ++ y :: r := by simp
theorem Vz {α : Type} (p r : List α) (x : α) : ((p ++ x :: r).length : Int) = (p.length : Int) + r.length + 1 := by simp; omega
theorem Vn {α : Type} (p r : List α) (x : α) : (p ++ [x]) ++ r = p ++ x :: r := by simp
theorem Vo {α : Type} (p : List α) (x : α) : ((p ++ [x]).length : Int) = (p.length : Int) + 1 := by simp
theorem ba_toList {a b : ByteArray} : a.toList = b.toList ↔ a = b := by
 rw [ByteArray.toList_eq, ByteArray.toList_eq]
 exact ⟨fun h => ByteArray.ext (Array.toList_inj.mp h), fun h => by rw [h]⟩
theorem V3 (a b : ByteArray) : (a.toList == b.toList) = decide (a = b) := by
 by_cases h : a = b
 ·subst h; simp
 ·rw [decide_eq_false h, beq_eq_false_iff_ne]; exact fun e => h (ba_toList.1 e)
def bl (s : ByteArray) : List UInt8 := s.data.toList
def ob (l : List UInt8) : ByteArray := ⟨l.toArray⟩
theorem bl_ob (l : List UInt8) : bl (ob l) = l := by simp [bl, ob]
theorem ob_bl (s : ByteArray) : ob (bl s) = s := by simp [bl, ob]
theorem Vfq {a b : ByteArray} (h : bl a = bl b) : a = b := by rw [← ob_bl a, h, ob_bl]
theorem VI (s : ByteArray) : (bl s).length = s.size := by simp only [bl, Array.length_toList]; rfl
theorem Vk (l : List UInt8) : (ob l).size = l.length := by rw [← VI, bl_ob]
theorem Vhv (a b : ByteArray) : bl (a ++ b) = bl a ++ bl b := by simp [bl]
theorem Vas (a b : List UInt8) : ob a ++ ob b = ob (a ++ b) := by apply Vfq; rw [Vhv, bl_ob, bl_ob, bl_ob]
theorem VgT (s : ByteArray) (i j : Nat) : bl (s.extract i j) = ((bl s).take j).drop i := by
 simp only [bl, ByteArray.data_extract, Array.toList_extract, List.extract]
 rw [List.drop_take]
theorem VdY (l : List UInt8) (i j : Nat) : (ob l).extract i j = ob ((l.take j).drop i) := by apply Vfq; rw [VgT, bl_ob, bl_ob]
theorem bt_ob (l : List UInt8) (i : Int) : bt (ob l) i = ((l.getD i.toNat 0).toNat : Int) := rfl
theorem Ve (p r : List UInt8) (c : UInt8) : bt (ob (p ++ c :: r)) (p.length : Int) = (c.toNat : Int) := by rw [bt_ob, Vc]
theorem u8_eq {a : UInt8} {n : Nat} (h : n < 256) : ((a.toNat : Int) = (n : Int)) ↔ a = UInt8.ofNat n := by
 constructor
 ·intro e
  apply UInt8.toNat_inj.mp
  rw [UInt8.toNat_ofNat']; omega
 ·rintro rfl
  rw [UInt8.toNat_ofNat']; omega
theorem VgU (l : List Int) : bytesOf l = ob (l.map fun n => UInt8.ofNat n.toNat) := rfl
theorem Vhw {P : ByteArray → Prop} (h : ∀ l, P (ob l)) (s : ByteArray) : P s := by rw [← ob_bl s]; exact h _
theorem room8 : room 8 = 17592186044416 := by decide
theorem VdZ : room 16 = 8796093022208 := by decide
theorem VaR : room 32 = 4398046511104 := by decide
theorem NNb : (1000000000000 : Nat) < NN := by rw [NN_eq]; omega
theorem NN_lt {n : Nat} (h : n < 1152921504606846976) : n < NN := by rw [NN_eq]; omega
end Go.Pl

namespace Go.Ev
set_option linter.unusedVariables false
set_option linter.unusedSimpArgs false
open Go.RowKit Go.WideShapes Go.ChangeShapes Go.ChangeAt
variable {P : Program}
def Rg (k : IntKind) (n : Int) : Prop := (Lit.int k n).wf = true
def Sz (s : ByteArray) : Prop := s.size ≤ 140737488355328
def Ls {α : Type} (Q : α → Prop) (xs : List α) : Prop := xs.length ≤ 140737488355328 ∧ ∀ x ∈ xs, Q x
def Plain : (t : Ty) → t.I → Prop
 | .int k, n => Rg k n
 | .bool, _ => True
 | .str, s => Sz s
 | .sl _ t, xs => Ls (Plain t) xs
 | .slb _ _, _ => True
 | .pair a b, x => Plain a x.1 ∧ Plain b x.2
 | .arr n t, xs => xs.length = n ∧ ∀ x ∈ xs, Plain t x
def Vdm : (ts : List Ty) → Tup ts → Prop
 | [], _ => True
 | [t], x => Plain t x
 | t :: u :: r, x => Plain t x.1 ∧ Vdm (u :: r) x.2
def okE (B : TypeId → Nat) : Ty → Bool
 | .sl e t => decide (1 ≤ B e) && okE B t
 | .slb e t => decide (1 ≤ B e) && okE B t
 | .pair a b => okE B a && okE B b
 | .arr _ t => okE B t
 | _ => true
theorem Vfr : reachBytes ≤ 140737488355328 := by decide
theorem VeI {B : TypeId → Nat} : ∀ (t : Ty) (x : t.I), okE B t = true → Fit B t x → Plain t x := by
 intro t
 induction t with
 | int k => intro x _ h; exact h
 | bool => intro x _ h; trivial
 | str => intro x _ h; exact Nat.le_trans h Vfr
 | sl e t ih =>
  intro x ho h
  simp only [okE, Bool.and_eq_true, decide_eq_true_eq] at ho
  refine ⟨?_, fun y hy => ih y ho.2 (h.2 y hy)⟩
  have h1 : x.length * 1 ≤ x.length * B e := Nat.mul_le_mul_left _ ho.1
  have h2 := h.1
  have h3 := Vfr
  omega
 | slb e t ih => intro x ho h; trivial
 | pair a b iha ihb =>
  intro x ho h
  simp only [okE, Bool.and_eq_true] at ho
  exact ⟨iha _ ho.1 h.1, ihb _ ho.2 h.2⟩
 | arr n t ih => intro x ho h; exact ⟨h.1, fun y hy => ih y ho (h.2 y hy)⟩
theorem Vfs {B : TypeId → Nat} : ∀ (ts : List Ty) (x : Tup ts), ts.all (okE B) = true → Vb5 B ts x → Vdm ts x := by
 intro ts
 induction ts with
 | nil => intro x _ _; trivial
 | cons t r ih =>
  intro x ho h
  simp only [List.all_cons, Bool.and_eq_true] at ho
  cases r with
  | nil => exact VeI t x ho.1 h
  | cons u r => exact ⟨VeI t x.1 ho.1 h.1, ih x.2 ho.2 h.2⟩
theorem Vhx {tab : List TRow} (h : okB P tab = true) : tab.all (rowB P tab) = true := by
 unfold okB at h; simp only [Bool.and_eq_true] at h; exact h.2.2
theorem Vf3 {tab : List TRow} (h : okB P tab = true) : ∀ t x, tabT tab t = some x → P.bytesOf t = tabB tab t := by
 intro t x ht
 have hs := VbM (Vhx h)
 obtain ⟨ty, n⟩ := x
 obtain ⟨i, h1, h2⟩ := (hs.1 t ty n ht).info
 unfold Program.bytesOf
 rw [h1]
 exact hs.2 t _ ht i h1
section
variable {H : Type} {enc : TypeId × Value → H} {w : World} {base : Nat} {spare : Nat → Bool} {held : Bool}
theorem Vi2 {tab : List TRow} (hok : okB P tab = true) (hpos : posB tab = true) {f : FuncId} {c : Con} (hg : Good P f c) (hps : (c.ps.map (·.2)).map ((Kn.val, ·)) = c.ps) (hE : (c.ps.map (·.2)).all (okE (tabB tab)) = true)
  (hlaw : ∀ x, Vdm (c.ps.map (·.2)) x → ∃ r, c.F x = some r ∧ kds' c.rs (dats _ r) = [(.val, ⟨.bool, true⟩)])
  {r : Reach} {b0 : Nat} {ts : List TypeId} {args : Array Value} {ds : List (DataW H)} {p : List MemPlace} (hts : tysOf (tabT tab) ts = some (c.ps.map (·.2))) (h : DataW.TrodAll enc P w base spare held ts args.toList ds p)
  (hval : ∀ (j : Nat) t v, ts[j]? = some t → args[j]? = some v → Value.okWide P w r b0 t v) {vt : List TypeId} {gs : List (DataW H)} (hgs : vt = [] ∨ gs = []) (hw : (DataW.weightsEach P (ts ++ vt) (ds ++ gs)).all (· ≤ reachBytes) = true) (hl : ts.length = ds.length) :
  Calls P f args w fun e w' => e = .returned (.bool true) ∧ Below w.heap.size w w' := by
 refine Vhu (VbM (Vhx hok)).1 (Vf3 hok) (VgS hpos) hg hps (fun x hx => hlaw x (Vfs _ x hE hx)) hts h (fun j t v hj hv => hval j t v hj (by simpa using hv)) ?_
 have key : ∀ (ts : List TypeId) (ds : List (DataW H)), ts.length = ds.length → ∀ m ∈ DataW.weightsEach P ts ds, m ∈ DataW.weightsEach P (ts ++ vt) (ds ++ gs) := by
  intro ts
  induction ts with
  | nil => intro ds hl m hm; cases ds <;> simp [DataW.weightsEach] at hm
  | cons t ts ih =>
   intro ds hl m hm
   cases ds with
   | nil => simp [DataW.weightsEach] at hm
   | cons d ds =>
    simp only [List.cons_append, DataW.weightsEach, List.mem_append] at hm ⊢
    rcases hm with hm | hm
    ·exact .inl hm
    ·exact .inr (ih ds (by simpa using hl) m hm)
 intro m hm
 have := List.all_eq_true.1 hw m (key ts ds hl m hm)
 simpa using this
end
end Go.Ev

namespace Go.Pl
open Go.Ev
set_option linter.unusedVariables false
def Sm (s : ByteArray) : Prop := s.size ≤ 1000000
def Lm {α : Type} (Q : α → Prop) (xs : List α) : Prop := xs.length ≤ 1000000 ∧ ∀ x ∈ xs, Q x
theorem Vdn {α : Type} {E : α → Prop} (l : Nat → List α → List α → Int → Option Bool) (a : List α) (hE : ∀ x ∈ a, E x)
  (hs : ∀ k p x r, E x → a = p ++ x :: r → l (k + 1) a a p.length = l k a a ((p.length : Int) + 1)) (he : ∀ k, l (k + 1) a a a.length = some true) :
  ∀ k, a.length < k → l k a a 0 = some true := by
 have key : ∀ (r p : List α) (k : Nat), a = p ++ r → r.length < k → l k a a p.length = some true := by
  intro r
  induction r with
  | nil =>
   intro p k h hk
   obtain ⟨k, rfl⟩ : ∃ j, k = j + 1 := ⟨k - 1, by omega⟩
   rw [List.append_nil] at h
   rw [← h]; exact he k
  | cons x r ih =>
   intro p k h hk
   simp only [List.length_cons] at hk
   obtain ⟨k, rfl⟩ : ∃ j, k = j + 1 := ⟨k - 1, by omega⟩
   rw [hs k p x r (hE x (by rw [h]; simp)) h]
   have := ih (p ++ [x]) k (by rw [h]; simp) (by omega)
   rw [Vo] at this
   exact this
 intro k hk
 have := key a [] k (by simp) hk
 simpa using this
end Go.Pl

namespace Go.Pl
open Go.Ev
set_option linter.unusedVariables false
theorem VaZ {α : Type} {E : α → Prop} (P : α → Bool) (fin : List α → Option Bool) (l : Nat → List α → Int → Option Bool)
  (hn : ∀ k p, l (k + 1) p p.length = fin p)
  (hc : ∀ k p a r, E a → (0 : Int) ≤ (p.length : Int) → (p.length : Int) < ((p ++ a :: r).length : Int) → IntKind.i64.wrap ((p.length : Int) + 1) = (p.length : Int) + 1 → l (k + 1) (p ++ a :: r) p.length = if P a = true then l k (p ++ a :: r) ((p.length : Int) + 1) else some false)
  (xs : List α) (hE : ∀ x ∈ xs, E x) (hB : xs.length ≤ 140737488355328) (k : Nat) (hk : xs.length < k) : l k xs 0 = if xs.all P = true then fin xs else some false := by
 have key : ∀ (r p : List α) (k : Nat), p.length + r.length ≤ 140737488355328 → (∀ x ∈ r, E x) → r.length < k → l k (p ++ r) p.length = if r.all P = true then fin (p ++ r) else some false := by
  intro r
  induction r with
  | nil =>
   intro p k _ _ hk
   obtain ⟨k, rfl⟩ : ∃ j, k = j + 1 := ⟨k - 1, by omega⟩
   rw [List.append_nil, hn]; simp
  | cons a r ih =>
   intro p k hb he hk
   simp only [List.length_cons] at hk hb
   obtain ⟨k, rfl⟩ : ∃ j, k = j + 1 := ⟨k - 1, by omega⟩
   have hm := Vz p r a
   rw [hc k p a r (he a (by simp)) (by omega) (by omega) (w64 (by omega) (by omega))]
   have := ih (p ++ [a]) k (by simp; omega) (fun y hy => he y (by simp [hy])) (by omega)
   rw [Vn, Vo] at this
   rw [this]
   cases h : P a <;> simp [h]
 have := key xs [] k (by simpa using hB) hE hk
 simpa using this
theorem VcB (P : UInt8 → Bool) (fin : ByteArray → Option Bool) (l : Nat → ByteArray → Int → Option Bool)
  (hn : ∀ k p, l (k + 1) (ob p) p.length = fin (ob p))
  (hc : ∀ k p a r, (0 : Int) ≤ (p.length : Int) → (p.length : Int) < ((ob (p ++ a :: r)).size : Int) → IntKind.i64.wrap ((p.length : Int) + 1) = (p.length : Int) + 1 → l (k + 1) (ob (p ++ a :: r)) p.length = if P a = true then l k (ob (p ++ a :: r)) ((p.length : Int) + 1) else some false)
  (s : ByteArray) (hB : s.size ≤ 140737488355328) (k : Nat) (hk : s.size < k) : l k s 0 = if (bl s).all P = true then fin s else some false := by
 have := VaZ (E := fun _ => True) P (fun x => fin (ob x)) (fun k x i => l k (ob x) i) hn (fun k p a r _ h1 h2 h3 => hc k p a r h1 (by rw [Vk]; exact h2) h3) (bl s) (fun _ _ => trivial) (by rw [VI]; exact hB) k (by rw [VI]; exact hk)
 rw [ob_bl] at this
 exact this
def foldi {α σ : Type} (f : Nat → σ → α → σ) : Nat → σ → List α → σ
 | _, st, [] => st
 | i, st, a :: r => foldi f (i + 1) (f i st a) r
theorem VY {α σ : Type} (f : σ → α → σ) : ∀ (xs : List α) (i : Nat) (st : σ), foldi (fun _ => f) i st xs = xs.foldl f st := by
 intro xs
 induction xs with
 | nil => intro i st; rfl
 | cons a r ih => intro i st; exact ih _ _
theorem VT {α σ ρ : Type} {E : α → Prop} (I : List α → σ → Prop) (f : Nat → σ → α → σ) (fin : σ → Option ρ) (l : Nat → Int → σ → Option ρ) (xs : List α)
  (hn : ∀ k st, I xs st → l (k + 1) xs.length st = fin st)
  (hc : ∀ k p a r st, xs = p ++ a :: r → E a → I p st → (0 : Int) ≤ (p.length : Int) → (p.length : Int) < (xs.length : Int) → p.length < 140737488355328 → IntKind.i64.wrap ((p.length : Int) + 1) = (p.length : Int) + 1 → (∀ z, xs.getD p.length z = a) →
   I (p ++ [a]) (f p.length st a) ∧ l (k + 1) p.length st = l k ((p.length : Int) + 1) (f p.length st a))
  (st : σ) (hE : ∀ x ∈ xs, E x) (hI : I [] st) (hB : xs.length ≤ 140737488355328) (k : Nat) (hk : xs.length < k) :
  I xs (foldi f 0 st xs) ∧ l k 0 st = fin (foldi f 0 st xs) := by
 have key : ∀ (r p : List α) (k : Nat) (st : σ), xs = p ++ r → (∀ x ∈ r, E x) → I p st → r.length < k → I xs (foldi f p.length st r) ∧ l k p.length st = fin (foldi f p.length st r) := by
  intro r
  induction r with
  | nil =>
   intro p k st hx _ hI hk
   obtain ⟨k, rfl⟩ : ∃ j, k = j + 1 := ⟨k - 1, by omega⟩
   rw [List.append_nil] at hx
   subst hx; exact ⟨hI, hn k st hI⟩
  | cons a r ih =>
   intro p k st hx he hI hk
   simp only [List.length_cons] at hk
   obtain ⟨k, rfl⟩ : ∃ j, k = j + 1 := ⟨k - 1, by omega⟩
   have hm := Vz p r a
   have hxl : (xs.length : Int) = ((p ++ a :: r).length : Int) := by rw [hx]
   obtain ⟨h1, h2⟩ := hc k p a r st hx (he a (by simp)) hI (by omega) (by omega) (by omega) (w64 (by omega) (by omega)) (fun z => by rw [hx, Va])
   have := ih (p ++ [a]) k (f p.length st a) (by rw [hx]; simp) (fun y hy => he y (by simp [hy])) h1 (by omega)
   rw [Vo] at this
   rw [h2]
   simpa [foldi] using this
 have := key xs [] k st (by simp) hE hI hk
 simpa using this
def VS {α : Type} (P : α → Bool) : Nat → List α → Option (Nat × α)
 | _, [] => none
 | i, a :: r => if P a = true then some (i, a) else VS P (i + 1) r
theorem VcC {α ρ : Type} {E : α → Prop} (P : α → Bool) (hit : Nat → α → Option ρ) (fin : List α → Option ρ) (l : Nat → List α → Int → Option ρ)
  (hn : ∀ k p, l (k + 1) p p.length = fin p)
  (hc : ∀ k p a r, E a → (0 : Int) ≤ (p.length : Int) → (p.length : Int) < ((p ++ a :: r).length : Int) → p.length < 140737488355328 → IntKind.i64.wrap ((p.length : Int) + 1) = (p.length : Int) + 1 → l (k + 1) (p ++ a :: r) p.length = if P a = true then hit p.length a else l k (p ++ a :: r) ((p.length : Int) + 1))
  (xs : List α) (hE : ∀ x ∈ xs, E x) (hB : xs.length ≤ 140737488355328) (k : Nat) (hk : xs.length < k) : l k xs 0 = (VS P 0 xs).elim (fin xs) (fun x => hit x.1 x.2) := by
 have key : ∀ (r p : List α) (k : Nat), p.length + r.length ≤ 140737488355328 → (∀ x ∈ r, E x) → r.length < k → l k (p ++ r) p.length = (VS P p.length r).elim (fin (p ++ r)) (fun x => hit x.1 x.2) := by
  intro r
  induction r with
  | nil =>
   intro p k _ _ hk
   obtain ⟨k, rfl⟩ : ∃ j, k = j + 1 := ⟨k - 1, by omega⟩
   rw [List.append_nil, hn]; rfl
  | cons a r ih =>
   intro p k hb he hk
   simp only [List.length_cons] at hk hb
   obtain ⟨k, rfl⟩ : ∃ j, k = j + 1 := ⟨k - 1, by omega⟩
   have hm := Vz p r a
   rw [hc k p a r (he a (by simp)) (by omega) (by omega) (by omega) (w64 (by omega) (by omega))]
   have := ih (p ++ [a]) k (by simp; omega) (fun y hy => he y (by simp [hy])) (by omega)
   rw [Vn, Vo] at this
   rw [this]
   cases h : P a <;> simp [h, VS]
 have := key xs [] k (by simpa using hB) hE hk
 simpa using this
end Go.Pl
