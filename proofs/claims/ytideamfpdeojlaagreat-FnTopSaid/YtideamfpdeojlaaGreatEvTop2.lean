/- Part 2 of what the law FnTop stands on: an evaluator of the model's code, proved sound; the functions as plain texts; their contracts. -/
import Derived.Test.YtideamfpdeojlaaGreatEvTop1
namespace Go.Pl
open Go.Ev
set_option linter.unusedVariables false
noncomputable section
def Qe.gk17 (L12 : YAA) (Lk17 : Int → Int → YK → YF → YG → YM → YF → YG → YM → YF → YG → YM → Option YI) (n7 : Int) (r : Int) (s0 : List Int × Int × Int) (w4 : List YC) (w5 : List YA) (w6 : List YB) (w7 : List YC) (w8 : List YA) (w9 : List YB) (w10 : List YC) (w11 : List YA) (w12 : List YB) : Option YI :=
 if ((r : Int) == 0) = true then
 L12 (IntKind.i64.wrap (n7 - 1)) s0 w4 w5 w6 w10 w11 w12
 else
 L12 (IntKind.i64.wrap (n7 - 1)) s0 w4 w5 w6 w7 w8 w9
def Qe.lk17 (n : Nat) (L12 : YAA) : Nat → Int → Int → YK → YF → YG → YM → YF → YG → YM → YF → YG → YM → Option YI
 | 0 => fun _ _ _ _ _ _ _ _ _ _ _ _ => none
 | k + 1 => Qe.gk17 L12 (Qe.lk17 n L12 k)
theorem Qe.ck17 {n : Nat} (h : 0 < n) (L12 : YAA) : Qe.lk17 n L12 n = Qe.gk17 L12 (Qe.lk17 n L12 (n - 1)) := by
  cases n with
  | zero => exact absurd h (Nat.lt_irrefl 0)
  | succ n => rfl
def Qe.gk16 (Ik17 : Int → Int → YK → YF → YG → YM → YF → YG → YM → YF → YG → YM → Option YI) (L12 : YAA) (Lk16 : YO) (n7 : Int) (s0 : List Int × Int × Int) (c9a : Int) (u : Int) (s : ByteArray) (t : Int) (w4 : List YC) (w5 : List YA) (w6 : List YB) (w7 : List YC) (w8 : List YA) (w9 : List YB) : Option YI :=
 (Qa.f (w7,(w8,w9)) (c9a,(u,(s,t)))).bind fun r10 =>
 Ik17 n7 r10.2 s0 w4 w5 w6 w7 w8 w9 r10.1.1 r10.1.2.1 r10.1.2.2
def Qe.lk16 (n : Nat) (L12 : YAA) : Nat → Int → YK → Int → Int → ByteArray → Int → YF → YG → YM → YF → YG → YM → Option YI
 | 0 => fun _ _ _ _ _ _ _ _ _ _ _ _ => none
 | k + 1 => Qe.gk16 (Qe.lk17 n L12 n) L12 (Qe.lk16 n L12 k)
theorem Qe.ck16 {n : Nat} (h : 0 < n) (L12 : YAA) : Qe.lk16 n L12 n = Qe.gk16 (Qe.lk17 n L12 n) L12 (Qe.lk16 n L12 (n - 1)) := by
  cases n with
  | zero => exact absurd h (Nat.lt_irrefl 0)
  | succ n => rfl
def Qe.gk15 (Ik16 : YO) (L12 : YAA) (Lk15 : YAP) (n7 : Int) (p : Int) (s0 : List Int × Int × Int) (w3 : List YC) (w4 : List YA) (w5 : List YB) (w6 : List YC) (w7 : List YA) (w8 : List YB) : Option YI :=
 agree (
 if (0 : Int) ≤ p ∧ (p : Int) < w6.length then
 agree (
 agree (
 (Qd.f s0 ((w6.getD (p : Int).toNat (0,0)).1)).bind fun r7 =>
 agree (
 (Qd.f r7.2 (w7.length : Int)).bind fun r8 =>
 if (0 : Int) ≤ r8.1 ∧ (r8.1 : Int) < w7.length then
 (Qd.f r8.2 12).bind fun r9 =>
 Ik16 n7 r9.2 p r7.1 ((w7.getD (r8.1 : Int).toNat (ByteArray.empty,(0,(0,(0,(0,(0,(0,(0,0))))))))).1) r9.1 w3 w4 w5 w6 w7 w8
 else
 none
 ) (
 agree (
 agree (
 (Qd.f r7.2 (w7.length : Int)).bind fun r8 =>
 if (0 : Int) ≤ r8.1 ∧ (r8.1 : Int) < w7.length then
 (Qd.f r8.2 12).bind fun r9 =>
 Ik16 n7 r9.2 p r7.1 ((w7.getD (r8.1 : Int).toNat (ByteArray.empty,(0,(0,(0,(0,(0,(0,(0,0))))))))).1) r9.1 w3 w4 w5 w6 w7 w8
 else
 none
 ) (
 agree (
 (Qd.f r7.2 (w7.length : Int)).bind fun r8 =>
 agree (
 if (0 : Int) ≤ r8.1 ∧ (r8.1 : Int) < w7.length then
 (Qd.f r8.2 12).bind fun r9 =>
 Ik16 n7 r9.2 p r7.1 ((w7.getD (r8.1 : Int).toNat (ByteArray.empty,(0,(0,(0,(0,(0,(0,(0,0))))))))).1) r9.1 w3 w4 w5 w6 w7 w8
 else
 none
 ) (
 agree (
 (Qd.f r8.2 12).bind fun r9 =>
 if (0 : Int) ≤ r8.1 ∧ (r8.1 : Int) < w7.length then
 Ik16 n7 r9.2 p r7.1 ((w7.getD (r8.1 : Int).toNat (ByteArray.empty,(0,(0,(0,(0,(0,(0,(0,0))))))))).1) r9.1 w3 w4 w5 w6 w7 w8
 else
 none
 ) (
 agree (
 if (0 : Int) ≤ r8.1 ∧ (r8.1 : Int) < w7.length then
 (Qd.f r8.2 12).bind fun r9 =>
 Ik16 n7 r9.2 p r7.1 ((w7.getD (r8.1 : Int).toNat (ByteArray.empty,(0,(0,(0,(0,(0,(0,(0,0))))))))).1) r9.1 w3 w4 w5 w6 w7 w8
 else
 none
 ) (
 (Qd.f r8.2 12).bind fun r9 =>
 if (0 : Int) ≤ r8.1 ∧ (r8.1 : Int) < w7.length then
 Ik16 n7 r9.2 p r7.1 ((w7.getD (r8.1 : Int).toNat (ByteArray.empty,(0,(0,(0,(0,(0,(0,(0,0))))))))).1) r9.1 w3 w4 w5 w6 w7 w8
 else
 none
 )
 )
 )
 ) (
 agree (
 (Qd.f r7.2 (w7.length : Int)).bind fun r8 =>
 if (0 : Int) ≤ r8.1 ∧ (r8.1 : Int) < w7.length then
 (Qd.f r8.2 12).bind fun r9 =>
 Ik16 n7 r9.2 p r7.1 ((w7.getD (r8.1 : Int).toNat (ByteArray.empty,(0,(0,(0,(0,(0,(0,(0,0))))))))).1) r9.1 w3 w4 w5 w6 w7 w8
 else
 none
 ) (
 (Qd.f r7.2 (w7.length : Int)).bind fun r8 =>
 agree (
 if (0 : Int) ≤ r8.1 ∧ (r8.1 : Int) < w7.length then
 (Qd.f r8.2 12).bind fun r9 =>
 Ik16 n7 r9.2 p r7.1 ((w7.getD (r8.1 : Int).toNat (ByteArray.empty,(0,(0,(0,(0,(0,(0,(0,0))))))))).1) r9.1 w3 w4 w5 w6 w7 w8
 else
 none
 ) (
 (Qd.f r8.2 12).bind fun r9 =>
 if (0 : Int) ≤ r8.1 ∧ (r8.1 : Int) < w7.length then
 Ik16 n7 r9.2 p r7.1 ((w7.getD (r8.1 : Int).toNat (ByteArray.empty,(0,(0,(0,(0,(0,(0,(0,0))))))))).1) r9.1 w3 w4 w5 w6 w7 w8
 else
 none
 )
 )
 )
 )
 ) (
 agree (
 (Qd.f r7.2 (w7.length : Int)).bind fun r8 =>
 if (0 : Int) ≤ r8.1 ∧ (r8.1 : Int) < w7.length then
 (Qd.f r8.2 12).bind fun r9 =>
 Ik16 n7 r9.2 p r7.1 ((w7.getD (r8.1 : Int).toNat (ByteArray.empty,(0,(0,(0,(0,(0,(0,(0,0))))))))).1) r9.1 w3 w4 w5 w6 w7 w8
 else
 none
 ) (
 agree (
 (Qd.f r7.2 (w7.length : Int)).bind fun r8 =>
 if (0 : Int) ≤ r8.1 ∧ (r8.1 : Int) < w7.length then
 (Qd.f r8.2 12).bind fun r9 =>
 Ik16 n7 r9.2 p r7.1 ((w7.getD (r8.1 : Int).toNat (ByteArray.empty,(0,(0,(0,(0,(0,(0,(0,0))))))))).1) r9.1 w3 w4 w5 w6 w7 w8
 else
 none
 ) (
 (Qd.f r7.2 (w7.length : Int)).bind fun r8 =>
 agree (
 if (0 : Int) ≤ r8.1 ∧ (r8.1 : Int) < w7.length then
 (Qd.f r8.2 12).bind fun r9 =>
 Ik16 n7 r9.2 p r7.1 ((w7.getD (r8.1 : Int).toNat (ByteArray.empty,(0,(0,(0,(0,(0,(0,(0,0))))))))).1) r9.1 w3 w4 w5 w6 w7 w8
 else
 none
 ) (
 (Qd.f r8.2 12).bind fun r9 =>
 if (0 : Int) ≤ r8.1 ∧ (r8.1 : Int) < w7.length then
 Ik16 n7 r9.2 p r7.1 ((w7.getD (r8.1 : Int).toNat (ByteArray.empty,(0,(0,(0,(0,(0,(0,(0,0))))))))).1) r9.1 w3 w4 w5 w6 w7 w8
 else
 none
 )
 )
 )
 )
 )
 ) (
 agree (
 (Qd.f s0 ((w6.getD (p : Int).toNat (0,0)).1)).bind fun r7 =>
 (Qd.f r7.2 (w7.length : Int)).bind fun r8 =>
 if (0 : Int) ≤ r8.1 ∧ (r8.1 : Int) < w7.length then
 (Qd.f r8.2 12).bind fun r9 =>
 Ik16 n7 r9.2 p r7.1 ((w7.getD (r8.1 : Int).toNat (ByteArray.empty,(0,(0,(0,(0,(0,(0,(0,0))))))))).1) r9.1 w3 w4 w5 w6 w7 w8
 else
 none
 ) (
 agree (
 agree (
 (Qd.f s0 ((w6.getD (p : Int).toNat (0,0)).1)).bind fun r7 =>
 agree (
 (Qd.f r7.2 (w7.length : Int)).bind fun r8 =>
 if (0 : Int) ≤ r8.1 ∧ (r8.1 : Int) < w7.length then
 (Qd.f r8.2 12).bind fun r9 =>
 Ik16 n7 r9.2 p r7.1 ((w7.getD (r8.1 : Int).toNat (ByteArray.empty,(0,(0,(0,(0,(0,(0,(0,0))))))))).1) r9.1 w3 w4 w5 w6 w7 w8
 else
 none
 ) (
 agree (
 (Qd.f r7.2 (w7.length : Int)).bind fun r8 =>
 agree (
 if (0 : Int) ≤ r8.1 ∧ (r8.1 : Int) < w7.length then
 (Qd.f r8.2 12).bind fun r9 =>
 Ik16 n7 r9.2 p r7.1 ((w7.getD (r8.1 : Int).toNat (ByteArray.empty,(0,(0,(0,(0,(0,(0,(0,0))))))))).1) r9.1 w3 w4 w5 w6 w7 w8
 else
 none
 ) (
 agree (
 (Qd.f r8.2 12).bind fun r9 =>
 if (0 : Int) ≤ r8.1 ∧ (r8.1 : Int) < w7.length then
 Ik16 n7 r9.2 p r7.1 ((w7.getD (r8.1 : Int).toNat (ByteArray.empty,(0,(0,(0,(0,(0,(0,(0,0))))))))).1) r9.1 w3 w4 w5 w6 w7 w8
 else
 none
 ) (
 agree (
 if (0 : Int) ≤ r8.1 ∧ (r8.1 : Int) < w7.length then
 (Qd.f r8.2 12).bind fun r9 =>
 Ik16 n7 r9.2 p r7.1 ((w7.getD (r8.1 : Int).toNat (ByteArray.empty,(0,(0,(0,(0,(0,(0,(0,0))))))))).1) r9.1 w3 w4 w5 w6 w7 w8
 else
 none
 ) (
 (Qd.f r8.2 12).bind fun r9 =>
 if (0 : Int) ≤ r8.1 ∧ (r8.1 : Int) < w7.length then
 Ik16 n7 r9.2 p r7.1 ((w7.getD (r8.1 : Int).toNat (ByteArray.empty,(0,(0,(0,(0,(0,(0,(0,0))))))))).1) r9.1 w3 w4 w5 w6 w7 w8
 else
 none
 )
 )
 )
 ) (
 agree (
 (Qd.f r7.2 (w7.length : Int)).bind fun r8 =>
 if (0 : Int) ≤ r8.1 ∧ (r8.1 : Int) < w7.length then
 (Qd.f r8.2 12).bind fun r9 =>
 Ik16 n7 r9.2 p r7.1 ((w7.getD (r8.1 : Int).toNat (ByteArray.empty,(0,(0,(0,(0,(0,(0,(0,0))))))))).1) r9.1 w3 w4 w5 w6 w7 w8
 else
 none
 ) (
 (Qd.f r7.2 (w7.length : Int)).bind fun r8 =>
 agree (
 if (0 : Int) ≤ r8.1 ∧ (r8.1 : Int) < w7.length then
 (Qd.f r8.2 12).bind fun r9 =>
 Ik16 n7 r9.2 p r7.1 ((w7.getD (r8.1 : Int).toNat (ByteArray.empty,(0,(0,(0,(0,(0,(0,(0,0))))))))).1) r9.1 w3 w4 w5 w6 w7 w8
 else
 none
 ) (
 (Qd.f r8.2 12).bind fun r9 =>
 if (0 : Int) ≤ r8.1 ∧ (r8.1 : Int) < w7.length then
 Ik16 n7 r9.2 p r7.1 ((w7.getD (r8.1 : Int).toNat (ByteArray.empty,(0,(0,(0,(0,(0,(0,(0,0))))))))).1) r9.1 w3 w4 w5 w6 w7 w8
 else
 none
 )
 )
 )
 )
 ) (
 agree (
 (Qd.f s0 ((w6.getD (p : Int).toNat (0,0)).1)).bind fun r7 =>
 (Qd.f r7.2 (w7.length : Int)).bind fun r8 =>
 if (0 : Int) ≤ r8.1 ∧ (r8.1 : Int) < w7.length then
 (Qd.f r8.2 12).bind fun r9 =>
 Ik16 n7 r9.2 p r7.1 ((w7.getD (r8.1 : Int).toNat (ByteArray.empty,(0,(0,(0,(0,(0,(0,(0,0))))))))).1) r9.1 w3 w4 w5 w6 w7 w8
 else
 none
 ) (
 agree (
 (Qd.f s0 ((w6.getD (p : Int).toNat (0,0)).1)).bind fun r7 =>
 agree (
 (Qd.f r7.2 (w7.length : Int)).bind fun r8 =>
 if (0 : Int) ≤ r8.1 ∧ (r8.1 : Int) < w7.length then
 (Qd.f r8.2 12).bind fun r9 =>
 Ik16 n7 r9.2 p r7.1 ((w7.getD (r8.1 : Int).toNat (ByteArray.empty,(0,(0,(0,(0,(0,(0,(0,0))))))))).1) r9.1 w3 w4 w5 w6 w7 w8
 else
 none
 ) (
 (Qd.f r7.2 (w7.length : Int)).bind fun r8 =>
 agree (
 if (0 : Int) ≤ r8.1 ∧ (r8.1 : Int) < w7.length then
 (Qd.f r8.2 12).bind fun r9 =>
 Ik16 n7 r9.2 p r7.1 ((w7.getD (r8.1 : Int).toNat (ByteArray.empty,(0,(0,(0,(0,(0,(0,(0,0))))))))).1) r9.1 w3 w4 w5 w6 w7 w8
 else
 none
 ) (
 (Qd.f r8.2 12).bind fun r9 =>
 if (0 : Int) ≤ r8.1 ∧ (r8.1 : Int) < w7.length then
 Ik16 n7 r9.2 p r7.1 ((w7.getD (r8.1 : Int).toNat (ByteArray.empty,(0,(0,(0,(0,(0,(0,(0,0))))))))).1) r9.1 w3 w4 w5 w6 w7 w8
 else
 none
 )
 )
 ) (
 (Qd.f s0 ((w6.getD (p : Int).toNat (0,0)).1)).bind fun r7 =>
 (Qd.f r7.2 (w7.length : Int)).bind fun r8 =>
 if (0 : Int) ≤ r8.1 ∧ (r8.1 : Int) < w7.length then
 (Qd.f r8.2 12).bind fun r9 =>
 Ik16 n7 r9.2 p r7.1 ((w7.getD (r8.1 : Int).toNat (ByteArray.empty,(0,(0,(0,(0,(0,(0,(0,0))))))))).1) r9.1 w3 w4 w5 w6 w7 w8
 else
 none
 )
 )
 )
 ) (
 agree (
 (Qd.f s0 ((w6.getD (p : Int).toNat (0,0)).1)).bind fun r7 =>
 agree (
 (Qd.f r7.2 (w7.length : Int)).bind fun r8 =>
 if (0 : Int) ≤ r8.1 ∧ (r8.1 : Int) < w7.length then
 (Qd.f r8.2 12).bind fun r9 =>
 Ik16 n7 r9.2 p r7.1 ((w7.getD (r8.1 : Int).toNat (ByteArray.empty,(0,(0,(0,(0,(0,(0,(0,0))))))))).1) r9.1 w3 w4 w5 w6 w7 w8
 else
 none
 ) (
 agree (
 (Qd.f r7.2 (w7.length : Int)).bind fun r8 =>
 if (0 : Int) ≤ r8.1 ∧ (r8.1 : Int) < w7.length then
 (Qd.f r8.2 12).bind fun r9 =>
 Ik16 n7 r9.2 p r7.1 ((w7.getD (r8.1 : Int).toNat (ByteArray.empty,(0,(0,(0,(0,(0,(0,(0,0))))))))).1) r9.1 w3 w4 w5 w6 w7 w8
 else
 none
 ) (
 (Qd.f r7.2 (w7.length : Int)).bind fun r8 =>
 agree (
 if (0 : Int) ≤ r8.1 ∧ (r8.1 : Int) < w7.length then
 (Qd.f r8.2 12).bind fun r9 =>
 Ik16 n7 r9.2 p r7.1 ((w7.getD (r8.1 : Int).toNat (ByteArray.empty,(0,(0,(0,(0,(0,(0,(0,0))))))))).1) r9.1 w3 w4 w5 w6 w7 w8
 else
 none
 ) (
 (Qd.f r8.2 12).bind fun r9 =>
 if (0 : Int) ≤ r8.1 ∧ (r8.1 : Int) < w7.length then
 Ik16 n7 r9.2 p r7.1 ((w7.getD (r8.1 : Int).toNat (ByteArray.empty,(0,(0,(0,(0,(0,(0,(0,0))))))))).1) r9.1 w3 w4 w5 w6 w7 w8
 else
 none
 )
 )
 )
 ) (
 agree (
 (Qd.f s0 ((w6.getD (p : Int).toNat (0,0)).1)).bind fun r7 =>
 (Qd.f r7.2 (w7.length : Int)).bind fun r8 =>
 if (0 : Int) ≤ r8.1 ∧ (r8.1 : Int) < w7.length then
 (Qd.f r8.2 12).bind fun r9 =>
 Ik16 n7 r9.2 p r7.1 ((w7.getD (r8.1 : Int).toNat (ByteArray.empty,(0,(0,(0,(0,(0,(0,(0,0))))))))).1) r9.1 w3 w4 w5 w6 w7 w8
 else
 none
 ) (
 agree (
 (Qd.f s0 ((w6.getD (p : Int).toNat (0,0)).1)).bind fun r7 =>
 agree (
 (Qd.f r7.2 (w7.length : Int)).bind fun r8 =>
 if (0 : Int) ≤ r8.1 ∧ (r8.1 : Int) < w7.length then
 (Qd.f r8.2 12).bind fun r9 =>
 Ik16 n7 r9.2 p r7.1 ((w7.getD (r8.1 : Int).toNat (ByteArray.empty,(0,(0,(0,(0,(0,(0,(0,0))))))))).1) r9.1 w3 w4 w5 w6 w7 w8
 else
 none
 ) (
 (Qd.f r7.2 (w7.length : Int)).bind fun r8 =>
 agree (
 if (0 : Int) ≤ r8.1 ∧ (r8.1 : Int) < w7.length then
 (Qd.f r8.2 12).bind fun r9 =>
 Ik16 n7 r9.2 p r7.1 ((w7.getD (r8.1 : Int).toNat (ByteArray.empty,(0,(0,(0,(0,(0,(0,(0,0))))))))).1) r9.1 w3 w4 w5 w6 w7 w8
 else
 none
 ) (
 (Qd.f r8.2 12).bind fun r9 =>
 if (0 : Int) ≤ r8.1 ∧ (r8.1 : Int) < w7.length then
 Ik16 n7 r9.2 p r7.1 ((w7.getD (r8.1 : Int).toNat (ByteArray.empty,(0,(0,(0,(0,(0,(0,(0,0))))))))).1) r9.1 w3 w4 w5 w6 w7 w8
 else
 none
 )
 )
 ) (
 (Qd.f s0 ((w6.getD (p : Int).toNat (0,0)).1)).bind fun r7 =>
 (Qd.f r7.2 (w7.length : Int)).bind fun r8 =>
 if (0 : Int) ≤ r8.1 ∧ (r8.1 : Int) < w7.length then
 (Qd.f r8.2 12).bind fun r9 =>
 Ik16 n7 r9.2 p r7.1 ((w7.getD (r8.1 : Int).toNat (ByteArray.empty,(0,(0,(0,(0,(0,(0,(0,0))))))))).1) r9.1 w3 w4 w5 w6 w7 w8
 else
 none
 )
 )
 )
 )
 )
 )
 ) (
 agree (
 (Qd.f s0 ((w6.getD (p : Int).toNat (0,0)).1)).bind fun r7 =>
 (Qd.f r7.2 (w7.length : Int)).bind fun r8 =>
 if (0 : Int) ≤ r8.1 ∧ (r8.1 : Int) < w7.length then
 (Qd.f r8.2 12).bind fun r9 =>
 Ik16 n7 r9.2 p r7.1 ((w7.getD (r8.1 : Int).toNat (ByteArray.empty,(0,(0,(0,(0,(0,(0,(0,0))))))))).1) r9.1 w3 w4 w5 w6 w7 w8
 else
 none
 ) (
 agree (
 agree (
 agree (
 (Qd.f s0 ((w6.getD (p : Int).toNat (0,0)).1)).bind fun r7 =>
 agree (
 (Qd.f r7.2 (w7.length : Int)).bind fun r8 =>
 if (0 : Int) ≤ r8.1 ∧ (r8.1 : Int) < w7.length then
 (Qd.f r8.2 12).bind fun r9 =>
 Ik16 n7 r9.2 p r7.1 ((w7.getD (r8.1 : Int).toNat (ByteArray.empty,(0,(0,(0,(0,(0,(0,(0,0))))))))).1) r9.1 w3 w4 w5 w6 w7 w8
 else
 none
 ) (
 agree (
 (Qd.f r7.2 (w7.length : Int)).bind fun r8 =>
 agree (
 if (0 : Int) ≤ r8.1 ∧ (r8.1 : Int) < w7.length then
 (Qd.f r8.2 12).bind fun r9 =>
 Ik16 n7 r9.2 p r7.1 ((w7.getD (r8.1 : Int).toNat (ByteArray.empty,(0,(0,(0,(0,(0,(0,(0,0))))))))).1) r9.1 w3 w4 w5 w6 w7 w8
 else
 none
 ) (
 agree (
 (Qd.f r8.2 12).bind fun r9 =>
 if (0 : Int) ≤ r8.1 ∧ (r8.1 : Int) < w7.length then
 Ik16 n7 r9.2 p r7.1 ((w7.getD (r8.1 : Int).toNat (ByteArray.empty,(0,(0,(0,(0,(0,(0,(0,0))))))))).1) r9.1 w3 w4 w5 w6 w7 w8
 else
 none
 ) (
 agree (
 if (0 : Int) ≤ r8.1 ∧ (r8.1 : Int) < w7.length then
 (Qd.f r8.2 12).bind fun r9 =>
 Ik16 n7 r9.2 p r7.1 ((w7.getD (r8.1 : Int).toNat (ByteArray.empty,(0,(0,(0,(0,(0,(0,(0,0))))))))).1) r9.1 w3 w4 w5 w6 w7 w8
 else
 none
 ) (
 (Qd.f r8.2 12).bind fun r9 =>
 if (0 : Int) ≤ r8.1 ∧ (r8.1 : Int) < w7.length then
 Ik16 n7 r9.2 p r7.1 ((w7.getD (r8.1 : Int).toNat (ByteArray.empty,(0,(0,(0,(0,(0,(0,(0,0))))))))).1) r9.1 w3 w4 w5 w6 w7 w8
 else
 none
 )
 )
 )
 ) (
 agree (
 (Qd.f r7.2 (w7.length : Int)).bind fun r8 =>
 if (0 : Int) ≤ r8.1 ∧ (r8.1 : Int) < w7.length then
 (Qd.f r8.2 12).bind fun r9 =>
 Ik16 n7 r9.2 p r7.1 ((w7.getD (r8.1 : Int).toNat (ByteArray.empty,(0,(0,(0,(0,(0,(0,(0,0))))))))).1) r9.1 w3 w4 w5 w6 w7 w8
 else
 none
 ) (
 (Qd.f r7.2 (w7.length : Int)).bind fun r8 =>
 agree (
 if (0 : Int) ≤ r8.1 ∧ (r8.1 : Int) < w7.length then
 (Qd.f r8.2 12).bind fun r9 =>
 Ik16 n7 r9.2 p r7.1 ((w7.getD (r8.1 : Int).toNat (ByteArray.empty,(0,(0,(0,(0,(0,(0,(0,0))))))))).1) r9.1 w3 w4 w5 w6 w7 w8
 else
 none
 ) (
 (Qd.f r8.2 12).bind fun r9 =>
 if (0 : Int) ≤ r8.1 ∧ (r8.1 : Int) < w7.length then
 Ik16 n7 r9.2 p r7.1 ((w7.getD (r8.1 : Int).toNat (ByteArray.empty,(0,(0,(0,(0,(0,(0,(0,0))))))))).1) r9.1 w3 w4 w5 w6 w7 w8
 else
 none
 )
 )
 )
 )
 ) (
 agree (
 (Qd.f s0 ((w6.getD (p : Int).toNat (0,0)).1)).bind fun r7 =>
 (Qd.f r7.2 (w7.length : Int)).bind fun r8 =>
 if (0 : Int) ≤ r8.1 ∧ (r8.1 : Int) < w7.length then
 (Qd.f r8.2 12).bind fun r9 =>
 Ik16 n7 r9.2 p r7.1 ((w7.getD (r8.1 : Int).toNat (ByteArray.empty,(0,(0,(0,(0,(0,(0,(0,0))))))))).1) r9.1 w3 w4 w5 w6 w7 w8
 else
 none
 ) (
 agree (
 (Qd.f s0 ((w6.getD (p : Int).toNat (0,0)).1)).bind fun r7 =>
 agree (
 (Qd.f r7.2 (w7.length : Int)).bind fun r8 =>
 if (0 : Int) ≤ r8.1 ∧ (r8.1 : Int) < w7.length then
 (Qd.f r8.2 12).bind fun r9 =>
 Ik16 n7 r9.2 p r7.1 ((w7.getD (r8.1 : Int).toNat (ByteArray.empty,(0,(0,(0,(0,(0,(0,(0,0))))))))).1) r9.1 w3 w4 w5 w6 w7 w8
 else
 none
 ) (
 (Qd.f r7.2 (w7.length : Int)).bind fun r8 =>
 agree (
 if (0 : Int) ≤ r8.1 ∧ (r8.1 : Int) < w7.length then
 (Qd.f r8.2 12).bind fun r9 =>
 Ik16 n7 r9.2 p r7.1 ((w7.getD (r8.1 : Int).toNat (ByteArray.empty,(0,(0,(0,(0,(0,(0,(0,0))))))))).1) r9.1 w3 w4 w5 w6 w7 w8
 else
 none
 ) (
 (Qd.f r8.2 12).bind fun r9 =>
 if (0 : Int) ≤ r8.1 ∧ (r8.1 : Int) < w7.length then
 Ik16 n7 r9.2 p r7.1 ((w7.getD (r8.1 : Int).toNat (ByteArray.empty,(0,(0,(0,(0,(0,(0,(0,0))))))))).1) r9.1 w3 w4 w5 w6 w7 w8
 else
 none
 )
 )
 ) (
 (Qd.f s0 ((w6.getD (p : Int).toNat (0,0)).1)).bind fun r7 =>
 (Qd.f r7.2 (w7.length : Int)).bind fun r8 =>
 if (0 : Int) ≤ r8.1 ∧ (r8.1 : Int) < w7.length then
 (Qd.f r8.2 12).bind fun r9 =>
 Ik16 n7 r9.2 p r7.1 ((w7.getD (r8.1 : Int).toNat (ByteArray.empty,(0,(0,(0,(0,(0,(0,(0,0))))))))).1) r9.1 w3 w4 w5 w6 w7 w8
 else
 none
 )
 )
 )
 ) (
 agree (
 (Qd.f s0 ((w6.getD (p : Int).toNat (0,0)).1)).bind fun r7 =>
 (Qd.f r7.2 (w7.length : Int)).bind fun r8 =>
 if (0 : Int) ≤ r8.1 ∧ (r8.1 : Int) < w7.length then
 (Qd.f r8.2 12).bind fun r9 =>
 Ik16 n7 r9.2 p r7.1 ((w7.getD (r8.1 : Int).toNat (ByteArray.empty,(0,(0,(0,(0,(0,(0,(0,0))))))))).1) r9.1 w3 w4 w5 w6 w7 w8
 else
 none
 ) (
 agree (
 agree (
 (Qd.f s0 ((w6.getD (p : Int).toNat (0,0)).1)).bind fun r7 =>
 agree (
 (Qd.f r7.2 (w7.length : Int)).bind fun r8 =>
 if (0 : Int) ≤ r8.1 ∧ (r8.1 : Int) < w7.length then
 (Qd.f r8.2 12).bind fun r9 =>
 Ik16 n7 r9.2 p r7.1 ((w7.getD (r8.1 : Int).toNat (ByteArray.empty,(0,(0,(0,(0,(0,(0,(0,0))))))))).1) r9.1 w3 w4 w5 w6 w7 w8
 else
 none
 ) (
 (Qd.f r7.2 (w7.length : Int)).bind fun r8 =>
 agree (
 if (0 : Int) ≤ r8.1 ∧ (r8.1 : Int) < w7.length then
 (Qd.f r8.2 12).bind fun r9 =>
 Ik16 n7 r9.2 p r7.1 ((w7.getD (r8.1 : Int).toNat (ByteArray.empty,(0,(0,(0,(0,(0,(0,(0,0))))))))).1) r9.1 w3 w4 w5 w6 w7 w8
 else
 none
 ) (
 (Qd.f r8.2 12).bind fun r9 =>
 if (0 : Int) ≤ r8.1 ∧ (r8.1 : Int) < w7.length then
 Ik16 n7 r9.2 p r7.1 ((w7.getD (r8.1 : Int).toNat (ByteArray.empty,(0,(0,(0,(0,(0,(0,(0,0))))))))).1) r9.1 w3 w4 w5 w6 w7 w8
 else
 none
 )
 )
 ) (
 (Qd.f s0 ((w6.getD (p : Int).toNat (0,0)).1)).bind fun r7 =>
 (Qd.f r7.2 (w7.length : Int)).bind fun r8 =>
 if (0 : Int) ≤ r8.1 ∧ (r8.1 : Int) < w7.length then
 (Qd.f r8.2 12).bind fun r9 =>
 Ik16 n7 r9.2 p r7.1 ((w7.getD (r8.1 : Int).toNat (ByteArray.empty,(0,(0,(0,(0,(0,(0,(0,0))))))))).1) r9.1 w3 w4 w5 w6 w7 w8
 else
 none
 )
 ) (
 (Qd.f s0 ((w6.getD (p : Int).toNat (0,0)).1)).bind fun r7 =>
 (Qd.f r7.2 (w7.length : Int)).bind fun r8 =>
 if (0 : Int) ≤ r8.1 ∧ (r8.1 : Int) < w7.length then
 (Qd.f r8.2 12).bind fun r9 =>
 Ik16 n7 r9.2 p r7.1 ((w7.getD (r8.1 : Int).toNat (ByteArray.empty,(0,(0,(0,(0,(0,(0,(0,0))))))))).1) r9.1 w3 w4 w5 w6 w7 w8
 else
 none
 )
 )
 )
 ) (
 agree (
 agree (
 (Qd.f s0 ((w6.getD (p : Int).toNat (0,0)).1)).bind fun r7 =>
 agree (
 (Qd.f r7.2 (w7.length : Int)).bind fun r8 =>
 if (0 : Int) ≤ r8.1 ∧ (r8.1 : Int) < w7.length then
 (Qd.f r8.2 12).bind fun r9 =>
 Ik16 n7 r9.2 p r7.1 ((w7.getD (r8.1 : Int).toNat (ByteArray.empty,(0,(0,(0,(0,(0,(0,(0,0))))))))).1) r9.1 w3 w4 w5 w6 w7 w8
 else
 none
 ) (
 agree (
 (Qd.f r7.2 (w7.length : Int)).bind fun r8 =>
 if (0 : Int) ≤ r8.1 ∧ (r8.1 : Int) < w7.length then
 (Qd.f r8.2 12).bind fun r9 =>
 Ik16 n7 r9.2 p r7.1 ((w7.getD (r8.1 : Int).toNat (ByteArray.empty,(0,(0,(0,(0,(0,(0,(0,0))))))))).1) r9.1 w3 w4 w5 w6 w7 w8
 else
 none
 ) (
 (Qd.f r7.2 (w7.length : Int)).bind fun r8 =>
 agree (
 if (0 : Int) ≤ r8.1 ∧ (r8.1 : Int) < w7.length then
 (Qd.f r8.2 12).bind fun r9 =>
 Ik16 n7 r9.2 p r7.1 ((w7.getD (r8.1 : Int).toNat (ByteArray.empty,(0,(0,(0,(0,(0,(0,(0,0))))))))).1) r9.1 w3 w4 w5 w6 w7 w8
 else
 none
 ) (
 (Qd.f r8.2 12).bind fun r9 =>
 if (0 : Int) ≤ r8.1 ∧ (r8.1 : Int) < w7.length then
 Ik16 n7 r9.2 p r7.1 ((w7.getD (r8.1 : Int).toNat (ByteArray.empty,(0,(0,(0,(0,(0,(0,(0,0))))))))).1) r9.1 w3 w4 w5 w6 w7 w8
 else
 none
 )
 )
 )
 ) (
 agree (
 (Qd.f s0 ((w6.getD (p : Int).toNat (0,0)).1)).bind fun r7 =>
 (Qd.f r7.2 (w7.length : Int)).bind fun r8 =>
 if (0 : Int) ≤ r8.1 ∧ (r8.1 : Int) < w7.length then
 (Qd.f r8.2 12).bind fun r9 =>
 Ik16 n7 r9.2 p r7.1 ((w7.getD (r8.1 : Int).toNat (ByteArray.empty,(0,(0,(0,(0,(0,(0,(0,0))))))))).1) r9.1 w3 w4 w5 w6 w7 w8
 else
 none
 ) (
 agree (
 (Qd.f s0 ((w6.getD (p : Int).toNat (0,0)).1)).bind fun r7 =>
 agree (
 (Qd.f r7.2 (w7.length : Int)).bind fun r8 =>
 if (0 : Int) ≤ r8.1 ∧ (r8.1 : Int) < w7.length then
 (Qd.f r8.2 12).bind fun r9 =>
 Ik16 n7 r9.2 p r7.1 ((w7.getD (r8.1 : Int).toNat (ByteArray.empty,(0,(0,(0,(0,(0,(0,(0,0))))))))).1) r9.1 w3 w4 w5 w6 w7 w8
 else
 none
 ) (
 (Qd.f r7.2 (w7.length : Int)).bind fun r8 =>
 agree (
 if (0 : Int) ≤ r8.1 ∧ (r8.1 : Int) < w7.length then
 (Qd.f r8.2 12).bind fun r9 =>
 Ik16 n7 r9.2 p r7.1 ((w7.getD (r8.1 : Int).toNat (ByteArray.empty,(0,(0,(0,(0,(0,(0,(0,0))))))))).1) r9.1 w3 w4 w5 w6 w7 w8
 else
 none
 ) (
 (Qd.f r8.2 12).bind fun r9 =>
 if (0 : Int) ≤ r8.1 ∧ (r8.1 : Int) < w7.length then
 Ik16 n7 r9.2 p r7.1 ((w7.getD (r8.1 : Int).toNat (ByteArray.empty,(0,(0,(0,(0,(0,(0,(0,0))))))))).1) r9.1 w3 w4 w5 w6 w7 w8
 else
 none
 )
 )
 ) (
 (Qd.f s0 ((w6.getD (p : Int).toNat (0,0)).1)).bind fun r7 =>
 (Qd.f r7.2 (w7.length : Int)).bind fun r8 =>
 if (0 : Int) ≤ r8.1 ∧ (r8.1 : Int) < w7.length then
 (Qd.f r8.2 12).bind fun r9 =>
 Ik16 n7 r9.2 p r7.1 ((w7.getD (r8.1 : Int).toNat (ByteArray.empty,(0,(0,(0,(0,(0,(0,(0,0))))))))).1) r9.1 w3 w4 w5 w6 w7 w8
 else
 none
 )
 )
 )
 ) (
 agree (
 (Qd.f s0 ((w6.getD (p : Int).toNat (0,0)).1)).bind fun r7 =>
 (Qd.f r7.2 (w7.length : Int)).bind fun r8 =>
 if (0 : Int) ≤ r8.1 ∧ (r8.1 : Int) < w7.length then
 (Qd.f r8.2 12).bind fun r9 =>
 Ik16 n7 r9.2 p r7.1 ((w7.getD (r8.1 : Int).toNat (ByteArray.empty,(0,(0,(0,(0,(0,(0,(0,0))))))))).1) r9.1 w3 w4 w5 w6 w7 w8
 else
 none
 ) (
 agree (
 agree (
 (Qd.f s0 ((w6.getD (p : Int).toNat (0,0)).1)).bind fun r7 =>
 agree (
 (Qd.f r7.2 (w7.length : Int)).bind fun r8 =>
 if (0 : Int) ≤ r8.1 ∧ (r8.1 : Int) < w7.length then
 (Qd.f r8.2 12).bind fun r9 =>
 Ik16 n7 r9.2 p r7.1 ((w7.getD (r8.1 : Int).toNat (ByteArray.empty,(0,(0,(0,(0,(0,(0,(0,0))))))))).1) r9.1 w3 w4 w5 w6 w7 w8
 else
 none
 ) (
 (Qd.f r7.2 (w7.length : Int)).bind fun r8 =>
 agree (
 if (0 : Int) ≤ r8.1 ∧ (r8.1 : Int) < w7.length then
 (Qd.f r8.2 12).bind fun r9 =>
 Ik16 n7 r9.2 p r7.1 ((w7.getD (r8.1 : Int).toNat (ByteArray.empty,(0,(0,(0,(0,(0,(0,(0,0))))))))).1) r9.1 w3 w4 w5 w6 w7 w8
 else
 none
 ) (
 (Qd.f r8.2 12).bind fun r9 =>
 if (0 : Int) ≤ r8.1 ∧ (r8.1 : Int) < w7.length then
 Ik16 n7 r9.2 p r7.1 ((w7.getD (r8.1 : Int).toNat (ByteArray.empty,(0,(0,(0,(0,(0,(0,(0,0))))))))).1) r9.1 w3 w4 w5 w6 w7 w8
 else
 none
 )
 )
 ) (
 (Qd.f s0 ((w6.getD (p : Int).toNat (0,0)).1)).bind fun r7 =>
 (Qd.f r7.2 (w7.length : Int)).bind fun r8 =>
 if (0 : Int) ≤ r8.1 ∧ (r8.1 : Int) < w7.length then
 (Qd.f r8.2 12).bind fun r9 =>
 Ik16 n7 r9.2 p r7.1 ((w7.getD (r8.1 : Int).toNat (ByteArray.empty,(0,(0,(0,(0,(0,(0,(0,0))))))))).1) r9.1 w3 w4 w5 w6 w7 w8
 else
 none
 )
 ) (
 (Qd.f s0 ((w6.getD (p : Int).toNat (0,0)).1)).bind fun r7 =>
 (Qd.f r7.2 (w7.length : Int)).bind fun r8 =>
 if (0 : Int) ≤ r8.1 ∧ (r8.1 : Int) < w7.length then
 (Qd.f r8.2 12).bind fun r9 =>
 Ik16 n7 r9.2 p r7.1 ((w7.getD (r8.1 : Int).toNat (ByteArray.empty,(0,(0,(0,(0,(0,(0,(0,0))))))))).1) r9.1 w3 w4 w5 w6 w7 w8
 else
 none
 )
 )
 )
 )
 )
 )
 else
 none
 ) (
 agree (
 if (0 : Int) ≤ p ∧ (p : Int) < w6.length then
 (Qd.f s0 ((w6.getD (p : Int).toNat (0,0)).1)).bind fun r7 =>
 (Qd.f r7.2 (w7.length : Int)).bind fun r8 =>
 if (0 : Int) ≤ r8.1 ∧ (r8.1 : Int) < w7.length then
 (Qd.f r8.2 12).bind fun r9 =>
 Ik16 n7 r9.2 p r7.1 ((w7.getD (r8.1 : Int).toNat (ByteArray.empty,(0,(0,(0,(0,(0,(0,(0,0))))))))).1) r9.1 w3 w4 w5 w6 w7 w8
 else
 none
 else
 none
 ) (
 agree (
 agree (
 if (0 : Int) ≤ p ∧ (p : Int) < w6.length then
 agree (
 agree (
 (Qd.f s0 ((w6.getD (p : Int).toNat (0,0)).1)).bind fun r7 =>
 agree (
 (Qd.f r7.2 (w7.length : Int)).bind fun r8 =>
 if (0 : Int) ≤ r8.1 ∧ (r8.1 : Int) < w7.length then
 (Qd.f r8.2 12).bind fun r9 =>
 Ik16 n7 r9.2 p r7.1 ((w7.getD (r8.1 : Int).toNat (ByteArray.empty,(0,(0,(0,(0,(0,(0,(0,0))))))))).1) r9.1 w3 w4 w5 w6 w7 w8
 else
 none
 ) (
 agree (
 (Qd.f r7.2 (w7.length : Int)).bind fun r8 =>
 agree (
 if (0 : Int) ≤ r8.1 ∧ (r8.1 : Int) < w7.length then
 (Qd.f r8.2 12).bind fun r9 =>
 Ik16 n7 r9.2 p r7.1 ((w7.getD (r8.1 : Int).toNat (ByteArray.empty,(0,(0,(0,(0,(0,(0,(0,0))))))))).1) r9.1 w3 w4 w5 w6 w7 w8
 else
 none
 ) (
 agree (
 (Qd.f r8.2 12).bind fun r9 =>
 if (0 : Int) ≤ r8.1 ∧ (r8.1 : Int) < w7.length then
 Ik16 n7 r9.2 p r7.1 ((w7.getD (r8.1 : Int).toNat (ByteArray.empty,(0,(0,(0,(0,(0,(0,(0,0))))))))).1) r9.1 w3 w4 w5 w6 w7 w8
 else
 none
 ) (
 agree (
 if (0 : Int) ≤ r8.1 ∧ (r8.1 : Int) < w7.length then
 (Qd.f r8.2 12).bind fun r9 =>
 Ik16 n7 r9.2 p r7.1 ((w7.getD (r8.1 : Int).toNat (ByteArray.empty,(0,(0,(0,(0,(0,(0,(0,0))))))))).1) r9.1 w3 w4 w5 w6 w7 w8
 else
 none
 ) (
 (Qd.f r8.2 12).bind fun r9 =>
 if (0 : Int) ≤ r8.1 ∧ (r8.1 : Int) < w7.length then
 Ik16 n7 r9.2 p r7.1 ((w7.getD (r8.1 : Int).toNat (ByteArray.empty,(0,(0,(0,(0,(0,(0,(0,0))))))))).1) r9.1 w3 w4 w5 w6 w7 w8
 else
 none
 )
 )
 )
 ) (
 agree (
 (Qd.f r7.2 (w7.length : Int)).bind fun r8 =>
 if (0 : Int) ≤ r8.1 ∧ (r8.1 : Int) < w7.length then
 (Qd.f r8.2 12).bind fun r9 =>
 Ik16 n7 r9.2 p r7.1 ((w7.getD (r8.1 : Int).toNat (ByteArray.empty,(0,(0,(0,(0,(0,(0,(0,0))))))))).1) r9.1 w3 w4 w5 w6 w7 w8
 else
 none
 ) (
 (Qd.f r7.2 (w7.length : Int)).bind fun r8 =>
 agree (
 if (0 : Int) ≤ r8.1 ∧ (r8.1 : Int) < w7.length then
 (Qd.f r8.2 12).bind fun r9 =>
 Ik16 n7 r9.2 p r7.1 ((w7.getD (r8.1 : Int).toNat (ByteArray.empty,(0,(0,(0,(0,(0,(0,(0,0))))))))).1) r9.1 w3 w4 w5 w6 w7 w8
 else
 none
 ) (
 (Qd.f r8.2 12).bind fun r9 =>
 if (0 : Int) ≤ r8.1 ∧ (r8.1 : Int) < w7.length then
 Ik16 n7 r9.2 p r7.1 ((w7.getD (r8.1 : Int).toNat (ByteArray.empty,(0,(0,(0,(0,(0,(0,(0,0))))))))).1) r9.1 w3 w4 w5 w6 w7 w8
 else
 none
 )
 )
 )
 )
 ) (
 agree (
 (Qd.f s0 ((w6.getD (p : Int).toNat (0,0)).1)).bind fun r7 =>
 (Qd.f r7.2 (w7.length : Int)).bind fun r8 =>
 if (0 : Int) ≤ r8.1 ∧ (r8.1 : Int) < w7.length then
 (Qd.f r8.2 12).bind fun r9 =>
 Ik16 n7 r9.2 p r7.1 ((w7.getD (r8.1 : Int).toNat (ByteArray.empty,(0,(0,(0,(0,(0,(0,(0,0))))))))).1) r9.1 w3 w4 w5 w6 w7 w8
 else
 none
 ) (
 agree (
 (Qd.f s0 ((w6.getD (p : Int).toNat (0,0)).1)).bind fun r7 =>
 agree (
 (Qd.f r7.2 (w7.length : Int)).bind fun r8 =>
 if (0 : Int) ≤ r8.1 ∧ (r8.1 : Int) < w7.length then
 (Qd.f r8.2 12).bind fun r9 =>
 Ik16 n7 r9.2 p r7.1 ((w7.getD (r8.1 : Int).toNat (ByteArray.empty,(0,(0,(0,(0,(0,(0,(0,0))))))))).1) r9.1 w3 w4 w5 w6 w7 w8
 else
 none
 ) (
 (Qd.f r7.2 (w7.length : Int)).bind fun r8 =>
 agree (
 if (0 : Int) ≤ r8.1 ∧ (r8.1 : Int) < w7.length then
 (Qd.f r8.2 12).bind fun r9 =>
 Ik16 n7 r9.2 p r7.1 ((w7.getD (r8.1 : Int).toNat (ByteArray.empty,(0,(0,(0,(0,(0,(0,(0,0))))))))).1) r9.1 w3 w4 w5 w6 w7 w8
 else
 none
 ) (
 (Qd.f r8.2 12).bind fun r9 =>
 if (0 : Int) ≤ r8.1 ∧ (r8.1 : Int) < w7.length then
 Ik16 n7 r9.2 p r7.1 ((w7.getD (r8.1 : Int).toNat (ByteArray.empty,(0,(0,(0,(0,(0,(0,(0,0))))))))).1) r9.1 w3 w4 w5 w6 w7 w8
 else
 none
 )
 )
 ) (
 (Qd.f s0 ((w6.getD (p : Int).toNat (0,0)).1)).bind fun r7 =>
 (Qd.f r7.2 (w7.length : Int)).bind fun r8 =>
 if (0 : Int) ≤ r8.1 ∧ (r8.1 : Int) < w7.length then
 (Qd.f r8.2 12).bind fun r9 =>
 Ik16 n7 r9.2 p r7.1 ((w7.getD (r8.1 : Int).toNat (ByteArray.empty,(0,(0,(0,(0,(0,(0,(0,0))))))))).1) r9.1 w3 w4 w5 w6 w7 w8
 else
 none
 )
 )
 )
 ) (
 agree (
 (Qd.f s0 ((w6.getD (p : Int).toNat (0,0)).1)).bind fun r7 =>
 (Qd.f r7.2 (w7.length : Int)).bind fun r8 =>
 if (0 : Int) ≤ r8.1 ∧ (r8.1 : Int) < w7.length then
 (Qd.f r8.2 12).bind fun r9 =>
 Ik16 n7 r9.2 p r7.1 ((w7.getD (r8.1 : Int).toNat (ByteArray.empty,(0,(0,(0,(0,(0,(0,(0,0))))))))).1) r9.1 w3 w4 w5 w6 w7 w8
 else
 none
 ) (
 agree (
 agree (
 (Qd.f s0 ((w6.getD (p : Int).toNat (0,0)).1)).bind fun r7 =>
 agree (
 (Qd.f r7.2 (w7.length : Int)).bind fun r8 =>
 if (0 : Int) ≤ r8.1 ∧ (r8.1 : Int) < w7.length then
 (Qd.f r8.2 12).bind fun r9 =>
 Ik16 n7 r9.2 p r7.1 ((w7.getD (r8.1 : Int).toNat (ByteArray.empty,(0,(0,(0,(0,(0,(0,(0,0))))))))).1) r9.1 w3 w4 w5 w6 w7 w8
 else
 none
 ) (
 (Qd.f r7.2 (w7.length : Int)).bind fun r8 =>
 agree (
 if (0 : Int) ≤ r8.1 ∧ (r8.1 : Int) < w7.length then
 (Qd.f r8.2 12).bind fun r9 =>
 Ik16 n7 r9.2 p r7.1 ((w7.getD (r8.1 : Int).toNat (ByteArray.empty,(0,(0,(0,(0,(0,(0,(0,0))))))))).1) r9.1 w3 w4 w5 w6 w7 w8
 else
 none
 ) (
 (Qd.f r8.2 12).bind fun r9 =>
 if (0 : Int) ≤ r8.1 ∧ (r8.1 : Int) < w7.length then
 Ik16 n7 r9.2 p r7.1 ((w7.getD (r8.1 : Int).toNat (ByteArray.empty,(0,(0,(0,(0,(0,(0,(0,0))))))))).1) r9.1 w3 w4 w5 w6 w7 w8
 else
 none
 )
 )
 ) (
 (Qd.f s0 ((w6.getD (p : Int).toNat (0,0)).1)).bind fun r7 =>
 (Qd.f r7.2 (w7.length : Int)).bind fun r8 =>
 if (0 : Int) ≤ r8.1 ∧ (r8.1 : Int) < w7.length then
 (Qd.f r8.2 12).bind fun r9 =>
 Ik16 n7 r9.2 p r7.1 ((w7.getD (r8.1 : Int).toNat (ByteArray.empty,(0,(0,(0,(0,(0,(0,(0,0))))))))).1) r9.1 w3 w4 w5 w6 w7 w8
 else
 none
 )
 ) (
 (Qd.f s0 ((w6.getD (p : Int).toNat (0,0)).1)).bind fun r7 =>
 (Qd.f r7.2 (w7.length : Int)).bind fun r8 =>
 if (0 : Int) ≤ r8.1 ∧ (r8.1 : Int) < w7.length then
 (Qd.f r8.2 12).bind fun r9 =>
 Ik16 n7 r9.2 p r7.1 ((w7.getD (r8.1 : Int).toNat (ByteArray.empty,(0,(0,(0,(0,(0,(0,(0,0))))))))).1) r9.1 w3 w4 w5 w6 w7 w8
 else
 none
 )
 )
 )
 else
 none
 ) (
 agree (
 if (0 : Int) ≤ p ∧ (p : Int) < w6.length then
 (Qd.f s0 ((w6.getD (p : Int).toNat (0,0)).1)).bind fun r7 =>
 (Qd.f r7.2 (w7.length : Int)).bind fun r8 =>
 if (0 : Int) ≤ r8.1 ∧ (r8.1 : Int) < w7.length then
 (Qd.f r8.2 12).bind fun r9 =>
 Ik16 n7 r9.2 p r7.1 ((w7.getD (r8.1 : Int).toNat (ByteArray.empty,(0,(0,(0,(0,(0,(0,(0,0))))))))).1) r9.1 w3 w4 w5 w6 w7 w8
 else
 none
 else
 none
 ) (
 agree (
 if (0 : Int) ≤ p ∧ (p : Int) < w6.length then
 agree (
 agree (
 (Qd.f s0 ((w6.getD (p : Int).toNat (0,0)).1)).bind fun r7 =>
 agree (
 (Qd.f r7.2 (w7.length : Int)).bind fun r8 =>
 if (0 : Int) ≤ r8.1 ∧ (r8.1 : Int) < w7.length then
 (Qd.f r8.2 12).bind fun r9 =>
 Ik16 n7 r9.2 p r7.1 ((w7.getD (r8.1 : Int).toNat (ByteArray.empty,(0,(0,(0,(0,(0,(0,(0,0))))))))).1) r9.1 w3 w4 w5 w6 w7 w8
 else
 none
 ) (
 (Qd.f r7.2 (w7.length : Int)).bind fun r8 =>
 agree (
 if (0 : Int) ≤ r8.1 ∧ (r8.1 : Int) < w7.length then
 (Qd.f r8.2 12).bind fun r9 =>
 Ik16 n7 r9.2 p r7.1 ((w7.getD (r8.1 : Int).toNat (ByteArray.empty,(0,(0,(0,(0,(0,(0,(0,0))))))))).1) r9.1 w3 w4 w5 w6 w7 w8
 else
 none
 ) (
 (Qd.f r8.2 12).bind fun r9 =>
 if (0 : Int) ≤ r8.1 ∧ (r8.1 : Int) < w7.length then
 Ik16 n7 r9.2 p r7.1 ((w7.getD (r8.1 : Int).toNat (ByteArray.empty,(0,(0,(0,(0,(0,(0,(0,0))))))))).1) r9.1 w3 w4 w5 w6 w7 w8
 else
 none
 )
 )
 ) (
 (Qd.f s0 ((w6.getD (p : Int).toNat (0,0)).1)).bind fun r7 =>
 (Qd.f r7.2 (w7.length : Int)).bind fun r8 =>
 if (0 : Int) ≤ r8.1 ∧ (r8.1 : Int) < w7.length then
 (Qd.f r8.2 12).bind fun r9 =>
 Ik16 n7 r9.2 p r7.1 ((w7.getD (r8.1 : Int).toNat (ByteArray.empty,(0,(0,(0,(0,(0,(0,(0,0))))))))).1) r9.1 w3 w4 w5 w6 w7 w8
 else
 none
 )
 ) (
 (Qd.f s0 ((w6.getD (p : Int).toNat (0,0)).1)).bind fun r7 =>
 (Qd.f r7.2 (w7.length : Int)).bind fun r8 =>
 if (0 : Int) ≤ r8.1 ∧ (r8.1 : Int) < w7.length then
 (Qd.f r8.2 12).bind fun r9 =>
 Ik16 n7 r9.2 p r7.1 ((w7.getD (r8.1 : Int).toNat (ByteArray.empty,(0,(0,(0,(0,(0,(0,(0,0))))))))).1) r9.1 w3 w4 w5 w6 w7 w8
 else
 none
 )
 else
 none
 ) (
 if (0 : Int) ≤ p ∧ (p : Int) < w6.length then
 (Qd.f s0 ((w6.getD (p : Int).toNat (0,0)).1)).bind fun r7 =>
 (Qd.f r7.2 (w7.length : Int)).bind fun r8 =>
 if (0 : Int) ≤ r8.1 ∧ (r8.1 : Int) < w7.length then
 (Qd.f r8.2 12).bind fun r9 =>
 Ik16 n7 r9.2 p r7.1 ((w7.getD (r8.1 : Int).toNat (ByteArray.empty,(0,(0,(0,(0,(0,(0,(0,0))))))))).1) r9.1 w3 w4 w5 w6 w7 w8
 else
 none
 else
 none
 )
 )
 )
 ) (
 agree (
 if (0 : Int) ≤ p ∧ (p : Int) < w6.length then
 agree (
 agree (
 (Qd.f s0 ((w6.getD (p : Int).toNat (0,0)).1)).bind fun r7 =>
 agree (
 (Qd.f r7.2 (w7.length : Int)).bind fun r8 =>
 if (0 : Int) ≤ r8.1 ∧ (r8.1 : Int) < w7.length then
 (Qd.f r8.2 12).bind fun r9 =>
 Ik16 n7 r9.2 p r7.1 ((w7.getD (r8.1 : Int).toNat (ByteArray.empty,(0,(0,(0,(0,(0,(0,(0,0))))))))).1) r9.1 w3 w4 w5 w6 w7 w8
 else
 none
 ) (
 agree (
 (Qd.f r7.2 (w7.length : Int)).bind fun r8 =>
 if (0 : Int) ≤ r8.1 ∧ (r8.1 : Int) < w7.length then
 (Qd.f r8.2 12).bind fun r9 =>
 Ik16 n7 r9.2 p r7.1 ((w7.getD (r8.1 : Int).toNat (ByteArray.empty,(0,(0,(0,(0,(0,(0,(0,0))))))))).1) r9.1 w3 w4 w5 w6 w7 w8
 else
 none
 ) (
 (Qd.f r7.2 (w7.length : Int)).bind fun r8 =>
 agree (
 if (0 : Int) ≤ r8.1 ∧ (r8.1 : Int) < w7.length then
 (Qd.f r8.2 12).bind fun r9 =>
 Ik16 n7 r9.2 p r7.1 ((w7.getD (r8.1 : Int).toNat (ByteArray.empty,(0,(0,(0,(0,(0,(0,(0,0))))))))).1) r9.1 w3 w4 w5 w6 w7 w8
 else
 none
 ) (
 (Qd.f r8.2 12).bind fun r9 =>
 if (0 : Int) ≤ r8.1 ∧ (r8.1 : Int) < w7.length then
 Ik16 n7 r9.2 p r7.1 ((w7.getD (r8.1 : Int).toNat (ByteArray.empty,(0,(0,(0,(0,(0,(0,(0,0))))))))).1) r9.1 w3 w4 w5 w6 w7 w8
 else
 none
 )
 )
 )
 ) (
 agree (
 (Qd.f s0 ((w6.getD (p : Int).toNat (0,0)).1)).bind fun r7 =>
 (Qd.f r7.2 (w7.length : Int)).bind fun r8 =>
 if (0 : Int) ≤ r8.1 ∧ (r8.1 : Int) < w7.length then
 (Qd.f r8.2 12).bind fun r9 =>
 Ik16 n7 r9.2 p r7.1 ((w7.getD (r8.1 : Int).toNat (ByteArray.empty,(0,(0,(0,(0,(0,(0,(0,0))))))))).1) r9.1 w3 w4 w5 w6 w7 w8
 else
 none
 ) (
 agree (
 (Qd.f s0 ((w6.getD (p : Int).toNat (0,0)).1)).bind fun r7 =>
 agree (
 (Qd.f r7.2 (w7.length : Int)).bind fun r8 =>
 if (0 : Int) ≤ r8.1 ∧ (r8.1 : Int) < w7.length then
 (Qd.f r8.2 12).bind fun r9 =>
 Ik16 n7 r9.2 p r7.1 ((w7.getD (r8.1 : Int).toNat (ByteArray.empty,(0,(0,(0,(0,(0,(0,(0,0))))))))).1) r9.1 w3 w4 w5 w6 w7 w8
 else
 none
 ) (
 (Qd.f r7.2 (w7.length : Int)).bind fun r8 =>
 agree (
 if (0 : Int) ≤ r8.1 ∧ (r8.1 : Int) < w7.length then
 (Qd.f r8.2 12).bind fun r9 =>
 Ik16 n7 r9.2 p r7.1 ((w7.getD (r8.1 : Int).toNat (ByteArray.empty,(0,(0,(0,(0,(0,(0,(0,0))))))))).1) r9.1 w3 w4 w5 w6 w7 w8
 else
 none
 ) (
 (Qd.f r8.2 12).bind fun r9 =>
 if (0 : Int) ≤ r8.1 ∧ (r8.1 : Int) < w7.length then
 Ik16 n7 r9.2 p r7.1 ((w7.getD (r8.1 : Int).toNat (ByteArray.empty,(0,(0,(0,(0,(0,(0,(0,0))))))))).1) r9.1 w3 w4 w5 w6 w7 w8
 else
 none
 )
 )
 ) (
 (Qd.f s0 ((w6.getD (p : Int).toNat (0,0)).1)).bind fun r7 =>
 (Qd.f r7.2 (w7.length : Int)).bind fun r8 =>
 if (0 : Int) ≤ r8.1 ∧ (r8.1 : Int) < w7.length then
 (Qd.f r8.2 12).bind fun r9 =>
 Ik16 n7 r9.2 p r7.1 ((w7.getD (r8.1 : Int).toNat (ByteArray.empty,(0,(0,(0,(0,(0,(0,(0,0))))))))).1) r9.1 w3 w4 w5 w6 w7 w8
 else
 none
 )
 )
 )
 ) (
 agree (
 (Qd.f s0 ((w6.getD (p : Int).toNat (0,0)).1)).bind fun r7 =>
 (Qd.f r7.2 (w7.length : Int)).bind fun r8 =>
 if (0 : Int) ≤ r8.1 ∧ (r8.1 : Int) < w7.length then
 (Qd.f r8.2 12).bind fun r9 =>
 Ik16 n7 r9.2 p r7.1 ((w7.getD (r8.1 : Int).toNat (ByteArray.empty,(0,(0,(0,(0,(0,(0,(0,0))))))))).1) r9.1 w3 w4 w5 w6 w7 w8
 else
 none
 ) (
 agree (
 agree (
 (Qd.f s0 ((w6.getD (p : Int).toNat (0,0)).1)).bind fun r7 =>
 agree (
 (Qd.f r7.2 (w7.length : Int)).bind fun r8 =>
 if (0 : Int) ≤ r8.1 ∧ (r8.1 : Int) < w7.length then
 (Qd.f r8.2 12).bind fun r9 =>
 Ik16 n7 r9.2 p r7.1 ((w7.getD (r8.1 : Int).toNat (ByteArray.empty,(0,(0,(0,(0,(0,(0,(0,0))))))))).1) r9.1 w3 w4 w5 w6 w7 w8
 else
 none
 ) (
 (Qd.f r7.2 (w7.length : Int)).bind fun r8 =>
 agree (
 if (0 : Int) ≤ r8.1 ∧ (r8.1 : Int) < w7.length then
 (Qd.f r8.2 12).bind fun r9 =>
 Ik16 n7 r9.2 p r7.1 ((w7.getD (r8.1 : Int).toNat (ByteArray.empty,(0,(0,(0,(0,(0,(0,(0,0))))))))).1) r9.1 w3 w4 w5 w6 w7 w8
 else
 none
 ) (
 (Qd.f r8.2 12).bind fun r9 =>
 if (0 : Int) ≤ r8.1 ∧ (r8.1 : Int) < w7.length then
 Ik16 n7 r9.2 p r7.1 ((w7.getD (r8.1 : Int).toNat (ByteArray.empty,(0,(0,(0,(0,(0,(0,(0,0))))))))).1) r9.1 w3 w4 w5 w6 w7 w8
 else
 none
 )
 )
 ) (
 (Qd.f s0 ((w6.getD (p : Int).toNat (0,0)).1)).bind fun r7 =>
 (Qd.f r7.2 (w7.length : Int)).bind fun r8 =>
 if (0 : Int) ≤ r8.1 ∧ (r8.1 : Int) < w7.length then
 (Qd.f r8.2 12).bind fun r9 =>
 Ik16 n7 r9.2 p r7.1 ((w7.getD (r8.1 : Int).toNat (ByteArray.empty,(0,(0,(0,(0,(0,(0,(0,0))))))))).1) r9.1 w3 w4 w5 w6 w7 w8
 else
 none
 )
 ) (
 (Qd.f s0 ((w6.getD (p : Int).toNat (0,0)).1)).bind fun r7 =>
 (Qd.f r7.2 (w7.length : Int)).bind fun r8 =>
 if (0 : Int) ≤ r8.1 ∧ (r8.1 : Int) < w7.length then
 (Qd.f r8.2 12).bind fun r9 =>
 Ik16 n7 r9.2 p r7.1 ((w7.getD (r8.1 : Int).toNat (ByteArray.empty,(0,(0,(0,(0,(0,(0,(0,0))))))))).1) r9.1 w3 w4 w5 w6 w7 w8
 else
 none
 )
 )
 )
 else
 none
 ) (
 agree (
 if (0 : Int) ≤ p ∧ (p : Int) < w6.length then
 (Qd.f s0 ((w6.getD (p : Int).toNat (0,0)).1)).bind fun r7 =>
 (Qd.f r7.2 (w7.length : Int)).bind fun r8 =>
 if (0 : Int) ≤ r8.1 ∧ (r8.1 : Int) < w7.length then
 (Qd.f r8.2 12).bind fun r9 =>
 Ik16 n7 r9.2 p r7.1 ((w7.getD (r8.1 : Int).toNat (ByteArray.empty,(0,(0,(0,(0,(0,(0,(0,0))))))))).1) r9.1 w3 w4 w5 w6 w7 w8
 else
 none
 else
 none
 ) (
 agree (
 if (0 : Int) ≤ p ∧ (p : Int) < w6.length then
 agree (
 agree (
 (Qd.f s0 ((w6.getD (p : Int).toNat (0,0)).1)).bind fun r7 =>
 agree (
 (Qd.f r7.2 (w7.length : Int)).bind fun r8 =>
 if (0 : Int) ≤ r8.1 ∧ (r8.1 : Int) < w7.length then
 (Qd.f r8.2 12).bind fun r9 =>
 Ik16 n7 r9.2 p r7.1 ((w7.getD (r8.1 : Int).toNat (ByteArray.empty,(0,(0,(0,(0,(0,(0,(0,0))))))))).1) r9.1 w3 w4 w5 w6 w7 w8
 else
 none
 ) (
 (Qd.f r7.2 (w7.length : Int)).bind fun r8 =>
 agree (
 if (0 : Int) ≤ r8.1 ∧ (r8.1 : Int) < w7.length then
 (Qd.f r8.2 12).bind fun r9 =>
 Ik16 n7 r9.2 p r7.1 ((w7.getD (r8.1 : Int).toNat (ByteArray.empty,(0,(0,(0,(0,(0,(0,(0,0))))))))).1) r9.1 w3 w4 w5 w6 w7 w8
 else
 none
 ) (
 (Qd.f r8.2 12).bind fun r9 =>
 if (0 : Int) ≤ r8.1 ∧ (r8.1 : Int) < w7.length then
 Ik16 n7 r9.2 p r7.1 ((w7.getD (r8.1 : Int).toNat (ByteArray.empty,(0,(0,(0,(0,(0,(0,(0,0))))))))).1) r9.1 w3 w4 w5 w6 w7 w8
 else
 none
 )
 )
 ) (
 (Qd.f s0 ((w6.getD (p : Int).toNat (0,0)).1)).bind fun r7 =>
 (Qd.f r7.2 (w7.length : Int)).bind fun r8 =>
 if (0 : Int) ≤ r8.1 ∧ (r8.1 : Int) < w7.length then
 (Qd.f r8.2 12).bind fun r9 =>
 Ik16 n7 r9.2 p r7.1 ((w7.getD (r8.1 : Int).toNat (ByteArray.empty,(0,(0,(0,(0,(0,(0,(0,0))))))))).1) r9.1 w3 w4 w5 w6 w7 w8
 else
 none
 )
 ) (
 (Qd.f s0 ((w6.getD (p : Int).toNat (0,0)).1)).bind fun r7 =>
 (Qd.f r7.2 (w7.length : Int)).bind fun r8 =>
 if (0 : Int) ≤ r8.1 ∧ (r8.1 : Int) < w7.length then
 (Qd.f r8.2 12).bind fun r9 =>
 Ik16 n7 r9.2 p r7.1 ((w7.getD (r8.1 : Int).toNat (ByteArray.empty,(0,(0,(0,(0,(0,(0,(0,0))))))))).1) r9.1 w3 w4 w5 w6 w7 w8
 else
 none
 )
 else
 none
 ) (
 if (0 : Int) ≤ p ∧ (p : Int) < w6.length then
 (Qd.f s0 ((w6.getD (p : Int).toNat (0,0)).1)).bind fun r7 =>
 (Qd.f r7.2 (w7.length : Int)).bind fun r8 =>
 if (0 : Int) ≤ r8.1 ∧ (r8.1 : Int) < w7.length then
 (Qd.f r8.2 12).bind fun r9 =>
 Ik16 n7 r9.2 p r7.1 ((w7.getD (r8.1 : Int).toNat (ByteArray.empty,(0,(0,(0,(0,(0,(0,(0,0))))))))).1) r9.1 w3 w4 w5 w6 w7 w8
 else
 none
 else
 none
 )
 )
 )
 )
 )
 )
def Qe.lk15 (n : Nat) (L12 : YAA) : Nat → Int → Int → YK → YF → YG → YM → YF → YG → YM → Option YI
 | 0 => fun _ _ _ _ _ _ _ _ _ => none
 | k + 1 => Qe.gk15 (Qe.lk16 n L12 n) L12 (Qe.lk15 n L12 k)
theorem Qe.ck15 {n : Nat} (h : 0 < n) (L12 : YAA) : Qe.lk15 n L12 n = Qe.gk15 (Qe.lk16 n L12 n) L12 (Qe.lk15 n L12 (n - 1)) := by
  cases n with
  | zero => exact absurd h (Nat.lt_irrefl 0)
  | succ n => rfl
def Qe.g12 (Ik15 : YAP) (L12 : YAA) (n7 : Int) (s0 : List Int × Int × Int) (w3 : List YC) (w4 : List YA) (w5 : List YB) (w6 : List YC) (w7 : List YA) (w8 : List YB) : Option YI :=
 if (decide ((0 : Int) < n7)) = true then
 if (decide ((0 : Int) < (w7.length : Int))) = true then
 (Qd.f s0 (w6.length : Int)).bind fun r6 =>
 Ik15 n7 r6.1 r6.2 w3 w4 w5 w6 w7 w8
 else
 some ((w6,(w7,w8)),s0)
 else
 some ((w6,(w7,w8)),s0)
def Qe.l12 (n : Nat) : Nat → Int → YK → YF → YG → YM → YF → YG → YM → Option YI
 | 0 => fun _ _ _ _ _ _ _ _ => none
 | k + 1 => Qe.g12 (Qe.lk15 n (Qe.l12 n k) n) (Qe.l12 n k)
def Qe.g4 (I12 : YAA) (L4 : Int → YK → List ByteArray → YF → YG → YM → YF → YG → YM → Option YI) (i5 : Int) (s0 : List Int × Int × Int) (q : List ByteArray) (w4 : List YC) (w5 : List YA) (w6 : List YB) (w7 : List YC) (w8 : List YA) (w9 : List YB) : Option YI :=
 if (decide ((i5 : Int) < (q.length : Int))) = true then
 (Qd.f s0 3).bind fun r3 =>
 if (decide ((0 : Int) < r3.1)) = true then
 if (0 : Int) ≤ i5 ∧ (i5 : Int) < q.length then
 (Qat.f r3.2 (q.getD (i5 : Int).toNat ByteArray.empty)).bind fun r4 =>
 if w8.length + ([(r4.1.1,(r4.1.2.1,(r4.1.2.2.1,(Int.tmod r4.1.2.2.2.1 3000,((if (Int.tmod r4.1.2.2.2.1 3000) < r4.1.2.2.2.2.1 then (Int.tmod r4.1.2.2.2.1 3000) else r4.1.2.2.2.2.1),r4.1.2.2.2.2.2)))))]).length < room 80 then
 L4 (IntKind.i64.wrap (i5 + 1)) r4.2 q w4 w5 w6 w7 (w8 ++ ([(r4.1.1,(r4.1.2.1,(r4.1.2.2.1,(Int.tmod r4.1.2.2.2.1 3000,((if (Int.tmod r4.1.2.2.2.1 3000) < r4.1.2.2.2.2.1 then (Int.tmod r4.1.2.2.2.1 3000) else r4.1.2.2.2.2.1),r4.1.2.2.2.2.2)))))])) w9
 else
 none
 else
 none
 else
 L4 (IntKind.i64.wrap (i5 + 1)) r3.2 q w4 w5 w6 w7 w8 w9
 else
 (Qd.f s0 9).bind fun r5 =>
 I12 r5.1 r5.2 w4 w5 w6 w7 w8 w9
def Qe.l4 (n : Nat) : Nat → Int → YK → List ByteArray → YF → YG → YM → YF → YG → YM → Option YI
 | 0 => fun _ _ _ _ _ _ _ _ _ => none
 | k + 1 => Qe.g4 (Qe.l12 n n) (Qe.l4 n k)
def Qe.top (I4 : Int → YK → List ByteArray → YF → YG → YM → YF → YG → YM → Option YI) (s0 : List Int × Int × Int) : Option YI :=
 (QY.f s0).bind fun r1 =>
 (Qar.f).bind fun r2 =>
 I4 0 r1.2 r2 [] [] [] r1.1 [] []
def Qe.fn (n : Nat) (s0 : List Int × Int × Int) : Option YI := Qe.top (Qe.l4 n n) s0
def Qe.f (s0 : List Int × Int × Int) : Option YI := Qe.fn NN s0
end
end Go.Pl

namespace Go.Pl
open Go.Ev
set_option linter.unusedVariables false
noncomputable section
def Qq.g12 (L12 : YAF) (s0 : List Int × Int × Int) (c4 : Int × Int × ByteArray × Int) (w4 : List YC) (w5 : List YA) (w6 : List YB) (w7 : List YC) (w8 : List YA) (w9 : List YB) : Option YI :=
 (Qd.f s0 2).bind fun r8 =>
 if (decide (((w9.length : Int) : Int) < (IntKind.i64.wrap (20 + r8.1)))) = true then
 if w9.length + ([c4]).length < room 40 then
 L12 r8.2 c4 w4 w5 w6 w7 w8 (w9 ++ ([c4]))
 else
 none
 else
 some ((w7,(w8,w9)),r8.2)
def Qq.l12 (n : Nat) : Nat → YK → YB → YF → YG → YM → YF → YG → YM → Option YI
 | 0 => fun _ _ _ _ _ _ _ _ => none
 | k + 1 => Qq.g12 (Qq.l12 n k)
def Qq.top (I12 : YAF) (s0 : List Int × Int × Int) : Option YI :=
 (Qe.f s0).bind fun r1 =>
 (Qd.f r1.2 40).bind fun r2 =>
 if ((r2.1 : Int) == 0) = true then
 (Q3.f r2.2).bind fun r3 =>
 some ((r3.1,(r1.1.2.1,r1.1.2.2)),r3.2)
 else if ((r2.1 : Int) == 1) = true then
 (Qn.f r2.2).bind fun r4 =>
 some ((r1.1.1,(r4.1,r1.1.2.2)),r4.2)
 else if ((r2.1 : Int) == 2) = true then
 (Qd.f r2.2 8).bind fun r5 =>
 (Qd.f r5.2 5).bind fun r6 =>
 (Qd.f r6.2 14).bind fun r7 =>
 if r1.1.2.2.length + ([(IntKind.i64.wrap (r5.1 - 1),(r6.1,((⟨#[112,101,111,110,121]⟩ : ByteArray),IntKind.i64.wrap (r7.1 - 1))))]).length < room 40 then
 some ((r1.1.1,(r1.1.2.1,r1.1.2.2 ++ ([(IntKind.i64.wrap (r5.1 - 1),(r6.1,((⟨#[112,101,111,110,121]⟩ : ByteArray),IntKind.i64.wrap (r7.1 - 1))))]))),r7.2)
 else
 none
 else if ((r2.1 : Int) == 3) = true then
 if (decide ((0 : Int) < (r1.1.2.2.length : Int))) = true then
 if (0 : Int) ≤ 0 ∧ (0 : Int) < r1.1.2.2.length then
 I12 r2.2 (r1.1.2.2.getD (0 : Int).toNat (0,(0,(ByteArray.empty,0)))) [] [] [] r1.1.1 r1.1.2.1 r1.1.2.2
 else
 none
 else
 some ((r1.1.1,(r1.1.2.1,r1.1.2.2)),r2.2)
 else
 some ((r1.1.1,(r1.1.2.1,r1.1.2.2)),r2.2)
def Qq.fn (n : Nat) (s0 : List Int × Int × Int) : Option YI := Qq.top (Qq.l12 n n) s0
def Qq.f (s0 : List Int × Int × Int) : Option YI := Qq.fn NN s0
end
end Go.Pl

namespace Go.Pl
open Go.Ev
set_option linter.unusedVariables false
noncomputable section
def QB.top (p : List YD) (b1 : Int × ByteArray × Int) : Option YAD :=
 (Qm.f p).bind fun r1 =>
 if (!r1) = true then
 some ([],1)
 else if (((p.length : Int) : Int) == 60) = true then
 some ([],3)
 else if ([] : List YD).length + p.length < room 32 then
 if (([] : List YD) ++ p).length + ([b1]).length < room 32 then
 (Qm.f ((([] : List YD) ++ p) ++ ([b1]))).bind fun r2 =>
 if (!r2) = true then
 some ([],5)
 else
 some ((([] : List YD) ++ p) ++ ([b1]),0)
 else
 none
 else
 none
def QB.fn (n : Nat) (p : List YD) (b1 : Int × ByteArray × Int) : Option YAD := QB.top p b1
def QB.f (p : List YD) (b1 : Int × ByteArray × Int) : Option YAD := QB.fn NN p b1
end
end Go.Pl

namespace Go.Pl
open Go.Ev
set_option linter.unusedVariables false
noncomputable section
def Qv.g4 (L4 : YAI) (n5 : Int) (s0 : List Int × Int × Int) (q : List YD) (p : List ByteArray) : Option YT :=
 if (decide ((0 : Int) < n5)) = true then
 (Qd.f s0 4).bind fun r3 =>
 (Qd.f r3.2 4).bind fun r4 =>
 if (0 : Int) ≤ r4.1 ∧ (r4.1 : Int) < p.length then
 (Qd.f r4.2 12).bind fun r5 =>
 (Q0.f q (p.getD (r4.1 : Int).toNat ByteArray.empty) (q.length : Int)).bind fun r6 =>
 if (decide ((0 : Int) < r3.1)) = true then
 if (decide ((0 : Int) < r6)) = true then
 (Qd.f r5.2 2).bind fun r7 =>
 if ((r7.1 : Int) == 0) = true then
 if ((r6 : Int) == 0) = true then
 (QB.f q (0,(p.getD (r4.1 : Int).toNat ByteArray.empty,(if r6 < 1000 then r6 else 1000)))).bind fun r8 =>
 if ((r8.2 : Int) == 0) = true then
 L4 (IntKind.i64.wrap (n5 - 1)) r7.2 r8.1 p
 else
 L4 (IntKind.i64.wrap (n5 - 1)) r7.2 q p
 else
 (QB.f q (r3.1,(p.getD (r4.1 : Int).toNat ByteArray.empty,(if r6 < 1000 then r6 else 1000)))).bind fun r9 =>
 if ((r9.2 : Int) == 0) = true then
 L4 (IntKind.i64.wrap (n5 - 1)) r7.2 r9.1 p
 else
 L4 (IntKind.i64.wrap (n5 - 1)) r7.2 q p
 else if ((r6 : Int) == 0) = true then
 (QB.f q (0,(p.getD (r4.1 : Int).toNat ByteArray.empty,IntKind.i64.wrap (1 + r5.1)))).bind fun r10 =>
 if ((r10.2 : Int) == 0) = true then
 L4 (IntKind.i64.wrap (n5 - 1)) r7.2 r10.1 p
 else
 L4 (IntKind.i64.wrap (n5 - 1)) r7.2 q p
 else
 (QB.f q (r3.1,(p.getD (r4.1 : Int).toNat ByteArray.empty,IntKind.i64.wrap (1 + r5.1)))).bind fun r11 =>
 if ((r11.2 : Int) == 0) = true then
 L4 (IntKind.i64.wrap (n5 - 1)) r7.2 r11.1 p
 else
 L4 (IntKind.i64.wrap (n5 - 1)) r7.2 q p
 else if ((r6 : Int) == 0) = true then
 (QB.f q (0,(p.getD (r4.1 : Int).toNat ByteArray.empty,IntKind.i64.wrap (1 + r5.1)))).bind fun r12 =>
 if ((r12.2 : Int) == 0) = true then
 L4 (IntKind.i64.wrap (n5 - 1)) r5.2 r12.1 p
 else
 L4 (IntKind.i64.wrap (n5 - 1)) r5.2 q p
 else
 (QB.f q (r3.1,(p.getD (r4.1 : Int).toNat ByteArray.empty,IntKind.i64.wrap (1 + r5.1)))).bind fun r13 =>
 if ((r13.2 : Int) == 0) = true then
 L4 (IntKind.i64.wrap (n5 - 1)) r5.2 r13.1 p
 else
 L4 (IntKind.i64.wrap (n5 - 1)) r5.2 q p
 else if ((r6 : Int) == 0) = true then
 (QB.f q (0,(p.getD (r4.1 : Int).toNat ByteArray.empty,IntKind.i64.wrap (1 + r5.1)))).bind fun r14 =>
 if ((r14.2 : Int) == 0) = true then
 L4 (IntKind.i64.wrap (n5 - 1)) r5.2 r14.1 p
 else
 L4 (IntKind.i64.wrap (n5 - 1)) r5.2 q p
 else
 (QB.f q (r3.1,(p.getD (r4.1 : Int).toNat ByteArray.empty,IntKind.i64.wrap (1 + r5.1)))).bind fun r15 =>
 if ((r15.2 : Int) == 0) = true then
 L4 (IntKind.i64.wrap (n5 - 1)) r5.2 r15.1 p
 else
 L4 (IntKind.i64.wrap (n5 - 1)) r5.2 q p
 else
 none
 else
 some (q,s0)
def Qv.l4 (n : Nat) : Nat → Int → YK → YL → List ByteArray → Option YT
 | 0 => fun _ _ _ _ => none
 | k + 1 => Qv.g4 (Qv.l4 n k)
def Qv.top (I4 : YAI) (s0 : List Int × Int × Int) : Option YT :=
 (Qar.f).bind fun r1 =>
 (Qd.f s0 10).bind fun r2 =>
 I4 r2.1 r2.2 [] r1
def Qv.fn (n : Nat) (s0 : List Int × Int × Int) : Option YT := Qv.top (Qv.l4 n n) s0
def Qv.f (s0 : List Int × Int × Int) : Option YT := Qv.fn NN s0
end
end Go.Pl

namespace Go.Pl
open Go.Ev
set_option linter.unusedVariables false
noncomputable section
def QF.g6 (L6 : YK → YL → Option YT) (s0 : List Int × Int × Int) (p : List YD) : Option YT :=
 (Qd.f s0 2).bind fun r6 =>
 if (decide (((p.length : Int) : Int) < (IntKind.i64.wrap (60 + r6.1)))) = true then
 if p.length + ([(0,((⟨#[112,97,108,109]⟩ : ByteArray),1))]).length < room 32 then
 L6 r6.2 (p ++ ([(0,((⟨#[112,97,108,109]⟩ : ByteArray),1))]))
 else
 none
 else
 some (p,r6.2)
def QF.l6 (n : Nat) : Nat → YK → YL → Option YT
 | 0 => fun _ _ => none
 | k + 1 => QF.g6 (QF.l6 n k)
def QF.top (I6 : YK → YL → Option YT) (s0 : List Int × Int × Int) : Option YT :=
 (Qv.f s0).bind fun r1 =>
 (Qd.f r1.2 30).bind fun r2 =>
 if ((r2.1 : Int) == 0) = true then
 (Qd.f r2.2 6).bind fun r3 =>
 (Qad.f r3.2).bind fun r4 =>
 (QM.f r4.2 ([0,1,1000,1001])).bind fun r5 =>
 if r1.1.length + ([(IntKind.i64.wrap (r3.1 - 1),(r4.1,r5.1))]).length < room 32 then
 some (r1.1 ++ ([(IntKind.i64.wrap (r3.1 - 1),(r4.1,r5.1))]),r5.2)
 else
 none
 else if ((r2.1 : Int) == 1) = true then
 I6 r2.2 r1.1
 else if ((r2.1 : Int) == 2) = true then
 if r1.1.length + ([(0,((⟨#[97,115,116,101,114]⟩ : ByteArray),1000)),(0,((⟨#[97,115,116,101,114]⟩ : ByteArray),700))]).length < room 32 then
 some (r1.1 ++ ([(0,((⟨#[97,115,116,101,114]⟩ : ByteArray),1000)),(0,((⟨#[97,115,116,101,114]⟩ : ByteArray),700))]),r2.2)
 else
 none
 else
 some (r1.1,r2.2)
def QF.fn (n : Nat) (s0 : List Int × Int × Int) : Option YT := QF.top (QF.l6 n n) s0
def QF.f (s0 : List Int × Int × Int) : Option YT := QF.fn NN s0
end
end Go.Pl

namespace Go.Pl
open Go.Ev
set_option linter.unusedVariables false
noncomputable section
def Qf.g13 (L13 : YAQ) (i10 : Int) (s5 : List Int × Int × Int) (x6 : YF × YG × List YB) (p : List YD) (q : List Int) (w5 : List YC) (w6 : List YA) (w7 : List YB) : Option YAC :=
 if (decide ((i10 : Int) < (x6.2.2.length : Int))) = true then
 (Qd.f s5 2).bind fun r7 =>
 if ((r7.1 : Int) == 0) = true then
 if q.length + ([i10]).length < room 8 then
 L13 (IntKind.i64.wrap (i10 + 1)) r7.2 x6 p (q ++ ([i10])) w5 w6 w7
 else
 none
 else
 L13 (IntKind.i64.wrap (i10 + 1)) r7.2 x6 p q w5 w6 w7
 else
 (Qd.f s5 24).bind fun r8 =>
 if ((r8.1 : Int) == 0) = true then
 (Qd.f r8.2 9).bind fun r9 =>
 if q.length + ([r9.1]).length < room 8 then
 some (p,x6,q ++ ([r9.1]))
 else
 none
 else
 some (p,x6,q)
def Qf.l13 (n : Nat) : Nat → Int → YK → YH → YL → List Int → YF → YG → YM → Option YAC
 | 0 => fun _ _ _ _ _ _ _ _ => none
 | k + 1 => Qf.g13 (Qf.l13 n k)
def Qf.g5 (I13 : YAQ) (L5 : YAH) (i8 : Int) (s5 : List Int × Int × Int) (x6 : YF × YG × List YB) (p : List YD) (w4 : List YC) (w5 : List YA) (w6 : List YB) : Option YAC :=
 if (decide ((i8 : Int) < (x6.2.1.length : Int))) = true then
 (Qd.f s5 6).bind fun r3 =>
 if (decide ((0 : Int) < r3.1)) = true then
 agree (
 if (0 : Int) ≤ i8 ∧ (i8 : Int) < x6.2.1.length then
 (Qd.f r3.2 8).bind fun r4 =>
 if p.length + ([(0,((x6.2.1.getD (i8 : Int).toNat (ByteArray.empty,(0,(0,(0,(0,(0,(0,(0,0))))))))).1,IntKind.i64.wrap (1 + r4.1)))]).length < room 32 then
 L5 (IntKind.i64.wrap (i8 + 1)) r4.2 x6 (p ++ ([(0,((x6.2.1.getD (i8 : Int).toNat (ByteArray.empty,(0,(0,(0,(0,(0,(0,(0,0))))))))).1,IntKind.i64.wrap (1 + r4.1)))])) w4 w5 w6
 else
 none
 else
 none
 ) (
 (Qd.f r3.2 8).bind fun r4 =>
 if (0 : Int) ≤ i8 ∧ (i8 : Int) < x6.2.1.length then
 if p.length + ([(0,((x6.2.1.getD (i8 : Int).toNat (ByteArray.empty,(0,(0,(0,(0,(0,(0,(0,0))))))))).1,IntKind.i64.wrap (1 + r4.1)))]).length < room 32 then
 L5 (IntKind.i64.wrap (i8 + 1)) r4.2 x6 (p ++ ([(0,((x6.2.1.getD (i8 : Int).toNat (ByteArray.empty,(0,(0,(0,(0,(0,(0,(0,0))))))))).1,IntKind.i64.wrap (1 + r4.1)))])) w4 w5 w6
 else
 none
 else
 none
 )
 else
 L5 (IntKind.i64.wrap (i8 + 1)) r3.2 x6 p w4 w5 w6
 else
 (Qd.f s5 12).bind fun r5 =>
 if ((r5.1 : Int) == 0) = true then
 (QF.f r5.2).bind fun r6 =>
 I13 0 r6.2 x6 r6.1 [] w4 w5 w6
 else
 I13 0 r5.2 x6 p [] w4 w5 w6
def Qf.l5 (n : Nat) : Nat → Int → YK → YH → YL → YF → YG → YM → Option YAC
 | 0 => fun _ _ _ _ _ _ _ => none
 | k + 1 => Qf.g5 (Qf.l13 n n) (Qf.l5 n k)
def Qf.top (I5 : YAH) (r : List Int) : Option YAC :=
 (QS.f r).bind fun r1 =>
 (Qq.f r1).bind fun r2 =>
 I5 0 r2.2 r2.1 [] [] [] []
def Qf.fn (n : Nat) (r : List Int) : Option YAC := Qf.top (Qf.l5 n n) r
def Qf.f (r : List Int) : Option YAC := Qf.fn NN r
end
end Go.Pl

namespace Go.Pl
open Go.Ev
set_option linter.unusedVariables false
noncomputable section
def Qap.top (t0 : Int) : Option Bool :=
 (Qae.f t0 0 10000000).bind fun r1 =>
 some r1
def Qap.fn (n : Nat) (t0 : Int) : Option Bool := Qap.top t0
def Qap.f (t0 : Int) : Option Bool := Qap.fn NN t0
end
end Go.Pl

namespace Go.Pl
open Go.Ev
set_option linter.unusedVariables false
noncomputable section
def Qy.g3 (L3 : YAT) (p : List YD) (q : ByteArray) (n2 : Int) (r : Int) (i8 : Int) : Option Int :=
 if (decide ((i8 : Int) < n2)) = true then
 if (0 : Int) ≤ i8 ∧ (i8 : Int) < p.length then
 if ((((p.getD (i8 : Int).toNat (0,(ByteArray.empty,0))).2).1).toList == q.toList) = true then
 if (0 : Int) ≤ i8 ∧ (i8 : Int) < p.length then
 L3 p q n2 (IntKind.i64.wrap (r + (((p.getD (i8 : Int).toNat (0,(ByteArray.empty,0))).2).2))) (IntKind.i64.wrap (i8 + 1))
 else
 none
 else
 L3 p q n2 r (IntKind.i64.wrap (i8 + 1))
 else
 none
 else
 some r
def Qy.l3 (n : Nat) : Nat → YL → ByteArray → Int → Int → Int → Option Int
 | 0 => fun _ _ _ _ _ => none
 | k + 1 => Qy.g3 (Qy.l3 n k)
def Qy.top (I3 : YAT) (p : List YD) (q : ByteArray) (n2 : Int) : Option Int :=
 I3 p q n2 0 0
def Qy.fn (n : Nat) (p : List YD) (q : ByteArray) (n2 : Int) : Option Int := Qy.top (Qy.l3 n n) p q n2
def Qy.f (p : List YD) (q : ByteArray) (n2 : Int) : Option Int := Qy.fn NN p q n2
end
end Go.Pl

namespace Go.Pl
open Go.Ev
set_option linter.unusedVariables false
noncomputable section
def QE.g2 (L2 : YL → Int → Option Bool) (p : List YD) (i3 : Int) : Option Bool :=
 if (decide ((i3 : Int) < (p.length : Int))) = true then
 if (0 : Int) ≤ i3 ∧ (i3 : Int) < p.length then
 (Qap.f ((p.getD (i3 : Int).toNat (0,(ByteArray.empty,0))).1)).bind fun r1 =>
 if (!r1) = false then
 (QU.f (((p.getD (i3 : Int).toNat (0,(ByteArray.empty,0))).2).1)).bind fun r2 =>
 if (!r2) = false then
 (Qae.f (((p.getD (i3 : Int).toNat (0,(ByteArray.empty,0))).2).2) (-1000) 1000).bind fun r3 =>
 if (!r3) = false then
 if (((((p.getD (i3 : Int).toNat (0,(ByteArray.empty,0))).2).2) : Int) == 0) = false then
 if (decide ((0 : Int) < i3)) = true then
 if (0 : Int) ≤ (IntKind.i64.wrap (i3 - 1)) ∧ ((IntKind.i64.wrap (i3 - 1)) : Int) < p.length then
 if (decide ((((p.getD (i3 : Int).toNat (0,(ByteArray.empty,0))).1) : Int) < ((p.getD ((IntKind.i64.wrap (i3 - 1)) : Int).toNat (0,(ByteArray.empty,0))).1))) = false then
 (Qy.f p (((p.getD (i3 : Int).toNat (0,(ByteArray.empty,0))).2).1) (IntKind.i64.wrap (i3 + 1))).bind fun r4 =>
 if (decide ((r4 : Int) < 0)) = true then
 some false
 else
 L2 p (IntKind.i64.wrap (i3 + 1))
 else
 some false
 else
 none
 else
 (Qy.f p (((p.getD (i3 : Int).toNat (0,(ByteArray.empty,0))).2).1) (IntKind.i64.wrap (i3 + 1))).bind fun r5 =>
 if (decide ((r5 : Int) < 0)) = true then
 some false
 else
 L2 p (IntKind.i64.wrap (i3 + 1))
 else
 some false
 else
 some false
 else
 some false
 else
 some false
 else
 none
 else
 some (decide (((p.length : Int) : Int) ≤ 40))
def QE.l2 (n : Nat) : Nat → YL → Int → Option Bool
 | 0 => fun _ _ => none
 | k + 1 => QE.g2 (QE.l2 n k)
def QE.top (I2 : YL → Int → Option Bool) (p : List YD) : Option Bool :=
 I2 p 0
def QE.fn (n : Nat) (p : List YD) : Option Bool := QE.top (QE.l2 n n) p
def QE.f (p : List YD) : Option Bool := QE.fn NN p
end
end Go.Pl

namespace Go.Pl
open Go.Ev
set_option linter.unusedVariables false
noncomputable section
def Qah.top (p : List YD) (m1 : Int × ByteArray × Int) : Option YAD :=
 (QE.f p).bind fun r1 =>
 if (!r1) = true then
 some ([],1)
 else if (((p.length : Int) : Int) == 40) = true then
 some ([],3)
 else if ([] : List YD).length + p.length < room 32 then
 if (([] : List YD) ++ p).length + ([m1]).length < room 32 then
 (QE.f ((([] : List YD) ++ p) ++ ([m1]))).bind fun r2 =>
 if (!r2) = true then
 some ([],5)
 else
 some ((([] : List YD) ++ p) ++ ([m1]),0)
 else
 none
 else
 none
def Qah.fn (n : Nat) (p : List YD) (m1 : Int × ByteArray × Int) : Option YAD := Qah.top p m1
def Qah.f (p : List YD) (m1 : Int × ByteArray × Int) : Option YAD := Qah.fn NN p m1
end
end Go.Pl

namespace Go.Pl
open Go.Ev
set_option linter.unusedVariables false
noncomputable section
def QaF.top (s0 : List Int × Int × Int) : Option YAJ :=
 (Qd.f s0 3).bind fun r1 =>
 if (0 : Int) ≤ r1.1 ∧ (r1.1 : Int) < ([(⟨#[98,97,110,107]⟩ : ByteArray),(⟨#[102,105,101,108,100]⟩ : ByteArray),(⟨#[114,105,118,101,114]⟩ : ByteArray)]).length then
 some (([(⟨#[98,97,110,107]⟩ : ByteArray),(⟨#[102,105,101,108,100]⟩ : ByteArray),(⟨#[114,105,118,101,114]⟩ : ByteArray)]).getD (r1.1 : Int).toNat ByteArray.empty,r1.2)
 else
 none
def QaF.fn (n : Nat) (s0 : List Int × Int × Int) : Option YAJ := QaF.top s0
def QaF.f (s0 : List Int × Int × Int) : Option YAJ := QaF.fn NN s0
end
end Go.Pl

namespace Go.Pl
open Go.Ev
set_option linter.unusedVariables false
noncomputable section
def QZ.g4 (L4 : Int → Int → YK → YL → Option YT) (t4 : Int) (n5 : Int) (s0 : List Int × Int × Int) (p : List YD) : Option YT :=
 if (decide ((0 : Int) < n5)) = true then
 (QaF.f s0).bind fun r3 =>
 (Qd.f r3.2 4).bind fun r4 =>
 (Qy.f p r3.1 (p.length : Int)).bind fun r5 =>
 if (decide ((0 : Int) < r5)) = true then
 (Qd.f r4.2 3).bind fun r6 =>
 if (decide ((0 : Int) < r6.1)) = true then
 (QM.f r6.2 ([r5,1,r5])).bind fun r7 =>
 (Qah.f p (t4,(r3.1,IntKind.i64.wrap (0 - r7.1)))).bind fun r8 =>
 if ((r8.2 : Int) == 0) = true then
 (Qd.f r7.2 20000).bind fun r9 =>
 (Qd.f r9.2 60000).bind fun r10 =>
 (QM.f r10.2 ([0,r9.1,r10.1])).bind fun r11 =>
 L4 (IntKind.i64.wrap (t4 + r11.1)) (IntKind.i64.wrap (n5 - 1)) r11.2 r8.1
 else
 (Qd.f r7.2 20000).bind fun r12 =>
 (Qd.f r12.2 60000).bind fun r13 =>
 (QM.f r13.2 ([0,r12.1,r13.1])).bind fun r14 =>
 L4 (IntKind.i64.wrap (t4 + r14.1)) (IntKind.i64.wrap (n5 - 1)) r14.2 p
 else
 (Qah.f p (t4,(r3.1,IntKind.i64.wrap (1 + r4.1)))).bind fun r15 =>
 if ((r15.2 : Int) == 0) = true then
 (Qd.f r6.2 20000).bind fun r16 =>
 (Qd.f r16.2 60000).bind fun r17 =>
 (QM.f r17.2 ([0,r16.1,r17.1])).bind fun r18 =>
 L4 (IntKind.i64.wrap (t4 + r18.1)) (IntKind.i64.wrap (n5 - 1)) r18.2 r15.1
 else
 (Qd.f r6.2 20000).bind fun r19 =>
 (Qd.f r19.2 60000).bind fun r20 =>
 (QM.f r20.2 ([0,r19.1,r20.1])).bind fun r21 =>
 L4 (IntKind.i64.wrap (t4 + r21.1)) (IntKind.i64.wrap (n5 - 1)) r21.2 p
 else
 (Qah.f p (t4,(r3.1,IntKind.i64.wrap (1 + r4.1)))).bind fun r22 =>
 if ((r22.2 : Int) == 0) = true then
 (Qd.f r4.2 20000).bind fun r23 =>
 (Qd.f r23.2 60000).bind fun r24 =>
 (QM.f r24.2 ([0,r23.1,r24.1])).bind fun r25 =>
 L4 (IntKind.i64.wrap (t4 + r25.1)) (IntKind.i64.wrap (n5 - 1)) r25.2 r22.1
 else
 (Qd.f r4.2 20000).bind fun r26 =>
 (Qd.f r26.2 60000).bind fun r27 =>
 (QM.f r27.2 ([0,r26.1,r27.1])).bind fun r28 =>
 L4 (IntKind.i64.wrap (t4 + r28.1)) (IntKind.i64.wrap (n5 - 1)) r28.2 p
 else
 some (p,s0)
def QZ.l4 (n : Nat) : Nat → Int → Int → YK → YL → Option YT
 | 0 => fun _ _ _ _ => none
 | k + 1 => QZ.g4 (QZ.l4 n k)
def QZ.top (I4 : Int → Int → YK → YL → Option YT) (s0 : List Int × Int × Int) : Option YT :=
 (Qd.f s0 5000).bind fun r1 =>
 (Qd.f r1.2 9).bind fun r2 =>
 I4 r1.1 r2.1 r2.2 []
def QZ.fn (n : Nat) (s0 : List Int × Int × Int) : Option YT := QZ.top (QZ.l4 n n) s0
def QZ.f (s0 : List Int × Int × Int) : Option YT := QZ.fn NN s0
end
end Go.Pl

namespace Go.Pl
open Go.Ev
set_option linter.unusedVariables false
noncomputable section
def Q8.g6 (L6 : YK → YL → Option YT) (s0 : List Int × Int × Int) (p : List YD) : Option YT :=
 (Qd.f s0 2).bind fun r6 =>
 if (decide (((p.length : Int) : Int) < (IntKind.i64.wrap (40 + r6.1)))) = true then
 if p.length + ([(900000,((⟨#[102,105,101,108,100]⟩ : ByteArray),1))]).length < room 32 then
 L6 r6.2 (p ++ ([(900000,((⟨#[102,105,101,108,100]⟩ : ByteArray),1))]))
 else
 none
 else
 some (p,r6.2)
def Q8.l6 (n : Nat) : Nat → YK → YL → Option YT
 | 0 => fun _ _ => none
 | k + 1 => Q8.g6 (Q8.l6 n k)
def Q8.top (I6 : YK → YL → Option YT) (s0 : List Int × Int × Int) : Option YT :=
 (QZ.f s0).bind fun r1 =>
 (Qd.f r1.2 30).bind fun r2 =>
 if ((r2.1 : Int) == 0) = true then
 (QM.f r2.2 ([0,10000000,10000001])).bind fun r3 =>
 (QaF.f r3.2).bind fun r4 =>
 (QM.f r4.2 ([(-1),0,1000,1001])).bind fun r5 =>
 if r1.1.length + ([(r3.1,(r4.1,r5.1))]).length < room 32 then
 some (r1.1 ++ ([(r3.1,(r4.1,r5.1))]),r5.2)
 else
 none
 else if ((r2.1 : Int) == 1) = true then
 I6 r2.2 r1.1
 else
 some (r1.1,r2.2)
def Q8.fn (n : Nat) (s0 : List Int × Int × Int) : Option YT := Q8.top (Q8.l6 n n) s0
def Q8.f (s0 : List Int × Int × Int) : Option YT := Q8.fn NN s0
end
end Go.Pl

namespace Go.Pl
open Go.Ev
set_option linter.unusedVariables false
noncomputable section
def Q9.g7 (L7 : Int → Int → YK → YF → Option YV) (p : Int) (n5 : Int) (s0 : List Int × Int × Int) (q : List YC) : Option YV :=
 if (decide ((0 : Int) < n5)) = true then
 (QM.f s0 ([0,1,2,3,4])).bind fun r5 =>
 (QM.f r5.2 ([7,7,7,7,2,4,5,0,6,3,9])).bind fun r6 =>
 if q.length + ([(IntKind.i64.wrap (p + r5.1),r6.1)]).length < room 16 then
 L7 (IntKind.i64.wrap (p + r5.1)) (IntKind.i64.wrap (n5 - 1)) r6.2 (q ++ ([(IntKind.i64.wrap (p + r5.1),r6.1)]))
 else
 none
 else
 some (q,s0)
def Q9.l7 (n : Nat) : Nat → Int → Int → YK → YF → Option YV
 | 0 => fun _ _ _ _ => none
 | k + 1 => Q9.g7 (Q9.l7 n k)
def Q9.top (I7 : Int → Int → YK → YF → Option YV) (s0 : List Int × Int × Int) : Option YV :=
 (Qd.f s0 5).bind fun r1 =>
 (Qd.f r1.2 6).bind fun r2 =>
 if (decide ((0 : Int) < r2.1)) = true then
 if ([] : List YC).length + ([(r1.1,0),(r1.1,1),(IntKind.i64.wrap (r1.1 + 1),2)]).length < room 16 then
 (Qd.f r2.2 20).bind fun r3 =>
 I7 (IntKind.i64.wrap (r1.1 + 1)) r3.1 r3.2 (([] : List YC) ++ ([(r1.1,0),(r1.1,1),(IntKind.i64.wrap (r1.1 + 1),2)]))
 else
 none
 else
 (Qd.f r2.2 20).bind fun r4 =>
 I7 r1.1 r4.1 r4.2 []
def Q9.fn (n : Nat) (s0 : List Int × Int × Int) : Option YV := Q9.top (Q9.l7 n n) s0
def Q9.f (s0 : List Int × Int × Int) : Option YV := Q9.fn NN s0
end
end Go.Pl

namespace Go.Pl
open Go.Ev
set_option linter.unusedVariables false
noncomputable section
def Qaa.g8 (L8 : YK → YF → Option YV) (s0 : List Int × Int × Int) (p : List YC) : Option YV :=
 (Qd.f s0 2).bind fun r5 =>
 if (decide (((p.length : Int) : Int) < (IntKind.i64.wrap (40 + r5.1)))) = true then
 if p.length + ([(300,7)]).length < room 16 then
 L8 r5.2 (p ++ ([(300,7)]))
 else
 none
 else
 some (p,r5.2)
def Qaa.l8 (n : Nat) : Nat → YK → YF → Option YV
 | 0 => fun _ _ => none
 | k + 1 => Qaa.g8 (Qaa.l8 n k)
def Qaa.top (I8 : YK → YF → Option YV) (s0 : List Int × Int × Int) : Option YV :=
 (Q9.f s0).bind fun r1 =>
 (Qd.f r1.2 40).bind fun r2 =>
 if ((r2.1 : Int) == 0) = true then
 (QM.f r2.2 ([8,(-1),10,7])).bind fun r3 =>
 if r1.1.length + ([(200,r3.1)]).length < room 16 then
 some (r1.1 ++ ([(200,r3.1)]),r3.2)
 else
 none
 else if ((r2.1 : Int) == 1) = true then
 (QM.f r2.2 ([0,100000,100001])).bind fun r4 =>
 if r1.1.length + ([(r4.1,7)]).length < room 16 then
 some (r1.1 ++ ([(r4.1,7)]),r4.2)
 else
 none
 else if ((r2.1 : Int) == 2) = true then
 I8 r2.2 r1.1
 else
 some (r1.1,r2.2)
def Qaa.fn (n : Nat) (s0 : List Int × Int × Int) : Option YV := Qaa.top (Qaa.l8 n n) s0
def Qaa.f (s0 : List Int × Int × Int) : Option YV := Qaa.fn NN s0
end
end Go.Pl

namespace Go.Pl
open Go.Ev
set_option linter.unusedVariables false
noncomputable section
def Qs.g3 (L3 : Int → YK → List Int → Option YAK) (n4 : Int) (s0 : List Int × Int × Int) (p : List Int) : Option YAK :=
 if (decide ((0 : Int) < n4)) = true then
 (Qd.f s0 5000).bind fun r2 =>
 if p.length + ([r2.1]).length < room 8 then
 L3 (IntKind.i64.wrap (n4 - 1)) r2.2 (p ++ ([r2.1]))
 else
 none
 else
 (Qd.f s0 40).bind fun r3 =>
 if ((r3.1 : Int) == 0) = true then
 (QM.f r3.2 ([(-1),10000000,10000001])).bind fun r4 =>
 if p.length + ([r4.1]).length < room 8 then
 some (p ++ ([r4.1]),r4.2)
 else
 none
 else if ((r3.1 : Int) == 1) = true then
 (Qd.f r3.2 2).bind fun r5 =>
 @ite _ ((0 : Int) ≤ (IntKind.i64.wrap (20 + r5.1)) ∧ ((IntKind.i64.wrap (20 + r5.1)) : Int) < room 8 ∧ ((IntKind.i64.wrap (20 + r5.1)) : Int) = (IntKind.i64.wrap (20 + r5.1))) (Classical.propDecidable _) (
 some (List.replicate ((IntKind.i64.wrap (20 + r5.1)) : Int).toNat 0,r5.2)
 ) (
 none
 )
 else
 some (p,r3.2)
def Qs.l3 (n : Nat) : Nat → Int → YK → List Int → Option YAK
 | 0 => fun _ _ _ => none
 | k + 1 => Qs.g3 (Qs.l3 n k)
def Qs.top (I3 : Int → YK → List Int → Option YAK) (s0 : List Int × Int × Int) : Option YAK :=
 (Qd.f s0 8).bind fun r1 =>
 I3 r1.1 r1.2 []
def Qs.fn (n : Nat) (s0 : List Int × Int × Int) : Option YAK := Qs.top (Qs.l3 n n) s0
def Qs.f (s0 : List Int × Int × Int) : Option YAK := Qs.fn NN s0
end
end Go.Pl

namespace Go.Pl
open Go.Ev
set_option linter.unusedVariables false
noncomputable section
def Qag.top (p : List Int) : Option (List Int × YF × YL × List ByteArray) :=
 (QS.f p).bind fun r1 =>
 (Qs.f r1).bind fun r2 =>
 (Qaa.f r2.2).bind fun r3 =>
 (Q8.f r3.2).bind fun r4 =>
 (Qd.f r4.2 3).bind fun r5 =>
 if (decide ((0 : Int) < r5.1)) = true then
 if (decide ((0 : Int) < (r4.1.length : Int))) = true then
 (Qd.f r5.2 3000).bind fun r6 =>
 (Qd.f r6.2 4).bind fun r7 =>
 if (0 : Int) ≤ r7.1 ∧ (r7.1 : Int) ≤ ([(⟨#[102,105,101,108,100]⟩ : ByteArray),(⟨#[98,97,110,107]⟩ : ByteArray),(⟨#[114,105,118,101,114]⟩ : ByteArray)]).length then
 (Qd.f r7.2 30).bind fun r8 =>
 if ((r8.1 : Int) == 0) = true then
 (Qad.f r8.2).bind fun r9 =>
 some (r2.1,r3.1,[(IntKind.i64.wrap (1000 + r6.1),((⟨#[102,105,101,108,100]⟩ : ByteArray),2))],[r9.1])
 else
 some (r2.1,r3.1,[(IntKind.i64.wrap (1000 + r6.1),((⟨#[102,105,101,108,100]⟩ : ByteArray),2))],([(⟨#[102,105,101,108,100]⟩ : ByteArray),(⟨#[98,97,110,107]⟩ : ByteArray),(⟨#[114,105,118,101,114]⟩ : ByteArray)]).take (r7.1 : Int).toNat)
 else
 none
 else
 (Qd.f r5.2 4).bind fun r10 =>
 if (0 : Int) ≤ r10.1 ∧ (r10.1 : Int) ≤ ([(⟨#[102,105,101,108,100]⟩ : ByteArray),(⟨#[98,97,110,107]⟩ : ByteArray),(⟨#[114,105,118,101,114]⟩ : ByteArray)]).length then
 (Qd.f r10.2 30).bind fun r11 =>
 if ((r11.1 : Int) == 0) = true then
 (Qad.f r11.2).bind fun r12 =>
 some (r2.1,r3.1,r4.1,[r12.1])
 else
 some (r2.1,r3.1,r4.1,([(⟨#[102,105,101,108,100]⟩ : ByteArray),(⟨#[98,97,110,107]⟩ : ByteArray),(⟨#[114,105,118,101,114]⟩ : ByteArray)]).take (r10.1 : Int).toNat)
 else
 none
 else
 (Qd.f r5.2 4).bind fun r13 =>
 if (0 : Int) ≤ r13.1 ∧ (r13.1 : Int) ≤ ([(⟨#[102,105,101,108,100]⟩ : ByteArray),(⟨#[98,97,110,107]⟩ : ByteArray),(⟨#[114,105,118,101,114]⟩ : ByteArray)]).length then
 (Qd.f r13.2 30).bind fun r14 =>
 if ((r14.1 : Int) == 0) = true then
 (Qad.f r14.2).bind fun r15 =>
 some (r2.1,r3.1,r4.1,[r15.1])
 else
 some (r2.1,r3.1,r4.1,([(⟨#[102,105,101,108,100]⟩ : ByteArray),(⟨#[98,97,110,107]⟩ : ByteArray),(⟨#[114,105,118,101,114]⟩ : ByteArray)]).take (r13.1 : Int).toNat)
 else
 none
def Qag.fn (n : Nat) (p : List Int) : Option (List Int × YF × YL × List ByteArray) := Qag.top p
def Qag.f (p : List Int) : Option (List Int × YF × YL × List ByteArray) := Qag.fn NN p
end
end Go.Pl

namespace Go.Pl
open Go.Ev
set_option linter.unusedVariables false
noncomputable section
def Qai.top (p : List Int) : Option YH :=
 (QS.f p).bind fun r1 =>
 (Qq.f r1).bind fun r2 =>
 some r2.1
def Qai.fn (n : Nat) (p : List Int) : Option YH := Qai.top p
def Qai.f (p : List Int) : Option YH := Qai.fn NN p
end
end Go.Pl

namespace Go.Pl
open Go.Ev
set_option linter.unusedVariables false
noncomputable section
def Q1.g2 (L2 : YL → Int → Int → Option Int) (p : List YD) (t1 : Int) (n5 : Int) : Option Int :=
 if (decide ((n5 : Int) < (p.length : Int))) = true then
 if (0 : Int) ≤ n5 ∧ (n5 : Int) < p.length then
 if (decide ((((p.getD (n5 : Int).toNat (0,(ByteArray.empty,0))).1) : Int) ≤ t1)) = true then
 L2 p t1 (IntKind.i64.wrap (n5 + 1))
 else
 some n5
 else
 none
 else
 some n5
def Q1.l2 (n : Nat) : Nat → YL → Int → Int → Option Int
 | 0 => fun _ _ _ => none
 | k + 1 => Q1.g2 (Q1.l2 n k)
def Q1.top (I2 : YL → Int → Int → Option Int) (p : List YD) (t1 : Int) : Option Int :=
 I2 p t1 0
def Q1.fn (n : Nat) (p : List YD) (t1 : Int) : Option Int := Q1.top (Q1.l2 n n) p t1
def Q1.f (p : List YD) (t1 : Int) : Option Int := Q1.fn NN p t1
end
end Go.Pl

namespace Go.Pl
open Go.Ev
set_option linter.unusedVariables false
noncomputable section
def QQ.g3 (L3 : YL → ByteArray → Int → Int → Int → Option Bool) (p : List YD) (q : ByteArray) (t2 : Int) (n7 : Int) (i8 : Int) : Option Bool :=
 if (decide ((i8 : Int) < n7)) = true then
 if (0 : Int) ≤ i8 ∧ (i8 : Int) < p.length then
 if ((((p.getD (i8 : Int).toNat (0,(ByteArray.empty,0))).2).1).toList == q.toList) = true then
 if (0 : Int) ≤ i8 ∧ (i8 : Int) < p.length then
 if (decide ((t2 : Int) < (IntKind.i64.wrap (((p.getD (i8 : Int).toNat (0,(ByteArray.empty,0))).1) + 30000)))) = true then
 some false
 else
 L3 p q t2 n7 (IntKind.i64.wrap (i8 + 1))
 else
 none
 else
 L3 p q t2 n7 (IntKind.i64.wrap (i8 + 1))
 else
 none
 else
 (Qy.f p q n7).bind fun r2 =>
 some ((r2 : Int) == 0)
def QQ.l3 (n : Nat) : Nat → YL → ByteArray → Int → Int → Int → Option Bool
 | 0 => fun _ _ _ _ _ => none
 | k + 1 => QQ.g3 (QQ.l3 n k)
def QQ.top (I3 : YL → ByteArray → Int → Int → Int → Option Bool) (p : List YD) (q : ByteArray) (t2 : Int) : Option Bool :=
 (Q1.f p t2).bind fun r1 =>
 I3 p q t2 r1 0
def QQ.fn (n : Nat) (p : List YD) (q : ByteArray) (t2 : Int) : Option Bool := QQ.top (QQ.l3 n n) p q t2
def QQ.f (p : List YD) (q : ByteArray) (t2 : Int) : Option Bool := QQ.fn NN p q t2
end
end Go.Pl

namespace Go.Pl
open Go.Ev
set_option linter.unusedVariables false
noncomputable section
def QaP.top (c0 : Bool × Bool × Bool × Bool × Bool × Int) : Option YE :=
 some (c0.1,(c0.2.1,(false,(false,c0.2.2.2.2))))
def QaP.fn (n : Nat) (c0 : Bool × Bool × Bool × Bool × Bool × Int) : Option YE := QaP.top c0
def QaP.f (c0 : Bool × Bool × Bool × Bool × Bool × Int) : Option YE := QaP.fn NN c0
end
end Go.Pl

namespace Go.Pl
open Go.Ev
set_option linter.unusedVariables false
noncomputable section
def QaB.top (c0 : Bool × Bool × Bool × Bool × Bool × Int) (p : Int) : Option (YE × Bool) :=
 if ((p : Int) == 0) = true then
 if (!(!c0.1)) = true then
 (QaP.f (!c0.1,c0.2)).bind fun r1 =>
 some (r1,true)
 else
 some ((!c0.1,c0.2),true)
 else if ((p : Int) == 1) = true then
 if (!(!c0.2.1)) = true then
 (QaP.f (c0.1,(!c0.2.1,c0.2.2))).bind fun r2 =>
 some (r2,true)
 else
 some ((c0.1,(!c0.2.1,c0.2.2)),true)
 else if ((p : Int) == 2) = true then
 if (!c0.1) = false then
 if (!c0.2.1) = false then
 if c0.2.2.2.2.1 = true then
 some (c0,false)
 else
 some ((c0.1,(c0.2.1,(true,(false,(c0.2.2.2.2.1,0))))),true)
 else
 some (c0,false)
 else
 some (c0,false)
 else if ((p : Int) == 3) = true then
 (QaP.f c0).bind fun r3 =>
 some (r3,true)
 else if ((p : Int) == 4) = true then
 if (!c0.2.2.1) = false then
 if c0.2.2.2.1 = true then
 some (c0,false)
 else
 some ((c0.1,(c0.2.1,(c0.2.2.1,(true,c0.2.2.2.2)))),true)
 else
 some (c0,false)
 else if ((p : Int) == 5) = true then
 if (!c0.2.2.2.1) = true then
 some (c0,false)
 else
 some ((c0.1,(c0.2.1,(c0.2.2.1,(false,c0.2.2.2.2)))),true)
 else if ((p : Int) == 6) = true then
 (QaP.f c0).bind fun r4 =>
 some ((r4.1,(r4.2.1,(r4.2.2.1,(r4.2.2.2.1,(true,r4.2.2.2.2.2))))),true)
 else if ((p : Int) == 7) = true then
 some ((c0.1,(c0.2.1,(c0.2.2.1,(c0.2.2.2.1,(c0.2.2.2.2.1,0))))),true)
 else if ((p : Int) == 8) = true then
 if (decide ((3 : Int) < (if (IntKind.i64.wrap (c0.2.2.2.2.2 + 1)) < 4 then (IntKind.i64.wrap (c0.2.2.2.2.2 + 1)) else 4))) = true then
 (QaP.f (c0.1,(c0.2.1,(c0.2.2.1,(c0.2.2.2.1,(c0.2.2.2.2.1,(if (IntKind.i64.wrap (c0.2.2.2.2.2 + 1)) < 4 then (IntKind.i64.wrap (c0.2.2.2.2.2 + 1)) else 4))))))).bind fun r5 =>
 some (r5,true)
 else
 some ((c0.1,(c0.2.1,(c0.2.2.1,(c0.2.2.2.1,(c0.2.2.2.2.1,(if (IntKind.i64.wrap (c0.2.2.2.2.2 + 1)) < 4 then (IntKind.i64.wrap (c0.2.2.2.2.2 + 1)) else 4)))))),true)
 else if (!c0.2.2.2.2.1) = false then
 if c0.1 = false then
 if c0.2.1 = true then
 some (c0,false)
 else
 some ((c0.1,(c0.2.1,(c0.2.2.1,(c0.2.2.2.1,(false,c0.2.2.2.2.2))))),true)
 else
 some (c0,false)
 else
 some (c0,false)
def QaB.fn (n : Nat) (c0 : Bool × Bool × Bool × Bool × Bool × Int) (p : Int) : Option (YE × Bool) := QaB.top c0 p
def QaB.f (c0 : Bool × Bool × Bool × Bool × Bool × Int) (p : Int) : Option (YE × Bool) := QaB.fn NN c0 p
end
end Go.Pl

namespace Go.Pl
open Go.Ev
set_option linter.unusedVariables false
noncomputable section
def QI.g2 (L2 : Int → YE → Bool → Bool → Bool → Bool → Bool → Int → Option YE) (k5 : Int) (c2 : Bool × Bool × Bool × Bool × Bool × Int) (v4a : Bool) (t : Bool) (s : Bool) (r : Bool) (p : Bool) (q : Int) : Option YE :=
 if (decide ((0 : Int) < k5)) = true then
 (QaB.f c2 8).bind fun r1 =>
 L2 (IntKind.i64.wrap (k5 - 1)) r1.1 v4a t s r p q
 else
 some c2
def QI.l2 (n : Nat) : Nat → Int → YE → Bool → Bool → Bool → Bool → Bool → Int → Option YE
 | 0 => fun _ _ _ _ _ _ _ _ => none
 | k + 1 => QI.g2 (QI.l2 n k)
def QI.top (I2 : Int → YE → Bool → Bool → Bool → Bool → Bool → Int → Option YE) (c0 : Bool × Bool × Bool × Bool × Bool × Int) (n1 : Int) : Option YE :=
 I2 (if 5 < n1 then 5 else n1) c0 false false false false false 0
def QI.fn (n : Nat) (c0 : Bool × Bool × Bool × Bool × Bool × Int) (n1 : Int) : Option YE := QI.top (QI.l2 n n) c0 n1
def QI.f (c0 : Bool × Bool × Bool × Bool × Bool × Int) (n1 : Int) : Option YE := QI.fn NN c0 n1
end
end Go.Pl

namespace Go.Pl
open Go.Ev
set_option linter.unusedVariables false
noncomputable section
def QN.g4 (L4 : YAN) (p : List YC) (q : Int) (v : Int) (i9 : Int) (v4a : Bool) (y : Bool) (w : Bool) (u : Bool) (s : Bool) (t : Int) (c6 : Bool × Bool × Bool × Bool × Bool × Int) (r : List Int) : Option YAM :=
 if (decide ((i9 : Int) < (p.length : Int))) = true then
 if (0 : Int) ≤ i9 ∧ (i9 : Int) < p.length then
 if (decide ((((p.getD (i9 : Int).toNat (0,0)).1) : Int) ≤ q)) = true then
 if (0 : Int) ≤ i9 ∧ (i9 : Int) < p.length then
 (QI.f c6 (IntKind.i64.wrap (((p.getD (i9 : Int).toNat (0,0)).1) - v))).bind fun r1 =>
 if (0 : Int) ≤ i9 ∧ (i9 : Int) < p.length then
 if (0 : Int) ≤ i9 ∧ (i9 : Int) < p.length then
 (QaB.f r1 ((p.getD (i9 : Int).toNat (0,0)).2)).bind fun r2 =>
 if r2.2 = true then
 L4 p q ((p.getD (i9 : Int).toNat (0,0)).1) (IntKind.i64.wrap (i9 + 1)) v4a y w u s t r2.1 r
 else if r.length + ([i9]).length < room 8 then
 L4 p q ((p.getD (i9 : Int).toNat (0,0)).1) (IntKind.i64.wrap (i9 + 1)) v4a y w u s t r1 (r ++ ([i9]))
 else
 none
 else
 none
 else
 none
 else
 none
 else
 (QI.f c6 (IntKind.i64.wrap (q - v))).bind fun r3 =>
 some (r3,r)
 else
 none
 else
 (QI.f c6 (IntKind.i64.wrap (q - v))).bind fun r4 =>
 some (r4,r)
def QN.l4 (n : Nat) : Nat → YF → Int → Int → Int → Bool → Bool → Bool → Bool → Bool → Int → YE → List Int → Option YAM
 | 0 => fun _ _ _ _ _ _ _ _ _ _ _ _ => none
 | k + 1 => QN.g4 (QN.l4 n k)
def QN.top (I4 : YAN) (p : List YC) (q : Int) : Option YAM :=
 I4 p q 0 0 false false false false false 0 (false,(false,(false,(false,(false,0))))) []
def QN.fn (n : Nat) (p : List YC) (q : Int) : Option YAM := QN.top (QN.l4 n n) p q
def QN.f (p : List YC) (q : Int) : Option YAM := QN.fn NN p q
end
end Go.Pl

namespace Go.Pl
open Go.Ev
set_option linter.unusedVariables false
noncomputable section
def Ql.g9 (L3 : YAO) (L9 : List Int → YF → YL → List ByteArray → Int → Int → Bool → Int → List Int → Option YQ) (p : List Int) (s : List YC) (r : List YD) (q : List ByteArray) (i10 : Int) (u : Int) (v : Bool) (k15 : Int) (t : List Int) : Option YQ :=
 if (decide ((k15 : Int) < (q.length : Int))) = true then
 if v = true then
 if (0 : Int) ≤ k15 ∧ (k15 : Int) < q.length then
 (QQ.f r (q.getD (k15 : Int).toNat ByteArray.empty) (IntKind.i64.wrap (u * 100))).bind fun r2 =>
 L9 p s r q i10 u r2 (IntKind.i64.wrap (k15 + 1)) t
 else
 none
 else
 L9 p s r q i10 u false (IntKind.i64.wrap (k15 + 1)) t
 else if v = true then
 if t.length + ([u]).length < room 8 then
 L3 p s r q (IntKind.i64.wrap (i10 + 1)) (t ++ ([u]))
 else
 none
 else if t.length + ([(-1)]).length < room 8 then
 L3 p s r q (IntKind.i64.wrap (i10 + 1)) (t ++ ([(-1)]))
 else
 none
def Ql.l9 (n : Nat) (L3 : YAO) : Nat → List Int → YF → YL → List ByteArray → Int → Int → Bool → Int → List Int → Option YQ
 | 0 => fun _ _ _ _ _ _ _ _ _ => none
 | k + 1 => Ql.g9 L3 (Ql.l9 n L3 k)
def Ql.g3 (I9 : List Int → YF → YL → List ByteArray → Int → Int → Bool → Int → List Int → Option YQ) (L3 : YAO) (p : List Int) (s : List YC) (r : List YD) (q : List ByteArray) (i10 : Int) (t : List Int) : Option YQ :=
 if (decide ((i10 : Int) < (p.length : Int))) = true then
 if (0 : Int) ≤ i10 ∧ (i10 : Int) < p.length then
 (QN.f s (IntKind.i64.wrap (Int.tdiv (p.getD (i10 : Int).toNat 0) 100))).bind fun r1 =>
 if r1.1.2.2.1 = true then
 I9 p s r q i10 (IntKind.i64.wrap (Int.tdiv (p.getD (i10 : Int).toNat 0) 100)) (!r1.1.2.2.2.1) 0 t
 else
 I9 p s r q i10 (IntKind.i64.wrap (Int.tdiv (p.getD (i10 : Int).toNat 0) 100)) false 0 t
 else
 none
 else
 some t
def Ql.l3 (n : Nat) : Nat → List Int → YF → YL → List ByteArray → Int → List Int → Option YQ
 | 0 => fun _ _ _ _ _ _ => none
 | k + 1 => Ql.g3 (Ql.l9 n (Ql.l3 n k) n) (Ql.l3 n k)
def Ql.top (I3 : YAO) (p : List Int) (s : List YC) (r : List YD) (q : List ByteArray) : Option YQ :=
 I3 p s r q 0 []
def Ql.fn (n : Nat) (p : List Int) (s : List YC) (r : List YD) (q : List ByteArray) : Option YQ := Ql.top (Ql.l3 n n) p s r q
def Ql.f (p : List Int) (s : List YC) (r : List YD) (q : List ByteArray) : Option YQ := Ql.fn NN p s r q
end
end Go.Pl

namespace Go.Pl
open Go.Ev
set_option linter.unusedVariables false
noncomputable section
def Qz.g2 (L2 : YF → Int → Option Bool) (p : List YC) (i3 : Int) : Option Bool :=
 if (decide ((i3 : Int) < (p.length : Int))) = true then
 if (0 : Int) ≤ i3 ∧ (i3 : Int) < p.length then
 (Qae.f ((p.getD (i3 : Int).toNat (0,0)).1) 0 100000).bind fun r1 =>
 if (!r1) = false then
 (Qae.f ((p.getD (i3 : Int).toNat (0,0)).2) 0 9).bind fun r2 =>
 if (!r2) = false then
 if ((((p.getD (i3 : Int).toNat (0,0)).2) : Int) == 8) = false then
 if (decide ((0 : Int) < i3)) = true then
 if (0 : Int) ≤ (IntKind.i64.wrap (i3 - 1)) ∧ ((IntKind.i64.wrap (i3 - 1)) : Int) < p.length then
 if (decide ((((p.getD (i3 : Int).toNat (0,0)).1) : Int) < ((p.getD ((IntKind.i64.wrap (i3 - 1)) : Int).toNat (0,0)).1))) = true then
 some false
 else
 L2 p (IntKind.i64.wrap (i3 + 1))
 else
 none
 else
 L2 p (IntKind.i64.wrap (i3 + 1))
 else
 some false
 else
 some false
 else
 some false
 else
 none
 else
 some (decide (((p.length : Int) : Int) ≤ 40))
def Qz.l2 (n : Nat) : Nat → YF → Int → Option Bool
 | 0 => fun _ _ => none
 | k + 1 => Qz.g2 (Qz.l2 n k)
def Qz.top (I2 : YF → Int → Option Bool) (p : List YC) : Option Bool :=
 I2 p 0
def Qz.fn (n : Nat) (p : List YC) : Option Bool := Qz.top (Qz.l2 n n) p
def Qz.f (p : List YC) : Option Bool := Qz.fn NN p
end
end Go.Pl

namespace Go.Pl
open Go.Ev
set_option linter.unusedVariables false
noncomputable section
def Qac.g2 (L2 : List ByteArray → Int → Option Bool) (p : List ByteArray) (i3 : Int) : Option Bool :=
 if (decide ((i3 : Int) < (p.length : Int))) = true then
 if (0 : Int) ≤ i3 ∧ (i3 : Int) < p.length then
 (QU.f (p.getD (i3 : Int).toNat ByteArray.empty)).bind fun r1 =>
 if (!r1) = true then
 some false
 else
 L2 p (IntKind.i64.wrap (i3 + 1))
 else
 none
 else
 some true
def Qac.l2 (n : Nat) : Nat → List ByteArray → Int → Option Bool
 | 0 => fun _ _ => none
 | k + 1 => Qac.g2 (Qac.l2 n k)
def Qac.top (I2 : List ByteArray → Int → Option Bool) (p : List ByteArray) : Option Bool :=
 I2 p 0
def Qac.fn (n : Nat) (p : List ByteArray) : Option Bool := Qac.top (Qac.l2 n n) p
def Qac.f (p : List ByteArray) : Option Bool := Qac.fn NN p
end
end Go.Pl

namespace Go.Pl
open Go.Ev
set_option linter.unusedVariables false
noncomputable section
def QR.g2 (L2 : List Int → YF → YL → List ByteArray → Int → Option Int) (p : List Int) (s : List YC) (r : List YD) (q : List ByteArray) (i9 : Int) : Option Int :=
 if (decide ((i9 : Int) < (p.length : Int))) = true then
 if (0 : Int) ≤ i9 ∧ (i9 : Int) < p.length then
 (Qap.f (p.getD (i9 : Int).toNat 0)).bind fun r1 =>
 if (!r1) = true then
 some 1
 else
 L2 p s r q (IntKind.i64.wrap (i9 + 1))
 else
 none
 else if (decide ((20 : Int) < (p.length : Int))) = false then
 (Qz.f s).bind fun r2 =>
 if (!r2) = false then
 (QE.f r).bind fun r3 =>
 if (!r3) = false then
 (Qac.f q).bind fun r4 =>
 if (!r4) = false then
 if (decide ((60 : Int) < (q.length : Int))) = true then
 some 1
 else
 some 0
 else
 some 1
 else
 some 1
 else
 some 1
 else
 some 1
def QR.l2 (n : Nat) : Nat → List Int → YF → YL → List ByteArray → Int → Option Int
 | 0 => fun _ _ _ _ _ => none
 | k + 1 => QR.g2 (QR.l2 n k)
def QR.top (I2 : List Int → YF → YL → List ByteArray → Int → Option Int) (p : List Int) (s : List YC) (r : List YD) (q : List ByteArray) : Option Int :=
 I2 p s r q 0
def QR.fn (n : Nat) (p : List Int) (s : List YC) (r : List YD) (q : List ByteArray) : Option Int := QR.top (QR.l2 n n) p s r q
def QR.f (p : List Int) (s : List YC) (r : List YD) (q : List ByteArray) : Option Int := QR.fn NN p s r q
end
end Go.Pl

namespace Go.Pl
open Go.Ev
set_option linter.unusedVariables false
noncomputable section
def Qan.top (p : List Int) (s : List YC) (q : List YD) (r : List ByteArray) : Option (List Int × Int) :=
 (QR.f p s q r).bind fun r1 =>
 if ((r1 : Int) != 0) = true then
 some ([],r1)
 else
 (Ql.f p s q r).bind fun r2 =>
 some (r2,0)
def Qan.fn (n : Nat) (p : List Int) (s : List YC) (q : List YD) (r : List ByteArray) : Option (List Int × Int) := Qan.top p s q r
def Qan.f (p : List Int) (s : List YC) (q : List YD) (r : List ByteArray) : Option (List Int × Int) := Qan.fn NN p s q r
end
end Go.Pl

namespace Go.Pl
open Go.Ev
set_option linter.unusedVariables false
noncomputable section
def Qax.top (a0 : ByteArray × Int × Int × Int × Int × Int × Int × Int × Int) (q : Int) (p : Int) : Option YQ :=
 some ([IntKind.i64.wrap ((IntKind.i64.wrap ((IntKind.i64.wrap (q + a0.2.2.2.1)) + (IntKind.i64.wrap (p * a0.2.2.2.2.2.2.1)))) - a0.2.2.2.2.1),IntKind.i64.wrap ((IntKind.i64.wrap ((IntKind.i64.wrap (q + a0.2.2.2.1)) + (IntKind.i64.wrap (p * a0.2.2.2.2.2.2.1)))) + a0.2.2.2.2.1)])
def Qax.fn (n : Nat) (a0 : ByteArray × Int × Int × Int × Int × Int × Int × Int × Int) (q : Int) (p : Int) : Option YQ := Qax.top a0 q p
def Qax.f (a0 : ByteArray × Int × Int × Int × Int × Int × Int × Int × Int) (q : Int) (p : Int) : Option YQ := Qax.fn NN a0 q p
end
end Go.Pl

namespace Go.Pl
open Go.Ev
set_option linter.unusedVariables false
noncomputable section
def QV.g5 (L5 : YAL) (k1 : Int) (i8 : Int) (x2 : YF × YG × List YB) (c5 : Int × Int × ByteArray × Int) (a6 : ByteArray × Int × Int × Int × Int × Int × Int × Int × Int) (p : List YQ) : Option YAG :=
 if (decide ((i8 : Int) < a6.2.2.2.2.2.1)) = true then
 (QaE.f x2 c5).bind fun r2 =>
 (Qax.f a6 r2 i8).bind fun r3 =>
 if (0 : Int) ≤ 0 ∧ (0 : Int) < r3.length then
 if (0 : Int) ≤ 1 ∧ (1 : Int) < r3.length then
 if p.length + ([[r3.getD (0 : Int).toNat 0,r3.getD (1 : Int).toNat 0,k1]]).length < room 24 then
 L5 k1 (IntKind.i64.wrap (i8 + 1)) x2 c5 a6 (p ++ ([[r3.getD (0 : Int).toNat 0,r3.getD (1 : Int).toNat 0,k1]]))
 else
 none
 else
 none
 else
 none
 else
 some p
def QV.l5 (n : Nat) : Nat → Int → Int → YH → YB → YA → List YQ → Option YAG
 | 0 => fun _ _ _ _ _ _ => none
 | k + 1 => QV.g5 (QV.l5 n k)
def QV.top (I5 : YAL) (x0 : YF × YG × List YB) (k1 : Int) : Option YAG :=
 if (0 : Int) ≤ k1 ∧ (k1 : Int) < x0.2.2.length then
 (QW.f x0.2.1 ((((x0.2.2.getD (k1 : Int).toNat (0,(0,(ByteArray.empty,0)))).2).2).1)).bind fun r1 =>
 if (0 : Int) ≤ r1 ∧ (r1 : Int) < x0.2.1.length then
 I5 k1 0 x0 (x0.2.2.getD (k1 : Int).toNat (0,(0,(ByteArray.empty,0)))) (x0.2.1.getD (r1 : Int).toNat (ByteArray.empty,(0,(0,(0,(0,(0,(0,(0,0))))))))) []
 else
 none
 else
 none
def QV.fn (n : Nat) (x0 : YF × YG × List YB) (k1 : Int) : Option YAG := QV.top (QV.l5 n n) x0 k1
def QV.f (x0 : YF × YG × List YB) (k1 : Int) : Option YAG := QV.fn NN x0 k1
end
end Go.Pl

namespace Go.Pl
open Go.Ev
set_option linter.unusedVariables false
noncomputable section
def Qaf.g3 (L3 : Int → YH → List YQ → Option YAG) (k4 : Int) (x1 : YF × YG × List YB) (p : List YQ) : Option YAG :=
 if (decide ((k4 : Int) < (x1.2.2.length : Int))) = true then
 (QV.f x1 k4).bind fun r1 =>
 if p.length + r1.length < room 24 then
 L3 (IntKind.i64.wrap (k4 + 1)) x1 (p ++ r1)
 else
 none
 else
 some p
def Qaf.l3 (n : Nat) : Nat → Int → YH → List YQ → Option YAG
 | 0 => fun _ _ _ => none
 | k + 1 => Qaf.g3 (Qaf.l3 n k)
def Qaf.top (I3 : Int → YH → List YQ → Option YAG) (x0 : YF × YG × List YB) : Option YAG :=
 I3 0 x0 []
def Qaf.fn (n : Nat) (x0 : YF × YG × List YB) : Option YAG := Qaf.top (Qaf.l3 n n) x0
def Qaf.f (x0 : YF × YG × List YB) : Option YAG := Qaf.fn NN x0
end
end Go.Pl

namespace Go.Pl
open Go.Ev
set_option linter.unusedVariables false
noncomputable section
def Qay.top (x0 : YF × YG × List YB) : Option (List YQ × Int) :=
 (Q4.f x0).bind fun r1 =>
 if (!r1) = true then
 some ([],1)
 else
 (Qaf.f x0).bind fun r2 =>
 some (r2,0)
def Qay.fn (n : Nat) (x0 : YF × YG × List YB) : Option (List YQ × Int) := Qay.top x0
def Qay.f (x0 : YF × YG × List YB) : Option (List YQ × Int) := Qay.fn NN x0
end
end Go.Pl

namespace Go.Pl
open Go.Ev
set_option linter.unusedVariables false
noncomputable section
def Qg.g30 (L25 : YAB) (L30 : YAB) (v : Int) (q : List YD) (s : List Int) (t : Int) (u : Int) (k32 : Int) (x11 : YF × YG × List YB) (w12 : List YQ) (p : List YQ) (b19 : List YD) (r : List YD) : Option Bool :=
 if (decide ((u : Int) < (w12.length : Int))) = true then
 if (0 : Int) ≤ u ∧ (u : Int) < p.length then
 if (0 : Int) ≤ 2 ∧ (2 : Int) < (p.getD (u : Int).toNat []).length then
 if ((((p.getD (u : Int).toNat []).getD (2 : Int).toNat 0) : Int) == k32) = true then
 L30 v q s t (IntKind.i64.wrap (u + 1)) k32 x11 w12 p b19 r
 else
 L25 v q s t u (IntKind.i64.wrap (k32 + 1)) x11 w12 p b19 r
 else
 none
 else
 none
 else
 L25 v q s t u (IntKind.i64.wrap (k32 + 1)) x11 w12 p b19 r
def Qg.l30 (n : Nat) (L25 : YAB) : Nat → Int → YL → List Int → Int → Int → Int → YH → List YQ → List YQ → YL → YL → Option Bool
 | 0 => fun _ _ _ _ _ _ _ _ _ _ _ => none
 | k + 1 => Qg.g30 L25 (Qg.l30 n L25 k)
def Qg.g36 (L36 : YL → List Int → Int → Int → YL → YL → Option Bool) (q : List YD) (s : List Int) (d : Int) (i36 : Int) (b19 : List YD) (r : List YD) : Option Bool :=
 if (decide ((i36 : Int) < (r.length : Int))) = true then
 if (0 : Int) ≤ i36 ∧ (i36 : Int) < b19.length then
 if ((((b19.getD (i36 : Int).toNat (0,(ByteArray.empty,0))).1) : Int) != 1) = true then
 some false
 else if (0 : Int) ≤ i36 ∧ (i36 : Int) < b19.length then
 L36 q s (IntKind.i64.wrap (d + (((b19.getD (i36 : Int).toNat (0,(ByteArray.empty,0))).2).2))) (IntKind.i64.wrap (i36 + 1)) b19 r
 else
 none
 else
 none
 else if ((d : Int) == (s.length : Int)) = true then
 if (0 : Int) ≤ (q.length : Int) ∧ ((q.length : Int) : Int) ≤ b19.length then
 (Qr.f (b19.take ((q.length : Int) : Int).toNat) q).bind fun r18 =>
 some r18
 else
 none
 else
 some false
def Qg.l36 (n : Nat) : Nat → YL → List Int → Int → Int → YL → YL → Option Bool
 | 0 => fun _ _ _ _ _ _ => none
 | k + 1 => Qg.g36 (Qg.l36 n k)
def Qg.g25 (I30 : YAB) (I36 : YL → List Int → Int → Int → YL → YL → Option Bool) (L25 : YAB) (v : Int) (q : List YD) (s : List Int) (t : Int) (u : Int) (k32 : Int) (x11 : YF × YG × List YB) (w12 : List YQ) (p : List YQ) (b19 : List YD) (r : List YD) : Option Bool :=
 if ((v : Int) == 0) = true then
 if (decide ((k32 : Int) < (x11.2.2.length : Int))) = true then
 if (0 : Int) ≤ k32 ∧ (k32 : Int) < x11.2.2.length then
 if (0 : Int) ≤ k32 ∧ (k32 : Int) < x11.2.2.length then
 (QaG.f x11.1 ((x11.2.2.getD (k32 : Int).toNat (0,(0,(ByteArray.empty,0)))).1) (((x11.2.2.getD (k32 : Int).toNat (0,(0,(ByteArray.empty,0)))).2).1)).bind fun r17 =>
 if ((r17.2 : Int) != 0) = false then
 if (decide (((w12.length : Int) : Int) ≤ u)) = false then
 if (0 : Int) ≤ u ∧ (u : Int) < p.length then
 if (0 : Int) ≤ 2 ∧ (2 : Int) < (p.getD (u : Int).toNat []).length then
 if ((((p.getD (u : Int).toNat []).getD (2 : Int).toNat 0) : Int) != k32) = false then
 if (0 : Int) ≤ u ∧ (u : Int) < w12.length then
 if (0 : Int) ≤ 0 ∧ (0 : Int) < (w12.getD (u : Int).toNat []).length then
 if (decide ((r17.1 : Int) < ((w12.getD (u : Int).toNat []).getD (0 : Int).toNat 0))) = false then
 if (0 : Int) ≤ u ∧ (u : Int) < w12.length then
 if (0 : Int) ≤ 1 ∧ (1 : Int) < (w12.getD (u : Int).toNat []).length then
 if (decide ((((w12.getD (u : Int).toNat []).getD (1 : Int).toNat 0) : Int) < r17.1)) = true then
 some false
 else
 I30 v q s t u k32 x11 w12 p b19 r
 else
 none
 else
 none
 else
 some false
 else
 none
 else
 none
 else
 some false
 else
 none
 else
 none
 else
 some false
 else
 some false
 else
 none
 else
 none
 else if ((t : Int) != 0) = true then
 some true
 else
 I36 q s 0 (q.length : Int) b19 r
 else if ((t : Int) != 0) = true then
 some true
 else
 I36 q s 0 (q.length : Int) b19 r
def Qg.l25 (n : Nat) : Nat → Int → YL → List Int → Int → Int → Int → YH → List YQ → List YQ → YL → YL → Option Bool
 | 0 => fun _ _ _ _ _ _ _ _ _ _ _ => none
 | k + 1 => Qg.g25 (Qg.l30 n (Qg.l25 n k) n) (Qg.l36 n n) (Qg.l25 n k)
def Qg.g15 (I25 : YAB) (L15 : YAR) (w : List Int) (b : List YC) (z : List YD) (a : List ByteArray) (c : Int) (v : Int) (q : List YD) (s : List Int) (t : Int) (i23 : Int) (f7 : List Int) (x11 : YF × YG × List YB) (w12 : List YQ) (p : List YQ) (b19 : List YD) (r : List YD) : Option Bool :=
 if ((c : Int) == 0) = true then
 if (decide ((i23 : Int) < (w.length : Int))) = true then
 if (0 : Int) ≤ i23 ∧ (i23 : Int) < w.length then
 (Qb.f b (IntKind.i64.wrap (Int.tdiv (w.getD (i23 : Int).toNat 0) 100))).bind fun r14 =>
 (QaN.f r14.1).bind fun r15 =>
 (Qal.f z a (IntKind.i64.wrap ((IntKind.i64.wrap (Int.tdiv (w.getD (i23 : Int).toNat 0) 100)) * 100))).bind fun r16 =>
 if ((r14.2 : Int) != 0) = false then
 if ((r15.2 : Int) != 0) = false then
 if ((r16.2 : Int) != 0) = false then
 if (0 : Int) ≤ i23 ∧ (i23 : Int) < f7.length then
 if r15.1 = true then
 if (!((decide ((0 : Int) ≤ (f7.getD (i23 : Int).toNat 0))) == r16.1)) = false then
 if (0 : Int) ≤ i23 ∧ (i23 : Int) < f7.length then
 if (decide ((0 : Int) ≤ (f7.getD (i23 : Int).toNat 0))) = true then
 if (0 : Int) ≤ i23 ∧ (i23 : Int) < f7.length then
 if (((f7.getD (i23 : Int).toNat 0) : Int) != (IntKind.i64.wrap (Int.tdiv (w.getD (i23 : Int).toNat 0) 100))) = true then
 some false
 else
 L15 w b z a c v q s t (IntKind.i64.wrap (i23 + 1)) f7 x11 w12 p b19 r
 else
 none
 else
 L15 w b z a c v q s t (IntKind.i64.wrap (i23 + 1)) f7 x11 w12 p b19 r
 else
 none
 else
 some false
 else if (!((decide ((0 : Int) ≤ (f7.getD (i23 : Int).toNat 0))) == false)) = false then
 if (0 : Int) ≤ i23 ∧ (i23 : Int) < f7.length then
 if (decide ((0 : Int) ≤ (f7.getD (i23 : Int).toNat 0))) = true then
 if (0 : Int) ≤ i23 ∧ (i23 : Int) < f7.length then
 if (((f7.getD (i23 : Int).toNat 0) : Int) != (IntKind.i64.wrap (Int.tdiv (w.getD (i23 : Int).toNat 0) 100))) = true then
 some false
 else
 L15 w b z a c v q s t (IntKind.i64.wrap (i23 + 1)) f7 x11 w12 p b19 r
 else
 none
 else
 L15 w b z a c v q s t (IntKind.i64.wrap (i23 + 1)) f7 x11 w12 p b19 r
 else
 none
 else
 some false
 else
 none
 else
 some false
 else
 some false
 else
 some false
 else
 none
 else
 I25 v q s t 0 0 x11 w12 p b19 r
 else
 I25 v q s t 0 0 x11 w12 p b19 r
def Qg.l15 (n : Nat) : Nat → List Int → YF → YL → List ByteArray → Int → Int → YL → List Int → Int → Int → List Int → YH → List YQ → List YQ → YL → YL → Option Bool
 | 0 => fun _ _ _ _ _ _ _ _ _ _ _ _ _ _ _ _ => none
 | k + 1 => Qg.g15 (Qg.l25 n n) (Qg.l15 n k)
def Qg.top (I15 : YAR) (y : List Int) : Option Bool :=
 (QaS.f y).bind fun r1 =>
 if r1 = true then
 some true
 else
 (Qag.f y).bind fun r2 =>
 (Qam.f r2.1 r2.2.1 r2.2.2.1 r2.2.2.2).bind fun r3 =>
 (Qan.f r2.1 r2.2.1 r2.2.2.1 r2.2.2.2).bind fun r4 =>
 (Qai.f y).bind fun r5 =>
 (Qav.f r5).bind fun r6 =>
 (Qay.f r5).bind fun r7 =>
 (Qf.f y).bind fun r8 =>
 (Qj.f r8.1 r8.2.1 r8.2.2).bind fun r9 =>
 (Qk.f r8.1 r8.2.1 r8.2.2).bind fun r10 =>
 if ((r3.2 : Int) != r4.2) = false then
 (QL.f r3.1 r4.1).bind fun r11 =>
 if (!r11) = false then
 if ((r6.2 : Int) != r7.2) = false then
 (QP.f r6.1 r7.1).bind fun r12 =>
 if (!r12) = false then
 if ((r9.2 : Int) != r10.2) = false then
 (Qr.f r9.1 r10.1).bind fun r13 =>
 if (!r13) = true then
 some false
 else
 I15 r2.1 r2.2.1 r2.2.2.1 r2.2.2.2 r3.2 r6.2 r8.1 r8.2.2 r9.2 0 r3.1 r5 r6.1 r7.1 r9.1 r10.1
 else
 some false
 else
 some false
 else
 some false
 else
 some false
 else
 some false
def Qg.fn (n : Nat) (y : List Int) : Option Bool := Qg.top (Qg.l15 n n) y
def Qg.f (y : List Int) : Option Bool := Qg.fn NN y
end
end Go.Pl

namespace Go.Ev.Tryz
open Go.Proofs Go.Pl
set_option linter.unusedVariables false
noncomputable section
def QaS.con : Con := { ps := [(.val,(.sl 5 (.int .u8)))],rs := [(.val,.bool)],F := fun x => QaS.f x }
def QaS.cs : List (FuncId × Con) := []
def QaS.E : Env := envOf tab QaS.cs 0 false
def QaS.keep (i : Nat) : List Nat := []
set_option maxRecDepth 100000 in
theorem QaS.body (n : Nat) (x : List Int) : bodyF QaS.E QaS.keep n Tryz.f4 QaS.con x = QaS.fn n x := by
 have h : bodyF QaS.E QaS.keep n Tryz.f4 QaS.con x = QaS.top x := by kernel_rfl
 exact h
set_option maxRecDepth 100000 in
theorem QaS.good : Good Tryz.prog 4 QaS.con :=
 Vg tabok (cs := QaS.cs) trivial 0 false (fn := Tryz.f4) Tryz.func4 rfl (by decide) (by simp [QaS.con]) QaS.keep NN (fun _ => rfl) (fun x => QaS.body NN x)
end
end Go.Ev.Tryz

namespace Go.Ev.Tryz
open Go.Proofs Go.Pl
set_option linter.unusedVariables false
noncomputable section
def QS.st3 (p : List Int) (i4 : Int) (s3a : List Int) (q : Int) (r : Int) : St := ⟨[.dat (.sl 5 (.int .u8)) p,.gone,.gone,.ptr 0 [],.dat (.int .i64) i4,.gone,.gone,.gone,.gone,.gone,.gone,.gone,.gone,.gone,.gone,.gone,.gone,.gone,.gone,.gone,.gone,.gone,.gone,.gone,.gone,.gone,.gone,.gone,.gone,.gone,.gone,.gone,.gone,.gone],[.box 98 (.pair (.sl 5 (.int .u8)) (.pair (.int .i64) (.int .i64))) (.pr (.dat (.sl 5 (.int .u8)) s3a) (.pr (.dat (.int .i64) q) (.dat (.int .i64) r)))]⟩
def QS.con : Con := { ps := [(.val,(.sl 5 (.int .u8)))],rs := [(.bx 98,(.pair (.sl 5 (.int .u8)) (.pair (.int .i64) (.int .i64))))],F := fun x => QS.f x }
def QS.cs : List (FuncId × Con) := []
def QS.E : Env := envOf tab QS.cs 0 false
def QS.keep (i : Nat) : List Nat := if i = 3 then [0,3,4] else []
def QS.at3 (n : Nat) (x : List Int) : Code × (Ex → St → Option (YK)) := ctx QS.E QS.keep n [.snd,.snd,.fst,.snd,.blk] (Vh Tryz.f21) (kEnd QS.E Tryz.f21 QS.con x)
def QS.LN3 (n : Nat) (x : List Int) : Nat → St → Option (YK) := loopN (exec QS.E QS.keep n (Vm (QS.at3 n x).1)) (St.norm 0 (QS.keep 3)) (QS.at3 n x).2
set_option maxRecDepth 100000 in
theorem QS.lem3 (n : Nat) (x : List Int) : ∀ (k : Nat) (p : List Int) (i4 : Int) (s3a : List Int) (q : Int) (r : Int),QS.LN3 n x k (QS.st3 p i4 s3a q r) = QS.l3 n k p i4 s3a q r := by
 intro k
 induction k with
 | zero => intro p i4 s3a q r; rfl
 | succ k ih =>
  intro p i4 s3a q r
  have h : QS.LN3 n x (k + 1) (QS.st3 p i4 s3a q r) = QS.g3 (fun p i4 s3a q r => QS.LN3 n x k (QS.st3 p i4 s3a q r)) p i4 s3a q r := by kernel_rfl
  rw [h]
  simp only [ih]
  rfl
set_option maxRecDepth 100000 in
theorem QS.body (n : Nat) (x : List Int) : bodyF QS.E QS.keep n Tryz.f21 QS.con x = QS.fn n x := by
 have h : bodyF QS.E QS.keep n Tryz.f21 QS.con x = QS.top (fun p i4 s3a q r => QS.LN3 n x n (QS.st3 p i4 s3a q r)) x := by kernel_rfl
 rw [h]
 simp only [QS.lem3]
 rfl
set_option maxRecDepth 100000 in
theorem QS.good : Good Tryz.prog 21 QS.con :=
 Vg tabok (cs := QS.cs) trivial 0 false (fn := Tryz.f21) Tryz.func21 rfl (by decide) (by simp [QS.con]) QS.keep NN (fun _ => rfl) (fun x => QS.body NN x)
end
end Go.Ev.Tryz

namespace Go.Ev.Tryz
open Go.Proofs Go.Pl
set_option linter.unusedVariables false
noncomputable section
def Qd.con : Con := { ps := [(.bx 98,(.pair (.sl 5 (.int .u8)) (.pair (.int .i64) (.int .i64)))),(.val,(.int .i64))],rs := [(.val,(.int .i64))],F := fun x => Qd.f x.1 x.2 }
def Qd.cs : List (FuncId × Con) := []
def Qd.E : Env := envOf tab Qd.cs 1 false
def Qd.keep (i : Nat) : List Nat := []
set_option maxRecDepth 100000 in
theorem Qd.body (n : Nat) (x : YK × Int) : bodyF Qd.E Qd.keep n Tryz.f25 Qd.con x = Qd.fn n x.1 x.2 := by
 have h : bodyF Qd.E Qd.keep n Tryz.f25 Qd.con x = Qd.top x.1 x.2 := by kernel_rfl
 exact h
set_option maxRecDepth 100000 in
theorem Qd.good : Good Tryz.prog 25 Qd.con :=
 Vg tabok (cs := Qd.cs) trivial 1 false (fn := Tryz.f25) Tryz.func25 rfl (by decide) (by simp [Qd.con]) Qd.keep NN (fun _ => rfl) (fun x => Qd.body NN x)
end
end Go.Ev.Tryz

namespace Go.Ev.Tryz
open Go.Proofs Go.Pl
set_option linter.unusedVariables false
noncomputable section
def QM.con : Con := { ps := [(.bx 98,(.pair (.sl 5 (.int .u8)) (.pair (.int .i64) (.int .i64)))),(.val,(.sl 2 (.int .i64)))],rs := [(.val,(.int .i64))],F := fun x => QM.f x.1 x.2 }
def QM.cs : List (FuncId × Con) := [(25,Qd.con)]
def QM.E : Env := envOf tab QM.cs 1 false
def QM.keep (i : Nat) : List Nat := []
set_option maxRecDepth 100000 in
theorem QM.body (n : Nat) (x : YK × List Int) : bodyF QM.E QM.keep n Tryz.f56 QM.con x = QM.fn n x.1 x.2 := by
 have h : bodyF QM.E QM.keep n Tryz.f56 QM.con x = QM.top x.1 x.2 := by kernel_rfl
 exact h
set_option maxRecDepth 100000 in
theorem QM.good : Good Tryz.prog 56 QM.con :=
 Vg tabok (cs := QM.cs) ⟨Qd.good,trivial⟩ 1 false (fn := Tryz.f56) Tryz.func56 rfl (by decide) (by simp [QM.con]) QM.keep NN (fun _ => rfl) (fun x => QM.body NN x)
end
end Go.Ev.Tryz

namespace Go.Ev.Tryz
open Go.Proofs Go.Pl
set_option linter.unusedVariables false
noncomputable section
def Qs.st3 (n4 : Int) (s0 : List Int × Int × Int) (p : List Int) : St := ⟨[.ptr 0 [],.gone,.gone,.ref 1,.dat (.int .i64) n4,.gone,.gone,.gone,.gone,.gone,.gone,.gone,.gone,.gone,.gone,.gone,.gone,.gone,.gone,.gone,.gone,.gone,.gone,.gone,.gone,.gone,.gone,.gone,.gone,.gone,.gone,.gone,.gone,.gone],[.box 98 (.pair (.sl 5 (.int .u8)) (.pair (.int .i64) (.int .i64))) (.dat (.pair (.sl 5 (.int .u8)) (.pair (.int .i64) (.int .i64))) s0),.row 2 (.int .i64) p none]⟩
def Qs.con : Con := { ps := [(.bx 98,(.pair (.sl 5 (.int .u8)) (.pair (.int .i64) (.int .i64))))],rs := [(.own,(.sl 2 (.int .i64)))],F := fun x => Qs.f x }
def Qs.cs : List (FuncId × Con) := [(25,Qd.con),(56,QM.con)]
def Qs.E : Env := envOf tab Qs.cs 1 false
def Qs.keep (i : Nat) : List Nat := if i = 3 then [0,3,4] else []
def Qs.at3 (n : Nat) (x : List Int × Int × Int) : Code × (Ex → St → Option (YAK)) := ctx Qs.E Qs.keep n [.snd,.snd,.fst,.snd,.blk] (Vh Tryz.f22) (kEnd Qs.E Tryz.f22 Qs.con x)
def Qs.LN3 (n : Nat) (x : List Int × Int × Int) : Nat → St → Option (YAK) := loopN (exec Qs.E Qs.keep n (Vm (Qs.at3 n x).1)) (St.norm 1 (Qs.keep 3)) (Qs.at3 n x).2
set_option maxRecDepth 100000 in
theorem Qs.lem3 (n : Nat) (x : List Int × Int × Int) : ∀ (k : Nat) (n4 : Int) (s0 : List Int × Int × Int) (p : List Int),Qs.LN3 n x k (Qs.st3 n4 s0 p) = Qs.l3 n k n4 s0 p := by
 intro k
 induction k with
 | zero => intro n4 s0 p; rfl
 | succ k ih =>
  intro n4 s0 p
  have h : Qs.LN3 n x (k + 1) (Qs.st3 n4 s0 p) = Qs.g3 (fun n4 s0 p => Qs.LN3 n x k (Qs.st3 n4 s0 p)) n4 s0 p := by kernel_rfl
  rw [h]
  simp only [ih]
  rfl
set_option maxRecDepth 100000 in
theorem Qs.body (n : Nat) (x : List Int × Int × Int) : bodyF Qs.E Qs.keep n Tryz.f22 Qs.con x = Qs.fn n x := by
 have h : bodyF Qs.E Qs.keep n Tryz.f22 Qs.con x = Qs.top (fun n4 s0 p => Qs.LN3 n x n (Qs.st3 n4 s0 p)) x := by kernel_rfl
 rw [h]
 simp only [Qs.lem3]
 rfl
set_option maxRecDepth 100000 in
theorem Qs.good : Good Tryz.prog 22 Qs.con :=
 Vg tabok (cs := Qs.cs) ⟨Qd.good,QM.good,trivial⟩ 1 false (fn := Tryz.f22) Tryz.func22 rfl (by decide) (by simp [Qs.con]) Qs.keep NN (fun _ => rfl) (fun x => Qs.body NN x)
end
end Go.Ev.Tryz

namespace Go.Ev.Tryz
open Go.Proofs Go.Pl
set_option linter.unusedVariables false
noncomputable section
def Q9.st7 (p : Int) (n5 : Int) (s0 : List Int × Int × Int) (q : List YC) : St := ⟨[.ptr 0 [],.gone,.gone,.ref 1,.dat (.int .i64) p,.dat (.int .i64) n5,.gone,.gone,.gone,.gone,.gone,.gone,.gone,.gone,.gone,.gone,.gone,.gone,.gone,.gone,.gone,.gone,.gone,.gone,.gone,.gone,.gone,.gone,.gone,.gone,.gone,.gone,.gone,.gone,.gone,.gone,.gone,.gone,.gone,.gone,.gone,.gone,.gone,.gone],[.box 98 (.pair (.sl 5 (.int .u8)) (.pair (.int .i64) (.int .i64))) (.dat (.pair (.sl 5 (.int .u8)) (.pair (.int .i64) (.int .i64))) s0),.row 101 (.pair (.int .i64) (.int .i64)) q none]⟩
def Q9.con : Con := { ps := [(.bx 98,(.pair (.sl 5 (.int .u8)) (.pair (.int .i64) (.int .i64))))],rs := [(.own,(.sl 101 (.pair (.int .i64) (.int .i64))))],F := fun x => Q9.f x }
def Q9.cs : List (FuncId × Con) := [(25,Qd.con),(56,QM.con)]
def Q9.E : Env := envOf tab Q9.cs 1 false
def Q9.keep (i : Nat) : List Nat := if i = 7 then [0,3,4,5] else []
def Q9.at7 (n : Nat) (x : List Int × Int × Int) : Code × (Ex → St → Option (YV)) := ctx Q9.E Q9.keep n [.snd,.snd,.snd,.snd,.fst,.snd,.blk] (Vh Tryz.f57) (kEnd Q9.E Tryz.f57 Q9.con x)
def Q9.LN7 (n : Nat) (x : List Int × Int × Int) : Nat → St → Option (YV) := loopN (exec Q9.E Q9.keep n (Vm (Q9.at7 n x).1)) (St.norm 1 (Q9.keep 7)) (Q9.at7 n x).2
set_option maxRecDepth 100000 in
theorem Q9.lem7 (n : Nat) (x : List Int × Int × Int) : ∀ (k : Nat) (p : Int) (n5 : Int) (s0 : List Int × Int × Int) (q : List YC),Q9.LN7 n x k (Q9.st7 p n5 s0 q) = Q9.l7 n k p n5 s0 q := by
 intro k
 induction k with
 | zero => intro p n5 s0 q; rfl
 | succ k ih =>
  intro p n5 s0 q
  have h : Q9.LN7 n x (k + 1) (Q9.st7 p n5 s0 q) = Q9.g7 (fun p n5 s0 q => Q9.LN7 n x k (Q9.st7 p n5 s0 q)) p n5 s0 q := by kernel_rfl
  rw [h]
  simp only [ih]
  rfl
set_option maxRecDepth 100000 in
theorem Q9.body (n : Nat) (x : List Int × Int × Int) : bodyF Q9.E Q9.keep n Tryz.f57 Q9.con x = Q9.fn n x := by
 have h : bodyF Q9.E Q9.keep n Tryz.f57 Q9.con x = Q9.top (fun p n5 s0 q => Q9.LN7 n x n (Q9.st7 p n5 s0 q)) x := by kernel_rfl
 rw [h]
 simp only [Q9.lem7]
 rfl
set_option maxRecDepth 100000 in
theorem Q9.good : Good Tryz.prog 57 Q9.con :=
 Vg tabok (cs := Q9.cs) ⟨Qd.good,QM.good,trivial⟩ 1 false (fn := Tryz.f57) Tryz.func57 rfl (by decide) (by simp [Q9.con]) Q9.keep NN (fun _ => rfl) (fun x => Q9.body NN x)
end
end Go.Ev.Tryz

namespace Go.Ev.Tryz
open Go.Proofs Go.Pl
set_option linter.unusedVariables false
noncomputable section
def Qaa.st8 (s0 : List Int × Int × Int) (p : List YC) : St := ⟨[.ptr 0 [],.gone,.gone,.ref 1,.gone,.gone,.gone,.gone,.gone,.gone,.gone,.gone,.gone,.gone,.gone,.gone,.gone,.gone,.gone,.gone,.gone,.gone,.gone,.gone,.gone,.gone,.gone,.gone,.gone,.gone,.gone,.gone,.gone,.gone,.gone,.gone,.gone,.gone,.gone],[.box 98 (.pair (.sl 5 (.int .u8)) (.pair (.int .i64) (.int .i64))) (.dat (.pair (.sl 5 (.int .u8)) (.pair (.int .i64) (.int .i64))) s0),.row 101 (.pair (.int .i64) (.int .i64)) p none]⟩
def Qaa.con : Con := { ps := [(.bx 98,(.pair (.sl 5 (.int .u8)) (.pair (.int .i64) (.int .i64))))],rs := [(.own,(.sl 101 (.pair (.int .i64) (.int .i64))))],F := fun x => Qaa.f x }
def Qaa.cs : List (FuncId × Con) := [(25,Qd.con),(56,QM.con),(57,Q9.con)]
def Qaa.E : Env := envOf tab Qaa.cs 1 false
def Qaa.keep (i : Nat) : List Nat := if i = 8 then [0,3] else []
def Qaa.at8 (n : Nat) (x : List Int × Int × Int) : Code × (Ex → St → Option (YV)) := ctx Qaa.E Qaa.keep n [.snd,.snd,.fst,.snd,.blk,.snd,.no,.snd,.no,.snd,.yes,.blk] (Vh Tryz.f23) (kEnd Qaa.E Tryz.f23 Qaa.con x)
def Qaa.LN8 (n : Nat) (x : List Int × Int × Int) : Nat → St → Option (YV) := loopN (exec Qaa.E Qaa.keep n (Vm (Qaa.at8 n x).1)) (St.norm 1 (Qaa.keep 8)) (Qaa.at8 n x).2
set_option maxRecDepth 100000 in
theorem Qaa.lem8 (n : Nat) (x : List Int × Int × Int) : ∀ (k : Nat) (s0 : List Int × Int × Int) (p : List YC),Qaa.LN8 n x k (Qaa.st8 s0 p) = Qaa.l8 n k s0 p := by
 intro k
 induction k with
 | zero => intro s0 p; rfl
 | succ k ih =>
  intro s0 p
  have h : Qaa.LN8 n x (k + 1) (Qaa.st8 s0 p) = Qaa.g8 (fun s0 p => Qaa.LN8 n x k (Qaa.st8 s0 p)) s0 p := by kernel_rfl
  rw [h]
  simp only [ih]
  rfl
set_option maxRecDepth 100000 in
theorem Qaa.body (n : Nat) (x : List Int × Int × Int) : bodyF Qaa.E Qaa.keep n Tryz.f23 Qaa.con x = Qaa.fn n x := by
 have h : bodyF Qaa.E Qaa.keep n Tryz.f23 Qaa.con x = Qaa.top (fun s0 p => Qaa.LN8 n x n (Qaa.st8 s0 p)) x := by kernel_rfl
 rw [h]
 simp only [Qaa.lem8]
 rfl
set_option maxRecDepth 100000 in
theorem Qaa.good : Good Tryz.prog 23 Qaa.con :=
 Vg tabok (cs := Qaa.cs) ⟨Qd.good,QM.good,Q9.good,trivial⟩ 1 false (fn := Tryz.f23) Tryz.func23 rfl (by decide) (by simp [Qaa.con]) Qaa.keep NN (fun _ => rfl) (fun x => Qaa.body NN x)
end
end Go.Ev.Tryz

namespace Go.Ev.Tryz
open Go.Proofs Go.Pl
set_option linter.unusedVariables false
noncomputable section
def QaF.con : Con := { ps := [(.bx 98,(.pair (.sl 5 (.int .u8)) (.pair (.int .i64) (.int .i64))))],rs := [(.val,.str)],F := fun x => QaF.f x }
def QaF.cs : List (FuncId × Con) := [(25,Qd.con)]
def QaF.E : Env := envOf tab QaF.cs 1 false
def QaF.keep (i : Nat) : List Nat := []
set_option maxRecDepth 100000 in
theorem QaF.body (n : Nat) (x : List Int × Int × Int) : bodyF QaF.E QaF.keep n Tryz.f59 QaF.con x = QaF.fn n x := by
 have h : bodyF QaF.E QaF.keep n Tryz.f59 QaF.con x = QaF.top x := by kernel_rfl
 exact h
set_option maxRecDepth 100000 in
theorem QaF.good : Good Tryz.prog 59 QaF.con :=
 Vg tabok (cs := QaF.cs) ⟨Qd.good,trivial⟩ 1 false (fn := Tryz.f59) Tryz.func59 rfl (by decide) (by simp [QaF.con]) QaF.keep NN (fun _ => rfl) (fun x => QaF.body NN x)
end
end Go.Ev.Tryz

namespace Go.Ev.Tryz
open Go.Proofs Go.Pl
set_option linter.unusedVariables false
noncomputable section
def Qy.st3 (q : List YD) (r : ByteArray) (n2 : Int) (p : Int) (i8 : Int) : St := ⟨[.dat (.sl 69 (.pair (.int .i64) (.pair .str (.int .i64)))) q,.dat .str r,.dat (.int .i64) n2,.gone,.gone,.gone,.gone,.dat (.int .i64) p,.dat (.int .i64) i8,.gone,.gone,.gone,.gone,.gone,.gone,.gone,.gone,.gone,.gone,.gone,.gone,.gone,.gone,.gone,.gone,.gone,.gone,.gone,.gone],[]⟩
def Qy.con : Con := { ps := [(.val,(.sl 69 (.pair (.int .i64) (.pair .str (.int .i64))))),(.val,.str),(.val,(.int .i64))],rs := [(.val,(.int .i64))],F := fun x => Qy.f x.1 x.2.1 x.2.2 }
def Qy.cs : List (FuncId × Con) := []
def Qy.E : Env := envOf tab Qy.cs 0 false
def Qy.keep (i : Nat) : List Nat := if i = 3 then [0,1,2,7,8] else []
def Qy.at3 (n : Nat) (x : YL × ByteArray × Int) : Code × (Ex → St → Option (Int)) := ctx Qy.E Qy.keep n [.snd,.snd,.fst,.snd,.blk] (Vh Tryz.f90) (kEnd Qy.E Tryz.f90 Qy.con x)
def Qy.LN3 (n : Nat) (x : YL × ByteArray × Int) : Nat → St → Option (Int) := loopN (exec Qy.E Qy.keep n (Vm (Qy.at3 n x).1)) (St.norm 0 (Qy.keep 3)) (Qy.at3 n x).2
set_option maxRecDepth 100000 in
theorem Qy.lem3 (n : Nat) (x : YL × ByteArray × Int) : ∀ (k : Nat) (q : List YD) (r : ByteArray) (n2 : Int) (p : Int) (i8 : Int),Qy.LN3 n x k (Qy.st3 q r n2 p i8) = Qy.l3 n k q r n2 p i8 := by
 intro k
 induction k with
 | zero => intro q r n2 p i8; rfl
 | succ k ih =>
  intro q r n2 p i8
  have h : Qy.LN3 n x (k + 1) (Qy.st3 q r n2 p i8) = Qy.g3 (fun q r n2 p i8 => Qy.LN3 n x k (Qy.st3 q r n2 p i8)) q r n2 p i8 := by kernel_rfl
  rw [h]
  simp only [ih]
  rfl
set_option maxRecDepth 100000 in
theorem Qy.body (n : Nat) (x : YL × ByteArray × Int) : bodyF Qy.E Qy.keep n Tryz.f90 Qy.con x = Qy.fn n x.1 x.2.1 x.2.2 := by
 have h : bodyF Qy.E Qy.keep n Tryz.f90 Qy.con x = Qy.top (fun q r n2 p i8 => Qy.LN3 n x n (Qy.st3 q r n2 p i8)) x.1 x.2.1 x.2.2 := by kernel_rfl
 rw [h]
 simp only [Qy.lem3]
 rfl
set_option maxRecDepth 100000 in
theorem Qy.good : Good Tryz.prog 90 Qy.con :=
 Vg tabok (cs := Qy.cs) trivial 0 false (fn := Tryz.f90) Tryz.func90 rfl (by decide) (by simp [Qy.con]) Qy.keep NN (fun _ => rfl) (fun x => Qy.body NN x)
end
end Go.Ev.Tryz

namespace Go.Ev.Tryz
open Go.Proofs Go.Pl
set_option linter.unusedVariables false
noncomputable section
def Qae.con : Con := { ps := [(.val,(.int .i64)),(.val,(.int .i64)),(.val,(.int .i64))],rs := [(.val,.bool)],F := fun x => Qae.f x.1 x.2.1 x.2.2 }
def Qae.cs : List (FuncId × Con) := []
def Qae.E : Env := envOf tab Qae.cs 0 false
def Qae.keep (i : Nat) : List Nat := []
set_option maxRecDepth 100000 in
theorem Qae.body (n : Nat) (x : Int × Int × Int) : bodyF Qae.E Qae.keep n Tryz.f79 Qae.con x = Qae.fn n x.1 x.2.1 x.2.2 := by
 have h : bodyF Qae.E Qae.keep n Tryz.f79 Qae.con x = Qae.top x.1 x.2.1 x.2.2 := by kernel_rfl
 exact h
set_option maxRecDepth 100000 in
theorem Qae.good : Good Tryz.prog 79 Qae.con :=
 Vg tabok (cs := Qae.cs) trivial 0 false (fn := Tryz.f79) Tryz.func79 rfl (by decide) (by simp [Qae.con]) Qae.keep NN (fun _ => rfl) (fun x => Qae.body NN x)
end
end Go.Ev.Tryz

namespace Go.Ev.Tryz
open Go.Proofs Go.Pl
set_option linter.unusedVariables false
noncomputable section
def Qap.con : Con := { ps := [(.val,(.int .i64))],rs := [(.val,.bool)],F := fun x => Qap.f x }
def Qap.cs : List (FuncId × Con) := [(79,Qae.con)]
def Qap.E : Env := envOf tab Qap.cs 0 false
def Qap.keep (i : Nat) : List Nat := []
set_option maxRecDepth 100000 in
theorem Qap.body (n : Nat) (x : Int) : bodyF Qap.E Qap.keep n Tryz.f62 Qap.con x = Qap.fn n x := by
 have h : bodyF Qap.E Qap.keep n Tryz.f62 Qap.con x = Qap.top x := by kernel_rfl
 exact h
set_option maxRecDepth 100000 in
theorem Qap.good : Good Tryz.prog 62 Qap.con :=
 Vg tabok (cs := Qap.cs) ⟨Qae.good,trivial⟩ 0 false (fn := Tryz.f62) Tryz.func62 rfl (by decide) (by simp [Qap.con]) Qap.keep NN (fun _ => rfl) (fun x => Qap.body NN x)
end
end Go.Ev.Tryz

namespace Go.Ev.Tryz
open Go.Proofs Go.Pl
set_option linter.unusedVariables false
noncomputable section
def QU.st2 (s0 : ByteArray) (i3 : Int) : St := ⟨[.dat .str s0,.gone,.gone,.dat (.int .i64) i3,.gone,.gone,.gone,.gone,.gone,.gone,.gone,.gone,.gone,.gone,.gone,.gone,.gone,.gone,.gone,.gone,.gone,.gone,.gone],[]⟩
def QU.con : Con := { ps := [(.val,.str)],rs := [(.val,.bool)],F := fun x => QU.f x }
def QU.cs : List (FuncId × Con) := [(79,Qae.con)]
def QU.E : Env := envOf tab QU.cs 0 false
def QU.keep (i : Nat) : List Nat := if i = 2 then [0,3] else []
def QU.at2 (n : Nat) (x : ByteArray) : Code × (Ex → St → Option (Bool)) := ctx QU.E QU.keep n [.snd,.fst,.snd,.blk] (Vh Tryz.f85) (kEnd QU.E Tryz.f85 QU.con x)
def QU.LN2 (n : Nat) (x : ByteArray) : Nat → St → Option (Bool) := loopN (exec QU.E QU.keep n (Vm (QU.at2 n x).1)) (St.norm 0 (QU.keep 2)) (QU.at2 n x).2
set_option maxRecDepth 100000 in
theorem QU.lem2 (n : Nat) (x : ByteArray) : ∀ (k : Nat) (s0 : ByteArray) (i3 : Int),QU.LN2 n x k (QU.st2 s0 i3) = QU.l2 n k s0 i3 := by
 intro k
 induction k with
 | zero => intro s0 i3; rfl
 | succ k ih =>
  intro s0 i3
  have h : QU.LN2 n x (k + 1) (QU.st2 s0 i3) = QU.g2 (fun s0 i3 => QU.LN2 n x k (QU.st2 s0 i3)) s0 i3 := by kernel_rfl
  rw [h]
  simp only [ih]
  rfl
set_option maxRecDepth 100000 in
theorem QU.body (n : Nat) (x : ByteArray) : bodyF QU.E QU.keep n Tryz.f85 QU.con x = QU.fn n x := by
 have h : bodyF QU.E QU.keep n Tryz.f85 QU.con x = QU.top (fun s0 i3 => QU.LN2 n x n (QU.st2 s0 i3)) x := by kernel_rfl
 rw [h]
 simp only [QU.lem2]
 rfl
set_option maxRecDepth 100000 in
theorem QU.good : Good Tryz.prog 85 QU.con :=
 Vg tabok (cs := QU.cs) ⟨Qae.good,trivial⟩ 0 false (fn := Tryz.f85) Tryz.func85 rfl (by decide) (by simp [QU.con]) QU.keep NN (fun _ => rfl) (fun x => QU.body NN x)
end
end Go.Ev.Tryz

namespace Go.Ev.Tryz
open Go.Proofs Go.Pl
set_option linter.unusedVariables false
noncomputable section
def QE.st2 (p : List YD) (i3 : Int) : St := ⟨[.dat (.sl 69 (.pair (.int .i64) (.pair .str (.int .i64)))) p,.gone,.gone,.dat (.int .i64) i3,.gone,.gone,.gone,.gone,.gone,.gone,.gone,.gone,.gone,.gone,.gone,.gone,.gone,.gone,.gone,.gone,.gone,.gone,.gone,.gone,.gone,.gone,.gone,.gone,.gone,.gone,.gone,.gone,.gone,.gone,.gone,.gone,.gone,.gone,.gone,.gone,.gone,.gone,.gone,.gone,.gone,.gone,.gone,.gone,.gone,.gone,.gone,.gone,.gone,.gone,.gone,.gone,.gone,.gone,.gone,.gone,.gone,.gone,.gone],[]⟩
def QE.con : Con := { ps := [(.val,(.sl 69 (.pair (.int .i64) (.pair .str (.int .i64)))))],rs := [(.val,.bool)],F := fun x => QE.f x }
def QE.cs : List (FuncId × Con) := [(62,Qap.con),(79,Qae.con),(85,QU.con),(90,Qy.con)]
def QE.E : Env := envOf tab QE.cs 0 false
def QE.keep (i : Nat) : List Nat := if i = 2 then [0,3] else []
def QE.at2 (n : Nat) (x : List YD) : Code × (Ex → St → Option (Bool)) := ctx QE.E QE.keep n [.snd,.fst,.snd,.blk] (Vh Tryz.f64) (kEnd QE.E Tryz.f64 QE.con x)
def QE.LN2 (n : Nat) (x : List YD) : Nat → St → Option (Bool) := loopN (exec QE.E QE.keep n (Vm (QE.at2 n x).1)) (St.norm 0 (QE.keep 2)) (QE.at2 n x).2
set_option maxRecDepth 100000 in
theorem QE.lem2 (n : Nat) (x : List YD) : ∀ (k : Nat) (p : List YD) (i3 : Int),QE.LN2 n x k (QE.st2 p i3) = QE.l2 n k p i3 := by
 intro k
 induction k with
 | zero => intro p i3; rfl
 | succ k ih =>
  intro p i3
  have h : QE.LN2 n x (k + 1) (QE.st2 p i3) = QE.g2 (fun p i3 => QE.LN2 n x k (QE.st2 p i3)) p i3 := by kernel_rfl
  rw [h]
  simp only [ih]
  rfl
set_option maxRecDepth 100000 in
theorem QE.body (n : Nat) (x : List YD) : bodyF QE.E QE.keep n Tryz.f64 QE.con x = QE.fn n x := by
 have h : bodyF QE.E QE.keep n Tryz.f64 QE.con x = QE.top (fun p i3 => QE.LN2 n x n (QE.st2 p i3)) x := by kernel_rfl
 rw [h]
 simp only [QE.lem2]
 rfl
set_option maxRecDepth 100000 in
theorem QE.good : Good Tryz.prog 64 QE.con :=
 Vg tabok (cs := QE.cs) ⟨Qap.good,Qae.good,QU.good,Qy.good,trivial⟩ 0 false (fn := Tryz.f64) Tryz.func64 rfl (by decide) (by simp [QE.con]) QE.keep NN (fun _ => rfl) (fun x => QE.body NN x)
end
end Go.Ev.Tryz

namespace Go.Ev.Tryz
open Go.Proofs Go.Pl
set_option linter.unusedVariables false
noncomputable section
def Qah.tr0 (p : List YD) (m1 : Int × ByteArray × Int) : Option YAD :=
 if ([] : List YD).length + p.length < room 32 then
  if (([] : List YD) ++ p).length + ([m1]).length < room 32 then
   (QE.f ((([] : List YD) ++ p) ++ ([m1]))).bind fun r2 =>
   if (!r2) = true then
    some ([],5)
   else
    some ((([] : List YD) ++ p) ++ ([m1]),0)
  else
   none
 else
  none
def Qah.tr1 (p : List YD) (m1 : Int × ByteArray × Int) : Option YAD :=
 agree (
  Qah.tr0 p m1
 ) (
  Qah.tr0 p m1
 )
def Qah.topraw (p : List YD) (m1 : Int × ByteArray × Int) : Option YAD :=
 (QE.f p).bind fun r1 =>
 if (!r1) = true then
  some ([],1)
 else if (((p.length : Int) : Int) == 40) = true then
  some ([],3)
 else
  agree (
   agree (
    Qah.tr0 p m1
   ) (
    Qah.tr1 p m1
   )
  ) (
   agree (
    Qah.tr1 p m1
   ) (
    Qah.tr0 p m1
   )
  )
theorem Qah.topraw_eq (p : List YD) (m1 : Int × ByteArray × Int) : Qah.topraw p m1 = Qah.top p m1 := by
 unfold Qah.topraw Qah.top
 simp only [Vi,Qah.tr0,Qah.tr1]
def Qah.con : Con := { ps := [(.val,(.sl 69 (.pair (.int .i64) (.pair .str (.int .i64))))),(.val,(.pair (.int .i64) (.pair .str (.int .i64))))],rs := [(.own,(.sl 69 (.pair (.int .i64) (.pair .str (.int .i64))))),(.own,(.int .i64))],F := fun x => Qah.f x.1 x.2 }
def Qah.cs : List (FuncId × Con) := [(64,QE.con)]
def Qah.E : Env := envOf tab Qah.cs 0 false
def Qah.keep (i : Nat) : List Nat := []
set_option maxRecDepth 100000 in
theorem Qah.body (n : Nat) (x : YL × Int × ByteArray × Int) : bodyF Qah.E Qah.keep n Tryz.f91 Qah.con x = Qah.fn n x.1 x.2 := by
 have h : bodyF Qah.E Qah.keep n Tryz.f91 Qah.con x = Qah.topraw x.1 x.2 := by kernel_rfl
 rw [Qah.topraw_eq] at h
 exact h
set_option maxRecDepth 100000 in
theorem Qah.good : Good Tryz.prog 91 Qah.con :=
 Vg tabok (cs := Qah.cs) ⟨QE.good,trivial⟩ 0 false (fn := Tryz.f91) Tryz.func91 rfl (by decide) (by simp [Qah.con]) Qah.keep NN (fun _ => rfl) (fun x => Qah.body NN x)
end
end Go.Ev.Tryz

namespace Go.Ev.Tryz
open Go.Proofs Go.Pl
set_option linter.unusedVariables false
noncomputable section
def QZ.st4 (t4 : Int) (n5 : Int) (s0 : List Int × Int × Int) (p : List YD) : St := ⟨[.ptr 0 [],.gone,.gone,.ref 1,.dat (.int .i64) t4,.dat (.int .i64) n5,.gone,.gone,.gone,.gone,.gone,.gone,.gone,.gone,.gone,.gone,.gone,.gone,.gone,.gone,.gone,.gone,.gone,.gone,.gone,.gone,.gone,.gone,.gone,.gone,.gone,.gone,.gone,.gone,.gone,.gone,.gone,.gone,.gone,.gone,.gone,.gone,.gone,.gone,.gone,.gone,.gone,.gone,.gone,.gone,.gone,.gone,.gone,.gone,.gone,.gone,.gone,.gone,.gone,.gone,.gone,.gone,.gone,.gone,.gone],[.box 98 (.pair (.sl 5 (.int .u8)) (.pair (.int .i64) (.int .i64))) (.dat (.pair (.sl 5 (.int .u8)) (.pair (.int .i64) (.int .i64))) s0),.row 69 (.pair (.int .i64) (.pair .str (.int .i64))) p none]⟩
def QZ.con : Con := { ps := [(.bx 98,(.pair (.sl 5 (.int .u8)) (.pair (.int .i64) (.int .i64))))],rs := [(.own,(.sl 69 (.pair (.int .i64) (.pair .str (.int .i64)))))],F := fun x => QZ.f x }
def QZ.cs : List (FuncId × Con) := [(25,Qd.con),(56,QM.con),(59,QaF.con),(90,Qy.con),(91,Qah.con)]
def QZ.E : Env := envOf tab QZ.cs 1 false
def QZ.keep (i : Nat) : List Nat := if i = 4 then [0,3,4,5] else []
def QZ.at4 (n : Nat) (x : List Int × Int × Int) : Code × (Ex → St → Option (YT)) := ctx QZ.E QZ.keep n [.snd,.snd,.snd,.fst,.snd,.blk] (Vh Tryz.f58) (kEnd QZ.E Tryz.f58 QZ.con x)
def QZ.LN4 (n : Nat) (x : List Int × Int × Int) : Nat → St → Option (YT) := loopN (exec QZ.E QZ.keep n (Vm (QZ.at4 n x).1)) (St.norm 1 (QZ.keep 4)) (QZ.at4 n x).2
set_option maxRecDepth 100000 in
theorem QZ.lem4 (n : Nat) (x : List Int × Int × Int) : ∀ (k : Nat) (t4 : Int) (n5 : Int) (s0 : List Int × Int × Int) (p : List YD),QZ.LN4 n x k (QZ.st4 t4 n5 s0 p) = QZ.l4 n k t4 n5 s0 p := by
 intro k
 induction k with
 | zero => intro t4 n5 s0 p; rfl
 | succ k ih =>
  intro t4 n5 s0 p
  have h : QZ.LN4 n x (k + 1) (QZ.st4 t4 n5 s0 p) = QZ.g4 (fun t4 n5 s0 p => QZ.LN4 n x k (QZ.st4 t4 n5 s0 p)) t4 n5 s0 p := by kernel_rfl
  rw [h]
  simp only [ih]
  rfl
set_option maxRecDepth 100000 in
theorem QZ.body (n : Nat) (x : List Int × Int × Int) : bodyF QZ.E QZ.keep n Tryz.f58 QZ.con x = QZ.fn n x := by
 have h : bodyF QZ.E QZ.keep n Tryz.f58 QZ.con x = QZ.top (fun t4 n5 s0 p => QZ.LN4 n x n (QZ.st4 t4 n5 s0 p)) x := by kernel_rfl
 rw [h]
 simp only [QZ.lem4]
 rfl
set_option maxRecDepth 100000 in
theorem QZ.good : Good Tryz.prog 58 QZ.con :=
 Vg tabok (cs := QZ.cs) ⟨Qd.good,QM.good,QaF.good,Qy.good,Qah.good,trivial⟩ 1 false (fn := Tryz.f58) Tryz.func58 rfl (by decide) (by simp [QZ.con]) QZ.keep NN (fun _ => rfl) (fun x => QZ.body NN x)
end
end Go.Ev.Tryz

namespace Go.Ev.Tryz
open Go.Proofs Go.Pl
set_option linter.unusedVariables false
noncomputable section
def Q8.st6 (s0 : List Int × Int × Int) (p : List YD) : St := ⟨[.ptr 0 [],.gone,.gone,.ref 1,.gone,.gone,.gone,.gone,.gone,.gone,.gone,.gone,.gone,.gone,.gone,.gone,.gone,.gone,.gone,.gone,.gone,.gone,.gone,.gone,.gone,.gone,.gone,.gone,.gone,.gone,.gone,.gone,.gone,.gone,.gone],[.box 98 (.pair (.sl 5 (.int .u8)) (.pair (.int .i64) (.int .i64))) (.dat (.pair (.sl 5 (.int .u8)) (.pair (.int .i64) (.int .i64))) s0),.row 69 (.pair (.int .i64) (.pair .str (.int .i64))) p none]⟩
def Q8.con : Con := { ps := [(.bx 98,(.pair (.sl 5 (.int .u8)) (.pair (.int .i64) (.int .i64))))],rs := [(.own,(.sl 69 (.pair (.int .i64) (.pair .str (.int .i64)))))],F := fun x => Q8.f x }
def Q8.cs : List (FuncId × Con) := [(25,Qd.con),(56,QM.con),(58,QZ.con),(59,QaF.con)]
def Q8.E : Env := envOf tab Q8.cs 1 false
def Q8.keep (i : Nat) : List Nat := if i = 6 then [0,3] else []
def Q8.at6 (n : Nat) (x : List Int × Int × Int) : Code × (Ex → St → Option (YT)) := ctx Q8.E Q8.keep n [.snd,.snd,.fst,.snd,.blk,.snd,.no,.snd,.yes,.blk] (Vh Tryz.f24) (kEnd Q8.E Tryz.f24 Q8.con x)
def Q8.LN6 (n : Nat) (x : List Int × Int × Int) : Nat → St → Option (YT) := loopN (exec Q8.E Q8.keep n (Vm (Q8.at6 n x).1)) (St.norm 1 (Q8.keep 6)) (Q8.at6 n x).2
set_option maxRecDepth 100000 in
theorem Q8.lem6 (n : Nat) (x : List Int × Int × Int) : ∀ (k : Nat) (s0 : List Int × Int × Int) (p : List YD),Q8.LN6 n x k (Q8.st6 s0 p) = Q8.l6 n k s0 p := by
 intro k
 induction k with
 | zero => intro s0 p; rfl
 | succ k ih =>
  intro s0 p
  have h : Q8.LN6 n x (k + 1) (Q8.st6 s0 p) = Q8.g6 (fun s0 p => Q8.LN6 n x k (Q8.st6 s0 p)) s0 p := by kernel_rfl
  rw [h]
  simp only [ih]
  rfl
set_option maxRecDepth 100000 in
theorem Q8.body (n : Nat) (x : List Int × Int × Int) : bodyF Q8.E Q8.keep n Tryz.f24 Q8.con x = Q8.fn n x := by
 have h : bodyF Q8.E Q8.keep n Tryz.f24 Q8.con x = Q8.top (fun s0 p => Q8.LN6 n x n (Q8.st6 s0 p)) x := by kernel_rfl
 rw [h]
 simp only [Q8.lem6]
 rfl
set_option maxRecDepth 100000 in
theorem Q8.good : Good Tryz.prog 24 Q8.con :=
 Vg tabok (cs := Q8.cs) ⟨Qd.good,QM.good,QZ.good,QaF.good,trivial⟩ 1 false (fn := Tryz.f24) Tryz.func24 rfl (by decide) (by simp [Q8.con]) Q8.keep NN (fun _ => rfl) (fun x => Q8.body NN x)
end
end Go.Ev.Tryz

namespace Go.Ev.Tryz
open Go.Proofs Go.Pl
set_option linter.unusedVariables false
noncomputable section
def QaA.con : Con := { ps := [(.bx 98,(.pair (.sl 5 (.int .u8)) (.pair (.int .i64) (.int .i64))))],rs := [(.val,.str)],F := fun x => QaA.f x }
def QaA.cs : List (FuncId × Con) := [(25,Qd.con)]
def QaA.E : Env := envOf tab QaA.cs 1 false
def QaA.keep (i : Nat) : List Nat := []
set_option maxRecDepth 100000 in
theorem QaA.body (n : Nat) (x : List Int × Int × Int) : bodyF QaA.E QaA.keep n Tryz.f60 QaA.con x = QaA.fn n x := by
 have h : bodyF QaA.E QaA.keep n Tryz.f60 QaA.con x = QaA.top x := by kernel_rfl
 exact h
set_option maxRecDepth 100000 in
theorem QaA.good : Good Tryz.prog 60 QaA.con :=
 Vg tabok (cs := QaA.cs) ⟨Qd.good,trivial⟩ 1 false (fn := Tryz.f60) Tryz.func60 rfl (by decide) (by simp [QaA.con]) QaA.keep NN (fun _ => rfl) (fun x => QaA.body NN x)
end
end Go.Ev.Tryz

namespace Go.Ev.Tryz
open Go.Proofs Go.Pl
set_option linter.unusedVariables false
noncomputable section
def Qad.con : Con := { ps := [(.bx 98,(.pair (.sl 5 (.int .u8)) (.pair (.int .i64) (.int .i64))))],rs := [(.val,.str)],F := fun x => Qad.f x }
def Qad.cs : List (FuncId × Con) := [(25,Qd.con),(60,QaA.con)]
def Qad.E : Env := envOf tab Qad.cs 1 false
def Qad.keep (i : Nat) : List Nat := []
set_option maxRecDepth 100000 in
theorem Qad.body (n : Nat) (x : List Int × Int × Int) : bodyF Qad.E Qad.keep n Tryz.f26 Qad.con x = Qad.fn n x := by
 have h : bodyF Qad.E Qad.keep n Tryz.f26 Qad.con x = Qad.top x := by kernel_rfl
 exact h
set_option maxRecDepth 100000 in
theorem Qad.good : Good Tryz.prog 26 Qad.con :=
 Vg tabok (cs := Qad.cs) ⟨Qd.good,QaA.good,trivial⟩ 1 false (fn := Tryz.f26) Tryz.func26 rfl (by decide) (by simp [Qad.con]) Qad.keep NN (fun _ => rfl) (fun x => Qad.body NN x)
end
end Go.Ev.Tryz

namespace Go.Ev.Tryz
open Go.Proofs Go.Pl
set_option linter.unusedVariables false
noncomputable section
def Qag.con : Con := { ps := [(.val,(.sl 5 (.int .u8)))],rs := [(.val,(.sl 2 (.int .i64))),(.val,(.sl 101 (.pair (.int .i64) (.int .i64)))),(.val,(.sl 69 (.pair (.int .i64) (.pair .str (.int .i64))))),(.val,(.sl 9 .str))],F := fun x => Qag.f x }
def Qag.cs : List (FuncId × Con) := [(21,QS.con),(22,Qs.con),(23,Qaa.con),(24,Q8.con),(25,Qd.con),(26,Qad.con)]
def Qag.E : Env := envOf tab Qag.cs 0 false
def Qag.keep (i : Nat) : List Nat := []
set_option maxRecDepth 100000 in
theorem Qag.body (n : Nat) (x : List Int) : bodyF Qag.E Qag.keep n Tryz.f5 Qag.con x = Qag.fn n x := by
 have h : bodyF Qag.E Qag.keep n Tryz.f5 Qag.con x = Qag.top x := by kernel_rfl
 exact h
set_option maxRecDepth 100000 in
theorem Qag.good : Good Tryz.prog 5 Qag.con :=
 Vg tabok (cs := Qag.cs) ⟨QS.good,Qs.good,Qaa.good,Q8.good,Qd.good,Qad.good,trivial⟩ 0 false (fn := Tryz.f5) Tryz.func5 rfl (by decide) (by simp [Qag.con]) Qag.keep NN (fun _ => rfl) (fun x => Qag.body NN x)
end
end Go.Ev.Tryz

namespace Go.Ev.Tryz
open Go.Proofs Go.Pl
set_option linter.unusedVariables false
noncomputable section
def Q2.con : Con := { ps := [(.val,(.int .i64)),(.val,(.int .i64)),(.val,(.int .i64))],rs := [(.val,.bool)],F := fun x => Q2.f x.1 x.2.1 x.2.2 }
def Q2.cs : List (FuncId × Con) := []
def Q2.E : Env := envOf tab Q2.cs 0 false
def Q2.keep (i : Nat) : List Nat := []
set_option maxRecDepth 100000 in
theorem Q2.body (n : Nat) (x : Int × Int × Int) : bodyF Q2.E Q2.keep n Tryz.f72 Q2.con x = Q2.fn n x.1 x.2.1 x.2.2 := by
 have h : bodyF Q2.E Q2.keep n Tryz.f72 Q2.con x = Q2.top x.1 x.2.1 x.2.2 := by kernel_rfl
 exact h
set_option maxRecDepth 100000 in
theorem Q2.good : Good Tryz.prog 72 Q2.con :=
 Vg tabok (cs := Q2.cs) trivial 0 false (fn := Tryz.f72) Tryz.func72 rfl (by decide) (by simp [Q2.con]) Q2.keep NN (fun _ => rfl) (fun x => Q2.body NN x)
end
end Go.Ev.Tryz

namespace Go.Ev.Tryz
open Go.Proofs Go.Pl
set_option linter.unusedVariables false
noncomputable section
def QaK.con : Con := { ps := [(.val,(.int .i64))],rs := [(.val,.bool)],F := fun x => QaK.f x }
def QaK.cs : List (FuncId × Con) := [(72,Q2.con)]
def QaK.E : Env := envOf tab QaK.cs 0 false
def QaK.keep (i : Nat) : List Nat := []
set_option maxRecDepth 100000 in
theorem QaK.body (n : Nat) (x : Int) : bodyF QaK.E QaK.keep n Tryz.f44 QaK.con x = QaK.fn n x := by
 have h : bodyF QaK.E QaK.keep n Tryz.f44 QaK.con x = QaK.top x := by kernel_rfl
 exact h
set_option maxRecDepth 100000 in
theorem QaK.good : Good Tryz.prog 44 QaK.con :=
 Vg tabok (cs := QaK.cs) ⟨Q2.good,trivial⟩ 0 false (fn := Tryz.f44) Tryz.func44 rfl (by decide) (by simp [QaK.con]) QaK.keep NN (fun _ => rfl) (fun x => QaK.body NN x)
end
end Go.Ev.Tryz

namespace Go.Ev.Tryz
open Go.Proofs Go.Pl
set_option linter.unusedVariables false
noncomputable section
def Qw.st4 (p : List YC) (v8 : List YC) (v9 : Int) (v10 : Int) : St := ⟨[.dat (.sl 101 (.pair (.int .i64) (.int .i64))) p,.gone,.gone,.gone,.gone,.gone,.gone,.gone,.dat (.sl 101 (.pair (.int .i64) (.int .i64))) v8,.dat (.int .i64) v9,.dat (.int .i64) v10,.gone,.gone,.gone,.gone,.gone,.gone,.gone,.gone,.gone,.gone,.gone,.gone,.gone,.gone,.gone,.gone,.gone,.gone,.gone,.gone,.gone,.gone,.gone,.gone,.gone,.gone,.gone,.gone,.gone,.gone,.gone,.gone,.gone,.gone,.gone],[]⟩
def Qw.con : Con := { ps := [(.val,(.sl 101 (.pair (.int .i64) (.int .i64))))],rs := [(.val,.bool)],F := fun x => Qw.f x }
def Qw.cs : List (FuncId × Con) := [(44,QaK.con),(72,Q2.con)]
def Qw.E : Env := envOf tab Qw.cs 0 false
def Qw.keep (i : Nat) : List Nat := if i = 4 then [0,8,9,10] else []
def Qw.at4 (n : Nat) (x : List YC) : Code × (Ex → St → Option (Bool)) := ctx Qw.E Qw.keep n [.snd,.snd,.fst,.snd,.blk] (Vh Tryz.f43) (kEnd Qw.E Tryz.f43 Qw.con x)
def Qw.LN4 (n : Nat) (x : List YC) : Nat → St → Option (Bool) := loopN (exec Qw.E Qw.keep n (Vm (Qw.at4 n x).1)) (St.norm 0 (Qw.keep 4)) (Qw.at4 n x).2
set_option maxRecDepth 100000 in
theorem Qw.lem4 (n : Nat) (x : List YC) : ∀ (k : Nat) (p : List YC) (v8 : List YC) (v9 : Int) (v10 : Int),Qw.LN4 n x k (Qw.st4 p v8 v9 v10) = Qw.l4 n k p v8 v9 v10 := by
 intro k
 induction k with
 | zero => intro p v8 v9 v10; rfl
 | succ k ih =>
  intro p v8 v9 v10
  have h : Qw.LN4 n x (k + 1) (Qw.st4 p v8 v9 v10) = Qw.g4 (fun p v8 v9 v10 => Qw.LN4 n x k (Qw.st4 p v8 v9 v10)) p v8 v9 v10 := by kernel_rfl
  rw [h]
  simp only [ih]
  rfl
set_option maxRecDepth 100000 in
theorem Qw.body (n : Nat) (x : List YC) : bodyF Qw.E Qw.keep n Tryz.f43 Qw.con x = Qw.fn n x := by
 have h : bodyF Qw.E Qw.keep n Tryz.f43 Qw.con x = Qw.top (fun p v8 v9 v10 => Qw.LN4 n x n (Qw.st4 p v8 v9 v10)) x := by kernel_rfl
 rw [h]
 simp only [Qw.lem4]
 rfl
set_option maxRecDepth 100000 in
theorem Qw.good : Good Tryz.prog 43 Qw.con :=
 Vg tabok (cs := Qw.cs) ⟨QaK.good,Q2.good,trivial⟩ 0 false (fn := Tryz.f43) Tryz.func43 rfl (by decide) (by simp [Qw.con]) Qw.keep NN (fun _ => rfl) (fun x => Qw.body NN x)
end
end Go.Ev.Tryz

namespace Go.Ev.Tryz
open Go.Proofs Go.Pl
set_option linter.unusedVariables false
noncomputable section
def QaI.con : Con := { ps := [(.val,(.int .i64))],rs := [(.val,.bool)],F := fun x => QaI.f x }
def QaI.cs : List (FuncId × Con) := [(72,Q2.con)]
def QaI.E : Env := envOf tab QaI.cs 0 false
def QaI.keep (i : Nat) : List Nat := []
set_option maxRecDepth 100000 in
theorem QaI.body (n : Nat) (x : Int) : bodyF QaI.E QaI.keep n Tryz.f51 QaI.con x = QaI.fn n x := by
 have h : bodyF QaI.E QaI.keep n Tryz.f51 QaI.con x = QaI.top x := by kernel_rfl
 exact h
set_option maxRecDepth 100000 in
theorem QaI.good : Good Tryz.prog 51 QaI.con :=
 Vg tabok (cs := QaI.cs) ⟨Q2.good,trivial⟩ 0 false (fn := Tryz.f51) Tryz.func51 rfl (by decide) (by simp [QaI.con]) QaI.keep NN (fun _ => rfl) (fun x => QaI.body NN x)
end
end Go.Ev.Tryz

namespace Go.Ev.Tryz
open Go.Proofs Go.Pl
set_option linter.unusedVariables false
noncomputable section
def QT.st4 (s0 : ByteArray) (i3 : Int) : St := ⟨[.dat .str s0,.gone,.gone,.dat (.int .i64) i3,.gone,.gone,.gone,.gone,.gone,.gone,.gone,.gone,.gone,.gone,.gone,.gone,.gone,.gone,.gone,.gone,.gone,.gone,.gone,.gone,.gone,.gone,.gone,.gone],[]⟩
def QT.con : Con := { ps := [(.val,.str)],rs := [(.val,.bool)],F := fun x => QT.f x }
def QT.cs : List (FuncId × Con) := []
def QT.E : Env := envOf tab QT.cs 0 false
def QT.keep (i : Nat) : List Nat := if i = 4 then [0,3] else []
def QT.at4 (n : Nat) (x : ByteArray) : Code × (Ex → St → Option (Bool)) := ctx QT.E QT.keep n [.snd,.snd,.fst,.snd,.blk] (Vh Tryz.f83) (kEnd QT.E Tryz.f83 QT.con x)
def QT.LN4 (n : Nat) (x : ByteArray) : Nat → St → Option (Bool) := loopN (exec QT.E QT.keep n (Vm (QT.at4 n x).1)) (St.norm 0 (QT.keep 4)) (QT.at4 n x).2
set_option maxRecDepth 100000 in
theorem QT.lem4 (n : Nat) (x : ByteArray) : ∀ (k : Nat) (s0 : ByteArray) (i3 : Int),QT.LN4 n x k (QT.st4 s0 i3) = QT.l4 n k s0 i3 := by
 intro k
 induction k with
 | zero => intro s0 i3; rfl
 | succ k ih =>
  intro s0 i3
  have h : QT.LN4 n x (k + 1) (QT.st4 s0 i3) = QT.g4 (fun s0 i3 => QT.LN4 n x k (QT.st4 s0 i3)) s0 i3 := by kernel_rfl
  rw [h]
  simp only [ih]
  rfl
set_option maxRecDepth 100000 in
theorem QT.body (n : Nat) (x : ByteArray) : bodyF QT.E QT.keep n Tryz.f83 QT.con x = QT.fn n x := by
 have h : bodyF QT.E QT.keep n Tryz.f83 QT.con x = QT.top (fun s0 i3 => QT.LN4 n x n (QT.st4 s0 i3)) x := by kernel_rfl
 rw [h]
 simp only [QT.lem4]
 rfl
set_option maxRecDepth 100000 in
theorem QT.good : Good Tryz.prog 83 QT.con :=
 Vg tabok (cs := QT.cs) trivial 0 false (fn := Tryz.f83) Tryz.func83 rfl (by decide) (by simp [QT.con]) QT.keep NN (fun _ => rfl) (fun x => QT.body NN x)
end
end Go.Ev.Tryz

namespace Go.Ev.Tryz
open Go.Proofs Go.Pl
set_option linter.unusedVariables false
noncomputable section
def QC.st3 (p : ByteArray) (t2 : Int) (q : Int) (v10 : List YD) (v11 : Int) (v12 : Int) : St := ⟨[.gone,.dat .str p,.dat (.int .i64) t2,.gone,.gone,.gone,.gone,.dat (.int .i64) q,.gone,.gone,.dat (.sl 69 (.pair (.int .i64) (.pair .str (.int .i64)))) v10,.dat (.int .i64) v11,.dat (.int .i64) v12,.gone,.gone,.gone,.gone,.gone,.gone,.gone,.gone,.gone,.gone,.gone,.gone,.gone,.gone,.gone,.gone,.gone,.gone,.gone],[]⟩
def QC.con : Con := { ps := [(.val,(.sl 69 (.pair (.int .i64) (.pair .str (.int .i64))))),(.val,.str),(.val,(.int .i64))],rs := [(.val,(.int .i64))],F := fun x => QC.f x.1 x.2.1 x.2.2 }
def QC.cs : List (FuncId × Con) := []
def QC.E : Env := envOf tab QC.cs 0 false
def QC.keep (i : Nat) : List Nat := if i = 3 then [1,2,7,10,11,12] else []
def QC.at3 (n : Nat) (x : YL × ByteArray × Int) : Code × (Ex → St → Option (Int)) := ctx QC.E QC.keep n [.snd,.snd,.fst,.snd,.blk] (Vh Tryz.f88) (kEnd QC.E Tryz.f88 QC.con x)
def QC.LN3 (n : Nat) (x : YL × ByteArray × Int) : Nat → St → Option (Int) := loopN (exec QC.E QC.keep n (Vm (QC.at3 n x).1)) (St.norm 0 (QC.keep 3)) (QC.at3 n x).2
set_option maxRecDepth 100000 in
theorem QC.lem3 (n : Nat) (x : YL × ByteArray × Int) : ∀ (k : Nat) (p : ByteArray) (t2 : Int) (q : Int) (v10 : List YD) (v11 : Int) (v12 : Int),QC.LN3 n x k (QC.st3 p t2 q v10 v11 v12) = QC.l3 n k p t2 q v10 v11 v12 := by
 intro k
 induction k with
 | zero => intro p t2 q v10 v11 v12; rfl
 | succ k ih =>
  intro p t2 q v10 v11 v12
  have h : QC.LN3 n x (k + 1) (QC.st3 p t2 q v10 v11 v12) = QC.g3 (fun p t2 q v10 v11 v12 => QC.LN3 n x k (QC.st3 p t2 q v10 v11 v12)) p t2 q v10 v11 v12 := by kernel_rfl
  rw [h]
  simp only [ih]
  rfl
set_option maxRecDepth 100000 in
theorem QC.body (n : Nat) (x : YL × ByteArray × Int) : bodyF QC.E QC.keep n Tryz.f88 QC.con x = QC.fn n x.1 x.2.1 x.2.2 := by
 have h : bodyF QC.E QC.keep n Tryz.f88 QC.con x = QC.top (fun p t2 q v10 v11 v12 => QC.LN3 n x n (QC.st3 p t2 q v10 v11 v12)) x.1 x.2.1 x.2.2 := by kernel_rfl
 rw [h]
 simp only [QC.lem3]
 rfl
set_option maxRecDepth 100000 in
theorem QC.good : Good Tryz.prog 88 QC.con :=
 Vg tabok (cs := QC.cs) trivial 0 false (fn := Tryz.f88) Tryz.func88 rfl (by decide) (by simp [QC.con]) QC.keep NN (fun _ => rfl) (fun x => QC.body NN x)
end
end Go.Ev.Tryz

namespace Go.Ev.Tryz
open Go.Proofs Go.Pl
set_option linter.unusedVariables false
noncomputable section
def QG.st4 (p : List YD) (v8 : List YD) (v9 : Int) (v10 : Int) : St := ⟨[.dat (.sl 69 (.pair (.int .i64) (.pair .str (.int .i64)))) p,.gone,.gone,.gone,.gone,.gone,.gone,.gone,.dat (.sl 69 (.pair (.int .i64) (.pair .str (.int .i64)))) v8,.dat (.int .i64) v9,.dat (.int .i64) v10,.gone,.gone,.gone,.gone,.gone,.gone,.gone,.gone,.gone,.gone,.gone,.gone,.gone,.gone,.gone,.gone,.gone,.gone,.gone,.gone,.gone,.gone,.gone,.gone,.gone,.gone,.gone,.gone,.gone,.gone,.gone,.gone,.gone,.gone,.gone,.gone,.gone,.gone,.gone,.gone,.gone,.gone,.gone,.gone,.gone,.gone,.gone,.gone,.gone,.gone,.gone],[]⟩
def QG.con : Con := { ps := [(.val,(.sl 69 (.pair (.int .i64) (.pair .str (.int .i64)))))],rs := [(.val,.bool)],F := fun x => QG.f x }
def QG.cs : List (FuncId × Con) := [(51,QaI.con),(72,Q2.con),(83,QT.con),(88,QC.con)]
def QG.E : Env := envOf tab QG.cs 0 false
def QG.keep (i : Nat) : List Nat := if i = 4 then [0,8,9,10] else []
def QG.at4 (n : Nat) (x : List YD) : Code × (Ex → St → Option (Bool)) := ctx QG.E QG.keep n [.snd,.snd,.fst,.snd,.blk] (Vh Tryz.f49) (kEnd QG.E Tryz.f49 QG.con x)
def QG.LN4 (n : Nat) (x : List YD) : Nat → St → Option (Bool) := loopN (exec QG.E QG.keep n (Vm (QG.at4 n x).1)) (St.norm 0 (QG.keep 4)) (QG.at4 n x).2
set_option maxRecDepth 100000 in
theorem QG.lem4 (n : Nat) (x : List YD) : ∀ (k : Nat) (p : List YD) (v8 : List YD) (v9 : Int) (v10 : Int),QG.LN4 n x k (QG.st4 p v8 v9 v10) = QG.l4 n k p v8 v9 v10 := by
 intro k
 induction k with
 | zero => intro p v8 v9 v10; rfl
 | succ k ih =>
  intro p v8 v9 v10
  have h : QG.LN4 n x (k + 1) (QG.st4 p v8 v9 v10) = QG.g4 (fun p v8 v9 v10 => QG.LN4 n x k (QG.st4 p v8 v9 v10)) p v8 v9 v10 := by kernel_rfl
  rw [h]
  simp only [ih]
  rfl
set_option maxRecDepth 100000 in
theorem QG.body (n : Nat) (x : List YD) : bodyF QG.E QG.keep n Tryz.f49 QG.con x = QG.fn n x := by
 have h : bodyF QG.E QG.keep n Tryz.f49 QG.con x = QG.top (fun p v8 v9 v10 => QG.LN4 n x n (QG.st4 p v8 v9 v10)) x := by kernel_rfl
 rw [h]
 simp only [QG.lem4]
 rfl
set_option maxRecDepth 100000 in
theorem QG.good : Good Tryz.prog 49 QG.con :=
 Vg tabok (cs := QG.cs) ⟨QaI.good,Q2.good,QT.good,QC.good,trivial⟩ 0 false (fn := Tryz.f49) Tryz.func49 rfl (by decide) (by simp [QG.con]) QG.keep NN (fun _ => rfl) (fun x => QG.body NN x)
end
end Go.Ev.Tryz

namespace Go.Ev.Tryz
open Go.Proofs Go.Pl
set_option linter.unusedVariables false
noncomputable section
def QJ.st4 (v8 : List ByteArray) (v9 : Int) (v10 : Int) : St := ⟨[.gone,.gone,.gone,.gone,.gone,.gone,.gone,.gone,.dat (.sl 9 .str) v8,.dat (.int .i64) v9,.dat (.int .i64) v10,.gone,.gone,.gone,.gone,.gone,.gone,.gone],[]⟩
def QJ.con : Con := { ps := [(.val,(.sl 9 .str))],rs := [(.val,.bool)],F := fun x => QJ.f x }
def QJ.cs : List (FuncId × Con) := [(83,QT.con)]
def QJ.E : Env := envOf tab QJ.cs 0 false
def QJ.keep (i : Nat) : List Nat := if i = 4 then [8,9,10] else []
def QJ.at4 (n : Nat) (x : List ByteArray) : Code × (Ex → St → Option (Bool)) := ctx QJ.E QJ.keep n [.snd,.snd,.fst,.snd,.blk] (Vh Tryz.f50) (kEnd QJ.E Tryz.f50 QJ.con x)
def QJ.LN4 (n : Nat) (x : List ByteArray) : Nat → St → Option (Bool) := loopN (exec QJ.E QJ.keep n (Vm (QJ.at4 n x).1)) (St.norm 0 (QJ.keep 4)) (QJ.at4 n x).2
set_option maxRecDepth 100000 in
theorem QJ.lem4 (n : Nat) (x : List ByteArray) : ∀ (k : Nat) (v8 : List ByteArray) (v9 : Int) (v10 : Int),QJ.LN4 n x k (QJ.st4 v8 v9 v10) = QJ.l4 n k v8 v9 v10 := by
 intro k
 induction k with
 | zero => intro v8 v9 v10; rfl
 | succ k ih =>
  intro v8 v9 v10
  have h : QJ.LN4 n x (k + 1) (QJ.st4 v8 v9 v10) = QJ.g4 (fun v8 v9 v10 => QJ.LN4 n x k (QJ.st4 v8 v9 v10)) v8 v9 v10 := by kernel_rfl
  rw [h]
  simp only [ih]
  rfl
set_option maxRecDepth 100000 in
theorem QJ.body (n : Nat) (x : List ByteArray) : bodyF QJ.E QJ.keep n Tryz.f50 QJ.con x = QJ.fn n x := by
 have h : bodyF QJ.E QJ.keep n Tryz.f50 QJ.con x = QJ.top (fun v8 v9 v10 => QJ.LN4 n x n (QJ.st4 v8 v9 v10)) x := by kernel_rfl
 rw [h]
 simp only [QJ.lem4]
 rfl
set_option maxRecDepth 100000 in
theorem QJ.good : Good Tryz.prog 50 QJ.con :=
 Vg tabok (cs := QJ.cs) ⟨QT.good,trivial⟩ 0 false (fn := Tryz.f50) Tryz.func50 rfl (by decide) (by simp [QJ.con]) QJ.keep NN (fun _ => rfl) (fun x => QJ.body NN x)
end
end Go.Ev.Tryz

namespace Go.Ev.Tryz
open Go.Proofs Go.Pl
set_option linter.unusedVariables false
noncomputable section
def QH.st2 (q : Int) (p : Int) (v9 : List Int) (v10 : Int) (v11 : Int) : St := ⟨[.gone,.dat (.int .i64) q,.dat (.int .i64) p,.gone,.gone,.gone,.gone,.gone,.gone,.dat (.sl 2 (.int .i64)) v9,.dat (.int .i64) v10,.dat (.int .i64) v11,.gone,.gone,.gone,.gone,.gone,.gone,.gone,.gone,.gone],[]⟩
def QH.con : Con := { ps := [(.val,(.sl 2 (.int .i64))),(.val,(.int .i64)),(.val,(.int .i64))],rs := [(.val,.bool)],F := fun x => QH.f x.1 x.2.1 x.2.2 }
def QH.cs : List (FuncId × Con) := [(72,Q2.con)]
def QH.E : Env := envOf tab QH.cs 0 false
def QH.keep (i : Nat) : List Nat := if i = 2 then [1,2,9,10,11] else []
def QH.at2 (n : Nat) (x : List Int × Int × Int) : Code × (Ex → St → Option (Bool)) := ctx QH.E QH.keep n [.snd,.fst,.snd,.blk] (Vh Tryz.f92) (kEnd QH.E Tryz.f92 QH.con x)
def QH.LN2 (n : Nat) (x : List Int × Int × Int) : Nat → St → Option (Bool) := loopN (exec QH.E QH.keep n (Vm (QH.at2 n x).1)) (St.norm 0 (QH.keep 2)) (QH.at2 n x).2
set_option maxRecDepth 100000 in
theorem QH.lem2 (n : Nat) (x : List Int × Int × Int) : ∀ (k : Nat) (q : Int) (p : Int) (v9 : List Int) (v10 : Int) (v11 : Int),QH.LN2 n x k (QH.st2 q p v9 v10 v11) = QH.l2 n k q p v9 v10 v11 := by
 intro k
 induction k with
 | zero => intro q p v9 v10 v11; rfl
 | succ k ih =>
  intro q p v9 v10 v11
  have h : QH.LN2 n x (k + 1) (QH.st2 q p v9 v10 v11) = QH.g2 (fun q p v9 v10 v11 => QH.LN2 n x k (QH.st2 q p v9 v10 v11)) q p v9 v10 v11 := by kernel_rfl
  rw [h]
  simp only [ih]
  rfl
set_option maxRecDepth 100000 in
theorem QH.body (n : Nat) (x : List Int × Int × Int) : bodyF QH.E QH.keep n Tryz.f92 QH.con x = QH.fn n x.1 x.2.1 x.2.2 := by
 have h : bodyF QH.E QH.keep n Tryz.f92 QH.con x = QH.top (fun q p v9 v10 v11 => QH.LN2 n x n (QH.st2 q p v9 v10 v11)) x.1 x.2.1 x.2.2 := by kernel_rfl
 rw [h]
 simp only [QH.lem2]
 rfl
set_option maxRecDepth 100000 in
theorem QH.good : Good Tryz.prog 92 QH.con :=
 Vg tabok (cs := QH.cs) ⟨Q2.good,trivial⟩ 0 false (fn := Tryz.f92) Tryz.func92 rfl (by decide) (by simp [QH.con]) QH.keep NN (fun _ => rfl) (fun x => QH.body NN x)
end
end Go.Ev.Tryz

namespace Go.Ev.Tryz
open Go.Proofs Go.Pl
set_option linter.unusedVariables false
noncomputable section
def Qao.con : Con := { ps := [(.val,(.sl 2 (.int .i64)))],rs := [(.val,.bool)],F := fun x => Qao.f x }
def Qao.cs : List (FuncId × Con) := [(92,QH.con)]
def Qao.E : Env := envOf tab Qao.cs 0 false
def Qao.keep (i : Nat) : List Nat := []
set_option maxRecDepth 100000 in
theorem Qao.body (n : Nat) (x : List Int) : bodyF Qao.E Qao.keep n Tryz.f61 Qao.con x = Qao.fn n x := by
 have h : bodyF Qao.E Qao.keep n Tryz.f61 Qao.con x = Qao.top x := by kernel_rfl
 exact h
set_option maxRecDepth 100000 in
theorem Qao.good : Good Tryz.prog 61 Qao.con :=
 Vg tabok (cs := Qao.cs) ⟨QH.good,trivial⟩ 0 false (fn := Tryz.f61) Tryz.func61 rfl (by decide) (by simp [Qao.con]) Qao.keep NN (fun _ => rfl) (fun x => Qao.body NN x)
end
end Go.Ev.Tryz

namespace Go.Ev.Tryz
open Go.Proofs Go.Pl
set_option linter.unusedVariables false
noncomputable section
def QaH.con : Con := { ps := [(.val,(.sl 2 (.int .i64))),(.val,(.sl 101 (.pair (.int .i64) (.int .i64)))),(.val,(.sl 69 (.pair (.int .i64) (.pair .str (.int .i64))))),(.val,(.sl 9 .str))],rs := [(.val,.bool)],F := fun x => QaH.f x.1 x.2.1 x.2.2.1 x.2.2.2 }
def QaH.cs : List (FuncId × Con) := [(43,Qw.con),(49,QG.con),(50,QJ.con),(61,Qao.con)]
def QaH.E : Env := envOf tab QaH.cs 0 false
def QaH.keep (i : Nat) : List Nat := []
set_option maxRecDepth 100000 in
theorem QaH.body (n : Nat) (x : List Int × YF × YL × List ByteArray) : bodyF QaH.E QaH.keep n Tryz.f27 QaH.con x = QaH.fn n x.1 x.2.1 x.2.2.1 x.2.2.2 := by
 have h : bodyF QaH.E QaH.keep n Tryz.f27 QaH.con x = QaH.top x.1 x.2.1 x.2.2.1 x.2.2.2 := by kernel_rfl
 exact h
set_option maxRecDepth 100000 in
theorem QaH.good : Good Tryz.prog 27 QaH.con :=
 Vg tabok (cs := QaH.cs) ⟨Qw.good,QG.good,QJ.good,Qao.good,trivial⟩ 0 false (fn := Tryz.f27) Tryz.func27 rfl (by decide) (by simp [QaH.con]) QaH.keep NN (fun _ => rfl) (fun x => QaH.body NN x)
end
end Go.Ev.Tryz

namespace Go.Pl
open Go.Ev
set_option linter.unusedVariables false
theorem wf64 {n : Int} : (Lit.int .i64 n).wf = true ↔ (-9223372036854775808 ≤ n ∧ n ≤ 9223372036854775807) := by
 simp only [Lit.wf,Bool.and_eq_true,decide_eq_true_eq]
 have e1 : IntKind.i64.min = -9223372036854775808 := by decide
 have e2 : IntKind.i64.max = 9223372036854775807 := by decide
 omega
theorem wf8 {n : Int} : (Lit.int .u8 n).wf = true ↔ (0 ≤ n ∧ n ≤ 255) := by
 simp only [Lit.wf,Bool.and_eq_true,decide_eq_true_eq]
 have e1 : IntKind.u8.min = 0 := by decide
 have e2 : IntKind.u8.max = 255 := by decide
 omega
theorem w8 {n : Int} (h1 : 0 ≤ n) (h2 : n < 256) : IntKind.u8.wrap n = n := by
 simp only [IntKind.wrap,IntKind.bits,IntKind.signed]
 simp
 omega
theorem Vd {α : Type} (p r : List α) (x z : α) : (p ++ x :: r).getD (p.length : Int).toNat z = x := by simp
theorem Ve {α : Type} (p r : List α) (x y : α) : (p ++ x :: r).set (p.length : Int).toNat y = p ++ y :: r := by simp
theorem Va {α : Type} (p r : List α) (x z : α) : (p ++ x :: r).getD p.length z = x := by simp
theorem Vb {α : Type} (p r : List α) (x y : α) : (p ++ x :: r).set p.length y = p ++ y :: r := by simp
theorem VD {α : Type} (p r : List α) (x : α) : ((p ++ x :: r).length : Int) = (p.length : Int) + r.length + 1 := by simp; omega
theorem Vy {α : Type} (p r : List α) (x : α) : (p ++ [x]) ++ r = p ++ x :: r := by simp
theorem Vt {α : Type} (p : List α) (x : α) : ((p ++ [x]).length : Int) = (p.length : Int) + 1 := by simp
theorem ba_toList {a b : ByteArray} : a.toList = b.toList ↔ a = b := by
 rw [ByteArray.toList_eq,ByteArray.toList_eq]
 exact ⟨fun h => ByteArray.ext (Array.toList_inj.mp h),fun h => by rw [h]⟩
theorem Vax (a b : ByteArray) : (a.toList == b.toList) = decide (a = b) := by
 by_cases h : a = b
 ·subst h; simp
 ·rw [decide_eq_false h,beq_eq_false_iff_ne]; exact fun e => h (ba_toList.1 e)
def bl (s : ByteArray) : List UInt8 := s.data.toList
def ob (l : List UInt8) : ByteArray := ⟨l.toArray⟩
theorem bl_ob (l : List UInt8) : bl (ob l) = l := by simp [bl,ob]
theorem ob_bl (s : ByteArray) : ob (bl s) = s := by simp [bl,ob]
theorem Vci (s : ByteArray) : (bl s).length = s.size := by simp only [bl,Array.length_toList]; rfl
theorem VdV (l : List UInt8) : (ob l).size = l.length := by rw [← Vci,bl_ob]
theorem bt_ob (l : List UInt8) (i : Int) : bt (ob l) i = ((l.getD i.toNat 0).toNat : Int) := rfl
theorem Vf (p r : List UInt8) (c : UInt8) : bt (ob (p ++ c :: r)) (p.length : Int) = (c.toNat : Int) := by rw [bt_ob,Vd]
theorem room8 : room 8 = 17592186044416 := by decide
theorem ViU : room 16 = 8796093022208 := by decide
theorem ViV : room 24 = 5864062014805 := by decide
theorem Vaa : room 32 = 4398046511104 := by decide
theorem ViW : room 40 = 3518437208883 := by decide
theorem NNb : (1000000000000 : Nat) < NN := by rw [NN_eq]; omega
theorem NN_lt {n : Nat} (h : n < 1152921504606846976) : n < NN := by rw [NN_eq]; omega
end Go.Pl

namespace Go.Ev
set_option linter.unusedVariables false
set_option linter.unusedSimpArgs false
open Go.RowKit Go.WideShapes Go.ChangeShapes Go.ChangeAt
variable {P : Program}
def Rg (k : IntKind) (n : Int) : Prop := (Lit.int k n).wf = true
def Sz (s : ByteArray) : Prop := s.size ≤ 140737488355328
def Ls {α : Type} (Q : α → Prop) (xs : List α) : Prop := xs.length ≤ 140737488355328 ∧ ∀ x ∈ xs,Q x
def Plain : (t : Ty) → t.I → Prop
 | .int k,n => Rg k n
 | .bool,_ => True
 | .str,s => Sz s
 | .sl _ t,xs => Ls (Plain t) xs
 | .slb _ _,_ => True
 | .pair a b,x => Plain a x.1 ∧ Plain b x.2
 | .arr n t,xs => xs.length = n ∧ ∀ x ∈ xs,Plain t x
def Vc1 : (ts : List Ty) → Tup ts → Prop
 | [],_ => True
 | [t],x => Plain t x
 | t :: u :: r,x => Plain t x.1 ∧ Vc1 (u :: r) x.2
def okE (B : TypeId → Nat) : Ty → Bool
 | .sl e t => decide (1 ≤ B e) && okE B t
 | .slb e t => decide (1 ≤ B e) && okE B t
 | .pair a b => okE B a && okE B b
 | .arr _ t => okE B t
 | _ => true
theorem Ve0 : reachBytes ≤ 140737488355328 := by decide
theorem Veb {B : TypeId → Nat} : ∀ (t : Ty) (x : t.I),okE B t = true → Fit B t x → Plain t x := by
 intro t
 induction t with
 | int k => intro x _ h; exact h
 | bool => intro x _ h; trivial
 | str => intro x _ h; exact Nat.le_trans h Ve0
 | sl e t ih =>
  intro x ho h
  simp only [okE,Bool.and_eq_true,decide_eq_true_eq] at ho
  refine ⟨?_,fun y hy => ih y ho.2 (h.2 y hy)⟩
  have h1 : x.length * 1 ≤ x.length * B e := Nat.mul_le_mul_left _ ho.1
  have h2 := h.1
  have h3 := Ve0
  omega
 | slb e t ih => intro x ho h; trivial
 | pair a b iha ihb =>
  intro x ho h
  simp only [okE,Bool.and_eq_true] at ho
  exact ⟨iha _ ho.1 h.1,ihb _ ho.2 h.2⟩
 | arr n t ih => intro x ho h; exact ⟨h.1,fun y hy => ih y ho (h.2 y hy)⟩
theorem Ve1 {B : TypeId → Nat} : ∀ (ts : List Ty) (x : Tup ts),ts.all (okE B) = true → VbO B ts x → Vc1 ts x := by
 intro ts
 induction ts with
 | nil => intro x _ _; trivial
 | cons t r ih =>
  intro x ho h
  simp only [List.all_cons,Bool.and_eq_true] at ho
  cases r with
  | nil => exact Veb t x ho.1 h
  | cons u r => exact ⟨Veb t x.1 ho.1 h.1,ih x.2 ho.2 h.2⟩
theorem VgK {tab : List TRow} (h : okB P tab = true) : tab.all (rowB P tab) = true := by
 unfold okB at h; simp only [Bool.and_eq_true] at h; exact h.2.2
theorem Vfw {tab : List TRow} (h : okB P tab = true) : ∀ t x,tabT tab t = some x → P.bytesOf t = tabB tab t := by
 intro t x ht
 have hs := Vbw (VgK h)
 obtain ⟨ty,n⟩ := x
 obtain ⟨i,h1,h2⟩ := (hs.1 t ty n ht).info
 unfold Program.bytesOf
 rw [h1]
 exact hs.2 t _ ht i h1
section
variable {H : Type} {enc : TypeId × Value → H} {w : World} {base : Nat} {spare : Nat → Bool} {held : Bool}
theorem Vim {tab : List TRow} (hok : okB P tab = true) (hpos : posB tab = true) {f : FuncId} {c : Con} (hg : Good P f c) (hps : (c.ps.map (·.2)).map ((Kn.val,·)) = c.ps) (hE : (c.ps.map (·.2)).all (okE (tabB tab)) = true)
  (hlaw : ∀ x,Vc1 (c.ps.map (·.2)) x → ∃ r,c.F x = some r ∧ kds' c.rs (dats _ r) = [(.val,⟨.bool,true⟩)])
  {r : Reach} {b0 : Nat} {ts : List TypeId} {args : Array Value} {ds : List (DataW H)} {p : List MemPlace} (hts : tysOf (tabT tab) ts = some (c.ps.map (·.2))) (h : DataW.TrodAll enc P w base spare held ts args.toList ds p)
  (hval : ∀ (j : Nat) t v,ts[j]? = some t → args[j]? = some v → Value.okWide P w r b0 t v) {vt : List TypeId} {gs : List (DataW H)} (hgs : vt = [] ∨ gs = []) (hw : (DataW.weightsEach P (ts ++ vt) (ds ++ gs)).all (· ≤ reachBytes) = true) (hl : ts.length = ds.length) :
  Calls P f args w fun e w' => e = .returned (.bool true) ∧ Below w.heap.size w w' := by
 refine VgJ (Vbw (VgK hok)).1 (Vfw hok) (Vf9 hpos) hg hps (fun x hx => hlaw x (Ve1 _ x hE hx)) hts h (fun j t v hj hv => hval j t v hj (by simpa using hv)) ?_
 have key : ∀ (ts : List TypeId) (ds : List (DataW H)),ts.length = ds.length → ∀ m ∈ DataW.weightsEach P ts ds,m ∈ DataW.weightsEach P (ts ++ vt) (ds ++ gs) := by
  intro ts
  induction ts with
  | nil => intro ds hl m hm; cases ds <;> simp [DataW.weightsEach] at hm
  | cons t ts ih =>
   intro ds hl m hm
   cases ds with
   | nil => simp [DataW.weightsEach] at hm
   | cons d ds =>
    simp only [List.cons_append,DataW.weightsEach,List.mem_append] at hm ⊢
    rcases hm with hm | hm
    ·exact .inl hm
    ·exact .inr (ih ds (by simpa using hl) m hm)
 intro m hm
 have := List.all_eq_true.1 hw m (key ts ds hl m hm)
 simpa using this
end
end Go.Ev

namespace Go.Pl
open Go.Ev
set_option linter.unusedVariables false
def Sm (s : ByteArray) : Prop := s.size ≤ 1000000
def Lm {α : Type} (Q : α → Prop) (xs : List α) : Prop := xs.length ≤ 1000000 ∧ ∀ x ∈ xs,Q x
theorem Vc2 {α : Type} {E : α → Prop} (l : Nat → List α → List α → Int → Option Bool) (a : List α) (hE : ∀ x ∈ a,E x)
  (hs : ∀ k p x r,E x → a = p ++ x :: r → l (k + 1) a a p.length = l k a a ((p.length : Int) + 1)) (he : ∀ k,l (k + 1) a a a.length = some true) :
  ∀ k,a.length < k → l k a a 0 = some true := by
 have key : ∀ (r p : List α) (k : Nat),a = p ++ r → r.length < k → l k a a p.length = some true := by
  intro r
  induction r with
  | nil =>
   intro p k h hk
   obtain ⟨k,rfl⟩ : ∃ j,k = j + 1 := ⟨k - 1,by omega⟩
   rw [List.append_nil] at h
   rw [← h]; exact he k
  | cons x r ih =>
   intro p k h hk
   simp only [List.length_cons] at hk
   obtain ⟨k,rfl⟩ : ∃ j,k = j + 1 := ⟨k - 1,by omega⟩
   rw [hs k p x r (hE x (by rw [h]; simp)) h]
   have := ih (p ++ [x]) k (by rw [h]; simp) (by omega)
   rw [Vt] at this
   exact this
 intro k hk
 have := key a [] k (by simp) hk
 simpa using this
end Go.Pl

namespace Go.Pl
open Go.Ev
set_option linter.unusedVariables false
theorem V6 {α : Type} {E : α → Prop} (P : α → Bool) (fin : List α → Option Bool) (l : Nat → List α → Int → Option Bool)
  (hn : ∀ k p,l (k + 1) p p.length = fin p)
  (hc : ∀ k p a r,E a → (0 : Int) ≤ (p.length : Int) → (p.length : Int) < ((p ++ a :: r).length : Int) → IntKind.i64.wrap ((p.length : Int) + 1) = (p.length : Int) + 1 → l (k + 1) (p ++ a :: r) p.length = if P a = true then l k (p ++ a :: r) ((p.length : Int) + 1) else some false)
  (xs : List α) (hE : ∀ x ∈ xs,E x) (hB : xs.length ≤ 140737488355328) (k : Nat) (hk : xs.length < k) : l k xs 0 = if xs.all P = true then fin xs else some false := by
 have key : ∀ (r p : List α) (k : Nat),p.length + r.length ≤ 140737488355328 → (∀ x ∈ r,E x) → r.length < k → l k (p ++ r) p.length = if r.all P = true then fin (p ++ r) else some false := by
  intro r
  induction r with
  | nil =>
   intro p k _ _ hk
   obtain ⟨k,rfl⟩ : ∃ j,k = j + 1 := ⟨k - 1,by omega⟩
   rw [List.append_nil,hn]; simp
  | cons a r ih =>
   intro p k hb he hk
   simp only [List.length_cons] at hk hb
   obtain ⟨k,rfl⟩ : ∃ j,k = j + 1 := ⟨k - 1,by omega⟩
   have hm := VD p r a
   rw [hc k p a r (he a (by simp)) (by omega) (by omega) (w64 (by omega) (by omega))]
   have := ih (p ++ [a]) k (by simp; omega) (fun y hy => he y (by simp [hy])) (by omega)
   rw [Vy,Vt] at this
   rw [this]
   cases h : P a <;> simp [h]
 have := key xs [] k (by simpa using hB) hE hk
 simpa using this
theorem Vcj (P : UInt8 → Bool) (fin : ByteArray → Option Bool) (l : Nat → ByteArray → Int → Option Bool)
  (hn : ∀ k p,l (k + 1) (ob p) p.length = fin (ob p))
  (hc : ∀ k p a r,(0 : Int) ≤ (p.length : Int) → (p.length : Int) < ((ob (p ++ a :: r)).size : Int) → IntKind.i64.wrap ((p.length : Int) + 1) = (p.length : Int) + 1 → l (k + 1) (ob (p ++ a :: r)) p.length = if P a = true then l k (ob (p ++ a :: r)) ((p.length : Int) + 1) else some false)
  (s : ByteArray) (hB : s.size ≤ 140737488355328) (k : Nat) (hk : s.size < k) : l k s 0 = if (bl s).all P = true then fin s else some false := by
 have := V6 (E := fun _ => True) P (fun x => fin (ob x)) (fun k x i => l k (ob x) i) hn (fun k p a r _ h1 h2 h3 => hc k p a r h1 (by rw [VdV]; exact h2) h3) (bl s) (fun _ _ => trivial) (by rw [Vci]; exact hB) k (by rw [Vci]; exact hk)
 rw [ob_bl] at this
 exact this
def foldi {α σ : Type} (f : Nat → σ → α → σ) : Nat → σ → List α → σ
 | _,st,[] => st
 | i,st,a :: r => foldi f (i + 1) (f i st a) r
theorem VP {α σ : Type} (f : σ → α → σ) : ∀ (xs : List α) (i : Nat) (st : σ),foldi (fun _ => f) i st xs = xs.foldl f st := by
 intro xs
 induction xs with
 | nil => intro i st; rfl
 | cons a r ih => intro i st; exact ih _ _
theorem VU {α σ ρ : Type} {E : α → Prop} (I : List α → σ → Prop) (f : Nat → σ → α → σ) (fin : σ → Option ρ) (l : Nat → Int → σ → Option ρ) (xs : List α)
  (hn : ∀ k st,I xs st → l (k + 1) xs.length st = fin st)
  (hc : ∀ k p a r st,xs = p ++ a :: r → E a → I p st → (0 : Int) ≤ (p.length : Int) → (p.length : Int) < (xs.length : Int) → p.length < 140737488355328 → IntKind.i64.wrap ((p.length : Int) + 1) = (p.length : Int) + 1 → (∀ z,xs.getD p.length z = a) →
   I (p ++ [a]) (f p.length st a) ∧ l (k + 1) p.length st = l k ((p.length : Int) + 1) (f p.length st a))
  (st : σ) (hE : ∀ x ∈ xs,E x) (hI : I [] st) (hB : xs.length ≤ 140737488355328) (k : Nat) (hk : xs.length < k) :
  I xs (foldi f 0 st xs) ∧ l k 0 st = fin (foldi f 0 st xs) := by
 have key : ∀ (r p : List α) (k : Nat) (st : σ),xs = p ++ r → (∀ x ∈ r,E x) → I p st → r.length < k → I xs (foldi f p.length st r) ∧ l k p.length st = fin (foldi f p.length st r) := by
  intro r
  induction r with
  | nil =>
   intro p k st hx _ hI hk
   obtain ⟨k,rfl⟩ : ∃ j,k = j + 1 := ⟨k - 1,by omega⟩
   rw [List.append_nil] at hx
   subst hx; exact ⟨hI,hn k st hI⟩
  | cons a r ih =>
   intro p k st hx he hI hk
   simp only [List.length_cons] at hk
   obtain ⟨k,rfl⟩ : ∃ j,k = j + 1 := ⟨k - 1,by omega⟩
   have hm := VD p r a
   have hxl : (xs.length : Int) = ((p ++ a :: r).length : Int) := by rw [hx]
   obtain ⟨h1,h2⟩ := hc k p a r st hx (he a (by simp)) hI (by omega) (by omega) (by omega) (w64 (by omega) (by omega)) (fun z => by rw [hx,Va])
   have := ih (p ++ [a]) k (f p.length st a) (by rw [hx]; simp) (fun y hy => he y (by simp [hy])) h1 (by omega)
   rw [Vt] at this
   rw [h2]
   simpa [foldi] using this
 have := key xs [] k st (by simp) hE hI hk
 simpa using this
def V4 {α : Type} (P : α → Bool) : Nat → List α → Option (Nat × α)
 | _,[] => none
 | i,a :: r => if P a = true then some (i,a) else V4 P (i + 1) r
theorem Vec {α ρ : Type} {E : α → Prop} (P : α → Bool) (hit : Nat → α → Option ρ) (fin : List α → Option ρ) (l : Nat → List α → Int → Option ρ)
  (hn : ∀ k p,l (k + 1) p p.length = fin p)
  (hc : ∀ k p a r,E a → (0 : Int) ≤ (p.length : Int) → (p.length : Int) < ((p ++ a :: r).length : Int) → p.length < 140737488355328 → IntKind.i64.wrap ((p.length : Int) + 1) = (p.length : Int) + 1 → l (k + 1) (p ++ a :: r) p.length = if P a = true then hit p.length a else l k (p ++ a :: r) ((p.length : Int) + 1))
  (xs : List α) (hE : ∀ x ∈ xs,E x) (hB : xs.length ≤ 140737488355328) (k : Nat) (hk : xs.length < k) : l k xs 0 = (V4 P 0 xs).elim (fin xs) (fun x => hit x.1 x.2) := by
 have key : ∀ (r p : List α) (k : Nat),p.length + r.length ≤ 140737488355328 → (∀ x ∈ r,E x) → r.length < k → l k (p ++ r) p.length = (V4 P p.length r).elim (fin (p ++ r)) (fun x => hit x.1 x.2) := by
  intro r
  induction r with
  | nil =>
   intro p k _ _ hk
   obtain ⟨k,rfl⟩ : ∃ j,k = j + 1 := ⟨k - 1,by omega⟩
   rw [List.append_nil,hn]; rfl
  | cons a r ih =>
   intro p k hb he hk
   simp only [List.length_cons] at hk hb
   obtain ⟨k,rfl⟩ : ∃ j,k = j + 1 := ⟨k - 1,by omega⟩
   have hm := VD p r a
   rw [hc k p a r (he a (by simp)) (by omega) (by omega) (by omega) (w64 (by omega) (by omega))]
   have := ih (p ++ [a]) k (by simp; omega) (fun y hy => he y (by simp [hy])) (by omega)
   rw [Vy,Vt] at this
   rw [this]
   cases h : P a <;> simp [h,V4]
 have := key xs [] k (by simpa using hB) hE hk
 simpa using this
end Go.Pl

namespace Go.Ev
set_option linter.unusedVariables false
set_option linter.unusedSimpArgs false
variable {ρ : Type} {P : Program}
def V.lt (n : Nat) : V → Bool
 | .ref i => decide (i < n)
 | .ptr i _ => decide (i < n)
 | .vw i _ => decide (i < n)
 | .pr a b => a.lt n && b.lt n
 | .tp a b => a.lt n && b.lt n
 | _ => true
section
variable {φ φ' : Nat → Value} {hk hk' : Nat → Option Kd} {w w' : World} {S S' : Nat → Prop} {n : Nat}
theorem VC_lt (hφ : ∀ i k, i < n → hk i = some k → φ' i = φ i) (hkk : ∀ i k, i < n → hk i = some k → hk' i = some k ∨ hk' i = some .dead) (h : ∀ b, S b → S' b ∧ w'.heap[b]? = w.heap[b]?) :
  ∀ (t : Ty) (v : V) (cs : List Value), v.lt n = true → VC φ hk w S t v cs → VC φ' hk' w' S' t v cs := by
 intro t v
 induction v generalizing t with
 | dat u x => intro cs _ k; exact VC_dat.2 ⟨(VC_dat.1 k).1, VH h _ _ _ (VC_dat.1 k).2⟩
 | ref id =>
  intro cs hl k
  have hl := of_decide_eq_true hl
  cases t with
  | sl e t =>
   rcases k with ⟨h1, h2⟩ | ⟨h1, rfl, A, n, c, h3⟩
   ·exact .inl ⟨(hkk _ _ hl h1).elim (fun h => h) (fun h => h), h2⟩
   ·rcases hkk _ _ hl h1 with h4 | h4
    ·exact .inr ⟨h4, by rw [hφ _ _ hl h1], A, n, c, by rw [hφ _ _ hl h1, h3]⟩
    ·exact .inl ⟨h4, A, n, c, by rw [h3]⟩
  | _ => exact k.elim
 | pr a b iha ihb =>
  intro cs hl k
  simp only [V.lt, Bool.and_eq_true] at hl
  cases t with
  | pair t u => obtain ⟨c0, c1, rfl, h0, h1⟩ := k; exact ⟨c0, c1, rfl, iha _ _ hl.1 h0, ihb _ _ hl.2 h1⟩
  | _ => exact k.elim
 | _ => intro cs _ k; cases t <;> exact k.elim
theorem VR_lt (hφ : ∀ i k, i < n → hk i = some k → φ' i = φ i) (hkk : ∀ i k, i < n → hk i = some k → hk' i = some k ∨ hk' i = some .dead) (h : ∀ b, S b → S' b ∧ w'.heap[b]? = w.heap[b]?) :
  ∀ (v : V), v.lt n = true → (∀ u, VR φ hk w S v u → VR φ' hk' w' S' v u) ∧ (∀ l, VRt φ hk w S v l → VRt φ' hk' w' S' v l) := by
 intro v
 induction v with
 | dat t x => intro _; exact ⟨fun u ⟨cs, h1, h2⟩ => ⟨cs, VH h _ _ _ h1, h2⟩, fun l hl => hl⟩
 | nil => intro _; exact ⟨fun u k => k, fun l hl => hl⟩
 | ref id =>
  intro hl
  have hl := of_decide_eq_true hl
  refine ⟨fun u k => ?_, fun l hl => hl⟩
  rcases k with k | ⟨⟨e, t, k⟩, rfl⟩
  ·exact .inl ((hkk _ _ hl k).elim (fun h => h) (fun h => h))
  ·rcases hkk _ _ hl k with h4 | h4
   ·exact .inr ⟨⟨e, t, h4⟩, (hφ _ _ hl k).symm⟩
   ·exact .inl h4
 | ptr id p =>
  intro hl
  have hl := of_decide_eq_true hl
  refine ⟨fun u k => ?_, fun l hl => hl⟩
  rcases k with k | ⟨e, t, g, n, c, i, q, k, h1, h2, h0, h3⟩ | ⟨e, t, g, k, h1, h0, h2⟩
  ·exact .inl ((hkk _ _ hl k).elim (fun h => h) (fun h => h))
  ·rcases hkk _ _ hl k with h4 | h4
   ·exact .inr (.inl ⟨e, t, g, n, c, i, q, h4, (hφ _ _ hl k).trans h1, h2, h0, h3⟩)
   ·exact .inl h4
  ·rcases hkk _ _ hl k with h4 | h4
   ·exact .inr (.inr ⟨e, t, g, h4, (hφ _ _ hl k).trans h1, h0, h2⟩)
   ·exact .inl h4
 | dptr t x =>
  intro _
  exact ⟨fun u ⟨p, cs, h1, h2, h3, h4, h5⟩ => ⟨p, cs, h1, h2, (h _ h3).1, VH h _ _ _ h4, fun j u hu => (VaD (a := ⟨p.block, p.off + j, none⟩) (h _ h3).2).trans (h5 j u hu)⟩, fun l hl => hl⟩
 | pr a b iha ihb => intro hl; exact ⟨fun u ⟨t, cs, h1, h2⟩ => ⟨t, cs, VC_lt hφ hkk h t (.pr a b) cs hl h1, h2⟩, fun l hl => hl⟩
 | tp a b iha ihb =>
  intro hl
  simp only [V.lt, Bool.and_eq_true] at hl
  refine ⟨?_, ?_⟩
  ·rintro v ⟨u, r, rfl, h1, h2⟩
   exact ⟨u, r, rfl, (iha hl.1).1 u h1, (ihb hl.2).2 r h2⟩
  ·rintro l ⟨u, r, rfl, h1, h2⟩
   exact ⟨u, r, rfl, (iha hl.1).1 u h1, (ihb hl.2).2 r h2⟩
 | vw id l =>
  intro hl
  have hl := of_decide_eq_true hl
  refine ⟨fun u k => ?_, fun l hl => hl⟩
  rcases k with k | ⟨e, t, A, n, c, k, h1, h2, h3⟩
  ·exact .inl ((hkk _ _ hl k).elim (fun h => h) (fun h => h))
  ·rcases hkk _ _ hl k with h4 | h4
   ·exact .inr ⟨e, t, A, n, c, h4, (hφ _ _ hl k).trans h1, h2, h3⟩
   ·exact .inl h4
 | und => intro _; exact ⟨fun _ hl => hl, fun l hl => hl⟩
 | gone => intro _; exact ⟨fun _ _ => trivial, fun l hl => hl⟩
end
section
variable {base io : Nat} {W0 : World} {IO Old : Nat → Prop} {φ0 : Nat → Value × Kd} {s s3 : St} {a a3 : Act} {w w3 : World} {ow ow3 : Nat → Option Nat} {φ φ3 : Nat → Value}
def Ve2 (φ : Nat → Value) (hp : List Blk) : Nat → Value × Kd := fun i => (φ i, (kds hp i).getD .dead)
def OldIn (ow : Nat → Option Nat) (w : World) (Old : Nat → Prop) (base b : Nat) : Prop := Fz ow w Old base b ∨ ∃ id, ow b = some id
theorem Fz_in {b : Nat} (h : Fz ow w Old base b) : Fz ow w (OldIn ow w Old base) w.heap.size b := ⟨h.1, h.2.1, .inl (.inl h)⟩
theorem VgL {m : Nat} (hm : m ≤ s.hp.length) (hr : Rel base W0 IO Old io φ0 s a w ow φ) {vs : List V} {us : List Value} (h : All2 (VR φ (kds s.hp) w (Fz ow w Old base)) vs us) (n : Nat) :
  Rel w.heap.size w (fun b => ∃ id, ow b = some id) (OldIn ow w Old base) m (Ve2 φ s.hp) ⟨vs ++ List.replicate n .und, s.hp⟩ { tmps := (us ++ List.replicate n undef).toArray, defers := [] } w ow φ := by
 have mv : ∀ (v : V) (u : Value), VR φ (kds s.hp) w (Fz ow w Old base) v u → VR φ (kds s.hp) w (Fz ow w (OldIn ow w Old base) w.heap.size) v u := fun v u k => ((Vbe (fun _ _ _ => rfl) (fun i k hk => .inl hk) (fun b hb => ⟨Fz_in hb, rfl⟩)) v).1 u k
 have hl := h.length
 refine ⟨rfl, ?_, ?_, ?_, ?_, ?_, Nat.le_refl _, ⟨rfl, rfl, rfl⟩, hm, fun i _ => rfl, fun i k _ hk => .inr ?_⟩
 ·simp [hl]
 ·intro i v hv
  by_cases hi : i < vs.length
  ·rw [List.getElem?_append_left hi] at hv
   obtain ⟨u, h1, h2⟩ := h.get.2 i v hv
   refine ⟨u, ?_, mv v u h2⟩
   have hi2 : i < us.length := by omega
   simp only [List.getElem?_toArray]
   rw [List.getElem?_append_left hi2]; exact h1
  ·rw [List.getElem?_append_right (by omega)] at hv
   obtain ⟨h1, h2⟩ := List.getElem?_eq_some_iff.1 hv
   rw [List.getElem_replicate] at h2
   subst h2
   refine ⟨undef, ?_, rfl⟩
   simp only [List.getElem?_toArray]
   rw [List.getElem?_append_right (by omega), List.getElem?_replicate, if_pos (by simpa [hl] using h1)]
 ·intro id b hb
  exact VX rfl (fun _ _ _ => rfl) (fun i k hk => .inl hk) (fun b hb => ⟨Fz_in hb, rfl⟩) (fun g hg => ⟨hg, rfl⟩) (hr.hp id b hb)
 ·intro b id hb
  have := hr.own b id hb
  exact ⟨this.1, .inr ⟨⟨id, hb⟩, .inr (.inr ⟨id, hb⟩)⟩, this.2.2⟩
 ·intro b _ _; rfl
 ·show k = (kds s.hp i).getD .dead
  rw [hk]; rfl
theorem VgM {m : Nat} (hlt : ∀ v ∈ s.sl, v.lt m = true) (hr : Rel base W0 IO Old 0 φ0 s a w ow φ) (h3 : Rel w.heap.size w (fun b => ∃ id, ow b = some id) (OldIn ow w Old base) m (Ve2 φ s.hp) s3 a3 w3 ow3 φ3) :
  Rel base W0 IO Old 0 φ0 ⟨s.sl, s3.hp⟩ a w3 ow3 φ3 := by
 have hφ : ∀ i k, i < m → kds s.hp i = some k → φ3 i = φ i := fun i k hi hk => h3.f0 i hi
 have hkk : ∀ i k, i < m → kds s.hp i = some k → kds s3.hp i = some k ∨ kds s3.hp i = some .dead := fun i k hi hk => by
  have hi3 : i < s3.hp.length := Nat.lt_of_lt_of_le hi h3.iol
  obtain ⟨k', hk'⟩ : ∃ k', kds s3.hp i = some k' := ⟨_, kds_some.2 ⟨s3.hp[i], List.getElem?_eq_getElem hi3, rfl⟩⟩
  have := h3.k0 i k' hi hk'
  have e : (Ve2 φ s.hp i).2 = k := by show (kds s.hp i).getD .dead = k; rw [hk]; rfl
  rw [e] at this
  rcases this with rfl | rfl
  ·exact .inr hk'
  ·exact .inl hk'
 have hS : ∀ b, Fz ow w Old base b → Fz ow3 w3 Old base b ∧ w3.heap[b]? = w.heap[b]? := fun b hb => by
  have hn : ¬ ∃ id, ow b = some id := fun ⟨id, h⟩ => by rw [hb.1] at h; cases h
  refine ⟨⟨?_, Nat.lt_of_lt_of_le hb.2.1 h3.sz, hb.2.2⟩, h3.fr b hb.2.1 hn⟩
  cases e : ow3 b with
  | none => rfl
  | some id =>
   rcases (h3.own b id e).2.1 with h | h
   ·exact absurd hb.2.1 (Nat.not_lt.2 h)
   ·exact absurd h.1 hn
 refine ⟨hr.dl, hr.len, ?_, ?_, ?_, ?_, Nat.le_trans hr.sz h3.sz, ⟨h3.mt.1.trans hr.mt.1, h3.mt.2.1.trans hr.mt.2.1, h3.mt.2.2.trans hr.mt.2.2⟩, Nat.zero_le _, fun i hi => absurd hi (Nat.not_lt_zero _), fun i k hi => absurd hi (Nat.not_lt_zero _)⟩
 ·intro i v hv
  obtain ⟨u, h1, h2⟩ := hr.sl i v hv
  exact ⟨u, h1, (VR_lt hφ hkk hS v (hlt v (List.mem_of_getElem? hv))).1 u h2⟩
 ·intro id b hb
  refine VX (F' := Fz ow3 w3 Old base) rfl (fun _ _ _ => rfl) (fun i k hk => .inl hk) (fun b hb => ⟨⟨hb.1, hb.2.1, ?_⟩, rfl⟩) (fun g hg => ⟨hg, rfl⟩) (h3.hp id b hb)
  rcases hb.2.2 with (h | ⟨id0, h⟩) | h
  ·exact h.2.2
  ·rcases (hr.own b id0 h).2.1 with k | ⟨k1, k2 | k2⟩
   ·exact .inr k
   ·exact absurd k2 (Nat.not_lt_zero _)
   ·exact .inl k2
  ·exact .inr (Nat.le_trans hr.sz h)
 ·intro b id hb
  have := h3.own b id hb
  refine ⟨this.1, ?_, this.2.2⟩
  rcases this.2.1 with h | ⟨⟨id0, h⟩, _⟩
  ·exact .inl (Nat.le_trans hr.sz h)
  ·rcases (hr.own b id0 h).2.1 with k | ⟨k1, k2 | k2⟩
   ·exact .inl k
   ·exact absurd k2 (Nat.not_lt_zero _)
   ·exact .inr ⟨k1, .inr k2⟩
 ·intro b hb hi
  have hlt : b < w.heap.size := Nat.lt_of_lt_of_le hb hr.sz
  rw [h3.fr b hlt ?_]
  ·exact hr.fr b hb hi
  ·rintro ⟨id, h⟩
   rcases (hr.own b id h).2.1 with k | ⟨k, _⟩
   ·exact absurd hb (Nat.not_lt.2 k)
   ·exact hi k
end
def Vc3 (I : FuncId → Option Func) (ops : Array Oper) : Option (List Oper × Oper × FuncId × Func × List Operand) := match ops.toList.reverse with
 | o :: r => match o.guard, o.op with
  | none, .call c => match c.callee with
   | .value (.func f) => match I f with
    | some fn => if fn.results.toList.isEmpty then some (r.reverse, o, f, fn, c.args.toList) else none
    | none => none
   | _ => none
  | _, _ => none
 | [] => none
def evAll (s : St) : List Operand → Option (List V)
 | [] => some []
 | x :: r => match s.ev x, evAll s r with
  | some v, some l => some (v :: l)
  | _, _ => none
def kIn (k : St → Option ρ) (sl : List V) (dst : Option Tmp) : Ex → St → Option ρ := fun e s3 => match e with
 | .exit _ => none
 | _ => k (({ sl := sl, hp := s3.hp } : St).put dst .gone)
def Vay (keep : Nat → List Nat) (id : Nat) : Nat → List Nat := fun i => keep (10000000 * (id + 1) + i)
def envIn (E : Env) (io : Nat) : Env := { E with io := io, fr := true }
def V.top : V → Nat
 | .ref i => i + 1
 | .ptr i _ => i + 1
 | .vw i _ => i + 1
 | .pr a b => max a.top b.top
 | .tp a b => max a.top b.top
 | _ => 0
def topS (s : St) : Nat := s.sl.foldl (fun m v => max m v.top) 0
noncomputable def VdW (E : Env) (keep : Nat → List Nat) (n id : Nat) (fn : Func) (args : List Operand) (dst : Option Tmp) (s : St) (k : St → Option ρ) : Option ρ := match evAll s args with
 | some vs => if E.io = 0 ∧ topS s ≤ s.hp.length ∧ (s.sl.all fun v => v.lt (topS s)) = true then exec (envIn E (topS s)) (Vay keep id) n (Vh fn) (kIn k s.sl dst) ⟨vs ++ List.replicate (fn.ntmps - vs.length) .und, s.hp⟩ else none
 | none => none
noncomputable def execI (E : Env) (I : FuncId → Option Func) (keep : Nat → List Nat) (n : Nat) : Code → (Ex → St → Option ρ) → St → Option ρ
 | .skip, K, s => K .normal s
 | .seq a b, K, s => execI E I keep n a (kSeq (cutAt E.io (keep (1000000 + VK b)) n (execI E I keep n b K)) K) s
 | .cond c a b, K, s => match s.ev c with
  | some (.dat .bool c) => if c = true then execI E I keep n a K s else execI E I keep n b K s
  | _ => none
 | .block id c, K, s => execI E I keep n c (VbH id K) s
 | .loop c, K, s => match s.norm E.io (keep (VK c)) with
  | some s => loopN (execI E I keep n c) (St.norm E.io (keep (VK c))) K n s
  | none => none
 | .region id ops false, K, s => match Vc3 I ops with
  | some (pre, o, _, fn, args) => evOps E ops pre s fun s => VdW E keep n id fn args o.dst s (K .normal)
  | none => evOps E ops ops.toList s (K .normal)
 | .region _ ops true, K, s => if Region.noSelect ops = true then Vc E ops ops.size 0 s (K .normal) else none
 | .exit id, K, s => K (.exit id) s
 | .ret, K, s => K .ret s
 | _, _, _ => none
noncomputable def ctxI (E : Env) (I : FuncId → Option Func) (keep : Nat → List Nat) (n : Nat) : List (Way ρ) → Code → (Ex → St → Option ρ) → Code × (Ex → St → Option ρ)
 | .fst :: p, .seq a b, K => ctxI E I keep n p a (kSeq (cutAt E.io (keep (1000000 + VK b)) n (execI E I keep n b K)) K)
 | .snd :: p, .seq _ b, K => ctxI E I keep n p b K
 | .yes :: p, .cond _ a _, K => ctxI E I keep n p a K
 | .no :: p, .cond _ _ b, K => ctxI E I keep n p b K
 | .blk :: p, .block id c, K => ctxI E I keep n p c (VbH id K)
 | .rd L :: p, .loop c, K => ctxI E I keep n p c (kLoop (St.norm E.io (keep (VK c))) L K)
 | _, c, K => (c, K)
section
variable {E : Env} {base : Nat} {W0 : World} {IO Old : Nat → Prop} {φ0 : Nat → Value × Kd} {s : St} {a : Act} {w w' : World} {o : Oper} {r : ρ} {ow : Nat → Option Nat} {φ : Nat → Value}
theorem Vev {I : FuncId → Option Func} {ops : Array Oper} {pre : List Oper} {o : Oper} {f : FuncId} {fn : Func} {args : List Operand} (h : Vc3 I ops = some (pre, o, f, fn, args)) :
  ops.toList = pre ++ [o] ∧ o.guard = none ∧ I f = some fn ∧ fn.results.toList = [] ∧ ∃ c, o.op = .call c ∧ c.callee = .value (.func f) ∧ c.args.toList = args := by
 unfold Vc3 at h
 split at h
 ·rename_i o' r he
  split at h
  ·rename_i c hg ho
   split at h
   ·rename_i f' hc
    split at h
    ·rename_i fn' hI
     split at h
     ·rename_i hr
      simp only [Option.some.injEq, Prod.mk.injEq] at h
      obtain ⟨rfl, rfl, rfl, rfl, rfl⟩ := h
      have := congrArg List.reverse he
      simp only [List.reverse_reverse, List.reverse_cons] at this
      exact ⟨this, hg, hI, List.isEmpty_iff.1 hr, c, ho, hc, rfl⟩
     ·cases h
    ·cases h
   ·cases h
  ·cases h
 ·cases h
theorem Vfx (hr : Rel base W0 IO Old E.io φ0 s a w ow φ) : ∀ (l : List Operand) (vs : List V), evAll s l = some vs → All2 (VR φ (kds s.hp) w (Fz ow w Old base)) vs (l.map a.eval) := by
 intro l
 induction l with
 | nil => intro vs h; cases h; exact .nil
 | cons x l ih =>
  intro vs h
  simp only [evAll] at h
  split at h
  ·rename_i v l' h1 h2
   cases h
   exact .cons (Vj hr h1) (ih _ h2)
  ·cases h
theorem Vhv (hE : EnvOk P E IO Old) {ops : Array Oper} {Q : Exit → Act → World → Prop} {rest : List Oper} : ∀ (l : List Oper) (s : St) (k : St → Option ρ) (a : Act) (w : World), evOps E ops l s k = some r → RelE base W0 IO Old E.io φ0 s a w →
  (∀ s' a' w', k s' = some r → RelE base W0 IO Old E.io φ0 s' a' w' → wpList P ops Q rest a' w') → wpList P ops Q (l ++ rest) a w := by
 intro l
 induction l with
 | nil => intro s k a w h hr hq; exact hq s a w h hr
 | cons o l ih =>
  intro s k a w h hr hq
  simp only [evOps] at h
  show wpList P ops Q (o :: (l ++ rest)) a w
  unfold wpList
  rcases VaF (Q := Q) (next := wpList P ops Q (l ++ rest)) hE h hr (fun s' a' w' hk hr' => ih s' k a' w' hk hr' hq) with ⟨h1, h2⟩ | ⟨h1, h2⟩
  ·rw [if_pos h1]; exact .inl h2.wp
  ·rw [if_neg (by simp [h1])]; exact h2
theorem Vew (hE : EnvOk P E IO Old) {I : FuncId → Option Func} (hI : ∀ f fn, I f = some fn → P.funcs[f]? = some fn ∧ fn.body.isSome = true ∧ fn.name ≠ "runtime.NumGoroutine") {o : Oper} {f : FuncId} {fn : Func} {args : List Operand} {cl : Call}
  (ho : o.op = .call cl) (hc : cl.callee = .value (.func f)) (ha : cl.args.toList = args) (hf : I f = some fn) (hres : fn.results.toList = []) {keep : Nat → List Nat} {n id : Nat} {k : St → Option ρ} (h : VdW E keep n id fn args o.dst s k = some r) (hr : RelE base W0 IO Old E.io φ0 s a w)
  {next : Act → World → Prop} {Q : Exit → Act → World → Prop} (hn : ∀ s' a' w', k s' = some r → RelE base W0 IO Old E.io φ0 s' a' w' → next a' w') : o.wp P a w next Q := by
 obtain ⟨ow, φ, hr⟩ := hr
 unfold VdW at h
 split at h
 rotate_left
 ·cases h
 rename_i vs hvs
 split at h
 rotate_left
 ·cases h
 rename_i hio
 have hall := Vfx hr args vs hvs
 obtain ⟨hP, hb, hname⟩ := hI f fn hf
 obtain ⟨code, hcode⟩ := Option.isSome_iff_exists.1 hb
 have hent := VgL hio.2.1 hr hall (fn.ntmps - vs.length)
 have hE' : EnvOk P (envIn E (topS s)) (fun b => ∃ id, ow b = some id) (OldIn ow w Old base) := ⟨hE.mo, hE.ty, hE.eq', hE.by', hE.con, fun _ b hb => .inr hb⟩
 have hlen := hall.length
 have hcall : Calls P f (args.map a.eval).toArray w fun e w' => e = .returned (retOf []) ∧ next (a.put o.dst (retOf [])) w' := by
  refine calls_of_wp hP hcode ?_
  have htm : (args.map a.eval).toArray ++ Array.replicate (fn.ntmps - (args.map a.eval).toArray.size) undef = (args.map a.eval ++ List.replicate (fn.ntmps - vs.length) undef).toArray := by
   apply Array.ext'
   simp only [List.length_map] at hlen
   simp [hlen]
  rw [htm]
  have hcd : Vh fn = code := by unfold Vh; rw [hcode]
  rw [hcd] at h
  refine VdB hE' _ n code _ _ _ _ _ h ⟨ow, φ, hent⟩ fun e s3 a3 w3 hk hr3 => ?_
  obtain ⟨ow3, φ3, hr3⟩ := hr3
  have key : k (({ sl := s.sl, hp := s3.hp } : St).put o.dst .gone) = some r → a3.defers = [] ∧ ∃ v, (results fn a3.tmps).run P w3 = .ok v w3 ∧ ((Ending.returned v = .returned (retOf [])) ∧ next (a.put o.dst (retOf [])) w3) := fun hk => by
   have hr0 := hr
   rw [hio.1] at hr0
   have hl := VgM (List.all_eq_true.1 hio.2.2) hr0 hr3
   have hp := Rel.put hl (v := .gone) (u := retOf []) trivial o.dst
   obtain ⟨us, hu, hrun⟩ := VbC hE' hr3 (vs := []) (by rw [hres]; rfl)
   have hu0 : us = [] := List.length_eq_zero_iff.1 (by have := hu.length; simpa using this.symm)
   rw [hu0] at hrun
   exact ⟨hr3.dl, retOf [], hrun, rfl, hn _ _ _ hk ⟨_, _, by rw [hio.1]; exact hp⟩⟩
  cases e with
  | normal => exact key hk
  | exit i => cases hk
  | ret => exact key hk
 have hrun : (execOp a.eval o).run P w = .ok (.enter f (args.map a.eval).toArray) w := by
  have hbn : fn.body.isNone = false := by cases hb : fn.body <;> simp_all
  have e1 : (args.map a.eval).toArray = cl.args.map a.eval := by rw [← ha, ← Array.toList_map]
  rw [e1]
  simp [execOp, ho, resolve, hc, Act.eval, Deferred.ofValue, invoke, callFunc, hP, hname, hbn]
  intro hb
  rw [hb] at hcode
  cases hcode
 unfold Oper.wp
 rw [hrun, Oper.upon_enter]
 refine hcall.mono fun e w' hpost => ?_
 obtain ⟨rfl, h2⟩ := hpost
 exact h2
theorem Vfy (hE : EnvOk P E IO Old) {I : FuncId → Option Func} (hI : ∀ f fn, I f = some fn → P.funcs[f]? = some fn ∧ fn.body.isSome = true ∧ fn.name ≠ "runtime.NumGoroutine") (keep : Nat → List Nat) (n : Nat) : ∀ (c : Code) (K : Ex → St → Option ρ) (Q : Exit → Act → World → Prop) (s : St) (a : Act) (w : World), execI E I keep n c K s = some r → RelE base W0 IO Old E.io φ0 s a w →
  (∀ e s' a' w', K e s' = some r → RelE base W0 IO Old E.io φ0 s' a' w' → Q e.to a' w') → c.wp P Q a w := by
 intro c
 induction c with
 | skip => intro K Q s a w h hr hq; exact wp_skip (hq .normal s a w h hr)
 | seq x y ihx ihy =>
  intro K Q s a w h hr hq
  refine wp_seq (ihx _ _ s a w h hr fun e s' a' w' hk hr' => ?_)
  cases e with
  | normal =>
   rcases Vdg hk with hk | ⟨s2, hs2, hk⟩
   ·exact ihy K Q s' a' w' hk hr' hq
   ·exact ihy K Q s2 a' w' hk (Vas hr' hs2) hq
  | exit i => exact hq _ s' a' w' hk hr'
  | ret => exact hq _ s' a' w' hk hr'
 | cond c x y ihx ihy =>
  intro K Q s a w h hr hq
  simp only [execI] at h
  split at h
  ·rename_i b hb
   obtain ⟨ow, φ, hr0⟩ := hr
   have hv := VaO (Vj hr0 hb)
   split at h
   ·rename_i hbt
    subst hbt
    exact wp_cond_true hv (ihx K Q s a w h ⟨ow, φ, hr0⟩ hq)
   ·rename_i hbf
    simp only [Bool.not_eq_true] at hbf
    subst hbf
    exact wp_cond_false hv (ihy K Q s a w h ⟨ow, φ, hr0⟩ hq)
  ·cases h
 | block id c ih =>
  intro K Q s a w h hr hq
  refine wp_block (ih _ _ s a w h hr fun e s' a' w' hk hr' => ?_)
  cases e with
  | normal => exact hq .normal s' a' w' hk hr'
  | exit i =>
   simp only [VbH] at hk
   show (if i = id then Q .normal a' w' else Q (.exit i) a' w')
   split at hk
   ·rename_i hi; rw [if_pos hi]; exact hq .normal s' a' w' hk hr'
   ·rename_i hi; rw [if_neg hi]; exact hq (.exit i) s' a' w' hk hr'
  | ret => exact hq .ret s' a' w' hk hr'
 | loop c ih =>
  intro K Q s a w h hr hq
  simp only [execI] at h
  split at h
  rotate_left
  ·cases h
  rename_i s0 hs0
  have hr0 := Vas hr hs0
  have key : ∀ m s a w, loopN (execI E I keep n c) (St.norm E.io (keep (VK c))) K m s = some r → RelE base W0 IO Old E.io φ0 s a w → ∀ b k cs,
    ∃ e a' w', Q e a' w' ∧ Arrives P (lone (b.at a (.code c :: .inLoop c :: k)) cs w) b k cs e a' w' := by
   intro m
   induction m with
   | zero => intro s a w h; cases h
   | succ m ihm =>
    intro s a w h hr b k cs
    simp only [loopN] at h
    obtain ⟨e, a₁, w₁, hq1, harr⟩ := ih _ (fun e a' w' => match e with
     | .normal => ∃ s', RelE base W0 IO Old E.io φ0 s' a' w' ∧ loopN (execI E I keep n c) (St.norm E.io (keep (VK c))) K m s' = some r
     | e => Q e a' w') s a w h hr (fun e s' a' w' hk hr' => by
      cases e with
      | normal =>
       simp only [kLoop] at hk
       split at hk
       ·rename_i s2 hs2; exact ⟨s2, Vas hr' hs2, hk⟩
       ·cases hk
      | exit i => exact hq _ s' a' w' hk hr'
      | ret => exact hq _ s' a' w' hk hr') b (.inLoop c :: k) cs
    cases e with
    | normal =>
     obtain ⟨s', hr', hl⟩ := hq1
     obtain ⟨e₂, a₂, w₂, hq₂, harr₂⟩ := ihm s' a₁ w₁ hl hr' b k cs
     exact ⟨e₂, a₂, w₂, hq₂, .of_steps (Steps.trans harr (.one step_inLoop)) harr₂⟩
    | exit id => exact ⟨_, a₁, w₁, hq1, .pass (x := .inLoop c) rfl (fun _ _ => .inl (by simp)) harr⟩
    | goto l => exact ⟨_, a₁, w₁, hq1, .pass (x := .inLoop c) rfl (fun _ _ => .inl (by simp)) harr⟩
    | ret => exact ⟨_, a₁, w₁, hq1, .pass (x := .inLoop c) rfl (fun _ _ => .inl (by simp)) harr⟩
    | panic ch => exact ⟨_, a₁, w₁, hq1, .pass (x := .inLoop c) rfl (fun _ _ => .inl (by simp)) harr⟩
    | outgrown => exact ⟨_, a₁, w₁, hq1, .pass (x := .inLoop c) rfl (fun _ _ => .inl (by simp)) harr⟩
  intro b k cs
  obtain ⟨e, a', w', hq', harr⟩ := key n s0 a w h hr0 b k cs
  exact ⟨e, a', w', hq', .of_steps (.one step_loop) harr⟩
 | region id ops draw =>
  intro K Q s a w h hr hq
  cases draw with
  | false =>
   simp only [execI] at h
   split at h
   ·rename_i pre o f fn args hl
    obtain ⟨h1, h2, h3, h4, c, h5, h6, h7⟩ := Vev hl
    refine wp_region_list ?_
    rw [h1]
    refine Vhv hE pre s _ a w h hr (fun s' a' w' hk hr' => ?_)
    unfold wpList
    rw [if_pos (by simp [Region.wanted, h2])]
    refine .inl (Vew hE hI h5 h6 h7 h3 h4 hk hr' fun s2 a2 w2 hk2 hr2 => ?_)
    unfold wpList
    exact hq .normal s2 a2 w2 hk2 hr2
   ·exact wp_region_list (Vd8 hE ops.toList s (K .normal) a w h hr (fun s' a' w' hk hr' => hq .normal s' a' w' hk hr'))
  | true =>
   simp only [execI] at h
   split at h
   ·rename_i hs
    exact Vch hE hs h hr (fun s' a' w' hk hr' => hq .normal s' a' w' hk hr')
   ·cases h
 | exit id => intro K Q s a w h hr hq; exact wp_exit (hq (.exit id) s a w h hr)
 | ret => intro K Q s a w h hr hq; exact wp_ret (hq .ret s a w h hr)
 | _ => intro K Q s a w h; simp [execI] at h
end
section
variable {E : Env}
theorem VdX (hE : ∀ IO Old : Nat → Prop, EnvOk P E IO Old) {I : FuncId → Option Func} (hI : ∀ f fn, I f = some fn → P.funcs[f]? = some fn ∧ fn.body.isSome = true ∧ fn.name ≠ "runtime.NumGoroutine") {f : FuncId} {fn : Func} {code : Code} {c : Con} (hf : P.funcs[f]? = some fn) (hb : fn.body = some code) (keep : Nat → List Nat)
  (hio : ∀ x : Tup (c.ps.map (·.2)), ioN c.gv (ksB (kds' c.ps (dats _ x))).length = E.io)
  (h : ∀ x r, c.F x = some r → ∃ n, execI E I keep n code (fun e s => match e with | .exit _ => none | _ => Vbq E c (kds' c.ps (dats _ x)) fn.results.toList s) (VaY (kds' c.ps (dats _ x)) (fn.ntmps - c.ps.length)) = some r) : Sound P f c := by
 intro x r hF w vs gs Old hO hn hlt hks
 obtain ⟨n, hex⟩ := h x r hF
 have hdx := Var _ x
 obtain ⟨φ0, ow, fs, hfs, hφfs, hkfs, hvr0, hgs0, hrel⟩ := entry hks hO hn hlt (fn.ntmps - c.ps.length) c.gv
 rw [hio x] at hrel
 have hvl : vs.length = c.ps.length := by
  have h1 := (VcX _ _ _ hks).1
  have h2 := congrArg List.length hdx
  simp only [List.length_map] at h2
  rw [VaQ _ _ (by omega)] at h1
  exact h1
 refine calls_of_wp hf hb ?_
 have htm : vs.toArray ++ Array.replicate (fn.ntmps - vs.toArray.size) undef = (vs ++ List.replicate (fn.ntmps - c.ps.length) undef).toArray := by
  apply Array.ext'
  simp [hvl]
 rw [htm]
 refine Vfy (hE _ _) hI keep n code _ _ _ _ _ hex ⟨_, _, hrel⟩ fun e s a w' hk hr => ?_
 have key : Vbq E c (kds' c.ps (dats _ x)) fn.results.toList s = some r → a.defers = [] ∧ ∃ v, (results fn a.tmps).run P w' = .ok v w' ∧ ∃ us hs, Ending.returned v = .returned (retOf us) ∧ us.length = c.rs.length ∧ (hs.flatten ++ kpG c.gv gs).Nodup ∧ (∀ h ∈ hs.flatten, (w.heap.size ≤ h ∨ h ∈ gvG c.gv gs) ∧ h < w'.heap.size) ∧
   KsOk w' (Aft (fun b => Old b ∨ b ∈ gvG c.gv gs) w w' (hs.flatten ++ kpG c.gv gs)) (kds' c.rs (dats _ r)) us hs ∧
   KsOk w' (Aft (fun b => Old b ∨ b ∈ gvG c.gv gs) w w' (hs.flatten ++ kpG c.gv gs)) (kds' (iosG c.gv c.ps) ((dats _ r).drop c.rs.length)) (ioVsG c.gv c.ps vs) (ioGsG c.gv c.ps gs) ∧
   (∀ b, b < w.heap.size → b ∉ gs.flatten → w'.heap[b]? = w.heap[b]?) ∧ w.heap.size ≤ w'.heap.size ∧ w'.os = w.os ∧ w'.tape = w.tape ∧ w'.output = w.output := by
  intro hfin
  obtain ⟨ow0, φ', hr⟩ := hr
  unfold Vbq at hfin
  obtain ⟨ow', hr⟩ := VY (Vbp E c fn.results.toList s) s ow0 φ' (fun i hi => by
   unfold Vbp at hi
   split at hi
   ·simpa using (List.mem_filter.1 hi).2
   ·cases hi) hr
  generalize s.freezes (Vbp E c fn.results.toList s) = s at hr hfin
  unfold VdU at hfin
  split at hfin
  rotate_left
  ·cases hfin
  rename_i rv hrv
  split at hfin
  rotate_left
  ·cases hfin
  rename_i hc
  simp only [Bool.and_eq_true, decide_eq_true_eq] at hc
  obtain ⟨hnd, hrl⟩ := hc
  have hnd := VaJ _ hnd
  obtain ⟨us, hus, hrun⟩ := VbC (hE _ _) hr hrv
  have hul := hus.length
  -- the parameters that were written
  have hlk : (kds (ksB (kds' c.ps (dats _ x)))) = kds (ksB (kds' c.ps (dats _ x))) := rfl
  have hlen : c.gv = false → (ksB (kds' c.ps (dats _ x))).length = E.io := fun hg => by rw [← hio x, hg]; rfl
  have hne : c.gv = false → ∀ id, kds (ksB (kds' c.ps (dats _ x))) id ≠ none → id < E.io := fun hg id hh => by
   cases hk : kds (ksB (kds' c.ps (dats _ x))) id with
   | none => exact absurd hk hh
   | some k => rw [← hlen hg]; exact VZ hk
  have hpl : c.ps.length = (ksV (kds' c.ps (dats _ x)) 0).length := by rw [hvr0.length, hvl]
  have hioe : All2 (VR φ' (kds s.hp) w' (Fz ow' w' (fun b => Old b ∨ b ∈ gvG c.gv gs) w.heap.size)) (ioVG c.gv c.ps (ksV (kds' c.ps (dats _ x)) 0)) (ioVsG c.gv c.ps vs) := by
   cases hg : c.gv
   rotate_left
   ·exact .nil
   show All2 _ (ioV c.ps (ksV (kds' c.ps (dats _ x)) 0)) (ioVs c.ps vs)
   refine VfK (φ0 := φ0) ?_ (fun id k hh hk => hr.k0 id k (hne hg id hh) hk) (fun id hh => hr.f0 id (hne hg id hh)) c.ps _ _ hpl hvr0 (fun q hq => ?_)
   ·intro id k hk
    refine ⟨hkfs id k hk, ?_⟩
    rintro rfl
    obtain ⟨b, hb1, hb2⟩ := kds_some.1 hk
    obtain ⟨v, _, hv2⟩ := (VaX _ _ _ hfs).2 id b hb1
    cases b <;> simp [Blk.kd] at hb2
    exact hv2
   ·refine Vd9 _ _ _ hfin q ?_
    rw [List.zip_append hrl.symm]
    refine List.mem_append_right _ ?_
    rw [hg]; exact hq
  have hall := hus.append hioe
  obtain ⟨_, hown⟩ := Vba (S' := fun _ => True) hr.hp (fun _ _ => trivial) _ _ _ _ hall hfin
  have hids : idsL (c.rs ++ iosG c.gv c.ps) (rv ++ ioVG c.gv c.ps (ksV (kds' c.ps (dats _ x)) 0)) = idsL c.rs rv ++ idsL (iosG c.gv c.ps) (ioVG c.gv c.ps (ksV (kds' c.ps (dats _ x)) 0)) := VcP _ _ _ _ hrl.symm
  rw [hids] at hown
  have hioids : (idsL (iosG c.gv c.ps) (ioVG c.gv c.ps (ksV (kds' c.ps (dats _ x)) 0))).flatten = List.range E.io := by
   cases hg : c.gv
   ·show (idsL (ios c.ps) (ioV c.ps _)).flatten = _
    rw [VgE _ _ _ hdx, hlen hg, List.range_eq_range']
   ·rw [← hio x, hg]; rfl
  have hiog : (idsL (iosG c.gv c.ps) (ioVG c.gv c.ps (ksV (kds' c.ps (dats _ x)) 0))).map (Vo φ') = ioGsG c.gv c.ps gs := by
   cases hg : c.gv
   rotate_left
   ·rfl
   show (idsL (ios c.ps) (ioV c.ps _)).map (Vo φ') = ioGs c.ps gs
   rw [VgG _ _ _ hdx, VeX, hgs0 φ' (fun j v hv => ?_)]
   have hj := (List.getElem?_eq_some_iff.1 hv).1
   rw [Vaj _ _ _ hfs, hlen hg] at hj
   rw [hr.f0 j hj]; exact hφfs j v hv
  obtain ⟨hgf, hgl1, hgl2⟩ := Vea c.ps _ vs gs hdx hks
  let hs := (idsL c.rs rv).map (Vo φ')
  have hhs : hs.flatten = Vo φ' (idsL c.rs rv).flatten := Vaw _
  have hgs : kpG c.gv gs = Vo φ' (List.range E.io) := by
   cases hg : c.gv
   ·show gs.flatten = _
    rw [← hgf, ← hioids, ← Vaw, hiog, hg]; rfl
   ·rw [← hio x, hg]; rfl
  have hown' : ∀ id ∈ (idsL c.rs rv).flatten ++ List.range E.io, ∀ g, blkOf (φ' id) = some g → ow' g = some id := by
   rw [List.flatten_append, hioids] at hown; exact hown
  have hboth : hs.flatten ++ kpG c.gv gs = Vo φ' ((idsL c.rs rv).flatten ++ List.range E.io) := by rw [hhs, hgs]; simp [Vo]
  have hF : ∀ b, Fz ow' w' (fun b => Old b ∨ b ∈ gvG c.gv gs) w.heap.size b → Aft (fun b => Old b ∨ b ∈ gvG c.gv gs) w w' (hs.flatten ++ kpG c.gv gs) b := by
   rintro b ⟨h1, h2, h3⟩
   refine ⟨h3, h2, fun hm => ?_⟩
   rw [hboth] at hm
   obtain ⟨id, i1, i2⟩ := Vaq hm
   rw [hown' id i1 b i2] at h1; cases h1
  obtain ⟨hks', _⟩ := Vba (S' := Aft (fun b => Old b ∨ b ∈ gvG c.gv gs) w w' (hs.flatten ++ kpG c.gv gs)) hr.hp hF _ _ _ _ hall hfin
  have hdr := Var _ r
  have hdl : c.rs.length ≤ (dats _ r).length := by
   have := congrArg List.length hdr
   simp only [List.length_map, List.length_append] at this
   omega
  rw [hids, List.map_append (f := Vo φ'), hiog, VdC _ _ _ hdl] at hks'
  obtain ⟨hk1, hk2⟩ := Vdv _ _ _ _ _ _ (by rw [VaQ _ _ hdl, ← hul, hrl]) (by rw [VaQ _ _ hdl, List.length_map, VcY _ _ hrl.symm, hrl]) hks'
  refine ⟨hr.dl, _, hrun, us, hs, rfl, by omega, ?_, fun g hg => ?_, hk1, hk2, hr.fr, hr.sz, hr.mt⟩
  ·rw [hboth]; exact Vbo _ hnd hown'
  ·rw [hhs] at hg
   obtain ⟨id, i1, i2⟩ := Vaq hg
   have hog := hown' id (List.mem_append_left _ i1) g i2
   obtain ⟨o1, o2, _⟩ := hr.own g id hog
   refine ⟨?_, o1⟩
   rcases o2 with o2 | ⟨o3, o4⟩
   ·exact .inl o2
   ·refine .inr ?_
    rcases o4 with o4 | o4 | o4
    ·exact absurd rfl ((List.nodup_append.1 hnd).2.2 id i1 id (List.mem_range.2 o4))
    ·exact absurd o3 (hO g o4).2
    ·exact o4
 cases e with
 | normal => exact key hk
 | ret => exact key hk
 | exit id => simp at hk
end
noncomputable def Vck (E : Env) (I : FuncId → Option Func) (keep : Nat → List Nat) (n : Nat) (fn : Func) (c : Con) (x : Tup (c.ps.map (·.2))) : Option (Tup ((c.rs ++ iosG c.gv c.ps).map (·.2))) :=
 execI E I keep n (Vh fn) (kEnd E fn c x) (VaY (kds' c.ps (dats _ x)) (fn.ntmps - c.ps.length))
theorem Ve3 {tab : List TRow} (h : okB P tab = true) {cs : List (FuncId × Con)} (hc : Goods P cs) (io : Nat) (mv : Bool) {f : FuncId} {fn : Func} {c : Con} (hf : P.funcs[f]? = some fn) (hb : fn.body.isSome = true) (hn : fn.name ≠ "runtime.NumGoroutine") (hrs : c.rs ≠ []) (keep : Nat → List Nat) (n : Nat)
  (hio : ∀ x : Tup (c.ps.map (·.2)), ioN c.gv (ksB (kds' c.ps (dats _ x))).length = io) {I : FuncId → Option Func} (hI : ∀ f fn, I f = some fn → P.funcs[f]? = some fn ∧ fn.body.isSome = true ∧ fn.name ≠ "runtime.NumGoroutine") (hx : ∀ x, Vck (envOf tab cs io mv) I keep n fn c x = c.F x) : Good P f c :=
 ⟨VdX (code := Vh fn) (envOk h hc io mv) hI hf (by unfold Vh; cases hb' : fn.body <;> simp_all) keep hio (fun x r hr => ⟨n, (hx x).trans hr⟩), fn, hf, hb, hn, hrs⟩
end Go.Ev

namespace Go.Ev.Tryz
open Go.Proofs Go.Pl
set_option linter.unusedVariables false
noncomputable section
def QaL.con : Con := { ps := [(.val,(.pair .bool (.pair .bool (.pair .bool (.pair .bool (.pair .bool (.int .i64)))))))],rs := [(.val,.bool)],F := fun x => QaL.f x }
def QaL.cs : List (FuncId × Con) := []
def QaL.E : Env := envOf tab QaL.cs 0 false
def QaL.keep (i : Nat) : List Nat := []
set_option maxRecDepth 100000 in
theorem QaL.body (n : Nat) (x : Bool × Bool × Bool × Bool × Bool × Int) : bodyF QaL.E QaL.keep n Tryz.f48 QaL.con x = QaL.fn n x := by
 have h : bodyF QaL.E QaL.keep n Tryz.f48 QaL.con x = QaL.top x := by kernel_rfl
 exact h
set_option maxRecDepth 100000 in
theorem QaL.good : Good Tryz.prog 48 QaL.con :=
 Vg tabok (cs := QaL.cs) trivial 0 false (fn := Tryz.f48) Tryz.func48 rfl (by decide) (by simp [QaL.con]) QaL.keep NN (fun _ => rfl) (fun x => QaL.body NN x)
end
end Go.Ev.Tryz

namespace Go.Ev.Tryz
open Go.Proofs Go.Pl
set_option linter.unusedVariables false
noncomputable section
def Q5.st2 (p : List YD) (q : ByteArray) (t2 : Int) (v9 : List YD) (v10 : Int) (v11 : Int) : St := ⟨[.dat (.sl 69 (.pair (.int .i64) (.pair .str (.int .i64)))) p,.dat .str q,.dat (.int .i64) t2,.gone,.gone,.gone,.gone,.gone,.gone,.dat (.sl 69 (.pair (.int .i64) (.pair .str (.int .i64)))) v9,.dat (.int .i64) v10,.dat (.int .i64) v11,.gone,.gone,.gone,.gone,.gone,.gone,.gone,.gone,.gone,.gone,.gone,.gone,.gone,.gone,.gone,.gone,.gone,.gone,.gone,.gone,.gone,.gone,.gone,.gone,.gone,.gone],[]⟩
def Q5.con : Con := { ps := [(.val,(.sl 69 (.pair (.int .i64) (.pair .str (.int .i64))))),(.val,.str),(.val,(.int .i64))],rs := [(.val,.bool)],F := fun x => Q5.f x.1 x.2.1 x.2.2 }
def Q5.cs : List (FuncId × Con) := [(88,QC.con)]
def Q5.E : Env := envOf tab Q5.cs 0 false
def Q5.keep (i : Nat) : List Nat := if i = 2 then [0,1,2,9,10,11] else []
def Q5.at2 (n : Nat) (x : YL × ByteArray × Int) : Code × (Ex → St → Option (Bool)) := ctx Q5.E Q5.keep n [.snd,.fst,.snd,.blk] (Vh Tryz.f89) (kEnd Q5.E Tryz.f89 Q5.con x)
def Q5.LN2 (n : Nat) (x : YL × ByteArray × Int) : Nat → St → Option (Bool) := loopN (exec Q5.E Q5.keep n (Vm (Q5.at2 n x).1)) (St.norm 0 (Q5.keep 2)) (Q5.at2 n x).2
set_option maxRecDepth 100000 in
theorem Q5.lem2 (n : Nat) (x : YL × ByteArray × Int) : ∀ (k : Nat) (p : List YD) (q : ByteArray) (t2 : Int) (v9 : List YD) (v10 : Int) (v11 : Int),Q5.LN2 n x k (Q5.st2 p q t2 v9 v10 v11) = Q5.l2 n k p q t2 v9 v10 v11 := by
 intro k
 induction k with
 | zero => intro p q t2 v9 v10 v11; rfl
 | succ k ih =>
  intro p q t2 v9 v10 v11
  have h : Q5.LN2 n x (k + 1) (Q5.st2 p q t2 v9 v10 v11) = Q5.g2 (fun p q t2 v9 v10 v11 => Q5.LN2 n x k (Q5.st2 p q t2 v9 v10 v11)) p q t2 v9 v10 v11 := by kernel_rfl
  rw [h]
  simp only [ih]
  rfl
set_option maxRecDepth 100000 in
theorem Q5.body (n : Nat) (x : YL × ByteArray × Int) : bodyF Q5.E Q5.keep n Tryz.f89 Q5.con x = Q5.fn n x.1 x.2.1 x.2.2 := by
 have h : bodyF Q5.E Q5.keep n Tryz.f89 Q5.con x = Q5.top (fun p q t2 v9 v10 v11 => Q5.LN2 n x n (Q5.st2 p q t2 v9 v10 v11)) x.1 x.2.1 x.2.2 := by kernel_rfl
 rw [h]
 simp only [Q5.lem2]
 rfl
set_option maxRecDepth 100000 in
theorem Q5.good : Good Tryz.prog 89 Q5.con :=
 Vg tabok (cs := Q5.cs) ⟨QC.good,trivial⟩ 0 false (fn := Tryz.f89) Tryz.func89 rfl (by decide) (by simp [Q5.con]) Q5.keep NN (fun _ => rfl) (fun x => Q5.body NN x)
end
end Go.Ev.Tryz

namespace Go.Ev.Tryz
open Go.Proofs Go.Pl
set_option linter.unusedVariables false
noncomputable section
def Qt.st2 (p : List YD) (t2 : Int) (v9 : List ByteArray) (v10 : Int) (v11 : Int) : St := ⟨[.dat (.sl 69 (.pair (.int .i64) (.pair .str (.int .i64)))) p,.gone,.dat (.int .i64) t2,.gone,.gone,.gone,.gone,.gone,.gone,.dat (.sl 9 .str) v9,.dat (.int .i64) v10,.dat (.int .i64) v11,.gone,.gone,.gone,.gone,.gone,.gone,.gone,.gone,.gone],[]⟩
def Qt.con : Con := { ps := [(.val,(.sl 69 (.pair (.int .i64) (.pair .str (.int .i64))))),(.val,(.sl 9 .str)),(.val,(.int .i64))],rs := [(.val,.bool)],F := fun x => Qt.f x.1 x.2.1 x.2.2 }
def Qt.cs : List (FuncId × Con) := [(89,Q5.con)]
def Qt.E : Env := envOf tab Qt.cs 0 false
def Qt.keep (i : Nat) : List Nat := if i = 2 then [0,2,9,10,11] else []
def Qt.at2 (n : Nat) (x : YL × List ByteArray × Int) : Code × (Ex → St → Option (Bool)) := ctx Qt.E Qt.keep n [.snd,.fst,.snd,.blk] (Vh Tryz.f52) (kEnd Qt.E Tryz.f52 Qt.con x)
def Qt.LN2 (n : Nat) (x : YL × List ByteArray × Int) : Nat → St → Option (Bool) := loopN (exec Qt.E Qt.keep n (Vm (Qt.at2 n x).1)) (St.norm 0 (Qt.keep 2)) (Qt.at2 n x).2
set_option maxRecDepth 100000 in
theorem Qt.lem2 (n : Nat) (x : YL × List ByteArray × Int) : ∀ (k : Nat) (p : List YD) (t2 : Int) (v9 : List ByteArray) (v10 : Int) (v11 : Int),Qt.LN2 n x k (Qt.st2 p t2 v9 v10 v11) = Qt.l2 n k p t2 v9 v10 v11 := by
 intro k
 induction k with
 | zero => intro p t2 v9 v10 v11; rfl
 | succ k ih =>
  intro p t2 v9 v10 v11
  have h : Qt.LN2 n x (k + 1) (Qt.st2 p t2 v9 v10 v11) = Qt.g2 (fun p t2 v9 v10 v11 => Qt.LN2 n x k (Qt.st2 p t2 v9 v10 v11)) p t2 v9 v10 v11 := by kernel_rfl
  rw [h]
  simp only [ih]
  rfl
set_option maxRecDepth 100000 in
theorem Qt.body (n : Nat) (x : YL × List ByteArray × Int) : bodyF Qt.E Qt.keep n Tryz.f52 Qt.con x = Qt.fn n x.1 x.2.1 x.2.2 := by
 have h : bodyF Qt.E Qt.keep n Tryz.f52 Qt.con x = Qt.top (fun p t2 v9 v10 v11 => Qt.LN2 n x n (Qt.st2 p t2 v9 v10 v11)) x.1 x.2.1 x.2.2 := by kernel_rfl
 rw [h]
 simp only [Qt.lem2]
 rfl
set_option maxRecDepth 100000 in
theorem Qt.good : Good Tryz.prog 52 Qt.con :=
 Vg tabok (cs := Qt.cs) ⟨Q5.good,trivial⟩ 0 false (fn := Tryz.f52) Tryz.func52 rfl (by decide) (by simp [Qt.con]) Qt.keep NN (fun _ => rfl) (fun x => Qt.body NN x)
end
end Go.Ev.Tryz

namespace Go.Ev.Tryz
open Go.Proofs Go.Pl
set_option linter.unusedVariables false
noncomputable section
def QaR.con : Con := { ps := [(.val,(.pair .bool (.pair .bool (.pair .bool (.pair .bool (.pair .bool (.int .i64)))))))],rs := [(.val,(.pair .bool (.pair .bool (.pair .bool (.pair .bool (.pair .bool (.int .i64)))))))],F := fun x => QaR.f x }
def QaR.cs : List (FuncId × Con) := []
def QaR.E : Env := envOf tab QaR.cs 0 false
def QaR.keep (i : Nat) : List Nat := []
set_option maxRecDepth 100000 in
theorem QaR.body (n : Nat) (x : Bool × Bool × Bool × Bool × Bool × Int) : bodyF QaR.E QaR.keep n Tryz.f109 QaR.con x = QaR.fn n x := by
 have h : bodyF QaR.E QaR.keep n Tryz.f109 QaR.con x = QaR.top x := by kernel_rfl
 exact h
set_option maxRecDepth 100000 in
theorem QaR.good : Good Tryz.prog 109 QaR.con :=
 Vg tabok (cs := QaR.cs) trivial 0 false (fn := Tryz.f109) Tryz.func109 rfl (by decide) (by simp [QaR.con]) QaR.keep NN (fun _ => rfl) (fun x => QaR.body NN x)
end
end Go.Ev.Tryz

namespace Go.Ev.Tryz
open Go.Proofs Go.Pl
set_option linter.unusedVariables false
noncomputable section
def Qaj.con : Con := { ps := [(.val,(.pair .bool (.pair .bool (.pair .bool (.pair .bool (.pair .bool (.int .i64))))))),(.val,(.int .i64))],rs := [(.val,(.pair .bool (.pair .bool (.pair .bool (.pair .bool (.pair .bool (.int .i64))))))),(.val,(.int .i64))],F := fun x => Qaj.f x.1 x.2 }
def Qaj.cs : List (FuncId × Con) := [(109,QaR.con)]
def Qaj.E : Env := envOf tab Qaj.cs 0 false
def Qaj.keep (i : Nat) : List Nat := []
set_option maxRecDepth 100000 in
theorem Qaj.body (n : Nat) (x : YE × Int) : bodyF Qaj.E Qaj.keep n Tryz.f87 Qaj.con x = Qaj.fn n x.1 x.2 := by
 have h : bodyF Qaj.E Qaj.keep n Tryz.f87 Qaj.con x = Qaj.top x.1 x.2 := by kernel_rfl
 exact h
set_option maxRecDepth 100000 in
theorem Qaj.good : Good Tryz.prog 87 Qaj.con :=
 Vg tabok (cs := Qaj.cs) ⟨QaR.good,trivial⟩ 0 false (fn := Tryz.f87) Tryz.func87 rfl (by decide) (by simp [Qaj.con]) Qaj.keep NN (fun _ => rfl) (fun x => Qaj.body NN x)
end
end Go.Ev.Tryz

namespace Go.Ev.Tryz
open Go.Proofs Go.Pl
set_option linter.unusedVariables false
noncomputable section
def Qc.stk19 (q : List Int) (r : List YD) (s : List ByteArray) (t : Int) (w : List Int) (y : List YC) (v : Int) (u : Int) (p : Bool × Bool × Bool × Bool × Bool × Int) (w2 : List Int) : St := ⟨[.dat (.sl 2 (.int .i64)) q, .gone, .dat (.sl 69 (.pair (.int .i64) (.pair .str (.int .i64)))) r, .dat (.sl 9 .str) s, .gone, .gone, .gone, .gone, .gone, .ref 0, .dat (.int .i64) t, .gone, .gone, .ptr 1 [], .gone, .gone, .gone, .gone, .gone, .gone, .gone, .gone, .gone, .gone, .gone, .gone, .gone, .gone, .gone, .gone, .gone, .gone, .gone, .gone, .gone, .gone, .gone, .gone, .gone, .gone, .gone, .gone, .gone, .gone, .gone, .gone, .gone, .gone, .gone, .gone, .gone, .gone, .gone, .gone, .gone, .gone, .gone, .gone, .gone, .gone, .gone, .gone, .gone, .gone, .gone, .gone, .gone, .gone, .gone, .gone, .gone, .gone, .gone, .gone, .gone, .gone, .gone, .gone, .gone, .gone, .gone, .gone, .gone, .gone, .gone], [.row 2 (.int .i64) w none, .box 89 (.pair (.sl 101 (.pair (.int .i64) (.int .i64))) (.pair (.int .i64) (.pair (.int .i64) (.pair (.pair .bool (.pair .bool (.pair .bool (.pair .bool (.pair .bool (.int .i64)))))) (.sl 2 (.int .i64)))))) (.pr (.dat (.sl 101 (.pair (.int .i64) (.int .i64))) y) (.pr (.dat (.int .i64) v) (.pr (.dat (.int .i64) u) (.pr (.dat (.pair .bool (.pair .bool (.pair .bool (.pair .bool (.pair .bool (.int .i64)))))) p) (.ref 2))))), .row 2 (.int .i64) w2 none]⟩
def Qc.st14 (q : List Int) (r : List YD) (s : List ByteArray) (t : Int) (v50 : List Int) (v51 : Int) (v52 : Int) (w : List Int) (y : List YC) (v : Int) (u : Int) (p : Bool × Bool × Bool × Bool × Bool × Int) (w2 : List Int) : St := ⟨[.dat (.sl 2 (.int .i64)) q, .gone, .dat (.sl 69 (.pair (.int .i64) (.pair .str (.int .i64)))) r, .dat (.sl 9 .str) s, .gone, .gone, .gone, .gone, .gone, .ref 0, .dat (.int .i64) t, .gone, .gone, .ptr 1 [], .gone, .gone, .gone, .gone, .gone, .gone, .gone, .gone, .gone, .gone, .gone, .gone, .gone, .gone, .gone, .gone, .gone, .gone, .gone, .gone, .gone, .gone, .gone, .gone, .gone, .gone, .gone, .gone, .gone, .gone, .gone, .gone, .gone, .gone, .gone, .gone, .dat (.sl 2 (.int .i64)) v50, .dat (.int .i64) v51, .dat (.int .i64) v52, .gone, .gone, .gone, .gone, .gone, .gone, .gone, .gone, .gone, .gone, .gone, .gone, .gone, .gone, .gone, .gone, .gone, .gone, .gone, .gone, .gone, .gone, .gone, .gone, .gone, .gone, .gone, .gone, .gone, .gone, .gone, .gone], [.row 2 (.int .i64) w none, .box 89 (.pair (.sl 101 (.pair (.int .i64) (.int .i64))) (.pair (.int .i64) (.pair (.int .i64) (.pair (.pair .bool (.pair .bool (.pair .bool (.pair .bool (.pair .bool (.int .i64)))))) (.sl 2 (.int .i64)))))) (.pr (.dat (.sl 101 (.pair (.int .i64) (.int .i64))) y) (.pr (.dat (.int .i64) v) (.pr (.dat (.int .i64) u) (.pr (.dat (.pair .bool (.pair .bool (.pair .bool (.pair .bool (.pair .bool (.int .i64)))))) p) (.ref 2))))), .row 2 (.int .i64) w2 none]⟩
def Qc.stk12 (q : List Int) (r : List YD) (s : List ByteArray) (t : Int) (w : List Int) (y : List YC) (v : Int) (u : Int) (p : Bool × Bool × Bool × Bool × Bool × Int) (w2 : List Int) : St := ⟨[.dat (.sl 2 (.int .i64)) q, .gone, .dat (.sl 69 (.pair (.int .i64) (.pair .str (.int .i64)))) r, .dat (.sl 9 .str) s, .gone, .gone, .gone, .gone, .gone, .ref 0, .dat (.int .i64) t, .gone, .gone, .ptr 1 [], .gone, .gone, .gone, .gone, .gone, .gone, .gone, .gone, .gone, .gone, .gone, .gone, .gone, .gone, .gone, .gone, .gone, .gone, .gone, .gone, .gone, .gone, .gone, .gone, .gone, .gone, .gone, .gone, .gone, .gone, .gone, .gone, .gone, .gone, .gone, .gone, .gone, .gone, .gone, .gone, .gone, .gone, .gone, .gone, .gone, .gone, .gone, .gone, .gone, .gone, .gone, .gone, .gone, .gone, .gone, .gone, .gone, .gone, .gone, .gone, .gone, .gone, .gone, .gone, .gone, .gone, .gone, .gone, .gone, .gone, .gone], [.row 2 (.int .i64) w none, .box 89 (.pair (.sl 101 (.pair (.int .i64) (.int .i64))) (.pair (.int .i64) (.pair (.int .i64) (.pair (.pair .bool (.pair .bool (.pair .bool (.pair .bool (.pair .bool (.int .i64)))))) (.sl 2 (.int .i64)))))) (.pr (.dat (.sl 101 (.pair (.int .i64) (.int .i64))) y) (.pr (.dat (.int .i64) v) (.pr (.dat (.int .i64) u) (.pr (.dat (.pair .bool (.pair .bool (.pair .bool (.pair .bool (.pair .bool (.int .i64)))))) p) (.ref 2))))), .row 2 (.int .i64) w2 none]⟩
def Qc.st120000001 (w0 : List Int) (d0a : List YC) (b : Int) (a : Int) (z : Bool × Bool × Bool × Bool × Bool × Int) (w2' : List Int) : St := ⟨[.ptr 1 [], .gone, .gone, .gone, .gone, .gone, .gone, .gone, .gone, .gone, .gone, .gone, .gone, .gone, .gone, .gone, .gone, .gone, .gone, .gone, .gone, .gone, .gone, .gone, .gone, .gone, .gone, .gone, .gone, .gone, .gone, .gone, .gone, .gone, .gone, .gone, .gone, .gone, .gone, .gone, .gone, .gone, .gone, .gone, .gone, .gone, .gone, .gone, .gone, .gone, .gone, .gone, .gone, .gone, .gone, .gone, .gone, .gone, .gone, .gone, .gone, .gone, .gone, .gone, .gone, .gone, .gone, .gone, .gone, .gone, .gone, .gone, .gone, .gone, .gone, .gone, .gone], [.row 2 (.int .i64) w0 none, .box 89 (.pair (.sl 101 (.pair (.int .i64) (.int .i64))) (.pair (.int .i64) (.pair (.int .i64) (.pair (.pair .bool (.pair .bool (.pair .bool (.pair .bool (.pair .bool (.int .i64)))))) (.sl 2 (.int .i64)))))) (.pr (.dat (.sl 101 (.pair (.int .i64) (.int .i64))) d0a) (.pr (.dat (.int .i64) b) (.pr (.dat (.int .i64) a) (.pr (.dat (.pair .bool (.pair .bool (.pair .bool (.pair .bool (.pair .bool (.int .i64)))))) z) (.ref 2))))), .row 2 (.int .i64) w2' none]⟩
def Qc.tr0 (L120000001 : YS) (q : List Int) (r : List YD) (s : List ByteArray) (t : Int) (w : List Int) (y : List YC) (v : Int) (u : Int) (p : Bool × Bool × Bool × Bool × Bool × Int) (w2 : List Int) (w0 : List Int) (d0a : List YC) (b : Int) (a : Int) (z : Bool × Bool × Bool × Bool × Bool × Int) (w2' : List Int) : Option YQ :=
 if w2'.length + ([b]).length < room 8 then
  L120000001 q r s t w y v u p w2 w0 d0a (IntKind.i64.wrap (b + 1)) a z (w2' ++ ([b]))
 else
  none
def Qc.tr1 (L120000001 : YS) (q : List Int) (r : List YD) (s : List ByteArray) (t : Int) (w : List Int) (y : List YC) (v : Int) (u : Int) (p : Bool × Bool × Bool × Bool × Bool × Int) (w2 : List Int) (w0 : List Int) (d0a : List YC) (b : Int) (a : Int) (z : Bool × Bool × Bool × Bool × Bool × Int) (w2' : List Int) : Option YQ :=
 (Qaj.f z ((d0a.getD (b : Int).toNat (0, 0)).2)).bind fun r1 =>
 if ((r1.2 : Int) == 0) = true then
  L120000001 q r s t w y v u p w2 w0 d0a (IntKind.i64.wrap (b + 1)) a r1.1 w2'
 else
  agree (
   Qc.tr0 L120000001 q r s t w y v u p w2 w0 d0a b a z w2'
  ) (
   agree (
    Qc.tr0 L120000001 q r s t w y v u p w2 w0 d0a b a z w2'
   ) (
    Qc.tr0 L120000001 q r s t w y v u p w2 w0 d0a b a z w2'
   )
  )
def Qc.tr2 (L120000001 : YS) (q : List Int) (r : List YD) (s : List ByteArray) (t : Int) (w : List Int) (y : List YC) (v : Int) (u : Int) (p : Bool × Bool × Bool × Bool × Bool × Int) (w2 : List Int) (w0 : List Int) (d0a : List YC) (b : Int) (a : Int) (z : Bool × Bool × Bool × Bool × Bool × Int) (w2' : List Int) : Option YQ :=
 agree (
  Qc.tr1 L120000001 q r s t w y v u p w2 w0 d0a b a z w2'
 ) (
  Qc.tr1 L120000001 q r s t w y v u p w2 w0 d0a b a z w2'
 )
def Qc.tr3 (L120000001 : YS) (q : List Int) (r : List YD) (s : List ByteArray) (t : Int) (w : List Int) (y : List YC) (v : Int) (u : Int) (p : Bool × Bool × Bool × Bool × Bool × Int) (w2 : List Int) (w0 : List Int) (d0a : List YC) (b : Int) (a : Int) (z : Bool × Bool × Bool × Bool × Bool × Int) (w2' : List Int) : Option YQ :=
 agree (
  Qc.tr2 L120000001 q r s t w y v u p w2 w0 d0a b a z w2'
 ) (
  Qc.tr1 L120000001 q r s t w y v u p w2 w0 d0a b a z w2'
 )
def Qc.tr4 (L120000001 : YS) (q : List Int) (r : List YD) (s : List ByteArray) (t : Int) (w : List Int) (y : List YC) (v : Int) (u : Int) (p : Bool × Bool × Bool × Bool × Bool × Int) (w2 : List Int) (w0 : List Int) (d0a : List YC) (b : Int) (a : Int) (z : Bool × Bool × Bool × Bool × Bool × Int) (w2' : List Int) : Option YQ :=
 if (0 : Int) ≤ b ∧ (b : Int) < d0a.length then
  Qc.tr1 L120000001 q r s t w y v u p w2 w0 d0a b a z w2'
 else
  none
def Qc.tr5 (L120000001 : YS) (q : List Int) (r : List YD) (s : List ByteArray) (t : Int) (w : List Int) (y : List YC) (v : Int) (u : Int) (p : Bool × Bool × Bool × Bool × Bool × Int) (w2 : List Int) (w0 : List Int) (d0a : List YC) (b : Int) (a : Int) (z : Bool × Bool × Bool × Bool × Bool × Int) (w2' : List Int) : Option YQ :=
 agree (
  if (0 : Int) ≤ b ∧ (b : Int) < d0a.length then
   Qc.tr3 L120000001 q r s t w y v u p w2 w0 d0a b a z w2'
  else
   none
 ) (
  Qc.tr4 L120000001 q r s t w y v u p w2 w0 d0a b a z w2'
 )
def Qc.tr6 (L120000001 : YS) (q : List Int) (r : List YD) (s : List ByteArray) (t : Int) (w : List Int) (y : List YC) (v : Int) (u : Int) (p : Bool × Bool × Bool × Bool × Bool × Int) (w2 : List Int) (w0 : List Int) (d0a : List YC) (b : Int) (a : Int) (z : Bool × Bool × Bool × Bool × Bool × Int) (w2' : List Int) : Option YQ :=
 agree (
  Qc.tr4 L120000001 q r s t w y v u p w2 w0 d0a b a z w2'
 ) (
  Qc.tr4 L120000001 q r s t w y v u p w2 w0 d0a b a z w2'
 )
def Qc.tr7 (L120000001 : YS) (q : List Int) (r : List YD) (s : List ByteArray) (t : Int) (w : List Int) (y : List YC) (v : Int) (u : Int) (p : Bool × Bool × Bool × Bool × Bool × Int) (w2 : List Int) (w0 : List Int) (d0a : List YC) (b : Int) (a : Int) (z : Bool × Bool × Bool × Bool × Bool × Int) (w2' : List Int) : Option YQ :=
 agree (
  Qc.tr4 L120000001 q r s t w y v u p w2 w0 d0a b a z w2'
 ) (
  if (0 : Int) ≤ b ∧ (b : Int) < d0a.length then
   Qc.tr2 L120000001 q r s t w y v u p w2 w0 d0a b a z w2'
  else
   none
 )
def Qc.tr8 (L120000001 : YS) (q : List Int) (r : List YD) (s : List ByteArray) (t : Int) (w : List Int) (y : List YC) (v : Int) (u : Int) (p : Bool × Bool × Bool × Bool × Bool × Int) (w2 : List Int) (w0 : List Int) (d0a : List YC) (b : Int) (a : Int) (z : Bool × Bool × Bool × Bool × Bool × Int) (w2' : List Int) : Option YQ :=
 agree (
  Qc.tr5 L120000001 q r s t w y v u p w2 w0 d0a b a z w2'
 ) (
  agree (
   if (0 : Int) ≤ b ∧ (b : Int) < d0a.length then
    agree (
     Qc.tr3 L120000001 q r s t w y v u p w2 w0 d0a b a z w2'
    ) (
     agree (
      Qc.tr3 L120000001 q r s t w y v u p w2 w0 d0a b a z w2'
     ) (
      Qc.tr2 L120000001 q r s t w y v u p w2 w0 d0a b a z w2'
     )
    )
   else
    none
  ) (
   Qc.tr7 L120000001 q r s t w y v u p w2 w0 d0a b a z w2'
  )
 )
def Qc.g120000001raw (Ik12 : YR) (L10 : YR) (L120000001 : YS) (q : List Int) (r : List YD) (s : List ByteArray) (t : Int) (w : List Int) (y : List YC) (v : Int) (u : Int) (p : Bool × Bool × Bool × Bool × Bool × Int) (w2 : List Int) (w0 : List Int) (d0a : List YC) (b : Int) (a : Int) (z : Bool × Bool × Bool × Bool × Bool × Int) (w2' : List Int) : Option YQ :=
 if (decide ((b : Int) < (d0a.length : Int))) = true then
  if (0 : Int) ≤ b ∧ (b : Int) < d0a.length then
   if ((((d0a.getD (b : Int).toNat (0, 0)).1) : Int) == a) = true then
    agree (
     agree (
      Qc.tr5 L120000001 q r s t w y v u p w2 w0 d0a b a z w2'
     ) (
      agree (
       Qc.tr5 L120000001 q r s t w y v u p w2 w0 d0a b a z w2'
      ) (
       Qc.tr6 L120000001 q r s t w y v u p w2 w0 d0a b a z w2'
      )
     )
    ) (
     agree (
      Qc.tr8 L120000001 q r s t w y v u p w2 w0 d0a b a z w2'
     ) (
      agree (
       Qc.tr8 L120000001 q r s t w y v u p w2 w0 d0a b a z w2'
      ) (
       agree (
        Qc.tr6 L120000001 q r s t w y v u p w2 w0 d0a b a z w2'
       ) (
        agree (
         Qc.tr7 L120000001 q r s t w y v u p w2 w0 d0a b a z w2'
        ) (
         Qc.tr7 L120000001 q r s t w y v u p w2 w0 d0a b a z w2'
        )
       )
      )
     )
    )
   else
    Ik12 q r s t w0 d0a b a z w2'
  else
   none
 else
  Ik12 q r s t w0 d0a b a z w2'
theorem Qc.g120000001raw_eq (Ik12 : YR) (L10 : YR) (L120000001 : YS) (q : List Int) (r : List YD) (s : List ByteArray) (t : Int) (w : List Int) (y : List YC) (v : Int) (u : Int) (p : Bool × Bool × Bool × Bool × Bool × Int) (w2 : List Int) (w0 : List Int) (d0a : List YC) (b : Int) (a : Int) (z : Bool × Bool × Bool × Bool × Bool × Int) (w2' : List Int) : Qc.g120000001raw Ik12 L10 L120000001 q r s t w y v u p w2 w0 d0a b a z w2' = Qc.g120000001 Ik12 L10 L120000001 q r s t w y v u p w2 w0 d0a b a z w2' := by
 unfold Qc.g120000001raw Qc.g120000001
 simp only [Vi, Qc.tr0, Qc.tr1, Qc.tr2, Qc.tr3, Qc.tr4, Qc.tr5, Qc.tr6, Qc.tr7, Qc.tr8]
def Qc.stk11 (q : List Int) (r : List YD) (s : List ByteArray) (t : Int) (w : List Int) (y : List YC) (v : Int) (u : Int) (p : Bool × Bool × Bool × Bool × Bool × Int) (w2 : List Int) : St := ⟨[.dat (.sl 2 (.int .i64)) q, .gone, .dat (.sl 69 (.pair (.int .i64) (.pair .str (.int .i64)))) r, .dat (.sl 9 .str) s, .gone, .gone, .gone, .gone, .gone, .ref 0, .dat (.int .i64) t, .gone, .gone, .ptr 1 [], .gone, .gone, .gone, .gone, .gone, .gone, .gone, .gone, .gone, .gone, .gone, .gone, .gone, .gone, .gone, .gone, .gone, .gone, .gone, .gone, .gone, .gone, .gone, .gone, .gone, .gone, .gone, .gone, .gone, .gone, .gone, .gone, .gone, .gone, .gone, .gone, .gone, .gone, .gone, .gone, .gone, .gone, .gone, .gone, .gone, .gone, .gone, .gone, .gone, .gone, .gone, .gone, .gone, .gone, .gone, .gone, .gone, .gone, .gone, .gone, .gone, .gone, .gone, .gone, .gone, .gone, .gone, .gone, .gone, .gone, .gone], [.row 2 (.int .i64) w none, .box 89 (.pair (.sl 101 (.pair (.int .i64) (.int .i64))) (.pair (.int .i64) (.pair (.int .i64) (.pair (.pair .bool (.pair .bool (.pair .bool (.pair .bool (.pair .bool (.int .i64)))))) (.sl 2 (.int .i64)))))) (.pr (.dat (.sl 101 (.pair (.int .i64) (.int .i64))) y) (.pr (.dat (.int .i64) v) (.pr (.dat (.int .i64) u) (.pr (.dat (.pair .bool (.pair .bool (.pair .bool (.pair .bool (.pair .bool (.int .i64)))))) p) (.ref 2))))), .row 2 (.int .i64) w2 none]⟩
def Qc.st10 (q : List Int) (r : List YD) (s : List ByteArray) (t : Int) (w : List Int) (y : List YC) (v : Int) (u : Int) (p : Bool × Bool × Bool × Bool × Bool × Int) (w2 : List Int) : St := ⟨[.dat (.sl 2 (.int .i64)) q, .gone, .dat (.sl 69 (.pair (.int .i64) (.pair .str (.int .i64)))) r, .dat (.sl 9 .str) s, .gone, .gone, .gone, .gone, .gone, .ref 0, .dat (.int .i64) t, .gone, .gone, .ptr 1 [], .gone, .gone, .gone, .gone, .gone, .gone, .gone, .gone, .gone, .gone, .gone, .gone, .gone, .gone, .gone, .gone, .gone, .gone, .gone, .gone, .gone, .gone, .gone, .gone, .gone, .gone, .gone, .gone, .gone, .gone, .gone, .gone, .gone, .gone, .gone, .gone, .gone, .gone, .gone, .gone, .gone, .gone, .gone, .gone, .gone, .gone, .gone, .gone, .gone, .gone, .gone, .gone, .gone, .gone, .gone, .gone, .gone, .gone, .gone, .gone, .gone, .gone, .gone, .gone, .gone, .gone, .gone, .gone, .gone, .gone, .gone], [.row 2 (.int .i64) w none, .box 89 (.pair (.sl 101 (.pair (.int .i64) (.int .i64))) (.pair (.int .i64) (.pair (.int .i64) (.pair (.pair .bool (.pair .bool (.pair .bool (.pair .bool (.pair .bool (.int .i64)))))) (.sl 2 (.int .i64)))))) (.pr (.dat (.sl 101 (.pair (.int .i64) (.int .i64))) y) (.pr (.dat (.int .i64) v) (.pr (.dat (.int .i64) u) (.pr (.dat (.pair .bool (.pair .bool (.pair .bool (.pair .bool (.pair .bool (.int .i64)))))) p) (.ref 2))))), .row 2 (.int .i64) w2 none]⟩
def Qc.st4 (q : List Int) (c : List YC) (r : List YD) (s : List ByteArray) (t : Int) (v19 : List Int) (v20 : Int) (v21 : Int) (w : List Int) : St := ⟨[.dat (.sl 2 (.int .i64)) q, .dat (.sl 101 (.pair (.int .i64) (.int .i64))) c, .dat (.sl 69 (.pair (.int .i64) (.pair .str (.int .i64)))) r, .dat (.sl 9 .str) s, .gone, .gone, .gone, .gone, .gone, .ref 0, .dat (.int .i64) t, .gone, .gone, .gone, .gone, .gone, .gone, .gone, .gone, .dat (.sl 2 (.int .i64)) v19, .dat (.int .i64) v20, .dat (.int .i64) v21, .gone, .gone, .gone, .gone, .gone, .gone, .gone, .gone, .gone, .gone, .gone, .gone, .gone, .gone, .gone, .gone, .gone, .gone, .gone, .gone, .gone, .gone, .gone, .gone, .gone, .gone, .gone, .gone, .gone, .gone, .gone, .gone, .gone, .gone, .gone, .gone, .gone, .gone, .gone, .gone, .gone, .gone, .gone, .gone, .gone, .gone, .gone, .gone, .gone, .gone, .gone, .gone, .gone, .gone, .gone, .gone, .gone, .gone, .gone, .gone, .gone, .gone, .gone], [.row 2 (.int .i64) w none]⟩
def Qc.con : Con := { ps := [(.val, (.sl 2 (.int .i64))), (.val, (.sl 101 (.pair (.int .i64) (.int .i64)))), (.val, (.sl 69 (.pair (.int .i64) (.pair .str (.int .i64))))), (.val, (.sl 9 .str))], rs := [(.own, (.sl 2 (.int .i64)))], F := fun x => Qc.f x.1 x.2.1 x.2.2.1 x.2.2.2 }
def Qc.cs : List (FuncId × Con) := [(48, QaL.con), (52, Qt.con), (87, Qaj.con)]
def Qc.E : Env := envOf tab Qc.cs 0 false
def Qc.I (f : FuncId) : Option Func := if f = 45 then some Tryz.f45 else if f = 46 then some Tryz.f46 else none
theorem Qc.hI : ∀ f fn, Qc.I f = some fn → Tryz.prog.funcs[f]? = some fn ∧ fn.body.isSome = true ∧ fn.name ≠ "runtime.NumGoroutine" := by
  intro f fn h
  unfold Qc.I at h
  split at h
  · rename_i e; subst e; cases h; exact ⟨Tryz.func45, rfl, by decide⟩
  split at h
  · rename_i e; subst e; cases h; exact ⟨Tryz.func46, rfl, by decide⟩
  cases h
def Qc.keep (i : Nat) : List Nat := if i = 1000019 then [0, 2, 3, 9, 10, 13] else if i = 14 then [0, 2, 3, 9, 10, 13, 50, 51, 52] else if i = 1000012 then [0, 2, 3, 9, 10, 13] else if i = 120000001 then [0, 200000] else if i = 1000011 then [0, 2, 3, 9, 10, 13] else if i = 10 then [0, 2, 3, 9, 10, 13, 200013] else if i = 4 then [0, 1, 2, 3, 9, 10, 19, 20, 21] else []
def Qc.atk19 (n : Nat) (x : List Int × YF × YL × List ByteArray) (M10 : St → Option (YQ)) : Code × (Ex → St → Option (YQ)) := ctxI Qc.E Qc.I Qc.keep n [.snd, .snd, .snd, .snd, .snd, .fst, .blk, .rd M10, .snd, .blk, .snd, .snd] (Vh Tryz.f28) (kEnd Qc.E Tryz.f28 Qc.con x)
def Qc.LNk19 (n : Nat) (x : List Int × YF × YL × List ByteArray) (M10 : St → Option (YQ)) : Nat → St → Option (YQ) := cutN (execI Qc.E Qc.I Qc.keep n (Qc.atk19 n x M10).1 (Qc.atk19 n x M10).2)
def Qc.at14 (n : Nat) (x : List Int × YF × YL × List ByteArray) (M10 : St → Option (YQ)) : Code × (Ex → St → Option (YQ)) := ctxI Qc.E Qc.I Qc.keep n [.snd, .snd, .snd, .snd, .snd, .fst, .blk, .rd M10, .snd, .blk, .snd, .fst, .snd, .yes, .snd, .blk] (Vh Tryz.f28) (kEnd Qc.E Tryz.f28 Qc.con x)
def Qc.LN14 (n : Nat) (x : List Int × YF × YL × List ByteArray) (M10 : St → Option (YQ)) : Nat → St → Option (YQ) := loopN (execI Qc.E Qc.I Qc.keep n (Vm (Qc.at14 n x M10).1)) (St.norm 0 (Qc.keep 14)) (Qc.at14 n x M10).2
def Qc.atk12 (n : Nat) (x : List Int × YF × YL × List ByteArray) (M10 : St → Option (YQ)) : Code × (Ex → St → Option (YQ)) := ctxI Qc.E Qc.I Qc.keep n [.snd, .snd, .snd, .snd, .snd, .fst, .blk, .rd M10, .snd, .blk, .snd] (Vh Tryz.f28) (kEnd Qc.E Tryz.f28 Qc.con x)
def Qc.LNk12 (n : Nat) (x : List Int × YF × YL × List ByteArray) (M10 : St → Option (YQ)) : Nat → St → Option (YQ) := cutN (execI Qc.E Qc.I Qc.keep n (Qc.atk12 n x M10).1 (Qc.atk12 n x M10).2)
def Qc.at120000001 (n : Nat) (x : List Int × YF × YL × List ByteArray) (M10 : St → Option (YQ)) (q : List Int) (r : List YD) (s : List ByteArray) (t : Int) (w : List Int) (y : List YC) (v : Int) (u : Int) (p : Bool × Bool × Bool × Bool × Bool × Int) (w2 : List Int) : Code × (Ex → St → Option (YQ)) := ctx (envIn Qc.E 2) (Vay Qc.keep 11) n [.blk] (Vh Tryz.f45) (kIn ((ctxI Qc.E Qc.I Qc.keep n [.snd, .snd, .snd, .snd, .snd, .fst, .blk, .rd M10, .snd, .blk, .fst] (Vh Tryz.f28) (kEnd Qc.E Tryz.f28 Qc.con x)).2 .normal) [.dat (.sl 2 (.int .i64)) q, .gone, .dat (.sl 69 (.pair (.int .i64) (.pair .str (.int .i64)))) r, .dat (.sl 9 .str) s, .gone, .gone, .gone, .gone, .gone, .ref 0, .dat (.int .i64) t, .gone, .gone, .ptr 1 [], .gone, .gone, .gone, .gone, .gone, .gone, .gone, .gone, .gone, .gone, .gone, .gone, .gone, .gone, .gone, .gone, .gone, .gone, .gone, .gone, .gone, .gone, .gone, .gone, .gone, .gone, .gone, .gone, .gone, .ptr 1 [], .gone, .gone, .gone, .gone, .gone, .gone, .gone, .gone, .gone, .gone, .gone, .gone, .gone, .gone, .gone, .gone, .gone, .gone, .gone, .gone, .gone, .gone, .gone, .gone, .gone, .gone, .gone, .gone, .gone, .gone, .gone, .gone, .gone, .gone, .gone, .gone, .gone, .gone, .gone, .gone, .gone] (some 44))
def Qc.LN120000001 (n : Nat) (x : List Int × YF × YL × List ByteArray) (M10 : St → Option (YQ)) (q : List Int) (r : List YD) (s : List ByteArray) (t : Int) (w : List Int) (y : List YC) (v : Int) (u : Int) (p : Bool × Bool × Bool × Bool × Bool × Int) (w2 : List Int) : Nat → St → Option (YQ) := loopN (exec (envIn Qc.E 2) (Vay Qc.keep 11) n (Vm (Qc.at120000001 n x M10 q r s t w y v u p w2).1)) (St.norm 2 (Vay Qc.keep 11 1)) (Qc.at120000001 n x M10 q r s t w y v u p w2).2
def Qc.atk11 (n : Nat) (x : List Int × YF × YL × List ByteArray) (M10 : St → Option (YQ)) : Code × (Ex → St → Option (YQ)) := ctxI Qc.E Qc.I Qc.keep n [.snd, .snd, .snd, .snd, .snd, .fst, .blk, .rd M10, .snd] (Vh Tryz.f28) (kEnd Qc.E Tryz.f28 Qc.con x)
def Qc.LNk11 (n : Nat) (x : List Int × YF × YL × List ByteArray) (M10 : St → Option (YQ)) : Nat → St → Option (YQ) := cutN (execI Qc.E Qc.I Qc.keep n (Qc.atk11 n x M10).1 (Qc.atk11 n x M10).2)
def Qc.at10 (n : Nat) (x : List Int × YF × YL × List ByteArray) : Code × (Ex → St → Option (YQ)) := ctxI Qc.E Qc.I Qc.keep n [.snd, .snd, .snd, .snd, .snd, .fst, .blk] (Vh Tryz.f28) (kEnd Qc.E Tryz.f28 Qc.con x)
def Qc.LN10 (n : Nat) (x : List Int × YF × YL × List ByteArray) : Nat → St → Option (YQ) := loopN (execI Qc.E Qc.I Qc.keep n (Vm (Qc.at10 n x).1)) (St.norm 0 (Qc.keep 10)) (Qc.at10 n x).2
def Qc.at4 (n : Nat) (x : List Int × YF × YL × List ByteArray) : Code × (Ex → St → Option (YQ)) := ctxI Qc.E Qc.I Qc.keep n [.snd, .snd, .snd, .fst, .snd, .blk] (Vh Tryz.f28) (kEnd Qc.E Tryz.f28 Qc.con x)
def Qc.LN4 (n : Nat) (x : List Int × YF × YL × List ByteArray) : Nat → St → Option (YQ) := loopN (execI Qc.E Qc.I Qc.keep n (Vm (Qc.at4 n x).1)) (St.norm 0 (Qc.keep 4)) (Qc.at4 n x).2
set_option maxRecDepth 100000 in
theorem Qc.lemk19 (n : Nat) (x : List Int × YF × YL × List ByteArray) (M10 : St → Option (YQ)) : ∀ (k : Nat) (q : List Int) (r : List YD) (s : List ByteArray) (t : Int) (w : List Int) (y : List YC) (v : Int) (u : Int) (p : Bool × Bool × Bool × Bool × Bool × Int) (w2 : List Int), Qc.LNk19 n x M10 k (Qc.stk19 q r s t w y v u p w2) = Qc.lk19 n (fun q r s t w y v u p w2 => M10 (Qc.st10 q r s t w y v u p w2)) k q r s t w y v u p w2 := by
 intro k
 induction k with
 | zero => intro q r s t w y v u p w2; rfl
 | succ k ih =>
  intro q r s t w y v u p w2
  have h : Qc.LNk19 n x M10 (k + 1) (Qc.stk19 q r s t w y v u p w2) = Qc.gk19 (fun q r s t w y v u p w2 => M10 (Qc.st10 q r s t w y v u p w2)) (fun q r s t w y v u p w2 => Qc.LNk19 n x M10 k (Qc.stk19 q r s t w y v u p w2)) q r s t w y v u p w2 := by kernel_rfl
  rw [h]
  simp only [ih]
  rfl
set_option maxRecDepth 100000 in
theorem Qc.lem14 (n : Nat) (x : List Int × YF × YL × List ByteArray) (M10 : St → Option (YQ)) : ∀ (k : Nat) (q : List Int) (r : List YD) (s : List ByteArray) (t : Int) (v50 : List Int) (v51 : Int) (v52 : Int) (w : List Int) (y : List YC) (v : Int) (u : Int) (p : Bool × Bool × Bool × Bool × Bool × Int) (w2 : List Int), Qc.LN14 n x M10 k (Qc.st14 q r s t v50 v51 v52 w y v u p w2) = Qc.l14 n (fun q r s t w y v u p w2 => M10 (Qc.st10 q r s t w y v u p w2)) k q r s t v50 v51 v52 w y v u p w2 := by
 intro k
 induction k with
 | zero => intro q r s t v50 v51 v52 w y v u p w2; rfl
 | succ k ih =>
  intro q r s t v50 v51 v52 w y v u p w2
  have h : Qc.LN14 n x M10 (k + 1) (Qc.st14 q r s t v50 v51 v52 w y v u p w2) = Qc.g14 (fun q r s t w y v u p w2 => Qc.LNk19 n x M10 n (Qc.stk19 q r s t w y v u p w2)) (fun q r s t w y v u p w2 => M10 (Qc.st10 q r s t w y v u p w2)) (fun q r s t v50 v51 v52 w y v u p w2 => Qc.LN14 n x M10 k (Qc.st14 q r s t v50 v51 v52 w y v u p w2)) q r s t v50 v51 v52 w y v u p w2 := by kernel_rfl
  rw [h]
  simp only [ih, Qc.lemk19]
  rfl
set_option maxRecDepth 100000 in
theorem Qc.lemk12 (n : Nat) (x : List Int × YF × YL × List ByteArray) (M10 : St → Option (YQ)) : ∀ (k : Nat) (q : List Int) (r : List YD) (s : List ByteArray) (t : Int) (w : List Int) (y : List YC) (v : Int) (u : Int) (p : Bool × Bool × Bool × Bool × Bool × Int) (w2 : List Int), Qc.LNk12 n x M10 k (Qc.stk12 q r s t w y v u p w2) = Qc.lk12 n (fun q r s t w y v u p w2 => M10 (Qc.st10 q r s t w y v u p w2)) k q r s t w y v u p w2 := by
 intro k
 induction k with
 | zero => intro q r s t w y v u p w2; rfl
 | succ k ih =>
  intro q r s t w y v u p w2
  have h : Qc.LNk12 n x M10 (k + 1) (Qc.stk12 q r s t w y v u p w2) = Qc.gk12 (fun q r s t v50 v51 v52 w y v u p w2 => Qc.LN14 n x M10 n (Qc.st14 q r s t v50 v51 v52 w y v u p w2)) (fun q r s t w y v u p w2 => Qc.LNk19 n x M10 n (Qc.stk19 q r s t w y v u p w2)) (fun q r s t w y v u p w2 => M10 (Qc.st10 q r s t w y v u p w2)) (fun q r s t w y v u p w2 => Qc.LNk12 n x M10 k (Qc.stk12 q r s t w y v u p w2)) q r s t w y v u p w2 := by kernel_rfl
  rw [h]
  simp only [ih, Qc.lem14, Qc.lemk19]
  rfl
set_option maxRecDepth 100000 in
theorem Qc.lem120000001 (n : Nat) (x : List Int × YF × YL × List ByteArray) (M10 : St → Option (YQ)) : ∀ (k : Nat) (q : List Int) (r : List YD) (s : List ByteArray) (t : Int) (w : List Int) (y : List YC) (v : Int) (u : Int) (p : Bool × Bool × Bool × Bool × Bool × Int) (w2 : List Int) (w0 : List Int) (d0a : List YC) (b : Int) (a : Int) (z : Bool × Bool × Bool × Bool × Bool × Int) (w2' : List Int), Qc.LN120000001 n x M10 q r s t w y v u p w2 k (Qc.st120000001 w0 d0a b a z w2') = Qc.l120000001 n (fun q r s t w y v u p w2 => M10 (Qc.st10 q r s t w y v u p w2)) k q r s t w y v u p w2 w0 d0a b a z w2' := by
 intro k
 induction k with
 | zero => intro q r s t w y v u p w2 w0 d0a b a z w2'; rfl
 | succ k ih =>
  intro q r s t w y v u p w2 w0 d0a b a z w2'
  have h : Qc.LN120000001 n x M10 q r s t w y v u p w2 (k + 1) (Qc.st120000001 w0 d0a b a z w2') = Qc.g120000001raw (fun q r s t w y v u p w2 => Qc.LNk12 n x M10 n (Qc.stk12 q r s t w y v u p w2)) (fun q r s t w y v u p w2 => M10 (Qc.st10 q r s t w y v u p w2)) (fun q r s t w y v u p w2 w0 d0a b a z w2' => Qc.LN120000001 n x M10 q r s t w y v u p w2 k (Qc.st120000001 w0 d0a b a z w2')) q r s t w y v u p w2 w0 d0a b a z w2' := by kernel_rfl
  rw [Qc.g120000001raw_eq] at h
  rw [h]
  simp only [ih, Qc.lemk12]
  rfl
set_option maxRecDepth 100000 in
theorem Qc.lemk11 (n : Nat) (x : List Int × YF × YL × List ByteArray) (M10 : St → Option (YQ)) : ∀ (k : Nat) (q : List Int) (r : List YD) (s : List ByteArray) (t : Int) (w : List Int) (y : List YC) (v : Int) (u : Int) (p : Bool × Bool × Bool × Bool × Bool × Int) (w2 : List Int), Qc.LNk11 n x M10 k (Qc.stk11 q r s t w y v u p w2) = Qc.lk11 n (fun q r s t w y v u p w2 => M10 (Qc.st10 q r s t w y v u p w2)) k q r s t w y v u p w2 := by
 intro k
 induction k with
 | zero => intro q r s t w y v u p w2; rfl
 | succ k ih =>
  intro q r s t w y v u p w2
  have h : Qc.LNk11 n x M10 (k + 1) (Qc.stk11 q r s t w y v u p w2) = Qc.gk11 (fun q r s t w y v u p w2 w0 d0a b a z w2' => Qc.LN120000001 n x M10 q r s t w y v u p w2 n (Qc.st120000001 w0 d0a b a z w2')) (fun q r s t w y v u p w2 => M10 (Qc.st10 q r s t w y v u p w2)) (fun q r s t w y v u p w2 => Qc.LNk11 n x M10 k (Qc.stk11 q r s t w y v u p w2)) q r s t w y v u p w2 := by kernel_rfl
  rw [h]
  simp only [ih, Qc.lem120000001]
  rfl
set_option maxRecDepth 100000 in
theorem Qc.lem10 (n : Nat) (x : List Int × YF × YL × List ByteArray) : ∀ (k : Nat) (q : List Int) (r : List YD) (s : List ByteArray) (t : Int) (w : List Int) (y : List YC) (v : Int) (u : Int) (p : Bool × Bool × Bool × Bool × Bool × Int) (w2 : List Int), Qc.LN10 n x k (Qc.st10 q r s t w y v u p w2) = Qc.l10 n k q r s t w y v u p w2 := by
 intro k
 induction k with
 | zero => intro q r s t w y v u p w2; rfl
 | succ k ih =>
  intro q r s t w y v u p w2
  have h : Qc.LN10 n x (k + 1) (Qc.st10 q r s t w y v u p w2) = Qc.g10 (fun q r s t w y v u p w2 => Qc.LNk11 n x (Qc.LN10 n x k) n (Qc.stk11 q r s t w y v u p w2)) (fun q r s t w y v u p w2 => Qc.LN10 n x k (Qc.st10 q r s t w y v u p w2)) q r s t w y v u p w2 := by kernel_rfl
  rw [h]
  simp only [ih, Qc.lemk11]
  rfl
set_option maxRecDepth 100000 in
theorem Qc.lem4 (n : Nat) (x : List Int × YF × YL × List ByteArray) : ∀ (k : Nat) (q : List Int) (c : List YC) (r : List YD) (s : List ByteArray) (t : Int) (v19 : List Int) (v20 : Int) (v21 : Int) (w : List Int), Qc.LN4 n x k (Qc.st4 q c r s t v19 v20 v21 w) = Qc.l4 n k q c r s t v19 v20 v21 w := by
 intro k
 induction k with
 | zero => intro q c r s t v19 v20 v21 w; rfl
 | succ k ih =>
  intro q c r s t v19 v20 v21 w
  have h : Qc.LN4 n x (k + 1) (Qc.st4 q c r s t v19 v20 v21 w) = Qc.g4 (fun q r s t w y v u p w2 => Qc.LN10 n x n (Qc.st10 q r s t w y v u p w2)) (fun q c r s t v19 v20 v21 w => Qc.LN4 n x k (Qc.st4 q c r s t v19 v20 v21 w)) q c r s t v19 v20 v21 w := by kernel_rfl
  rw [h]
  simp only [ih, Qc.lem10]
  rfl
set_option maxRecDepth 100000 in
theorem Qc.body (n : Nat) (x : List Int × YF × YL × List ByteArray) : Vck Qc.E Qc.I Qc.keep n Tryz.f28 Qc.con x = Qc.fn n x.1 x.2.1 x.2.2.1 x.2.2.2 := by
 have h : Vck Qc.E Qc.I Qc.keep n Tryz.f28 Qc.con x = Qc.top (fun q c r s t v19 v20 v21 w => Qc.LN4 n x n (Qc.st4 q c r s t v19 v20 v21 w)) x.1 x.2.1 x.2.2.1 x.2.2.2 := by kernel_rfl
 rw [h]
 simp only [Qc.lem4]
 rfl
set_option maxRecDepth 100000 in
theorem Qc.good : Good Tryz.prog 28 Qc.con :=
 Ve3 tabok (cs := Qc.cs) ⟨QaL.good, Qt.good, Qaj.good, trivial⟩ 0 false (fn := Tryz.f28) Tryz.func28 rfl (by decide) (by simp [Qc.con]) Qc.keep NN (fun _ => rfl) Qc.hI (fun x => Qc.body NN x)
end
end Go.Ev.Tryz

namespace Go.Ev.Tryz
open Go.Proofs Go.Pl
set_option linter.unusedVariables false
noncomputable section
def Qam.con : Con := { ps := [(.val,(.sl 2 (.int .i64))),(.val,(.sl 101 (.pair (.int .i64) (.int .i64)))),(.val,(.sl 69 (.pair (.int .i64) (.pair .str (.int .i64))))),(.val,(.sl 9 .str))],rs := [(.own,(.sl 2 (.int .i64))),(.own,(.int .i64))],F := fun x => Qam.f x.1 x.2.1 x.2.2.1 x.2.2.2 }
def Qam.cs : List (FuncId × Con) := [(27,QaH.con),(28,Qc.con)]
def Qam.E : Env := envOf tab Qam.cs 0 false
def Qam.keep (i : Nat) : List Nat := []
set_option maxRecDepth 100000 in
theorem Qam.body (n : Nat) (x : List Int × YF × YL × List ByteArray) : bodyF Qam.E Qam.keep n Tryz.f6 Qam.con x = Qam.fn n x.1 x.2.1 x.2.2.1 x.2.2.2 := by
 have h : bodyF Qam.E Qam.keep n Tryz.f6 Qam.con x = Qam.top x.1 x.2.1 x.2.2.1 x.2.2.2 := by kernel_rfl
 exact h
set_option maxRecDepth 100000 in
theorem Qam.good : Good Tryz.prog 6 Qam.con :=
 Vg tabok (cs := Qam.cs) ⟨QaH.good,Qc.good,trivial⟩ 0 false (fn := Tryz.f6) Tryz.func6 rfl (by decide) (by simp [Qam.con]) Qam.keep NN (fun _ => rfl) (fun x => Qam.body NN x)
end
end Go.Ev.Tryz

namespace Go.Ev.Tryz
open Go.Proofs Go.Pl
set_option linter.unusedVariables false
noncomputable section
def Qz.st2 (p : List YC) (i3 : Int) : St := ⟨[.dat (.sl 101 (.pair (.int .i64) (.int .i64))) p,.gone,.gone,.dat (.int .i64) i3,.gone,.gone,.gone,.gone,.gone,.gone,.gone,.gone,.gone,.gone,.gone,.gone,.gone,.gone,.gone,.gone,.gone,.gone,.gone,.gone,.gone,.gone,.gone,.gone,.gone,.gone,.gone,.gone,.gone,.gone,.gone,.gone,.gone,.gone,.gone,.gone,.gone,.gone,.gone,.gone,.gone,.gone,.gone,.gone],[]⟩
def Qz.con : Con := { ps := [(.val,(.sl 101 (.pair (.int .i64) (.int .i64))))],rs := [(.val,.bool)],F := fun x => Qz.f x }
def Qz.cs : List (FuncId × Con) := [(79,Qae.con)]
def Qz.E : Env := envOf tab Qz.cs 0 false
def Qz.keep (i : Nat) : List Nat := if i = 2 then [0,3] else []
def Qz.at2 (n : Nat) (x : List YC) : Code × (Ex → St → Option (Bool)) := ctx Qz.E Qz.keep n [.snd,.fst,.snd,.blk] (Vh Tryz.f63) (kEnd Qz.E Tryz.f63 Qz.con x)
def Qz.LN2 (n : Nat) (x : List YC) : Nat → St → Option (Bool) := loopN (exec Qz.E Qz.keep n (Vm (Qz.at2 n x).1)) (St.norm 0 (Qz.keep 2)) (Qz.at2 n x).2
set_option maxRecDepth 100000 in
theorem Qz.lem2 (n : Nat) (x : List YC) : ∀ (k : Nat) (p : List YC) (i3 : Int),Qz.LN2 n x k (Qz.st2 p i3) = Qz.l2 n k p i3 := by
 intro k
 induction k with
 | zero => intro p i3; rfl
 | succ k ih =>
  intro p i3
  have h : Qz.LN2 n x (k + 1) (Qz.st2 p i3) = Qz.g2 (fun p i3 => Qz.LN2 n x k (Qz.st2 p i3)) p i3 := by kernel_rfl
  rw [h]
  simp only [ih]
  rfl
set_option maxRecDepth 100000 in
theorem Qz.body (n : Nat) (x : List YC) : bodyF Qz.E Qz.keep n Tryz.f63 Qz.con x = Qz.fn n x := by
 have h : bodyF Qz.E Qz.keep n Tryz.f63 Qz.con x = Qz.top (fun p i3 => Qz.LN2 n x n (Qz.st2 p i3)) x := by kernel_rfl
 rw [h]
 simp only [Qz.lem2]
 rfl
set_option maxRecDepth 100000 in
theorem Qz.good : Good Tryz.prog 63 Qz.con :=
 Vg tabok (cs := Qz.cs) ⟨Qae.good,trivial⟩ 0 false (fn := Tryz.f63) Tryz.func63 rfl (by decide) (by simp [Qz.con]) Qz.keep NN (fun _ => rfl) (fun x => Qz.body NN x)
end
end Go.Ev.Tryz

namespace Go.Ev.Tryz
open Go.Proofs Go.Pl
set_option linter.unusedVariables false
noncomputable section
def Qac.st2 (p : List ByteArray) (i3 : Int) : St := ⟨[.dat (.sl 9 .str) p,.gone,.gone,.dat (.int .i64) i3,.gone,.gone,.gone,.gone,.gone,.gone,.gone,.gone,.gone,.gone,.gone,.gone],[]⟩
def Qac.con : Con := { ps := [(.val,(.sl 9 .str))],rs := [(.val,.bool)],F := fun x => Qac.f x }
def Qac.cs : List (FuncId × Con) := [(85,QU.con)]
def Qac.E : Env := envOf tab Qac.cs 0 false
def Qac.keep (i : Nat) : List Nat := if i = 2 then [0,3] else []
def Qac.at2 (n : Nat) (x : List ByteArray) : Code × (Ex → St → Option (Bool)) := ctx Qac.E Qac.keep n [.snd,.fst,.snd,.blk] (Vh Tryz.f65) (kEnd Qac.E Tryz.f65 Qac.con x)
def Qac.LN2 (n : Nat) (x : List ByteArray) : Nat → St → Option (Bool) := loopN (exec Qac.E Qac.keep n (Vm (Qac.at2 n x).1)) (St.norm 0 (Qac.keep 2)) (Qac.at2 n x).2
set_option maxRecDepth 100000 in
theorem Qac.lem2 (n : Nat) (x : List ByteArray) : ∀ (k : Nat) (p : List ByteArray) (i3 : Int),Qac.LN2 n x k (Qac.st2 p i3) = Qac.l2 n k p i3 := by
 intro k
 induction k with
 | zero => intro p i3; rfl
 | succ k ih =>
  intro p i3
  have h : Qac.LN2 n x (k + 1) (Qac.st2 p i3) = Qac.g2 (fun p i3 => Qac.LN2 n x k (Qac.st2 p i3)) p i3 := by kernel_rfl
  rw [h]
  simp only [ih]
  rfl
set_option maxRecDepth 100000 in
theorem Qac.body (n : Nat) (x : List ByteArray) : bodyF Qac.E Qac.keep n Tryz.f65 Qac.con x = Qac.fn n x := by
 have h : bodyF Qac.E Qac.keep n Tryz.f65 Qac.con x = Qac.top (fun p i3 => Qac.LN2 n x n (Qac.st2 p i3)) x := by kernel_rfl
 rw [h]
 simp only [Qac.lem2]
 rfl
set_option maxRecDepth 100000 in
theorem Qac.good : Good Tryz.prog 65 Qac.con :=
 Vg tabok (cs := Qac.cs) ⟨QU.good,trivial⟩ 0 false (fn := Tryz.f65) Tryz.func65 rfl (by decide) (by simp [Qac.con]) Qac.keep NN (fun _ => rfl) (fun x => Qac.body NN x)
end
end Go.Ev.Tryz

namespace Go.Ev.Tryz
open Go.Proofs Go.Pl
set_option linter.unusedVariables false
noncomputable section
def QR.st2 (p : List Int) (s : List YC) (q : List YD) (r : List ByteArray) (i9 : Int) : St := ⟨[.dat (.sl 2 (.int .i64)) p,.dat (.sl 101 (.pair (.int .i64) (.int .i64))) s,.dat (.sl 69 (.pair (.int .i64) (.pair .str (.int .i64)))) q,.dat (.sl 9 .str) r,.gone,.gone,.gone,.gone,.gone,.dat (.int .i64) i9,.gone,.gone,.gone,.gone,.gone,.gone,.gone,.gone,.gone,.gone,.gone,.gone,.gone,.gone,.gone,.gone,.gone,.gone,.gone,.gone,.gone,.gone,.gone,.gone,.gone,.gone,.gone,.gone,.gone,.gone,.gone,.gone,.gone,.gone,.gone],[]⟩
def QR.con : Con := { ps := [(.val,(.sl 2 (.int .i64))),(.val,(.sl 101 (.pair (.int .i64) (.int .i64)))),(.val,(.sl 69 (.pair (.int .i64) (.pair .str (.int .i64))))),(.val,(.sl 9 .str))],rs := [(.val,(.int .i64))],F := fun x => QR.f x.1 x.2.1 x.2.2.1 x.2.2.2 }
def QR.cs : List (FuncId × Con) := [(62,Qap.con),(63,Qz.con),(64,QE.con),(65,Qac.con)]
def QR.E : Env := envOf tab QR.cs 0 false
def QR.keep (i : Nat) : List Nat := if i = 2 then [0,1,2,3,9] else []
def QR.at2 (n : Nat) (x : List Int × YF × YL × List ByteArray) : Code × (Ex → St → Option (Int)) := ctx QR.E QR.keep n [.snd,.fst,.snd,.blk] (Vh Tryz.f29) (kEnd QR.E Tryz.f29 QR.con x)
def QR.LN2 (n : Nat) (x : List Int × YF × YL × List ByteArray) : Nat → St → Option (Int) := loopN (exec QR.E QR.keep n (Vm (QR.at2 n x).1)) (St.norm 0 (QR.keep 2)) (QR.at2 n x).2
set_option maxRecDepth 100000 in
theorem QR.lem2 (n : Nat) (x : List Int × YF × YL × List ByteArray) : ∀ (k : Nat) (p : List Int) (s : List YC) (q : List YD) (r : List ByteArray) (i9 : Int),QR.LN2 n x k (QR.st2 p s q r i9) = QR.l2 n k p s q r i9 := by
 intro k
 induction k with
 | zero => intro p s q r i9; rfl
 | succ k ih =>
  intro p s q r i9
  have h : QR.LN2 n x (k + 1) (QR.st2 p s q r i9) = QR.g2 (fun p s q r i9 => QR.LN2 n x k (QR.st2 p s q r i9)) p s q r i9 := by kernel_rfl
  rw [h]
  simp only [ih]
  rfl
set_option maxRecDepth 100000 in
theorem QR.body (n : Nat) (x : List Int × YF × YL × List ByteArray) : bodyF QR.E QR.keep n Tryz.f29 QR.con x = QR.fn n x.1 x.2.1 x.2.2.1 x.2.2.2 := by
 have h : bodyF QR.E QR.keep n Tryz.f29 QR.con x = QR.top (fun p s q r i9 => QR.LN2 n x n (QR.st2 p s q r i9)) x.1 x.2.1 x.2.2.1 x.2.2.2 := by kernel_rfl
 rw [h]
 simp only [QR.lem2]
 rfl
set_option maxRecDepth 100000 in
theorem QR.good : Good Tryz.prog 29 QR.con :=
 Vg tabok (cs := QR.cs) ⟨Qap.good,Qz.good,QE.good,Qac.good,trivial⟩ 0 false (fn := Tryz.f29) Tryz.func29 rfl (by decide) (by simp [QR.con]) QR.keep NN (fun _ => rfl) (fun x => QR.body NN x)
end
end Go.Ev.Tryz

namespace Go.Ev.Tryz
open Go.Proofs Go.Pl
set_option linter.unusedVariables false
noncomputable section
def QaP.con : Con := { ps := [(.val,(.pair .bool (.pair .bool (.pair .bool (.pair .bool (.pair .bool (.int .i64)))))))],rs := [(.val,(.pair .bool (.pair .bool (.pair .bool (.pair .bool (.pair .bool (.int .i64)))))))],F := fun x => QaP.f x }
def QaP.cs : List (FuncId × Con) := []
def QaP.E : Env := envOf tab QaP.cs 0 false
def QaP.keep (i : Nat) : List Nat := []
set_option maxRecDepth 100000 in
theorem QaP.body (n : Nat) (x : Bool × Bool × Bool × Bool × Bool × Int) : bodyF QaP.E QaP.keep n Tryz.f110 QaP.con x = QaP.fn n x := by
 have h : bodyF QaP.E QaP.keep n Tryz.f110 QaP.con x = QaP.top x := by kernel_rfl
 exact h
set_option maxRecDepth 100000 in
theorem QaP.good : Good Tryz.prog 110 QaP.con :=
 Vg tabok (cs := QaP.cs) trivial 0 false (fn := Tryz.f110) Tryz.func110 rfl (by decide) (by simp [QaP.con]) QaP.keep NN (fun _ => rfl) (fun x => QaP.body NN x)
end
end Go.Ev.Tryz

namespace Go.Ev.Tryz
open Go.Proofs Go.Pl
set_option linter.unusedVariables false
noncomputable section
def QaB.con : Con := { ps := [(.val,(.pair .bool (.pair .bool (.pair .bool (.pair .bool (.pair .bool (.int .i64))))))),(.val,(.int .i64))],rs := [(.val,(.pair .bool (.pair .bool (.pair .bool (.pair .bool (.pair .bool (.int .i64))))))),(.val,.bool)],F := fun x => QaB.f x.1 x.2 }
def QaB.cs : List (FuncId × Con) := [(110,QaP.con)]
def QaB.E : Env := envOf tab QaB.cs 0 false
def QaB.keep (i : Nat) : List Nat := []
set_option maxRecDepth 100000 in
theorem QaB.body (n : Nat) (x : YE × Int) : bodyF QaB.E QaB.keep n Tryz.f94 QaB.con x = QaB.fn n x.1 x.2 := by
 have h : bodyF QaB.E QaB.keep n Tryz.f94 QaB.con x = QaB.top x.1 x.2 := by kernel_rfl
 exact h
set_option maxRecDepth 100000 in
theorem QaB.good : Good Tryz.prog 94 QaB.con :=
 Vg tabok (cs := QaB.cs) ⟨QaP.good,trivial⟩ 0 false (fn := Tryz.f94) Tryz.func94 rfl (by decide) (by simp [QaB.con]) QaB.keep NN (fun _ => rfl) (fun x => QaB.body NN x)
end
end Go.Ev.Tryz

namespace Go.Ev.Tryz
open Go.Proofs Go.Pl
set_option linter.unusedVariables false
noncomputable section
def QI.st2 (k5 : Int) (c2 : Bool × Bool × Bool × Bool × Bool × Int) (v4a : Bool) (t : Bool) (s : Bool) (r : Bool) (p : Bool) (q : Int) : St := ⟨[.gone,.gone,.ptr 0 [],.gone,.ptr 1 [],.dat (.int .i64) k5,.gone,.gone,.gone,.gone,.gone,.gone,.gone,.gone,.gone,.gone,.gone,.gone,.gone,.gone,.gone],[.box 50 (.pair .bool (.pair .bool (.pair .bool (.pair .bool (.pair .bool (.int .i64)))))) (.dat (.pair .bool (.pair .bool (.pair .bool (.pair .bool (.pair .bool (.int .i64)))))) c2),.box 50 (.pair .bool (.pair .bool (.pair .bool (.pair .bool (.pair .bool (.int .i64)))))) (.pr (.dat .bool v4a) (.pr (.dat .bool t) (.pr (.dat .bool s) (.pr (.dat .bool r) (.pr (.dat .bool p) (.dat (.int .i64) q))))))]⟩
def QI.con : Con := { ps := [(.val,(.pair .bool (.pair .bool (.pair .bool (.pair .bool (.pair .bool (.int .i64))))))),(.val,(.int .i64))],rs := [(.val,(.pair .bool (.pair .bool (.pair .bool (.pair .bool (.pair .bool (.int .i64)))))))],F := fun x => QI.f x.1 x.2 }
def QI.cs : List (FuncId × Con) := [(94,QaB.con)]
def QI.E : Env := envOf tab QI.cs 0 false
def QI.keep (i : Nat) : List Nat := if i = 2 then [2,4,5] else []
def QI.at2 (n : Nat) (x : YE × Int) : Code × (Ex → St → Option (YE)) := ctx QI.E QI.keep n [.snd,.fst,.snd,.blk] (Vh Tryz.f93) (kEnd QI.E Tryz.f93 QI.con x)
def QI.LN2 (n : Nat) (x : YE × Int) : Nat → St → Option (YE) := loopN (exec QI.E QI.keep n (Vm (QI.at2 n x).1)) (St.norm 0 (QI.keep 2)) (QI.at2 n x).2
set_option maxRecDepth 100000 in
theorem QI.lem2 (n : Nat) (x : YE × Int) : ∀ (k : Nat) (k5 : Int) (c2 : Bool × Bool × Bool × Bool × Bool × Int) (v4a : Bool) (t : Bool) (s : Bool) (r : Bool) (p : Bool) (q : Int),QI.LN2 n x k (QI.st2 k5 c2 v4a t s r p q) = QI.l2 n k k5 c2 v4a t s r p q := by
 intro k
 induction k with
 | zero => intro k5 c2 v4a t s r p q; rfl
 | succ k ih =>
  intro k5 c2 v4a t s r p q
  have h : QI.LN2 n x (k + 1) (QI.st2 k5 c2 v4a t s r p q) = QI.g2 (fun k5 c2 v4a t s r p q => QI.LN2 n x k (QI.st2 k5 c2 v4a t s r p q)) k5 c2 v4a t s r p q := by kernel_rfl
  rw [h]
  simp only [ih]
  rfl
set_option maxRecDepth 100000 in
theorem QI.body (n : Nat) (x : YE × Int) : bodyF QI.E QI.keep n Tryz.f93 QI.con x = QI.fn n x.1 x.2 := by
 have h : bodyF QI.E QI.keep n Tryz.f93 QI.con x = QI.top (fun k5 c2 v4a t s r p q => QI.LN2 n x n (QI.st2 k5 c2 v4a t s r p q)) x.1 x.2 := by kernel_rfl
 rw [h]
 simp only [QI.lem2]
 rfl
set_option maxRecDepth 100000 in
theorem QI.good : Good Tryz.prog 93 QI.con :=
 Vg tabok (cs := QI.cs) ⟨QaB.good,trivial⟩ 0 false (fn := Tryz.f93) Tryz.func93 rfl (by decide) (by simp [QI.con]) QI.keep NN (fun _ => rfl) (fun x => QI.body NN x)
end
end Go.Ev.Tryz

namespace Go.Ev.Tryz
open Go.Proofs Go.Pl
set_option linter.unusedVariables false
noncomputable section
def QN.st4 (s : List YC) (u : Int) (y : Int) (i9 : Int) (v4a : Bool) (w : Bool) (v : Bool) (t : Bool) (q : Bool) (r : Int) (c6 : Bool × Bool × Bool × Bool × Bool × Int) (p : List Int) : St := ⟨[.dat (.sl 101 (.pair (.int .i64) (.int .i64))) s,.dat (.int .i64) u,.gone,.gone,.ptr 0 [],.gone,.ptr 1 [],.dat (.int .i64) y,.ref 2,.dat (.int .i64) i9,.gone,.gone,.gone,.gone,.gone,.gone,.gone,.gone,.gone,.gone,.gone,.gone,.gone,.gone,.gone,.gone,.gone,.gone,.gone,.gone,.gone,.gone,.gone,.gone,.gone,.gone,.gone,.gone,.gone,.gone,.gone,.gone,.gone,.gone,.gone,.gone,.gone,.gone,.gone,.gone,.gone,.gone,.gone,.gone,.gone,.gone,.gone,.gone,.gone,.gone,.gone,.gone,.gone,.gone,.gone],[.box 50 (.pair .bool (.pair .bool (.pair .bool (.pair .bool (.pair .bool (.int .i64)))))) (.pr (.dat .bool v4a) (.pr (.dat .bool w) (.pr (.dat .bool v) (.pr (.dat .bool t) (.pr (.dat .bool q) (.dat (.int .i64) r)))))),.box 50 (.pair .bool (.pair .bool (.pair .bool (.pair .bool (.pair .bool (.int .i64)))))) (.dat (.pair .bool (.pair .bool (.pair .bool (.pair .bool (.pair .bool (.int .i64)))))) c6),.row 2 (.int .i64) p none]⟩
def QN.tr0 (L4 : YAN) (s : List YC) (u : Int) (i9 : Int) (v4a : Bool) (w : Bool) (v : Bool) (t : Bool) (q : Bool) (r : Int) (p : List Int) (r1 : YE) : Option YAM :=
 (QaB.f r1 ((s.getD (i9 : Int).toNat (0,0)).2)).bind fun r2 =>
 if r2.2 = true then
  L4 s u ((s.getD (i9 : Int).toNat (0,0)).1) (IntKind.i64.wrap (i9 + 1)) v4a w v t q r r2.1 p
 else if p.length + ([i9]).length < room 8 then
  L4 s u ((s.getD (i9 : Int).toNat (0,0)).1) (IntKind.i64.wrap (i9 + 1)) v4a w v t q r r1 (p ++ ([i9]))
 else
  none
def QN.tr1 (L4 : YAN) (s : List YC) (u : Int) (i9 : Int) (v4a : Bool) (w : Bool) (v : Bool) (t : Bool) (q : Bool) (r : Int) (p : List Int) (r1 : YE) : Option YAM :=
 agree (
  QN.tr0 L4 s u i9 v4a w v t q r p r1
 ) (
  QN.tr0 L4 s u i9 v4a w v t q r p r1
 )
def QN.tr2 (L4 : YAN) (s : List YC) (u : Int) (i9 : Int) (v4a : Bool) (w : Bool) (v : Bool) (t : Bool) (q : Bool) (r : Int) (p : List Int) (r1 : YE) : Option YAM :=
 agree (
  QN.tr1 L4 s u i9 v4a w v t q r p r1
 ) (
  QN.tr0 L4 s u i9 v4a w v t q r p r1
 )
def QN.g4raw (L4 : YAN) (s : List YC) (u : Int) (y : Int) (i9 : Int) (v4a : Bool) (w : Bool) (v : Bool) (t : Bool) (q : Bool) (r : Int) (c6 : Bool × Bool × Bool × Bool × Bool × Int) (p : List Int) : Option YAM :=
 if (decide ((i9 : Int) < (s.length : Int))) = true then
  if (0 : Int) ≤ i9 ∧ (i9 : Int) < s.length then
   if (decide ((((s.getD (i9 : Int).toNat (0,0)).1) : Int) ≤ u)) = true then
    if (0 : Int) ≤ i9 ∧ (i9 : Int) < s.length then
     (QI.f c6 (IntKind.i64.wrap (((s.getD (i9 : Int).toNat (0,0)).1) - y))).bind fun r1 =>
     if (0 : Int) ≤ i9 ∧ (i9 : Int) < s.length then
      if (0 : Int) ≤ i9 ∧ (i9 : Int) < s.length then
       agree (
        QN.tr2 L4 s u i9 v4a w v t q r p r1
       ) (
        agree (
         QN.tr2 L4 s u i9 v4a w v t q r p r1
        ) (
         QN.tr1 L4 s u i9 v4a w v t q r p r1
        )
       )
      else
       none
     else
      none
    else
     none
   else
    (QI.f c6 (IntKind.i64.wrap (u - y))).bind fun r3 =>
    some (r3,p)
  else
   none
 else
  (QI.f c6 (IntKind.i64.wrap (u - y))).bind fun r4 =>
  some (r4,p)
theorem QN.g4raw_eq (L4 : YAN) (s : List YC) (u : Int) (y : Int) (i9 : Int) (v4a : Bool) (w : Bool) (v : Bool) (t : Bool) (q : Bool) (r : Int) (c6 : Bool × Bool × Bool × Bool × Bool × Int) (p : List Int) : QN.g4raw L4 s u y i9 v4a w v t q r c6 p = QN.g4 L4 s u y i9 v4a w v t q r c6 p := by
 unfold QN.g4raw QN.g4
 simp only [Vi,QN.tr0,QN.tr1,QN.tr2]
def QN.con : Con := { ps := [(.val,(.sl 101 (.pair (.int .i64) (.int .i64)))),(.val,(.int .i64))],rs := [(.own,(.pair .bool (.pair .bool (.pair .bool (.pair .bool (.pair .bool (.int .i64))))))),(.own,(.sl 2 (.int .i64)))],F := fun x => QN.f x.1 x.2 }
def QN.cs : List (FuncId × Con) := [(93,QI.con),(94,QaB.con)]
def QN.E : Env := envOf tab QN.cs 0 false
def QN.keep (i : Nat) : List Nat := if i = 4 then [0,1,4,6,7,8,9,200006] else []
def QN.at4 (n : Nat) (x : YF × Int) : Code × (Ex → St → Option (YAM)) := ctx QN.E QN.keep n [.snd,.snd,.snd,.fst,.snd,.blk] (Vh Tryz.f66) (kEnd QN.E Tryz.f66 QN.con x)
def QN.LN4 (n : Nat) (x : YF × Int) : Nat → St → Option (YAM) := loopN (exec QN.E QN.keep n (Vm (QN.at4 n x).1)) (St.norm 0 (QN.keep 4)) (QN.at4 n x).2
set_option maxRecDepth 100000 in
theorem QN.lem4 (n : Nat) (x : YF × Int) : ∀ (k : Nat) (s : List YC) (u : Int) (y : Int) (i9 : Int) (v4a : Bool) (w : Bool) (v : Bool) (t : Bool) (q : Bool) (r : Int) (c6 : Bool × Bool × Bool × Bool × Bool × Int) (p : List Int),QN.LN4 n x k (QN.st4 s u y i9 v4a w v t q r c6 p) = QN.l4 n k s u y i9 v4a w v t q r c6 p := by
 intro k
 induction k with
 | zero => intro s u y i9 v4a w v t q r c6 p; rfl
 | succ k ih =>
  intro s u y i9 v4a w v t q r c6 p
  have h : QN.LN4 n x (k + 1) (QN.st4 s u y i9 v4a w v t q r c6 p) = QN.g4raw (fun s u y i9 v4a w v t q r c6 p => QN.LN4 n x k (QN.st4 s u y i9 v4a w v t q r c6 p)) s u y i9 v4a w v t q r c6 p := by kernel_rfl
  rw [QN.g4raw_eq] at h
  rw [h]
  simp only [ih]
  rfl
set_option maxRecDepth 100000 in
theorem QN.body (n : Nat) (x : YF × Int) : bodyF QN.E QN.keep n Tryz.f66 QN.con x = QN.fn n x.1 x.2 := by
 have h : bodyF QN.E QN.keep n Tryz.f66 QN.con x = QN.top (fun s u y i9 v4a w v t q r c6 p => QN.LN4 n x n (QN.st4 s u y i9 v4a w v t q r c6 p)) x.1 x.2 := by kernel_rfl
 rw [h]
 simp only [QN.lem4]
 rfl
set_option maxRecDepth 100000 in
theorem QN.good : Good Tryz.prog 66 QN.con :=
 Vg tabok (cs := QN.cs) ⟨QI.good,QaB.good,trivial⟩ 0 false (fn := Tryz.f66) Tryz.func66 rfl (by decide) (by simp [QN.con]) QN.keep NN (fun _ => rfl) (fun x => QN.body NN x)
end
end Go.Ev.Tryz

namespace Go.Ev.Tryz
open Go.Proofs Go.Pl
set_option linter.unusedVariables false
noncomputable section
def Q1.st2 (p : List YD) (t1 : Int) (n5 : Int) : St := ⟨[.dat (.sl 69 (.pair (.int .i64) (.pair .str (.int .i64)))) p,.dat (.int .i64) t1,.gone,.gone,.gone,.dat (.int .i64) n5,.gone,.gone,.gone,.gone,.gone,.gone,.gone,.gone,.gone,.gone,.gone,.gone,.gone,.gone,.gone,.gone],[]⟩
def Q1.con : Con := { ps := [(.val,(.sl 69 (.pair (.int .i64) (.pair .str (.int .i64))))),(.val,(.int .i64))],rs := [(.val,(.int .i64))],F := fun x => Q1.f x.1 x.2 }
def Q1.cs : List (FuncId × Con) := []
def Q1.E : Env := envOf tab Q1.cs 0 false
def Q1.keep (i : Nat) : List Nat := if i = 2 then [0,1,5] else []
def Q1.at2 (n : Nat) (x : YL × Int) : Code × (Ex → St → Option (Int)) := ctx Q1.E Q1.keep n [.snd,.snd,.fst,.blk] (Vh Tryz.f95) (kEnd Q1.E Tryz.f95 Q1.con x)
def Q1.LN2 (n : Nat) (x : YL × Int) : Nat → St → Option (Int) := loopN (exec Q1.E Q1.keep n (Vm (Q1.at2 n x).1)) (St.norm 0 (Q1.keep 2)) (Q1.at2 n x).2
set_option maxRecDepth 100000 in
theorem Q1.lem2 (n : Nat) (x : YL × Int) : ∀ (k : Nat) (p : List YD) (t1 : Int) (n5 : Int),Q1.LN2 n x k (Q1.st2 p t1 n5) = Q1.l2 n k p t1 n5 := by
 intro k
 induction k with
 | zero => intro p t1 n5; rfl
 | succ k ih =>
  intro p t1 n5
  have h : Q1.LN2 n x (k + 1) (Q1.st2 p t1 n5) = Q1.g2 (fun p t1 n5 => Q1.LN2 n x k (Q1.st2 p t1 n5)) p t1 n5 := by kernel_rfl
  rw [h]
  simp only [ih]
  rfl
set_option maxRecDepth 100000 in
theorem Q1.body (n : Nat) (x : YL × Int) : bodyF Q1.E Q1.keep n Tryz.f95 Q1.con x = Q1.fn n x.1 x.2 := by
 have h : bodyF Q1.E Q1.keep n Tryz.f95 Q1.con x = Q1.top (fun p t1 n5 => Q1.LN2 n x n (Q1.st2 p t1 n5)) x.1 x.2 := by kernel_rfl
 rw [h]
 simp only [Q1.lem2]
 rfl
set_option maxRecDepth 100000 in
theorem Q1.good : Good Tryz.prog 95 Q1.con :=
 Vg tabok (cs := Q1.cs) trivial 0 false (fn := Tryz.f95) Tryz.func95 rfl (by decide) (by simp [Q1.con]) Q1.keep NN (fun _ => rfl) (fun x => Q1.body NN x)
end
end Go.Ev.Tryz

namespace Go.Ev.Tryz
open Go.Proofs Go.Pl
set_option linter.unusedVariables false
noncomputable section
def QQ.st3 (p : List YD) (q : ByteArray) (t2 : Int) (n7 : Int) (i8 : Int) : St := ⟨[.dat (.sl 69 (.pair (.int .i64) (.pair .str (.int .i64)))) p,.dat .str q,.dat (.int .i64) t2,.gone,.gone,.gone,.gone,.dat (.int .i64) n7,.dat (.int .i64) i8,.gone,.gone,.gone,.gone,.gone,.gone,.gone,.gone,.gone,.gone,.gone,.gone,.gone,.gone,.gone,.gone,.gone,.gone,.gone,.gone,.gone,.gone,.gone,.gone,.gone,.gone,.gone,.gone,.gone,.gone],[]⟩
def QQ.con : Con := { ps := [(.val,(.sl 69 (.pair (.int .i64) (.pair .str (.int .i64))))),(.val,.str),(.val,(.int .i64))],rs := [(.val,.bool)],F := fun x => QQ.f x.1 x.2.1 x.2.2 }
def QQ.cs : List (FuncId × Con) := [(90,Qy.con),(95,Q1.con)]
def QQ.E : Env := envOf tab QQ.cs 0 false
def QQ.keep (i : Nat) : List Nat := if i = 3 then [0,1,2,7,8] else []
def QQ.at3 (n : Nat) (x : YL × ByteArray × Int) : Code × (Ex → St → Option (Bool)) := ctx QQ.E QQ.keep n [.snd,.snd,.fst,.snd,.blk] (Vh Tryz.f67) (kEnd QQ.E Tryz.f67 QQ.con x)
def QQ.LN3 (n : Nat) (x : YL × ByteArray × Int) : Nat → St → Option (Bool) := loopN (exec QQ.E QQ.keep n (Vm (QQ.at3 n x).1)) (St.norm 0 (QQ.keep 3)) (QQ.at3 n x).2
set_option maxRecDepth 100000 in
theorem QQ.lem3 (n : Nat) (x : YL × ByteArray × Int) : ∀ (k : Nat) (p : List YD) (q : ByteArray) (t2 : Int) (n7 : Int) (i8 : Int),QQ.LN3 n x k (QQ.st3 p q t2 n7 i8) = QQ.l3 n k p q t2 n7 i8 := by
 intro k
 induction k with
 | zero => intro p q t2 n7 i8; rfl
 | succ k ih =>
  intro p q t2 n7 i8
  have h : QQ.LN3 n x (k + 1) (QQ.st3 p q t2 n7 i8) = QQ.g3 (fun p q t2 n7 i8 => QQ.LN3 n x k (QQ.st3 p q t2 n7 i8)) p q t2 n7 i8 := by kernel_rfl
  rw [h]
  simp only [ih]
  rfl
set_option maxRecDepth 100000 in
theorem QQ.body (n : Nat) (x : YL × ByteArray × Int) : bodyF QQ.E QQ.keep n Tryz.f67 QQ.con x = QQ.fn n x.1 x.2.1 x.2.2 := by
 have h : bodyF QQ.E QQ.keep n Tryz.f67 QQ.con x = QQ.top (fun p q t2 n7 i8 => QQ.LN3 n x n (QQ.st3 p q t2 n7 i8)) x.1 x.2.1 x.2.2 := by kernel_rfl
 rw [h]
 simp only [QQ.lem3]
 rfl
set_option maxRecDepth 100000 in
theorem QQ.good : Good Tryz.prog 67 QQ.con :=
 Vg tabok (cs := QQ.cs) ⟨Qy.good,Q1.good,trivial⟩ 0 false (fn := Tryz.f67) Tryz.func67 rfl (by decide) (by simp [QQ.con]) QQ.keep NN (fun _ => rfl) (fun x => QQ.body NN x)
end
end Go.Ev.Tryz

namespace Go.Ev.Tryz
open Go.Proofs Go.Pl
set_option linter.unusedVariables false
noncomputable section
def Ql.st9 (p : List Int) (s : List YC) (q : List YD) (r : List ByteArray) (i10 : Int) (v : Int) (u : Bool) (k15 : Int) (t : List Int) : St := ⟨[.dat (.sl 2 (.int .i64)) p,.dat (.sl 101 (.pair (.int .i64) (.int .i64))) s,.dat (.sl 69 (.pair (.int .i64) (.pair .str (.int .i64)))) q,.dat (.sl 9 .str) r,.gone,.gone,.gone,.gone,.gone,.ref 0,.dat (.int .i64) i10,.dat (.int .i64) v,.gone,.gone,.dat .bool u,.dat (.int .i64) k15,.gone,.gone,.gone,.gone,.gone,.gone,.gone,.gone,.gone,.gone,.gone,.gone,.gone,.gone,.gone,.gone,.gone,.gone,.gone,.gone,.gone,.gone,.gone,.gone,.gone,.gone,.gone,.gone,.gone,.gone,.gone,.gone,.gone,.gone,.gone,.gone,.gone,.gone,.gone,.gone,.gone,.gone,.gone,.gone,.gone,.gone,.gone,.gone,.gone,.gone,.gone],[.row 2 (.int .i64) t none]⟩
def Ql.st3 (p : List Int) (s : List YC) (q : List YD) (r : List ByteArray) (i10 : Int) (t : List Int) : St := ⟨[.dat (.sl 2 (.int .i64)) p,.dat (.sl 101 (.pair (.int .i64) (.int .i64))) s,.dat (.sl 69 (.pair (.int .i64) (.pair .str (.int .i64)))) q,.dat (.sl 9 .str) r,.gone,.gone,.gone,.gone,.gone,.ref 0,.dat (.int .i64) i10,.gone,.gone,.gone,.gone,.gone,.gone,.gone,.gone,.gone,.gone,.gone,.gone,.gone,.gone,.gone,.gone,.gone,.gone,.gone,.gone,.gone,.gone,.gone,.gone,.gone,.gone,.gone,.gone,.gone,.gone,.gone,.gone,.gone,.gone,.gone,.gone,.gone,.gone,.gone,.gone,.gone,.gone,.gone,.gone,.gone,.gone,.gone,.gone,.gone,.gone,.gone,.gone,.gone,.gone,.gone,.gone],[.row 2 (.int .i64) t none]⟩
def Ql.con : Con := { ps := [(.val,(.sl 2 (.int .i64))),(.val,(.sl 101 (.pair (.int .i64) (.int .i64)))),(.val,(.sl 69 (.pair (.int .i64) (.pair .str (.int .i64))))),(.val,(.sl 9 .str))],rs := [(.own,(.sl 2 (.int .i64)))],F := fun x => Ql.f x.1 x.2.1 x.2.2.1 x.2.2.2 }
def Ql.cs : List (FuncId × Con) := [(66,QN.con),(67,QQ.con)]
def Ql.E : Env := envOf tab Ql.cs 0 false
def Ql.keep (i : Nat) : List Nat := if i = 9 then [0,1,2,3,9,10,11,14,15] else if i = 3 then [0,1,2,3,9,10] else []
def Ql.at9 (n : Nat) (x : List Int × YF × YL × List ByteArray) (M3 : St → Option (YQ)) : Code × (Ex → St → Option (YQ)) := ctx Ql.E Ql.keep n [.snd,.snd,.fst,.snd,.blk,.rd M3,.snd,.fst,.blk,.snd,.snd,.snd,.fst,.snd,.blk] (Vh Tryz.f30) (kEnd Ql.E Tryz.f30 Ql.con x)
def Ql.LN9 (n : Nat) (x : List Int × YF × YL × List ByteArray) (M3 : St → Option (YQ)) : Nat → St → Option (YQ) := loopN (exec Ql.E Ql.keep n (Vm (Ql.at9 n x M3).1)) (St.norm 0 (Ql.keep 9)) (Ql.at9 n x M3).2
def Ql.at3 (n : Nat) (x : List Int × YF × YL × List ByteArray) : Code × (Ex → St → Option (YQ)) := ctx Ql.E Ql.keep n [.snd,.snd,.fst,.snd,.blk] (Vh Tryz.f30) (kEnd Ql.E Tryz.f30 Ql.con x)
def Ql.LN3 (n : Nat) (x : List Int × YF × YL × List ByteArray) : Nat → St → Option (YQ) := loopN (exec Ql.E Ql.keep n (Vm (Ql.at3 n x).1)) (St.norm 0 (Ql.keep 3)) (Ql.at3 n x).2
set_option maxRecDepth 100000 in
theorem Ql.lem9 (n : Nat) (x : List Int × YF × YL × List ByteArray) (M3 : St → Option (YQ)) : ∀ (k : Nat) (p : List Int) (s : List YC) (q : List YD) (r : List ByteArray) (i10 : Int) (v : Int) (u : Bool) (k15 : Int) (t : List Int),Ql.LN9 n x M3 k (Ql.st9 p s q r i10 v u k15 t) = Ql.l9 n (fun p s q r i10 t => M3 (Ql.st3 p s q r i10 t)) k p s q r i10 v u k15 t := by
 intro k
 induction k with
 | zero => intro p s q r i10 v u k15 t; rfl
 | succ k ih =>
  intro p s q r i10 v u k15 t
  have h : Ql.LN9 n x M3 (k + 1) (Ql.st9 p s q r i10 v u k15 t) = Ql.g9 (fun p s q r i10 t => M3 (Ql.st3 p s q r i10 t)) (fun p s q r i10 v u k15 t => Ql.LN9 n x M3 k (Ql.st9 p s q r i10 v u k15 t)) p s q r i10 v u k15 t := by kernel_rfl
  rw [h]
  simp only [ih]
  rfl
set_option maxRecDepth 100000 in
theorem Ql.lem3 (n : Nat) (x : List Int × YF × YL × List ByteArray) : ∀ (k : Nat) (p : List Int) (s : List YC) (q : List YD) (r : List ByteArray) (i10 : Int) (t : List Int),Ql.LN3 n x k (Ql.st3 p s q r i10 t) = Ql.l3 n k p s q r i10 t := by
 intro k
 induction k with
 | zero => intro p s q r i10 t; rfl
 | succ k ih =>
  intro p s q r i10 t
  have h : Ql.LN3 n x (k + 1) (Ql.st3 p s q r i10 t) = Ql.g3 (fun p s q r i10 v u k15 t => Ql.LN9 n x (Ql.LN3 n x k) n (Ql.st9 p s q r i10 v u k15 t)) (fun p s q r i10 t => Ql.LN3 n x k (Ql.st3 p s q r i10 t)) p s q r i10 t := by kernel_rfl
  rw [h]
  simp only [ih,Ql.lem9]
  rfl
set_option maxRecDepth 100000 in
theorem Ql.body (n : Nat) (x : List Int × YF × YL × List ByteArray) : bodyF Ql.E Ql.keep n Tryz.f30 Ql.con x = Ql.fn n x.1 x.2.1 x.2.2.1 x.2.2.2 := by
 have h : bodyF Ql.E Ql.keep n Tryz.f30 Ql.con x = Ql.top (fun p s q r i10 t => Ql.LN3 n x n (Ql.st3 p s q r i10 t)) x.1 x.2.1 x.2.2.1 x.2.2.2 := by kernel_rfl
 rw [h]
 simp only [Ql.lem3]
 rfl
set_option maxRecDepth 100000 in
theorem Ql.good : Good Tryz.prog 30 Ql.con :=
 Vg tabok (cs := Ql.cs) ⟨QN.good,QQ.good,trivial⟩ 0 false (fn := Tryz.f30) Tryz.func30 rfl (by decide) (by simp [Ql.con]) Ql.keep NN (fun _ => rfl) (fun x => Ql.body NN x)
end
end Go.Ev.Tryz

namespace Go.Ev.Tryz
open Go.Proofs Go.Pl
set_option linter.unusedVariables false
noncomputable section
def Qan.con : Con := { ps := [(.val,(.sl 2 (.int .i64))),(.val,(.sl 101 (.pair (.int .i64) (.int .i64)))),(.val,(.sl 69 (.pair (.int .i64) (.pair .str (.int .i64))))),(.val,(.sl 9 .str))],rs := [(.own,(.sl 2 (.int .i64))),(.own,(.int .i64))],F := fun x => Qan.f x.1 x.2.1 x.2.2.1 x.2.2.2 }
def Qan.cs : List (FuncId × Con) := [(29,QR.con),(30,Ql.con)]
def Qan.E : Env := envOf tab Qan.cs 0 false
def Qan.keep (i : Nat) : List Nat := []
set_option maxRecDepth 100000 in
theorem Qan.body (n : Nat) (x : List Int × YF × YL × List ByteArray) : bodyF Qan.E Qan.keep n Tryz.f7 Qan.con x = Qan.fn n x.1 x.2.1 x.2.2.1 x.2.2.2 := by
 have h : bodyF Qan.E Qan.keep n Tryz.f7 Qan.con x = Qan.top x.1 x.2.1 x.2.2.1 x.2.2.2 := by kernel_rfl
 exact h
set_option maxRecDepth 100000 in
theorem Qan.good : Good Tryz.prog 7 Qan.con :=
 Vg tabok (cs := Qan.cs) ⟨QR.good,Ql.good,trivial⟩ 0 false (fn := Tryz.f7) Tryz.func7 rfl (by decide) (by simp [Qan.con]) Qan.keep NN (fun _ => rfl) (fun x => Qan.body NN x)
end
end Go.Ev.Tryz

namespace Go.Ev.Tryz
open Go.Proofs Go.Pl
set_option linter.unusedVariables false
noncomputable section
def QY.st3 (n4 : Int) (s0 : List Int × Int × Int) (p : List YC) : St := ⟨[.ptr 0 [],.gone,.gone,.ref 1,.dat (.int .i64) n4,.gone,.gone,.gone,.gone,.gone,.gone,.gone,.gone,.gone,.gone,.gone,.gone,.gone,.gone,.gone,.gone,.gone,.gone,.gone],[.box 98 (.pair (.sl 5 (.int .u8)) (.pair (.int .i64) (.int .i64))) (.dat (.pair (.sl 5 (.int .u8)) (.pair (.int .i64) (.int .i64))) s0),.row 119 (.pair (.int .i64) (.int .i64)) p none]⟩
def QY.con : Con := { ps := [(.bx 98,(.pair (.sl 5 (.int .u8)) (.pair (.int .i64) (.int .i64))))],rs := [(.own,(.sl 119 (.pair (.int .i64) (.int .i64))))],F := fun x => QY.f x }
def QY.cs : List (FuncId × Con) := [(25,Qd.con)]
def QY.E : Env := envOf tab QY.cs 1 false
def QY.keep (i : Nat) : List Nat := if i = 3 then [0,3,4] else []
def QY.at3 (n : Nat) (x : List Int × Int × Int) : Code × (Ex → St → Option (YV)) := ctx QY.E QY.keep n [.snd,.snd,.fst,.snd,.blk] (Vh Tryz.f96) (kEnd QY.E Tryz.f96 QY.con x)
def QY.LN3 (n : Nat) (x : List Int × Int × Int) : Nat → St → Option (YV) := loopN (exec QY.E QY.keep n (Vm (QY.at3 n x).1)) (St.norm 1 (QY.keep 3)) (QY.at3 n x).2
set_option maxRecDepth 100000 in
theorem QY.lem3 (n : Nat) (x : List Int × Int × Int) : ∀ (k : Nat) (n4 : Int) (s0 : List Int × Int × Int) (p : List YC),QY.LN3 n x k (QY.st3 n4 s0 p) = QY.l3 n k n4 s0 p := by
 intro k
 induction k with
 | zero => intro n4 s0 p; rfl
 | succ k ih =>
  intro n4 s0 p
  have h : QY.LN3 n x (k + 1) (QY.st3 n4 s0 p) = QY.g3 (fun n4 s0 p => QY.LN3 n x k (QY.st3 n4 s0 p)) n4 s0 p := by kernel_rfl
  rw [h]
  simp only [ih]
  rfl
set_option maxRecDepth 100000 in
theorem QY.body (n : Nat) (x : List Int × Int × Int) : bodyF QY.E QY.keep n Tryz.f96 QY.con x = QY.fn n x := by
 have h : bodyF QY.E QY.keep n Tryz.f96 QY.con x = QY.top (fun n4 s0 p => QY.LN3 n x n (QY.st3 n4 s0 p)) x := by kernel_rfl
 rw [h]
 simp only [QY.lem3]
 rfl
set_option maxRecDepth 100000 in
theorem QY.good : Good Tryz.prog 96 QY.con :=
 Vg tabok (cs := QY.cs) ⟨Qd.good,trivial⟩ 1 false (fn := Tryz.f96) Tryz.func96 rfl (by decide) (by simp [QY.con]) QY.keep NN (fun _ => rfl) (fun x => QY.body NN x)
end
end Go.Ev.Tryz

namespace Go.Ev.Tryz
open Go.Proofs Go.Pl
set_option linter.unusedVariables false
noncomputable section
def Qar.con : Con := { ps := [],rs := [(.own,(.sl 9 .str))],F := fun x => Qar.f  }
def Qar.cs : List (FuncId × Con) := []
def Qar.E : Env := envOf tab Qar.cs 0 false
def Qar.keep (i : Nat) : List Nat := []
set_option maxRecDepth 100000 in
theorem Qar.body (n : Nat) (x : Unit) : bodyF Qar.E Qar.keep n Tryz.f97 Qar.con x = Qar.fn n  := by
 have h : bodyF Qar.E Qar.keep n Tryz.f97 Qar.con x = Qar.top  := by kernel_rfl
 exact h
set_option maxRecDepth 100000 in
theorem Qar.good : Good Tryz.prog 97 Qar.con :=
 Vg tabok (cs := Qar.cs) trivial 0 false (fn := Tryz.f97) Tryz.func97 rfl (by decide) (by simp [Qar.con]) Qar.keep NN (fun _ => rfl) (fun x => Qar.body NN x)
end
end Go.Ev.Tryz

namespace Go.Ev.Tryz
open Go.Proofs Go.Pl
set_option linter.unusedVariables false
noncomputable section
def Qat.con : Con := { ps := [(.bx 98,(.pair (.sl 5 (.int .u8)) (.pair (.int .i64) (.int .i64)))),(.val,.str)],rs := [(.val,(.pair .str (.pair (.int .i64) (.pair (.int .i64) (.pair (.int .i64) (.pair (.int .i64) (.pair (.int .i64) (.pair (.int .i64) (.pair (.int .i64) (.int .i64))))))))))],F := fun x => Qat.f x.1 x.2 }
def Qat.cs : List (FuncId × Con) := [(25,Qd.con),(56,QM.con)]
def Qat.E : Env := envOf tab Qat.cs 1 false
def Qat.keep (i : Nat) : List Nat := []
set_option maxRecDepth 100000 in
theorem Qat.body (n : Nat) (x : YK × ByteArray) : bodyF Qat.E Qat.keep n Tryz.f98 Qat.con x = Qat.fn n x.1 x.2 := by
 have h : bodyF Qat.E Qat.keep n Tryz.f98 Qat.con x = Qat.top x.1 x.2 := by kernel_rfl
 exact h
set_option maxRecDepth 100000 in
theorem Qat.good : Good Tryz.prog 98 Qat.con :=
 Vg tabok (cs := Qat.cs) ⟨Qd.good,QM.good,trivial⟩ 1 false (fn := Tryz.f98) Tryz.func98 rfl (by decide) (by simp [Qat.con]) Qat.keep NN (fun _ => rfl) (fun x => Qat.body NN x)
end
end Go.Ev.Tryz

namespace Go.Ev
set_option linter.unusedVariables false
open Go.RowKit
variable {ρ : Type}
noncomputable def step1 (E : Env) (ops : Array Oper) (s : St) (F : St → Option ρ) (i : Nat) : Option ρ := match ops[i]? with
 | some o => ev1 E ops o s F
 | none => none
noncomputable def nxt (E : Env) (ops : Array Oper) (S : St) (i : Nat) : St := match ops[i]? with
 | some o => (ev1 E ops o S (fun s => some s)).getD S
 | none => S
theorem Vk {f : Nat → Option ρ} {g : Option ρ} : ∀ {l : List Nat} {i : Nat},(∀ j ∈ i :: l,f j = g) → Vad ((i :: l).map f) = g := by
 intro l
 induction l with
 | nil => intro i h; exact h i (by simp)
 | cons j r ih =>
  intro i h
  have h1 := h i (by simp)
  have h2 := ih (i := j) (fun z hz => h z (by simp [List.mem_cons.1 hz]))
  simp only [List.map_cons] at h2 ⊢
  simp only [Vad]
  rw [h2,h1,Vi]
theorem Vl {E : Env} {ops : Array Oper} {n m : Nat} {s : St} {k : St → Option ρ} {i j : Nat} {r : List Nat} (h : restM E ops m = false ∧ rdyM ops m = i :: j :: r ∧ Vp ops m (i :: j :: r) = none) :
  Vc E ops (n + 1) m s k = Vad ((i :: j :: r).map fun i => step1 E ops s (fun s => Vc E ops n (Nat.lor m (Nat.pow 2 i)) s k) i) := by
 obtain ⟨h1,h2,h3⟩ := h
 simp only [Vc,h1,h2,h3,Bool.false_eq_true,if_false]
 rfl
theorem Ve4 {E : Env} {ops : Array Oper} {n m : Nat} {s : St} {k : St → Option ρ} {i j z : Nat} {r : List Nat} (h : restM E ops m = false ∧ rdyM ops m = i :: j :: r ∧ Vp ops m (i :: j :: r) = some z) :
  Vc E ops (n + 1) m s k = step1 E ops s (fun s => Vc E ops n (Nat.lor m (Nat.pow 2 z)) s k) z := by
 obtain ⟨h1,h2,h3⟩ := h
 simp only [Vc,h1,h2,h3,Bool.false_eq_true,if_false]
 rfl
end Go.Ev

namespace Go.Ev.Tryz
open Go.Proofs Go.Pl
set_option linter.unusedVariables false
noncomputable section
def Q6.st2 (p : List YC) (i3 : Int) : St := ⟨[.dat (.sl 119 (.pair (.int .i64) (.int .i64))) p,.gone,.gone,.dat (.int .i64) i3,.gone,.gone,.gone,.gone,.gone,.gone,.gone,.gone,.gone,.gone,.gone,.gone,.gone,.gone,.gone,.gone,.gone,.gone,.gone,.gone,.gone,.gone,.gone,.gone,.gone],[]⟩
def Q6.con : Con := { ps := [(.val,(.sl 119 (.pair (.int .i64) (.int .i64))))],rs := [(.val,.bool)],F := fun x => Q6.f x }
def Q6.cs : List (FuncId × Con) := [(79,Qae.con)]
def Q6.E : Env := envOf tab Q6.cs 0 false
def Q6.keep (i : Nat) : List Nat := if i = 2 then [0,3] else []
def Q6.at2 (n : Nat) (x : List YC) : Code × (Ex → St → Option (Bool)) := ctx Q6.E Q6.keep n [.snd,.fst,.snd,.blk] (Vh Tryz.f75) (kEnd Q6.E Tryz.f75 Q6.con x)
def Q6.LN2 (n : Nat) (x : List YC) : Nat → St → Option (Bool) := loopN (exec Q6.E Q6.keep n (Vm (Q6.at2 n x).1)) (St.norm 0 (Q6.keep 2)) (Q6.at2 n x).2
set_option maxRecDepth 100000 in
theorem Q6.lem2 (n : Nat) (x : List YC) : ∀ (k : Nat) (p : List YC) (i3 : Int),Q6.LN2 n x k (Q6.st2 p i3) = Q6.l2 n k p i3 := by
 intro k
 induction k with
 | zero => intro p i3; rfl
 | succ k ih =>
  intro p i3
  have h : Q6.LN2 n x (k + 1) (Q6.st2 p i3) = Q6.g2 (fun p i3 => Q6.LN2 n x k (Q6.st2 p i3)) p i3 := by kernel_rfl
  rw [h]
  simp only [ih]
  rfl
set_option maxRecDepth 100000 in
theorem Q6.body (n : Nat) (x : List YC) : bodyF Q6.E Q6.keep n Tryz.f75 Q6.con x = Q6.fn n x := by
 have h : bodyF Q6.E Q6.keep n Tryz.f75 Q6.con x = Q6.top (fun p i3 => Q6.LN2 n x n (Q6.st2 p i3)) x := by kernel_rfl
 rw [h]
 simp only [Q6.lem2]
 rfl
set_option maxRecDepth 100000 in
theorem Q6.good : Good Tryz.prog 75 Q6.con :=
 Vg tabok (cs := Q6.cs) ⟨Qae.good,trivial⟩ 0 false (fn := Tryz.f75) Tryz.func75 rfl (by decide) (by simp [Q6.con]) Q6.keep NN (fun _ => rfl) (fun x => Q6.body NN x)
end
end Go.Ev.Tryz

namespace Go.Ev.Tryz
open Go.Proofs Go.Pl
set_option linter.unusedVariables false
noncomputable section
def Qaw.con : Con := { ps := [(.val,(.pair .str (.pair (.int .i64) (.pair (.int .i64) (.pair (.int .i64) (.pair (.int .i64) (.pair (.int .i64) (.pair (.int .i64) (.pair (.int .i64) (.int .i64))))))))))],rs := [(.val,.bool)],F := fun x => Qaw.f x }
def Qaw.cs : List (FuncId × Con) := [(79,Qae.con),(85,QU.con)]
def Qaw.E : Env := envOf tab Qaw.cs 0 false
def Qaw.keep (i : Nat) : List Nat := []
set_option maxRecDepth 100000 in
theorem Qaw.body (n : Nat) (x : ByteArray × Int × Int × Int × Int × Int × Int × Int × Int) : bodyF Qaw.E Qaw.keep n Tryz.f104 Qaw.con x = Qaw.fn n x := by
 have h : bodyF Qaw.E Qaw.keep n Tryz.f104 Qaw.con x = Qaw.top x := by kernel_rfl
 exact h
set_option maxRecDepth 100000 in
theorem Qaw.good : Good Tryz.prog 104 Qaw.con :=
 Vg tabok (cs := Qaw.cs) ⟨Qae.good,QU.good,trivial⟩ 0 false (fn := Tryz.f104) Tryz.func104 rfl (by decide) (by simp [Qaw.con]) Qaw.keep NN (fun _ => rfl) (fun x => Qaw.body NN x)
end
end Go.Ev.Tryz

namespace Go.Ev.Tryz
open Go.Proofs Go.Pl
set_option linter.unusedVariables false
noncomputable section
def Qp.st2 (p : List YA) (i3 : Int) : St := ⟨[.dat (.sl 78 (.pair .str (.pair (.int .i64) (.pair (.int .i64) (.pair (.int .i64) (.pair (.int .i64) (.pair (.int .i64) (.pair (.int .i64) (.pair (.int .i64) (.int .i64)))))))))) p,.gone,.gone,.dat (.int .i64) i3,.gone,.gone,.gone,.gone,.gone,.gone,.gone,.gone,.gone,.gone,.gone,.gone,.gone,.gone,.gone,.gone,.gone,.gone,.gone,.gone,.gone,.gone,.gone,.gone,.gone,.gone,.gone,.gone,.gone,.gone,.gone,.gone,.gone],[]⟩
def Qp.con : Con := { ps := [(.val,(.sl 78 (.pair .str (.pair (.int .i64) (.pair (.int .i64) (.pair (.int .i64) (.pair (.int .i64) (.pair (.int .i64) (.pair (.int .i64) (.pair (.int .i64) (.int .i64)))))))))))],rs := [(.val,.bool)],F := fun x => Qp.f x }
def Qp.cs : List (FuncId × Con) := [(104,Qaw.con)]
def Qp.E : Env := envOf tab Qp.cs 0 false
def Qp.keep (i : Nat) : List Nat := if i = 2 then [0,3] else []
def Qp.at2 (n : Nat) (x : List YA) : Code × (Ex → St → Option (Bool)) := ctx Qp.E Qp.keep n [.snd,.fst,.snd,.blk] (Vh Tryz.f76) (kEnd Qp.E Tryz.f76 Qp.con x)
def Qp.LN2 (n : Nat) (x : List YA) : Nat → St → Option (Bool) := loopN (exec Qp.E Qp.keep n (Vm (Qp.at2 n x).1)) (St.norm 0 (Qp.keep 2)) (Qp.at2 n x).2
set_option maxRecDepth 100000 in
theorem Qp.lem2 (n : Nat) (x : List YA) : ∀ (k : Nat) (p : List YA) (i3 : Int),Qp.LN2 n x k (Qp.st2 p i3) = Qp.l2 n k p i3 := by
 intro k
 induction k with
 | zero => intro p i3; rfl
 | succ k ih =>
  intro p i3
  have h : Qp.LN2 n x (k + 1) (Qp.st2 p i3) = Qp.g2 (fun p i3 => Qp.LN2 n x k (Qp.st2 p i3)) p i3 := by kernel_rfl
  rw [h]
  simp only [ih]
  rfl
set_option maxRecDepth 100000 in
theorem Qp.body (n : Nat) (x : List YA) : bodyF Qp.E Qp.keep n Tryz.f76 Qp.con x = Qp.fn n x := by
 have h : bodyF Qp.E Qp.keep n Tryz.f76 Qp.con x = Qp.top (fun p i3 => Qp.LN2 n x n (Qp.st2 p i3)) x := by kernel_rfl
 rw [h]
 simp only [Qp.lem2]
 rfl
set_option maxRecDepth 100000 in
theorem Qp.good : Good Tryz.prog 76 Qp.con :=
 Vg tabok (cs := Qp.cs) ⟨Qaw.good,trivial⟩ 0 false (fn := Tryz.f76) Tryz.func76 rfl (by decide) (by simp [Qp.con]) Qp.keep NN (fun _ => rfl) (fun x => Qp.body NN x)
end
end Go.Ev.Tryz

namespace Go.Ev.Tryz
open Go.Proofs Go.Pl
set_option linter.unusedVariables false
noncomputable section
def QaQ.con : Con := { ps := [(.val,(.sl 119 (.pair (.int .i64) (.int .i64)))),(.val,(.int .i64)),(.val,(.int .i64))],rs := [(.val,.bool)],F := fun x => QaQ.f x.1 x.2.1 x.2.2 }
def QaQ.cs : List (FuncId × Con) := [(79,Qae.con)]
def QaQ.E : Env := envOf tab QaQ.cs 0 false
def QaQ.keep (i : Nat) : List Nat := []
set_option maxRecDepth 100000 in
theorem QaQ.body (n : Nat) (x : YF × Int × Int) : bodyF QaQ.E QaQ.keep n Tryz.f77 QaQ.con x = QaQ.fn n x.1 x.2.1 x.2.2 := by
 have h : bodyF QaQ.E QaQ.keep n Tryz.f77 QaQ.con x = QaQ.top x.1 x.2.1 x.2.2 := by kernel_rfl
 exact h
set_option maxRecDepth 100000 in
theorem QaQ.good : Good Tryz.prog 77 QaQ.con :=
 Vg tabok (cs := QaQ.cs) ⟨Qae.good,trivial⟩ 0 false (fn := Tryz.f77) Tryz.func77 rfl (by decide) (by simp [QaQ.con]) QaQ.keep NN (fun _ => rfl) (fun x => QaQ.body NN x)
end
end Go.Ev.Tryz

namespace Go.Ev.Tryz
open Go.Proofs Go.Pl
set_option linter.unusedVariables false
noncomputable section
def QW.st2 (p : List YA) (q : ByteArray) (i5 : Int) : St := ⟨[.dat (.sl 78 (.pair .str (.pair (.int .i64) (.pair (.int .i64) (.pair (.int .i64) (.pair (.int .i64) (.pair (.int .i64) (.pair (.int .i64) (.pair (.int .i64) (.int .i64)))))))))) p,.dat .str q,.gone,.gone,.gone,.dat (.int .i64) i5,.gone,.gone,.gone,.gone,.gone,.gone,.gone,.gone,.gone,.gone,.gone,.gone,.gone,.gone],[]⟩
def QW.con : Con := { ps := [(.val,(.sl 78 (.pair .str (.pair (.int .i64) (.pair (.int .i64) (.pair (.int .i64) (.pair (.int .i64) (.pair (.int .i64) (.pair (.int .i64) (.pair (.int .i64) (.int .i64))))))))))),(.val,.str)],rs := [(.val,(.int .i64))],F := fun x => QW.f x.1 x.2 }
def QW.cs : List (FuncId × Con) := []
def QW.E : Env := envOf tab QW.cs 0 false
def QW.keep (i : Nat) : List Nat := if i = 2 then [0,1,5] else []
def QW.at2 (n : Nat) (x : YG × ByteArray) : Code × (Ex → St → Option (Int)) := ctx QW.E QW.keep n [.snd,.fst,.snd,.blk] (Vh Tryz.f78) (kEnd QW.E Tryz.f78 QW.con x)
def QW.LN2 (n : Nat) (x : YG × ByteArray) : Nat → St → Option (Int) := loopN (exec QW.E QW.keep n (Vm (QW.at2 n x).1)) (St.norm 0 (QW.keep 2)) (QW.at2 n x).2
set_option maxRecDepth 100000 in
theorem QW.lem2 (n : Nat) (x : YG × ByteArray) : ∀ (k : Nat) (p : List YA) (q : ByteArray) (i5 : Int),QW.LN2 n x k (QW.st2 p q i5) = QW.l2 n k p q i5 := by
 intro k
 induction k with
 | zero => intro p q i5; rfl
 | succ k ih =>
  intro p q i5
  have h : QW.LN2 n x (k + 1) (QW.st2 p q i5) = QW.g2 (fun p q i5 => QW.LN2 n x k (QW.st2 p q i5)) p q i5 := by kernel_rfl
  rw [h]
  simp only [ih]
  rfl
set_option maxRecDepth 100000 in
theorem QW.body (n : Nat) (x : YG × ByteArray) : bodyF QW.E QW.keep n Tryz.f78 QW.con x = QW.fn n x.1 x.2 := by
 have h : bodyF QW.E QW.keep n Tryz.f78 QW.con x = QW.top (fun p q i5 => QW.LN2 n x n (QW.st2 p q i5)) x.1 x.2 := by kernel_rfl
 rw [h]
 simp only [QW.lem2]
 rfl
set_option maxRecDepth 100000 in
theorem QW.good : Good Tryz.prog 78 QW.con :=
 Vg tabok (cs := QW.cs) trivial 0 false (fn := Tryz.f78) Tryz.func78 rfl (by decide) (by simp [QW.con]) QW.keep NN (fun _ => rfl) (fun x => QW.body NN x)
end
end Go.Ev.Tryz

namespace Go.Ev.Tryz
open Go.Proofs Go.Pl
set_option linter.unusedVariables false
noncomputable section
def Q7.st3 (p : List YC) (r : Int) (q : Int) (t7 : Int) (i8 : Int) : St := ⟨[.dat (.sl 119 (.pair (.int .i64) (.int .i64))) p,.dat (.int .i64) r,.dat (.int .i64) q,.gone,.gone,.gone,.gone,.dat (.int .i64) t7,.dat (.int .i64) i8,.gone,.gone,.gone,.gone,.gone,.gone,.gone,.gone,.gone,.gone,.gone,.gone,.gone,.gone,.gone,.gone,.gone,.gone,.gone,.gone,.gone,.gone,.gone,.gone,.gone,.gone,.gone],[]⟩
def Q7.con : Con := { ps := [(.val,(.sl 119 (.pair (.int .i64) (.int .i64)))),(.val,(.int .i64)),(.val,(.int .i64))],rs := [(.val,(.int .i64))],F := fun x => Q7.f x.1 x.2.1 x.2.2 }
def Q7.cs : List (FuncId × Con) := []
def Q7.E : Env := envOf tab Q7.cs 0 false
def Q7.keep (i : Nat) : List Nat := if i = 3 then [0,1,2,7,8] else []
def Q7.at3 (n : Nat) (x : YF × Int × Int) : Code × (Ex → St → Option (Int)) := ctx Q7.E Q7.keep n [.snd,.snd,.fst,.snd,.blk] (Vh Tryz.f105) (kEnd Q7.E Tryz.f105 Q7.con x)
def Q7.LN3 (n : Nat) (x : YF × Int × Int) : Nat → St → Option (Int) := loopN (exec Q7.E Q7.keep n (Vm (Q7.at3 n x).1)) (St.norm 0 (Q7.keep 3)) (Q7.at3 n x).2
set_option maxRecDepth 100000 in
theorem Q7.lem3 (n : Nat) (x : YF × Int × Int) : ∀ (k : Nat) (p : List YC) (r : Int) (q : Int) (t7 : Int) (i8 : Int),Q7.LN3 n x k (Q7.st3 p r q t7 i8) = Q7.l3 n k p r q t7 i8 := by
 intro k
 induction k with
 | zero => intro p r q t7 i8; rfl
 | succ k ih =>
  intro p r q t7 i8
  have h : Q7.LN3 n x (k + 1) (Q7.st3 p r q t7 i8) = Q7.g3 (fun p r q t7 i8 => Q7.LN3 n x k (Q7.st3 p r q t7 i8)) p r q t7 i8 := by kernel_rfl
  rw [h]
  simp only [ih]
  rfl
set_option maxRecDepth 100000 in
theorem Q7.body (n : Nat) (x : YF × Int × Int) : bodyF Q7.E Q7.keep n Tryz.f105 Q7.con x = Q7.fn n x.1 x.2.1 x.2.2 := by
 have h : bodyF Q7.E Q7.keep n Tryz.f105 Q7.con x = Q7.top (fun p r q t7 i8 => Q7.LN3 n x n (Q7.st3 p r q t7 i8)) x.1 x.2.1 x.2.2 := by kernel_rfl
 rw [h]
 simp only [Q7.lem3]
 rfl
set_option maxRecDepth 100000 in
theorem Q7.good : Good Tryz.prog 105 Q7.con :=
 Vg tabok (cs := Q7.cs) trivial 0 false (fn := Tryz.f105) Tryz.func105 rfl (by decide) (by simp [Q7.con]) Q7.keep NN (fun _ => rfl) (fun x => Q7.body NN x)
end
end Go.Ev.Tryz

namespace Go.Ev.Tryz
open Go.Proofs Go.Pl
set_option linter.unusedVariables false
noncomputable section
def QaE.con : Con := { ps := [(.val,(.pair (.sl 119 (.pair (.int .i64) (.int .i64))) (.pair (.sl 78 (.pair .str (.pair (.int .i64) (.pair (.int .i64) (.pair (.int .i64) (.pair (.int .i64) (.pair (.int .i64) (.pair (.int .i64) (.pair (.int .i64) (.int .i64)))))))))) (.sl 59 (.pair (.int .i64) (.pair (.int .i64) (.pair .str (.int .i64)))))))),(.val,(.pair (.int .i64) (.pair (.int .i64) (.pair .str (.int .i64)))))],rs := [(.val,(.int .i64))],F := fun x => QaE.f x.1 x.2 }
def QaE.cs : List (FuncId × Con) := [(78,QW.con),(105,Q7.con)]
def QaE.E : Env := envOf tab QaE.cs 0 false
def QaE.keep (i : Nat) : List Nat := []
set_option maxRecDepth 100000 in
theorem QaE.body (n : Nat) (x : YH × Int × Int × ByteArray × Int) : bodyF QaE.E QaE.keep n Tryz.f80 QaE.con x = QaE.fn n x.1 x.2 := by
 have h : bodyF QaE.E QaE.keep n Tryz.f80 QaE.con x = QaE.top x.1 x.2 := by kernel_rfl
 exact h
set_option maxRecDepth 100000 in
theorem QaE.good : Good Tryz.prog 80 QaE.con :=
 Vg tabok (cs := QaE.cs) ⟨QW.good,Q7.good,trivial⟩ 0 false (fn := Tryz.f80) Tryz.func80 rfl (by decide) (by simp [QaE.con]) QaE.keep NN (fun _ => rfl) (fun x => QaE.body NN x)
end
end Go.Ev.Tryz

namespace Go.Ev.Tryz
open Go.Proofs Go.Pl
set_option linter.unusedVariables false
noncomputable section
def Q4.st4 (i3 : Int) (x1 : YF × YG × List YB) : St := ⟨[.gone,.ptr 0 [],.gone,.dat (.int .i64) i3,.gone,.gone,.gone,.gone,.gone,.gone,.gone,.gone,.gone,.gone,.gone,.gone,.gone,.gone,.gone,.gone,.gone,.gone,.gone,.gone,.gone,.gone,.gone,.gone,.gone,.gone,.gone,.gone,.gone,.gone,.gone,.gone,.gone,.gone,.gone,.gone,.gone,.gone,.gone,.gone,.gone,.gone,.gone,.gone,.gone,.gone,.gone,.gone,.gone,.gone,.gone,.gone,.gone,.gone,.gone,.gone,.gone],[.box 36 (.pair (.sl 119 (.pair (.int .i64) (.int .i64))) (.pair (.sl 78 (.pair .str (.pair (.int .i64) (.pair (.int .i64) (.pair (.int .i64) (.pair (.int .i64) (.pair (.int .i64) (.pair (.int .i64) (.pair (.int .i64) (.int .i64)))))))))) (.sl 59 (.pair (.int .i64) (.pair (.int .i64) (.pair .str (.int .i64))))))) (.dat (.pair (.sl 119 (.pair (.int .i64) (.int .i64))) (.pair (.sl 78 (.pair .str (.pair (.int .i64) (.pair (.int .i64) (.pair (.int .i64) (.pair (.int .i64) (.pair (.int .i64) (.pair (.int .i64) (.pair (.int .i64) (.int .i64)))))))))) (.sl 59 (.pair (.int .i64) (.pair (.int .i64) (.pair .str (.int .i64))))))) x1)]⟩
def Q4.con : Con := { ps := [(.val,(.pair (.sl 119 (.pair (.int .i64) (.int .i64))) (.pair (.sl 78 (.pair .str (.pair (.int .i64) (.pair (.int .i64) (.pair (.int .i64) (.pair (.int .i64) (.pair (.int .i64) (.pair (.int .i64) (.pair (.int .i64) (.int .i64)))))))))) (.sl 59 (.pair (.int .i64) (.pair (.int .i64) (.pair .str (.int .i64))))))))],rs := [(.val,.bool)],F := fun x => Q4.f x }
def Q4.cs : List (FuncId × Con) := [(75,Q6.con),(76,Qp.con),(77,QaQ.con),(78,QW.con),(79,Qae.con),(80,QaE.con)]
def Q4.E : Env := envOf tab Q4.cs 0 false
def Q4.keep (i : Nat) : List Nat := if i = 4 then [1,3] else []
def Q4.at4 (n : Nat) (x : YF × YG × List YB) : Code × (Ex → St → Option (Bool)) := ctx Q4.E Q4.keep n [.snd,.snd,.fst,.snd,.blk] (Vh Tryz.f34) (kEnd Q4.E Tryz.f34 Q4.con x)
def Q4.LN4 (n : Nat) (x : YF × YG × List YB) : Nat → St → Option (Bool) := loopN (exec Q4.E Q4.keep n (Vm (Q4.at4 n x).1)) (St.norm 0 (Q4.keep 4)) (Q4.at4 n x).2
set_option maxRecDepth 100000 in
theorem Q4.lem4 (n : Nat) (x : YF × YG × List YB) : ∀ (k : Nat) (i3 : Int) (x1 : YF × YG × List YB),Q4.LN4 n x k (Q4.st4 i3 x1) = Q4.l4 n k i3 x1 := by
 intro k
 induction k with
 | zero => intro i3 x1; rfl
 | succ k ih =>
  intro i3 x1
  have h : Q4.LN4 n x (k + 1) (Q4.st4 i3 x1) = Q4.g4 (fun i3 x1 => Q4.LN4 n x k (Q4.st4 i3 x1)) i3 x1 := by kernel_rfl
  rw [h]
  simp only [ih]
  rfl
set_option maxRecDepth 100000 in
theorem Q4.body (n : Nat) (x : YF × YG × List YB) : bodyF Q4.E Q4.keep n Tryz.f34 Q4.con x = Q4.fn n x := by
 have h : bodyF Q4.E Q4.keep n Tryz.f34 Q4.con x = Q4.top (fun i3 x1 => Q4.LN4 n x n (Q4.st4 i3 x1)) x := by kernel_rfl
 rw [h]
 simp only [Q4.lem4]
 rfl
set_option maxRecDepth 100000 in
theorem Q4.good : Good Tryz.prog 34 Q4.con :=
 Vg tabok (cs := Q4.cs) ⟨Q6.good,Qp.good,QaQ.good,QW.good,Qae.good,QaE.good,trivial⟩ 0 false (fn := Tryz.f34) Tryz.func34 rfl (by decide) (by simp [Q4.con]) Q4.keep NN (fun _ => rfl) (fun x => Q4.body NN x)
end
end Go.Ev.Tryz

namespace Go.Ev.Tryz
open Go.Proofs Go.Pl
set_option linter.unusedVariables false
noncomputable section
def Qh.tr0 (x0 : YF × YG × List YB) (p : List YB) : Option YH :=
 if ([] : List YA).length + x0.2.1.length < room 80 then
  if ([] : List YB).length + p.length < room 40 then
   some (([] : List YC) ++ x0.1,(([] : List YA) ++ x0.2.1,([] : List YB) ++ p))
  else
   none
 else
  none
def Qh.tr1 (x0 : YF × YG × List YB) (p : List YB) : Option YH :=
 agree (
  Qh.tr0 x0 p
 ) (
  Qh.tr0 x0 p
 )
def Qh.tr2 (x0 : YF × YG × List YB) (p : List YB) : Option YH :=
 agree (
  Qh.tr1 x0 p
 ) (
  Qh.tr0 x0 p
 )
def Qh.tr3 (x0 : YF × YG × List YB) (p : List YB) : Option YH :=
 if ([] : List YC).length + x0.1.length < room 16 then
  Qh.tr1 x0 p
 else
  none
def Qh.tr4 (x0 : YF × YG × List YB) (p : List YB) : Option YH :=
 if ([] : List YC).length + x0.1.length < room 16 then
  Qh.tr0 x0 p
 else
  none
def Qh.tr5 (x0 : YF × YG × List YB) (p : List YB) : Option YH :=
 agree (
  Qh.tr3 x0 p
 ) (
  Qh.tr4 x0 p
 )
def Qh.tr6 (x0 : YF × YG × List YB) (p : List YB) : Option YH :=
 agree (
  Qh.tr4 x0 p
 ) (
  Qh.tr4 x0 p
 )
def Qh.tr7 (x0 : YF × YG × List YB) (p : List YB) : Option YH :=
 agree (
  if ([] : List YC).length + x0.1.length < room 16 then
   Qh.tr2 x0 p
  else
   none
 ) (
  agree (
   Qh.tr5 x0 p
  ) (
   Qh.tr6 x0 p
  )
 )
def Qh.tr8 (x0 : YF × YG × List YB) (p : List YB) : Option YH :=
 agree (
  Qh.tr3 x0 p
 ) (
  agree (
   Qh.tr6 x0 p
  ) (
   Qh.tr6 x0 p
  )
 )
def Qh.tr9 (x0 : YF × YG × List YB) (p : List YB) : Option YH :=
 agree (
  Qh.tr5 x0 p
 ) (
  Qh.tr4 x0 p
 )
def Qh.tr10 (x0 : YF × YG × List YB) (p : List YB) : Option YH :=
 agree (
  Qh.tr6 x0 p
 ) (
  Qh.tr4 x0 p
 )
def Qh.tr11 (x0 : YF × YG × List YB) (p : List YB) : Option YH :=
 agree (
  Qh.tr7 x0 p
 ) (
  agree (
   Qh.tr9 x0 p
  ) (
   Qh.tr10 x0 p
  )
 )
def Qh.tr12 (x0 : YF × YG × List YB) (p : List YB) : Option YH :=
 agree (
  Qh.tr8 x0 p
 ) (
  agree (
   Qh.tr10 x0 p
  ) (
   Qh.tr10 x0 p
  )
 )
def Qh.tr13 (x0 : YF × YG × List YB) (p : List YB) : Option YH :=
 agree (
  agree (
   if ([] : List YC).length + x0.1.length < room 16 then
    agree (
     Qh.tr2 x0 p
    ) (
     agree (
      Qh.tr2 x0 p
     ) (
      Qh.tr1 x0 p
     )
    )
   else
    none
  ) (
   agree (
    Qh.tr7 x0 p
   ) (
    agree (
     Qh.tr7 x0 p
    ) (
     Qh.tr8 x0 p
    )
   )
  )
 ) (
  agree (
   Qh.tr11 x0 p
  ) (
   agree (
    Qh.tr11 x0 p
   ) (
    Qh.tr12 x0 p
   )
  )
 )
def Qh.tr14 (x0 : YF × YG × List YB) (p : List YB) : Option YH :=
 agree (
  Qh.tr10 x0 p
 ) (
  agree (
   Qh.tr10 x0 p
  ) (
   Qh.tr6 x0 p
  )
 )
def Qh.tr15 (x0 : YF × YG × List YB) (p : List YB) : Option YH :=
 agree (
  Qh.tr11 x0 p
 ) (
  agree (
   Qh.tr11 x0 p
  ) (
   agree (
    agree (
     Qh.tr9 x0 p
    ) (
     agree (
      Qh.tr9 x0 p
     ) (
      Qh.tr6 x0 p
     )
    )
   ) (
    Qh.tr14 x0 p
   )
  )
 )
def Qh.topraw (x0 : YF × YG × List YB) (p : List YB) : Option YH :=
 agree (
  Qh.tr13 x0 p
 ) (
  agree (
   Qh.tr13 x0 p
  ) (
   agree (
    Qh.tr15 x0 p
   ) (
    agree (
     Qh.tr15 x0 p
    ) (
     agree (
      Qh.tr12 x0 p
     ) (
      agree (
       Qh.tr12 x0 p
      ) (
       agree (
        Qh.tr14 x0 p
       ) (
        Qh.tr14 x0 p
       )
      )
     )
    )
   )
  )
 )
theorem Qh.topraw_eq (x0 : YF × YG × List YB) (p : List YB) : Qh.topraw x0 p = Qh.top x0 p := by
 unfold Qh.topraw Qh.top
 simp only [Vi,Qh.tr0,Qh.tr1,Qh.tr2,Qh.tr3,Qh.tr4,Qh.tr5,Qh.tr6,Qh.tr7,Qh.tr8,Qh.tr9,Qh.tr10,Qh.tr11,Qh.tr12,Qh.tr13,Qh.tr14,Qh.tr15]
def Qh.con : Con := { ps := [(.val,(.pair (.sl 119 (.pair (.int .i64) (.int .i64))) (.pair (.sl 78 (.pair .str (.pair (.int .i64) (.pair (.int .i64) (.pair (.int .i64) (.pair (.int .i64) (.pair (.int .i64) (.pair (.int .i64) (.pair (.int .i64) (.int .i64)))))))))) (.sl 59 (.pair (.int .i64) (.pair (.int .i64) (.pair .str (.int .i64)))))))),(.val,(.sl 59 (.pair (.int .i64) (.pair (.int .i64) (.pair .str (.int .i64))))))],rs := [(.own,(.pair (.sl 119 (.pair (.int .i64) (.int .i64))) (.pair (.sl 78 (.pair .str (.pair (.int .i64) (.pair (.int .i64) (.pair (.int .i64) (.pair (.int .i64) (.pair (.int .i64) (.pair (.int .i64) (.pair (.int .i64) (.int .i64)))))))))) (.sl 59 (.pair (.int .i64) (.pair (.int .i64) (.pair .str (.int .i64))))))))],F := fun x => Qh.f x.1 x.2 }
def Qh.cs : List (FuncId × Con) := []
def Qh.E : Env := envOf tab Qh.cs 0 false
def Qh.keep (i : Nat) : List Nat := []
set_option maxRecDepth 100000 in
theorem Qh.body (n : Nat) (x : YH × List YB) : bodyF Qh.E Qh.keep n Tryz.f111 Qh.con x = Qh.fn n x.1 x.2 := by
 have h : bodyF Qh.E Qh.keep n Tryz.f111 Qh.con x = Qh.topraw x.1 x.2 := by kernel_rfl
 rw [Qh.topraw_eq] at h
 exact h
set_option maxRecDepth 100000 in
theorem Qh.good : Good Tryz.prog 111 Qh.con :=
 Vg tabok (cs := Qh.cs) trivial 0 false (fn := Tryz.f111) Tryz.func111 rfl (by decide) (by simp [Qh.con]) Qh.keep NN (fun _ => rfl) (fun x => Qh.body NN x)
end
end Go.Ev.Tryz
