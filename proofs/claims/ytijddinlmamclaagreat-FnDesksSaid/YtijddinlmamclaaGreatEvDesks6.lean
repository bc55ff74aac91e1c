/- Part 6 of what the law FnDesks stands on: an evaluator of the model's code, proved sound; the functions as plain texts; their contracts. -/
import Derived.Test.YtijddinlmamclaaGreatChecked
import Derived.Test.YtijddinlmamclaaGreatProg
import Derived.Test.YtijddinlmamclaaGreatRows
import Derived.Below
import Derived.Calls
import Derived.Carry
import Derived.ChangeArms
import Derived.ChangeKeysEq
import Derived.ChangeOld
import Derived.Deep.Quiet
import Derived.KernelRfl
import Derived.Laws.Append
import Derived.Laws.BytesString
import Derived.Laws.MakeOwn
import Derived.Laws.Strings
import Derived.Laws.StructEq
import Derived.OpenShut
import Derived.OrdersHeld
import Derived.ProofKit
import Derived.ShutString
import Derived.SizedLaws
import Derived.Tactics
import Derived.WalkKit
import Derived.WideShapes
import Derived.Test.YtijddinlmamclaaGreatEvDesks5
namespace Go.Pl
open Go.Ev
set_option linter.unusedVariables false
set_option linter.unusedSimpArgs false
def digs (n : Nat) : List UInt8 := if h : n < 10 then [UInt8.ofNat (48 + n)] else digs (n / 10) ++ [UInt8.ofNat (48 + n % 10)]
 termination_by n
 decreasing_by omega
theorem VD {n : Nat} (h : n < 10) : digs n = [UInt8.ofNat (48 + n)] := by rw [digs, dif_pos h]
theorem V9 {n : Nat} (h : ¬ n < 10) : digs n = digs (n / 10) ++ [UInt8.ofNat (48 + n % 10)] := by rw [digs, dif_neg h]
theorem Vcf : ∀ (d n : Nat), n < 10 ^ (d + 1) → (digs n).length ≤ d + 1 ∧ 1 ≤ (digs n).length := by
 intro d
 induction d with
 | zero => intro n hn; rw [VD (by simpa using hn)]; simp
 | succ d ih =>
  intro n hn
  by_cases h : n < 10
  ·rw [VD h]; simp
  ·rw [V9 h]
   have := ih (n / 10) (by rw [Nat.pow_succ] at hn; omega)
   simp; omega
def decB (n : Int) : ByteArray := ob (if n < 0 then 45 :: digs (-n).toNat else digs n.toNat)
theorem VaK (n : Nat) : decB (n : Int) = ob (digs n) := by unfold decB; rw [if_neg (by omega), Int.toNat_natCast]
theorem VaG {x : Nat} (h : x < 10) : bytesOf [IntKind.u8.wrap (IntKind.i64.wrap (48 + (x : Int)))] = ob [UInt8.ofNat (48 + x)] := by
 rw [w64 (n := 48 + (x : Int)) (by omega) (by omega), w8 (by omega) (by omega), VgU]
 simp only [List.map_cons, List.map_nil]
 rfl
theorem Vfv (x : Nat) : Int.tmod (x : Int) 10 = ((x % 10 : Nat) : Int) := (Int.ofNat_tmod x 10).symm
theorem Vfw (x : Nat) : Int.tdiv (x : Int) 10 = ((x / 10 : Nat) : Int) := (Int.ofNat_tdiv x 10).symm
theorem p19 : (10 : Nat) ^ (18 + 1) = 10000000000000000000 := by decide
theorem Qc0 (S : Int → Option ByteArray) : ∀ (d n : Nat), n < 10 ^ (d + 1) → n ≤ 1000000000000000000 → ∀ (acc : List UInt8) (k : Nat), acc.length + d ≤ 1000 → d < k → Qg.l4 S NN k (n : Int) (ob acc) = some (ob (digs n ++ acc)) := by
 intro d
 induction d with
 | zero =>
  intro n hn _ acc k ha hk
  obtain ⟨k, rfl⟩ : ∃ j, k = j + 1 := ⟨k - 1, by omega⟩
  have hn' : n < 10 := by simpa using hn
  have e0 : (ob [UInt8.ofNat (48 + n % 10)]).size + (ob acc).size ≤ 9223372036854775807 := by rw [Vk, Vk]; simp; omega
  have ew := w64 (n := ((n / 10 : Nat) : Int)) (by omega) (by omega)
  have ez : (((n / 10 : Nat) : Int) == 0) = true := by rw [beq_iff_eq]; omega
  simp only [Qg.l4, Qg.g4, Vfw, Vfv, VaG (show n % 10 < 10 by omega), e0, ew, ez, if_true, Vas]
  rw [VD hn', Nat.mod_eq_of_lt hn']
 | succ d ih =>
  intro n hn hm acc k ha hk
  obtain ⟨k, rfl⟩ : ∃ j, k = j + 1 := ⟨k - 1, by omega⟩
  have e0 : (ob [UInt8.ofNat (48 + n % 10)]).size + (ob acc).size ≤ 9223372036854775807 := by rw [Vk, Vk]; simp; omega
  have ew := w64 (n := ((n / 10 : Nat) : Int)) (by omega) (by omega)
  simp only [Qg.l4, Qg.g4, Vfw, Vfv, VaG (show n % 10 < 10 by omega), e0, ew, if_true, Vas]
  by_cases h : n < 10
  ·have ez : (((n / 10 : Nat) : Int) == 0) = true := by rw [beq_iff_eq]; omega
   rw [if_pos ez, VD h, Nat.mod_eq_of_lt h]
  ·have ez : ¬ (((n / 10 : Nat) : Int) == 0) = true := by rw [beq_iff_eq]; omega
   have hn' : n / 10 < 10 ^ (d + 1) := by rw [Nat.pow_succ] at hn; omega
   rw [if_neg ez, ih (n / 10) hn' (by omega) _ k (by simp; omega) (by omega), V9 h, List.append_assoc]
theorem Qcf (S : Int → Option ByteArray) (m : Nat) (h : m ≤ 1000000000000000000) : Qg.fn S NN m = some (decB m) := by
 unfold Qg.fn Qg.top
 have hl := Qc0 S 18 m (by rw [p19]; omega) h [] NN (by simp) (NN_lt (by omega))
 rw [List.append_nil] at hl
 have hn : ¬ (m : Int) < 0 := by omega
 simp only [hn, decide_false, Bool.false_eq_true, if_false]
 rw [VaK]; exact hl
theorem Viq : ∃ j, NN = j + 1 + 1 := ⟨NN - 2, by have := NNb; omega⟩
theorem QbS {n : Int} (h0 : -1000000000000000000 ≤ n) (h : n ≤ 1000000000000000000) : Qg.f n = some (decB n) := by
 unfold Qg.f
 obtain ⟨k, hk⟩ := Viq
 rw [hk]
 show Qg.fn (Qg.rc (k + 1)) NN n = some (decB n)
 by_cases hn : 0 ≤ n
 ·obtain ⟨m, rfl⟩ : ∃ m : Nat, n = m := ⟨n.toNat, by omega⟩
  exact Qcf _ m (by omega)
 ·obtain ⟨m, hm⟩ : ∃ m : Nat, -n = m := ⟨(-n).toNat, by omega⟩
  have hl := Vcf 18 m (by rw [p19]; omega)
  have hw : IntKind.i64.wrap (0 - n) = (m : Int) := by rw [w64 (by omega) (by omega)]; omega
  have hf := Qcf (Qg.rc k) m (by omega)
  have hlt : n < 0 := by omega
  show Qg.top (Qg.rc (k + 1)) (Qg.l4 (Qg.rc (k + 1)) NN NN) n = some (decB n)
  unfold Qg.top
  simp only [hlt, decide_true, if_true, hw]
  rw [show Qg.rc (k + 1) (m : Int) = Qg.fn (Qg.rc k) NN (m : Int) from rfl, hf]
  simp only [Option.bind_some]
  rw [VaK, if_pos (by rw [Vk, show (⟨#[45]⟩ : ByteArray).size = 1 from rfl]; omega), show (⟨#[45]⟩ : ByteArray) = ob [45] from rfl, Vas]
  unfold decB; rw [if_pos hlt, hm]; rfl
theorem QcH : ∀ (d n : Nat), d ≤ 20 → n < 10 ^ (d + 1) → n ≤ 1000000000000000000 → ∀ k, d < k → Qf.rc k (n : Int) = some (ob (digs n)) := by
 intro d
 induction d with
 | zero =>
  intro n _ hn _ k hk
  obtain ⟨k, rfl⟩ : ∃ j, k = j + 1 := ⟨k - 1, by omega⟩
  have hn' : n < 10 := by simpa using hn
  have h1 : (n : Int) < 10 := by omega
  simp only [Qf.rc, Qf.fn, Qf.top, h1, decide_true, if_true, VaG hn', VD hn']
 | succ d ih =>
  intro n hd hn hm k hk
  obtain ⟨k, rfl⟩ : ∃ j, k = j + 1 := ⟨k - 1, by omega⟩
  by_cases h : n < 10
  ·have h1 : (n : Int) < 10 := by omega
   simp only [Qf.rc, Qf.fn, Qf.top, h1, decide_true, if_true, VaG h, VD h]
  ·have hn' : n / 10 < 10 ^ (d + 1) := by rw [Nat.pow_succ] at hn; omega
   have hl := Vcf d (n / 10) hn'
   have h1 : ¬ (n : Int) < 10 := by omega
   have ew := w64 (n := ((n / 10 : Nat) : Int)) (by omega) (by omega)
   have e0 : (ob (digs (n / 10))).size + (ob [UInt8.ofNat (48 + n % 10)]).size ≤ 9223372036854775807 := by rw [Vk, Vk]; simp; omega
   simp only [Qf.rc, Qf.fn, Qf.top, h1, decide_false, Bool.false_eq_true, if_false, Vfw, Vfv, ew, ih (n / 10) (by omega) hn' (by omega) k (by omega), Option.bind_some, VaG (show n % 10 < 10 by omega), e0, if_true, Vas, V9 h]
theorem Qbt {n : Int} (h0 : 0 ≤ n) (h : n ≤ 1000000000000000000) : Qf.f n = some (decB n) := by
 obtain ⟨m, rfl⟩ : ∃ m : Nat, n = m := ⟨n.toNat, by omega⟩
 rw [VaK]
 exact QcH 18 m (by omega) (by rw [p19]; omega) (by omega) NN (NN_lt (by omega))
theorem Vbd {n : Int} (h0 : -1000000000000000000 ≤ n) (h : n ≤ 1000000000000000000) : (decB n).size ≤ 20 := by
 have hl := Vcf 18 n.toNat (by rw [p19]; omega)
 have hl2 := Vcf 18 (-n).toNat (by rw [p19]; omega)
 unfold decB; rw [Vk]; split
 ·rw [List.length_cons]; omega
 ·omega
end Go.Pl

namespace Go.Pl
open Go.Ev
set_option linter.unusedVariables false
set_option linter.unusedSimpArgs false
def isDig (c : UInt8) : Bool := decide (48 ≤ (c.toNat : Int) ∧ (c.toNat : Int) ≤ 57)
def valL : List UInt8 → Nat → Nat
 | [], a => a
 | c :: r, a => valL r (10 * a + (c.toNat - 48))
theorem Vfx {α : Type} {p r : List α} (h : p ≠ []) : (p ++ r).head? = p.head? := by
 cases p with
 | nil => exact absurd rfl h
 | cons => rfl
theorem isDig_iff {c : UInt8} : isDig c = true ↔ 48 ≤ c.toNat ∧ c.toNat ≤ 57 := by unfold isDig; rw [decide_eq_true_eq]; omega
theorem Vf6 (l r : List UInt8) (a : Nat) : valL (l ++ r) a = valL r (valL l a) := by
 induction l generalizing a with
 | nil => rfl
 | cons c l ih => simp only [List.cons_append, valL]; exact ih _
theorem Vi3 : ∀ (l : List UInt8) (a : Nat), (∀ c ∈ l, isDig c = true) → valL l a < (a + 1) * 10 ^ l.length := by
 intro l
 induction l with
 | nil => intro a _; simp [valL]
 | cons c r ih =>
  intro a h
  have hc := isDig_iff.1 (h c (by simp))
  have := ih (10 * a + (c.toNat - 48)) (fun x hx => h x (by simp [hx]))
  simp only [valL, List.length_cons]
  have h2 : (10 * a + (c.toNat - 48) + 1) * 10 ^ r.length ≤ ((a + 1) * 10) * 10 ^ r.length := Nat.mul_le_mul_right _ (by omega)
  have h3 : ((a + 1) * 10) * 10 ^ r.length = (a + 1) * 10 ^ (r.length + 1) := by rw [Nat.mul_assoc, ← Nat.pow_succ']
  omega
theorem Vi4 (n : Nat) : digs n ≠ [] := by
 by_cases h : n < 10
 ·rw [VD h]; simp
 ·rw [V9 h]; simp
theorem VeJ {n : Nat} (h : n ≠ 0) : ∀ c, (digs n).head? = some c → c ≠ 48 := by
 induction n using Nat.strongRecOn with
 | _ n ih =>
  by_cases hn : n < 10
  ·rw [VD hn]
   intro c hc
   simp only [List.head?_cons, Option.some.injEq] at hc
   subst hc
   intro e
   have := congrArg UInt8.toNat e
   rw [UInt8.toNat_ofNat'] at this
   have e2 : (48 : UInt8).toNat = 48 := rfl
   omega
  ·rw [V9 hn]
   intro c hc
   have h1 := Vi4 (n / 10)
   rw [Vfx h1] at hc
   exact ih (n / 10) (by omega) (by omega) c hc
theorem VhA : ∀ (l : List UInt8), l ≠ [] → (∀ c ∈ l, isDig c = true) → (l.length = 1 ∨ l.head? ≠ some 48) → digs (valL l 0) = l := by
 have key : ∀ (k : Nat) (l : List UInt8), l.length = k → l ≠ [] → (∀ c ∈ l, isDig c = true) → (l.length = 1 ∨ l.head? ≠ some 48) → digs (valL l 0) = l := by
  intro k
  induction k with
  | zero => intro l hl hne; exact absurd (List.length_eq_zero_iff.1 hl) hne
  | succ k ih =>
   intro l hl hne hd hz
   obtain ⟨p, c, rfl⟩ : ∃ p c, l = p ++ [c] := ⟨l.dropLast, l.getLast hne, (List.dropLast_concat_getLast hne).symm⟩
   have hc := isDig_iff.1 (hd c (by simp))
   have ec : UInt8.ofNat (48 + (c.toNat - 48)) = c := by
    apply UInt8.toNat_inj.1; rw [UInt8.toNat_ofNat']; omega
   simp only [List.length_append, List.length_cons, List.length_nil] at hl
   rw [Vf6]
   simp only [valL]
   by_cases hp : p = []
   ·subst hp
    simp only [valL, List.nil_append]
    rw [Nat.mul_zero, Nat.zero_add, VD (by omega), ec]
   ·have hpl : p.length ≠ 0 := fun e => hp (List.length_eq_zero_iff.1 e)
    have hp0 : p.head? ≠ some 48 := by
     rcases hz with hz | hz
     ·rw [List.length_append, List.length_cons, List.length_nil] at hz; omega
     ·rw [Vfx hp] at hz; exact hz
    have ihp := ih p (by omega) hp (fun x hx => hd x (by simp [hx])) (.inr hp0)
    have hv : valL p 0 ≠ 0 := by
     intro e
     rw [e] at ihp
     rw [VD (by omega)] at ihp
     rw [← ihp] at hp0
     exact hp0 rfl
    rw [V9 (by omega), show (10 * valL p 0 + (c.toNat - 48)) / 10 = valL p 0 by omega, ihp, show (10 * valL p 0 + (c.toNat - 48)) % 10 = c.toNat - 48 by omega, ec]
 intro l
 exact key l.length l rfl
theorem Vfy {c : UInt8} (h : isDig c = true) : IntKind.i64.wrap (IntKind.u8.wrap ((c.toNat : Int) - 48)) = ((c.toNat - 48 : Nat) : Int) := by
 have := isDig_iff.1 h
 rw [w8 (by omega) (by omega), w64 (by omega) (by omega)]; omega
theorem p18 : (10 : Nat) ^ 18 = 1000000000000000000 := by decide
theorem Vfz {a : Nat} (h : a ≤ 18) : (10 : Nat) ^ a ≤ 1000000000000000000 := by
 have := Nat.pow_le_pow_right (n := 10) (by omega) h
 rw [p18] at this; exact this
theorem Qcb (s : ByteArray) : ∀ (r p : List UInt8) (a k : Nat), p.length + r.length ≤ 18 → r.length < k → a < 10 ^ p.length →
  Qt.l8 NN k s (ob (p ++ r)) (a : Int) (p.length : Int) = if r.all isDig = true then (if (((p ++ r).length : Nat) : Int) < (s.size : Int) then some (-((valL r a : Nat) : Int), true) else some (((valL r a : Nat) : Int), true)) else some (0, false) := by
 intro r
 induction r with
 | nil =>
  intro p a k hb hk ha
  obtain ⟨k, rfl⟩ : ∃ j, k = j + 1 := ⟨k - 1, by omega⟩
  have h18 := Vfz (a := p.length) (by simpa using hb)
  rw [List.append_nil]
  have c1 : ¬ (p.length : Int) < (p.length : Int) := by omega
  have cw := w64 (n := 0 - (a : Int)) (by omega) (by omega)
  simp only [Qt.l8, Qt.g8, Vk, c1, cw, and_self, and_true, true_and, decide_true, decide_false, if_true, if_false, Vc, Vd, Va, Vb, Ve, Option.bind_some, Bool.not_true, Bool.not_false, Bool.false_eq_true, Bool.true_eq_false, beq_self_eq_true, bne_self_eq_false, Int.toNat_natCast, decide_eq_true_eq, List.all_nil, valL]
  rw [show 0 - (a : Int) = -(a : Int) by omega]
 | cons c r ih =>
  intro p a k hb hk ha
  simp only [List.length_cons] at hb hk
  obtain ⟨k, rfl⟩ : ∃ j, k = j + 1 := ⟨k - 1, by omega⟩
  have h17 : (10 : Nat) ^ p.length ≤ 10 ^ 17 := Nat.pow_le_pow_right (by omega) (by omega)
  have e17 : (10 : Nat) ^ 17 = 100000000000000000 := by decide
  have c0 : (0 : Int) ≤ (p.length : Int) := by omega
  have hm := Vz p r c
  have c1 : (p.length : Int) < ((ob (p ++ c :: r)).size : Int) := by rw [Vk]; omega
  have cw := w64 (n := (p.length : Int) + 1) (by omega) (by omega)
  simp only [Qt.l8, Qt.g8, c0, c1, cw, and_self, and_true, true_and, decide_true, decide_false, if_true, if_false, Vc, Vd, Va, Vb, Ve, Option.bind_some, Bool.not_true, Bool.not_false, Bool.false_eq_true, Bool.true_eq_false, beq_self_eq_true, bne_self_eq_false, Int.toNat_natCast, List.all_cons]
  by_cases hd : isDig c = true
  ·have h2 := isDig_iff.1 hd
   have n1 : ¬ (c.toNat : Int) < 48 := by omega
   have n2 : ¬ (57 : Int) < (c.toNat : Int) := by omega
   have e1 := w64 (n := 10 * (a : Int)) (by omega) (by omega)
   have e2 := w64 (n := 10 * (a : Int) + ((c.toNat - 48 : Nat) : Int)) (by omega) (by omega)
   have := ih (p ++ [c]) (10 * a + (c.toNat - 48)) k (by simp; omega) (by omega) (by rw [List.length_append, List.length_singleton, Nat.pow_succ]; omega)
   rw [Vn, Vo, show ((10 * a + (c.toNat - 48) : Nat) : Int) = 10 * (a : Int) + ((c.toNat - 48 : Nat) : Int) by omega] at this
   simp only [n1, n2, and_self, and_true, true_and, decide_true, decide_false, if_true, if_false, Vc, Vd, Va, Vb, Ve, Option.bind_some, Bool.not_true, Bool.not_false, Bool.false_eq_true, Bool.true_eq_false, beq_self_eq_true, bne_self_eq_false, Int.toNat_natCast, Vfy hd, e1, e2, hd, this, valL]
   rfl
  ·have hd' : isDig c = false := by simpa using hd
   by_cases h1 : (c.toNat : Int) < 48
   ·simp [h1, hd']
   ·have h3 : (57 : Int) < (c.toNat : Int) := by
     have : ¬ (48 ≤ c.toNat ∧ c.toNat ≤ 57) := fun e => hd (isDig_iff.2 e)
     omega
    simp [h1, h3, hd']
def VU (l : List UInt8) (m : Nat) (neg : Bool) : Bool := decide (l ≠ [] ∧ l.length ≤ m ∧ (l.head? ≠ some 48 ∨ (l.length = 1 ∧ neg = false))) && l.all isDig
theorem Vdb {l : List UInt8} {m : Nat} {neg : Bool} (h : m < l.length) : VU l m neg = false := by
 unfold VU
 rw [decide_eq_false (fun h' => by have := h'.2.1; omega), Bool.false_and]
theorem VcE {c : UInt8} {r : List UInt8} {m : Nat} {neg : Bool} (h : (c :: r).length ≤ m) : VU (c :: r) m neg = ((decide (c ≠ 48) || (decide (r = []) && !neg)) && (c :: r).all isDig) := by
 unfold VU
 congr 1
 rw [Bool.eq_iff_iff]
 simp only [decide_eq_true_eq, Bool.or_eq_true, Bool.and_eq_true, Bool.not_eq_true', List.head?_cons, ne_eq, Option.some.injEq, List.length_cons]
 constructor
 ·rintro ⟨_, _, h1 | ⟨h1, h2⟩⟩
  ·exact .inl h1
  ·exact .inr ⟨List.length_eq_zero_iff.1 (by omega), h2⟩
 ·rintro (h1 | ⟨h1, h2⟩)
  ·exact ⟨by simp, by simpa using h, .inl h1⟩
  ·exact ⟨by simp, by simpa using h, .inr ⟨by rw [h1]; rfl, h2⟩⟩
def rdD (s : ByteArray) : Int × Bool :=
 if (bl s).head? = some 45 then (if VU (bl s).tail 18 true then (-((valL (bl s).tail 0 : Nat) : Int), true) else (0, false))
 else (if VU (bl s) 18 false then (((valL (bl s) 0 : Nat) : Int), true) else (0, false))
theorem VhB (c : UInt8) (r : List UInt8) : bt (ob (c :: r)) 0 = (c.toNat : Int) := rfl
theorem Qcc (s : ByteArray) (hs : s.size ≤ 1000000) : Qt.f s = some (rdD s) := by
 revert hs
 refine Vhw (P := fun s => s.size ≤ 1000000 → Qt.f s = some (rdD s)) ?_ s
 intro l hs
 rw [Vk] at hs
 unfold Qt.f Qt.fn Qt.top rdD
 rw [bl_ob, Vk]
 cases l with
 | nil => simp [VU]
 | cons c r =>
  simp only [List.length_cons] at hs
  have c0 : (0 : Int) < ((c :: r).length : Int) := by simp only [List.length_cons]; omega
  have cz : (((c :: r).length : Int) == 0) = false := by rw [beq_eq_false_iff_ne]; omega
  simp only [c0, cz, VhB, and_self, and_true, true_and, decide_true, decide_false, if_true, if_false, Vc, Vd, Va, Vb, Ve, Option.bind_some, Bool.not_true, Bool.not_false, Bool.false_eq_true, Bool.true_eq_false, beq_self_eq_true, bne_self_eq_false, Int.toNat_natCast, Int.le_refl, List.head?_cons, Option.some.injEq, List.tail_cons]
  by_cases hc : c = 45
  ·subst hc
   have e45 : (((45 : UInt8).toNat : Int) == 45) = true := rfl
   have c1 : (1 : Int) ≤ ((45 :: r : List UInt8).length : Int) := by simp only [List.length_cons]; omega
   have ex : (ob (45 :: r)).extract (1 : Int).toNat (45 :: r : List UInt8).length = ob r := by
    rw [VdY, List.take_of_length_le (by omega)]; rfl
   simp only [e45, c1, ex, Vk, and_self, and_true, true_and, decide_true, decide_false, if_true, if_false, Vc, Vd, Va, Vb, Ve, Option.bind_some, Bool.not_true, Bool.not_false, Bool.false_eq_true, Bool.true_eq_false, beq_self_eq_true, bne_self_eq_false, Int.toNat_natCast, show (0 : Int) ≤ 1 from by omega]
   cases r with
   | nil => simp [VU]
   | cons d r =>
    have d0 : (0 : Int) < ((d :: r).length : Int) := by simp only [List.length_cons]; omega
    have dz : (((d :: r).length : Int) == 0) = false := by rw [beq_eq_false_iff_ne]; omega
    have d1 : (1 : Int) < ((45 :: d :: r : List UInt8).length : Int) := by simp only [List.length_cons]; omega
    simp only [d0, dz, d1, VhB, and_self, and_true, true_and, decide_true, decide_false, if_true, if_false, Vc, Vd, Va, Vb, Ve, Option.bind_some, Bool.not_true, Bool.not_false, Bool.false_eq_true, Bool.true_eq_false, beq_self_eq_true, bne_self_eq_false, Int.toNat_natCast]
    by_cases h18 : (18 : Int) < ((d :: r).length : Int)
    ·simp only [Vdb (show 18 < (d :: r).length by omega), h18, and_self, and_true, true_and, decide_true, decide_false, if_true, if_false, Vc, Vd, Va, Vb, Ve, Option.bind_some, Bool.not_true, Bool.not_false, Bool.false_eq_true, Bool.true_eq_false, beq_self_eq_true, bne_self_eq_false, Int.toNat_natCast]
    ·have h18' : (d :: r).length ≤ 18 := by omega
     have hl := Qcb (ob (45 :: d :: r)) (d :: r) [] 0 NN (by simpa using h18') (NN_lt (by omega)) (by simp)
     simp only [List.nil_append, List.length_nil, Vk] at hl
     have d2 : ((d :: r).length : Int) < ((45 :: d :: r : List UInt8).length : Int) := by simp only [List.length_cons]; omega
     rw [show ((0 : Nat) : Int) = 0 from rfl] at hl
     simp only [d2, if_true] at hl
     simp only [VcE h18', h18, hl, and_self, and_true, true_and, decide_true, decide_false, if_true, if_false, Vc, Vd, Va, Vb, Ve, Option.bind_some, Bool.not_true, Bool.not_false, Bool.false_eq_true, Bool.true_eq_false, beq_self_eq_true, bne_self_eq_false, Int.toNat_natCast]
     by_cases hd : d = 48
     ·subst hd
      simp
     ·have : ((d.toNat : Int) == 48) = false := by rw [beq_eq_false_iff_ne]; intro e; exact hd ((u8_eq (n := 48) (by omega)).mp (by omega))
      simp only [this, and_self, and_true, true_and, decide_true, decide_false, if_true, if_false, Vc, Vd, Va, Vb, Ve, Option.bind_some, Bool.not_true, Bool.not_false, Bool.false_eq_true, Bool.true_eq_false, beq_self_eq_true, bne_self_eq_false, Int.toNat_natCast]
      cases ha : (d :: r).all isDig <;> simp [hd]
  ·have e45 : ((c.toNat : Int) == 45) = false := by rw [beq_eq_false_iff_ne]; intro e; exact hc ((u8_eq (n := 45) (by omega)).mp (by omega))
   simp only [e45, hc, and_self, and_true, true_and, decide_true, decide_false, if_true, if_false, Vc, Vd, Va, Vb, Ve, Option.bind_some, Bool.not_true, Bool.not_false, Bool.false_eq_true, Bool.true_eq_false, beq_self_eq_true, bne_self_eq_false, Int.toNat_natCast]
   by_cases h18 : (18 : Int) < ((c :: r).length : Int)
   ·simp only [Vdb (show 18 < (c :: r).length by omega), h18, and_self, and_true, true_and, decide_true, decide_false, if_true, if_false, Vc, Vd, Va, Vb, Ve, Option.bind_some, Bool.not_true, Bool.not_false, Bool.false_eq_true, Bool.true_eq_false, beq_self_eq_true, bne_self_eq_false, Int.toNat_natCast]
   ·have h18' : (c :: r).length ≤ 18 := by omega
    have hl := Qcb (ob (c :: r)) (c :: r) [] 0 NN (by simpa using h18') (NN_lt (by omega)) (by simp)
    simp only [List.nil_append, List.length_nil, Vk, Int.lt_irrefl, if_false] at hl
    rw [show ((0 : Nat) : Int) = 0 from rfl] at hl
    simp only [VcE h18', h18, hl, and_self, and_true, true_and, decide_true, decide_false, if_true, if_false, Vc, Vd, Va, Vb, Ve, Option.bind_some, Bool.not_true, Bool.not_false, Bool.false_eq_true, Bool.true_eq_false, beq_self_eq_true, bne_self_eq_false, Int.toNat_natCast]
    by_cases hd : c = 48
    ·subst hd
     have e48 : (((48 : UInt8).toNat : Int) == 48) = true := rfl
     simp only [e48, and_self, and_true, true_and, decide_true, decide_false, if_true, if_false, Vc, Vd, Va, Vb, Ve, Option.bind_some, Bool.not_true, Bool.not_false, Bool.false_eq_true, Bool.true_eq_false, beq_self_eq_true, bne_self_eq_false, Int.toNat_natCast]
     cases r with
     | nil =>
      simp only [List.length_cons, List.length_nil]
      cases ha : ([48] : List UInt8).all isDig <;> simp
     | cons d r =>
      have h1 : (1 : Int) < ((48 :: d :: r : List UInt8).length : Int) := by simp only [List.length_cons]; omega
      simp only [h1, and_self, and_true, true_and, decide_true, decide_false, if_true, if_false, Vc, Vd, Va, Vb, Ve, Option.bind_some, Bool.not_true, Bool.not_false, Bool.false_eq_true, Bool.true_eq_false, beq_self_eq_true, bne_self_eq_false, Int.toNat_natCast]
      simp
    ·have : ((c.toNat : Int) == 48) = false := by rw [beq_eq_false_iff_ne]; intro e; exact hd ((u8_eq (n := 48) (by omega)).mp (by omega))
     simp only [this, and_self, and_true, true_and, decide_true, decide_false, if_true, if_false, Vc, Vd, Va, Vb, Ve, Option.bind_some, Bool.not_true, Bool.not_false, Bool.false_eq_true, Bool.true_eq_false, beq_self_eq_true, bne_self_eq_false, Int.toNat_natCast]
     cases ha : (c :: r).all isDig <;> simp [hd]
theorem QcI : ∀ (r p : List UInt8) (a k : Nat), p.length + r.length ≤ 13 → r.length < k → a < 10 ^ p.length →
  QM.l5 NN k (ob (p ++ r)) (a : Int) (p.length : Int) = if r.all isDig = true then some (((valL r a : Nat) : Int), decide (ob (digs (valL r a)) = ob (p ++ r))) else some (0, false) := by
 intro r
 induction r with
 | nil =>
  intro p a k hb hk ha
  obtain ⟨k, rfl⟩ : ∃ j, k = j + 1 := ⟨k - 1, by omega⟩
  have h18 := Vfz (a := p.length) (by simp at hb; omega)
  rw [List.append_nil]
  have c1 : ¬ (p.length : Int) < (p.length : Int) := by omega
  simp only [QM.l5, QM.g5, Vk, c1, and_self, and_true, true_and, decide_true, decide_false, if_true, if_false, Vc, Vd, Va, Vb, Ve, Option.bind_some, Bool.not_true, Bool.not_false, Bool.false_eq_true, Bool.true_eq_false, beq_self_eq_true, bne_self_eq_false, Int.toNat_natCast, Qbt (show (0 : Int) ≤ (a : Int) by omega) (show (a : Int) ≤ 1000000000000000000 by omega), VaK, V3, List.all_nil, valL]
  rfl
 | cons c r ih =>
  intro p a k hb hk ha
  simp only [List.length_cons] at hb hk
  obtain ⟨k, rfl⟩ : ∃ j, k = j + 1 := ⟨k - 1, by omega⟩
  have h17 : (10 : Nat) ^ p.length ≤ 10 ^ 17 := Nat.pow_le_pow_right (by omega) (by omega)
  have e17 : (10 : Nat) ^ 17 = 100000000000000000 := by decide
  have c0 : (0 : Int) ≤ (p.length : Int) := by omega
  have hm := Vz p r c
  have c1 : (p.length : Int) < ((ob (p ++ c :: r)).size : Int) := by rw [Vk]; omega
  have cw := w64 (n := (p.length : Int) + 1) (by omega) (by omega)
  simp only [QM.l5, QM.g5, c0, c1, cw, and_self, and_true, true_and, decide_true, decide_false, if_true, if_false, Vc, Vd, Va, Vb, Ve, Option.bind_some, Bool.not_true, Bool.not_false, Bool.false_eq_true, Bool.true_eq_false, beq_self_eq_true, bne_self_eq_false, Int.toNat_natCast, List.all_cons]
  by_cases hd : isDig c = true
  ·have h2 := isDig_iff.1 hd
   have n1 : ¬ (c.toNat : Int) < 48 := by omega
   have n2 : ¬ (57 : Int) < (c.toNat : Int) := by omega
   have e1 := w64 (n := 10 * (a : Int)) (by omega) (by omega)
   have e2 := w64 (n := 10 * (a : Int) + ((c.toNat - 48 : Nat) : Int)) (by omega) (by omega)
   have := ih (p ++ [c]) (10 * a + (c.toNat - 48)) k (by simp; omega) (by omega) (by rw [List.length_append, List.length_singleton, Nat.pow_succ]; omega)
   rw [Vn, Vo, show ((10 * a + (c.toNat - 48) : Nat) : Int) = 10 * (a : Int) + ((c.toNat - 48 : Nat) : Int) by omega] at this
   simp only [n1, n2, and_self, and_true, true_and, decide_true, decide_false, if_true, if_false, Vc, Vd, Va, Vb, Ve, Option.bind_some, Bool.not_true, Bool.not_false, Bool.false_eq_true, Bool.true_eq_false, beq_self_eq_true, bne_self_eq_false, Int.toNat_natCast, Vfy hd, e1, e2, hd, this, valL]
   rfl
  ·have hd' : isDig c = false := by simpa using hd
   by_cases h1 : (c.toNat : Int) < 48
   ·simp [h1, hd']
   ·have h3 : (57 : Int) < (c.toNat : Int) := by
     have : ¬ (48 ≤ c.toNat ∧ c.toNat ≤ 57) := fun e => hd (isDig_iff.2 e)
     omega
    simp [h1, h3, hd']
def rdV (s : ByteArray) : Int × Bool := if 1 ≤ s.size ∧ s.size ≤ 13 ∧ (bl s).all isDig = true then (((valL (bl s) 0 : Nat) : Int), decide (digs (valL (bl s) 0) = bl s)) else (0, false)
theorem QbX (s : ByteArray) (hs : s.size ≤ 1000000) : QM.f s = some (rdV s) := by
 unfold QM.f QM.fn QM.top rdV
 by_cases h1 : (s.size : Int) < 1
 ·have : ¬ 1 ≤ s.size := by omega
  simp [h1, this]
 ·by_cases h13 : (13 : Int) < (s.size : Int)
  ·have : ¬ s.size ≤ 13 := by omega
   simp [h1, h13, this]
  ·have e1 : 1 ≤ s.size := by omega
   have e2 : s.size ≤ 13 := by omega
   have := QcI (bl s) [] 0 NN (by simpa [VI] using e2) (by rw [VI]; exact NN_lt (by omega)) (by simp)
   simp only [List.nil_append, ob_bl, List.length_nil] at this
   rw [show ((0 : Nat) : Int) = 0 from rfl] at this
   simp only [h1, h13, this, e1, e2, and_self, and_true, true_and, decide_true, decide_false, if_true, if_false, Vc, Vd, Va, Vb, Ve, Option.bind_some, Bool.not_true, Bool.not_false, Bool.false_eq_true, Bool.true_eq_false, beq_self_eq_true, bne_self_eq_false, Int.toNat_natCast]
   have e3 : decide (ob (digs (valL (bl s) 0)) = s) = decide (digs (valL (bl s) 0) = bl s) := by
    congr 1
    exact propext ⟨fun h => by have := congrArg bl h; rwa [bl_ob] at this, fun h => by rw [h, ob_bl]⟩
   cases ha : (bl s).all isDig
   ·simp
   ·simp only [if_true]
    congr 2
theorem Vi5 {s : ByteArray} (h : (rdV s).2 = true) : rdD s = rdV s := by
 unfold rdV at h ⊢
 split at h
 ·rename_i hc
  rw [if_pos hc]
  obtain ⟨h1, h2, h3⟩ := hc
  simp only [decide_eq_true_eq] at h
  have hne : bl s ≠ [] := by intro e; have := VI s; rw [e] at this; simp at this; omega
  obtain ⟨c, r, e⟩ : ∃ c r, bl s = c :: r := by
   cases hb : bl s with
   | nil => exact absurd hb hne
   | cons c r => exact ⟨c, r, rfl⟩
  have hd : isDig c = true := by rw [e] at h3; simp at h3; exact h3.1
  have hdi := isDig_iff.1 hd
  have h45 : ¬ (bl s).head? = some 45 := by
   rw [e]; simp only [List.head?_cons, Option.some.injEq]
   intro hc; subst hc
   have : (45 : UInt8).toNat = 45 := rfl
   omega
  have hz : (bl s).head? ≠ some 48 ∨ ((bl s).length = 1 ∧ false = false) := by
   by_cases hv : valL (bl s) 0 = 0
   ·right
    rw [hv, VD (by omega)] at h
    rw [← h]; exact ⟨rfl, rfl⟩
   ·left
    intro hh
    rw [← h] at hh
    exact VeJ hv 48 hh rfl
  have hok : VU (bl s) 18 false = true := by
   unfold VU
   rw [h3, Bool.and_true]
   exact decide_eq_true ⟨hne, by rw [VI]; omega, hz⟩
  unfold rdD
  rw [if_neg h45, if_pos hok, decide_eq_true h]
 ·cases h
end Go.Pl

namespace Go.Pl
open Go.Ev
set_option linter.unusedVariables false
set_option linter.unusedSimpArgs false
noncomputable def numI (s : ByteArray) : Option Int := if (rdV s).2 = true then some (rdV s).1 else none
noncomputable def numJ (s : ByteArray) : Option Int := if (bl s).head? = some 45 then (match numI (ob (bl s).tail) with | some n => if 0 < n then some (-n) else none | none => none) else numI s
theorem Vd0 {s : ByteArray} (h : (rdV s).2 = true) : 1 ≤ s.size ∧ s.size ≤ 13 ∧ (bl s).all isDig = true ∧ digs (valL (bl s) 0) = bl s ∧ (rdV s).1 = ((valL (bl s) 0 : Nat) : Int) := by
 unfold rdV at h ⊢
 split at h
 ·rename_i h1
  rw [if_pos h1]
  exact ⟨h1.1, h1.2.1, h1.2.2, by simpa using h, rfl⟩
 ·simp at h
theorem VhC {s : ByteArray} (h1 : 1 ≤ s.size) (h2 : s.size ≤ 13) (h3 : (bl s).all isDig = true) (h4 : digs (valL (bl s) 0) = bl s) : rdV s = (((valL (bl s) 0 : Nat) : Int), true) := by
 unfold rdV
 rw [if_pos ⟨h1, h2, h3⟩, h4]; simp
theorem okDigs_iff {l : List UInt8} {m : Nat} {neg : Bool} : VU l m neg = true ↔ (l ≠ [] ∧ l.length ≤ m ∧ (l.head? ≠ some 48 ∨ (l.length = 1 ∧ neg = false))) ∧ l.all isDig = true := by
 unfold VU; simp only [Bool.and_eq_true, decide_eq_true_eq]
theorem Vgj {s : ByteArray} (h : (bl s).head? ≠ some 45) : rdD s = if VU (bl s) 18 false then (((valL (bl s) 0 : Nat) : Int), true) else (0, false) := by
 unfold rdD; rw [if_neg h]
theorem Vgk {s : ByteArray} (h : (bl s).head? = some 45) : rdD s = if VU (bl s).tail 18 true then (-((valL (bl s).tail 0 : Nat) : Int), true) else (0, false) := by
 unfold rdD; rw [if_pos h]
theorem Vcg {l : List UInt8} {m : Nat} {neg : Bool} (h : VU l m neg = true) : digs (valL l 0) = l := by
 obtain ⟨⟨h1, h2, h3⟩, h4⟩ := okDigs_iff.1 h
 refine VhA l h1 (fun c hc => List.all_eq_true.1 h4 c hc) ?_
 rcases h3 with h3 | h3
 ·exact .inr h3
 ·exact .inl h3.1
theorem Vb6 {l : List UInt8} {m : Nat} (h : VU l m true = true) : 0 < valL l 0 := by
 have hv := Vcg h
 obtain ⟨⟨h1, h2, h3⟩, h4⟩ := okDigs_iff.1 h
 rcases Nat.eq_zero_or_pos (valL l 0) with h0 | h0
 ·rw [h0, VD (by omega)] at hv
  rcases h3 with h3 | h3
  ·exact absurd (by rw [← hv]; rfl) h3
  ·exact absurd h3.2 (by decide)
 ·exact h0
theorem Ven (s : ByteArray) : s.size = (bl s).length := (VI s).symm
theorem Vgl (s : ByteArray) : numI s = if (rdD s).2 = true ∧ 0 ≤ (rdD s).1 ∧ s.size ≤ 13 then some (rdD s).1 else none := by
 unfold numI
 by_cases h : (rdV s).2 = true
 ·obtain ⟨h1, h2, h3, h4, h5⟩ := Vd0 h
  have e := Vi5 h
  rw [if_pos h, e, if_pos ⟨h, by rw [h5]; omega, h2⟩]
 ·rw [if_neg h]
  by_cases q : (rdD s).2 = true ∧ 0 ≤ (rdD s).1 ∧ s.size ≤ 13
  ·exfalso
   obtain ⟨q1, q2, q3⟩ := q
   by_cases hh : (bl s).head? = some 45
   ·have e := Vgk hh
    by_cases ho : VU (bl s).tail 18 true = true
    ·rw [if_pos ho] at e
     have := Vb6 ho
     rw [e] at q2
     simp only at q2; omega
    ·rw [if_neg ho] at e
     rw [e] at q1; simp at q1
   ·have e := Vgj hh
    by_cases ho : VU (bl s) 18 false = true
    ·obtain ⟨⟨o1, o2, o3⟩, o4⟩ := okDigs_iff.1 ho
     have hl : 1 ≤ (bl s).length := List.length_pos_iff.2 o1
     have := VhC (s := s) (by rw [Ven]; exact hl) q3 o4 (Vcg ho)
     rw [this] at h; simp at h
    ·rw [if_neg ho] at e
     rw [e] at q1; simp at q1
  ·rw [if_neg q]
theorem Vi6 (s : ByteArray) : numJ s = if (rdD s).2 = true ∧ ((rdD s).1 < 0 → s.size ≤ 14) ∧ (0 ≤ (rdD s).1 → s.size ≤ 13) then some (rdD s).1 else none := by
 unfold numJ
 by_cases hh : (bl s).head? = some 45
 ·rw [if_pos hh]
  have hs : s.size = (bl s).tail.length + 1 := by
   rw [Ven]
   cases hb : bl s with
   | nil => rw [hb] at hh; simp at hh
   | cons a r => simp
  have e := Vgk hh
  by_cases ho : VU (bl s).tail 18 true = true
  ·have hp := Vb6 ho
   have hv := Vcg ho
   obtain ⟨⟨o1, o2, o3⟩, o4⟩ := okDigs_iff.1 ho
   have hl : 1 ≤ (bl s).tail.length := List.length_pos_iff.2 o1
   rw [if_pos ho] at e
   rw [e]
   by_cases h13 : (bl s).tail.length ≤ 13
   ·have hm := VhC (s := ob (bl s).tail) (by rw [Vk]; exact hl) (by rw [Vk]; exact h13) (by rw [bl_ob]; exact o4) (by rw [bl_ob]; exact hv)
    rw [bl_ob] at hm
    have hn : numI (ob (bl s).tail) = some ((valL (bl s).tail 0 : Nat) : Int) := by unfold numI; rw [hm]; rfl
    rw [hn, if_pos ⟨rfl, fun _ => by omega, fun h => by simp only at h; omega⟩]
    simp only
    rw [if_pos (by omega)]
   ·have hn : numI (ob (bl s).tail) = none := by
     unfold numI rdV
     rw [Vk]
     have hq : ¬ (1 ≤ (bl s).tail.length ∧ (bl s).tail.length ≤ 13 ∧ (bl (ob (bl s).tail)).all isDig = true) := fun h => by omega
     rw [if_neg hq]; rfl
    rw [hn, if_neg]
    rintro ⟨_, h, _⟩
    have := h (show -((valL (bl s).tail 0 : Nat) : Int) < 0 by omega)
    omega
  ·rw [if_neg ho] at e
   rw [e, if_neg (by simp)]
   cases hn : numI (ob (bl s).tail) with
   | none => rfl
   | some n =>
    simp only
    by_cases h0 : 0 < n
    ·exfalso
     unfold numI at hn
     split at hn
     ·rename_i hr
      obtain ⟨r1, r2, r3, r4, r5⟩ := Vd0 hr
      rw [Vk] at r1 r2
      rw [bl_ob] at r3 r4 r5
      have hn' := Option.some.inj hn
      have hval : valL (bl s).tail 0 ≠ 0 := by
       intro h; rw [h] at r5; omega
      apply ho
      refine okDigs_iff.2 ⟨⟨List.length_pos_iff.1 r1, by omega, .inl ?_⟩, r3⟩
      intro hc
      have := VeJ hval 48 (by rw [r4]; exact hc)
      exact this rfl
     ·cases hn
    ·rw [if_neg h0]
 ·rw [if_neg hh, Vgl]
  have hn0 : 0 ≤ (rdD s).1 := by
   rw [Vgj hh]
   split <;> simp only <;> omega
  by_cases q : (rdD s).2 = true ∧ 0 ≤ (rdD s).1 ∧ s.size ≤ 13
  ·rw [if_pos q, if_pos ⟨q.1, fun h => by omega, fun _ => q.2.2⟩]
  ·rw [if_neg q, if_neg]
   rintro ⟨a, b, c⟩
   exact q ⟨a, hn0, c hn0⟩
theorem Vgm {s : ByteArray} {n : Int} (h : numI s = some n) : 0 ≤ n ∧ n ≤ 10000000000000 := by
 unfold numI at h
 split at h
 ·rename_i hr
  obtain ⟨r1, r2, r3, r4, r5⟩ := Vd0 hr
  rw [← Option.some.inj h, r5]
  have hl := Vi3 (bl s) 0 (fun c hc => List.all_eq_true.1 r3 c hc)
  have hp : (10 : Nat) ^ (bl s).length ≤ 10 ^ 13 := Nat.pow_le_pow_right (by omega) (by rw [← Ven]; exact r2)
  have e : (10 : Nat) ^ 13 = 10000000000000 := by decide
  omega
 ·cases h
theorem Qcz (s : ByteArray) (hs : s.size ≤ 1000000) : ∃ n b, QaG.f s = some (n, b) ∧ numJ s = if b = true then some n else none := by
 revert hs
 refine Vhw (P := fun s => s.size ≤ 1000000 → ∃ n b, QaG.f s = some (n, b) ∧ numJ s = if b = true then some n else none) ?_ s
 intro l hs
 unfold QaG.f QaG.fn QaG.top numJ
 rw [bl_ob]
 cases l with
 | nil =>
  rw [if_neg (by simp [Vk]), QbX _ hs]
  exact ⟨(rdV (ob [])).1, (rdV (ob [])).2, rfl, by rw [if_neg (by simp)]; rfl⟩
 | cons a r =>
  rw [Vk] at hs
  simp only [List.length_cons] at hs
  rw [if_pos (by simp [Vk] <;> omega), if_pos ⟨by omega, by simp [Vk] <;> omega⟩]
  have e0 : bt (ob (a :: r)) 0 = (a.toNat : Int) := rfl
  rw [e0]
  by_cases h : a = 45
  ·subst h
   have ex : (ob (45 :: r)).extract (1 : Int).toNat (ob (45 :: r)).size = ob r := by
    apply Vfq
    rw [bl_ob, Vk]
    simp [bl, ob]
   have e1 : ((((45 : UInt8).toNat : Int) == 45) = true) := by decide
   rw [if_pos e1, if_pos ⟨by omega, by simp [Vk] <;> omega⟩, ex, QbX _ (by rw [Vk]; omega), Option.bind_some, if_pos (show ((45 : UInt8) :: r).head? = some 45 from rfl)]
   simp only [List.tail_cons]
   unfold numI
   by_cases hr : (rdV (ob r)).2 = true
   ·obtain ⟨r1, r2, r3, r4, r5⟩ := Vd0 hr
    have hb := Vgm (s := ob r) (n := (rdV (ob r)).1) (by unfold numI; rw [if_pos hr])
    have w := w64 (n := 0 - (rdV (ob r)).1) (by omega) (by omega)
    rw [if_pos hr, if_pos hr, w]
    refine ⟨_, _, rfl, ?_⟩
    simp only [decide_eq_true_eq]
    rw [show 0 - (rdV (ob r)).1 = -(rdV (ob r)).1 by omega]
   ·rw [if_neg hr, if_neg hr]
    exact ⟨_, _, rfl, by simp⟩
  ·have e1 : ¬ ((a.toNat : Int) == 45) = true := by
    intro q
    apply h
    have : (a.toNat : Int) = 45 := by simpa using q
    apply UInt8.toNat.inj
    show a.toNat = 45
    omega
   rw [if_neg e1, QbX _ (by rw [Vk]; simp; omega), if_neg (by simpa using h)]
   exact ⟨_, _, rfl, rfl⟩
end Go.Pl

namespace Go.Pl
open Go.Ev
set_option linter.unusedVariables false
set_option linter.unusedSimpArgs false
def joinF (sep : ByteArray) (i : Nat) (out s : ByteArray) : ByteArray := if 0 < i then (out ++ sep) ++ s else out ++ s
def joinB (sep : ByteArray) (xs : List ByteArray) : ByteArray := foldi (joinF sep) 0 ⟨#[]⟩ xs
theorem QcJ (xs : List ByteArray) (sep : ByteArray) (hx : ∀ s ∈ xs, s.size ≤ 1000000) (hl : xs.length ≤ 1000000) (hs : sep.size ≤ 1000000) : QZ.f xs sep = some (joinB sep xs) ∧ (joinB sep xs).size ≤ 2000000 * xs.length := by
 have := VT (E := fun s : ByteArray => s.size ≤ 1000000) (fun p st => st.size ≤ 2000000 * p.length) (joinF sep) some (fun k i st => QZ.l3 NN k sep st xs xs.length i) xs ?_ ?_ (⟨#[]⟩ : ByteArray) hx (by simp; rfl) (by omega) NN (NN_lt (by omega))
 ·exact ⟨this.2, this.1⟩
 ·intro k st _
  simp [QZ.l3, QZ.g3]
 ·intro k p b r st hxs hb hI c0 c1 c2 cw g
  have z1 : (st ++ sep).size = st.size + sep.size := ByteArray.size_append
  have z2 : (st ++ sep ++ b).size = st.size + sep.size + b.size := by rw [ByteArray.size_append, z1]
  have z3 : (st ++ b).size = st.size + b.size := ByteArray.size_append
  have hp : p.length ≤ 1000000 := by omega
  refine ⟨?_, ?_⟩
  ·unfold joinF; rw [List.length_append, List.length_singleton]; split <;> omega
  ·have d1 : st.size + sep.size ≤ 9223372036854775807 := by omega
   have d2 : (st ++ sep).size + b.size ≤ 9223372036854775807 := by omega
   have d3 : st.size + b.size ≤ 9223372036854775807 := by omega
   simp only [QZ.l3, QZ.g3, c0, c1, cw, and_self, and_true, true_and, decide_true, decide_false, if_true, if_false, Vc, Vd, Va, Vb, Ve, Option.bind_some, Bool.not_true, Bool.not_false, Bool.false_eq_true, Bool.true_eq_false, beq_self_eq_true, bne_self_eq_false, Int.toNat_natCast, g, d1, d2, d3, decide_eq_true_eq]
   unfold joinF
   by_cases h : 0 < p.length
   ·have : (0 : Int) < (p.length : Int) := by omega
    simp [h, this]
   ·have : ¬ (0 : Int) < (p.length : Int) := by omega
    simp [h, this]
theorem QcK (xs : List ByteArray) (sep : ByteArray) (hx : ∀ s ∈ xs, s.size ≤ 1000000) (hl : xs.length ≤ 1000000) (hs : sep.size ≤ 1000000) : Q3.f xs sep = some (joinB sep xs) ∧ (joinB sep xs).size ≤ 2000000 * xs.length := by
 have := VT (E := fun s : ByteArray => s.size ≤ 1000000) (fun p st => st.size ≤ 2000000 * p.length) (joinF sep) some (fun k i st => Q3.l3 NN k xs sep st i) xs ?_ ?_ (⟨#[]⟩ : ByteArray) hx (by simp; rfl) (by omega) NN (NN_lt (by omega))
 ·exact ⟨this.2, this.1⟩
 ·intro k st _
  simp [Q3.l3, Q3.g3]
 ·intro k p b r st hxs hb hI c0 c1 c2 cw g
  have z1 : (st ++ sep).size = st.size + sep.size := ByteArray.size_append
  have z2 : (st ++ sep ++ b).size = st.size + sep.size + b.size := by rw [ByteArray.size_append, z1]
  have z3 : (st ++ b).size = st.size + b.size := ByteArray.size_append
  have hp : p.length ≤ 1000000 := by omega
  refine ⟨?_, ?_⟩
  ·unfold joinF; rw [List.length_append, List.length_singleton]; split <;> omega
  ·have d1 : st.size + sep.size ≤ 9223372036854775807 := by omega
   have d2 : (st ++ sep).size + b.size ≤ 9223372036854775807 := by omega
   have d3 : st.size + b.size ≤ 9223372036854775807 := by omega
   simp only [Q3.l3, Q3.g3, c0, c1, cw, and_self, and_true, true_and, decide_true, decide_false, if_true, if_false, Vc, Vd, Va, Vb, Ve, Option.bind_some, Bool.not_true, Bool.not_false, Bool.false_eq_true, Bool.true_eq_false, beq_self_eq_true, bne_self_eq_false, Int.toNat_natCast, g, d1, d2, d3, decide_eq_true_eq]
   unfold joinF
   by_cases h : 0 < p.length
   ·have : (0 : Int) < (p.length : Int) := by omega
    simp [h, this]
   ·have : ¬ (0 : Int) < (p.length : Int) := by omega
    simp [h, this]
end Go.Pl

namespace Go.Pl
open Go.Ev
set_option linter.unusedVariables false
set_option linter.unusedSimpArgs false
def glue (p : List UInt8) : List (List UInt8) → List (List UInt8)
 | [] => [p]
 | x :: xs => (p ++ x) :: xs
def Vp (b : UInt8) : List UInt8 → List (List UInt8)
 | [] => [[]]
 | c :: r => if c = b then [] :: Vp b r else glue [c] (Vp b r)
theorem Vae (b : UInt8) (l : List UInt8) : Vp b l ≠ [] := by
  cases l with
  | nil => simp [Vp]
  | cons c r => simp only [Vp]; split
                · simp
                · cases Vp b r <;> simp [glue]
theorem Vch {x : List (List UInt8)} (h : x ≠ []) : glue [] x = x := by
 cases x with
 | nil => exact absurd rfl h
 | cons => rfl
theorem VeK (p q : List UInt8) (x : List (List UInt8)) : glue p (glue q x) = glue (p ++ q) x := by
 cases x <;> simp [glue]
theorem Vbj (b : UInt8) (l : List UInt8) : (Vp b l).length ≤ l.length + 1 := by
 induction l with
 | nil => simp [Vp]
 | cons c r ih =>
  simp only [Vp]
  split
  ·simp; omega
  ·cases e : Vp b r with
   | nil => simp [glue]
   | cons y ys => rw [e] at ih; simp [glue] at ih ⊢; omega
theorem Vbq {α : Type} (out : List α) (x : α) (h : out.length ≤ 2000000) : out.length + [x].length < room 16 := by rw [VdZ]; simp; omega
theorem VcU (q t r : List UInt8) : (ob (q ++ t ++ r)).extract q.length (q ++ t).length = ob t := by
 rw [VdY, List.take_left' rfl, List.drop_left' rfl]
theorem Qc1 (b : UInt8) : ∀ (r q t : List UInt8) (out : List ByteArray) (k : Nat), (q ++ t).length + r.length ≤ 1000000 → r.length < k → out.length ≤ (q ++ t).length →
  Q0.l4 NN k (ob (q ++ t ++ r)) (b.toNat : Int) (q.length : Int) ((q ++ t).length : Int) out = some (out ++ (glue t (Vp b r)).map ob) := by
 intro r
 induction r with
 | nil =>
  intro q t out k hb hk ho
  obtain ⟨k, rfl⟩ : ∃ j, k = j + 1 := ⟨k - 1, by omega⟩
  have hb' : q.length + t.length ≤ 1000000 := by simpa using hb
  rw [List.append_nil]
  have c1 : ¬ ((q ++ t).length : Int) < ((ob (q ++ t)).size : Int) := by rw [Vk]; omega
  have c2 : (0 : Int) ≤ (q.length : Int) := by omega
  have c3 : (q.length : Int) ≤ ((ob (q ++ t)).size : Int) := by rw [Vk, List.length_append]; omega
  have e : (ob (q ++ t)).extract q.length (ob (q ++ t)).size = ob t := by
   have := VcU q t []
   rw [List.append_nil] at this
   rw [Vk]; exact this
  simp only [Q0.l4, Q0.g4, c1, c2, c3, and_self, and_true, true_and, decide_true, decide_false, if_true, if_false, Vc, Vd, Va, Vb, Ve, Option.bind_some, Bool.not_true, Bool.not_false, Bool.false_eq_true, Bool.true_eq_false, beq_self_eq_true, bne_self_eq_false, Int.toNat_natCast, e]
  rw [if_pos (Vbq _ _ (by simp at ho; omega))]
  simp [Vp, glue]
 | cons c r ih =>
  intro q t out k hb hk ho
  simp only [List.length_cons] at hb hk
  obtain ⟨k, rfl⟩ : ∃ j, k = j + 1 := ⟨k - 1, by omega⟩
  have hm := Vz (q ++ t) r c
  have c0 : (0 : Int) ≤ ((q ++ t).length : Int) := by omega
  have c1 : ((q ++ t).length : Int) < ((ob (q ++ t ++ c :: r)).size : Int) := by rw [Vk]; omega
  have c2 : (0 : Int) ≤ (q.length : Int) := by omega
  have c3 : (q.length : Int) ≤ ((q ++ t).length : Int) := by rw [List.length_append]; omega
  have c4 : ((q ++ t).length : Int) ≤ ((ob (q ++ t ++ c :: r)).size : Int) := by rw [Vk]; omega
  have cw := w64 (n := ((q ++ t).length : Int) + 1) (by omega) (by omega)
  simp only [Q0.l4, Q0.g4, c0, c1, c2, c3, c4, cw, and_self, and_true, true_and, decide_true, decide_false, if_true, if_false, Vc, Vd, Va, Vb, Ve, Option.bind_some, Bool.not_true, Bool.not_false, Bool.false_eq_true, Bool.true_eq_false, beq_self_eq_true, bne_self_eq_false, Int.toNat_natCast]
  by_cases hc : c = b
  ·subst hc
   simp only [and_self, and_true, true_and, decide_true, decide_false, if_true, if_false, Vc, Vd, Va, Vb, Ve, Option.bind_some, Bool.not_true, Bool.not_false, Bool.false_eq_true, Bool.true_eq_false, beq_self_eq_true, bne_self_eq_false, Int.toNat_natCast]
   rw [if_pos (Vbq _ _ (by rw [List.length_append] at ho hb; omega)), VcU]
   have := ih (q ++ t ++ [c]) [] (out ++ [ob t]) k (by simp at hb ⊢; omega) (by omega) (by simp at ho ⊢; omega)
   rw [List.append_nil, show (q ++ t ++ [c]) ++ r = q ++ t ++ c :: r by simp, Vo] at this
   rw [this, Vch (Vae c r)]
   simp [Vp, glue]
  ·have hne : (((c.toNat : Int)) == (b.toNat : Int)) = false := by
    rw [beq_eq_false_iff_ne]; intro e; exact hc (UInt8.toNat_inj.mp (by omega))
   simp only [hne, and_self, and_true, true_and, decide_true, decide_false, if_true, if_false, Vc, Vd, Va, Vb, Ve, Option.bind_some, Bool.not_true, Bool.not_false, Bool.false_eq_true, Bool.true_eq_false, beq_self_eq_true, bne_self_eq_false, Int.toNat_natCast]
   have := ih q (t ++ [c]) out k (by simp at hb ⊢; omega) (by omega) (by simp at ho ⊢; omega)
   rw [show q ++ (t ++ [c]) ++ r = q ++ t ++ c :: r by simp, show ((q ++ (t ++ [c])).length : Int) = ((q ++ t).length : Int) + 1 by simp; omega] at this
   rw [this]
   simp only [Vp, if_neg hc, VeK]
theorem Qck (s : ByteArray) (b : UInt8) (hs : s.size ≤ 1000000) : Q0.f s (b.toNat : Int) = some ((Vp b (bl s)).map ob) := by
 have := Qc1 b (bl s) [] [] [] NN (by simp [VI]; exact hs) (by rw [VI]; exact NN_lt (by omega)) (by simp)
 unfold Q0.f Q0.fn Q0.top
 simp only [List.nil_append, ob_bl, List.length_nil] at this
 rw [Vch (Vae _ _)] at this
 exact this
theorem QcL (b : UInt8) : ∀ (r q t : List UInt8) (out : List ByteArray) (k : Nat), (q ++ t).length + r.length ≤ 1000000 → r.length + 1 < k → out.length ≤ (q ++ t).length →
  QQ.l4 NN k (ob (q ++ t ++ r)) (b.toNat : Int) (q.length : Int) ((q ++ t).length : Int) out = some (out ++ (glue t (Vp b r)).map ob) := by
 intro r
 induction r with
 | nil =>
  intro q t out k hb hk ho
  obtain ⟨k, rfl⟩ : ∃ j, k = j + 1 + 1 := ⟨k - 2, by simp at hk; omega⟩
  have hb' : q.length + t.length ≤ 1000000 := by simpa using hb
  have c1 : ((q ++ t).length : Int) ≤ ((ob (q ++ t ++ [])).size : Int) := by rw [Vk, List.append_nil]; omega
  have c1e : (((q ++ t).length : Int) == ((ob (q ++ t ++ [])).size : Int)) = true := by rw [Vk, List.append_nil]; simp
  have c2 : (0 : Int) ≤ (q.length : Int) := by omega
  have c3 : (q.length : Int) ≤ ((q ++ t).length : Int) := by rw [List.length_append]; omega
  have cw := w64 (n := ((q ++ t).length : Int) + 1) (by omega) (by omega)
  have c4 : ¬ ((q ++ t).length : Int) + 1 ≤ ((ob (q ++ t ++ [])).size : Int) := by rw [Vk, List.append_nil]; omega
  simp only [QQ.l4, QQ.g4, c1, c1e, c2, c3, c4, cw, and_self, and_true, true_and, decide_true, decide_false, if_true, if_false, Vc, Vd, Va, Vb, Ve, Option.bind_some, Bool.not_true, Bool.not_false, Bool.false_eq_true, Bool.true_eq_false, beq_self_eq_true, bne_self_eq_false, Int.toNat_natCast, VcU]
  rw [if_pos (Vbq _ _ (by simp at ho; omega))]
  simp [Vp, glue]
 | cons c r ih =>
  intro q t out k hb hk ho
  simp only [List.length_cons] at hb hk
  obtain ⟨k, rfl⟩ : ∃ j, k = j + 1 := ⟨k - 1, by omega⟩
  have hm := Vz (q ++ t) r c
  have c0 : (0 : Int) ≤ ((q ++ t).length : Int) := by omega
  have c1 : ((q ++ t).length : Int) < ((ob (q ++ t ++ c :: r)).size : Int) := by rw [Vk]; omega
  have c2 : (0 : Int) ≤ (q.length : Int) := by omega
  have c3 : (q.length : Int) ≤ ((q ++ t).length : Int) := by rw [List.length_append]; omega
  have c4 : ((q ++ t).length : Int) ≤ ((ob (q ++ t ++ c :: r)).size : Int) := by rw [Vk]; omega
  have c5 : (((q ++ t).length : Int) == ((ob (q ++ t ++ c :: r)).size : Int)) = false := by rw [beq_eq_false_iff_ne]; omega
  have cw := w64 (n := ((q ++ t).length : Int) + 1) (by omega) (by omega)
  simp only [QQ.l4, QQ.g4, c0, c1, c2, c3, c4, c5, cw, and_self, and_true, true_and, decide_true, decide_false, if_true, if_false, Vc, Vd, Va, Vb, Ve, Option.bind_some, Bool.not_true, Bool.not_false, Bool.false_eq_true, Bool.true_eq_false, beq_self_eq_true, bne_self_eq_false, Int.toNat_natCast]
  by_cases hc : c = b
  ·subst hc
   simp only [and_self, and_true, true_and, decide_true, decide_false, if_true, if_false, Vc, Vd, Va, Vb, Ve, Option.bind_some, Bool.not_true, Bool.not_false, Bool.false_eq_true, Bool.true_eq_false, beq_self_eq_true, bne_self_eq_false, Int.toNat_natCast]
   rw [if_pos (Vbq _ _ (by rw [List.length_append] at ho hb; omega)), VcU]
   have := ih (q ++ t ++ [c]) [] (out ++ [ob t]) k (by simp at hb ⊢; omega) (by omega) (by simp at ho ⊢; omega)
   rw [List.append_nil, show (q ++ t ++ [c]) ++ r = q ++ t ++ c :: r by simp, Vo] at this
   rw [this, Vch (Vae c r)]
   simp [Vp, glue]
  ·have hne : (((c.toNat : Int)) == (b.toNat : Int)) = false := by
    rw [beq_eq_false_iff_ne]; intro e; exact hc (UInt8.toNat_inj.mp (by omega))
   simp only [hne, and_self, and_true, true_and, decide_true, decide_false, if_true, if_false, Vc, Vd, Va, Vb, Ve, Option.bind_some, Bool.not_true, Bool.not_false, Bool.false_eq_true, Bool.true_eq_false, beq_self_eq_true, bne_self_eq_false, Int.toNat_natCast]
   have := ih q (t ++ [c]) out k (by simp at hb ⊢; omega) (by omega) (by simp at ho ⊢; omega)
   rw [show q ++ (t ++ [c]) ++ r = q ++ t ++ c :: r by simp, show ((q ++ (t ++ [c])).length : Int) = ((q ++ t).length : Int) + 1 by simp; omega] at this
   rw [this]
   simp only [Vp, if_neg hc, VeK]
theorem Qcg (s : ByteArray) (b : UInt8) (hs : s.size ≤ 1000000) : QQ.f s (b.toNat : Int) = some ((Vp b (bl s)).map ob) := by
 have := QcL b (bl s) [] [] [] NN (by simp [VI]; exact hs) (by rw [VI]; exact NN_lt (by omega)) (by simp)
 unfold QQ.f QQ.fn QQ.top
 simp only [List.nil_append, ob_bl, List.length_nil] at this
 rw [Vch (Vae _ _)] at this
 exact this
theorem Vdc (b : UInt8) (l : List UInt8) : ∀ x ∈ Vp b l, x.length ≤ l.length := by
 induction l with
 | nil => simp [Vp]
 | cons c r ih =>
  simp only [Vp]
  split
  ·intro x hx
   rcases List.mem_cons.1 hx with rfl | hx
   ·simp
   ·have := ih x hx; simp; omega
  ·intro x hx
   cases e : Vp b r with
   | nil => exact absurd e (Vae b r)
   | cons y ys =>
    rw [e] at hx ih
    rcases List.mem_cons.1 hx with rfl | hx
    ·have := ih y (by simp); simp; omega
    ·have := ih x (by simp [hx]); simp; omega
end Go.Pl

namespace Go.Pl
open Go.Ev
set_option linter.unusedVariables false
set_option linter.unusedSimpArgs false
def Vaz : ByteArray := ⟨#[112, 101, 111, 112, 108, 101]⟩
def Vbe : ByteArray := ⟨#[99, 108, 101, 97, 114]⟩
def Vaj : ByteArray := ⟨#[115, 105, 103, 110, 97, 108]⟩
def Vbf : ByteArray := ⟨#[115, 116, 97, 116, 101]⟩
def wFire : ByteArray := ⟨#[102, 105, 114, 101]⟩
def VaA : ByteArray := ⟨#[115, 101, 116, 116, 108, 101]⟩
def wTop : ByteArray := ⟨#[116, 111, 112]⟩
def wTime : ByteArray := ⟨#[116, 105, 109, 101]⟩
def wBook : ByteArray := ⟨#[98, 111, 111, 107]⟩
def wLeft : ByteArray := ⟨#[108, 101, 102, 116]⟩
def wOpen : ByteArray := ⟨#[111, 112, 101, 110]⟩
def wNeed : ByteArray := ⟨#[110, 101, 101, 100]⟩
def shpL (w : ByteArray) : Option (List UInt8) :=
 if w = Vaz then some [116, 105, 106]
 else if w = Vbe then some [116, 105]
 else if w = Vaj then some [116, 105]
 else if w = Vbf then some [105]
 else if w = wFire then some [105]
 else if w = VaA then some [105]
 else if w = wTop then some [105]
 else if w = wTime then some [105]
 else if w = wBook then some [116, 116, 105]
 else if w = wLeft then some [116]
 else if w = wOpen then some []
 else if w = wNeed then some [105, 105]
 else none
def upK (c : UInt8) : UInt8 := if c = 116 then 84 else if c = 105 then 73 else 74
theorem nbeq {a b : ByteArray} (h : ¬ a = b) : (a.toList == b.toList) = false := by rw [V3]; simpa using h
theorem VbV (w : ByteArray) : (w = Vaz ∨ w = Vbe ∨ w = Vaj ∨ w = Vbf ∨ w = wFire ∨ w = VaA ∨ w = wTop ∨ w = wTime ∨ w = wBook ∨ w = wLeft ∨ w = wOpen ∨ w = wNeed) ∨ (shpL w = none ∧ Qas.f w = some (⟨#[]⟩, false) ∧ QaZ.f w = some ⟨#[45]⟩) := by
 by_cases h1 : w = Vaz
 ·simp [h1]
 by_cases h2 : w = Vbe
 ·simp [h2]
 by_cases h3 : w = Vaj
 ·simp [h3]
 by_cases h4 : w = Vbf
 ·simp [h4]
 by_cases h5 : w = wFire
 ·simp [h5]
 by_cases h6 : w = VaA
 ·simp [h6]
 by_cases h7 : w = wTop
 ·simp [h7]
 by_cases h8 : w = wTime
 ·simp [h8]
 by_cases h9 : w = wBook
 ·simp [h9]
 by_cases h10 : w = wLeft
 ·simp [h10]
 by_cases h11 : w = wOpen
 ·simp [h11]
 by_cases h12 : w = wNeed
 ·simp [h12]
 right
 have b1 := nbeq h1
 have b2 := nbeq h2
 have b3 := nbeq h3
 have b4 := nbeq h4
 have b5 := nbeq h5
 have b6 := nbeq h6
 have b7 := nbeq h7
 have b8 := nbeq h8
 have b9 := nbeq h9
 have b10 := nbeq h10
 have b11 := nbeq h11
 have b12 := nbeq h12
 unfold Vaz at b1
 unfold Vbe at b2
 unfold Vaj at b3
 unfold Vbf at b4
 unfold wFire at b5
 unfold VaA at b6
 unfold wTop at b7
 unfold wTime at b8
 unfold wBook at b9
 unfold wLeft at b10
 unfold wOpen at b11
 unfold wNeed at b12
 refine ⟨?_, ?_, ?_⟩
 ·unfold shpL
  rw [if_neg h1, if_neg h2, if_neg h3, if_neg h4, if_neg h5, if_neg h6, if_neg h7, if_neg h8, if_neg h9, if_neg h10, if_neg h11, if_neg h12]
 ·unfold Qas.f Qas.fn Qas.top
  simp only [b1, b2, b3, b4, b5, b6, b7, b8, b9, b10, b11, b12, Bool.false_eq_true, if_false]
 ·unfold QaZ.f QaZ.fn QaZ.top
  simp only [b1, b2, b3, b4, b5, b6, b7, b8, b9, b10, b11, b12, Bool.false_eq_true, if_false]
theorem Vd1 {w : ByteArray} {l : List UInt8} (h : shpL w = some l) : Qas.f w = some (ob l, true) ∧ QaZ.f w = some (ob (l.map upK)) ∧ (∀ c ∈ l, c = 116 ∨ c = 105 ∨ c = 106) ∧ l.length ≤ 3 := by
 rcases VbV w with (rfl | rfl | rfl | rfl | rfl | rfl | rfl | rfl | rfl | rfl | rfl | rfl) | ⟨h1, _⟩
 all_goals first
  | (rw [h1] at h; cases h)
  | (have hl := Option.some.inj h; subst hl; exact ⟨by decide +kernel, by decide +kernel, by decide, by decide⟩)
theorem Vd2 {w : ByteArray} (h : shpL w = none) : Qas.f w = some (⟨#[]⟩, false) ∧ QaZ.f w = some ⟨#[45]⟩ := by
 rcases VbV w with (rfl | rfl | rfl | rfl | rfl | rfl | rfl | rfl | rfl | rfl | rfl | rfl) | ⟨h1, h2⟩
 all_goals first
  | exact h2
  | (exfalso; revert h; decide +kernel)
end Go.Pl

namespace Go.Pl
open Go.Ev
set_option linter.unusedVariables false
set_option linter.unusedSimpArgs false
noncomputable def prs : List UInt8 → List ByteArray → Option (List ByteArray × List Int)
 | [], _ => some ([], [])
 | _ :: _, [] => none
 | c :: r, w :: ws => if c = 116 then (match prs r ws with | some y => some (w :: y.1, y.2) | none => none)
   else (match (if c = 105 then numI w else numJ w) with
    | some x => (match prs r ws with | some y => some (y.1, x :: y.2) | none => none)
    | none => none)
theorem Vbx {n : Nat} (h : n ≤ 2000000) : n < room 16 := by rw [VdZ]; omega
theorem VhD {n : Nat} (h : n ≤ 2000000) : n < room 8 := by rw [room8]; omega
def Vbg (a : ByteArray) (w5 : List ByteArray) (w6 : List Int) : Option (List ByteArray × List Int) → (ByteArray × List ByteArray × List Int) × Bool
 | some y => ((a, (w5 ++ y.1, w6 ++ y.2)), true)
 | none => ((ByteArray.empty, ([], [])), false)
theorem Qdg (v2a c7a w0 : ByteArray) (w3 : List ByteArray) (w4 : List Int) : ∀ (r p : List UInt8) (wr wp : List ByteArray) (w5 : List ByteArray) (w6 : List Int) (k : Nat), wp.length = p.length → wr.length = r.length → p.length + r.length ≤ 1000 → w5.length ≤ p.length → w6.length ≤ p.length → (∀ c ∈ r, c = 116 ∨ c = 105 ∨ c = 106) → (∀ w ∈ wr, w.size ≤ 1000000) → r.length < k →
  QA.l7 NN k (ob (p ++ r)) p.length v2a (w0 :: (wp ++ wr)) c7a w3 w4 w5 w6 = some (Vbg c7a w5 w6 (prs r wr)) := by
 intro r
 induction r with
 | nil =>
  intro p wr wp w5 w6 k _ _ _ _ _ _ _ hk
  obtain ⟨k, rfl⟩ : ∃ j, k = j + 1 := ⟨k - 1, by omega⟩
  simp [QA.l7, QA.g7, prs, Vbg, Vk]
 | cons c r ih =>
  intro p wr wp w5 w6 k hwp hwr hl h5 h6 hc hz hk
  simp only [List.length_cons] at hl hk hwr
  obtain ⟨k, rfl⟩ : ∃ j, k = j + 1 := ⟨k - 1, by omega⟩
  cases wr with
  | nil => simp at hwr
  | cons w ws =>
   simp only [List.length_cons] at hwr
   have hln := Vz p r c
   have c0 : (0 : Int) ≤ (p.length : Int) := by omega
   have c1 : (p.length : Int) < ((ob (p ++ c :: r)).size : Int) := by rw [Vk]; omega
   have cw := w64 (n := (p.length : Int) + 1) (by omega) (by omega)
   have c2 : (0 : Int) ≤ (p.length : Int) + 1 := by omega
   have c3 : (p.length : Int) + 1 < ((w0 :: (wp ++ w :: ws)).length : Int) := by simp; omega
   have g : ∀ z, (w0 :: (wp ++ w :: ws)).getD ((p.length : Int) + 1).toNat z = w := fun z => by
    rw [show ((p.length : Int) + 1).toNat = p.length + 1 by omega, List.getD_cons_succ, ← hwp]
    exact Va wp ws w z
   have hsz := hz w (by simp)
   have i := fun a b ha hb => ih (p ++ [c]) ws (wp ++ [w]) a b k (by simp; omega) (by omega) (by simp; omega) ha hb (fun x hx => hc x (by simp [hx])) (fun x hx => hz x (by simp [hx])) (by omega)
   simp only [Vn, Vo] at i
   have e2 : (p ++ [c]).length = p.length + 1 := by simp
   rw [e2] at i
   have r16 : w5.length + [w].length < room 16 := Vbx (by simp; omega)
   have r8 : ∀ x : Int, w6.length + [x].length < room 8 := fun x => VhD (by simp; omega)
   rcases hc c (by simp) with rfl | rfl | rfl
   ·have e : (((116 : UInt8).toNat : Int) == 116) = true := by decide
    simp only [QA.l7, QA.g7, c0, c1, cw, c2, c3, g, e, r16, and_self, and_true, true_and, decide_true, decide_false, if_true, if_false, Vc, Vd, Va, Vb, Ve, Option.bind_some, Bool.not_true, Bool.not_false, Bool.false_eq_true, Bool.true_eq_false, beq_self_eq_true, bne_self_eq_false, Int.toNat_natCast, prs]
    rw [i (w5 ++ [w]) w6 (by simp; omega) (by omega)]
    cases prs r ws with
    | none => rfl
    | some y => simp [Vbg]
   ·have e : (((105 : UInt8).toNat : Int) == 116) = false := by decide
    have e' : (((105 : UInt8).toNat : Int) == 105) = true := by decide
    have n1 : ¬ ((105 : UInt8) = 116) := by decide
    have ws1 := w64 (n := (w.size : Int) - 1) (by omega) (by omega)
    simp only [QA.l7, QA.g7, c0, c1, cw, c2, c3, g, e, e', r8, and_self, and_true, true_and, decide_true, decide_false, if_true, if_false, Vc, Vd, Va, Vb, Ve, Option.bind_some, Bool.not_true, Bool.not_false, Bool.false_eq_true, Bool.true_eq_false, beq_self_eq_true, bne_self_eq_false, Int.toNat_natCast, prs, n1, Qcc w hsz, ws1, Vgl]
    generalize rdD w = d
    obtain ⟨n, b⟩ := d
    by_cases hn : n < 0
    ·have n0 : ¬ (0 : Int) ≤ n := by omega
     simp only [hn, n0, and_self, and_true, true_and, decide_true, decide_false, if_true, if_false, Vc, Vd, Va, Vb, Ve, Option.bind_some, Bool.not_true, Bool.not_false, Bool.false_eq_true, Bool.true_eq_false, beq_self_eq_true, bne_self_eq_false, Int.toNat_natCast, and_false, false_and]
     cases b
     ·rfl
     ·by_cases hs : (13 : Int) < (w.size : Int) - 1 <;> simp only [hs, and_self, and_true, true_and, decide_true, decide_false, if_true, if_false, Vc, Vd, Va, Vb, Ve, Option.bind_some, Bool.not_true, Bool.not_false, Bool.false_eq_true, Bool.true_eq_false, beq_self_eq_true, bne_self_eq_false, Int.toNat_natCast] <;> rfl
    ·have n0 : (0 : Int) ≤ n := by omega
     simp only [hn, n0, and_self, and_true, true_and, decide_true, decide_false, if_true, if_false, Vc, Vd, Va, Vb, Ve, Option.bind_some, Bool.not_true, Bool.not_false, Bool.false_eq_true, Bool.true_eq_false, beq_self_eq_true, bne_self_eq_false, Int.toNat_natCast]
     cases b
     ·simp only [and_self, and_true, true_and, decide_true, decide_false, if_true, if_false, Vc, Vd, Va, Vb, Ve, Option.bind_some, Bool.not_true, Bool.not_false, Bool.false_eq_true, Bool.true_eq_false, beq_self_eq_true, bne_self_eq_false, Int.toNat_natCast, false_and]; rfl
     ·by_cases hs : (13 : Int) < (w.size : Int)
      ·have hs' : ¬ w.size ≤ 13 := by omega
       simp only [hs, hs', and_self, and_true, true_and, decide_true, decide_false, if_true, if_false, Vc, Vd, Va, Vb, Ve, Option.bind_some, Bool.not_true, Bool.not_false, Bool.false_eq_true, Bool.true_eq_false, beq_self_eq_true, bne_self_eq_false, Int.toNat_natCast, and_false]; rfl
      ·have hs' : w.size ≤ 13 := by omega
       simp only [hs, hs', and_self, and_true, true_and, decide_true, decide_false, if_true, if_false, Vc, Vd, Va, Vb, Ve, Option.bind_some, Bool.not_true, Bool.not_false, Bool.false_eq_true, Bool.true_eq_false, beq_self_eq_true, bne_self_eq_false, Int.toNat_natCast]
       rw [i w5 (w6 ++ [n]) (by omega) (by simp; omega)]
       cases prs r ws with
       | none => rfl
       | some y => simp [Vbg]
   ·have e : (((106 : UInt8).toNat : Int) == 116) = false := by decide
    have e' : (((106 : UInt8).toNat : Int) == 105) = false := by decide
    have n1 : ¬ ((106 : UInt8) = 116) := by decide
    have n2 : ¬ ((106 : UInt8) = 105) := by decide
    have ws1 := w64 (n := (w.size : Int) - 1) (by omega) (by omega)
    simp only [QA.l7, QA.g7, c0, c1, cw, c2, c3, g, e, e', r8, and_self, and_true, true_and, decide_true, decide_false, if_true, if_false, Vc, Vd, Va, Vb, Ve, Option.bind_some, Bool.not_true, Bool.not_false, Bool.false_eq_true, Bool.true_eq_false, beq_self_eq_true, bne_self_eq_false, Int.toNat_natCast, prs, n1, n2, Qcc w hsz, ws1, Vi6]
    generalize rdD w = d
    obtain ⟨n, b⟩ := d
    by_cases hn : n < 0
    ·have n0 : ¬ (0 : Int) ≤ n := by omega
     simp only [hn, n0, and_self, and_true, true_and, decide_true, decide_false, if_true, if_false, Vc, Vd, Va, Vb, Ve, Option.bind_some, Bool.not_true, Bool.not_false, Bool.false_eq_true, Bool.true_eq_false, beq_self_eq_true, bne_self_eq_false, Int.toNat_natCast, false_implies, true_implies]
     cases b
     ·simp only [and_self, and_true, true_and, decide_true, decide_false, if_true, if_false, Vc, Vd, Va, Vb, Ve, Option.bind_some, Bool.not_true, Bool.not_false, Bool.false_eq_true, Bool.true_eq_false, beq_self_eq_true, bne_self_eq_false, Int.toNat_natCast, false_and]; rfl
     ·by_cases hs : (13 : Int) < (w.size : Int) - 1
      ·have hs' : ¬ w.size ≤ 14 := by omega
       simp only [hs, hs', and_self, and_true, true_and, decide_true, decide_false, if_true, if_false, Vc, Vd, Va, Vb, Ve, Option.bind_some, Bool.not_true, Bool.not_false, Bool.false_eq_true, Bool.true_eq_false, beq_self_eq_true, bne_self_eq_false, Int.toNat_natCast, and_false]; rfl
      ·have hs' : w.size ≤ 14 := by omega
       simp only [hs, hs', and_self, and_true, true_and, decide_true, decide_false, if_true, if_false, Vc, Vd, Va, Vb, Ve, Option.bind_some, Bool.not_true, Bool.not_false, Bool.false_eq_true, Bool.true_eq_false, beq_self_eq_true, bne_self_eq_false, Int.toNat_natCast]
       rw [i w5 (w6 ++ [n]) (by omega) (by simp; omega)]
       cases prs r ws with
       | none => rfl
       | some y => simp [Vbg]
    ·have n0 : (0 : Int) ≤ n := by omega
     simp only [hn, n0, and_self, and_true, true_and, decide_true, decide_false, if_true, if_false, Vc, Vd, Va, Vb, Ve, Option.bind_some, Bool.not_true, Bool.not_false, Bool.false_eq_true, Bool.true_eq_false, beq_self_eq_true, bne_self_eq_false, Int.toNat_natCast, false_implies, true_implies]
     cases b
     ·simp only [and_self, and_true, true_and, decide_true, decide_false, if_true, if_false, Vc, Vd, Va, Vb, Ve, Option.bind_some, Bool.not_true, Bool.not_false, Bool.false_eq_true, Bool.true_eq_false, beq_self_eq_true, bne_self_eq_false, Int.toNat_natCast, false_and]; rfl
     ·by_cases hs : (13 : Int) < (w.size : Int)
      ·have hs' : ¬ w.size ≤ 13 := by omega
       simp only [hs, hs', and_self, and_true, true_and, decide_true, decide_false, if_true, if_false, Vc, Vd, Va, Vb, Ve, Option.bind_some, Bool.not_true, Bool.not_false, Bool.false_eq_true, Bool.true_eq_false, beq_self_eq_true, bne_self_eq_false, Int.toNat_natCast, and_false]; rfl
      ·have hs' : w.size ≤ 13 := by omega
       simp only [hs, hs', and_self, and_true, true_and, decide_true, decide_false, if_true, if_false, Vc, Vd, Va, Vb, Ve, Option.bind_some, Bool.not_true, Bool.not_false, Bool.false_eq_true, Bool.true_eq_false, beq_self_eq_true, bne_self_eq_false, Int.toNat_natCast]
       rw [i w5 (w6 ++ [n]) (by omega) (by simp; omega)]
       cases prs r ws with
       | none => rfl
       | some y => simp [Vbg]
def VbJ (words : List ByteArray) (n7 : List Int) : Option (List ByteArray × List Int) → List ByteArray × List Int × Bool
 | some y => (words, (n7 ++ y.2, true))
 | none => ([], ([], false))
theorem Qdh (w0 : ByteArray) : ∀ (r : List UInt8) (p : List UInt8) (wr wp : List ByteArray) (n7 : List Int) (k : Nat), wp.length = p.length → wr.length = r.length → p.length + r.length ≤ 1000 → n7.length ≤ p.length → (∀ c ∈ r, c = 116 ∨ c = 105 ∨ c = 106) → (∀ w ∈ wr, w.size ≤ 1000000) → r.length < k →
  Qs.l7 NN k (ob (p ++ r.map upK)) p.length (w0 :: (wp ++ wr)) n7 = some (VbJ (w0 :: (wp ++ wr)) n7 (prs r wr)) := by
 intro r
 induction r with
 | nil =>
  intro p wr wp n7 k _ _ _ _ _ _ hk
  obtain ⟨k, rfl⟩ : ∃ j, k = j + 1 := ⟨k - 1, by omega⟩
  simp [Qs.l7, Qs.g7, prs, VbJ, Vk]
 | cons c r ih =>
  intro p wr wp n7 k hwp hwr hl h7 hc hz hk
  simp only [List.length_cons] at hl hk hwr
  obtain ⟨k, rfl⟩ : ∃ j, k = j + 1 := ⟨k - 1, by omega⟩
  cases wr with
  | nil => simp at hwr
  | cons w ws =>
   simp only [List.length_cons] at hwr
   have hln := Vz p (r.map upK) (upK c)
   have c0 : (0 : Int) ≤ (p.length : Int) := by omega
   have c1 : (p.length : Int) < ((ob (p ++ upK c :: r.map upK)).size : Int) := by rw [Vk]; omega
   have cw := w64 (n := (p.length : Int) + 1) (by omega) (by omega)
   have c2 : (0 : Int) ≤ (p.length : Int) + 1 := by omega
   have c3 : (p.length : Int) + 1 < ((w0 :: (wp ++ w :: ws)).length : Int) := by simp; omega
   have g : ∀ z, (w0 :: (wp ++ w :: ws)).getD ((p.length : Int) + 1).toNat z = w := fun z => by
    rw [show ((p.length : Int) + 1).toNat = p.length + 1 by omega, List.getD_cons_succ, ← hwp]
    exact Va wp ws w z
   have hsz := hz w (by simp)
   have i := fun a ha => ih (p ++ [upK c]) ws (wp ++ [w]) a k (by simp; omega) (by omega) (by simp; omega) ha (fun x hx => hc x (by simp [hx])) (fun x hx => hz x (by simp [hx])) (by omega)
   simp only [Vn, Vo] at i
   have e2 : (p ++ [upK c]).length = p.length + 1 := by simp
   rw [e2] at i
   have r8 : ∀ x : Int, n7.length + [x].length < room 8 := fun x => VhD (by simp; omega)
   rw [List.map_cons]
   rcases hc c (by simp) with rfl | rfl | rfl
   ·have e : (((upK 116).toNat : Int) == 73) = false := by decide
    have e' : (((upK 116).toNat : Int) == 74) = false := by decide
    simp only [Qs.l7, Qs.g7, c0, c1, cw, e, e', and_self, and_true, true_and, decide_true, decide_false, if_true, if_false, Vc, Vd, Va, Vb, Ve, Option.bind_some, Bool.not_true, Bool.not_false, Bool.false_eq_true, Bool.true_eq_false, beq_self_eq_true, bne_self_eq_false, Int.toNat_natCast, prs]
    rw [i n7 (by omega)]
    cases prs r ws <;> rfl
   ·have e : (((upK 105).toNat : Int) == 73) = true := by decide
    have n1 : ¬ ((105 : UInt8) = 116) := by decide
    simp only [Qs.l7, Qs.g7, c0, c1, cw, c2, c3, g, e, r8, and_self, and_true, true_and, decide_true, decide_false, if_true, if_false, Vc, Vd, Va, Vb, Ve, Option.bind_some, Bool.not_true, Bool.not_false, Bool.false_eq_true, Bool.true_eq_false, beq_self_eq_true, bne_self_eq_false, Int.toNat_natCast, prs, n1, QbX w hsz]
    unfold numI
    by_cases hv : (rdV w).2 = true
    ·rw [hv]
     simp only [and_self, and_true, true_and, decide_true, decide_false, if_true, if_false, Vc, Vd, Va, Vb, Ve, Option.bind_some, Bool.not_true, Bool.not_false, Bool.false_eq_true, Bool.true_eq_false, beq_self_eq_true, bne_self_eq_false, Int.toNat_natCast]
     rw [i (n7 ++ [(rdV w).1]) (by simp; omega)]
     cases prs r ws with
     | none => rfl
     | some y => simp [VbJ]
    ·have hv' : (rdV w).2 = false := by simpa using hv
     rw [hv']
     rfl
   ·have e : (((upK 106).toNat : Int) == 73) = false := by decide
    have e' : (((upK 106).toNat : Int) == 74) = true := by decide
    have n1 : ¬ ((106 : UInt8) = 116) := by decide
    have n2 : ¬ ((106 : UInt8) = 105) := by decide
    obtain ⟨n, b, s1, s2⟩ := Qcz w hsz
    simp only [Qs.l7, Qs.g7, c0, c1, cw, c2, c3, g, e, e', r8, and_self, and_true, true_and, decide_true, decide_false, if_true, if_false, Vc, Vd, Va, Vb, Ve, Option.bind_some, Bool.not_true, Bool.not_false, Bool.false_eq_true, Bool.true_eq_false, beq_self_eq_true, bne_self_eq_false, Int.toNat_natCast, prs, n1, n2, s1, s2]
    cases b
    ·rfl
    ·simp only [and_self, and_true, true_and, decide_true, decide_false, if_true, if_false, Vc, Vd, Va, Vb, Ve, Option.bind_some, Bool.not_true, Bool.not_false, Bool.false_eq_true, Bool.true_eq_false, beq_self_eq_true, bne_self_eq_false, Int.toNat_natCast]
     rw [i (n7 ++ [n]) (by simp; omega)]
     cases prs r ws with
     | none => rfl
     | some y => simp [VbJ]
end Go.Pl

namespace Go.Pl
open Go.Ev
set_option linter.unusedVariables false
set_option linter.unusedSimpArgs false
def inB (n lo hi : Int) : Bool := decide (lo ≤ n) && decide (n ≤ hi)
theorem inB_iff {n lo hi : Int} : inB n lo hi = true ↔ lo ≤ n ∧ n ≤ hi := by unfold inB; simp
theorem Qbq (n lo hi : Int) : Qag.f n lo hi = some (inB n lo hi) := by
 unfold Qag.f Qag.fn Qag.top inB
 by_cases h : lo ≤ n <;> simp [h]
theorem Qbr (n lo hi : Int) : Qaj.f n lo hi = some (inB n lo hi) := by
 unfold Qaj.f Qaj.fn Qaj.top inB
 by_cases h : lo ≤ n <;> simp [h]
def letB (c : UInt8) : Bool := !(decide ((c.toNat : Int) < 97)) && !(decide (122 < (c.toNat : Int)))
def wordB (s : ByteArray) : Bool := decide (1 ≤ s.size) && decide (s.size ≤ 16) && (bl s).all letB
theorem Vah {s : ByteArray} (h : wordB s = true) : 1 ≤ s.size ∧ s.size ≤ 16 := by
 unfold wordB at h; simp at h; exact h.1
theorem QcA (s : ByteArray) (h : s.size ≤ 140737488355328) : QO.l4 NN NN s 0 = if (bl s).all letB = true then some true else some false := by
 refine VcB letB (fun s => some true) (fun k s i => QO.l4 NN k s i) ?_ ?_ s h NN (NN_lt (by omega))
 ·intro k p
  show QO.g4 _ (ob p) p.length = _
  simp [QO.g4, Vk, Qbr]
 ·intro k p a r c0 c1 cw
  show QO.g4 (QO.l4 NN k) (ob (p ++ a :: r)) p.length = _
  simp only [QO.g4, c0, c1, cw, and_self, and_true, true_and, decide_true, decide_false, if_true, if_false, Vc, Vd, Va, Vb, Ve, Option.bind_some, Bool.not_true, Bool.not_false, Bool.false_eq_true, Bool.true_eq_false, beq_self_eq_true, bne_self_eq_false, Int.toNat_natCast]
  unfold letB
  by_cases h1 : (a.toNat : Int) < 97 <;> by_cases h2 : (122 : Int) < (a.toNat : Int) <;> simp [h1, h2]
theorem QcB (s : ByteArray) (h : s.size ≤ 140737488355328) : QT.l2 NN NN s 0 = if (bl s).all letB = true then some (inB s.size 1 16) else some false := by
 refine VcB letB (fun s => some (inB s.size 1 16)) (fun k s i => QT.l2 NN k s i) ?_ ?_ s h NN (NN_lt (by omega))
 ·intro k p
  show QT.g2 _ (ob p) p.length = _
  simp [QT.g2, Vk, Qbr]
 ·intro k p a r c0 c1 cw
  show QT.g2 (QT.l2 NN k) (ob (p ++ a :: r)) p.length = _
  simp only [QT.g2, c0, c1, cw, and_self, and_true, true_and, decide_true, decide_false, if_true, if_false, Vc, Vd, Va, Vb, Ve, Option.bind_some, Bool.not_true, Bool.not_false, Bool.false_eq_true, Bool.true_eq_false, beq_self_eq_true, bne_self_eq_false, Int.toNat_natCast]
  unfold letB
  by_cases h1 : (a.toNat : Int) < 97 <;> by_cases h2 : (122 : Int) < (a.toNat : Int) <;> simp [h1, h2]
theorem QbU (s : ByteArray) (h : s.size ≤ 140737488355328) : QO.f s = some (wordB s) := by
 unfold QO.f QO.fn QO.top
 rw [QcA s h]
 unfold wordB
 by_cases h1 : (s.size : Int) < 1
 ·have : ¬ 1 ≤ s.size := by omega
  simp [h1, this]
 ·have e1 : 1 ≤ s.size := by omega
  by_cases h2 : (16 : Int) < s.size
  ·have : ¬ s.size ≤ 16 := by omega
   simp [h1, h2, this]
  ·have : s.size ≤ 16 := by omega
   cases h3 : (bl s).all letB <;> simp [h1, h2, this, h3, e1]
theorem QbV (s : ByteArray) (h : s.size ≤ 140737488355328) : QT.f s = some (wordB s) := by
 unfold QT.f QT.fn QT.top
 rw [QcB s h]
 unfold wordB inB
 have e1 : decide ((1 : Int) ≤ s.size) = decide (1 ≤ s.size) := by congr 1; simp; omega
 have e2 : decide ((s.size : Int) ≤ 16) = decide (s.size ≤ 16) := by congr 1; simp; omega
 rw [e1, e2]
 cases h3 : (bl s).all letB <;> simp
end Go.Pl

namespace Go.Pl
open Go.Ev
set_option linter.unusedVariables false
set_option linter.unusedSimpArgs false
def Vd3 (x : Int × ByteArray × Int) : Prop := Rg .i64 x.1 ∧ Sm x.2.1 ∧ Rg .i64 x.2.2
def Vci (x : Int × Int) : Prop := Rg .i64 x.1 ∧ Rg .i64 x.2
def Vs (x : Int × ByteArray × Int) : Prop := Rg .i64 x.1 ∧ Sm x.2.1 ∧ Rg .i64 x.2.2
def VfA (x : (List (Int × ByteArray × Int)) × (List (Int × Int)) × (List (Int × ByteArray × Int))) : Prop := Lm Vd3 x.1 ∧ Lm Vci x.2.1 ∧ Lm Vs x.2.2
end Go.Pl

namespace Go.Pl
open Go.Ev
set_option linter.unusedVariables false
set_option linter.unusedSimpArgs false
abbrev Mov := Int × ByteArray × Int
def movB (m : Mov) : Bool := inB m.1 0 10000000 && wordB m.2.1 && inB m.2.2 (-1000) 1000 && !decide (m.2.2 = 0)
theorem Vaa {m : Mov} (h : movB m = true) : (0 ≤ m.1 ∧ m.1 ≤ 10000000) ∧ wordB m.2.1 = true ∧ (-1000 ≤ m.2.2 ∧ m.2.2 ≤ 1000) := by
 unfold movB at h
 simp only [Bool.and_eq_true, inB_iff] at h
 exact ⟨h.1.1.1, h.1.1.2, h.1.2⟩
theorem Qb3 (t : Int) : QaW.f t = some (inB t 0 10000000) := by
 unfold QaW.f QaW.fn QaW.top
 rw [Qbq]; rfl
theorem Qcs (t : Int) : Qa5.f t = some (inB t 0 100000) := by
 unfold Qa5.f Qa5.fn Qa5.top
 rw [Qbq]; rfl
theorem QbI (t : Int) : Qar.f t = some (inB t 0 10000000) := by
 unfold Qar.f Qar.fn Qar.top
 rw [Qbr]; rfl
def addP (z : ByteArray) (s : Int) (m : Mov) : Int := if m.2.1 = z then s + m.2.2 else s
def peopS (xs : List Mov) (z : ByteArray) : Int := xs.foldl (addP z) 0
theorem Vi7 (z : ByteArray) : ∀ (xs : List Mov) (s : Int), (∀ m ∈ xs, movB m = true) → s - 1000 * (xs.length : Int) ≤ xs.foldl (addP z) s ∧ xs.foldl (addP z) s ≤ s + 1000 * (xs.length : Int) := by
 intro xs
 induction xs with
 | nil => intro s _; simp
 | cons m r ih =>
  intro s h
  have h1 := Vaa (h m (by simp))
  have h2 := ih (addP z s m) (fun x hx => h x (by simp [hx]))
  have h3 : s - 1000 ≤ addP z s m ∧ addP z s m ≤ s + 1000 := by unfold addP; split <;> omega
  simp only [List.foldl_cons, List.length_cons]
  omega
theorem QcM (xs : List Mov) (z : ByteArray) (t : Int) (h : ∀ m ∈ xs, movB m = true) (ht : ∀ m ∈ xs, m.1 ≤ t) (hl : xs.length ≤ 1000000) : QE.f xs z t = some (peopS xs z) := by
 have := (VT (E := fun m : Mov => movB m = true ∧ m.1 ≤ t) (fun p st => -(1000 * (p.length : Int)) ≤ st ∧ st ≤ 1000 * (p.length : Int)) (fun _ => addP z) (fun st => some st) (fun k i st => QE.l3 NN k z t st xs xs.length i) xs ?_ ?_ 0 (fun m hm => ⟨h m hm, ht m hm⟩) (by simp) (by omega) NN (NN_lt (by omega))).2
 ·rw [VY] at this
  exact this
 ·intro k st _
  simp [QE.l3, QE.g3]
 ·intro k p m r st hx hm hI c0 c1 c2 cw g
  have hb := Vaa hm.1
  have hp : p.length ≤ 1000000 := by omega
  have w1 := w64 (n := st + m.2.2) (by omega) (by omega)
  have q := hm.2
  refine ⟨by unfold addP; rw [List.length_append, List.length_singleton]; split <;> omega, ?_⟩
  simp only [QE.l3, QE.g3, c0, c1, cw, and_self, and_true, true_and, decide_true, decide_false, if_true, if_false, Vc, Vd, Va, Vb, Ve, Option.bind_some, Bool.not_true, Bool.not_false, Bool.false_eq_true, Bool.true_eq_false, beq_self_eq_true, bne_self_eq_false, Int.toNat_natCast, g, V3, q, w1]
  unfold addP
  by_cases e : m.2.1 = z <;> simp [e]
theorem Qb6 (xs rest : List Mov) (z : ByteArray) (h : ∀ m ∈ xs, movB m = true) (hl : xs.length ≤ 1000000) : QB.f (xs ++ rest) z xs.length = some (peopS xs z) := by
 have := (VT (E := fun m : Mov => movB m = true) (fun p st => -(1000 * (p.length : Int)) ≤ st ∧ st ≤ 1000 * (p.length : Int)) (fun _ => addP z) (fun st => some st) (fun k i st => QB.l3 NN k (xs ++ rest) z xs.length st i) xs ?_ ?_ 0 h (by simp) (by omega) NN (NN_lt (by omega))).2
 ·rw [VY] at this
  exact this
 ·intro k st _
  simp [QB.l3, QB.g3]
 ·intro k p m r st hx hm hI c0 c1 c2 cw g
  have hb := Vaa hm
  have hp : p.length ≤ 1000000 := by omega
  have w1 := w64 (n := st + m.2.2) (by omega) (by omega)
  have c3 : (p.length : Int) < ((xs ++ rest).length : Int) := by simp; omega
  have g2 : ∀ w, (xs ++ rest).getD p.length w = m := fun w => by rw [hx, List.append_assoc, List.cons_append, Va]
  refine ⟨by unfold addP; rw [List.length_append, List.length_singleton]; split <;> omega, ?_⟩
  simp only [QB.l3, QB.g3, c0, c1, c3, cw, and_self, and_true, true_and, decide_true, decide_false, if_true, if_false, Vc, Vd, Va, Vb, Ve, Option.bind_some, Bool.not_true, Bool.not_false, Bool.false_eq_true, Bool.true_eq_false, beq_self_eq_true, bne_self_eq_false, Int.toNat_natCast, g2, V3, w1]
  unfold addP
  by_cases e : m.2.1 = z <;> simp [e]
def prevM (p : List Mov) (t : Int) : Bool := match p.getLast? with | none => true | some y => !decide (t < y.1)
def movF (p : List Mov) : List Mov → Bool
 | [] => true
 | m :: r => movB m && (prevM p m.1 && (!decide (peopS (p ++ [m]) m.2.1 < 0) && movF (p ++ [m]) r))
def Vy (xs : List Mov) : Bool := decide (xs.length ≤ 40) && movF [] xs
structure MvI (p : List Mov) : Prop where
 ok : ∀ m ∈ p, movB m = true
 le : ∀ m ∈ p, ∀ y, p.getLast? = some y → m.1 ≤ y.1
theorem Vdp {p : List Mov} {m : Mov} (h : MvI p) (hm : movB m = true) (hp : prevM p m.1 = true) : MvI (p ++ [m]) ∧ ∀ x ∈ p ++ [m], x.1 ≤ m.1 := by
 have key : ∀ x ∈ p ++ [m], x.1 ≤ m.1 := fun x hx => by
  rcases List.mem_append.1 hx with h1 | h1
  ·unfold prevM at hp
   cases e : p.getLast? with
   | none => rw [List.getLast?_eq_none_iff.1 e] at h1; cases h1
   | some y =>
    rw [e] at hp
    simp only [Bool.not_eq_true', decide_eq_false_iff_not] at hp
    have := h.le x h1 y e
    omega
  ·rw [List.mem_singleton.1 h1]; omega
 refine ⟨⟨fun x hx => ?_, fun x hx y hy => ?_⟩, key⟩
 ·rcases List.mem_append.1 hx with h1 | h1
  ·exact h.ok x h1
  ·rw [List.mem_singleton.1 h1]; exact hm
 ·rw [List.getLast?_append] at hy
  simp at hy
  rw [← hy]; exact key x hx
theorem VaS {α : Type} (p : List α) : p = [] ∨ ∃ q y, p = q ++ [y] := by
 rcases List.eq_nil_or_concat p with h | ⟨q, y, h⟩
 ·exact .inl h
 ·exact .inr ⟨q, y, by rw [h]; simp⟩
theorem Vat {α : Type} (q : List α) (y : α) : (q ++ [y]).getLast? = some y := by simp
theorem QcN : ∀ (r p : List Mov) (k : Nat), MvI p → (∀ m ∈ r, Sz m.2.1) → p.length + r.length ≤ 1000000 → r.length < k → Qx.l4 NN k (p ++ r) (p ++ r) (p ++ r).length p.length = some (movF p r) := by
 intro r
 induction r with
 | nil =>
  intro p k _ _ _ hk
  obtain ⟨k, rfl⟩ : ∃ j, k = j + 1 := ⟨k - 1, by omega⟩
  simp [Qx.l4, Qx.g4, movF]
 | cons m r ih =>
  intro p k hI hs hb hk
  simp only [List.length_cons] at hb hk
  obtain ⟨k, rfl⟩ : ∃ j, k = j + 1 := ⟨k - 1, by omega⟩
  have hl := Vz p r m
  have c0 : (0 : Int) ≤ (p.length : Int) := by omega
  have c1 : (p.length : Int) < ((p ++ m :: r).length : Int) := by omega
  have cw := w64 (n := (p.length : Int) + 1) (by omega) (by omega)
  have c3 : (0 : Int) ≤ (p.length : Int) + 1 := by omega
  have c4 : (p.length : Int) + 1 ≤ ((p ++ m :: r).length : Int) := by omega
  have t1 : ((p.length : Int) + 1).toNat = (p ++ [m]).length := by simp
  have htk : (p ++ m :: r).take (p ++ [m]).length = p ++ [m] := by rw [← Vn p r m, List.take_left]
  simp only [Qx.l4, Qx.g4, c0, c1, c3, c4, cw, t1, htk, and_self, and_true, true_and, decide_true, decide_false, if_true, if_false, Vc, Vd, Va, Vb, Ve, Option.bind_some, Bool.not_true, Bool.not_false, Bool.false_eq_true, Bool.true_eq_false, beq_self_eq_true, bne_self_eq_false, Int.toNat_natCast, Qb3, QbU _ (hs m (by simp)), Qbq]
  by_cases hm : movB m = true
  rotate_left
  ·have e : movF p (m :: r) = false := by simp only [movF]; cases q : movB m; rfl; exact absurd q hm
   rw [e]
   unfold movB at hm
   simp only [Bool.and_eq_true, Bool.not_eq_true', decide_eq_false_iff_not, not_and] at hm
   by_cases h1 : inB m.1 0 10000000 = true
   ·by_cases h2 : wordB m.2.1 = true
    ·by_cases h3 : inB m.2.2 (-1000) 1000 = true
     ·have h4 : m.2.2 = 0 := by have := hm ⟨⟨h1, h2⟩, h3⟩; omega
      simp [h1, h2, h3, h4]
     ·simp [h1, h2, h3]
    ·simp [h1, h2]
   ·simp [h1]
  have hm' := hm
  unfold movB at hm'
  simp only [Bool.and_eq_true, Bool.not_eq_true', decide_eq_false_iff_not] at hm'
  obtain ⟨⟨⟨h1, h2⟩, h3⟩, h4⟩ := hm'
  have h4' : (m.2.2 == 0) = false := by simpa using h4
  simp only [h1, h2, h3, h4', and_self, and_true, true_and, decide_true, decide_false, if_true, if_false, Vc, Vd, Va, Vb, Ve, Option.bind_some, Bool.not_true, Bool.not_false, Bool.false_eq_true, Bool.true_eq_false, beq_self_eq_true, bne_self_eq_false, Int.toNat_natCast]
  have fin : prevM p m.1 = true → ((QE.f (p ++ [m]) m.2.1 m.1).bind fun r4 => if (decide (r4 < 0)) = true then some false else Qx.l4 NN k (p ++ m :: r) (p ++ m :: r) (p ++ m :: r).length ((p.length : Int) + 1)) = some (movF p (m :: r)) := fun hp => by
   obtain ⟨q1, q2⟩ := Vdp hI hm hp
   rw [QcM _ _ _ q1.ok q2 (by simp; omega)]
   have := ih (p ++ [m]) k q1 (fun x hx => hs x (by simp [hx])) (by simp; omega) (by omega)
   rw [Vn, Vo] at this
   simp only [movF, hm, hp, Bool.true_and, Option.bind_some, this]
   by_cases e : peopS (p ++ [m]) m.2.1 < 0 <;> simp [e]
  rcases VaS p with hp | ⟨q, y, hp⟩
  ·have n1 : ¬ (0 : Int) < (p.length : Int) := by rw [hp]; simp
   simp only [n1, and_self, and_true, true_and, decide_true, decide_false, if_true, if_false, Vc, Vd, Va, Vb, Ve, Option.bind_some, Bool.not_true, Bool.not_false, Bool.false_eq_true, Bool.true_eq_false, beq_self_eq_true, bne_self_eq_false, Int.toNat_natCast]
   exact fin (by rw [hp]; rfl)
  ·have hpl : (p.length : Int) - 1 = (q.length : Int) := by rw [hp]; simp
   have n1 : (0 : Int) < (p.length : Int) := by rw [hp]; simp
   have w1 := w64 (n := (q.length : Int)) (by omega) (by omega)
   have q0 : (0 : Int) ≤ (q.length : Int) := by omega
   have q1 : (q.length : Int) < ((p ++ m :: r).length : Int) := by omega
   have g2 : ∀ z, (p ++ m :: r).getD q.length z = y := fun z => by rw [hp, List.append_assoc, List.singleton_append, Va]
   simp only [n1, hpl, w1, q0, q1, g2, and_self, and_true, true_and, decide_true, decide_false, if_true, if_false, Vc, Vd, Va, Vb, Ve, Option.bind_some, Bool.not_true, Bool.not_false, Bool.false_eq_true, Bool.true_eq_false, beq_self_eq_true, bne_self_eq_false, Int.toNat_natCast]
   have hpr : prevM p m.1 = !decide (m.1 < y.1) := by unfold prevM; rw [hp, Vat]
   by_cases e : m.1 < y.1
   ·have : movF p (m :: r) = false := by simp [movF, hpr, e]
    simp [e, this]
   ·simp only [e, and_self, and_true, true_and, decide_true, decide_false, if_true, if_false, Vc, Vd, Va, Vb, Ve, Option.bind_some, Bool.not_true, Bool.not_false, Bool.false_eq_true, Bool.true_eq_false, beq_self_eq_true, bne_self_eq_false, Int.toNat_natCast]
    exact fin (by rw [hpr]; simp [e])
theorem QcO : ∀ (r p : List Mov) (k : Nat), MvI p → (∀ m ∈ r, Sz m.2.1) → p.length + r.length ≤ 1000000 → r.length < k → QC.l2 NN k (p ++ r) p.length = some (movF p r && decide ((p ++ r).length ≤ 40)) := by
 intro r
 induction r with
 | nil =>
  intro p k _ _ _ hk
  obtain ⟨k, rfl⟩ : ∃ j, k = j + 1 := ⟨k - 1, by omega⟩
  have e : decide ((p.length : Int) ≤ 40) = decide (p.length ≤ 40) := by congr 1; exact propext (by omega)
  simp [QC.l2, QC.g2, movF, e]
 | cons m r ih =>
  intro p k hI hs hb hk
  simp only [List.length_cons] at hb hk
  obtain ⟨k, rfl⟩ : ∃ j, k = j + 1 := ⟨k - 1, by omega⟩
  have hl := Vz p r m
  have c0 : (0 : Int) ≤ (p.length : Int) := by omega
  have c1 : (p.length : Int) < ((p ++ m :: r).length : Int) := by omega
  have cw := w64 (n := (p.length : Int) + 1) (by omega) (by omega)
  simp only [QC.l2, QC.g2, c0, c1, cw, and_self, and_true, true_and, decide_true, decide_false, if_true, if_false, Vc, Vd, Va, Vb, Ve, Option.bind_some, Bool.not_true, Bool.not_false, Bool.false_eq_true, Bool.true_eq_false, beq_self_eq_true, bne_self_eq_false, Int.toNat_natCast, QbI, QbV _ (hs m (by simp)), Qbr]
  by_cases hm : movB m = true
  rotate_left
  ·have e : movF p (m :: r) = false := by simp only [movF]; cases q : movB m; rfl; exact absurd q hm
   rw [e]
   unfold movB at hm
   simp only [Bool.and_eq_true, Bool.not_eq_true', decide_eq_false_iff_not, not_and] at hm
   by_cases h1 : inB m.1 0 10000000 = true
   ·by_cases h2 : wordB m.2.1 = true
    ·by_cases h3 : inB m.2.2 (-1000) 1000 = true
     ·have h4 : m.2.2 = 0 := by have := hm ⟨⟨h1, h2⟩, h3⟩; omega
      simp [h1, h2, h3, h4]
     ·simp [h1, h2, h3]
    ·simp [h1, h2]
   ·simp [h1]
  have hm' := hm
  unfold movB at hm'
  simp only [Bool.and_eq_true, Bool.not_eq_true', decide_eq_false_iff_not] at hm'
  obtain ⟨⟨⟨h1, h2⟩, h3⟩, h4⟩ := hm'
  have h4' : (m.2.2 == 0) = false := by simpa using h4
  simp only [h1, h2, h3, h4', and_self, and_true, true_and, decide_true, decide_false, if_true, if_false, Vc, Vd, Va, Vb, Ve, Option.bind_some, Bool.not_true, Bool.not_false, Bool.false_eq_true, Bool.true_eq_false, beq_self_eq_true, bne_self_eq_false, Int.toNat_natCast]
  have fin : prevM p m.1 = true → ((QB.f (p ++ m :: r) m.2.1 ((p.length : Int) + 1)).bind fun r4 => if (decide (r4 < 0)) = true then some false else QC.l2 NN k (p ++ m :: r) ((p.length : Int) + 1)) = some (movF p (m :: r) && decide ((p ++ m :: r).length ≤ 40)) := fun hp => by
   obtain ⟨q1, q2⟩ := Vdp hI hm hp
   have hpe := Qb6 (p ++ [m]) r m.2.1 q1.ok (by simp; omega)
   rw [Vn, Vo] at hpe
   rw [hpe]
   have := ih (p ++ [m]) k q1 (fun x hx => hs x (by simp [hx])) (by simp; omega) (by omega)
   rw [Vn, Vo] at this
   simp only [movF, hm, hp, Bool.true_and, Option.bind_some, this]
   by_cases e : peopS (p ++ [m]) m.2.1 < 0 <;> simp [e]
  rcases VaS p with hp | ⟨q, y, hp⟩
  ·have n1 : ¬ (0 : Int) < (p.length : Int) := by rw [hp]; simp
   simp only [n1, and_self, and_true, true_and, decide_true, decide_false, if_true, if_false, Vc, Vd, Va, Vb, Ve, Option.bind_some, Bool.not_true, Bool.not_false, Bool.false_eq_true, Bool.true_eq_false, beq_self_eq_true, bne_self_eq_false, Int.toNat_natCast]
   exact fin (by rw [hp]; rfl)
  ·have hpl : (p.length : Int) - 1 = (q.length : Int) := by rw [hp]; simp
   have n1 : (0 : Int) < (p.length : Int) := by rw [hp]; simp
   have w1 := w64 (n := (q.length : Int)) (by omega) (by omega)
   have q0 : (0 : Int) ≤ (q.length : Int) := by omega
   have q1 : (q.length : Int) < ((p ++ m :: r).length : Int) := by omega
   have g2 : ∀ z, (p ++ m :: r).getD q.length z = y := fun z => by rw [hp, List.append_assoc, List.singleton_append, Va]
   simp only [n1, hpl, w1, q0, q1, g2, and_self, and_true, true_and, decide_true, decide_false, if_true, if_false, Vc, Vd, Va, Vb, Ve, Option.bind_some, Bool.not_true, Bool.not_false, Bool.false_eq_true, Bool.true_eq_false, beq_self_eq_true, bne_self_eq_false, Int.toNat_natCast]
   have hpr : prevM p m.1 = !decide (m.1 < y.1) := by unfold prevM; rw [hp, Vat]
   by_cases e : m.1 < y.1
   ·have : movF p (m :: r) = false := by simp [movF, hpr, e]
    simp [e, this]
   ·simp only [e, and_self, and_true, true_and, decide_true, decide_false, if_true, if_false, Vc, Vd, Va, Vb, Ve, Option.bind_some, Bool.not_true, Bool.not_false, Bool.false_eq_true, Bool.true_eq_false, beq_self_eq_true, bne_self_eq_false, Int.toNat_natCast]
    exact fin (by rw [hpr]; simp [e])
theorem Veo : MvI [] := ⟨by simp, by simp⟩
theorem QbM (xs : List Mov) (hl : xs.length ≤ 1000000) (hs : ∀ m ∈ xs, Sz m.2.1) : Qx.f xs = some (Vy xs) := by
 unfold Qx.f Qx.fn Qx.top Vy
 have := QcN xs [] NN Veo hs (by simpa using hl) (NN_lt (by omega))
 rw [List.nil_append] at this
 by_cases h8 : (40 : Int) < (xs.length : Int)
 ·have : ¬ xs.length ≤ 40 := by omega
  simp [h8, this]
 ·have e8 : xs.length ≤ 40 := by omega
  simp only [h8, e8, and_self, and_true, true_and, decide_true, decide_false, if_true, if_false, Vc, Vd, Va, Vb, Ve, Option.bind_some, Bool.not_true, Bool.not_false, Bool.false_eq_true, Bool.true_eq_false, beq_self_eq_true, bne_self_eq_false, Int.toNat_natCast, Bool.true_and]
  exact this
theorem QbN (xs : List Mov) (hl : xs.length ≤ 1000000) (hs : ∀ m ∈ xs, Sz m.2.1) : QC.f xs = some (Vy xs) := by
 unfold QC.f QC.fn QC.top Vy
 have := QcO xs [] NN Veo hs (by simpa using hl) (NN_lt (by omega))
 rw [List.nil_append] at this
 rw [Bool.and_comm]
 exact this
end Go.Pl

namespace Go.Pl
open Go.Ev
set_option linter.unusedVariables false
set_option linter.unusedSimpArgs false
def valB (b : Int × ByteArray × Int) : Bool := inB b.1 0 3 && wordB b.2.1 && inB b.2.2 1 1000
def addL (a : ByteArray) (s : Int) (b : Int × ByteArray × Int) : Int := if b.2.1 = a then (if b.1 = 0 then s + b.2.2 else s - b.2.2) else s
def Vq (xs : List (Int × ByteArray × Int)) (a : ByteArray) : Int := xs.foldl (addL a) 0
theorem Va1 (p : List (Int × ByteArray × Int)) (b : Int × ByteArray × Int) (a : ByteArray) : Vq (p ++ [b]) a = addL a (Vq p a) b := by
 unfold Vq; rw [List.foldl_append]; rfl
theorem VaT {b : Int × ByteArray × Int} (h : valB b = true) : 1 ≤ b.2.2 ∧ b.2.2 ≤ 1000 ∧ 0 ≤ b.1 ∧ b.1 ≤ 3 := by
 unfold valB at h
 simp only [Bool.and_eq_true, inB_iff] at h
 omega
theorem VbN (a : ByteArray) (xs : List (Int × ByteArray × Int)) (h : ∀ b ∈ xs, valB b = true) : -(1000 * (xs.length : Int)) ≤ Vq xs a ∧ Vq xs a ≤ 1000 * (xs.length : Int) := by
 have key : ∀ (ys : List (Int × ByteArray × Int)) (s : Int), (∀ b ∈ ys, valB b = true) → s - 1000 * (ys.length : Int) ≤ ys.foldl (addL a) s ∧ ys.foldl (addL a) s ≤ s + 1000 * (ys.length : Int) := by
  intro ys
  induction ys with
  | nil => intro s _; simp
  | cons b r ih =>
   intro s hb
   have h1 := ih (addL a s b) (fun x hx => hb x (by simp [hx]))
   have h2 := VaT (hb b (by simp))
   simp only [List.foldl_cons, List.length_cons]
   have : s - 1000 ≤ addL a s b ∧ addL a s b ≤ s + 1000 := by
    unfold addL; split <;> (try split) <;> omega
   omega
 have := key xs 0 h
 unfold Vq; omega
theorem Qcl (xs rest : List (Int × ByteArray × Int)) (a : ByteArray) (h : ∀ b ∈ xs, valB b = true) (hl : xs.length ≤ 1000000) : QJ.f (xs ++ rest) a xs.length = some (Vq xs a) := by
 have := (VT (E := fun b => valB b = true) (fun p s => (∀ b ∈ p, valB b = true) ∧ s = Vq p a) (fun _ => addL a) some (fun k i s => QJ.l3 NN k (xs ++ rest) a xs.length s i) xs ?_ ?_ 0 h ⟨by simp, rfl⟩ (by omega) NN (NN_lt (by omega))).2
 ·rw [VY] at this
  exact this
 ·intro k st _
  simp [QJ.l3, QJ.g3]
 ·intro k p b r st hx hb hI c0 c1 c2 cw g
  obtain ⟨h1, rfl⟩ := hI
  have h2 : ∀ x ∈ p ++ [b], valB x = true := fun x hx => by
   rcases List.mem_append.1 hx with h | h
   ·exact h1 x h
   ·rw [List.mem_singleton.1 h]; exact hb
  refine ⟨⟨h2, (Va1 p b a).symm⟩, ?_⟩
  have c3 : (p.length : Int) < ((xs ++ rest).length : Int) := by rw [List.length_append]; omega
  have g' : ∀ z, (xs ++ rest).getD p.length z = b := fun z => by rw [hx]; simp
  have bd := VbN a (p ++ [b]) h2
  rw [Va1] at bd
  have hpl : p.length ≤ 1000000 := by omega
  simp only [List.length_append, List.length_cons, List.length_nil] at bd
  simp only [QJ.l3, QJ.g3, c0, c1, c3, cw, and_self, and_true, true_and, decide_true, decide_false, if_true, if_false, Vc, Vd, Va, Vb, Ve, Option.bind_some, Bool.not_true, Bool.not_false, Bool.false_eq_true, Bool.true_eq_false, beq_self_eq_true, bne_self_eq_false, Int.toNat_natCast, g', V3]
  unfold addL at bd ⊢
  by_cases ha : b.2.1 = a
  ·by_cases hz : b.1 = 0
   ·have e := w64 (n := Vq p a + b.2.2) (by simp only [ha, hz, if_true] at bd; omega) (by simp only [ha, hz, if_true] at bd; omega)
    simp [ha, hz, e]
   ·have e := w64 (n := Vq p a - b.2.2) (by simp only [ha, hz, if_true, if_false] at bd; omega) (by simp only [ha, hz, if_true, if_false] at bd; omega)
    simp [ha, hz, e]
  ·simp [ha]
def addT (a : ByteArray) (s : List Int) (b : Int × ByteArray × Int) : List Int := if b.2.1 = a then s.set b.1.toNat (s.getD b.1.toNat 0 + b.2.2) else s
def totL (xs : List (Int × ByteArray × Int)) (a : ByteArray) : List Int := xs.foldl (addT a) [0, 0, 0, 0]
theorem VcF (p : List (Int × ByteArray × Int)) (b : Int × ByteArray × Int) (a : ByteArray) : totL (p ++ [b]) a = addT a (totL p a) b := by
 unfold totL; rw [List.foldl_append]; rfl
theorem Vbr (a : ByteArray) (xs : List (Int × ByteArray × Int)) (h : ∀ b ∈ xs, valB b = true) : ∃ t0 t1 t2 t3, totL xs a = [t0, t1, t2, t3] ∧ t0 - t1 - t2 - t3 = Vq xs a ∧ 0 ≤ t0 ∧ 0 ≤ t1 ∧ 0 ≤ t2 ∧ 0 ≤ t3 ∧ t0 + t1 + t2 + t3 ≤ 1000 * (xs.length : Int) := by
 have key : ∀ (n : Nat) (xs : List (Int × ByteArray × Int)), xs.length = n → (∀ b ∈ xs, valB b = true) → ∃ t0 t1 t2 t3, totL xs a = [t0, t1, t2, t3] ∧ t0 - t1 - t2 - t3 = Vq xs a ∧ 0 ≤ t0 ∧ 0 ≤ t1 ∧ 0 ≤ t2 ∧ 0 ≤ t3 ∧ t0 + t1 + t2 + t3 ≤ 1000 * (xs.length : Int) := by
  intro n
  induction n with
  | zero => intro xs hn _; obtain rfl := List.length_eq_zero_iff.1 hn; exact ⟨0, 0, 0, 0, rfl, rfl, by omega, by omega, by omega, by omega, by simp⟩
  | succ n ih =>
   intro xs hn hb
   rcases List.eq_nil_or_concat xs with rfl | ⟨p, b, rfl⟩
   ·simp at hn
   simp only [List.concat_eq_append] at hn hb ⊢
   obtain ⟨t0, t1, t2, t3, e1, e2, e3, e4, e5, e6, e7⟩ := ih p (by simpa using hn) (fun x hx => hb x (by simp [hx]))
   have hv := VaT (hb b (by simp))
   rw [VcF, Va1, e1]
   simp only [List.length_append, List.length_cons, List.length_nil]
   unfold addT addL
   by_cases ha : b.2.1 = a
   ·simp only [ha, if_true]
    obtain h | h | h | h : b.1 = 0 ∨ b.1 = 1 ∨ b.1 = 2 ∨ b.1 = 3 := by omega
    ·exact ⟨t0 + b.2.2, t1, t2, t3, by simp [h], by simp [h]; omega, by omega, by omega, by omega, by omega, by omega⟩
    ·exact ⟨t0, t1 + b.2.2, t2, t3, by simp [h], by simp [h]; omega, by omega, by omega, by omega, by omega, by omega⟩
    ·exact ⟨t0, t1, t2 + b.2.2, t3, by simp [h], by simp [h]; omega, by omega, by omega, by omega, by omega, by omega⟩
    ·exact ⟨t0, t1, t2, t3 + b.2.2, by simp [h], by simp [h]; omega, by omega, by omega, by omega, by omega, by omega⟩
   ·simp only [ha, if_false]
    exact ⟨t0, t1, t2, t3, rfl, by omega, by omega, by omega, by omega, by omega, by omega⟩
 exact key _ xs rfl h
theorem QcP (xs : List (Int × ByteArray × Int)) (a : ByteArray) (h : ∀ b ∈ xs, valB b = true) (hl : xs.length ≤ 1000000) : QU.f xs a = some (totL xs a) := by
 have := (VT (E := fun b => valB b = true) (fun p s => (∀ b ∈ p, valB b = true) ∧ s = totL p a) (fun _ => addT a) some (fun k i s => QU.l3 NN k a xs xs.length i s) xs ?_ ?_ [0, 0, 0, 0] h ⟨by simp, rfl⟩ (by omega) NN (NN_lt (by omega))).2
 ·rw [VY] at this
  unfold QU.f QU.fn QU.top
  rw [if_pos (by rw [room8]; omega)]
  exact this
 ·intro k st _
  simp [QU.l3, QU.g3]
 ·intro k p b r st hx hb hI c0 c1 c2 cw g
  obtain ⟨h1, rfl⟩ := hI
  have h2 : ∀ x ∈ p ++ [b], valB x = true := fun x hx => by
   rcases List.mem_append.1 hx with h | h
   ·exact h1 x h
   ·rw [List.mem_singleton.1 h]; exact hb
  refine ⟨⟨h2, (VcF p b a).symm⟩, ?_⟩
  obtain ⟨t0, t1, t2, t3, e1, e2, e3, e4, e5, e6, e7⟩ := Vbr a p h1
  have hpl : p.length ≤ 1000000 := by omega
  have hv := VaT hb
  simp only [QU.l3, QU.g3, c0, c1, cw, and_self, and_true, true_and, decide_true, decide_false, if_true, if_false, Vc, Vd, Va, Vb, Ve, Option.bind_some, Bool.not_true, Bool.not_false, Bool.false_eq_true, Bool.true_eq_false, beq_self_eq_true, bne_self_eq_false, Int.toNat_natCast, g, V3]
  unfold addT
  by_cases ha : b.2.1 = a
  ·have k1 : b.1 < ((totL p a).length : Int) := by rw [e1]; simp; omega
   have k2 : 0 ≤ (totL p a).getD b.1.toNat 0 ∧ (totL p a).getD b.1.toNat 0 ≤ 1000000000 := by
    rw [e1]
    obtain h | h | h | h : b.1 = 0 ∨ b.1 = 1 ∨ b.1 = 2 ∨ b.1 = 3 := by omega
    all_goals (rw [h]; simp; omega)
   have e := w64 (n := (totL p a).getD b.1.toNat 0 + b.2.2) (by omega) (by omega)
   simp only [ha, decide_true, if_true, hv.2.2.1, k1, and_self, e]
  ·simp [ha]
theorem QbO (xs : List (Int × ByteArray × Int)) (a : ByteArray) (h : ∀ b ∈ xs, valB b = true) (hl : xs.length ≤ 1000000) : Qan.f xs a = some (Vq xs a) := by
 unfold Qan.f Qan.fn Qan.top
 rw [QcP xs a h hl]
 obtain ⟨t0, t1, t2, t3, e1, e2, e3, e4, e5, e6, e7⟩ := Vbr a xs h
 have w1 := w64 (n := t0 - t1) (by omega) (by omega)
 have w2 := w64 (n := t0 - t1 - t2) (by omega) (by omega)
 have w3 := w64 (n := t0 - t1 - t2 - t3) (by omega) (by omega)
 have w4 : IntKind.i64.wrap (Vq xs a) = Vq xs a := by rw [← e2]; exact w3
 rw [e1]
 simp [w1, w2, w3, e2, w4]
def Vad (p : List (Int × ByteArray × Int)) : List (Int × ByteArray × Int) → Bool
 | [] => true
 | b :: r => valB b && decide (0 ≤ Vq (p ++ [b]) b.2.1) && Vad (p ++ [b]) r
def Vw (xs : List (Int × ByteArray × Int)) : Bool := decide (xs.length ≤ 60) && Vad [] xs
theorem VgV : ∀ (r p : List (Int × ByteArray × Int)), Vad p r = true → ∀ b ∈ r, valB b = true := by
 intro r
 induction r with
 | nil => intro p _ b hb; cases hb
 | cons x r ih =>
  intro p h b hb
  simp only [Vad, Bool.and_eq_true] at h
  rcases List.mem_cons.1 hb with rfl | hb
  ·exact h.1.1
  ·exact ih _ h.2 b hb
theorem VN {xs : List (Int × ByteArray × Int)} (h : Vw xs = true) : (∀ b ∈ xs, valB b = true) ∧ xs.length ≤ 60 := by
 unfold Vw at h
 simp only [Bool.and_eq_true, decide_eq_true_eq] at h
 exact ⟨VgV _ _ h.2, h.1⟩
theorem Vcj {p : List (Int × ByteArray × Int)} {b : Int × ByteArray × Int} (h1 : ∀ x ∈ p, valB x = true) (hb : valB b = true) : ∀ x ∈ p ++ [b], valB x = true := fun x hx => by
 rcases List.mem_append.1 hx with h | h
 ·exact h1 x h
 ·rw [List.mem_singleton.1 h]; exact hb
theorem Qcm : ∀ (r p : List (Int × ByteArray × Int)) (k : Nat), (∀ b ∈ p, valB b = true) → (∀ b ∈ r, Sz b.2.1) → p.length + r.length ≤ 1000000 → r.length < k →
  Qi.l2 NN k (p ++ r) p.length = some (Vad p r && decide ((p ++ r).length ≤ 60)) := by
 intro r
 induction r with
 | nil =>
  intro p k _ _ _ hk
  obtain ⟨k, rfl⟩ : ∃ j, k = j + 1 := ⟨k - 1, by omega⟩
  simp [Qi.l2, Qi.g2, Vad]
  omega
 | cons b r ih =>
  intro p k hp hr hb hk
  simp only [List.length_cons] at hk hb
  obtain ⟨k, rfl⟩ : ∃ j, k = j + 1 := ⟨k - 1, by omega⟩
  have hm := Vz p r b
  have c0 : (0 : Int) ≤ (p.length : Int) := by omega
  have c1 : (p.length : Int) < ((p ++ b :: r).length : Int) := by omega
  have cw := w64 (n := (p.length : Int) + 1) (by omega) (by omega)
  simp only [Qi.l2, Qi.g2, c0, c1, cw, and_self, and_true, true_and, decide_true, decide_false, if_true, if_false, Vc, Vd, Va, Vb, Ve, Option.bind_some, Bool.not_true, Bool.not_false, Bool.false_eq_true, Bool.true_eq_false, beq_self_eq_true, bne_self_eq_false, Int.toNat_natCast, Qbr, QbV _ (hr b (by simp))]
  have hv : valB b = (inB b.1 0 3 && wordB b.2.1 && inB b.2.2 1 1000) := rfl
  simp only [Vad]
  cases h1 : inB b.1 0 3
  ·simp [hv, h1]
  cases h2 : wordB b.2.1
  ·simp [hv, h2]
  cases h3 : inB b.2.2 1 1000
  ·simp [hv, h3]
  have hvt : valB b = true := by rw [hv, h1, h2, h3]; rfl
  have hl := Qcl (p ++ [b]) r b.2.1 (Vcj hp hvt) (by simp; omega)
  rw [Vn, Vo] at hl
  have := ih (p ++ [b]) k (Vcj hp hvt) (fun x hx => hr x (by simp [hx])) (by simp; omega) (by omega)
  rw [Vn, Vo] at this
  simp only [hl, this, hvt, and_self, and_true, true_and, decide_true, decide_false, if_true, if_false, Vc, Vd, Va, Vb, Ve, Option.bind_some, Bool.not_true, Bool.not_false, Bool.false_eq_true, Bool.true_eq_false, beq_self_eq_true, bne_self_eq_false, Int.toNat_natCast, decide_eq_true_eq]
  by_cases hn : Vq (p ++ [b]) b.2.1 < 0
  ·have : ¬ 0 ≤ Vq (p ++ [b]) b.2.1 := by omega
   simp [hn, this]
  ·have h4 : 0 ≤ Vq (p ++ [b]) b.2.1 := by omega
   simp [hn, h4]
theorem Qby (xs : List (Int × ByteArray × Int)) (h : Lm Vs xs) : Qi.f xs = some (Vw xs) := by
 have := Qcm xs [] NN (by simp) (fun b hb => Nat.le_trans (h.2 b hb).2.1 (by omega)) (by simpa using h.1) (NN_lt (by have := h.1; omega))
 unfold Qi.f Qi.fn Qi.top Vw
 rw [Bool.and_comm]
 simpa using this
theorem Qcn : ∀ (r p : List (Int × ByteArray × Int)) (k : Nat), (∀ b ∈ p, valB b = true) → (∀ b ∈ r, Sz b.2.1) → p.length + r.length ≤ 1000000 → r.length < k →
  Qk.l4 NN k (p ++ r) (p ++ r) (p ++ r).length p.length = some (Vad p r) := by
 intro r
 induction r with
 | nil =>
  intro p k _ _ _ hk
  obtain ⟨k, rfl⟩ : ∃ j, k = j + 1 := ⟨k - 1, by omega⟩
  simp [Qk.l4, Qk.g4, Vad]
 | cons b r ih =>
  intro p k hp hr hb hk
  simp only [List.length_cons] at hk hb
  obtain ⟨k, rfl⟩ : ∃ j, k = j + 1 := ⟨k - 1, by omega⟩
  have hm := Vz p r b
  have c0 : (0 : Int) ≤ (p.length : Int) := by omega
  have c1 : (p.length : Int) < ((p ++ b :: r).length : Int) := by omega
  have cw := w64 (n := (p.length : Int) + 1) (by omega) (by omega)
  have c2 : (0 : Int) ≤ (p.length : Int) + 1 := by omega
  have c3 : (p.length : Int) + 1 ≤ ((p ++ b :: r).length : Int) := by omega
  have ct : (p ++ b :: r).take ((p.length : Int) + 1).toNat = p ++ [b] := by
   rw [show ((p.length : Int) + 1).toNat = (p ++ [b]).length by simp, show p ++ b :: r = (p ++ [b]) ++ r by simp, List.take_left' rfl]
  simp only [Qk.l4, Qk.g4, c0, c1, c2, c3, cw, ct, and_self, and_true, true_and, decide_true, decide_false, if_true, if_false, Vc, Vd, Va, Vb, Ve, Option.bind_some, Bool.not_true, Bool.not_false, Bool.false_eq_true, Bool.true_eq_false, beq_self_eq_true, bne_self_eq_false, Int.toNat_natCast, Qbq, QbU _ (hr b (by simp))]
  have hv : valB b = (inB b.1 0 3 && wordB b.2.1 && inB b.2.2 1 1000) := rfl
  simp only [Vad]
  cases h1 : inB b.1 0 3
  ·simp [hv, h1]
  cases h2 : wordB b.2.1
  ·simp [hv, h2]
  cases h3 : inB b.2.2 1 1000
  ·simp [hv, h3]
  have hvt : valB b = true := by rw [hv, h1, h2, h3]; rfl
  have hl := QbO (p ++ [b]) b.2.1 (Vcj hp hvt) (by simp; omega)
  have := ih (p ++ [b]) k (Vcj hp hvt) (fun x hx => hr x (by simp [hx])) (by simp; omega) (by omega)
  rw [Vn, Vo] at this
  simp only [hl, this, hvt, and_self, and_true, true_and, decide_true, decide_false, if_true, if_false, Vc, Vd, Va, Vb, Ve, Option.bind_some, Bool.not_true, Bool.not_false, Bool.false_eq_true, Bool.true_eq_false, beq_self_eq_true, bne_self_eq_false, Int.toNat_natCast, decide_eq_true_eq]
  by_cases hn : Vq (p ++ [b]) b.2.1 < 0
  ·have : ¬ 0 ≤ Vq (p ++ [b]) b.2.1 := by omega
   simp [hn, this]
  ·have h4 : 0 ≤ Vq (p ++ [b]) b.2.1 := by omega
   simp [hn, h4]
theorem Qbz (xs : List (Int × ByteArray × Int)) (h : Lm Vs xs) : Qk.f xs = some (Vw xs) := by
 have := Qcn xs [] NN (by simp) (fun b hb => Nat.le_trans (h.2 b hb).2.1 (by omega)) (by simpa using h.1) (NN_lt (by have := h.1; omega))
 unfold Qk.f Qk.fn Qk.top Vw
 simp only [List.nil_append, List.length_nil] at this
 by_cases h1 : (60 : Int) < xs.length
 ·have h2 : ¬ xs.length ≤ 60 := by omega
  simp [h1, h2]
 ·have h2 : xs.length ≤ 60 := by omega
  simp only [h1, h2, decide_false, Bool.false_eq_true, if_false, decide_true, Bool.true_and]
  exact this
end Go.Pl

namespace Go.Pl
open Go.Ev
set_option linter.unusedVariables false
noncomputable section
def QbC.g5 (L5 : YD → ByteArray → Int → Int → Int → Option YC) (q : List YA) (p : ByteArray) (r : Int) (v17 : Int) (v18 : Int) : Option YC :=
 if (decide ((v18 : Int) < v17)) = true then
 if (0 : Int) ≤ (IntKind.i64.wrap (v18 + 1)) ∧ ((IntKind.i64.wrap (v18 + 1)) : Int) ≤ q.length then
 (Qan.f (q.take ((IntKind.i64.wrap (v18 + 1)) : Int).toNat) p).bind fun r3 =>
 L5 q p (if r3 > r then r3 else r) v17 (IntKind.i64.wrap (v18 + 1))
 else
 none
 else
 some (r, 0)
def QbC.l5 (n : Nat) : Nat → YD → ByteArray → Int → Int → Int → Option YC
 | 0 => fun _ _ _ _ _ => none
 | k + 1 => QbC.g5 (QbC.l5 n k)
def QbC.top (I5 : YD → ByteArray → Int → Int → Int → Option YC) (q : List YA) (p : ByteArray) : Option YC :=
 (Qk.f q).bind fun r1 =>
 if (!r1) = false then
 (QO.f p).bind fun r2 =>
 if (!r2) = true then
 some (0, 1)
 else
 I5 q p 0 (q.length : Int) 0
 else
 some (0, 1)
def QbC.fn (n : Nat) (q : List YA) (p : ByteArray) : Option YC := QbC.top (QbC.l5 n n) q p
def QbC.f (q : List YA) (p : ByteArray) : Option YC := QbC.fn NN q p
end
end Go.Pl

namespace Go.Pl
open Go.Ev
set_option linter.unusedVariables false
noncomputable section
def QbD.g5 (L5 : YD → ByteArray → Int → Int → Option YC) (q : List YA) (p : ByteArray) (r : Int) (n7 : Int) : Option YC :=
 if (decide ((n7 : Int) ≤ (q.length : Int))) = true then
 (QJ.f q p n7).bind fun r3 =>
 L5 q p (if r3 > r then r3 else r) (IntKind.i64.wrap (n7 + 1))
 else
 some (r, 0)
def QbD.l5 (n : Nat) : Nat → YD → ByteArray → Int → Int → Option YC
 | 0 => fun _ _ _ _ => none
 | k + 1 => QbD.g5 (QbD.l5 n k)
def QbD.top (I5 : YD → ByteArray → Int → Int → Option YC) (q : List YA) (p : ByteArray) : Option YC :=
 (Qi.f q).bind fun r1 =>
 if (!r1) = false then
 (QT.f p).bind fun r2 =>
 if (!r2) = true then
 some (0, 1)
 else
 I5 q p 0 0
 else
 some (0, 1)
def QbD.fn (n : Nat) (q : List YA) (p : ByteArray) : Option YC := QbD.top (QbD.l5 n n) q p
def QbD.f (q : List YA) (p : ByteArray) : Option YC := QbD.fn NN q p
end
end Go.Pl

namespace Go.Pl
open Go.Ev
set_option linter.unusedVariables false
set_option linter.unusedSimpArgs false
theorem Va2 (xs : List (Int × ByteArray × Int)) (a : ByteArray) (h : ∀ b ∈ xs, valB b = true) (hl : xs.length ≤ 1000000) : QJ.f xs a xs.length = some (Vq xs a) := by
 have := Qcl xs [] a h hl
 rwa [List.append_nil] at this
def leftR (xs : List (Int × ByteArray × Int)) (a : ByteArray) : Int × Int := if Vw xs = true ∧ wordB a = true then (Vq xs a, 0) else (0, 1)
theorem Vd4 (xs : List (Int × ByteArray × Int)) (a : ByteArray) (h : Lm Vs xs) (ha : Sm a) : QaD.f xs a = some (leftR xs a) ∧ QaA.f xs a = some (leftR xs a) := by
 unfold leftR
 refine ⟨?_, ?_⟩
 ·unfold QaD.f QaD.fn QaD.top
  rw [Qby xs h, QbV a (Nat.le_trans ha (by omega))]
  cases hb : Vw xs
  ·rfl
  cases hw : wordB a
  ·rfl
  have hv := VN hb
  simp only [and_self, and_true, true_and, decide_true, decide_false, if_true, if_false, Vc, Vd, Va, Vb, Ve, Option.bind_some, Bool.not_true, Bool.not_false, Bool.false_eq_true, Bool.true_eq_false, beq_self_eq_true, bne_self_eq_false, Int.toNat_natCast]
  rw [Va2 xs a hv.1 (by omega)]; rfl
 ·unfold QaA.f QaA.fn QaA.top
  rw [Qbz xs h, QbU a (Nat.le_trans ha (by omega))]
  cases hb : Vw xs
  ·rfl
  cases hw : wordB a
  ·rfl
  have hv := VN hb
  simp only [and_self, and_true, true_and, decide_true, decide_false, if_true, if_false, Vc, Vd, Va, Vb, Ve, Option.bind_some, Bool.not_true, Bool.not_false, Bool.false_eq_true, Bool.true_eq_false, beq_self_eq_true, bne_self_eq_false, Int.toNat_natCast]
  rw [QbO xs a hv.1 (by omega)]; rfl
def mostF (xs : List (Int × ByteArray × Int)) (a : ByteArray) (i : Nat) (st : Int) : Int := if Vq (xs.take (i + 1)) a > st then Vq (xs.take (i + 1)) a else st
def mostL (xs : List (Int × ByteArray × Int)) (a : ByteArray) : Int := foldi (fun i st (_ : Int × ByteArray × Int) => mostF xs a i st) 0 0 xs
end Go.Pl

namespace Go.Pl
open Go.Ev
set_option linter.unusedVariables false
set_option linter.unusedSimpArgs false
abbrev Sig := Int × Int
def sigB (m : Sig) : Bool := inB m.1 0 100000 && inB m.2 0 9 && !decide (m.2 = 8)
def prevS (p : List Sig) (t : Int) : Bool := match p.getLast? with | none => true | some y => !decide (t < y.1)
def sigF (p : List Sig) : List Sig → Bool
 | [] => true
 | m :: r => sigB m && (prevS p m.1 && sigF (p ++ [m]) r)
def sigsB (xs : List Sig) : Bool := decide (xs.length ≤ 40) && sigF [] xs
theorem Qcv : ∀ (r p : List Sig) (k : Nat), p.length + r.length ≤ 1000000 → r.length < k → Qo.l4 NN k (p ++ r) (p ++ r) (p ++ r).length p.length = some (sigF p r) := by
 intro r
 induction r with
 | nil =>
  intro p k _ hk
  obtain ⟨k, rfl⟩ : ∃ j, k = j + 1 := ⟨k - 1, by omega⟩
  have e : decide ((p.length : Int) ≤ 40) = decide (p.length ≤ 40) := by congr 1; exact propext (by omega)
  simp [Qo.l4, Qo.g4, sigF, e]
 | cons m r ih =>
  intro p k hb hk
  simp only [List.length_cons] at hb hk
  obtain ⟨k, rfl⟩ : ∃ j, k = j + 1 := ⟨k - 1, by omega⟩
  have hl := Vz p r m
  have c0 : (0 : Int) ≤ (p.length : Int) := by omega
  have c1 : (p.length : Int) < ((p ++ m :: r).length : Int) := by omega
  have cw := w64 (n := (p.length : Int) + 1) (by omega) (by omega)
  have i1 := ih (p ++ [m]) k (by simp; omega) (by omega)
  rw [Vn, Vo] at i1
  simp only [Qo.l4, Qo.g4, c0, c1, cw, and_self, and_true, true_and, decide_true, decide_false, if_true, if_false, Vc, Vd, Va, Vb, Ve, Option.bind_some, Bool.not_true, Bool.not_false, Bool.false_eq_true, Bool.true_eq_false, beq_self_eq_true, bne_self_eq_false, Int.toNat_natCast, Qcs, Qbq]
  by_cases hm : sigB m = true
  rotate_left
  ·have e : sigF p (m :: r) = false := by simp only [sigF]; cases q : sigB m; rfl; exact absurd q hm
   rw [e]
   unfold sigB at hm
   simp only [Bool.and_eq_true, Bool.not_eq_true', decide_eq_false_iff_not, not_and] at hm
   by_cases h1 : inB m.1 0 100000 = true
   ·by_cases h3 : inB m.2 0 9 = true
    ·have h4 : m.2 = 8 := by have := hm ⟨h1, h3⟩; omega
     simp [h1, h3, h4]
    ·simp [h1, h3]
   ·simp [h1]
  have hm' := hm
  unfold sigB at hm'
  simp only [Bool.and_eq_true, Bool.not_eq_true', decide_eq_false_iff_not] at hm'
  obtain ⟨⟨h1, h3⟩, h4⟩ := hm'
  have h4' : (m.2 == 8) = false := by simpa using h4
  simp only [h1, h3, h4', and_self, and_true, true_and, decide_true, decide_false, if_true, if_false, Vc, Vd, Va, Vb, Ve, Option.bind_some, Bool.not_true, Bool.not_false, Bool.false_eq_true, Bool.true_eq_false, beq_self_eq_true, bne_self_eq_false, Int.toNat_natCast]
  rcases VaS p with hp | ⟨q, y, hp⟩
  ·have n1 : ¬ (0 : Int) < (p.length : Int) := by rw [hp]; simp
   have hpr : prevS p m.1 = true := by rw [hp]; rfl
   simp only [n1, and_self, and_true, true_and, decide_true, decide_false, if_true, if_false, Vc, Vd, Va, Vb, Ve, Option.bind_some, Bool.not_true, Bool.not_false, Bool.false_eq_true, Bool.true_eq_false, beq_self_eq_true, bne_self_eq_false, Int.toNat_natCast, i1, sigF, hm, hpr, Bool.true_and]
  ·have hpl : (p.length : Int) - 1 = (q.length : Int) := by rw [hp]; simp
   have n1 : (0 : Int) < (p.length : Int) := by rw [hp]; simp
   have w1 := w64 (n := (q.length : Int)) (by omega) (by omega)
   have q0 : (0 : Int) ≤ (q.length : Int) := by omega
   have q1 : (q.length : Int) < ((p ++ m :: r).length : Int) := by omega
   have g2 : ∀ z, (p ++ m :: r).getD q.length z = y := fun z => by rw [hp, List.append_assoc, List.singleton_append, Va]
   have hpr : prevS p m.1 = !decide (m.1 < y.1) := by unfold prevS; rw [hp, Vat]
   simp only [n1, hpl, w1, q0, q1, g2, and_self, and_true, true_and, decide_true, decide_false, if_true, if_false, Vc, Vd, Va, Vb, Ve, Option.bind_some, Bool.not_true, Bool.not_false, Bool.false_eq_true, Bool.true_eq_false, beq_self_eq_true, bne_self_eq_false, Int.toNat_natCast, i1, sigF, hm, hpr, Bool.true_and]
   by_cases e : m.1 < y.1 <;> simp [e]
theorem Qcw : ∀ (r p : List Sig) (k : Nat), p.length + r.length ≤ 1000000 → r.length < k → Qq.l2 NN k (p ++ r) p.length = some (sigF p r && decide ((p ++ r).length ≤ 40)) := by
 intro r
 induction r with
 | nil =>
  intro p k _ hk
  obtain ⟨k, rfl⟩ : ∃ j, k = j + 1 := ⟨k - 1, by omega⟩
  have e : decide ((p.length : Int) ≤ 40) = decide (p.length ≤ 40) := by congr 1; exact propext (by omega)
  simp [Qq.l2, Qq.g2, sigF, e]
 | cons m r ih =>
  intro p k hb hk
  simp only [List.length_cons] at hb hk
  obtain ⟨k, rfl⟩ : ∃ j, k = j + 1 := ⟨k - 1, by omega⟩
  have hl := Vz p r m
  have c0 : (0 : Int) ≤ (p.length : Int) := by omega
  have c1 : (p.length : Int) < ((p ++ m :: r).length : Int) := by omega
  have cw := w64 (n := (p.length : Int) + 1) (by omega) (by omega)
  have i1 := ih (p ++ [m]) k (by simp; omega) (by omega)
  rw [Vn, Vo] at i1
  simp only [Qq.l2, Qq.g2, c0, c1, cw, and_self, and_true, true_and, decide_true, decide_false, if_true, if_false, Vc, Vd, Va, Vb, Ve, Option.bind_some, Bool.not_true, Bool.not_false, Bool.false_eq_true, Bool.true_eq_false, beq_self_eq_true, bne_self_eq_false, Int.toNat_natCast, Qbr]
  by_cases hm : sigB m = true
  rotate_left
  ·have e : sigF p (m :: r) = false := by simp only [sigF]; cases q : sigB m; rfl; exact absurd q hm
   rw [e]
   unfold sigB at hm
   simp only [Bool.and_eq_true, Bool.not_eq_true', decide_eq_false_iff_not, not_and] at hm
   by_cases h1 : inB m.1 0 100000 = true
   ·by_cases h3 : inB m.2 0 9 = true
    ·have h4 : m.2 = 8 := by have := hm ⟨h1, h3⟩; omega
     simp [h1, h3, h4]
    ·simp [h1, h3]
   ·simp [h1]
  have hm' := hm
  unfold sigB at hm'
  simp only [Bool.and_eq_true, Bool.not_eq_true', decide_eq_false_iff_not] at hm'
  obtain ⟨⟨h1, h3⟩, h4⟩ := hm'
  have h4' : (m.2 == 8) = false := by simpa using h4
  simp only [h1, h3, h4', and_self, and_true, true_and, decide_true, decide_false, if_true, if_false, Vc, Vd, Va, Vb, Ve, Option.bind_some, Bool.not_true, Bool.not_false, Bool.false_eq_true, Bool.true_eq_false, beq_self_eq_true, bne_self_eq_false, Int.toNat_natCast]
  rcases VaS p with hp | ⟨q, y, hp⟩
  ·have n1 : ¬ (0 : Int) < (p.length : Int) := by rw [hp]; simp
   have hpr : prevS p m.1 = true := by rw [hp]; rfl
   simp only [n1, and_self, and_true, true_and, decide_true, decide_false, if_true, if_false, Vc, Vd, Va, Vb, Ve, Option.bind_some, Bool.not_true, Bool.not_false, Bool.false_eq_true, Bool.true_eq_false, beq_self_eq_true, bne_self_eq_false, Int.toNat_natCast, i1, sigF, hm, hpr, Bool.true_and]
  ·have hpl : (p.length : Int) - 1 = (q.length : Int) := by rw [hp]; simp
   have n1 : (0 : Int) < (p.length : Int) := by rw [hp]; simp
   have w1 := w64 (n := (q.length : Int)) (by omega) (by omega)
   have q0 : (0 : Int) ≤ (q.length : Int) := by omega
   have q1 : (q.length : Int) < ((p ++ m :: r).length : Int) := by omega
   have g2 : ∀ z, (p ++ m :: r).getD q.length z = y := fun z => by rw [hp, List.append_assoc, List.singleton_append, Va]
   have hpr : prevS p m.1 = !decide (m.1 < y.1) := by unfold prevS; rw [hp, Vat]
   simp only [n1, hpl, w1, q0, q1, g2, and_self, and_true, true_and, decide_true, decide_false, if_true, if_false, Vc, Vd, Va, Vb, Ve, Option.bind_some, Bool.not_true, Bool.not_false, Bool.false_eq_true, Bool.true_eq_false, beq_self_eq_true, bne_self_eq_false, Int.toNat_natCast, i1, sigF, hm, hpr, Bool.true_and]
   by_cases e : m.1 < y.1 <;> simp [e]
theorem QbG (xs : List Sig) (hl : xs.length ≤ 1000000) : Qo.f xs = some (sigsB xs) := by
 unfold Qo.f Qo.fn Qo.top sigsB
 have := Qcv xs [] NN (by simpa using hl) (NN_lt (by omega))
 rw [List.nil_append] at this
 by_cases h8 : (40 : Int) < (xs.length : Int)
 ·have : ¬ xs.length ≤ 40 := by omega
  simp [h8, this]
 ·have e8 : xs.length ≤ 40 := by omega
  simp only [h8, e8, and_self, and_true, true_and, decide_true, decide_false, if_true, if_false, Vc, Vd, Va, Vb, Ve, Option.bind_some, Bool.not_true, Bool.not_false, Bool.false_eq_true, Bool.true_eq_false, beq_self_eq_true, bne_self_eq_false, Int.toNat_natCast, Bool.true_and]
  exact this
theorem QbH (xs : List Sig) (hl : xs.length ≤ 1000000) : Qq.f xs = some (sigsB xs) := by
 unfold Qq.f Qq.fn Qq.top sigsB
 have := Qcw xs [] NN (by simpa using hl) (NN_lt (by omega))
 rw [List.nil_append] at this
 rw [Bool.and_comm]
 exact this
abbrev Dsk := List Mov × List Sig × List (Int × ByteArray × Int)
def deskB (d : Dsk) : Bool := Vy d.1 && (sigsB d.2.1 && Vw d.2.2)
theorem Vdd (d : Dsk) (h : VfA d) : Qbi.f d = some (deskB d) ∧ Qbg.f d = some (deskB d) := by
 have hs : ∀ m ∈ d.1, Sz m.2.1 := fun m hm => Nat.le_trans (h.1.2 m hm).2.1 (by omega)
 unfold Qbi.f Qbi.fn Qbi.top Qbg.f Qbg.fn Qbg.top deskB
 rw [QbN _ h.1.1 hs, QbM _ h.1.1 hs, QbH _ h.2.1.1, QbG _ h.2.1.1, Qby _ h.2.2, Qbz _ h.2.2]
 cases Vy d.1
 ·exact ⟨rfl, rfl⟩
 cases sigsB d.2.1
 ·exact ⟨rfl, rfl⟩
 cases Vw d.2.2 <;> exact ⟨rfl, rfl⟩
end Go.Pl

namespace Go.Pl
open Go.Ev
set_option linter.unusedVariables false
set_option linter.unusedSimpArgs false
abbrev Ctl := Bool × Bool × Bool × Bool × Bool × Int
def giveC : Ctl → Int → Option Ctl
 | (a, b, r, h, s, d), i =>
  if i = 0 then some (if a = true then (false, b, false, false, s, d) else (true, b, r, h, s, d))
  else if i = 1 then some (if b = true then (a, false, false, false, s, d) else (a, true, r, h, s, d))
  else if i = 2 then (if (a && b && !s) = true then some (a, b, true, false, s, 0) else none)
  else if i = 3 then some (a, b, false, false, s, d)
  else if i = 4 then (if (r && !h) = true then some (a, b, r, true, s, d) else none)
  else if i = 5 then (if h = true then some (a, b, r, false, s, d) else none)
  else if i = 6 then some (a, b, false, false, true, d)
  else if i = 7 then some (a, b, r, h, s, 0)
  else if i = 8 then some (if 3 < d + 1 then (a, b, false, false, s, 4) else (a, b, r, h, s, d + 1))
  else (if (s && !a && !b) = true then some (a, b, r, h, false, d) else none)
def tkC : Ctl → Ctl
 | (a, b, r, h, s, d) => if 3 < d + 1 then (a, b, false, false, s, 4) else (a, b, r, h, s, d + 1)
theorem Vgn (c : Ctl) : giveC c 8 = some (tkC c) := rfl
def giveB (c : Ctl) (i : Int) : Ctl := (giveC c i).getD c
def VF (c : Ctl) : Prop := 0 ≤ c.2.2.2.2.2 ∧ c.2.2.2.2.2 ≤ 4
def mayC (c : Ctl) : Bool := c.2.2.1 && !c.2.2.2.1
theorem VcV {c : Ctl} (h : VF c) : VF (tkC c) := by
 obtain ⟨a, b, r, e, s, d⟩ := c
 unfold VF at h ⊢
 simp only at h
 simp only [tkC]
 by_cases h3 : 3 < d + 1
 ·rw [if_pos h3]; simp
 ·rw [if_neg h3]; simp only; omega
theorem VbO {c : Ctl} (h : VF c) (i : Int) : VF (giveB c i) := by
 obtain ⟨a, b, r, e, s, d⟩ := c
 unfold VF at h ⊢
 simp only at h
 unfold giveB giveC
 simp only
 repeat' split
 all_goals simp only [Option.getD_some, Option.getD_none]
 all_goals omega
def tkN : Nat → Ctl → Ctl
 | 0, c => c
 | n + 1, c => tkN n (tkC c)
theorem Vgo : ∀ (m n : Nat) (c : Ctl), tkN (m + n) c = tkN n (tkN m c) := by
 intro m
 induction m with
 | zero => intro n c; rw [Nat.zero_add]; rfl
 | succ m ih => intro n c; rw [Nat.succ_add]; exact ih n (tkC c)
theorem Vir : ∀ (n : Nat) {c : Ctl}, VF c → VF (tkN n c) := by
 intro n
 induction n with
 | zero => intro c h; exact h
 | succ n ih => intro c h; exact ih (VcV h)
theorem tk4 {a b r e s : Bool} {d : Int} (h0 : 0 ≤ d) (h1 : d ≤ 4) : tkN 4 (a, b, r, e, s, d) = (a, b, false, false, s, 4) := by
 have : d = 0 ∨ d = 1 ∨ d = 2 ∨ d = 3 ∨ d = 4 := by omega
 rcases this with rfl | rfl | rfl | rfl | rfl <;> rfl
theorem VhE (a b s : Bool) : ∀ n : Nat, tkN n (a, b, false, false, s, 4) = (a, b, false, false, s, 4) := by
 intro n
 induction n with
 | zero => rfl
 | succ n ih => exact ih
theorem Vi8 {c : Ctl} (h : VF c) (n : Nat) : tkN (min n 5) c = tkN n c := by
 by_cases hn : n ≤ 5
 ·rw [Nat.min_eq_left hn]
 ·obtain ⟨a, b, r, e, s, d⟩ := c
  rw [Nat.min_eq_right (by omega), show n = 4 + (n - 4) by omega, Vgo, tk4 h.1 h.2, VhE, show (5 : Nat) = 4 + 1 from rfl, Vgo, tk4 h.1 h.2, VhE]
def SrtF : Int → List Sig → Prop
 | _, [] => True
 | t, x :: r => t ≤ x.1 ∧ SrtF x.1 r
def atR : List Sig → Ctl → Int → Int → Ctl
 | [], c, now, t => tkN (t - now).toNat c
 | x :: r, c, now, t => if x.1 ≤ t then atR r (giveB (tkN (x.1 - now).toNat c) x.2) x.1 t else tkN (t - now).toNat c
theorem VfB {l : List Sig} {T t : Int} (c : Ctl) (h : SrtF (T + 1) l) (ht : T + 1 ≤ t) : atR l c T t = atR l (tkC c) (T + 1) t := by
 have key : ∀ u : Int, T + 1 ≤ u → tkN (u - T).toNat c = tkN (u - (T + 1)).toNat (tkC c) := by
  intro u hu
  rw [show (u - T).toNat = (u - (T + 1)).toNat + 1 by omega]; rfl
 cases l with
 | nil => exact key t ht
 | cons x r => simp only [atR]; rw [key t ht, key x.1 h.1]
theorem Vdq (T i : Int) (r : List Sig) (c : Ctl) {t : Int} (ht : T ≤ t) : atR ((T, i) :: r) c T t = atR r (giveB c i) T t := by
 simp only [atR, ht, if_true]
 rw [show (T - T).toNat = 0 by omega]; rfl
theorem Vgp {l : List Sig} {T : Int} (c : Ctl) (h : SrtF (T + 1) l) : atR l c T T = c := by
 have h0 : (T - T).toNat = 0 := by omega
 cases l with
 | nil => simp only [atR, h0]; rfl
 | cons x r =>
  have : ¬ x.1 ≤ T := by have := h.1; omega
  simp only [atR, this, if_false, h0]; rfl
def ctlAt (l : List Sig) (t : Int) : Ctl := atR l (false, false, false, false, false, 0) 0 t
theorem Vis : ∀ {r p : List Sig} {t : Int}, sigF p r = true → (∀ y, p.getLast? = some y → t ≤ y.1) → (p = [] → ∀ y r', r = y :: r' → t ≤ y.1) → SrtF t r := by
 intro r
 induction r with
 | nil => intro p t _ _ _; trivial
 | cons x r ih =>
  intro p t h hp hn
  simp only [sigF, Bool.and_eq_true] at h
  have hx : t ≤ x.1 := by
   rcases VaS p with e | ⟨q, y, e⟩
   ·exact hn e x r rfl
   ·have h1 := h.2.1
    unfold prevS at h1
    rw [e, Vat] at h1
    simp only [Bool.not_eq_true', decide_eq_false_iff_not] at h1
    have := hp y (by rw [e, Vat])
    omega
  refine ⟨hx, ih h.2.2 (fun y hy => ?_) (fun e => absurd e (by simp))⟩
  rw [Vat] at hy
  rw [← Option.some.inj hy]; omega
theorem Vit : ∀ {r p : List Sig}, sigF p r = true → ∀ m ∈ r, sigB m = true := by
 intro r
 induction r with
 | nil => intro p _ m hm; cases hm
 | cons x r ih =>
  intro p h m hm
  simp only [sigF, Bool.and_eq_true] at h
  rcases List.mem_cons.1 hm with rfl | hm
  ·exact h.1
  ·exact ih h.2.2 m hm
theorem Vaf {l : List Sig} (h : sigsB l = true) : l.length ≤ 40 ∧ SrtF 0 l ∧ ∀ m ∈ l, (0 ≤ m.1 ∧ m.1 ≤ 100000) ∧ (0 ≤ m.2 ∧ m.2 ≤ 9) ∧ m.2 ≠ 8 := by
 unfold sigsB at h
 simp only [Bool.and_eq_true, decide_eq_true_eq] at h
 have hm := Vit h.2
 have hk : ∀ m ∈ l, (0 ≤ m.1 ∧ m.1 ≤ 100000) ∧ (0 ≤ m.2 ∧ m.2 ≤ 9) ∧ m.2 ≠ 8 := fun m h1 => by
  have := hm m h1
  unfold sigB at this
  simp only [Bool.and_eq_true, inB_iff, Bool.not_eq_true', decide_eq_false_iff_not] at this
  exact ⟨this.1.1, this.1.2, this.2⟩
 refine ⟨h.1, Vis h.2 (fun y hy => by simp at hy) (fun _ y r' e => ?_), hk⟩
 exact (hk y (by rw [e]; simp)).1.1
def addZ (z : ByteArray) (t s : Int) (m : Mov) : Int := if m.2.1 = z ∧ m.1 ≤ t then s + m.2.2 else s
def peopT (xs : List Mov) (z : ByteArray) (t : Int) : Int := xs.foldl (addZ z t) 0
def nearB (z : ByteArray) (t : Int) (m : Mov) : Bool := decide (m.2.1 = z) && (decide (m.1 ≤ t) && decide (t - m.1 < 30000))
def clrB (xs : List Mov) (z : ByteArray) (t : Int) : Bool := xs.all (fun m => !nearB z t m) && decide (peopT xs z t = 0)
def upN (t : Int) : List Mov → Nat
 | [] => 0
 | m :: r => if m.1 ≤ t then upN t r + 1 else 0
theorem VjI (t : Int) : ∀ xs : List Mov, upN t xs ≤ xs.length := by
 intro xs
 induction xs with
 | nil => simp [upN]
 | cons m r ih => simp only [upN, List.length_cons]; split <;> omega
def SrtM (xs : List Mov) : Prop := xs.Pairwise fun a b => a.1 ≤ b.1
theorem VeL (t : Int) : ∀ (xs : List Mov), SrtM xs → (∀ m ∈ xs.take (upN t xs), m.1 ≤ t) ∧ ∀ m ∈ xs.drop (upN t xs), t < m.1 := by
 intro xs
 induction xs with
 | nil => intro _; simp
 | cons m r ih =>
  intro h
  have h' := List.pairwise_cons.1 h
  have i := ih h'.2
  by_cases hm : m.1 ≤ t
  ·simp only [upN, hm, if_true, List.take_succ_cons, List.drop_succ_cons]
   refine ⟨fun x hx => ?_, i.2⟩
   rcases List.mem_cons.1 hx with rfl | hx
   ·exact hm
   ·exact i.1 x hx
  ·simp only [upN, hm, if_false, List.take_zero, List.drop_zero]
   refine ⟨by simp, fun x hx => ?_⟩
   rcases List.mem_cons.1 hx with rfl | hx
   ·omega
   ·have := h'.1 x hx; omega
theorem Vi9 (z : ByteArray) (t : Int) : ∀ (xs : List Mov) (s : Int), (∀ m ∈ xs, m.1 ≤ t) → xs.foldl (addZ z t) s = xs.foldl (addP z) s := by
 intro xs
 induction xs with
 | nil => intro s _; rfl
 | cons m r ih =>
  intro s h
  have := h m (by simp)
  simp only [List.foldl_cons]
  rw [show addZ z t s m = addP z s m by unfold addZ addP; simp [this]]
  exact ih _ (fun x hx => h x (by simp [hx]))
theorem Viu (z : ByteArray) (t : Int) : ∀ (xs : List Mov) (s : Int), (∀ m ∈ xs, t < m.1) → xs.foldl (addZ z t) s = s := by
 intro xs
 induction xs with
 | nil => intro s _; rfl
 | cons m r ih =>
  intro s h
  have := h m (by simp)
  have n : ¬ m.1 ≤ t := by omega
  simp only [List.foldl_cons]
  rw [show addZ z t s m = s by unfold addZ; simp [n]]
  exact ih _ (fun x hx => h x (by simp [hx]))
theorem Viv {xs : List Mov} (h : SrtM xs) (z : ByteArray) (t : Int) : peopT xs z t = peopS (xs.take (upN t xs)) z := by
 obtain ⟨h1, h2⟩ := VeL t xs h
 unfold peopT peopS
 conv => lhs; rw [← List.take_append_drop (upN t xs) xs]
 rw [List.foldl_append, Vi9 z t _ _ h1, Viu z t _ _ h2]
theorem Vja {xs : List Mov} (h : SrtM xs) (z : ByteArray) (t : Int) : xs.all (fun m => !nearB z t m) = (xs.take (upN t xs)).all (fun m => !(decide (m.2.1 = z) && decide (t < m.1 + 30000))) := by
 obtain ⟨h1, h2⟩ := VeL t xs h
 conv => lhs; rw [← List.take_append_drop (upN t xs) xs]
 rw [List.all_append]
 have e2 : (xs.drop (upN t xs)).all (fun m => !nearB z t m) = true := by
  rw [List.all_eq_true]
  intro m hm
  have n : ¬ m.1 ≤ t := by have := h2 m hm; omega
  simp [nearB, n]
 rw [e2, Bool.and_true, Bool.eq_iff_iff, List.all_eq_true, List.all_eq_true]
 refine forall_congr' fun m => forall_congr' fun hm => ?_
 have a1 := h1 m hm
 have e : decide (t - m.1 < 30000) = decide (t < m.1 + 30000) := by congr 1; exact propext (by omega)
 unfold nearB
 rw [e, decide_eq_true a1, Bool.true_and]
theorem Viw : ∀ {r p : List Mov}, MvI p → SrtM p → movF p r = true → SrtM (p ++ r) ∧ ∀ m ∈ r, movB m = true := by
 intro r
 induction r with
 | nil => intro p _ hs _; rw [List.append_nil]; exact ⟨hs, fun m hm => by cases hm⟩
 | cons m r ih =>
  intro p hI hs h
  simp only [movF, Bool.and_eq_true] at h
  obtain ⟨j1, j2⟩ := Vdp hI h.1 h.2.1
  have hs' : SrtM (p ++ [m]) := by
   unfold SrtM
   rw [List.pairwise_append]
   refine ⟨hs, by simp, fun a ha b hb => ?_⟩
   rw [List.mem_singleton.1 hb]; exact j2 a (by simp [ha])
  have i := ih j1 hs' h.2.2.2
  rw [List.append_assoc, List.singleton_append] at i
  refine ⟨i.1, fun x hx => ?_⟩
  rcases List.mem_cons.1 hx with rfl | hx
  ·exact h.1
  ·exact i.2 x hx
theorem VK {xs : List Mov} (h : Vy xs = true) : xs.length ≤ 40 ∧ SrtM xs ∧ ∀ m ∈ xs, movB m = true := by
 unfold Vy at h
 simp only [Bool.and_eq_true, decide_eq_true_eq] at h
 have := Viw Veo (by simp [SrtM]) h.2
 rw [List.nil_append] at this
 exact ⟨h.1, this⟩
end Go.Pl

namespace Go.Pl
open Go.Ev
set_option linter.unusedVariables false
set_option linter.unusedSimpArgs false
theorem QbJ (c : Ctl) (i : Int) (h : VF c) (h0 : 0 ≤ i ∧ i ≤ 9) : Qau.f c i = some (match giveC c i with | some y => (y, 0) | none => ((false, false, false, false, false, 0), 5)) := by
 obtain ⟨a, b, r, e, s, d⟩ := c
 have hd : 0 ≤ d ∧ d ≤ 4 := h
 have w := w64 (n := d + 1) (by omega) (by omega)
 have hi : i = 0 ∨ i = 1 ∨ i = 2 ∨ i = 3 ∨ i = 4 ∨ i = 5 ∨ i = 6 ∨ i = 7 ∨ i = 8 ∨ i = 9 := by omega
 unfold Qau.f Qau.fn Qau.top Qbl.f Qbl.fn Qbl.top giveC
 rcases hi with rfl | rfl | rfl | rfl | rfl | rfl | rfl | rfl | rfl | rfl
 case inr.inr.inr.inr.inr.inr.inr.inr.inl =>
  simp only [w]
  by_cases h3 : 3 < d + 1
  ·have h4 : d + 1 = 4 ∨ d + 1 = 5 := by omega
   rcases h4 with h4 | h4 <;> simp [h4]
  ·have h4 : ¬ 4 < d + 1 := by omega
   simp [h3, h4]
 all_goals cases a <;> cases b <;> cases r <;> cases e <;> cases s <;> rfl
theorem Qco (c : Ctl) (i : Int) (h : VF c) (h0 : 0 ≤ i ∧ i ≤ 9) : ∃ y : Ctl × Bool, QaT.f c i = some y ∧ y.2 = (giveC c i).isSome ∧ y.1 = giveB c i := by
 obtain ⟨a, b, r, e, s, d⟩ := c
 have hd : 0 ≤ d ∧ d ≤ 4 := h
 have w := w64 (n := d + 1) (by omega) (by omega)
 have hi : i = 0 ∨ i = 1 ∨ i = 2 ∨ i = 3 ∨ i = 4 ∨ i = 5 ∨ i = 6 ∨ i = 7 ∨ i = 8 ∨ i = 9 := by omega
 unfold QaT.f QaT.fn QaT.top Qa8.f Qa8.fn Qa8.top giveB giveC
 rcases hi with rfl | rfl | rfl | rfl | rfl | rfl | rfl | rfl | rfl | rfl
 case inr.inr.inr.inr.inr.inr.inr.inr.inl =>
  simp only [w]
  have hd5 : d = 0 ∨ d = 1 ∨ d = 2 ∨ d = 3 ∨ d = 4 := by omega
  rcases hd5 with rfl | rfl | rfl | rfl | rfl <;> exact ⟨_, rfl, rfl, rfl⟩
 all_goals cases a <;> cases b <;> cases r <;> cases e <;> cases s <;> exact ⟨_, rfl, rfl, rfl⟩
theorem Qc2 (c : Ctl) : Qbj.f c = some (mayC c) := by
 obtain ⟨a, b, r, e, s, d⟩ := c
 cases r <;> rfl
theorem QcQ (a1 a2 a3 a4 a5 : Bool) (a6 : Int) : ∀ (n : Nat) (c : Ctl) (k : Nat), VF c → n ≤ 1000 → n < k → QL.l2 NN k n c a1 a2 a3 a4 a5 a6 = some (tkN n c) := by
 intro n
 induction n with
 | zero =>
  intro c k _ _ hk
  obtain ⟨k, rfl⟩ : ∃ j, k = j + 1 := ⟨k - 1, by omega⟩
  simp [QL.l2, QL.g2, tkN]
 | succ n ih =>
  intro c k hc hn hk
  obtain ⟨k, rfl⟩ : ∃ j, k = j + 1 := ⟨k - 1, by omega⟩
  obtain ⟨y, e1, e2, e3⟩ := Qco c 8 hc (by omega)
  have c0 : (0 : Int) < ((n + 1 : Nat) : Int) := by omega
  have w := w64 (n := ((n + 1 : Nat) : Int) - 1) (by omega) (by omega)
  have e4 : giveB c 8 = tkC c := rfl
  rw [e4] at e3
  simp only [QL.l2, QL.g2, c0, w, e1, e3, and_self, and_true, true_and, decide_true, decide_false, if_true, if_false, Vc, Vd, Va, Vb, Ve, Option.bind_some, Bool.not_true, Bool.not_false, Bool.false_eq_true, Bool.true_eq_false, beq_self_eq_true, bne_self_eq_false, Int.toNat_natCast]
  rw [show ((n + 1 : Nat) : Int) - 1 = (n : Int) by omega]
  exact ih _ k (VcV hc) (by omega) (by omega)
theorem Qb8 (c : Ctl) {n : Int} (hc : VF c) (h0 : 0 ≤ n) : QL.f c n = some (tkN n.toNat c) := by
 unfold QL.f QL.fn QL.top
 have e : (if 5 < n then 5 else n) = ((min n.toNat 5 : Nat) : Int) := by split <;> omega
 rw [e, QcQ _ _ _ _ _ _ _ _ _ hc (by omega) (NN_lt (by omega)), Vi8 hc]
theorem Qde (t : Int) (ht : 0 ≤ t ∧ t ≤ 1000000) (a1 a2 a3 a4 a5 : Bool) (a6 : Int) : ∀ (r p : List Sig) (now : Int) (c : Ctl) (ref : List Int) (k : Nat), p.length + r.length ≤ 1000000 → r.length < k → VF c → 0 ≤ now → now ≤ t → SrtF now r → (∀ m ∈ r, (0 ≤ m.1 ∧ m.1 ≤ 100000) ∧ (0 ≤ m.2 ∧ m.2 ≤ 9)) → ref.length ≤ p.length →
  ∃ q, QR.l4 NN k (p ++ r) t now p.length a1 a2 a3 a4 a5 a6 c ref = some (atR r c now t, q) := by
 intro r
 induction r with
 | nil =>
  intro p now c ref k _ hk hc hn hnt _ _ _
  obtain ⟨k, rfl⟩ : ∃ j, k = j + 1 := ⟨k - 1, by omega⟩
  have w := w64 (n := t - now) (by omega) (by omega)
  refine ⟨ref, ?_⟩
  simp only [List.append_nil, QR.l4, QR.g4, Int.lt_irrefl, w, and_self, and_true, true_and, decide_true, decide_false, if_true, if_false, Vc, Vd, Va, Vb, Ve, Option.bind_some, Bool.not_true, Bool.not_false, Bool.false_eq_true, Bool.true_eq_false, beq_self_eq_true, bne_self_eq_false, Int.toNat_natCast]
  rw [Qb8 c hc (by omega)]; rfl
 | cons m r ih =>
  intro p now c ref k hl hk hc hn hnt hs hm hr
  simp only [List.length_cons] at hl hk
  obtain ⟨k, rfl⟩ : ∃ j, k = j + 1 := ⟨k - 1, by omega⟩
  have hmm := hm m (by simp)
  have hln := Vz p r m
  have c0 : (0 : Int) ≤ (p.length : Int) := by omega
  have c1 : (p.length : Int) < ((p ++ m :: r).length : Int) := by omega
  have cw := w64 (n := (p.length : Int) + 1) (by omega) (by omega)
  have w := w64 (n := t - now) (by omega) (by omega)
  have w2 := w64 (n := m.1 - now) (by omega) (by omega)
  have hs1 := hs.1
  by_cases h : m.1 ≤ t
  ·have hd := Vir (m.1 - now).toNat hc
   obtain ⟨y, e1, e2, e3⟩ := Qco (tkN (m.1 - now).toNat c) m.2 hd hmm.2
   have st : ∀ ref' : List Int, ref'.length ≤ (p ++ [m]).length → ∃ q, QR.l4 NN k (p ++ m :: r) t m.1 ((p.length : Int) + 1) a1 a2 a3 a4 a5 a6 (giveB (tkN (m.1 - now).toNat c) m.2) ref' = some (atR r (giveB (tkN (m.1 - now).toNat c) m.2) m.1 t, q) := by
    intro ref' hr'
    have i := ih (p ++ [m]) m.1 (giveB (tkN (m.1 - now).toNat c) m.2) ref' k (by simp; omega) (by omega) (VbO hd _) (by omega) h hs.2 (fun x hx => hm x (by simp [hx])) hr'
    rwa [Vn, Vo] at i
   simp only [QR.l4, QR.g4, c0, c1, cw, w2, h, and_self, and_true, true_and, decide_true, decide_false, if_true, if_false, Vc, Vd, Va, Vb, Ve, Option.bind_some, Bool.not_true, Bool.not_false, Bool.false_eq_true, Bool.true_eq_false, beq_self_eq_true, bne_self_eq_false, Int.toNat_natCast, atR]
   rw [Qb8 c hc (by omega)]
   simp only [Option.bind_some, e1]
   by_cases hy : y.2 = true
   ·rw [if_pos hy, e3]
    exact st ref (by simp; omega)
   ·rw [if_neg hy]
    have hg : giveB (tkN (m.1 - now).toNat c) m.2 = tkN (m.1 - now).toNat c := by
     unfold giveB
     rw [e2] at hy
     cases hq : giveC (tkN (m.1 - now).toNat c) m.2 with
     | none => rfl
     | some z => rw [hq] at hy; simp at hy
    have i := st (ref ++ [(p.length : Int)]) (by simp; omega)
    rw [hg] at i ⊢
    rw [if_pos (by rw [room8]; simp; omega)]
    exact i
  ·refine ⟨ref, ?_⟩
   simp only [QR.l4, QR.g4, c0, c1, w, h, and_self, and_true, true_and, decide_true, decide_false, if_true, if_false, Vc, Vd, Va, Vb, Ve, Option.bind_some, Bool.not_true, Bool.not_false, Bool.false_eq_true, Bool.true_eq_false, beq_self_eq_true, bne_self_eq_false, Int.toNat_natCast, atR]
   rw [Qb8 c hc (by omega)]; rfl
theorem VcG : VF ((false, false, false, false, false, 0) : Ctl) := by simp [VF]
theorem Qct {l : List Sig} (h : sigsB l = true) {t : Int} (ht : 0 ≤ t ∧ t ≤ 1000000) : ∃ q, QR.f l t = some (ctlAt l t, q) := by
 obtain ⟨h1, h2, h3⟩ := Vaf h
 have := Qde t ht false false false false false 0 l [] 0 (false, false, false, false, false, 0) [] NN (by simp; omega) (NN_lt (by omega)) VcG (by omega) ht.1 h2 (fun m hm => ⟨(h3 m hm).1, (h3 m hm).2.1⟩) (by simp)
 exact this
theorem QcR (xs : List Mov) (z : ByteArray) (t : Int) (h : ∀ m ∈ xs, movB m = true) (hl : xs.length ≤ 1000000) : QE.f xs z t = some (peopT xs z t) := by
 have := (VT (E := fun m : Mov => movB m = true) (fun p st => -(1000 * (p.length : Int)) ≤ st ∧ st ≤ 1000 * (p.length : Int)) (fun _ => addZ z t) (fun st => some st) (fun k i st => QE.l3 NN k z t st xs xs.length i) xs ?_ ?_ 0 h (by simp) (by omega) NN (NN_lt (by omega))).2
 ·rw [VY] at this
  exact this
 ·intro k st _
  simp [QE.l3, QE.g3]
 ·intro k p m r st hx hm hI c0 c1 c2 cw g
  have hb := Vaa hm
  have hp : p.length ≤ 1000000 := by omega
  have w1 := w64 (n := st + m.2.2) (by omega) (by omega)
  refine ⟨by unfold addZ; rw [List.length_append, List.length_singleton]; split <;> omega, ?_⟩
  simp only [QE.l3, QE.g3, c0, c1, cw, and_self, and_true, true_and, decide_true, decide_false, if_true, if_false, Vc, Vd, Va, Vb, Ve, Option.bind_some, Bool.not_true, Bool.not_false, Bool.false_eq_true, Bool.true_eq_false, beq_self_eq_true, bne_self_eq_false, Int.toNat_natCast, g, V3, w1]
  unfold addZ
  by_cases e : m.2.1 = z <;> by_cases q : m.1 ≤ t <;> simp [e, q]
theorem Qcp (xs : List Mov) (z : ByteArray) {t : Int} (ht : 0 ≤ t ∧ t ≤ 1000000000) (h : ∀ m ∈ xs, movB m = true) (hl : xs.length ≤ 1000000) : Q1.f xs z t = some (clrB xs z t) := by
 have := VaZ (E := fun m : Mov => movB m = true) (fun m => !nearB z t m) (fun v => some (decide (peopT xs z t = 0))) (fun k v i => Q1.l2 NN k xs z t v v.length i) ?_ ?_ xs h (by omega) NN (NN_lt (by omega))
 ·unfold Q1.f Q1.fn Q1.top clrB
  rw [this]
  cases xs.all (fun m => !nearB z t m) <;> rfl
 ·intro k p
  simp only [Q1.l2, Q1.g2, Int.lt_irrefl, and_self, and_true, true_and, decide_true, decide_false, if_true, if_false, Vc, Vd, Va, Vb, Ve, Option.bind_some, Bool.not_true, Bool.not_false, Bool.false_eq_true, Bool.true_eq_false, beq_self_eq_true, bne_self_eq_false, Int.toNat_natCast]
  rw [QcR xs z t h hl]
  rfl
 ·intro k p m r hm c0 c1 cw
  have hb := Vaa hm
  have w1 := w64 (n := t - m.1) (by omega) (by omega)
  simp only [Q1.l2, Q1.g2, c0, c1, cw, and_self, and_true, true_and, decide_true, decide_false, if_true, if_false, Vc, Vd, Va, Vb, Ve, Option.bind_some, Bool.not_true, Bool.not_false, Bool.false_eq_true, Bool.true_eq_false, beq_self_eq_true, bne_self_eq_false, Int.toNat_natCast, w1, V3, nearB]
  by_cases e : m.2.1 = z <;> by_cases q : m.1 ≤ t <;> by_cases q2 : t - m.1 < 30000 <;> simp [e, q, q2]
theorem Qcu (xs : List Mov) (zs : List ByteArray) {t : Int} (ht : 0 ≤ t ∧ t ≤ 1000000000) (h : ∀ m ∈ xs, movB m = true) (hl : xs.length ≤ 1000000) (hz : zs.length ≤ 1000000) : Qv.f xs zs t = some (zs.all (clrB xs · t)) := by
 have := VaZ (E := fun _ : ByteArray => True) (clrB xs · t) (fun v => some true) (fun k v i => Qv.l2 NN k xs t v v.length i) ?_ ?_ zs (fun _ _ => trivial) (by omega) NN (NN_lt (by omega))
 ·unfold Qv.f Qv.fn Qv.top
  rw [this]
  cases zs.all (clrB xs · t) <;> rfl
 ·intro k p
  simp [Qv.l2, Qv.g2]
 ·intro k p z r _ c0 c1 cw
  simp only [Qv.l2, Qv.g2, c0, c1, cw, and_self, and_true, true_and, decide_true, decide_false, if_true, if_false, Vc, Vd, Va, Vb, Ve, Option.bind_some, Bool.not_true, Bool.not_false, Bool.false_eq_true, Bool.true_eq_false, beq_self_eq_true, bne_self_eq_false, Int.toNat_natCast]
  rw [Qcp xs z ht h hl]
  cases clrB xs z t <;> rfl
theorem Qc3 (t : Int) : ∀ (r p : List Mov) (k : Nat), p.length + r.length ≤ 1000000 → r.length < k → Q4.l2 NN k (p ++ r) t p.length = some ((p.length + upN t r : Nat) : Int) := by
 intro r
 induction r with
 | nil =>
  intro p k _ hk
  obtain ⟨k, rfl⟩ : ∃ j, k = j + 1 := ⟨k - 1, by omega⟩
  simp [Q4.l2, Q4.g2, upN]
 | cons m r ih =>
  intro p k hl hk
  simp only [List.length_cons] at hl hk
  obtain ⟨k, rfl⟩ : ∃ j, k = j + 1 := ⟨k - 1, by omega⟩
  have hln := Vz p r m
  have c0 : (0 : Int) ≤ (p.length : Int) := by omega
  have c1 : (p.length : Int) < ((p ++ m :: r).length : Int) := by omega
  have cw := w64 (n := (p.length : Int) + 1) (by omega) (by omega)
  have i := ih (p ++ [m]) k (by simp; omega) (by omega)
  rw [Vn, Vo] at i
  by_cases h : m.1 ≤ t
  ·simp only [Q4.l2, Q4.g2, c0, c1, cw, h, and_self, and_true, true_and, decide_true, decide_false, if_true, if_false, Vc, Vd, Va, Vb, Ve, Option.bind_some, Bool.not_true, Bool.not_false, Bool.false_eq_true, Bool.true_eq_false, beq_self_eq_true, bne_self_eq_false, Int.toNat_natCast, i, upN]
   congr 1
   simp only [List.length_append, List.length_singleton]; omega
  ·simp only [Q4.l2, Q4.g2, c0, c1, cw, h, and_self, and_true, true_and, decide_true, decide_false, if_true, if_false, Vc, Vd, Va, Vb, Ve, Option.bind_some, Bool.not_true, Bool.not_false, Bool.false_eq_true, Bool.true_eq_false, beq_self_eq_true, bne_self_eq_false, Int.toNat_natCast, upN]
   rfl
theorem Qc4 (xs : List Mov) (t : Int) (hl : xs.length ≤ 1000000) : Q4.f xs t = some (upN t xs : Int) := by
 have := Qc3 t xs [] NN (by simpa using hl) (NN_lt (by omega))
 rw [List.nil_append] at this
 unfold Q4.f Q4.fn Q4.top
 refine this.trans ?_
 simp
theorem QcS (z : ByteArray) (t : Int) (ht : 0 ≤ t ∧ t ≤ 1000000000) (rest : List Mov) (n : Nat) (v : Int) : ∀ (r p : List Mov) (k : Nat), p.length + r.length = n → (∀ m ∈ r, movB m = true) → QB.f (p ++ (r ++ rest)) z n = some v → n ≤ 1000000 → r.length < k → QP.l3 NN k (p ++ (r ++ rest)) z t n p.length = if r.all (fun m => !(decide (m.2.1 = z) && decide (t < m.1 + 30000))) = true then some (decide (v = 0)) else some false := by
 intro r
 induction r with
 | nil =>
  intro p k hn _ hv _ hk
  obtain ⟨k, rfl⟩ : ∃ j, k = j + 1 := ⟨k - 1, by omega⟩
  have c1 : ¬ (p.length : Int) < (n : Int) := by simp at hn; omega
  rw [List.nil_append] at hv ⊢
  simp only [QP.l3, QP.g3, c1, and_self, and_true, true_and, decide_true, decide_false, if_true, if_false, Vc, Vd, Va, Vb, Ve, Option.bind_some, Bool.not_true, Bool.not_false, Bool.false_eq_true, Bool.true_eq_false, beq_self_eq_true, bne_self_eq_false, Int.toNat_natCast, hv, List.all_nil]
  rfl
 | cons m r ih =>
  intro p k hn hm hv hl hk
  simp only [List.length_cons] at hn hk
  obtain ⟨k, rfl⟩ : ∃ j, k = j + 1 := ⟨k - 1, by omega⟩
  rw [List.cons_append] at hv ⊢
  have hln := Vz p (r ++ rest) m
  have hb := Vaa (hm m (by simp))
  have c0 : (0 : Int) ≤ (p.length : Int) := by omega
  have c1 : (p.length : Int) < ((p ++ m :: (r ++ rest)).length : Int) := by omega
  have c2 : (p.length : Int) < (n : Int) := by omega
  have cw := w64 (n := (p.length : Int) + 1) (by omega) (by omega)
  have w1 := w64 (n := m.1 + 30000) (by omega) (by omega)
  have i := ih (p ++ [m]) k (by simp; omega) (fun x hx => hm x (by simp [hx])) (by rw [Vn]; exact hv) hl (by omega)
  rw [Vn, Vo] at i
  simp only [QP.l3, QP.g3, c0, c1, c2, cw, and_self, and_true, true_and, decide_true, decide_false, if_true, if_false, Vc, Vd, Va, Vb, Ve, Option.bind_some, Bool.not_true, Bool.not_false, Bool.false_eq_true, Bool.true_eq_false, beq_self_eq_true, bne_self_eq_false, Int.toNat_natCast, w1, V3, List.all_cons]
  by_cases e : m.2.1 = z
  ·by_cases q : t < m.1 + 30000
   ·simp [e, q]
   ·simp only [e, q, and_self, and_true, true_and, decide_true, decide_false, if_true, if_false, Vc, Vd, Va, Vb, Ve, Option.bind_some, Bool.not_true, Bool.not_false, Bool.false_eq_true, Bool.true_eq_false, beq_self_eq_true, bne_self_eq_false, Int.toNat_natCast, Bool.and_false]
    exact i
  ·simp only [e, and_self, and_true, true_and, decide_true, decide_false, if_true, if_false, Vc, Vd, Va, Vb, Ve, Option.bind_some, Bool.not_true, Bool.not_false, Bool.false_eq_true, Bool.true_eq_false, beq_self_eq_true, bne_self_eq_false, Int.toNat_natCast, Bool.false_and]
   exact i
theorem Qch (xs : List Mov) (z : ByteArray) {t : Int} (ht : 0 ≤ t ∧ t ≤ 1000000000) (hs : SrtM xs) (h : ∀ m ∈ xs, movB m = true) (hl : xs.length ≤ 1000000) : QP.f xs z t = some (clrB xs z t) := by
 have hu := VjI t xs
 have hpl : (xs.take (upN t xs)).length = upN t xs := by rw [List.length_take]; omega
 have hin : ∀ m ∈ xs.take (upN t xs), movB m = true := fun m hm => h m (List.mem_of_mem_take hm)
 have hsp := Qb6 (xs.take (upN t xs)) (xs.drop (upN t xs)) z hin (by omega)
 rw [List.take_append_drop, hpl, ← Viv hs] at hsp
 have := QcS z t ht (xs.drop (upN t xs)) (upN t xs) (peopT xs z t) (xs.take (upN t xs)) [] NN (by rw [hpl]; simp) hin (by rw [List.nil_append, List.take_append_drop]; exact hsp) (by omega) (NN_lt (by omega))
 rw [List.nil_append, List.take_append_drop] at this
 unfold QP.f QP.fn QP.top clrB
 rw [Qc4 xs t hl, Option.bind_some, Vja hs]
 refine this.trans ?_
 cases (xs.take (upN t xs)).all (fun m => !(decide (m.2.1 = z) && decide (t < m.1 + 30000))) <;> rfl
end Go.Pl

namespace Go.Pl
open Go.Ev
set_option linter.unusedVariables false
set_option linter.unusedSimpArgs false
def ltW (a b : ByteArray) : Bool := Op.bytesLess a.toList b.toList
theorem Vf7 : ∀ (x y z : List UInt8), Op.bytesLess x y = true → Op.bytesLess y z = true → Op.bytesLess x z = true := by
 intro x
 induction x with
 | nil =>
  intro y z h1 h2
  cases z with
  | nil => cases y <;> simp [Op.bytesLess] at h2
  | cons c z => rfl
 | cons a x ih =>
  intro y z h1 h2
  cases y with
  | nil => simp [Op.bytesLess] at h1
  | cons b y =>
   cases z with
   | nil => simp [Op.bytesLess] at h2
   | cons c z =>
    simp only [Op.bytesLess, Bool.or_eq_true, Bool.and_eq_true, decide_eq_true_eq, beq_iff_eq, UInt8.lt_iff_toNat_lt] at h1 h2 ⊢
    rcases h1 with h1 | ⟨rfl, h1⟩
    ·rcases h2 with h2 | ⟨rfl, h2⟩
     ·left; omega
     ·left; exact h1
    ·rcases h2 with h2 | ⟨rfl, h2⟩
     ·left; exact h2
     ·right; exact ⟨rfl, ih y z h1 h2⟩
theorem VhF : ∀ (x : List UInt8), Op.bytesLess x x = false := by
 intro x
 induction x with
 | nil => rfl
 | cons a x ih => simp [Op.bytesLess, ih]
theorem VhG : ∀ (x y : List UInt8), Op.bytesLess x y = true ∨ x = y ∨ Op.bytesLess y x = true := by
 intro x
 induction x with
 | nil => intro y; cases y; exact .inr (.inl rfl); exact .inl rfl
 | cons a x ih =>
  intro y
  cases y with
  | nil => exact .inr (.inr rfl)
  | cons b y =>
   simp only [Op.bytesLess, Bool.or_eq_true, Bool.and_eq_true, decide_eq_true_eq, beq_iff_eq, UInt8.lt_iff_toNat_lt, List.cons.injEq]
   by_cases h : a = b
   ·subst h
    rcases ih y with h | h | h
    ·exact .inl (.inr ⟨rfl, h⟩)
    ·exact .inr (.inl ⟨rfl, h⟩)
    ·exact .inr (.inr (.inr ⟨rfl, h⟩))
   ·have h' : a.toNat ≠ b.toNat := fun e => h (UInt8.toNat_inj.1 e)
    rcases Nat.lt_or_gt_of_ne h' with h | h
    ·exact .inl (.inl h)
    ·exact .inr (.inr (.inl h))
theorem VcH {a b c : ByteArray} (h1 : ltW a b = true) (h2 : ltW b c = true) : ltW a c = true := Vf7 _ _ _ h1 h2
theorem Vep (a : ByteArray) : ltW a a = false := VhF _
theorem VfC {a b : ByteArray} (h : ltW a b = true) : a ≠ b := fun e => by subst e; rw [Vep] at h; cases h
theorem VfD {a b : ByteArray} (h : ltW a b = true) : ltW b a = false := by
 cases h2 : ltW b a
 ·rfl
 ·exact absurd (VcH h h2) (by rw [Vep]; simp)
theorem Vgq (a b : ByteArray) : ltW a b = true ∨ a = b ∨ ltW b a = true := by
 rcases VhG a.toList b.toList with h | h | h
 ·exact .inl h
 ·exact .inr (.inl (ba_toList.1 h))
 ·exact .inr (.inr h)
theorem Vjb {a b : ByteArray} (h1 : ltW a b = false) (h2 : a ≠ b) : ltW b a = true := by
 rcases Vgq a b with h | h | h
 ·rw [h1] at h; cases h
 ·exact absurd h h2
 ·exact h
end Go.Pl

namespace Go.Pl
open Go.Ev
set_option linter.unusedVariables false
set_option linter.unusedSimpArgs false
def SrtW (xs : List ByteArray) : Prop := xs.Pairwise fun a b => ltW a b = true
def insW (w : ByteArray) : List ByteArray → List ByteArray
 | [] => [w]
 | a :: r => if ltW a w = true then a :: insW w r else if a = w then a :: r else w :: a :: r
theorem VfE {w : ByteArray} {r : List ByteArray} : ∀ {p : List ByteArray}, (∀ x ∈ p, ltW x w = true) → insW w (p ++ r) = p ++ insW w r := by
 intro p
 induction p with
 | nil => intro _; rfl
 | cons a p ih => intro h; simp only [List.cons_append, insW, h a (by simp), if_true]; rw [ih fun x hx => h x (by simp [hx])]
theorem Vgr {w : ByteArray} {r : List ByteArray} (h : ∀ x ∈ r, ltW w x = true) : insW w r = w :: r := by
 cases r with
 | nil => rfl
 | cons a r =>
  have h1 := h a (by simp)
  simp only [insW, VfD h1, Bool.false_eq_true, if_false]
  rw [if_neg fun e => VfC h1 e.symm]
theorem VhH {w : ByteArray} {r : List ByteArray} : insW w (w :: r) = w :: r := by simp [insW, Vep]
theorem mem_insW {w x : ByteArray} : ∀ {xs : List ByteArray}, x ∈ insW w xs ↔ x = w ∨ x ∈ xs := by
 intro xs
 induction xs with
 | nil => simp [insW]
 | cons a r ih =>
  simp only [insW]
  split
  ·simp only [List.mem_cons, ih]
   constructor
   ·rintro (h | h | h) <;> simp [h]
   ·rintro (h | h | h) <;> simp [h]
  ·split
   ·rename_i h; subst h; simp
   ·simp
theorem VfF {w : ByteArray} : ∀ {xs : List ByteArray}, SrtW xs → SrtW (insW w xs) := by
 intro xs
 induction xs with
 | nil => intro _; exact List.pairwise_singleton _ _
 | cons a r ih =>
  intro hs
  obtain ⟨h1, h2⟩ := List.pairwise_cons.1 hs
  simp only [insW]
  split
  ·rename_i h
   refine List.pairwise_cons.2 ⟨fun x hx => ?_, ih h2⟩
   rcases mem_insW.1 hx with rfl | hx
   ·exact h
   ·exact h1 x hx
  ·rename_i h
   split
   ·exact hs
   ·rename_i he
    have hlt : ltW w a = true := Vjb (by simpa using h) he
    refine List.pairwise_cons.2 ⟨fun x hx => ?_, hs⟩
    rcases List.mem_cons.1 hx with rfl | hx
    ·exact hlt
    ·exact VcH hlt (h1 x hx)
theorem VfG (w : ByteArray) : ∀ (xs : List ByteArray), (insW w xs).length ≤ xs.length + 1 := by
 intro xs
 induction xs with
 | nil => simp [insW]
 | cons a r ih =>
  simp only [insW]
  split
  ·simp only [List.length_cons]; omega
  ·split <;> simp
theorem VV {n : Nat} (h : n ≤ 2000000) : n < room 16 := by rw [VdZ]; omega
def hitW (w : ByteArray) (xs : List ByteArray) (i : Nat) (a : ByteArray) : List ByteArray := if a = w then xs else xs.take i ++ w :: xs.drop i
theorem VgW (w : ByteArray) : ∀ (r p : List ByteArray), p ++ insW w r = (VS (fun a => !ltW a w) p.length r).elim (p ++ r ++ [w]) (fun x => hitW w (p ++ r) x.1 x.2) := by
 intro r
 induction r with
 | nil => intro p; simp [insW, VS]
 | cons l r ih =>
  intro p
  have := ih (p ++ [l])
  simp only [insW, VS]
  by_cases h : ltW l w = true
  ·simp only [h, if_true, Bool.not_true, Bool.false_eq_true, if_false]
   simp only [List.length_append, List.length_singleton, List.append_assoc, List.singleton_append] at this ⊢
   exact this
  ·simp only [Bool.not_eq_true] at h
   simp only [h, Bool.false_eq_true, if_false, Bool.not_false, if_true, Option.elim, hitW]
   by_cases h2 : l = w <;> simp [h2]
theorem Qce (xs : List ByteArray) (w : ByteArray) (h : xs.length ≤ 1000000) : Qm.f xs w = some (insW w xs) := by
 have := VcC (E := fun _ => True) (fun a => !ltW a w) (fun i a => some (hitW w xs i a)) (fun p => some (p ++ [w])) (fun k p i => if p = xs then Qm.l2 NN k w i p else (VS (fun a => !ltW a w) i.toNat (p.drop i.toNat)).elim (some (p ++ [w])) (fun x => some (hitW w xs x.1 x.2))) ?_ ?_ xs (fun _ _ => trivial) (by omega) NN (NN_lt (by omega))
 ·rw [if_pos rfl] at this
  unfold Qm.f Qm.fn Qm.top
  rw [this]
  have h2 := VgW w xs []
  simp only [List.nil_append, List.length_nil] at h2
  rw [h2]
  cases VS (fun a => !ltW a w) 0 xs <;> rfl
 ·intro k p
  by_cases hp : p = xs
  ·subst hp
   rw [if_pos rfl]
   have q0 : (0 : Int) ≤ (p.length : Int) := by omega
   simp only [Qm.l2, Qm.g2, Int.lt_irrefl, and_self, and_true, true_and, decide_true, decide_false, if_true, if_false, Vc, Vd, Va, Vb, Ve, Option.bind_some, Bool.not_true, Bool.not_false, Bool.false_eq_true, Bool.true_eq_false, beq_self_eq_true, bne_self_eq_false, Int.toNat_natCast, Int.le_refl, q0, List.take_length, List.drop_length, List.nil_append, List.append_nil]
   rw [if_pos (VV (by simp; omega)), if_pos (VV (by simp; omega)), if_pos (VV (by simp; omega))]
  ·rw [if_neg hp]; simp [VS]
 ·intro k p l r _ c0 c1 c2 cw
  by_cases hp : p ++ l :: r = xs
  ·rw [if_pos hp, if_pos hp, hp]
   have c1' : (p.length : Int) < (xs.length : Int) := by rw [← hp]; exact c1
   have g : ∀ z, xs.getD p.length z = l := fun z => by rw [← hp, Va]
   have c3 : (p.length : Int) ≤ (xs.length : Int) := by omega
   simp only [Qm.l2, Qm.g2, c0, c1', c3, cw, and_self, and_true, true_and, decide_true, decide_false, if_true, if_false, Vc, Vd, Va, Vb, Ve, Option.bind_some, Bool.not_true, Bool.not_false, Bool.false_eq_true, Bool.true_eq_false, beq_self_eq_true, bne_self_eq_false, Int.toNat_natCast, g]
   rw [show Op.bytesLess l.toList w.toList = ltW l w from rfl, V3]
   cases h1 : ltW l w
   ·simp only [Bool.false_eq_true, if_false, Bool.not_false, if_true, hitW, decide_eq_true_eq]
    by_cases h2 : l = w
    ·simp only [h2, if_true]
    ·simp only [h2, if_false, List.nil_append]
     rw [if_pos (VV (by simp; omega)), if_pos (VV (by simp; omega)), if_pos (VV (by simp; omega))]
     simp
   ·simp
  ·rw [if_neg hp, if_neg hp]
   have t1 : ((p.length : Int) + 1).toNat = p.length + 1 := by omega
   rw [t1, Int.toNat_natCast, List.drop_left, show p ++ l :: r = (p ++ [l]) ++ r by simp, show p.length + 1 = (p ++ [l]).length by simp, List.drop_left]
   simp only [VS]
   by_cases h1 : ltW l w = true
   ·simp only [h1, Bool.not_true, Bool.false_eq_true, if_false, List.length_append, List.length_singleton]
   ·simp only [Bool.not_eq_true] at h1
    simp only [h1, Bool.not_false, if_true, Option.elim]
theorem Vdr {α : Type} (q s : List α) (e w : α) : (copyL (q ++ s ++ [e]) (q.length + 1) q.length).set q.length w = q ++ w :: s := by
 unfold copyL
 have e1 : (q ++ s ++ [e]).drop q.length = s ++ [e] := by rw [List.append_assoc, List.drop_left]
 have e2 : (q ++ s ++ [e]).length - (q.length + 1) = s.length := by simp; omega
 have e3 : q.length + 1 + min ((q ++ s ++ [e]).length - q.length) ((q ++ s ++ [e]).length - (q.length + 1)) = (q ++ s ++ [e]).length := by simp; omega
 have e4 : ∃ h, (q ++ s ++ [e]).take (q.length + 1) = q ++ [h] := by
  cases s with
  | nil => exact ⟨e, by rw [List.append_nil, List.take_of_length_le (by simp)]⟩
  | cons y s =>
   refine ⟨y, ?_⟩
   rw [show q ++ y :: s ++ [e] = (q ++ [y]) ++ (s ++ [e]) by simp, show q.length + 1 = (q ++ [y]).length by simp, List.take_left]
 obtain ⟨h, e4⟩ := e4
 rw [e3, e2, e1, e4, List.drop_length, List.take_left]
 simp
theorem VeM {α : Type} (q s : List α) (e : α) : (copyL (q ++ s ++ [e]) (q.length + 1) q.length).length = q.length + s.length + 1 := by
 have := congrArg List.length (Vdr q s e e)
 simp only [List.length_set, List.length_append, List.length_cons] at this
 omega
theorem VhI (w : ByteArray) : ∀ (n : Nat) (q s : List ByteArray) (k : Nat), q.length = n → SrtW (q ++ s) → (∀ y ∈ s, ltW w y = true) → (q ++ s).length ≤ 1000000 → n < k →
  Q6.l2 NN k w (n : Int) (q ++ s) = some (insW w (q ++ s)) := by
 intro n
 induction n with
 | zero =>
  intro q s k hq hs hu hl hk
  obtain ⟨k, rfl⟩ : ∃ j, k = j + 1 := ⟨k - 1, by omega⟩
  obtain rfl := List.eq_nil_of_length_eq_zero hq
  simp only [List.nil_append] at hl ⊢
  have w1 := w64 (n := ((0 : Nat) : Int) + 1) (by omega) (by omega)
  have hc := Vdr [] s ⟨#[]⟩ w
  have hcl := VeM [] s (⟨#[]⟩ : ByteArray)
  simp only [List.nil_append, List.length_nil, Nat.zero_add] at hc hcl
  have n1 : ¬ (0 : Int) < ((0 : Nat) : Int) := by omega
  have n2 : (0 : Int) ≤ ((0 : Nat) : Int) := by omega
  have n3 : (0 : Int) ≤ ((0 : Nat) : Int) + 1 := by omega
  have n4 : ((0 : Nat) : Int) + 1 ≤ ((s ++ [(⟨#[]⟩ : ByteArray)]).length : Int) := by simp; omega
  have n5 : ((0 : Nat) : Int) ≤ ((s ++ [(⟨#[]⟩ : ByteArray)]).length : Int) := by omega
  have n6 : ((0 : Nat) : Int) < ((copyL (s ++ [(⟨#[]⟩ : ByteArray)]) 1 0).length : Int) := by rw [hcl]; omega
  have t1 : (((0 : Nat) : Int) + 1).toNat = 1 := rfl
  have hr := VV (n := s.length + [(⟨#[]⟩ : ByteArray)].length) (by simp; omega)
  simp only [Q6.l2, Q6.g2, n1, n2, n3, n4, n5, n6, w1, t1, hr, and_self, and_true, true_and, decide_true, decide_false, if_true, if_false, Vc, Vd, Va, Vb, Ve, Option.bind_some, Bool.not_true, Bool.not_false, Bool.false_eq_true, Bool.true_eq_false, beq_self_eq_true, bne_self_eq_false, Int.toNat_natCast]
  rw [hc, Vgr hu]
 | succ n ih =>
  intro q s k hq hs hu hl hk
  obtain ⟨k, rfl⟩ : ∃ j, k = j + 1 := ⟨k - 1, by omega⟩
  obtain ⟨q', x, rfl⟩ : ∃ q' x, q = q' ++ [x] := by
   rcases List.eq_nil_or_concat q with h | ⟨q', x, h⟩
   ·rw [h] at hq; simp at hq
   ·exact ⟨q', x, by rw [h]; simp⟩
  have hq' : q'.length = n := by simpa using hq
  have hll : q'.length + s.length + 1 ≤ 1000000 := by simpa [Nat.add_assoc, Nat.add_comm, Nat.add_left_comm] using hl
  have w1 := w64 (n := ((n + 1 : Nat) : Int) - 1) (by omega) (by omega)
  have w2 := w64 (n := ((n + 1 : Nat) : Int) + 1) (by omega) (by omega)
  have n1 : (0 : Int) < ((n + 1 : Nat) : Int) := by omega
  have n2 : (0 : Int) ≤ ((n + 1 : Nat) : Int) - 1 := by omega
  have n3 : ((n + 1 : Nat) : Int) - 1 < ((q' ++ [x] ++ s).length : Int) := by simp; omega
  have t1 : (((n + 1 : Nat) : Int) - 1).toNat = q'.length := by omega
  have g : ∀ z, (q' ++ [x] ++ s).getD q'.length z = x := fun z => by rw [List.append_assoc, List.singleton_append, Va]
  have e1 : ((n + 1 : Nat) : Int) - 1 = (n : Int) := by omega
  simp only [Q6.l2, Q6.g2, n1, n2, n3, w1, t1, g, and_self, and_true, true_and, decide_true, decide_false, if_true, if_false, Vc, Vd, Va, Vb, Ve, Option.bind_some, Bool.not_true, Bool.not_false, Bool.false_eq_true, Bool.true_eq_false, beq_self_eq_true, bne_self_eq_false, Int.toNat_natCast]
  rw [show Op.bytesLess x.toList w.toList = ltW x w from rfl, V3]
  have hs' : SrtW (q' ++ x :: s) := by simpa using hs
  obtain ⟨p1, p2, p3⟩ := List.pairwise_append.1 hs'
  have hbelow : ∀ y ∈ q', ltW y x = true := fun y hy => p3 y hy x (by simp)
  rcases Vgq x w with h | h | h
  ·have hne := VfC h
   simp only [h, hne, decide_false, Bool.or_false, Bool.not_true, Bool.false_eq_true, if_false]
   have hc := Vdr (q' ++ [x]) s ⟨#[]⟩ w
   have hcl := VeM (q' ++ [x]) s (⟨#[]⟩ : ByteArray)
   have hqn : (q' ++ [x]).length = n + 1 := by simp [hq']
   rw [hqn] at hc hcl
   have n4 : (0 : Int) ≤ ((n + 1 : Nat) : Int) + 1 := by omega
   have n5 : ((n + 1 : Nat) : Int) + 1 ≤ ((q' ++ [x] ++ s ++ [(⟨#[]⟩ : ByteArray)]).length : Int) := by simp; omega
   have n6 : (0 : Int) ≤ ((n + 1 : Nat) : Int) := by omega
   have n7 : ((n + 1 : Nat) : Int) ≤ ((q' ++ [x] ++ s ++ [(⟨#[]⟩ : ByteArray)]).length : Int) := by omega
   have t2 : (((n + 1 : Nat) : Int) + 1).toNat = n + 1 + 1 := by omega
   have t3 : ((n + 1 : Nat) : Int).toNat = n + 1 := by omega
   have n8 : ((n + 1 : Nat) : Int) < ((copyL (q' ++ [x] ++ s ++ [(⟨#[]⟩ : ByteArray)]) (n + 1 + 1) (n + 1)).length : Int) := by rw [hcl]; omega
   have hr := VV (n := (q' ++ [x] ++ s).length + [(⟨#[]⟩ : ByteArray)].length) (by simp; omega)
   simp only [n4, n5, n6, n7, n8, w2, t2, t3, hr, and_self, if_true]
   rw [hc, VfE (p := q' ++ [x]) (r := s) (fun y hy => ?_), Vgr hu]
   rcases List.mem_append.1 hy with hy | hy
   ·exact VcH (hbelow y hy) h
   ·rw [List.mem_singleton.1 hy]; exact h
  ·subst h
   simp only [decide_true, Bool.or_true, Bool.not_true, Bool.false_eq_true, if_false, if_true]
   rw [show q' ++ [x] ++ s = q' ++ x :: s by simp, VfE hbelow, VhH]
  ·have hne : ¬ x = w := fun e => VfC h e.symm
   simp only [VfD h, hne, decide_false, Bool.or_false, Bool.not_false, if_true]
   rw [e1, show q' ++ [x] ++ s = q' ++ (x :: s) by simp]
   refine ih q' (x :: s) k hq' hs' (fun y hy => ?_) (by simpa [Nat.add_assoc] using hl) (by omega)
   rcases List.mem_cons.1 hy with rfl | hy
   ·exact h
   ·exact hu y hy
theorem Qcq (xs : List ByteArray) (w : ByteArray) (hs : SrtW xs) (h : xs.length ≤ 1000000) : Q6.f xs w = some (insW w xs) := by
 have := VhI w xs.length xs [] NN rfl (by simpa using hs) (by simp) (by simpa using h) (NN_lt (by omega))
 rw [List.append_nil] at this
 exact this
end Go.Pl

namespace Go.Pl
open Go.Ev
set_option linter.unusedVariables false
set_option linter.unusedSimpArgs false
theorem VcW {n : Nat} (h : n ≤ 2000000) : n < room 32 := by rw [VaR]; omega
def amR (xs : List Mov) (m : Mov) : List Mov × Int := if Vy xs = true then (if xs.length = 40 then ([], 3) else if Vy (xs ++ [m]) = true then (xs ++ [m], 0) else ([], 5)) else ([], 1)
theorem VcI (xs : List Mov) (m : Mov) (h1 : xs.length ≤ 1000000) (h2 : ∀ m ∈ xs, Sz m.2.1) (h3 : Sz m.2.1) : Qal.f xs m = some (amR xs m) ∧ Qap.f xs m = some (amR xs m) := by
 have hz : ∀ y ∈ xs ++ [m], Sz y.2.1 := fun y hy => by
  rcases List.mem_append.1 hy with h | h
  ·exact h2 y h
  ·rw [List.mem_singleton.1 h]; exact h3
 unfold Qal.f Qal.fn Qal.top Qap.f Qap.fn Qap.top amR
 rw [QbN xs h1 h2, QbM xs h1 h2]
 cases hb : Vy xs
 ·exact ⟨rfl, rfl⟩
 have hl := (VK hb).1
 simp only [and_self, and_true, true_and, decide_true, decide_false, if_true, if_false, Vc, Vd, Va, Vb, Ve, Option.bind_some, Bool.not_true, Bool.not_false, Bool.false_eq_true, Bool.true_eq_false, beq_self_eq_true, bne_self_eq_false, Int.toNat_natCast]
 by_cases h40 : xs.length = 40
 ·have e : ((xs.length : Int) == 40) = true := by rw [h40]; rfl
  simp [e, h40]
 have e : ((xs.length : Int) == 40) = false := by simpa using (show ¬ (xs.length : Int) = 40 by omega)
 have r1 : ([] : List Mov).length + xs.length < room 32 := VcW (by simp; omega)
 have r2 : (([] : List Mov) ++ xs).length + [m].length < room 32 := VcW (by simp; omega)
 have r3 : (xs ++ [m]).length ≤ 1000000 := by simp; omega
 rw [List.nil_append] at r2
 simp only [List.nil_append, e, h40, r1, r2, and_self, and_true, true_and, decide_true, decide_false, if_true, if_false, Vc, Vd, Va, Vb, Ve, Option.bind_some, Bool.not_true, Bool.not_false, Bool.false_eq_true, Bool.true_eq_false, beq_self_eq_true, bne_self_eq_false, Int.toNat_natCast]
 rw [QbN _ r3 hz, QbM _ r3 hz]
 cases Vy (xs ++ [m]) <;> exact ⟨rfl, rfl⟩
def icR (xs : List Mov) (z : ByteArray) (t : Int) : Bool × Int := if Vy xs = true then (if wordB z = true then (if inB t 0 10000000 = true then (clrB xs z t, 0) else (false, 2)) else (false, 1)) else (false, 1)
theorem VfH (xs : List Mov) (z : ByteArray) (t : Int) (h1 : xs.length ≤ 1000000) (h2 : ∀ m ∈ xs, Sz m.2.1) (h3 : Sz z) : Qa6.f xs z t = some (icR xs z t) ∧ Qa2.f xs z t = some (icR xs z t) := by
 unfold Qa6.f Qa6.fn Qa6.top Qbb.f Qbb.fn Qbb.top Qa2.f Qa2.fn Qa2.top QaR.f QaR.fn QaR.top icR
 rw [QbN xs h1 h2, QbM xs h1 h2, QbV z h3, QbU z h3, QbI, Qb3]
 cases hb : Vy xs
 ·exact ⟨rfl, rfl⟩
 cases hw : wordB z
 ·exact ⟨rfl, rfl⟩
 cases ht : inB t 0 10000000
 ·exact ⟨rfl, rfl⟩
 obtain ⟨m1, m2, m3⟩ := VK hb
 have ht' := inB_iff.1 ht
 have e : ((0 : Int) != 0) = false := rfl
 simp only [e, and_self, and_true, true_and, decide_true, decide_false, if_true, if_false, Vc, Vd, Va, Vb, Ve, Option.bind_some, Bool.not_true, Bool.not_false, Bool.false_eq_true, Bool.true_eq_false, beq_self_eq_true, bne_self_eq_false, Int.toNat_natCast]
 rw [Qch xs z (by omega) m2 m3 h1, Qcp xs z (by omega) m3 h1]
 exact ⟨rfl, rfl⟩
def insRv (x : Sig) : List Sig → List Sig → List Sig
 | [], q => x :: q
 | y :: p, q => if x.1 < y.1 then insRv x p (y :: q) else (y :: p).reverse ++ x :: q
def insS (xs : List Sig) (x : Sig) : List Sig := insRv x xs.reverse []
def fin5 (xs : List Sig) : List Sig × Int := if sigsB xs = true then (xs, 0) else ([], 5)
def asR (xs : List Sig) (x : Sig) : List Sig × Int := if sigsB xs = true then (if xs.length = 40 then ([], 3) else fin5 (insS xs x)) else ([], 1)
theorem Qda (xs : List Sig) (h : xs.length ≤ 1000000) : ((Qo.f xs).bind fun r => if (!r) = true then some ([], 5) else some (xs, 0)) = some (fin5 xs) := by
 rw [QbG xs h]
 unfold fin5
 cases sigsB xs <;> rfl
theorem Qdb (xs : List Sig) (h : xs.length ≤ 1000000) : ((Qq.f xs).bind fun r => if (!r) = true then some ([], 5) else some (xs, 0)) = some (fin5 xs) := by
 rw [QbH xs h]
 unfold fin5
 cases sigsB xs <;> rfl
theorem QcC (x : Sig) : ∀ (p q : List Sig) (k : Nat), p.length + q.length ≤ 100000 → p.length < k → Qj.l7 NN k p.length (p.reverse ++ x :: q) = some (fin5 (insRv x p q)) := by
 intro p
 induction p with
 | nil =>
  intro q k hl hk
  obtain ⟨k, rfl⟩ : ∃ j, k = j + 1 := ⟨k - 1, by omega⟩
  have n0 : ¬ (0 : Int) < (([] : List Sig).length : Int) := by simp
  simp only [Qj.l7, Qj.g7, n0, and_self, and_true, true_and, decide_true, decide_false, if_true, if_false, Vc, Vd, Va, Vb, Ve, Option.bind_some, Bool.not_true, Bool.not_false, Bool.false_eq_true, Bool.true_eq_false, beq_self_eq_true, bne_self_eq_false, Int.toNat_natCast, List.reverse_nil, List.nil_append, insRv]
  exact Qda _ (by simp at hl ⊢; omega)
 | cons y p ih =>
  intro q k hl hk
  simp only [List.length_cons] at hl hk
  obtain ⟨k, rfl⟩ : ∃ j, k = j + 1 := ⟨k - 1, by omega⟩
  have hr : (y :: p).reverse ++ x :: q = p.reverse ++ y :: x :: q := by simp
  have hpl : p.reverse.length = p.length := List.length_reverse
  have hc : ((y :: p).length : Int) = (p.length : Int) + 1 := by simp
  have w := w64 (n := (p.length : Int) + 1 - 1) (by omega) (by omega)
  rw [Int.add_sub_cancel] at w
  have c0 : (0 : Int) < (p.length : Int) + 1 := by omega
  have c1 : (0 : Int) ≤ (p.length : Int) := by omega
  have c1' : (0 : Int) ≤ (p.length : Int) + 1 := by omega
  have hlen : ((p.reverse ++ y :: x :: q).length : Int) = (p.length : Int) + q.length + 2 := by simp; omega
  have c2 : (p.length : Int) < ((p.reverse ++ y :: x :: q).length : Int) := by omega
  have c3 : (p.length : Int) + 1 < ((p.reverse ++ y :: x :: q).length : Int) := by omega
  have g1 : ∀ z, (p.reverse ++ y :: x :: q).getD p.length z = y := fun z => by
   have := Va p.reverse (x :: q) y z
   rwa [hpl] at this
  have g2 : ∀ z, (p.reverse ++ y :: x :: q).getD ((p.length : Int) + 1).toNat z = x := fun z => by
   have := Va (p.reverse ++ [y]) q x z
   rw [Vn] at this
   rw [show ((p.length : Int) + 1).toNat = (p.reverse ++ [y]).length by simp]
   exact this
  have s1 : (p.reverse ++ y :: x :: q).set p.length x = p.reverse ++ x :: x :: q := by
   have := Vb p.reverse (x :: q) y x
   rwa [hpl] at this
  have s2 : (p.reverse ++ x :: x :: q).set ((p.length : Int) + 1).toNat y = p.reverse ++ x :: y :: q := by
   have := Vb (p.reverse ++ [x]) q x y
   rw [Vn, Vn] at this
   rw [show ((p.length : Int) + 1).toNat = (p.reverse ++ [x]).length by simp]
   exact this
  have c4 : (p.length : Int) + 1 < ((p.reverse ++ x :: x :: q).length : Int) := by simp; omega
  rw [hr, hc]
  simp only [Qj.l7, Qj.g7, c0, Int.add_sub_cancel, w, c1, c1', c2, c3, g1, g2, s1, c4, s2, and_self, and_true, true_and, decide_true, decide_false, if_true, if_false, Vc, Vd, Va, Vb, Ve, Option.bind_some, Bool.not_true, Bool.not_false, Bool.false_eq_true, Bool.true_eq_false, beq_self_eq_true, bne_self_eq_false, Int.toNat_natCast, insRv]
  by_cases h : x.1 < y.1
  ·simp only [h, and_self, and_true, true_and, decide_true, decide_false, if_true, if_false, Vc, Vd, Va, Vb, Ve, Option.bind_some, Bool.not_true, Bool.not_false, Bool.false_eq_true, Bool.true_eq_false, beq_self_eq_true, bne_self_eq_false, Int.toNat_natCast]
   exact ih (y :: q) k (by simp; omega) (by omega)
  ·simp only [h, and_self, and_true, true_and, decide_true, decide_false, if_true, if_false, Vc, Vd, Va, Vb, Ve, Option.bind_some, Bool.not_true, Bool.not_false, Bool.false_eq_true, Bool.true_eq_false, beq_self_eq_true, bne_self_eq_false, Int.toNat_natCast]
   rw [← hr]
   exact Qda _ (by simp; omega)
theorem QcD (x : Sig) : ∀ (p q : List Sig) (k : Nat), p.length + q.length ≤ 100000 → p.length < k → Ql.l6 NN k (p.reverse ++ q) p.length x = some (fin5 (insRv x p q)) := by
 intro p
 induction p with
 | nil =>
  intro q k hl hk
  obtain ⟨k, rfl⟩ : ∃ j, k = j + 1 := ⟨k - 1, by omega⟩
  simp only [List.length_nil] at hl
  show Ql.l6 NN (k + 1) q 0 x = some (fin5 (x :: q))
  have n2 : (0 : Int) ≤ (q.length : Int) := by omega
  have r1 : ([] : List Sig).length + [x].length < room 16 := VV (by simp)
  have r2 : [x].length + q.length < room 16 := VV (by simp; omega)
  have r0 : ([] : List Sig).length + ([] : List Sig).length < room 16 := VV (by simp)
  simp only [Ql.l6, Ql.g6, Int.lt_irrefl, Int.le_refl, n2, and_self, and_true, true_and, decide_true, decide_false, if_true, if_false, Vc, Vd, Va, Vb, Ve, Option.bind_some, Bool.not_true, Bool.not_false, Bool.false_eq_true, Bool.true_eq_false, beq_self_eq_true, bne_self_eq_false, Int.toNat_natCast, Int.toNat_zero, List.take_zero, List.drop_zero, List.nil_append, r0, r1, r2]
  exact Qdb _ (by simp; omega)
 | cons y p ih =>
  intro q k hl hk
  simp only [List.length_cons] at hl hk
  obtain ⟨k, rfl⟩ : ∃ j, k = j + 1 := ⟨k - 1, by omega⟩
  have hr : (y :: p).reverse ++ q = p.reverse ++ y :: q := by simp
  have hpl : p.reverse.length = p.length := List.length_reverse
  have hc : ((y :: p).length : Int) = (p.length : Int) + 1 := by simp
  have w := w64 (n := (p.length : Int) + 1 - 1) (by omega) (by omega)
  rw [Int.add_sub_cancel] at w
  have c0 : (0 : Int) < (p.length : Int) + 1 := by omega
  have c1 : (0 : Int) ≤ (p.length : Int) := by omega
  have c1' : (0 : Int) ≤ (p.length : Int) + 1 := by omega
  have hlen : ((p.reverse ++ y :: q).length : Int) = (p.length : Int) + q.length + 1 := by simp; omega
  have c2 : (p.length : Int) < ((p.reverse ++ y :: q).length : Int) := by omega
  have c3 : (p.length : Int) + 1 ≤ ((p.reverse ++ y :: q).length : Int) := by omega
  have g1 : ∀ z, (p.reverse ++ y :: q).getD p.length z = y := fun z => by
   have := Va p.reverse q y z
   rwa [hpl] at this
  have tk : (p.reverse ++ y :: q).take ((p.length : Int) + 1).toNat = p.reverse ++ [y] := by
   have t := List.take_left (l₁ := p.reverse ++ [y]) (l₂ := q)
   rw [Vn] at t
   rw [show ((p.length : Int) + 1).toNat = (p.reverse ++ [y]).length by simp]
   exact t
  have dr : (p.reverse ++ y :: q).drop ((p.length : Int) + 1).toNat = q := by
   have t := List.drop_left (l₁ := p.reverse ++ [y]) (l₂ := q)
   rw [Vn] at t
   rw [show ((p.length : Int) + 1).toNat = (p.reverse ++ [y]).length by simp]
   exact t
  rw [hr, hc]
  simp only [Ql.l6, Ql.g6, c0, Int.add_sub_cancel, w, c1, c1', c2, c3, g1, and_self, and_true, true_and, decide_true, decide_false, if_true, if_false, Vc, Vd, Va, Vb, Ve, Option.bind_some, Bool.not_true, Bool.not_false, Bool.false_eq_true, Bool.true_eq_false, beq_self_eq_true, bne_self_eq_false, Int.toNat_natCast, insRv]
  by_cases h : x.1 < y.1
  ·simp only [h, and_self, and_true, true_and, decide_true, decide_false, if_true, if_false, Vc, Vd, Va, Vb, Ve, Option.bind_some, Bool.not_true, Bool.not_false, Bool.false_eq_true, Bool.true_eq_false, beq_self_eq_true, bne_self_eq_false, Int.toNat_natCast]
   have := ih (y :: q) k (by simp; omega) (by omega)
   exact this
  ·have r1 : ([] : List Sig).length + (p.reverse ++ [y]).length < room 16 := VV (by simp; omega)
   have r2 : (p.reverse ++ [y]).length + [x].length < room 16 := VV (by simp; omega)
   have r3 : ((p.reverse ++ [y]) ++ [x]).length + q.length < room 16 := VV (by simp; omega)
   simp only [h, tk, dr, r1, r2, r3, List.nil_append, and_self, and_true, true_and, decide_true, decide_false, if_true, if_false, Vc, Vd, Va, Vb, Ve, Option.bind_some, Bool.not_true, Bool.not_false, Bool.false_eq_true, Bool.true_eq_false, beq_self_eq_true, bne_self_eq_false, Int.toNat_natCast]
   have e : (y :: p).reverse ++ x :: q = (p.reverse ++ [y]) ++ [x] ++ q := by simp
   rw [e]
   exact Qdb _ (by simp; omega)
theorem Veq (xs : List Sig) (x : Sig) (h : xs.length ≤ 1000000) : Ql.f xs x = some (asR xs x) ∧ Qj.f xs x = some (asR xs x) := by
 unfold Ql.f Ql.fn Ql.top Qj.f Qj.fn Qj.top asR
 rw [QbH xs h, QbG xs h]
 cases hb : sigsB xs
 ·exact ⟨rfl, rfl⟩
 have hl := (Vaf hb).1
 simp only [and_self, and_true, true_and, decide_true, decide_false, if_true, if_false, Vc, Vd, Va, Vb, Ve, Option.bind_some, Bool.not_true, Bool.not_false, Bool.false_eq_true, Bool.true_eq_false, beq_self_eq_true, bne_self_eq_false, Int.toNat_natCast]
 by_cases h40 : xs.length = 40
 ·have e : ((xs.length : Int) == 40) = true := by rw [h40]; rfl
  simp [e, h40]
 have e : ((xs.length : Int) == 40) = false := by simpa using (show ¬ (xs.length : Int) = 40 by omega)
 have r1 : ([] : List Sig).length + xs.length < room 16 := VV (by simp; omega)
 have r2 : xs.length + [x].length < room 16 := VV (by simp; omega)
 have a1 := QcD x xs.reverse [] NN (by simp; omega) (NN_lt (by simp; omega))
 have a2 := QcC x xs.reverse [] NN (by simp; omega) (NN_lt (by simp; omega))
 simp only [List.reverse_reverse, List.append_nil, List.length_reverse] at a1 a2
 have w : IntKind.i64.wrap (((xs ++ [x]).length : Int) - 1) = (xs.length : Int) := by
  rw [show ((xs ++ [x]).length : Int) - 1 = (xs.length : Int) by simp]
  exact w64 (by omega) (by omega)
 refine ⟨?_, ?_⟩
 ·simp only [e, h40, and_self, and_true, true_and, decide_true, decide_false, if_true, if_false, Vc, Vd, Va, Vb, Ve, Option.bind_some, Bool.not_true, Bool.not_false, Bool.false_eq_true, Bool.true_eq_false, beq_self_eq_true, bne_self_eq_false, Int.toNat_natCast]
  exact a1
 ·simp only [e, h40, List.nil_append, r1, r2, w, and_self, and_true, true_and, decide_true, decide_false, if_true, if_false, Vc, Vd, Va, Vb, Ve, Option.bind_some, Bool.not_true, Bool.not_false, Bool.false_eq_true, Bool.true_eq_false, beq_self_eq_true, bne_self_eq_false, Int.toNat_natCast]
  exact a2
end Go.Pl

namespace Go.Pl
open Go.Ev
set_option linter.unusedVariables false
set_option linter.unusedSimpArgs false
def tkT (t : Int) : Int := Int.tdiv t 100
theorem VcJ {t : Int} (h : 0 ≤ t ∧ t ≤ 10000000) : 0 ≤ tkT t ∧ tkT t ≤ 100000 := by
 unfold tkT
 rw [Int.tdiv_eq_ediv_of_nonneg h.1]; omega
def firT (l : List Sig) (ms : List Mov) (zs : List ByteArray) (t : Int) : Int := if (mayC (ctlAt l (tkT t)) && zs.all (clrB ms · (tkT t * 100))) = true then tkT t else -1
def firF (l : List Sig) (ms : List Mov) (zs : List ByteArray) (T t : Int) : Int := if tkT t < T then firT l ms zs t else -1
abbrev LF := List Int → List Mov → List ByteArray → Int → List Int → List Sig → Int → Int → Ctl → List Int → Option (List Int)
theorem nn0 : 0 < NN := NN_lt (by omega)
theorem Vf8 (L10 : LF) (times : List Int) (ms : List Mov) (zs : List ByteArray) (last : Int) (o1 : List Int) (b1 : List Sig) (b2 b3 : Int) (b4 : Ctl) (b5 : List Int) (out : List Int) (T : Int) : ∀ (r p : List Sig) (c : Ctl) (ref : List Int) (k : Nat), p.length + r.length ≤ 1000000 → r.length < k → VF c → SrtF T r → (∀ m ∈ r, 0 ≤ m.2 ∧ m.2 ≤ 9) → ref.length ≤ p.length →
    ∃ (p' r' : List Sig) (c' : Ctl) (ref' : List Int), p' ++ r' = p ++ r ∧ SrtF (T + 1) r' ∧ VF c' ∧ ref'.length ≤ p'.length ∧ (∀ t, T ≤ t → atR r' c' T t = atR r c T t) ∧ (∀ m ∈ r', 0 ≤ m.2 ∧ m.2 ≤ 9) ∧
      Qb.l120000001 NN L10 k times ms zs last o1 b1 b2 b3 b4 b5 out (p ++ r) p.length T c ref = Qb.l1000012 NN L10 NN times ms zs last out (p ++ r) p'.length T c' ref' := by
  intro r
  induction r with
  | nil =>
    intro p c ref k _ hk hc _ _ hr
    obtain ⟨k, rfl⟩ : ∃ j, k = j + 1 := ⟨k - 1, by omega⟩
    refine ⟨p, [], c, ref, rfl, trivial, hc, hr, fun _ _ => rfl, by simp, ?_⟩
    simp only [List.append_nil, Qb.l120000001, Qb.g120000001, Int.lt_irrefl, and_self, and_true, true_and, decide_true, decide_false, if_true, if_false, Vc, Vd, Va, Vb, Ve, Option.bind_some, Bool.not_true, Bool.not_false, Bool.false_eq_true, Bool.true_eq_false, beq_self_eq_true, bne_self_eq_false, Int.toNat_natCast]
  | cons m r ih =>
    intro p c ref k hl hk hc hs hm hr
    simp only [List.length_cons] at hl hk
    obtain ⟨k, rfl⟩ : ∃ j, k = j + 1 := ⟨k - 1, by omega⟩
    have hln := Vz p r m
    have c0 : (0 : Int) ≤ (p.length : Int) := by omega
    have c1 : (p.length : Int) < ((p ++ m :: r).length : Int) := by omega
    have cw := w64 (n := (p.length : Int) + 1) (by omega) (by omega)
    have hs1 := hs.1
    by_cases h : m.1 = T
    · have st : ∀ (c1 : Ctl) (ref1 : List Int), c1 = giveB c m.2 → ref1.length ≤ p.length + 1 → ∃ (p' r' : List Sig) (c' : Ctl) (ref' : List Int), p' ++ r' = p ++ m :: r ∧ SrtF (T + 1) r' ∧ VF c' ∧ ref'.length ≤ p'.length ∧ (∀ t, T ≤ t → atR r' c' T t = atR (m :: r) c T t) ∧ (∀ m ∈ r', 0 ≤ m.2 ∧ m.2 ≤ 9) ∧
          Qb.l120000001 NN L10 k times ms zs last o1 b1 b2 b3 b4 b5 out (p ++ m :: r) ((p.length : Int) + 1) T c1 ref1 = Qb.l1000012 NN L10 NN times ms zs last out (p ++ m :: r) p'.length T c' ref' := by
        intro c1 ref1 e1 hr1
        have i := ih (p ++ [m]) c1 ref1 k (by simp; omega) (by omega) (by rw [e1]; exact VbO hc _) (by rw [← h]; exact hs.2) (fun x hx => hm x (by simp [hx])) (by simp; omega)
        rw [Vn, Vo] at i
        obtain ⟨p', r', c', ref', i1, i2, i3, i4, i5, i6, i7⟩ := i
        refine ⟨p', r', c', ref', i1, i2, i3, i4, fun t ht => ?_, i6, i7⟩
        rw [i5 t ht, e1, show m = (T, m.2) by rw [← h], Vdq T m.2 r c ht]
      have hg := QbJ c m.2 hc (hm m (by simp))
      have e0 : (m.1 == T) = true := by rw [h]; simp
      simp only [Qb.l120000001, Qb.g120000001, c0, c1, cw, e0, hg, and_self, and_true, true_and, decide_true, decide_false, if_true, if_false, Vc, Vd, Va, Vb, Ve, Option.bind_some, Bool.not_true, Bool.not_false, Bool.false_eq_true, Bool.true_eq_false, beq_self_eq_true, bne_self_eq_false, Int.toNat_natCast]
      cases hq : giveC c m.2 with
      | some y =>
        simp only [and_self, and_true, true_and, decide_true, decide_false, if_true, if_false, Vc, Vd, Va, Vb, Ve, Option.bind_some, Bool.not_true, Bool.not_false, Bool.false_eq_true, Bool.true_eq_false, beq_self_eq_true, bne_self_eq_false, Int.toNat_natCast]
        exact st y ref (by unfold giveB; rw [hq]; rfl) (by omega)
      | none =>
        have n5 : ((5 : Int) == 0) = false := rfl
        have hro : ref.length + [(p.length : Int)].length < room 8 := by rw [room8]; simp; omega
        simp only [n5, hro, and_self, and_true, true_and, decide_true, decide_false, if_true, if_false, Vc, Vd, Va, Vb, Ve, Option.bind_some, Bool.not_true, Bool.not_false, Bool.false_eq_true, Bool.true_eq_false, beq_self_eq_true, bne_self_eq_false, Int.toNat_natCast]
        exact st c (ref ++ [(p.length : Int)]) (by unfold giveB; rw [hq]; rfl) (by simp; omega)
    · have e0 : (m.1 == T) = false := by simpa using h
      refine ⟨p, m :: r, c, ref, rfl, ⟨by omega, hs.2⟩, hc, hr, fun _ _ => rfl, hm, ?_⟩
      simp only [Qb.l120000001, Qb.g120000001, c0, c1, e0, and_self, and_true, true_and, decide_true, decide_false, if_true, if_false, Vc, Vd, Va, Vb, Ve, Option.bind_some, Bool.not_true, Bool.not_false, Bool.false_eq_true, Bool.true_eq_false, beq_self_eq_true, bne_self_eq_false, Int.toNat_natCast]
theorem VgX (L10 : LF) (l : List Sig) (ms : List Mov) (zs : List ByteArray) (hms : ∀ m ∈ ms, movB m = true) (hml : ms.length ≤ 1000000) (hzl : zs.length ≤ 1000000) (last : Int) (T : Int) (hT : 0 ≤ T ∧ T ≤ 1000000) (hmay : mayC (ctlAt l T) = true) (ls : List Sig) (nx : Int) (c : Ctl) (ref : List Int) : ∀ (r p : List Int) (k : Nat), p.length + r.length ≤ 1000000 → r.length < k → (∀ t ∈ r, 0 ≤ t ∧ t ≤ 10000000) →
  Qb.l14 NN L10 k (p ++ r) ms zs last (p ++ r) (p ++ r).length p.length (p.map (firF l ms zs (T + 1)) ++ r.map (firF l ms zs T)) ls nx T c ref = Qb.l1000019 NN L10 NN (p ++ r) ms zs last ((p ++ r).map (firF l ms zs (T + 1))) ls nx T c ref := by
 intro r
 induction r with
 | nil =>
  intro p k _ hk _
  obtain ⟨k, rfl⟩ : ∃ j, k = j + 1 := ⟨k - 1, by omega⟩
  simp only [List.append_nil, List.map_nil, Qb.l14, Qb.g14, Int.lt_irrefl, and_self, and_true, true_and, decide_true, decide_false, if_true, if_false, Vc, Vd, Va, Vb, Ve, Option.bind_some, Bool.not_true, Bool.not_false, Bool.false_eq_true, Bool.true_eq_false, beq_self_eq_true, bne_self_eq_false, Int.toNat_natCast]
 | cons t r ih =>
  intro p k hl hk ht
  simp only [List.length_cons] at hl hk
  obtain ⟨k, rfl⟩ : ∃ j, k = j + 1 := ⟨k - 1, by omega⟩
  have hln := Vz p r t
  have htt := ht t (by simp)
  have hb := VcJ htt
  have c0 : (0 : Int) ≤ (p.length : Int) := by omega
  have c1 : (p.length : Int) < ((p ++ t :: r).length : Int) := by omega
  have cw := w64 (n := (p.length : Int) + 1) (by omega) (by omega)
  have w1 := w64 (n := Int.tdiv t 100) (by unfold tkT at hb; omega) (by unfold tkT at hb; omega)
  have w2 := w64 (n := T * 100) (by omega) (by omega)
  have i := ih (p ++ [t]) k (by simp; omega) (by omega) (fun x hx => ht x (by simp [hx]))
  rw [Vn, Vo] at i
  have cl : (p.length : Int) < ((p.map (firF l ms zs (T + 1)) ++ firF l ms zs T t :: r.map (firF l ms zs T)).length : Int) := by
   rw [Vz, List.length_map]; omega
  have hpm : ((p.map (firF l ms zs (T + 1))).length : Int) = (p.length : Int) := by rw [List.length_map]
  rw [List.map_append, List.map_singleton, Vn] at i
  simp only [List.map_cons]
  by_cases h : tkT t = T
  ·have e0 : (Int.tdiv t 100 == T) = true := by unfold tkT at h; rw [h]; simp
   simp only [Qb.l14, Qb.g14, c0, c1, cw, w1, w2, e0, and_self, and_true, true_and, decide_true, decide_false, if_true, if_false, Vc, Vd, Va, Vb, Ve, Option.bind_some, Bool.not_true, Bool.not_false, Bool.false_eq_true, Bool.true_eq_false, beq_self_eq_true, bne_self_eq_false, Int.toNat_natCast]
   rw [Qcu ms zs (by omega) hms hml hzl, Option.bind_some]
   have eF : firF l ms zs (T + 1) t = if zs.all (clrB ms · (T * 100)) = true then T else -1 := by
    unfold firF firT
    rw [h, if_pos (by omega), hmay, Bool.true_and]
   have eN : firF l ms zs T t = -1 := by unfold firF; rw [if_neg (by omega)]
   rw [eF] at i
   by_cases ha : zs.all (clrB ms · (T * 100)) = true
   ·rw [if_pos ha] at i
    rw [if_pos ha, if_pos cl]
    have es : (p.map (firF l ms zs (T + 1)) ++ firF l ms zs T t :: r.map (firF l ms zs T)).set p.length T = p.map (firF l ms zs (T + 1)) ++ T :: r.map (firF l ms zs T) := by
     have := Vb (p.map (firF l ms zs (T + 1))) (r.map (firF l ms zs T)) (firF l ms zs T t) T
     rwa [List.length_map] at this
    rw [es]
    exact i
   ·rw [if_neg ha] at i
    rw [if_neg ha, eN]
    exact i
  ·have e0 : (Int.tdiv t 100 == T) = false := by unfold tkT at h; simpa using h
   have eF : firF l ms zs (T + 1) t = firF l ms zs T t := by
    unfold firF
    by_cases q : tkT t < T
    ·rw [if_pos q, if_pos (by omega)]
    ·rw [if_neg q, if_neg (by omega)]
   rw [eF] at i
   simp only [Qb.l14, Qb.g14, c0, c1, cw, w1, e0, and_self, and_true, true_and, decide_true, decide_false, if_true, if_false, Vc, Vd, Va, Vb, Ve, Option.bind_some, Bool.not_true, Bool.not_false, Bool.false_eq_true, Bool.true_eq_false, beq_self_eq_true, bne_self_eq_false, Int.toNat_natCast]
   exact i
theorem VgY (l : List Sig) (ms : List Mov) (zs : List ByteArray) (hms : ∀ m ∈ ms, movB m = true) (hml : ms.length ≤ 1000000) (hzl : zs.length ≤ 1000000) (hll : l.length ≤ 1000000) (last : Int) (hlast : last ≤ 100000) (times : List Int) (htl : times.length ≤ 1000000) (ht : ∀ t ∈ times, (0 ≤ t ∧ t ≤ 10000000) ∧ tkT t ≤ last) : ∀ (n : Nat) (T : Int) (p r : List Sig) (c : Ctl) (ref : List Int) (k : Nat), 0 ≤ T → T + n = last + 1 → n < k → l = p ++ r → SrtF T r → VF c → ref.length ≤ p.length → (∀ m ∈ r, 0 ≤ m.2 ∧ m.2 ≤ 9) → (∀ t, T ≤ t → atR r c T t = ctlAt l t) →
  Qb.l10 NN k times ms zs last (times.map (firF l ms zs T)) l p.length T c ref = some (times.map (firT l ms zs)) := by
 intro n
 induction n with
 | zero =>
  intro T p r c ref k _ hT hk _ _ _ _ _ _
  obtain ⟨k, rfl⟩ : ∃ j, k = j + 1 := ⟨k - 1, by omega⟩
  have c1 : ¬ T ≤ last := by omega
  simp only [Qb.l10, Qb.g10, c1, and_self, and_true, true_and, decide_true, decide_false, if_true, if_false, Vc, Vd, Va, Vb, Ve, Option.bind_some, Bool.not_true, Bool.not_false, Bool.false_eq_true, Bool.true_eq_false, beq_self_eq_true, bne_self_eq_false, Int.toNat_natCast]
  congr 1
  refine List.map_congr_left fun t h => ?_
  have := (ht t h).2
  unfold firF
  rw [if_pos (by omega)]
 | succ n ih =>
  intro T p r c ref k h0 hT hk hl hs hc hr hm hat
  obtain ⟨k, rfl⟩ : ∃ j, k = j + 1 := ⟨k - 1, by omega⟩
  have c1 : T ≤ last := by omega
  have hll2 := hll
  rw [hl, List.length_append] at hll2
  simp only [Qb.l10, Qb.g10, c1, and_self, and_true, true_and, decide_true, decide_false, if_true, if_false, Vc, Vd, Va, Vb, Ve, Option.bind_some, Bool.not_true, Bool.not_false, Bool.false_eq_true, Bool.true_eq_false, beq_self_eq_true, bne_self_eq_false, Int.toNat_natCast]
  rw [Qb.c1000011 nn0]
  unfold Qb.g1000011
  obtain ⟨p', r', c', ref', b1, b2, b3, b4, b5, b6, b7⟩ := Vf8 (Qb.l10 NN k) times ms zs last (times.map (firF l ms zs T)) l p.length T c ref (times.map (firF l ms zs T)) T r p c ref NN hll2 (NN_lt (by omega)) hc hs hm hr
  rw [← hl] at b7 b1
  rw [b7, Qb.c1000012 nn0]
  unfold Qb.g1000012
  rw [Qc2, Option.bind_some]
  have hcT : c' = ctlAt l T := by
   rw [← hat T (Int.le_refl T), ← b5 T (Int.le_refl T), Vgp c' b2]
  have w1 := w64 (n := T + 1) (by omega) (by omega)
  have hend : Qb.l1000019 NN (Qb.l10 NN k) NN times ms zs last (times.map (firF l ms zs (T + 1))) l p'.length T c' ref' = some (times.map (firT l ms zs)) := by
   rw [Qb.c1000019 nn0]
   unfold Qb.g1000019
   rw [QbJ c' 8 b3 (by omega), Vgn]
   simp only [Option.bind_some, w1]
   exact ih (T + 1) p' r' (tkC c') ref' k (by omega) (by omega) (by omega) b1.symm b2 (VcV b3) b4 b6 (fun t h => by rw [← VfB c' b2 h, b5 t (by omega), hat t (by omega)])
  by_cases hmay : mayC c' = true
  ·rw [if_pos hmay]
   have := VgX (Qb.l10 NN k) l ms zs hms hml hzl last T (by omega) (by rw [← hcT]; exact hmay) l p'.length c' ref' times [] NN (by simpa using htl) (NN_lt (by omega)) (fun t h => (ht t h).1)
   rw [List.nil_append, List.map_nil, List.nil_append] at this
   refine Eq.trans this ?_
   exact hend
  ·rw [if_neg hmay]
   have e : times.map (firF l ms zs T) = times.map (firF l ms zs (T + 1)) := by
    refine List.map_congr_left fun t h => ?_
    unfold firF
    by_cases q : tkT t < T
    ·rw [if_pos q, if_pos (by omega)]
    ·rw [if_neg q]
     by_cases q2 : tkT t < T + 1
     ·have e3 : tkT t = T := by omega
      rw [if_pos q2]
      unfold firT
      rw [e3, ← hcT]
      simp [hmay]
     ·rw [if_neg q2]
   rw [e]
   exact hend
theorem Vf9 (l : List Sig) (ms : List Mov) (zs : List ByteArray) : ∀ (r p : List Int) (last : Int) (k : Nat), p.length + r.length ≤ 1000000 → r.length < k → (∀ t ∈ p, (0 ≤ t ∧ t ≤ 10000000) ∧ tkT t ≤ last) → (∀ t ∈ r, 0 ≤ t ∧ t ≤ 10000000) → 0 ≤ last → last ≤ 100000 →
  ∃ last', 0 ≤ last' ∧ last' ≤ 100000 ∧ (∀ t ∈ p ++ r, (0 ≤ t ∧ t ≤ 10000000) ∧ tkT t ≤ last') ∧ Qb.l4 NN k (p ++ r) l ms zs last (p ++ r) (p ++ r).length p.length (p.map (fun _ => (-1 : Int)) ++ r.map (fun _ => (0 : Int))) = Qb.l10 NN NN (p ++ r) ms zs last' ((p ++ r).map (fun _ => (-1 : Int))) l 0 0 (false, false, false, false, false, 0) [] := by
 intro r
 induction r with
 | nil =>
  intro p last k _ hk hp _ h0 h1
  obtain ⟨k, rfl⟩ : ∃ j, k = j + 1 := ⟨k - 1, by omega⟩
  refine ⟨last, h0, h1, by simpa using hp, ?_⟩
  simp only [List.append_nil, List.map_nil, Qb.l4, Qb.g4, Int.lt_irrefl, and_self, and_true, true_and, decide_true, decide_false, if_true, if_false, Vc, Vd, Va, Vb, Ve, Option.bind_some, Bool.not_true, Bool.not_false, Bool.false_eq_true, Bool.true_eq_false, beq_self_eq_true, bne_self_eq_false, Int.toNat_natCast]
 | cons t r ih =>
  intro p last k hl hk hp hr h0 h1
  simp only [List.length_cons] at hl hk
  obtain ⟨k, rfl⟩ : ∃ j, k = j + 1 := ⟨k - 1, by omega⟩
  have hln := Vz p r t
  have htt := hr t (by simp)
  have hb := VcJ htt
  have c0 : (0 : Int) ≤ (p.length : Int) := by omega
  have c1 : (p.length : Int) < ((p ++ t :: r).length : Int) := by omega
  have cw := w64 (n := (p.length : Int) + 1) (by omega) (by omega)
  have w1 := w64 (n := Int.tdiv t 100) (by unfold tkT at hb; omega) (by unfold tkT at hb; omega)
  have cl : (p.length : Int) < ((p.map (fun _ => (-1 : Int)) ++ (0 : Int) :: r.map (fun _ => (0 : Int))).length : Int) := by
   rw [Vz, List.length_map]; omega
  have es : (p.map (fun _ => (-1 : Int)) ++ (0 : Int) :: r.map (fun _ => (0 : Int))).set p.length (-1) = p.map (fun _ => (-1 : Int)) ++ (-1 : Int) :: r.map (fun _ => (0 : Int)) := by
   have := Vb (p.map (fun _ => (-1 : Int))) (r.map (fun _ => (0 : Int))) (0 : Int) (-1)
   rwa [List.length_map] at this
  have i := ih (p ++ [t]) (if Int.tdiv t 100 > last then Int.tdiv t 100 else last) k (by simp; omega) (by omega) (fun x hx => by
   rcases List.mem_append.1 hx with h | h
   ·have := hp x h
    refine ⟨this.1, ?_⟩
    split <;> omega
   ·rw [List.mem_singleton.1 h]
    refine ⟨htt, ?_⟩
    unfold tkT
    split <;> omega) (fun x hx => hr x (by simp [hx])) (by unfold tkT at hb; split <;> omega) (by unfold tkT at hb; split <;> omega)
  rw [Vn, Vo, List.map_append, List.map_singleton, Vn] at i
  simp only [List.map_cons, Qb.l4, Qb.g4, c0, c1, cw, w1, cl, and_self, and_true, true_and, decide_true, decide_false, if_true, if_false, Vc, Vd, Va, Vb, Ve, Option.bind_some, Bool.not_true, Bool.not_false, Bool.false_eq_true, Bool.true_eq_false, beq_self_eq_true, bne_self_eq_false, Int.toNat_natCast, es]
  exact i
theorem Qcx {l : List Sig} (hl : sigsB l = true) {ms : List Mov} (hm : Vy ms = true) (zs : List ByteArray) (hz : zs.length ≤ 1000000) (times : List Int) (htl : times.length ≤ 1000000) (ht : ∀ t ∈ times, 0 ≤ t ∧ t ≤ 10000000) : Qb.f times l ms zs = some (times.map (firT l ms zs)) := by
 obtain ⟨h1, h2, h3⟩ := Vaf hl
 obtain ⟨m1, m2, m3⟩ := VK hm
 obtain ⟨last, l1, l2, l3, l4⟩ := Vf9 l ms zs times [] 0 NN (by simpa using htl) (NN_lt (by omega)) (by simp) ht (by omega) (by omega)
 rw [List.nil_append] at l3
 simp only [List.nil_append, List.map_nil, List.length_nil] at l4
 have hr : (times.length : Int) < room 8 := by rw [room8]; omega
 unfold Qb.f Qb.fn Qb.top
 rw [if_pos ⟨by omega, hr, rfl⟩, Int.toNat_natCast, ← List.map_const']
 refine Eq.trans l4 ?_
 have := VgY l ms zs m3 (by omega) hz (by omega) last l2 times htl l3 (last + 1).toNat 0 [] l (false, false, false, false, false, 0) [] NN (by omega) (by omega) (NN_lt (by omega)) rfl h2 VcG (by simp) (fun m h => (h3 m h).2.1) (fun t _ => rfl)
 refine Eq.trans ?_ this
 congr 1
 refine List.map_congr_left fun t h => ?_
 have := VcJ (ht t h)
 unfold firF
 rw [if_neg (by omega)]
end Go.Pl

namespace Go.Pl
open Go.Ev
set_option linter.unusedVariables false
noncomputable section
def Qb0.top (p : Int) : Option Bool :=
 (Qag.f p 0 100000).bind fun r1 =>
 some r1
def Qb0.fn (n : Nat) (p : Int) : Option Bool := Qb0.top p
def Qb0.f (p : Int) : Option Bool := Qb0.fn NN p
end
end Go.Pl

namespace Go.Pl
open Go.Ev
set_option linter.unusedVariables false
noncomputable section
def QbT.top (n0 : Int) : Option Bool :=
 (Qag.f n0 20 300).bind fun r1 =>
 some r1
def QbT.fn (n : Nat) (n0 : Int) : Option Bool := QbT.top n0
def QbT.f (n0 : Int) : Option Bool := QbT.fn NN n0
end
end Go.Pl

namespace Go.Pl
open Go.Ev
set_option linter.unusedVariables false
noncomputable section
def Qbv.g4 (L4 : Int → (Int × Int × Int × Int × List Int × Int) → Option Bool) (i3 : Int) (p1 : Int × Int × Int × Int × List Int × Int) : Option Bool :=
 if (decide ((i3 : Int) < (p1.2.2.2.2.1.length : Int))) = true then
 if (0 : Int) ≤ (IntKind.i64.wrap (i3 - 1)) ∧ ((IntKind.i64.wrap (i3 - 1)) : Int) < p1.2.2.2.2.1.length then
 if (0 : Int) ≤ i3 ∧ (i3 : Int) < p1.2.2.2.2.1.length then
 if (decide (((p1.2.2.2.2.1.getD (i3 : Int).toNat 0) : Int) ≤ (p1.2.2.2.2.1.getD ((IntKind.i64.wrap (i3 - 1)) : Int).toNat 0))) = true then
 some false
 else
 L4 (IntKind.i64.wrap (i3 + 1)) p1
 else
 none
 else
 none
 else
 some true
def Qbv.l4 (n : Nat) : Nat → Int → (Int × Int × Int × Int × List Int × Int) → Option Bool
 | 0 => fun _ _ => none
 | k + 1 => Qbv.g4 (Qbv.l4 n k)
def Qbv.top (I4 : Int → (Int × Int × Int × Int × List Int × Int) → Option Bool) (p0 : Int × Int × Int × Int × List Int × Int) : Option Bool :=
 (Qb0.f p0.1).bind fun r1 =>
 if (!r1) = false then
 (Qb0.f p0.2.1).bind fun r2 =>
 if (!r2) = false then
 if (decide ((p0.2.1 : Int) < p0.1)) = false then
 (Qag.f p0.2.2.1 0 1000000000).bind fun r3 =>
 if (!r3) = false then
 (QbT.f p0.2.2.2.1).bind fun r4 =>
 if (!r4) = false then
 (Qag.f p0.2.2.2.2.2 0 3).bind fun r5 =>
 if (!r5) = false then
 (QH.f p0.2.2.2.2.1 0 3).bind fun r6 =>
 if (!r6) = true then
 some false
 else
 I4 1 p0
 else
 some false
 else
 some false
 else
 some false
 else
 some false
 else
 some false
 else
 some false
def Qbv.fn (n : Nat) (p0 : Int × Int × Int × Int × List Int × Int) : Option Bool := Qbv.top (Qbv.l4 n n) p0
def Qbv.f (p0 : Int × Int × Int × Int × List Int × Int) : Option Bool := Qbv.fn NN p0
end
end Go.Pl

namespace Go.Pl
open Go.Ev
set_option linter.unusedVariables false
noncomputable section
def Qbu.g2 (L2 : List Int → Int → Int → Option Bool) (p : List Int) (n1 : Int) (i5 : Int) : Option Bool :=
 if (decide ((i5 : Int) < (p.length : Int))) = true then
 if (0 : Int) ≤ i5 ∧ (i5 : Int) < p.length then
 (Qaj.f (p.getD (i5 : Int).toNat 0) 0 (IntKind.i64.wrap (n1 - 1))).bind fun r1 =>
 if (!r1) = false then
 if (decide ((0 : Int) < i5)) = true then
 if (0 : Int) ≤ i5 ∧ (i5 : Int) < p.length then
 if (0 : Int) ≤ (IntKind.i64.wrap (i5 - 1)) ∧ ((IntKind.i64.wrap (i5 - 1)) : Int) < p.length then
 if (decide (((p.getD (i5 : Int).toNat 0) : Int) ≤ (p.getD ((IntKind.i64.wrap (i5 - 1)) : Int).toNat 0))) = true then
 some false
 else
 L2 p n1 (IntKind.i64.wrap (i5 + 1))
 else
 none
 else
 none
 else
 L2 p n1 (IntKind.i64.wrap (i5 + 1))
 else
 some false
 else
 none
 else
 some true
def Qbu.l2 (n : Nat) : Nat → List Int → Int → Int → Option Bool
 | 0 => fun _ _ _ => none
 | k + 1 => Qbu.g2 (Qbu.l2 n k)
def Qbu.top (I2 : List Int → Int → Int → Option Bool) (p : List Int) (n1 : Int) : Option Bool :=
 I2 p n1 0
def Qbu.fn (n : Nat) (p : List Int) (n1 : Int) : Option Bool := Qbu.top (Qbu.l2 n n) p n1
def Qbu.f (p : List Int) (n1 : Int) : Option Bool := Qbu.fn NN p n1
end
end Go.Pl

namespace Go.Pl
open Go.Ev
set_option linter.unusedVariables false
noncomputable section
def Qb4.top (p0 : Int × Int × Int × Int × List Int × Int) : Option Bool :=
 (Qaj.f p0.1 0 100000).bind fun r1 =>
 if r1 = true then
 (Qaj.f p0.2.1 p0.1 100000).bind fun r2 =>
 if r2 = true then
 (Qaj.f p0.2.2.1 0 1000000000).bind fun r3 =>
 if r3 = true then
 (Qaj.f p0.2.2.2.1 20 300).bind fun r4 =>
 if r4 = true then
 (Qbu.f p0.2.2.2.2.1 4).bind fun r5 =>
 if r5 = true then
 (Qaj.f p0.2.2.2.2.2 0 3).bind fun r6 =>
 some r6
 else
 some false
 else
 some false
 else
 some false
 else
 some false
 else
 some false
def Qb4.fn (n : Nat) (p0 : Int × Int × Int × Int × List Int × Int) : Option Bool := Qb4.top p0
def Qb4.f (p0 : Int × Int × Int × Int × List Int × Int) : Option Bool := Qb4.fn NN p0
end
end Go.Pl

namespace Go.Pl
open Go.Ev
set_option linter.unusedVariables false
set_option linter.unusedSimpArgs false
theorem QcE (xs : List Int) (lo hi : Int) (h : xs.length ≤ 140737488355328) : QH.f xs lo hi = some (xs.all (inB · lo hi)) := by
 have := VaZ (E := fun _ => True) (inB · lo hi) (fun _ => some true) (fun k xs i => QH.l2 NN k lo hi xs xs.length i) ?_ ?_ xs (fun _ _ => trivial) h NN (NN_lt (by omega))
 ·unfold QH.f QH.fn QH.top
  refine this.trans ?_
  cases xs.all (inB · lo hi) <;> simp
 ·intro k p
  simp [QH.l2, QH.g2]
 ·intro k p a r _ c0 c1 cw
  simp only [QH.l2, QH.g2, c0, c1, cw, and_self, and_true, true_and, decide_true, decide_false, if_true, if_false, Vc, Vd, Va, Vb, Ve, Option.bind_some, Bool.not_true, Bool.not_false, Bool.false_eq_true, Bool.true_eq_false, beq_self_eq_true, bne_self_eq_false, Int.toNat_natCast, Qbq]
  cases inB a lo hi <;> simp
end Go.Pl

namespace Go.Pl
open Go.Ev
set_option linter.unusedVariables false
noncomputable section
def Qbp.g2 (L2 : List ByteArray → Int → Option Bool) (p : List ByteArray) (i3 : Int) : Option Bool :=
 if (decide ((i3 : Int) < (p.length : Int))) = true then
 if (0 : Int) ≤ i3 ∧ (i3 : Int) < p.length then
 (QT.f (p.getD (i3 : Int).toNat ByteArray.empty)).bind fun r1 =>
 if (!r1) = true then
 some false
 else
 L2 p (IntKind.i64.wrap (i3 + 1))
 else
 none
 else
 some true
def Qbp.l2 (n : Nat) : Nat → List ByteArray → Int → Option Bool
 | 0 => fun _ _ => none
 | k + 1 => Qbp.g2 (Qbp.l2 n k)
def Qbp.top (I2 : List ByteArray → Int → Option Bool) (p : List ByteArray) : Option Bool :=
 I2 p 0
def Qbp.fn (n : Nat) (p : List ByteArray) : Option Bool := Qbp.top (Qbp.l2 n n) p
def Qbp.f (p : List ByteArray) : Option Bool := Qbp.fn NN p
end
end Go.Pl

namespace Go.Pl
open Go.Ev
set_option linter.unusedVariables false
noncomputable section
def Qbn.g2 (L2 : List Int → YE → YD → List ByteArray → Int → Option Int) (p : List Int) (s : List YC) (r : List YA) (q : List ByteArray) (i9 : Int) : Option Int :=
 if (decide ((i9 : Int) < (p.length : Int))) = true then
 if (0 : Int) ≤ i9 ∧ (i9 : Int) < p.length then
 (Qar.f (p.getD (i9 : Int).toNat 0)).bind fun r1 =>
 if (!r1) = true then
 some 1
 else
 L2 p s r q (IntKind.i64.wrap (i9 + 1))
 else
 none
 else if (decide ((20 : Int) < (p.length : Int))) = false then
 (Qq.f s).bind fun r2 =>
 if (!r2) = false then
 (QC.f r).bind fun r3 =>
 if (!r3) = false then
 (Qbp.f q).bind fun r4 =>
 if (!r4) = false then
 if (decide ((60 : Int) < (q.length : Int))) = true then
 some 1
 else
 some 0
 else
 some 1
 else
 some 1
 else
 some 1
 else
 some 1
def Qbn.l2 (n : Nat) : Nat → List Int → YE → YD → List ByteArray → Int → Option Int
 | 0 => fun _ _ _ _ _ => none
 | k + 1 => Qbn.g2 (Qbn.l2 n k)
def Qbn.top (I2 : List Int → YE → YD → List ByteArray → Int → Option Int) (p : List Int) (s : List YC) (r : List YA) (q : List ByteArray) : Option Int :=
 I2 p s r q 0
def Qbn.fn (n : Nat) (p : List Int) (s : List YC) (r : List YA) (q : List ByteArray) : Option Int := Qbn.top (Qbn.l2 n n) p s r q
def Qbn.f (p : List Int) (s : List YC) (r : List YA) (q : List ByteArray) : Option Int := Qbn.fn NN p s r q
end
end Go.Pl

namespace Go.Pl
open Go.Ev
set_option linter.unusedVariables false
noncomputable section
def Qbs.top (p : List Int) (s : List YC) (q : List YA) (r : List ByteArray) : Option YAI :=
 (Qbn.f p s q r).bind fun r1 =>
 if ((r1 : Int) != 0) = true then
 some ([], r1)
 else
 (Qh.f p s q r).bind fun r2 =>
 some (r2, 0)
def Qbs.fn (n : Nat) (p : List Int) (s : List YC) (q : List YA) (r : List ByteArray) : Option YAI := Qbs.top p s q r
def Qbs.f (p : List Int) (s : List YC) (q : List YA) (r : List ByteArray) : Option YAI := Qbs.fn NN p s q r
end
end Go.Pl

namespace Go.Pl
open Go.Ev
set_option linter.unusedVariables false
set_option linter.unusedSimpArgs false
theorem Qdc (times : List Int) (l : List Sig) (ms : List Mov) (zs : List ByteArray) (L3 : List Int → List Sig → List Mov → List ByteArray → Int → List Int → Option (List Int)) (hs : SrtM ms) (hms : ∀ m ∈ ms, movB m = true) (hml : ms.length ≤ 1000000) (i T : Int) (hT : 0 ≤ T ∧ T ≤ 1000000) (out : List Int) (ho : out.length ≤ 1000000) : ∀ (r p : List ByteArray) (b : Bool) (k : Nat), zs = p ++ r → p.length + r.length ≤ 1000000 → r.length < k →
  Qh.l9 NN L3 k times l ms zs i T b p.length out = L3 times l ms zs (IntKind.i64.wrap (i + 1)) (out ++ [if (b && r.all (clrB ms · (T * 100))) = true then T else -1]) := by
 intro r
 induction r with
 | nil =>
  intro p b k hz hl hk
  obtain ⟨k, rfl⟩ : ∃ j, k = j + 1 := ⟨k - 1, by omega⟩
  rw [List.append_nil] at hz
  have c1 : ¬ (p.length : Int) < (zs.length : Int) := by rw [hz]; omega
  have h1 : ∀ x : Int, out.length + [x].length < room 8 := fun x => by rw [room8]; simp; omega
  simp only [Qh.l9, Qh.g9, c1, h1, and_self, and_true, true_and, decide_true, decide_false, if_true, if_false, Vc, Vd, Va, Vb, Ve, Option.bind_some, Bool.not_true, Bool.not_false, Bool.false_eq_true, Bool.true_eq_false, beq_self_eq_true, bne_self_eq_false, Int.toNat_natCast, List.all_nil, Bool.and_true]
  cases b <;> rfl
 | cons z r ih =>
  intro p b k hz hl hk
  simp only [List.length_cons] at hl hk
  obtain ⟨k, rfl⟩ : ∃ j, k = j + 1 := ⟨k - 1, by omega⟩
  have c0 : (0 : Int) ≤ (p.length : Int) := by omega
  have c1 : (p.length : Int) < (zs.length : Int) := by rw [hz]; simp; omega
  have cw := w64 (n := (p.length : Int) + 1) (by omega) (by omega)
  have w2 := w64 (n := T * 100) (by omega) (by omega)
  have g : ∀ w, zs.getD p.length w = z := fun w => by rw [hz]; exact Va p r z w
  have i1 := fun b => ih (p ++ [z]) b k (by rw [hz, Vn]) (by simp; omega) (by omega)
  simp only [Vo] at i1
  rw [List.all_cons]
  simp only [Qh.l9, Qh.g9, c0, c1, cw, w2, and_self, and_true, true_and, decide_true, decide_false, if_true, if_false, Vc, Vd, Va, Vb, Ve, Option.bind_some, Bool.not_true, Bool.not_false, Bool.false_eq_true, Bool.true_eq_false, beq_self_eq_true, bne_self_eq_false, Int.toNat_natCast, g]
  cases b
  ·simp only [and_self, and_true, true_and, decide_true, decide_false, if_true, if_false, Vc, Vd, Va, Vb, Ve, Option.bind_some, Bool.not_true, Bool.not_false, Bool.false_eq_true, Bool.true_eq_false, beq_self_eq_true, bne_self_eq_false, Int.toNat_natCast, Bool.false_and]
   have := i1 false
   simp only [Bool.false_and, Bool.false_eq_true, if_false] at this
   exact this
  ·simp only [and_self, and_true, true_and, decide_true, decide_false, if_true, if_false, Vc, Vd, Va, Vb, Ve, Option.bind_some, Bool.not_true, Bool.not_false, Bool.false_eq_true, Bool.true_eq_false, beq_self_eq_true, bne_self_eq_false, Int.toNat_natCast]
   rw [Qch ms z (by omega) hs hms hml, Option.bind_some, i1, Bool.true_and]
theorem Qci {l : List Sig} (hl : sigsB l = true) {ms : List Mov} (hm : Vy ms = true) (zs : List ByteArray) (hz : zs.length ≤ 1000000) (times : List Int) (htl : times.length ≤ 1000000) (ht : ∀ t ∈ times, 0 ≤ t ∧ t ≤ 10000000) : Qh.f times l ms zs = some (times.map (firT l ms zs)) := by
 obtain ⟨m1, m2, m3⟩ := VK hm
 have := (VT (E := fun t : Int => 0 ≤ t ∧ t ≤ 10000000) (fun p (st : List Int) => st = p.map (firT l ms zs)) (fun _ st t => st ++ [firT l ms zs t]) (fun st => some st) (fun k i st => Qh.l3 NN k times l ms zs i st) times ?_ ?_ [] ht rfl (by omega) NN (NN_lt (by omega)))
 ·unfold Qh.f Qh.fn Qh.top
  rw [this.2, this.1]
 ·intro k st _
  simp [Qh.l3, Qh.g3]
 ·intro k p t r st hx htt hI c0 c1 c2 cw g
  have hb := VcJ htt
  have hpl : p.length ≤ 1000000 := by rw [hx] at htl; simp at htl; omega
  have w1 := w64 (n := Int.tdiv t 100) (by unfold tkT at hb; omega) (by unfold tkT at hb; omega)
  refine ⟨by rw [hI]; simp, ?_⟩
  obtain ⟨q, hq⟩ := Qct hl (t := tkT t) (by omega)
  have hb' : 0 ≤ Int.tdiv t 100 ∧ Int.tdiv t 100 ≤ 100000 := hb
  have e1 : tkT t = Int.tdiv t 100 := rfl
  rw [e1] at hq
  simp only [Qh.l3, Qh.g3, c0, c1, and_self, and_true, true_and, decide_true, decide_false, if_true, if_false, Vc, Vd, Va, Vb, Ve, Option.bind_some, Bool.not_true, Bool.not_false, Bool.false_eq_true, Bool.true_eq_false, beq_self_eq_true, bne_self_eq_false, Int.toNat_natCast, g, w1, hq]
  have key := fun b => Qdc times l ms zs (Qh.l3 NN k) m2 m3 (by omega) (p.length : Int) (Int.tdiv t 100) (by omega) st (by rw [hI, List.length_map]; omega) zs [] b NN rfl (by simpa using hz) (NN_lt (by omega))
  simp only [List.length_nil] at key
  have eF : firT l ms zs t = if (mayC (ctlAt l (Int.tdiv t 100)) && zs.all (clrB ms · (Int.tdiv t 100 * 100))) = true then Int.tdiv t 100 else -1 := rfl
  rw [eF]
  unfold mayC
  generalize ctlAt l (Int.tdiv t 100) = c at *
  obtain ⟨a, b, r2, e, s, d⟩ := c
  cases r2
  ·simp only [and_self, and_true, true_and, decide_true, decide_false, if_true, if_false, Vc, Vd, Va, Vb, Ve, Option.bind_some, Bool.not_true, Bool.not_false, Bool.false_eq_true, Bool.true_eq_false, beq_self_eq_true, bne_self_eq_false, Int.toNat_natCast, Bool.false_and]
   refine (key false).trans ?_
   rw [cw]
   simp
  ·simp only [and_self, and_true, true_and, decide_true, decide_false, if_true, if_false, Vc, Vd, Va, Vb, Ve, Option.bind_some, Bool.not_true, Bool.not_false, Bool.false_eq_true, Bool.true_eq_false, beq_self_eq_true, bne_self_eq_false, Int.toNat_natCast]
   refine (key (!e)).trans ?_
   rw [cw, Bool.true_and]
def VaH (zs : List ByteArray) : Bool := decide (zs.length ≤ 60) && zs.all wordB
theorem QcT (zs : List ByteArray) (hl : zs.length ≤ 1000000) (hz : ∀ z ∈ zs, Sz z) : QX.f zs = some (VaH zs) := by
 have := VaZ (E := fun z : ByteArray => Sz z) wordB (fun v => some true) (fun k v i => QX.l4 NN k v v.length i) ?_ ?_ zs hz (by omega) NN (NN_lt (by omega))
 ·unfold QX.f QX.fn QX.top VaH
  by_cases h : (60 : Int) < (zs.length : Int)
  ·have : ¬ zs.length ≤ 60 := by omega
   simp [h, this]
  ·have h2 : zs.length ≤ 60 := by omega
   simp only [h, h2, and_self, and_true, true_and, decide_true, decide_false, if_true, if_false, Vc, Vd, Va, Vb, Ve, Option.bind_some, Bool.not_true, Bool.not_false, Bool.false_eq_true, Bool.true_eq_false, beq_self_eq_true, bne_self_eq_false, Int.toNat_natCast]
   rw [this]
   cases zs.all wordB <;> rfl
 ·intro k p
  simp [QX.l4, QX.g4]
 ·intro k p z r hz c0 c1 cw
  simp only [QX.l4, QX.g4, c0, c1, cw, and_self, and_true, true_and, decide_true, decide_false, if_true, if_false, Vc, Vd, Va, Vb, Ve, Option.bind_some, Bool.not_true, Bool.not_false, Bool.false_eq_true, Bool.true_eq_false, beq_self_eq_true, bne_self_eq_false, Int.toNat_natCast]
  rw [QbU z hz]
  cases wordB z <;> rfl
theorem Qdd (zs : List ByteArray) (hl : zs.length ≤ 1000000) (hz : ∀ z ∈ zs, Sz z) : Qbp.f zs = some (zs.all wordB) := by
 have := VaZ (E := fun z : ByteArray => Sz z) wordB (fun v => some true) (fun k v i => Qbp.l2 NN k v i) ?_ ?_ zs hz (by omega) NN (NN_lt (by omega))
 ·unfold Qbp.f Qbp.fn Qbp.top
  rw [this]
  cases zs.all wordB <;> rfl
 ·intro k p
  simp [Qbp.l2, Qbp.g2]
 ·intro k p z r hz c0 c1 cw
  simp only [Qbp.l2, Qbp.g2, c0, c1, cw, and_self, and_true, true_and, decide_true, decide_false, if_true, if_false, Vc, Vd, Va, Vb, Ve, Option.bind_some, Bool.not_true, Bool.not_false, Bool.false_eq_true, Bool.true_eq_false, beq_self_eq_true, bne_self_eq_false, Int.toNat_natCast]
  rw [QbV z hz]
  cases wordB z <;> rfl
def firOk (times : List Int) (l : List Sig) (ms : List Mov) (zs : List ByteArray) : Bool := decide (times.length ≤ 20) && times.all (inB · 0 10000000) && sigsB l && Vy ms && VaH zs
def firR (times : List Int) (l : List Sig) (ms : List Mov) (zs : List ByteArray) : List Int × Int := if firOk times l ms zs = true then (times.map (firT l ms zs), 0) else ([], 1)
theorem QcU (times : List Int) (l : List Sig) (ms : List Mov) (zs : List ByteArray) (h1 : times.length ≤ 1000000) (h2 : l.length ≤ 1000000) (h3 : ms.length ≤ 1000000) (h3z : ∀ m ∈ ms, Sz m.2.1) (h4 : zs.length ≤ 1000000) (h4z : ∀ z ∈ zs, Sz z) : QaX.f times l ms zs = some (firOk times l ms zs) := by
 unfold QaX.f QaX.fn QaX.top Qaz.f Qaz.fn Qaz.top firOk
 rw [QcE times 0 10000000 (by omega), QbG l h2, QbM ms h3 h3z, QcT zs h4 h4z]
 have e : decide ((times.length : Int) ≤ 20) = decide (times.length ≤ 20) := by congr 1; exact propext (by omega)
 rw [e]
 cases decide (times.length ≤ 20) <;> cases times.all (inB · 0 10000000) <;> cases sigsB l <;> cases Vy ms <;> cases VaH zs <;> rfl
theorem QcV (times : List Int) (l : List Sig) (ms : List Mov) (zs : List ByteArray) (h1 : times.length ≤ 1000000) (h2 : l.length ≤ 1000000) (h3 : ms.length ≤ 1000000) (h3z : ∀ m ∈ ms, Sz m.2.1) (h4 : zs.length ≤ 1000000) (h4z : ∀ z ∈ zs, Sz z) : Qbn.f times l ms zs = some (if firOk times l ms zs = true then 0 else 1) := by
 have key : ∀ (r p : List Int) (k : Nat), p.length + r.length ≤ 1000000 → r.length < k → Qbn.l2 NN k (p ++ r) l ms zs p.length = some (if (r.all (inB · 0 10000000) && (decide ((p ++ r).length ≤ 20) && sigsB l && Vy ms && VaH zs)) = true then 0 else 1) := by
  intro r
  induction r with
  | nil =>
   intro p k _ hk
   obtain ⟨k, rfl⟩ : ∃ j, k = j + 1 := ⟨k - 1, by omega⟩
   simp only [List.append_nil, Qbn.l2, Qbn.g2, Int.lt_irrefl, and_self, and_true, true_and, decide_true, decide_false, if_true, if_false, Vc, Vd, Va, Vb, Ve, Option.bind_some, Bool.not_true, Bool.not_false, Bool.false_eq_true, Bool.true_eq_false, beq_self_eq_true, bne_self_eq_false, Int.toNat_natCast, List.all_nil, VaH]
   rw [QbH l h2, QbN ms h3 h3z, Qdd zs h4 h4z]
   have e : decide ((20 : Int) < (p.length : Int)) = !decide (p.length ≤ 20) := by rw [← decide_not]; congr 1; exact propext (by omega)
   have e2 : decide ((60 : Int) < (zs.length : Int)) = !decide (zs.length ≤ 60) := by rw [← decide_not]; congr 1; exact propext (by omega)
   rw [e, e2]
   cases decide (p.length ≤ 20) <;> cases sigsB l <;> cases Vy ms <;> cases zs.all wordB <;> cases decide (zs.length ≤ 60) <;> rfl
  | cons t r ih =>
   intro p k hl hk
   simp only [List.length_cons] at hl hk
   obtain ⟨k, rfl⟩ : ∃ j, k = j + 1 := ⟨k - 1, by omega⟩
   have hln := Vz p r t
   have c0 : (0 : Int) ≤ (p.length : Int) := by omega
   have c1 : (p.length : Int) < ((p ++ t :: r).length : Int) := by omega
   have cw := w64 (n := (p.length : Int) + 1) (by omega) (by omega)
   have i := ih (p ++ [t]) k (by simp; omega) (by omega)
   rw [Vn, Vo] at i
   rw [List.all_cons]
   simp only [Qbn.l2, Qbn.g2, c0, c1, cw, and_self, and_true, true_and, decide_true, decide_false, if_true, if_false, Vc, Vd, Va, Vb, Ve, Option.bind_some, Bool.not_true, Bool.not_false, Bool.false_eq_true, Bool.true_eq_false, beq_self_eq_true, bne_self_eq_false, Int.toNat_natCast, QbI]
   cases inB t 0 10000000
   ·simp
   ·simp only [and_self, and_true, true_and, decide_true, decide_false, if_true, if_false, Vc, Vd, Va, Vb, Ve, Option.bind_some, Bool.not_true, Bool.not_false, Bool.false_eq_true, Bool.true_eq_false, beq_self_eq_true, bne_self_eq_false, Int.toNat_natCast]
    exact i
 have := key times [] NN (by simpa using h1) (NN_lt (by omega))
 rw [List.nil_append] at this
 unfold Qbn.f Qbn.fn Qbn.top
 refine Eq.trans this ?_
 have e : (times.all (inB · 0 10000000) && (decide (times.length ≤ 20) && sigsB l && Vy ms && VaH zs)) = firOk times l ms zs := by
  unfold firOk
  cases decide (times.length ≤ 20) <;> cases times.all (inB · 0 10000000) <;> cases sigsB l <;> cases Vy ms <;> cases VaH zs <;> rfl
 rw [e]
theorem Vds (times : List Int) (l : List Sig) (ms : List Mov) (zs : List ByteArray) (h1 : times.length ≤ 1000000) (h2 : l.length ≤ 1000000) (h3 : ms.length ≤ 1000000) (h3z : ∀ m ∈ ms, Sz m.2.1) (h4 : zs.length ≤ 1000000) (h4z : ∀ z ∈ zs, Sz z) : Qax.f times l ms zs = some (firR times l ms zs) ∧ Qbs.f times l ms zs = some (firR times l ms zs) := by
 unfold Qax.f Qax.fn Qax.top Qbs.f Qbs.fn Qbs.top firR
 rw [QcU times l ms zs h1 h2 h3 h3z h4 h4z, QcV times l ms zs h1 h2 h3 h3z h4 h4z]
 by_cases h : firOk times l ms zs = true
 ·have h' := h
  unfold firOk at h'
  simp only [Bool.and_eq_true, decide_eq_true_eq, List.all_eq_true, inB_iff] at h'
  rw [h]
  simp only [and_self, and_true, true_and, decide_true, decide_false, if_true, if_false, Vc, Vd, Va, Vb, Ve, Option.bind_some, Bool.not_true, Bool.not_false, Bool.false_eq_true, Bool.true_eq_false, beq_self_eq_true, bne_self_eq_false, Int.toNat_natCast]
  rw [Qcx h'.1.1.2 h'.1.2 zs h4 times h1 (fun t ht => h'.1.1.1.2 t ht), Qci h'.1.1.2 h'.1.2 zs h4 times h1 (fun t ht => h'.1.1.1.2 t ht)]
  exact ⟨rfl, rfl⟩
 ·have h' : firOk times l ms zs = false := by simpa using h
  rw [h']
  exact ⟨rfl, rfl⟩
end Go.Pl

namespace Go.Pl
open Go.Ev
set_option linter.unusedVariables false
set_option linter.unusedSimpArgs false
abbrev LC := Int → Bool → Bool → Bool → Bool → Bool → Int → List Sig → Int → Int → Ctl → List Int → Option (Ctl × Int)
theorem Vjc (L7 : LC) (tick : Int) (v1 v2 v3 v4 v5 : Bool) (v6 : Int) (b1 : List Sig) (b2 b3 : Int) (b4 : Ctl) (b5 : List Int) (u1 u2 u3 u4 u5 : Bool) (u6 : Int) (T : Int) : ∀ (r p : List Sig) (c : Ctl) (ref : List Int) (k : Nat), p.length + r.length ≤ 1000000 → r.length < k → VF c → SrtF T r → (∀ m ∈ r, 0 ≤ m.2 ∧ m.2 ≤ 9) → ref.length ≤ p.length →
    ∃ (p' r' : List Sig) (c' : Ctl) (ref' : List Int), p' ++ r' = p ++ r ∧ SrtF (T + 1) r' ∧ VF c' ∧ ref'.length ≤ p'.length ∧ (∀ t, T ≤ t → atR r' c' T t = atR r c T t) ∧ (∀ m ∈ r', 0 ≤ m.2 ∧ m.2 ≤ 9) ∧
      Qa.l100000001 NN L7 k tick v1 v2 v3 v4 v5 v6 b1 b2 b3 b4 b5 u1 u2 u3 u4 u5 u6 (p ++ r) p.length T c ref = L7 tick u1 u2 u3 u4 u5 u6 (p ++ r) p'.length T c' ref' := by
  intro r
  induction r with
  | nil =>
    intro p c ref k _ hk hc _ _ hr
    obtain ⟨k, rfl⟩ : ∃ j, k = j + 1 := ⟨k - 1, by omega⟩
    refine ⟨p, [], c, ref, rfl, trivial, hc, hr, fun _ _ => rfl, by simp, ?_⟩
    simp only [List.append_nil, Qa.l100000001, Qa.g100000001, Int.lt_irrefl, and_self, and_true, true_and, decide_true, decide_false, if_true, if_false, Vc, Vd, Va, Vb, Ve, Option.bind_some, Bool.not_true, Bool.not_false, Bool.false_eq_true, Bool.true_eq_false, beq_self_eq_true, bne_self_eq_false, Int.toNat_natCast]
  | cons m r ih =>
    intro p c ref k hl hk hc hs hm hr
    simp only [List.length_cons] at hl hk
    obtain ⟨k, rfl⟩ : ∃ j, k = j + 1 := ⟨k - 1, by omega⟩
    have hln := Vz p r m
    have c0 : (0 : Int) ≤ (p.length : Int) := by omega
    have c1 : (p.length : Int) < ((p ++ m :: r).length : Int) := by omega
    have cw := w64 (n := (p.length : Int) + 1) (by omega) (by omega)
    have hs1 := hs.1
    by_cases h : m.1 = T
    · have st : ∀ (c1 : Ctl) (ref1 : List Int), c1 = giveB c m.2 → ref1.length ≤ p.length + 1 → ∃ (p' r' : List Sig) (c' : Ctl) (ref' : List Int), p' ++ r' = p ++ m :: r ∧ SrtF (T + 1) r' ∧ VF c' ∧ ref'.length ≤ p'.length ∧ (∀ t, T ≤ t → atR r' c' T t = atR (m :: r) c T t) ∧ (∀ m ∈ r', 0 ≤ m.2 ∧ m.2 ≤ 9) ∧
          Qa.l100000001 NN L7 k tick v1 v2 v3 v4 v5 v6 b1 b2 b3 b4 b5 u1 u2 u3 u4 u5 u6 (p ++ m :: r) ((p.length : Int) + 1) T c1 ref1 = L7 tick u1 u2 u3 u4 u5 u6 (p ++ m :: r) p'.length T c' ref' := by
        intro c1 ref1 e1 hr1
        have i := ih (p ++ [m]) c1 ref1 k (by simp; omega) (by omega) (by rw [e1]; exact VbO hc _) (by rw [← h]; exact hs.2) (fun x hx => hm x (by simp [hx])) (by simp; omega)
        rw [Vn, Vo] at i
        obtain ⟨p', r', c', ref', i1, i2, i3, i4, i5, i6, i7⟩ := i
        refine ⟨p', r', c', ref', i1, i2, i3, i4, fun t ht => ?_, i6, i7⟩
        rw [i5 t ht, e1, show m = (T, m.2) by rw [← h], Vdq T m.2 r c ht]
      have hg := QbJ c m.2 hc (hm m (by simp))
      have e0 : (m.1 == T) = true := by rw [h]; simp
      simp only [Qa.l100000001, Qa.g100000001, c0, c1, cw, e0, hg, and_self, and_true, true_and, decide_true, decide_false, if_true, if_false, Vc, Vd, Va, Vb, Ve, Option.bind_some, Bool.not_true, Bool.not_false, Bool.false_eq_true, Bool.true_eq_false, beq_self_eq_true, bne_self_eq_false, Int.toNat_natCast]
      cases hq : giveC c m.2 with
      | some y =>
        simp only [and_self, and_true, true_and, decide_true, decide_false, if_true, if_false, Vc, Vd, Va, Vb, Ve, Option.bind_some, Bool.not_true, Bool.not_false, Bool.false_eq_true, Bool.true_eq_false, beq_self_eq_true, bne_self_eq_false, Int.toNat_natCast]
        exact st y ref (by unfold giveB; rw [hq]; rfl) (by omega)
      | none =>
        have n5 : ((5 : Int) == 0) = false := rfl
        have hro : ref.length + [(p.length : Int)].length < room 8 := by rw [room8]; simp; omega
        simp only [n5, hro, and_self, and_true, true_and, decide_true, decide_false, if_true, if_false, Vc, Vd, Va, Vb, Ve, Option.bind_some, Bool.not_true, Bool.not_false, Bool.false_eq_true, Bool.true_eq_false, beq_self_eq_true, bne_self_eq_false, Int.toNat_natCast]
        exact st c (ref ++ [(p.length : Int)]) (by unfold giveB; rw [hq]; rfl) (by simp; omega)
    · have e0 : (m.1 == T) = false := by simpa using h
      refine ⟨p, m :: r, c, ref, rfl, ⟨by omega, hs.2⟩, hc, hr, fun _ _ => rfl, hm, ?_⟩
      simp only [Qa.l100000001, Qa.g100000001, c0, c1, e0, and_self, and_true, true_and, decide_true, decide_false, if_true, if_false, Vc, Vd, Va, Vb, Ve, Option.bind_some, Bool.not_true, Bool.not_false, Bool.false_eq_true, Bool.true_eq_false, beq_self_eq_true, bne_self_eq_false, Int.toNat_natCast]
theorem Vjd (tick : Int) (v1 v2 v3 v4 v5 : Bool) (v6 : Int) (b1 : List Sig) (b2 b3 : Int) (x1 x2 x3 x4 x5 : Bool) (x6 : Int) (b5 : List Int) (u1 u2 u3 u4 u5 : Bool) (u6 : Int) (T : Int) : ∀ (r p : List Sig) (c : Ctl) (ref : List Int) (k : Nat), p.length + r.length ≤ 1000000 → r.length < k → VF c → SrtF T r → (∀ m ∈ r, 0 ≤ m.2 ∧ m.2 ≤ 9) → ref.length ≤ p.length →
    ∃ (p' r' : List Sig) (c' : Ctl) (ref' : List Int), p' ++ r' = p ++ r ∧ SrtF (T + 1) r' ∧ VF c' ∧ ref'.length ≤ p'.length ∧ (∀ t, T ≤ t → atR r' c' T t = atR r c T t) ∧ (∀ m ∈ r', 0 ≤ m.2 ∧ m.2 ≤ 9) ∧
      Qa.l70000001 NN k tick v1 v2 v3 v4 v5 v6 b1 b2 b3 x1 x2 x3 x4 x5 x6 b5 u1 u2 u3 u4 u5 u6 (p ++ r) p.length T c ref = Qa.l1000007 NN NN tick u1 u2 u3 u4 u5 u6 (p ++ r) p'.length T c' ref' := by
  intro r
  induction r with
  | nil =>
    intro p c ref k _ hk hc _ _ hr
    obtain ⟨k, rfl⟩ : ∃ j, k = j + 1 := ⟨k - 1, by omega⟩
    refine ⟨p, [], c, ref, rfl, trivial, hc, hr, fun _ _ => rfl, by simp, ?_⟩
    simp only [List.append_nil, Qa.l70000001, Qa.g70000001, Int.lt_irrefl, and_self, and_true, true_and, decide_true, decide_false, if_true, if_false, Vc, Vd, Va, Vb, Ve, Option.bind_some, Bool.not_true, Bool.not_false, Bool.false_eq_true, Bool.true_eq_false, beq_self_eq_true, bne_self_eq_false, Int.toNat_natCast]
  | cons m r ih =>
    intro p c ref k hl hk hc hs hm hr
    simp only [List.length_cons] at hl hk
    obtain ⟨k, rfl⟩ : ∃ j, k = j + 1 := ⟨k - 1, by omega⟩
    have hln := Vz p r m
    have c0 : (0 : Int) ≤ (p.length : Int) := by omega
    have c1 : (p.length : Int) < ((p ++ m :: r).length : Int) := by omega
    have cw := w64 (n := (p.length : Int) + 1) (by omega) (by omega)
    have hs1 := hs.1
    by_cases h : m.1 = T
    · have st : ∀ (c1 : Ctl) (ref1 : List Int), c1 = giveB c m.2 → ref1.length ≤ p.length + 1 → ∃ (p' r' : List Sig) (c' : Ctl) (ref' : List Int), p' ++ r' = p ++ m :: r ∧ SrtF (T + 1) r' ∧ VF c' ∧ ref'.length ≤ p'.length ∧ (∀ t, T ≤ t → atR r' c' T t = atR (m :: r) c T t) ∧ (∀ m ∈ r', 0 ≤ m.2 ∧ m.2 ≤ 9) ∧
          Qa.l70000001 NN k tick v1 v2 v3 v4 v5 v6 b1 b2 b3 x1 x2 x3 x4 x5 x6 b5 u1 u2 u3 u4 u5 u6 (p ++ m :: r) ((p.length : Int) + 1) T c1 ref1 = Qa.l1000007 NN NN tick u1 u2 u3 u4 u5 u6 (p ++ m :: r) p'.length T c' ref' := by
        intro c1 ref1 e1 hr1
        have i := ih (p ++ [m]) c1 ref1 k (by simp; omega) (by omega) (by rw [e1]; exact VbO hc _) (by rw [← h]; exact hs.2) (fun x hx => hm x (by simp [hx])) (by simp; omega)
        rw [Vn, Vo] at i
        obtain ⟨p', r', c', ref', i1, i2, i3, i4, i5, i6, i7⟩ := i
        refine ⟨p', r', c', ref', i1, i2, i3, i4, fun t ht => ?_, i6, i7⟩
        rw [i5 t ht, e1, show m = (T, m.2) by rw [← h], Vdq T m.2 r c ht]
      have hg := QbJ c m.2 hc (hm m (by simp))
      have e0 : (m.1 == T) = true := by rw [h]; simp
      simp only [Qa.l70000001, Qa.g70000001, c0, c1, cw, e0, hg, and_self, and_true, true_and, decide_true, decide_false, if_true, if_false, Vc, Vd, Va, Vb, Ve, Option.bind_some, Bool.not_true, Bool.not_false, Bool.false_eq_true, Bool.true_eq_false, beq_self_eq_true, bne_self_eq_false, Int.toNat_natCast]
      cases hq : giveC c m.2 with
      | some y =>
        simp only [and_self, and_true, true_and, decide_true, decide_false, if_true, if_false, Vc, Vd, Va, Vb, Ve, Option.bind_some, Bool.not_true, Bool.not_false, Bool.false_eq_true, Bool.true_eq_false, beq_self_eq_true, bne_self_eq_false, Int.toNat_natCast]
        exact st y ref (by unfold giveB; rw [hq]; rfl) (by omega)
      | none =>
        have n5 : ((5 : Int) == 0) = false := rfl
        have hro : ref.length + [(p.length : Int)].length < room 8 := by rw [room8]; simp; omega
        simp only [n5, hro, and_self, and_true, true_and, decide_true, decide_false, if_true, if_false, Vc, Vd, Va, Vb, Ve, Option.bind_some, Bool.not_true, Bool.not_false, Bool.false_eq_true, Bool.true_eq_false, beq_self_eq_true, bne_self_eq_false, Int.toNat_natCast]
        exact st c (ref ++ [(p.length : Int)]) (by unfold giveB; rw [hq]; rfl) (by simp; omega)
    · have e0 : (m.1 == T) = false := by simpa using h
      refine ⟨p, m :: r, c, ref, rfl, ⟨by omega, hs.2⟩, hc, hr, fun _ _ => rfl, hm, ?_⟩
      simp only [Qa.l70000001, Qa.g70000001, c0, c1, e0, and_self, and_true, true_and, decide_true, decide_false, if_true, if_false, Vc, Vd, Va, Vb, Ve, Option.bind_some, Bool.not_true, Bool.not_false, Bool.false_eq_true, Bool.true_eq_false, beq_self_eq_true, bne_self_eq_false, Int.toNat_natCast]
theorem Vje (l : List Sig) (hll : l.length ≤ 1000000) (tick : Int) (ht : tick ≤ 1000000) (v1 v2 v3 v4 v5 : Bool) (v6 : Int) : ∀ (n : Nat) (T : Int) (p r : List Sig) (c : Ctl) (ref : List Int) (k : Nat), 0 ≤ T → T + n = tick → n < k → l = p ++ r → SrtF (T + 1) r → VF c → ref.length ≤ p.length → (∀ m ∈ r, 0 ≤ m.2 ∧ m.2 ≤ 9) → (∀ t, T ≤ t → atR r c T t = ctlAt l t) →
  Qa.l7 NN k tick v1 v2 v3 v4 v5 v6 l p.length T c ref = some (ctlAt l tick, 0) := by
 intro n
 induction n with
 | zero =>
  intro T p r c ref k _ hT hk _ hs _ _ _ hat
  obtain ⟨k, rfl⟩ : ∃ j, k = j + 1 := ⟨k - 1, by omega⟩
  have c1 : ¬ T < tick := by omega
  have hTt : T = tick := by omega
  simp only [Qa.l7, Qa.g7, c1, and_self, and_true, true_and, decide_true, decide_false, if_true, if_false, Vc, Vd, Va, Vb, Ve, Option.bind_some, Bool.not_true, Bool.not_false, Bool.false_eq_true, Bool.true_eq_false, beq_self_eq_true, bne_self_eq_false, Int.toNat_natCast]
  rw [← hTt, ← hat T (Int.le_refl T), Vgp c hs]
 | succ n ih =>
  intro T p r c ref k h0 hT hk hl hs hc hr hm hat
  obtain ⟨k, rfl⟩ : ∃ j, k = j + 1 := ⟨k - 1, by omega⟩
  have c1 : T < tick := by omega
  have hll2 := hll
  rw [hl, List.length_append] at hll2
  have w1 := w64 (n := T + 1) (by omega) (by omega)
  simp only [Qa.l7, Qa.g7, c1, and_self, and_true, true_and, decide_true, decide_false, if_true, if_false, Vc, Vd, Va, Vb, Ve, Option.bind_some, Bool.not_true, Bool.not_false, Bool.false_eq_true, Bool.true_eq_false, beq_self_eq_true, bne_self_eq_false, Int.toNat_natCast]
  rw [Qa.c1000008 nn0]
  unfold Qa.g1000008
  rw [QbJ c 8 hc (by omega), Vgn]
  simp only [Option.bind_some, w1]
  rw [Qa.c1000009 nn0]
  unfold Qa.g1000009
  obtain ⟨p', r', c', ref', b1, b2, b3, b4, b5, b6, b7⟩ := Vjc (Qa.l7 NN k) tick v1 v2 v3 v4 v5 v6 l p.length (T + 1) (tkC c) ref v1 v2 v3 v4 v5 v6 (T + 1) r p (tkC c) ref NN hll2 (NN_lt (by omega)) (VcV hc) hs hm hr
  rw [← hl] at b7 b1
  refine Eq.trans b7 ?_
  exact ih (T + 1) p' r' c' ref' k (by omega) (by omega) (by omega) b1.symm b2 b3 b4 b6 (fun t h => by rw [b5 t h, ← VfB c hs h, hat t (by omega)])
def caR (l : List Sig) (tick : Int) : Ctl × Int := if sigsB l = true then (if inB tick 0 100000 = true then (ctlAt l tick, 0) else ((false, false, false, false, false, 0), 2)) else ((false, false, false, false, false, 0), 1)
theorem Vbk (l : List Sig) (tick : Int) (hl : l.length ≤ 1000000) : Qav.f l tick = some (caR l tick) ∧ Qa.f l tick = some (caR l tick) := by
 unfold Qav.f Qav.fn Qav.top Qbe.f Qbe.fn Qbe.top Qa.f Qa.fn Qa.top caR
 rw [QbH l hl, QbG l hl, Qbr, Qcs]
 cases hb : sigsB l
 ·exact ⟨rfl, rfl⟩
 cases ht : inB tick 0 100000
 ·exact ⟨rfl, rfl⟩
 have ht' := inB_iff.1 ht
 obtain ⟨h1, h2, h3⟩ := Vaf hb
 have e : ((0 : Int) != 0) = false := rfl
 refine ⟨?_, ?_⟩
 ·obtain ⟨q, hq⟩ := Qct hb (t := tick) (by omega)
  simp only [e, and_self, and_true, true_and, decide_true, decide_false, if_true, if_false, Vc, Vd, Va, Vb, Ve, Option.bind_some, Bool.not_true, Bool.not_false, Bool.false_eq_true, Bool.true_eq_false, beq_self_eq_true, bne_self_eq_false, Int.toNat_natCast, hq]
 ·simp only [and_self, and_true, true_and, decide_true, decide_false, if_true, if_false, Vc, Vd, Va, Vb, Ve, Option.bind_some, Bool.not_true, Bool.not_false, Bool.false_eq_true, Bool.true_eq_false, beq_self_eq_true, bne_self_eq_false, Int.toNat_natCast]
  rw [Qa.c1000006 nn0]
  unfold Qa.g1000006
  obtain ⟨p', r', c', ref', b1, b2, b3, b4, b5, b6, b7⟩ := Vjd tick false false false false false 0 l 0 0 false false false false false 0 [] false false false false false 0 0 l [] (false, false, false, false, false, 0) [] NN (by simpa using hl) (NN_lt (by omega)) VcG h2 (fun m h => (h3 m h).2.1) (by simp)
  rw [List.nil_append] at b7 b1
  refine Eq.trans b7 ?_
  rw [Qa.c1000007 nn0]
  unfold Qa.g1000007
  exact Vje l hl tick (by omega) _ _ _ _ _ _ tick.toNat 0 p' r' c' ref' NN (by omega) (by omega) (NN_lt (by omega)) b1.symm b2 b3 b4 b6 (fun t h => b5 t h)
end Go.Pl

namespace Go.Pl
open Go.Ev
set_option linter.unusedVariables false
set_option linter.unusedSimpArgs false
theorem Va0 {α : Type} {Q : α → Prop} {xs : List α} {b : α} (h : Lm Q xs) (hb : Q b) (hl : xs.length < 1000000) : Lm Q (xs ++ [b]) :=
 ⟨by simp; omega, fun x hx => by
  rcases List.mem_append.1 hx with h1 | h1
  ·exact h.2 x h1
  ·rw [List.mem_singleton.1 h1]; exact hb⟩
def bookR (xs : List (Int × ByteArray × Int)) (b : Int × ByteArray × Int) : List (Int × ByteArray × Int) × Int :=
 if Vw xs = true then (if xs.length = 60 then ([], 3) else if Vw (xs ++ [b]) = true then (xs ++ [b], 0) else ([], 5)) else ([], 1)
theorem Qcy (xs : List (Int × ByteArray × Int)) (b : Int × ByteArray × Int) (h : Lm Vs xs) (hb : Vs b) : Qaf.f xs b = some (bookR xs b) := by
 unfold Qaf.f Qaf.fn Qaf.top bookR
 rw [Qbz xs h]
 cases hx : Vw xs
 ·rfl
 have hv := VN hx
 simp only [and_self, and_true, true_and, decide_true, decide_false, if_true, if_false, Vc, Vd, Va, Vb, Ve, Option.bind_some, Bool.not_true, Bool.not_false, Bool.false_eq_true, Bool.true_eq_false, beq_self_eq_true, bne_self_eq_false, Int.toNat_natCast]
 by_cases h60 : xs.length = 60
 ·simp [h60]
 ·have e1 : ((xs.length : Int) == 60) = false := by rw [beq_eq_false_iff_ne]; omega
  have e2 : ([] : List (Int × ByteArray × Int)).length + xs.length < room 32 := by rw [VaR]; simp; omega
  have e3 : (([] : List (Int × ByteArray × Int)) ++ xs).length + [b].length < room 32 := by rw [VaR]; simp; omega
  simp only [e1, e2, e3, h60, and_self, and_true, true_and, decide_true, decide_false, if_true, if_false, Vc, Vd, Va, Vb, Ve, Option.bind_some, Bool.not_true, Bool.not_false, Bool.false_eq_true, Bool.true_eq_false, beq_self_eq_true, bne_self_eq_false, Int.toNat_natCast]
  rw [List.nil_append, Qbz (xs ++ [b]) (Va0 h hb (by omega))]
  cases Vw (xs ++ [b]) <;> rfl
theorem Qcd (xs : List (Int × ByteArray × Int)) (b : Int × ByteArray × Int) (h : Lm Vs xs) (hb : Vs b) : Qz.f xs b = some (bookR xs b) := by
 unfold Qz.f Qz.fn Qz.top bookR
 rw [Qby xs h]
 cases hx : Vw xs
 ·rfl
 have hv := VN hx
 simp only [and_self, and_true, true_and, decide_true, decide_false, if_true, if_false, Vc, Vd, Va, Vb, Ve, Option.bind_some, Bool.not_true, Bool.not_false, Bool.false_eq_true, Bool.true_eq_false, beq_self_eq_true, bne_self_eq_false, Int.toNat_natCast]
 by_cases h60 : xs.length = 60
 ·simp [h60]
 ·have e1 : ((xs.length : Int) == 60) = false := by rw [beq_eq_false_iff_ne]; omega
  have e2 : ([] : List (Int × ByteArray × Int)).length + xs.length < room 32 := by rw [VaR]; simp; omega
  have e3 : (([] : List (Int × ByteArray × Int)) ++ xs).length + [b].length < room 32 := by rw [VaR]; simp; omega
  simp only [e1, e2, e3, h60, and_self, and_true, true_and, decide_true, decide_false, if_true, if_false, Vc, Vd, Va, Vb, Ve, Option.bind_some, Bool.not_true, Bool.not_false, Bool.false_eq_true, Bool.true_eq_false, beq_self_eq_true, bne_self_eq_false, Int.toNat_natCast]
  rw [List.nil_append, Qby (xs ++ [b]) (Va0 h hb (by omega))]
  cases Vw (xs ++ [b]) <;> rfl
theorem Vix (xs : List (Int × ByteArray × Int)) (b : Int × ByteArray × Int) (h : Lm Vs xs) (hb : Vs b) : Lm Vs (bookR xs b).1 := by
 unfold bookR
 split
 ·rename_i hx
  have hv := VN hx
  split
  ·exact ⟨by simp, by simp⟩
  ·split
   ·exact Va0 h hb (by omega)
   ·exact ⟨by simp, by simp⟩
 ·exact ⟨by simp, by simp⟩
end Go.Pl

namespace Go.Pl
open Go.Ev
set_option linter.unusedVariables false
noncomputable section
def Qb1.top (p : List YA) : Option (Bool × Int) :=
 (Qk.f p).bind fun r1 =>
 if (!r1) = true then
 some (false, 1)
 else
 (Qp.f p).bind fun r2 =>
 some (((r2.length : Int) : Int) == 0, 0)
def Qb1.fn (n : Nat) (p : List YA) : Option (Bool × Int) := Qb1.top p
def Qb1.f (p : List YA) : Option (Bool × Int) := Qb1.fn NN p
end
end Go.Pl

namespace Go.Pl
open Go.Ev
set_option linter.unusedVariables false
noncomputable section
def Qb2.top (p : List YA) : Option (Bool × Int) :=
 (Qi.f p).bind fun r1 =>
 if (!r1) = true then
 some (false, 1)
 else
 (Q5.f p).bind fun r2 =>
 some (((r2.length : Int) : Int) == 0, 0)
def Qb2.fn (n : Nat) (p : List YA) : Option (Bool × Int) := Qb2.top p
def Qb2.f (p : List YA) : Option (Bool × Int) := Qb2.fn NN p
end
end Go.Pl

namespace Go.Pl
open Go.Ev
set_option linter.unusedVariables false
noncomputable section
def QbP.top (p : List YA) : Option YAG :=
 (Qk.f p).bind fun r1 =>
 if (!r1) = true then
 some ([], 1)
 else
 (Qp.f p).bind fun r2 =>
 some (r2, 0)
def QbP.fn (n : Nat) (p : List YA) : Option YAG := QbP.top p
def QbP.f (p : List YA) : Option YAG := QbP.fn NN p
end
end Go.Pl

namespace Go.Pl
open Go.Ev
set_option linter.unusedVariables false
noncomputable section
def QbQ.top (p : List YA) : Option YAG :=
 (Qi.f p).bind fun r1 =>
 if (!r1) = true then
 some ([], 1)
 else
 (Q5.f p).bind fun r2 =>
 some (r2, 0)
def QbQ.fn (n : Nat) (p : List YA) : Option YAG := QbQ.top p
def QbQ.f (p : List YA) : Option YAG := QbQ.fn NN p
end
end Go.Pl

namespace Go.Pl
open Go.Ev
set_option linter.unusedVariables false
set_option linter.unusedSimpArgs false
abbrev Bkg := Int × ByteArray × Int
def openF (xs : List Bkg) (st : List ByteArray) (b : Bkg) : List ByteArray := if 0 < Vq xs b.2.1 then insW b.2.1 st else st
def openL (xs : List Bkg) : List ByteArray := xs.foldl (openF xs) []
structure OI (xs p : List Bkg) (st : List ByteArray) : Prop where
 srt : SrtW st
 len : st.length ≤ p.length
 mem : ∀ w, w ∈ st ↔ (∃ b ∈ p, b.2.1 = w) ∧ 0 < Vq xs w
theorem Vgs {xs p : List Bkg} {st : List ByteArray} (b : Bkg) (h : OI xs p st) : OI xs (p ++ [b]) (openF xs st b) := by
 unfold openF
 split
 ·rename_i hp
  refine ⟨VfF h.srt, by have := VfG b.2.1 st; have := h.len; simp; omega, fun w => ?_⟩
  rw [mem_insW, h.mem]
  constructor
  ·rintro (rfl | ⟨⟨c, h1, h2⟩, h3⟩)
   ·exact ⟨⟨b, by simp, rfl⟩, hp⟩
   ·exact ⟨⟨c, by simp [h1], h2⟩, h3⟩
  ·rintro ⟨⟨c, h1, h2⟩, h3⟩
   rcases List.mem_append.1 h1 with h1 | h1
   ·exact .inr ⟨⟨c, h1, h2⟩, h3⟩
   ·rw [List.mem_singleton.1 h1] at h2; exact .inl h2.symm
 ·rename_i hp
  refine ⟨h.srt, by have := h.len; simp; omega, fun w => ?_⟩
  rw [h.mem]
  constructor
  ·rintro ⟨⟨c, h1, h2⟩, h3⟩; exact ⟨⟨c, by simp [h1], h2⟩, h3⟩
  ·rintro ⟨⟨c, h1, h2⟩, h3⟩
   rcases List.mem_append.1 h1 with h1 | h1
   ·exact ⟨⟨c, h1, h2⟩, h3⟩
   ·rw [List.mem_singleton.1 h1] at h2; rw [h2] at hp; exact absurd h3 hp
theorem VhJ (xs : List Bkg) : OI xs [] [] := ⟨List.Pairwise.nil, by simp, fun w => by simp⟩
theorem VbP (xs : List Bkg) (h : ∀ b ∈ xs, valB b = true) (hl : xs.length ≤ 1000000) : OI xs xs (openL xs) ∧ Qp.f xs = some (openL xs) ∧ Q5.f xs = some (openL xs) := by
 have e1 := VT (E := fun _ => True) (fun p st => OI xs p st) (fun _ => openF xs) (fun st => some st) (fun k i st => Qp.l3 NN k xs xs xs.length i st) xs ?_ ?_ [] (fun _ _ => trivial) (VhJ xs) (by omega) NN (NN_lt (by omega))
 have e2 := VT (E := fun _ => True) (fun p st => OI xs p st) (fun _ => openF xs) (fun st => some st) (fun k i st => Q5.l3 NN k xs i st) xs ?_ ?_ [] (fun _ _ => trivial) (VhJ xs) (by omega) NN (NN_lt (by omega))
 ·rw [VY] at e1 e2
  exact ⟨e1.1, e1.2, e2.2⟩
 ·intro k st _
  simp [Q5.l3, Q5.g3]
 ·intro k p b r st hx _ hI c0 c1 c2 cw g
  refine ⟨Vgs b hI, ?_⟩
  have hpl : p.length ≤ 1000000 := by rw [hx] at hl; simp at hl; omega
  have := hI.len
  simp only [Q5.l3, Q5.g3, c0, c1, cw, and_self, and_true, true_and, decide_true, decide_false, if_true, if_false, Vc, Vd, Va, Vb, Ve, Option.bind_some, Bool.not_true, Bool.not_false, Bool.false_eq_true, Bool.true_eq_false, beq_self_eq_true, bne_self_eq_false, Int.toNat_natCast, g, Va2 xs _ h hl, decide_eq_true_eq]
  unfold openF
  split
  ·rw [Qce _ _ (by omega)]; rfl
  ·rfl
 ·intro k st _
  simp [Qp.l3, Qp.g3]
 ·intro k p b r st hx _ hI c0 c1 c2 cw g
  refine ⟨Vgs b hI, ?_⟩
  have hpl : p.length ≤ 1000000 := by rw [hx] at hl; simp at hl; omega
  have := hI.len
  simp only [Qp.l3, Qp.g3, c0, c1, cw, and_self, and_true, true_and, decide_true, decide_false, if_true, if_false, Vc, Vd, Va, Vb, Ve, Option.bind_some, Bool.not_true, Bool.not_false, Bool.false_eq_true, Bool.true_eq_false, beq_self_eq_true, bne_self_eq_false, Int.toNat_natCast, g, QbO xs _ h hl, decide_eq_true_eq]
  unfold openF
  split
  ·rw [Qcq _ _ hI.srt (by omega)]; rfl
  ·rfl
theorem Vjf {xs : List Bkg} (h : ∀ b ∈ xs, valB b = true) (hl : xs.length ≤ 1000000) : ∀ w ∈ openL xs, wordB w = true := by
 intro w hw
 obtain ⟨⟨b, h1, rfl⟩, _⟩ := ((VbP xs h hl).1.mem w).1 hw
 have := h b h1
 unfold valB at this
 simp only [Bool.and_eq_true] at this
 exact this.1.2
theorem Vjg {w : ByteArray} (h : wordB w = true) : Sm w := by have := Vah h; unfold Sm; omega
theorem len0 {α : Type} (l : List α) : (((l.length : Int) : Int) == 0) = decide (l = []) := by cases l <;> simp <;> omega
def setlF (xs : List Bkg) (kind : Int) (out : List Bkg) (w : ByteArray) : List Bkg := out ++ [(kind, w, Vq xs w)]
def setlL (xs : List Bkg) (kind : Int) : List Bkg := (openL xs).foldl (setlF xs kind) xs
def limS (out : List Bkg) : List Bkg × Int := if 60 < out.length then ([], 3) else if Vw out = true then (out, 0) else ([], 5)
def stlR (xs : List Bkg) (kind : Int) : List Bkg × Int := if Vw xs = true then (if inB kind 1 3 = true then limS (setlL xs kind) else ([], 2)) else ([], 1)
theorem Ver {n : Nat} (h : n ≤ 2000000) : n < room 32 := by rw [VaR]; omega
structure SI (xs : List Bkg) (p : List ByteArray) (out : List Bkg) : Prop where
 len : out.length = xs.length + p.length
 ok : ∀ b ∈ out, Vs b
theorem Viy (xs : List Bkg) (kind : Int) (hk : 1 ≤ kind ∧ kind ≤ 3) (hok : ∀ b ∈ xs, Vs b) (h : ∀ b ∈ xs, valB b = true) (hl : xs.length ≤ 60) :
  SI xs (openL xs) (setlL xs kind) ∧ QG.l7 NN NN xs kind (openL xs).length 0 xs (openL xs) = some (limS (setlL xs kind)) ∧ QI.l8 NN NN xs kind 0 xs (openL xs) = some (limS (setlL xs kind)) := by
 obtain ⟨oi, _, _⟩ := VbP xs h (by omega)
 have hol := oi.len
 have hos := Vjf h (by omega)
 have step : ∀ (p : List ByteArray) (w : ByteArray) (out : List Bkg), wordB w = true → SI xs p out → SI xs (p ++ [w]) (setlF xs kind out w) := fun p w out hw hI => by
  have hb := VbN w xs h
  refine ⟨by unfold setlF; have := hI.len; simp; omega, fun b hb' => ?_⟩
  unfold setlF at hb'
  rcases List.mem_append.1 hb' with h1 | h1
  ·exact hI.ok b h1
  ·rw [List.mem_singleton.1 h1]; exact ⟨wf64.2 (by simp only; omega), Vjg hw, wf64.2 (by simp only; omega)⟩
 have z0 : SI xs [] xs := ⟨by simp, hok⟩
 have e1 := VT (E := fun w => wordB w = true) (fun p out => SI xs p out) (fun _ => setlF xs kind) (fun out => some (limS out)) (fun k i out => QG.l7 NN k xs kind (openL xs).length i out (openL xs)) (openL xs) ?_ ?_ xs hos z0 (by omega) NN (NN_lt (by omega))
 have e2 := VT (E := fun w => wordB w = true) (fun p out => SI xs p out) (fun _ => setlF xs kind) (fun out => some (limS out)) (fun k i out => QI.l8 NN k xs kind i out (openL xs)) (openL xs) ?_ ?_ xs hos z0 (by omega) NN (NN_lt (by omega))
 ·rw [VY] at e1 e2
  exact ⟨e1.1, e1.2, e2.2⟩
 ·intro k out hI
  have := hI.len
  simp only [QI.l8, QI.g8, Int.lt_irrefl, and_self, and_true, true_and, decide_true, decide_false, if_true, if_false, Vc, Vd, Va, Vb, Ve, Option.bind_some, Bool.not_true, Bool.not_false, Bool.false_eq_true, Bool.true_eq_false, beq_self_eq_true, bne_self_eq_false, Int.toNat_natCast]
  unfold QaS.f QaS.fn QaS.top limS
  by_cases h6 : 60 < out.length
  ·have h6' : (60 : Int) < (out.length : Int) := by omega
   simp only [h6, h6', and_self, and_true, true_and, decide_true, decide_false, if_true, if_false, Vc, Vd, Va, Vb, Ve, Option.bind_some, Bool.not_true, Bool.not_false, Bool.false_eq_true, Bool.true_eq_false, beq_self_eq_true, bne_self_eq_false, Int.toNat_natCast]; rfl
  ·have h6' : ¬ (60 : Int) < (out.length : Int) := by omega
   simp only [h6, h6', and_self, and_true, true_and, decide_true, decide_false, if_true, if_false, Vc, Vd, Va, Vb, Ve, Option.bind_some, Bool.not_true, Bool.not_false, Bool.false_eq_true, Bool.true_eq_false, beq_self_eq_true, bne_self_eq_false, Int.toNat_natCast]
   rw [Qby out ⟨by omega, hI.ok⟩]
   cases Vw out <;> rfl
 ·intro k p w r out hx hw hI c0 c1 c2 cw g
  refine ⟨step p w out hw hI, ?_⟩
  have hpl : p.length ≤ 60 := by have := congrArg List.length hx; simp at this; omega
  have hil := hI.len
  have hr := Ver (n := out.length + [(kind, w, Vq xs w)].length) (by simp; omega)
  simp only [QI.l8, QI.g8, c0, c1, cw, and_self, and_true, true_and, decide_true, decide_false, if_true, if_false, Vc, Vd, Va, Vb, Ve, Option.bind_some, Bool.not_true, Bool.not_false, Bool.false_eq_true, Bool.true_eq_false, beq_self_eq_true, bne_self_eq_false, Int.toNat_natCast, g, Va2 xs _ h (by omega), hr]
  rfl
 ·intro k out hI
  have := hI.len
  simp only [QG.l7, QG.g7, Int.lt_irrefl, and_self, and_true, true_and, decide_true, decide_false, if_true, if_false, Vc, Vd, Va, Vb, Ve, Option.bind_some, Bool.not_true, Bool.not_false, Bool.false_eq_true, Bool.true_eq_false, beq_self_eq_true, bne_self_eq_false, Int.toNat_natCast]
  unfold limS
  by_cases h6 : 60 < out.length
  ·have h6' : (60 : Int) < (out.length : Int) := by omega
   simp only [h6, h6', and_self, and_true, true_and, decide_true, decide_false, if_true, if_false, Vc, Vd, Va, Vb, Ve, Option.bind_some, Bool.not_true, Bool.not_false, Bool.false_eq_true, Bool.true_eq_false, beq_self_eq_true, bne_self_eq_false, Int.toNat_natCast]
  ·have h6' : ¬ (60 : Int) < (out.length : Int) := by omega
   simp only [h6, h6', and_self, and_true, true_and, decide_true, decide_false, if_true, if_false, Vc, Vd, Va, Vb, Ve, Option.bind_some, Bool.not_true, Bool.not_false, Bool.false_eq_true, Bool.true_eq_false, beq_self_eq_true, bne_self_eq_false, Int.toNat_natCast]
   rw [Qbz out ⟨by omega, hI.ok⟩]
   cases Vw out <;> rfl
 ·intro k p w r out hx hw hI c0 c1 c2 cw g
  refine ⟨step p w out hw hI, ?_⟩
  have hpl : p.length ≤ 60 := by have := congrArg List.length hx; simp at this; omega
  have hil := hI.len
  have hr := Ver (n := out.length + [(kind, w, Vq xs w)].length) (by simp; omega)
  simp only [QG.l7, QG.g7, c0, c1, cw, and_self, and_true, true_and, decide_true, decide_false, if_true, if_false, Vc, Vd, Va, Vb, Ve, Option.bind_some, Bool.not_true, Bool.not_false, Bool.false_eq_true, Bool.true_eq_false, beq_self_eq_true, bne_self_eq_false, Int.toNat_natCast, g, QbO xs _ h (by omega), hr]
  rfl
theorem Ves (xs : List Bkg) (kind : Int) (h : Lm Vs xs) : QI.f xs kind = some (stlR xs kind) ∧ QG.f xs kind = some (stlR xs kind) := by
 unfold QI.f QI.fn QI.top QG.f QG.fn QG.top stlR
 rw [Qby xs h, Qbz xs h, Qbr, Qbq]
 cases hx : Vw xs
 ·exact ⟨rfl, rfl⟩
 have hv := VN hx
 cases hk : inB kind 1 3
 ·exact ⟨rfl, rfl⟩
 obtain ⟨_, e1, e2⟩ := VbP xs hv.1 (by omega)
 obtain ⟨_, e3, e4⟩ := Viy xs kind (inB_iff.1 hk) h.2 hv.1 hv.2
 have hr := Ver (n := 0 + xs.length) (by omega)
 simp only [Option.bind_some, Bool.not_true, Bool.false_eq_true, if_false, if_true, List.length_nil, List.nil_append, hr, e1, e2, e3, e4, and_self]
end Go.Pl

namespace Go.Pl
open Go.Ev
set_option linter.unusedVariables false
noncomputable section
def Qb5.top (q : List YA) (p : ByteArray) : Option YAI :=
 (Qk.f q).bind fun r1 =>
 if (!r1) = false then
 (QO.f p).bind fun r2 =>
 if (!r2) = true then
 some ([], 1)
 else
 (QU.f q p).bind fun r3 =>
 some (r3, 0)
 else
 some ([], 1)
def Qb5.fn (n : Nat) (q : List YA) (p : ByteArray) : Option YAI := Qb5.top q p
def Qb5.f (q : List YA) (p : ByteArray) : Option YAI := Qb5.fn NN q p
end
end Go.Pl

namespace Go.Pl
open Go.Ev
set_option linter.unusedVariables false
noncomputable section
def Qbw.g5 (L5 : YD → ByteArray → Int → List Int → Option YAI) (p : List YA) (q : ByteArray) (i7 : Int) (r : List Int) : Option YAI :=
 if (decide ((i7 : Int) < (p.length : Int))) = true then
 if (0 : Int) ≤ i7 ∧ (i7 : Int) < p.length then
 if ((((p.getD (i7 : Int).toNat (0, (ByteArray.empty, 0))).2).1).toList == q.toList) = true then
 if (0 : Int) ≤ i7 ∧ (i7 : Int) < p.length then
 if (0 : Int) ≤ i7 ∧ (i7 : Int) < p.length then
 if (0 : Int) ≤ ((p.getD (i7 : Int).toNat (0, (ByteArray.empty, 0))).1) ∧ (((p.getD (i7 : Int).toNat (0, (ByteArray.empty, 0))).1) : Int) < r.length then
 if (0 : Int) ≤ i7 ∧ (i7 : Int) < p.length then
 if (0 : Int) ≤ ((p.getD (i7 : Int).toNat (0, (ByteArray.empty, 0))).1) ∧ (((p.getD (i7 : Int).toNat (0, (ByteArray.empty, 0))).1) : Int) < r.length then
 L5 p q (IntKind.i64.wrap (i7 + 1)) (r.set (((p.getD (i7 : Int).toNat (0, (ByteArray.empty, 0))).1) : Int).toNat (IntKind.i64.wrap ((r.getD (((p.getD (i7 : Int).toNat (0, (ByteArray.empty, 0))).1) : Int).toNat 0) + (((p.getD (i7 : Int).toNat (0, (ByteArray.empty, 0))).2).2))))
 else
 none
 else
 none
 else
 none
 else
 none
 else
 none
 else
 L5 p q (IntKind.i64.wrap (i7 + 1)) r
 else
 none
 else
 some (r, 0)
def Qbw.l5 (n : Nat) : Nat → YD → ByteArray → Int → List Int → Option YAI
 | 0 => fun _ _ _ _ => none
 | k + 1 => Qbw.g5 (Qbw.l5 n k)
def Qbw.top (I5 : YD → ByteArray → Int → List Int → Option YAI) (p : List YA) (q : ByteArray) : Option YAI :=
 (Qi.f p).bind fun r1 =>
 if (!r1) = false then
 (QT.f q).bind fun r2 =>
 if (!r2) = true then
 some ([], 1)
 else if (0 : Int) ≤ 4 ∧ (4 : Int) < room 8 ∧ (4 : Int) = 4 then
 I5 p q 0 (List.replicate (4 : Int).toNat 0)
 else
 none
 else
 some ([], 1)
def Qbw.fn (n : Nat) (p : List YA) (q : ByteArray) : Option YAI := Qbw.top (Qbw.l5 n n) p q
def Qbw.f (p : List YA) (q : ByteArray) : Option YAI := Qbw.fn NN p q
end
end Go.Pl

namespace Go.Pl
open Go.Ev
set_option linter.unusedVariables false
set_option linter.unusedSimpArgs false
end Go.Pl

namespace Go.Pl
open Go.Ev
set_option linter.unusedVariables false
set_option linter.unusedSimpArgs false
def SrcOk (s : List Int × Int × Int) : Prop := s.1.length ≤ 4096 ∧ (∀ c ∈ s.1, 0 ≤ c ∧ c ≤ 255) ∧ (0 ≤ s.2.1 ∧ s.2.1 ≤ (s.1.length : Int)) ∧ 0 ≤ s.2.2 ∧ s.2.2 < 2147483647
theorem Vb7 {a n : Int} (h : 0 ≤ a) (hn : 0 < n) : 0 ≤ Int.tmod a n ∧ Int.tmod a n < n := by
 rw [Int.tmod_eq_emod_of_nonneg h]
 exact ⟨Int.emod_nonneg _ (by omega), Int.emod_lt_of_pos _ hn⟩
theorem Vdt {xs : List Int} {i : Nat} (h : i < xs.length) : xs.getD i 0 ∈ xs := by
 rw [List.getD_eq_getElem?_getD, List.getElem?_eq_getElem h]; exact List.getElem_mem h
theorem VG {s : List Int × Int × Int} (hs : SrcOk s) (n : Int) (hn : n ≤ 1000000000000000) : ∃ x s', Qd.f s n = some (x, s') ∧ SrcOk s' ∧ 0 ≤ x ∧ (x < n ∨ x = 0) := by
 obtain ⟨code, at_, seed⟩ := s
 obtain ⟨h1, h2, h3, h4, h5⟩ := hs
 simp only at h1 h2 h3 h4 h5
 unfold Qd.f Qd.fn Qd.top
 by_cases hn1 : n ≤ 1
 ·simp only [hn1, decide_true, if_true]
  exact ⟨0, _, rfl, ⟨h1, h2, h3, h4, h5⟩, by omega, .inr rfl⟩
 have w1 := w64 (n := seed * 48271) (by omega) (by omega)
 have w2 := w64 (n := seed * 48271 + 29) (by omega) (by omega)
 have hm := @Vb7 (seed * 48271 + 29) 2147483647 (by omega) (by omega)
 have hd : Int.tdiv (Int.tmod (seed * 48271 + 29) 2147483647) 31 = Int.tmod (seed * 48271 + 29) 2147483647 / 31 := Int.tdiv_eq_ediv_of_nonneg hm.1
 have w3 := w64 (n := Int.tdiv (Int.tmod (seed * 48271 + 29) 2147483647) 31) (by omega) (by omega)
 have w4 := w64 (n := at_ + 1) (by omega) (by omega)
 have w5 := w64 (n := at_ + 1 - 1) (by omega) (by omega)
 have hnz : ¬ n = 0 := by omega
 simp only [hn1, decide_false, Bool.false_eq_true, if_false, w1, w2, w3, w4, w5, hnz, decide_eq_true_eq]
 by_cases ha : at_ < (code.length : Int)
 ·have hc := h2 _ (Vdt (show at_.toNat < code.length by omega))
  have hc' : (0 : Int) ≤ at_ + 1 - 1 ∧ at_ + 1 - 1 < (code.length : Int) := by omega
  have e1 : (at_ + 1 - 1).toNat = at_.toNat := by omega
  have w6 := w64 (n := code.getD at_.toNat 0) (by omega) (by omega)
  have w7 := w64 (n := Int.tdiv (Int.tmod (seed * 48271 + 29) 2147483647) 31 + code.getD at_.toNat 0) (by omega) (by omega)
  have b1 := @Vb7 (code.getD at_.toNat 0) n hc.1 (by omega)
  have b2 := @Vb7 (Int.tdiv (Int.tmod (seed * 48271 + 29) 2147483647) 31 + code.getD at_.toNat 0) n (by omega) (by omega)
  have hs' : SrcOk (code, at_ + 1, Int.tmod (seed * 48271 + 29) 2147483647) := ⟨h1, h2, ⟨by simp only; omega, by simp only; omega⟩, hm.1, hm.2⟩
  simp only [ha, h3.1, and_self, if_true, hc', e1, w6, w7]
  by_cases h256 : n ≤ 256
  ·simp only [h256, if_true]
   split
   ·exact ⟨_, _, rfl, hs', b1.1, .inl b1.2⟩
   ·exact ⟨_, _, rfl, hs', b2.1, .inl b2.2⟩
  ·simp only [h256, if_false]
   exact ⟨_, _, rfl, hs', b2.1, .inl b2.2⟩
 ·have b3 := @Vb7 (Int.tdiv (Int.tmod (seed * 48271 + 29) 2147483647) 31) n (by omega) (by omega)
  simp only [ha, if_false]
  exact ⟨_, _, rfl, ⟨h1, h2, h3, hm.1, hm.2⟩, b3.1, .inl b3.2⟩
theorem Vgt {s : List Int × Int × Int} (hs : SrcOk s) (xs : List Int) (h : 1 ≤ xs.length) (hl : xs.length ≤ 1000) : ∃ x s', Qae.f s xs = some (x, s') ∧ SrcOk s' ∧ x ∈ xs := by
 obtain ⟨x, s', e, h1, h2, h3⟩ := VG hs (xs.length : Int) (by omega)
 have hx : x < (xs.length : Int) := by omega
 unfold Qae.f Qae.fn Qae.top
 rw [e]
 simp only [Option.bind_some, h2, hx, and_self, if_true]
 exact ⟨_, _, rfl, h1, Vdt (by omega)⟩
theorem VjJ (code : List Int) (hl : code.length ≤ 4096) (hc : ∀ c ∈ code, 0 ≤ c ∧ c ≤ 255) (c : List Int) (b : Int) : ∀ (d i k : Nat) (seed : Int), i + d = code.length → d < k → 0 ≤ seed → seed < 2147483647 → ∃ seed', QW.l3 NN k code i c b seed = some (c, b, seed') ∧ 0 ≤ seed' ∧ seed' < 2147483647 := by
 intro d
 induction d with
 | zero =>
  intro i k seed hi hk h0 h1
  obtain ⟨k, rfl⟩ : ∃ j, k = j + 1 := ⟨k - 1, by omega⟩
  have n1 : ¬ (i : Int) < (code.length : Int) := by omega
  exact ⟨seed, by simp only [QW.l3, QW.g3, n1, decide_false, Bool.false_eq_true, if_false], h0, h1⟩
 | succ d ih =>
  intro i k seed hi hk h0 h1
  obtain ⟨k, rfl⟩ : ∃ j, k = j + 1 := ⟨k - 1, by omega⟩
  have n1 : (i : Int) < (code.length : Int) := by omega
  by_cases h64 : (i : Int) < 64
  ·have hcc := hc _ (Vdt (show i < code.length by omega))
   have w1 := w64 (n := seed * 83) (by omega) (by omega)
   have w2 := w64 (n := code.getD i 0) (by omega) (by omega)
   have w3 := w64 (n := seed * 83 + code.getD i 0) (by omega) (by omega)
   have w4 := w64 (n := (i : Int) + 1) (by omega) (by omega)
   have hm := @Vb7 (seed * 83 + code.getD i 0) 2147483647 (by omega) (by omega)
   obtain ⟨s', e1, e2⟩ := ih (i + 1) k (Int.tmod (seed * 83 + code.getD i 0) 2147483647) (by omega) (by omega) hm.1 hm.2
   refine ⟨s', ?_, e2⟩
   simp only [QW.l3, QW.g3, n1, h64, decide_true, if_true, Int.toNat_natCast, w1, w2, w3, w4, show (0 : Int) ≤ (i : Int) from by omega, and_self]
   exact e1
  ·exact ⟨seed, by simp only [QW.l3, QW.g3, n1, h64, decide_true, if_true, decide_false, Bool.false_eq_true, if_false], h0, h1⟩
def Vd5 (code : List Int) : Prop := code.length ≤ 4096 ∧ ∀ c ∈ code, 0 ≤ c ∧ c ≤ 255
theorem Vgu {code : List Int} (h : Vd5 code) : ∃ s, QW.f code = some s ∧ SrcOk s := by
 obtain ⟨s', e, h1, h2⟩ := VjJ code h.1 h.2 code 0 code.length 0 NN 61043 (by omega) (by have := h.1; exact NN_lt (by omega)) (by omega) (by omega)
 exact ⟨(code, 0, s'), e, h.1, h.2, ⟨by simp only; omega, by simp only; omega⟩, h1, h2⟩
theorem big_f (code : List Int) : Qbo.f code = some (decide ((4096 : Int) < (code.length : Int))) := rfl
theorem Vjh {code : List Int} (h : Ls (Rg .u8) code) (hb : ¬ (4096 : Int) < (code.length : Int)) : Vd5 code := ⟨by omega, fun c hc => wf8.1 (h.2 c hc)⟩
end Go.Pl

namespace Go.Pl
open Go.Ev
set_option linter.unusedVariables false
noncomputable section
def Qbx.g4 (L4 : List Int → List Int → Int → Option Bool) (a0 : List Int) (b1 : List Int) (i5 : Int) : Option Bool :=
 if (decide ((i5 : Int) < (a0.length : Int))) = true then
 if (0 : Int) ≤ i5 ∧ (i5 : Int) < a0.length then
 if (0 : Int) ≤ i5 ∧ (i5 : Int) < b1.length then
 if (((a0.getD (i5 : Int).toNat 0) : Int) != (b1.getD (i5 : Int).toNat 0)) = true then
 some false
 else
 L4 a0 b1 (IntKind.i64.wrap (i5 + 1))
 else
 none
 else
 none
 else
 some true
def Qbx.l4 (n : Nat) : Nat → List Int → List Int → Int → Option Bool
 | 0 => fun _ _ _ => none
 | k + 1 => Qbx.g4 (Qbx.l4 n k)
def Qbx.top (I4 : List Int → List Int → Int → Option Bool) (a0 : List Int) (b1 : List Int) : Option Bool :=
 if (((a0.length : Int) : Int) != (b1.length : Int)) = true then
 some false
 else
 I4 a0 b1 0
def Qbx.fn (n : Nat) (a0 : List Int) (b1 : List Int) : Option Bool := Qbx.top (Qbx.l4 n n) a0 b1
def Qbx.f (a0 : List Int) (b1 : List Int) : Option Bool := Qbx.fn NN a0 b1
end
end Go.Pl

namespace Go.Pl
open Go.Ev
set_option linter.unusedVariables false
noncomputable section
def QbE.g2 (L2 : List Int → Int → Int → Option Bool) (p : List Int) (x1 : Int) (i5 : Int) : Option Bool :=
 if (decide ((i5 : Int) < (p.length : Int))) = true then
 if (0 : Int) ≤ i5 ∧ (i5 : Int) < p.length then
 if (((p.getD (i5 : Int).toNat 0) : Int) == x1) = true then
 some true
 else
 L2 p x1 (IntKind.i64.wrap (i5 + 1))
 else
 none
 else
 some false
def QbE.l2 (n : Nat) : Nat → List Int → Int → Int → Option Bool
 | 0 => fun _ _ _ => none
 | k + 1 => QbE.g2 (QbE.l2 n k)
def QbE.top (I2 : List Int → Int → Int → Option Bool) (p : List Int) (x1 : Int) : Option Bool :=
 I2 p x1 0
def QbE.fn (n : Nat) (p : List Int) (x1 : Int) : Option Bool := QbE.top (QbE.l2 n n) p x1
def QbE.f (p : List Int) (x1 : Int) : Option Bool := QbE.fn NN p x1
end
end Go.Pl

namespace Go.Pl
open Go.Ev
set_option linter.unusedVariables false
set_option linter.unusedSimpArgs false
end Go.Pl

namespace Go.Pl
open Go.Ev
set_option linter.unusedVariables false
noncomputable section
def QbK.top (p : List Int) : Option (YD × Int × ByteArray × Int) :=
 (QW.f p).bind fun r1 =>
 (QY.f r1).bind fun r2 =>
 (Qd.f r2.2 4).bind fun r3 =>
 (QaQ.f).bind fun r4 =>
 (Qd.f r3.2 5).bind fun r5 =>
 if (0 : Int) ≤ r5.1 ∧ (r5.1 : Int) < r4.length then
 (Qd.f r5.2 12).bind fun r6 =>
 (Qd.f r6.2 4).bind fun r7 =>
 (Qae.f r7.2 ([IntKind.i64.wrap (1 + r6.1), 1, 1000, 1001, IntKind.i64.wrap (1 + r7.1)])).bind fun r8 =>
 some (r2.1, (r3.1, (r4.getD (r5.1 : Int).toNat ByteArray.empty, r8.1)))
 else
 none
def QbK.fn (n : Nat) (p : List Int) : Option (YD × Int × ByteArray × Int) := QbK.top p
def QbK.f (p : List Int) : Option (YD × Int × ByteArray × Int) := QbK.fn NN p
end
end Go.Pl

namespace Go.Pl
open Go.Ev
set_option linter.unusedVariables false
noncomputable section
def QbA.top (p : List Int) : Option (YD × ByteArray) :=
 (QW.f p).bind fun r1 =>
 (QY.f r1).bind fun r2 =>
 (Qd.f r2.2 16).bind fun r3 =>
 if ((r3.1 : Int) == 0) = true then
 (Qaw.f r3.2).bind fun r4 =>
 some (r2.1, r4.1)
 else
 (QaQ.f).bind fun r5 =>
 (Qd.f r3.2 5).bind fun r6 =>
 if (0 : Int) ≤ r6.1 ∧ (r6.1 : Int) < r5.length then
 some (r2.1, r5.getD (r6.1 : Int).toNat ByteArray.empty)
 else
 none
def QbA.fn (n : Nat) (p : List Int) : Option (YD × ByteArray) := QbA.top p
def QbA.f (p : List Int) : Option (YD × ByteArray) := QbA.fn NN p
end
end Go.Pl

namespace Go.Pl
open Go.Ev
set_option linter.unusedVariables false
noncomputable section
def QbR.top (p : List Int) : Option (YD × ByteArray) :=
 (QbA.f p).bind fun r1 =>
 some (r1.1, r1.2)
def QbR.fn (n : Nat) (p : List Int) : Option (YD × ByteArray) := QbR.top p
def QbR.f (p : List Int) : Option (YD × ByteArray) := QbR.fn NN p
end
end Go.Pl

namespace Go.Pl
open Go.Ev
set_option linter.unusedVariables false
set_option linter.unusedSimpArgs false
theorem Vdu {xs : List ByteArray} {i : Nat} (h : i < xs.length) : xs.getD i ByteArray.empty ∈ xs := by
 rw [List.getD_eq_getElem?_getD, List.getElem?_eq_getElem h]; exact List.getElem_mem h
def names6 : List ByteArray := [(⟨#[97, 115, 116, 101, 114]⟩ : ByteArray), (⟨#[99, 111, 109, 101, 116]⟩ : ByteArray), (⟨#[100, 97, 104, 108, 105, 97]⟩ : ByteArray), (⟨#[112, 97, 108, 109]⟩ : ByteArray), (⟨#[112, 101, 111, 110, 121]⟩ : ByteArray), (⟨#[119, 105, 108, 108, 111, 119]⟩ : ByteArray)]
theorem Vgv : QaQ.f = some names6 := rfl
theorem Vck : names6.length = 6 := rfl
theorem VhK : ∀ c ∈ names6, Sm c := by
 intro c hc
 unfold names6 at hc
 simp only [List.mem_cons, List.not_mem_nil, or_false] at hc
 unfold Sm
 rcases hc with h | h | h | h | h | h <;> (rw [h]; exact Nat.le_of_ble_eq_true rfl)
theorem VhL {s : List Int × Int × Int} (hs : SrcOk s) : ∃ u s', Qa9.f s = some (u, s') ∧ SrcOk s' ∧ Sm u := by
 unfold Qa9.f Qa9.fn Qa9.top
 obtain ⟨a, s1, e1, o1, a0, a1⟩ := VG hs 12 (by omega)
 rw [e1]
 simp only [Option.bind_some]
 rw [if_pos ⟨a0, by simp only [List.length_cons, List.length_nil]; omega⟩]
 refine ⟨_, _, rfl, o1, ?_⟩
 have hm := Vdu (xs := [(⟨#[97, 100, 97]⟩ : ByteArray), (⟨#[98, 114, 117, 110, 111]⟩ : ByteArray), (⟨#[99, 108, 97, 114, 97]⟩ : ByteArray), (⟨#[100, 111, 114, 97]⟩ : ByteArray), (⟨#[101, 109, 105, 108]⟩ : ByteArray), (⟨#[102, 114, 105, 100, 97]⟩ : ByteArray), (⟨#[103, 117, 115, 116, 97, 118]⟩ : ByteArray), (⟨#[104, 97, 110, 110, 97]⟩ : ByteArray), (⟨#[105, 118, 97, 110]⟩ : ByteArray), (⟨#[106, 97, 110, 97]⟩ : ByteArray), (⟨#[107, 97, 114, 108]⟩ : ByteArray), (⟨#[108, 101, 110, 97]⟩ : ByteArray)]) (i := a.toNat) (by simp only [List.length_cons, List.length_nil]; omega)
 revert hm
 generalize List.getD _ a.toNat ByteArray.empty = c
 intro hc
 simp only [List.mem_cons, List.not_mem_nil, or_false] at hc
 unfold Sm
 rcases hc with h | h | h | h | h | h | h | h | h | h | h | h <;> (rw [h]; exact Nat.le_of_ble_eq_true rfl)
theorem Vga {s : List Int × Int × Int} (hs : SrcOk s) : ∃ u s', Qaw.f s = some (u, s') ∧ SrcOk s' ∧ Sm u := by
 unfold Qaw.f Qaw.fn Qaw.top
 obtain ⟨a, s1, e1, o1, a0, a1⟩ := VG hs 24 (by omega)
 obtain ⟨b, s2, e2, o2, b0, b1⟩ := VG o1 6 (by omega)
 obtain ⟨u, s3, e3, o3, u1⟩ := VhL o1
 rw [e1]
 simp only [Option.bind_some, e2, e3]
 split
 ·rw [if_pos ⟨b0, by simp only [List.length_cons, List.length_nil]; omega⟩]
  refine ⟨_, _, rfl, o2, ?_⟩
  have hm := Vdu (xs := [(⟨#[]⟩ : ByteArray), (⟨#[65, 100, 97]⟩ : ByteArray), (⟨#[97, 49]⟩ : ByteArray), (⟨#[97, 98, 99, 100, 101, 102, 103, 104, 105, 106, 107, 108, 109, 110, 111, 112]⟩ : ByteArray), (⟨#[97, 98, 99, 100, 101, 102, 103, 104, 105, 106, 107, 108, 109, 110, 111, 112, 113]⟩ : ByteArray), (⟨#[97, 32, 98]⟩ : ByteArray)]) (i := b.toNat) (by simp only [List.length_cons, List.length_nil]; omega)
  revert hm
  generalize List.getD _ b.toNat ByteArray.empty = c
  intro hc
  simp only [List.mem_cons, List.not_mem_nil, or_false] at hc
  unfold Sm
  rcases hc with h | h | h | h | h | h <;> (rw [h]; exact Nat.le_of_ble_eq_true rfl)
 ·exact ⟨_, _, rfl, o3, u1⟩
theorem mkB {a c : Int} {n : ByteArray} (h1 : -9223372036854775808 ≤ a ∧ a ≤ 9223372036854775807) (h2 : Sm n) (h3 : -9223372036854775808 ≤ c ∧ c ≤ 9223372036854775807) : Vs (a, n, c) := ⟨wf64.2 h1, h2, wf64.2 h3⟩
theorem VgZ {xs : List (Int × ByteArray × Int)} {b : Int × ByteArray × Int} (h : (bookR xs b).2 = 0) : Vw xs = true ∧ (bookR xs b).1 = xs ++ [b] ∧ Vw (xs ++ [b]) = true := by
 unfold bookR at h ⊢
 by_cases h1 : Vw xs = true
 ·rw [if_pos h1] at h ⊢
  by_cases h2 : xs.length = 60
  ·rw [if_pos h2] at h; simp at h
  ·rw [if_neg h2] at h ⊢
   by_cases h3 : Vw (xs ++ [b]) = true
   ·rw [if_pos h3]; exact ⟨h1, rfl, h3⟩
   ·rw [if_neg h3] at h; simp at h
 ·rw [if_neg h1] at h; simp at h
theorem Viz : ∀ (d k : Nat) (s : List Int × Int × Int) (out : List (Int × ByteArray × Int)), d < k → d ≤ 1000 → SrcOk s → Vw out = true → Lm Vs out →
  ∃ o' s', Qu.l4 NN k d s out names6 = some (o', s') ∧ SrcOk s' ∧ Vw o' = true ∧ Lm Vs o' := by
 intro d
 induction d with
 | zero =>
  intro k s out hk _ hs hb hl
  obtain ⟨k, rfl⟩ : ∃ j, k = j + 1 := ⟨k - 1, by omega⟩
  exact ⟨out, s, by simp [Qu.l4, Qu.g4], hs, hb, hl⟩
 | succ d ih =>
  intro k s out hk hd hs hb hl
  obtain ⟨k, rfl⟩ : ∃ j, k = j + 1 := ⟨k - 1, by omega⟩
  obtain ⟨a, s1, e1, o1, a0, a1⟩ := VG hs 4 (by omega)
  obtain ⟨c, s2, e2, o2, c0, c1⟩ := VG o1 4 (by omega)
  obtain ⟨n, s3, e3, o3, n0, n1⟩ := VG o2 12 (by omega)
  obtain ⟨f, s4, e4, o4, f0, f1⟩ := VG o3 2 (by omega)
  have hv := VN hb
  have hc : c < (names6.length : Int) := by rw [Vck]; omega
  have hm := VhK _ (Vdu (show c.toNat < names6.length by rw [Vck]; omega))
  have hleft := VbN (names6.getD c.toNat ByteArray.empty) out hv.1
  have z := Va2 out (names6.getD c.toNat ByteArray.empty) hv.1 (by omega)
  have hv2 := hv.2
  have w1 : IntKind.i64.wrap (((d + 1 : Nat) : Int) - 1) = (d : Int) := by rw [w64 (by omega) (by omega)]; omega
  have w2 := w64 (n := 1 + n) (by omega) (by omega)
  have bk : ∀ (b : Int × ByteArray × Int) (s' : List Int × Int × Int), Vs b → SrcOk s' → ∃ o' s'', ((Qz.f out b).bind fun r => if ((r.2 : Int) == 0) = true then Qu.l4 NN k d s' r.1 names6 else Qu.l4 NN k d s' out names6) = some (o', s'') ∧ SrcOk s'' ∧ Vw o' = true ∧ Lm Vs o' := by
   intro b s' hb' hs'
   rw [Qcd out b hl hb']
   simp only [Option.bind_some]
   by_cases h0 : (bookR out b).2 = 0
   ·rw [if_pos (by rw [h0]; rfl)]
    have := VgZ h0
    exact ih k s' _ (by omega) (by omega) hs' (by rw [this.2.1]; exact this.2.2) (Vix out b hl hb')
   ·rw [if_neg (by simpa using h0)]
    exact ih k s' out (by omega) (by omega) hs' hb hl
  simp only [Qu.l4, Qu.g4, show (0 : Int) < ((d + 1 : Nat) : Int) from by omega, decide_true, if_true, e1, e2, e3, e4, z, hc, c0, and_self, Option.bind_some, w1, w2]
  generalize names6.getD c.toNat ByteArray.empty = nm at hm hleft
  generalize Vq out nm = lf at hleft
  have hmin : -9223372036854775808 ≤ (if lf < 1000 then lf else 1000) ∧ (if lf < 1000 then lf else 1000) ≤ 9223372036854775807 := by split <;> omega
  generalize (if lf < 1000 then lf else 1000) = mn at hmin
  by_cases h1 : 0 < a
  ·by_cases h2 : 0 < lf
   ·have f4 : (lf == 0) = false := by rw [beq_eq_false_iff_ne]; omega
    by_cases h3 : f = 0
    ·have f3 : (f == 0) = true := by rw [h3]; rfl
     simp only [decide_eq_true h1, decide_eq_true h2, f3, f4, if_true, Bool.false_eq_true, if_false]
     exact bk (a, nm, mn) s4 (mkB (by omega) hm hmin) o4
    ·have f3 : (f == 0) = false := by rw [beq_eq_false_iff_ne]; exact h3
     simp only [decide_eq_true h1, decide_eq_true h2, f3, f4, if_true, Bool.false_eq_true, if_false]
     exact bk (a, nm, 1 + n) s4 (mkB (by omega) hm (by omega)) o4
   ·by_cases h4 : lf = 0
    ·have f4 : (lf == 0) = true := by rw [h4]; rfl
     simp only [decide_eq_true h1, decide_eq_false h2, f4, if_true, Bool.false_eq_true, if_false]
     exact bk (0, nm, 1 + n) s3 (mkB (by omega) hm (by omega)) o3
    ·have f4 : (lf == 0) = false := by rw [beq_eq_false_iff_ne]; exact h4
     simp only [decide_eq_true h1, decide_eq_false h2, f4, if_true, Bool.false_eq_true, if_false]
     exact bk (a, nm, 1 + n) s3 (mkB (by omega) hm (by omega)) o3
  ·by_cases h4 : lf = 0
   ·have f4 : (lf == 0) = true := by rw [h4]; rfl
    simp only [decide_eq_false h1, f4, if_true, Bool.false_eq_true, if_false]
    exact bk (0, nm, 1 + n) s3 (mkB (by omega) hm (by omega)) o3
   ·have f4 : (lf == 0) = false := by rw [beq_eq_false_iff_ne]; exact h4
    simp only [decide_eq_false h1, f4, if_true, Bool.false_eq_true, if_false]
    exact bk (a, nm, 1 + n) s3 (mkB (by omega) hm (by omega)) o3
theorem VhM {s : List Int × Int × Int} (hs : SrcOk s) : ∃ o s', Qu.f s = some (o, s') ∧ SrcOk s' ∧ Vw o = true ∧ Lm Vs o := by
 unfold Qu.f Qu.fn Qu.top
 obtain ⟨n, s1, e1, o1, n0, n1⟩ := VG hs 10 (by omega)
 obtain ⟨N, hN⟩ := Int.eq_ofNat_of_zero_le n0
 subst hN
 simp only [Vgv, e1, Option.bind_some]
 exact Viz N NN s1 [] (NN_lt (by omega)) (by omega) o1 rfl ⟨by simp, by simp⟩
theorem ViA : ∀ (d k : Nat) (s : List Int × Int × Int) (out : List (Int × ByteArray × Int)), out.length + d = 62 → d < k → SrcOk s → Lm Vs out →
  ∃ o s', QY.l6 NN k s out = some (o, s') ∧ SrcOk s' ∧ Lm Vs o := by
 intro d
 induction d with
 | zero =>
  intro k s out hd hk hs hl
  obtain ⟨k, rfl⟩ : ∃ j, k = j + 1 := ⟨k - 1, by omega⟩
  obtain ⟨a, s1, e1, o1, a0, a1⟩ := VG hs 2 (by omega)
  have w := w64 (n := 60 + a) (by omega) (by omega)
  have n1 : ¬ (out.length : Int) < 60 + a := by omega
  simp only [QY.l6, QY.g6, e1, Option.bind_some, w, n1, decide_false, Bool.false_eq_true, if_false]
  exact ⟨_, _, rfl, o1, hl⟩
 | succ d ih =>
  intro k s out hd hk hs hl
  obtain ⟨k, rfl⟩ : ∃ j, k = j + 1 := ⟨k - 1, by omega⟩
  obtain ⟨a, s1, e1, o1, a0, a1⟩ := VG hs 2 (by omega)
  have w := w64 (n := 60 + a) (by omega) (by omega)
  by_cases n1 : (out.length : Int) < 60 + a
  ·simp only [QY.l6, QY.g6, e1, Option.bind_some, w, n1, decide_true, if_true]
   rw [if_pos (by rw [VaR]; simp; omega)]
   exact ih k s1 _ (by simp; omega) (by omega) o1 (Va0 hl (mkB (by omega) (Nat.le_of_ble_eq_true rfl) (by omega)) (by omega))
  ·simp only [QY.l6, QY.g6, e1, Option.bind_some, w, n1, decide_false, Bool.false_eq_true, if_false]
   exact ⟨_, _, rfl, o1, hl⟩
theorem VhN {s : List Int × Int × Int} (hs : SrcOk s) : ∃ o s', QY.f s = some (o, s') ∧ SrcOk s' ∧ Lm Vs o := by
 unfold QY.f QY.fn QY.top
 obtain ⟨o, s1, e1, o1, b1, l1⟩ := VhM hs
 have hv := (VN b1).2
 obtain ⟨x, s2, e2, o2, x0, x1⟩ := VG o1 30 (by omega)
 obtain ⟨y, s3, e3, o3, y0, y1⟩ := VG o2 6 (by omega)
 obtain ⟨u, s4, e4, o4, u1⟩ := Vga o3
 obtain ⟨c, s5, e5, o5, c1⟩ := Vgt o4 [0, 1, 1000, 1001] (by simp) (by simp)
 have hc : 0 ≤ c ∧ c ≤ 1001 := by simp at c1; omega
 have w := w64 (n := y - 1) (by omega) (by omega)
 simp only [e1, e2, e3, e4, e5, Option.bind_some, w]
 by_cases h0 : x = 0
 ·simp only [h0, beq_self_eq_true, if_true]
  rw [if_pos (by rw [VaR]; simp; omega)]
  exact ⟨_, _, rfl, o5, Va0 l1 (mkB (by omega) u1 (by omega)) (by omega)⟩
 ·by_cases h1 : x = 1
  ·simp only [h1, beq_iff_eq, show ¬ (1 : Int) = 0 from by omega, if_true, if_false]
   exact ViA (62 - o.length) NN s2 o (by omega) (NN_lt (by omega)) o2 l1
  ·by_cases h2 : x = 2
   ·simp only [h2, beq_iff_eq, show ¬ (2 : Int) = 0 from by omega, show ¬ (2 : Int) = 1 from by omega, if_true, if_false]
    rw [if_pos (by rw [VaR]; simp; omega)]
    refine ⟨_, _, rfl, o2, ?_⟩
    have q1 := Va0 l1 (mkB (a := 0) (n := (⟨#[97, 115, 116, 101, 114]⟩ : ByteArray)) (c := 1000) (by omega) (Nat.le_of_ble_eq_true rfl) (by omega)) (by omega)
    have q2 := Va0 q1 (mkB (a := 0) (n := (⟨#[97, 115, 116, 101, 114]⟩ : ByteArray)) (c := 700) (by omega) (Nat.le_of_ble_eq_true rfl) (by omega)) (by simp; omega)
    rw [List.append_assoc] at q2
    exact q2
   ·simp only [h0, h1, h2, beq_iff_eq, if_false]
    exact ⟨_, _, rfl, o2, l1⟩
theorem Vc1 (a : List (Int × ByteArray × Int)) (hl : a.length ≤ 140737488355328) : Qr.f a a = some true := by
 unfold Qr.f Qr.fn Qr.top
 simp only [bne_self_eq_false, Bool.false_eq_true, if_false]
 refine Vdn (E := fun _ => True) (fun k a b i => Qr.l4 NN k a b i) a (fun _ _ => trivial) ?_ ?_ NN (NN_lt (by omega))
 ·intro k p x r hx ha
  subst ha
  have hm := Vz p r x
  have c1 : (p.length : Int) < ((p ++ x :: r).length : Int) := by omega
  have c0 : (0 : Int) ≤ (p.length : Int) := by omega
  have cw := w64 (n := (p.length : Int) + 1) (by omega) (by omega)
  simp only [Qr.l4, Qr.g4, c0, c1, cw, and_self, and_true, true_and, decide_true, decide_false, if_true, if_false, Vc, Vd, Va, Vb, Ve, Option.bind_some, Bool.not_true, Bool.not_false, Bool.false_eq_true, Bool.true_eq_false, beq_self_eq_true, bne_self_eq_false, Int.toNat_natCast]
  simp
 ·intro k
  simp [Qr.l4, Qr.g4]
theorem VeW : ∀ (r p : List (Int × ByteArray × Int)) (a : ByteArray), Vad p r = true → 0 ≤ Vq p a → 0 ≤ Vq (p ++ r) a := by
 intro r
 induction r with
 | nil => intro p a _ h; rwa [List.append_nil]
 | cons b r ih =>
  intro p a h hp
  simp only [Vad, Bool.and_eq_true, decide_eq_true_eq] at h
  have := ih (p ++ [b]) a h.2 (by
   by_cases ha : b.2.1 = a
   ·rw [← ha]; exact h.1.2
   ·rw [Va1]; unfold addL; rw [if_neg ha]; exact hp)
  rwa [List.append_assoc] at this
theorem VhO (a : ByteArray) : ∀ (r p : List (Int × ByteArray × Int)), (∀ b ∈ p ++ r, valB b = true) → (totL p a).getD 0 0 ≤ (totL (p ++ r) a).getD 0 0 := by
 intro r
 induction r with
 | nil => intro p _; rw [List.append_nil]; exact Int.le_refl _
 | cons b r ih =>
  intro p h
  have h1 := ih (p ++ [b]) (by rw [List.append_assoc]; exact h)
  rw [List.append_assoc] at h1
  refine Int.le_trans ?_ h1
  have hv := VaT (h b (by simp))
  obtain ⟨t0, t1, t2, t3, q1, q2⟩ := Vbr a p (fun x hx => h x (by simp [hx]))
  rw [VcF, q1]
  unfold addT
  split
  ·obtain h | h | h | h : b.1 = 0 ∨ b.1 = 1 ∨ b.1 = 2 ∨ b.1 = 3 := by omega
   all_goals (rw [h]; simp)
   omega
  ·exact Int.le_refl _
theorem VhP (xs : List (Int × ByteArray × Int)) (a : ByteArray) (h : ∀ b ∈ xs, valB b = true) (n : Nat) : Vq (xs.take n) a ≤ (totL xs a).getD 0 0 := by
 have h1 := VhO a (xs.drop n) (xs.take n) (by rw [List.take_append_drop]; exact h)
 rw [List.take_append_drop] at h1
 obtain ⟨t0, t1, t2, t3, q1, q2, q3, q4, q5, q6, q7⟩ := Vbr a (xs.take n) (fun x hx => h x (List.mem_of_mem_take hx))
 rw [q1] at h1
 have : ([t0, t1, t2, t3] : List Int).getD 0 0 = t0 := rfl
 rw [this] at h1
 omega
theorem Vji (xs : List (Int × ByteArray × Int)) (a : ByteArray) (h : ∀ b ∈ xs, valB b = true) (B : Int) (hB : ∀ n, Vq (xs.take n) a ≤ B) : ∀ (r : List (Int × ByteArray × Int)) (i : Nat) (st : Int), st ≤ B → foldi (fun i st (_ : Int × ByteArray × Int) => mostF xs a i st) i st r ≤ B := by
 intro r
 induction r with
 | nil => intro i st hs; exact hs
 | cons b r ih =>
  intro i st hs
  refine ih (i + 1) _ ?_
  have := hB (i + 1)
  show mostF xs a i st ≤ B
  unfold mostF; split <;> omega
theorem Vjj (xs : List (Int × ByteArray × Int)) (a : ByteArray) : ∀ (r : List (Int × ByteArray × Int)) (i : Nat) (st : Int), st ≤ foldi (fun i st (_ : Int × ByteArray × Int) => mostF xs a i st) i st r ∧ (0 < r.length → Vq (xs.take (i + r.length)) a ≤ foldi (fun i st (_ : Int × ByteArray × Int) => mostF xs a i st) i st r) := by
 intro r
 induction r with
 | nil => intro i st; exact ⟨Int.le_refl _, fun h => by simp at h⟩
 | cons b r ih =>
  intro i st
  have h1 := ih (i + 1) (mostF xs a i st)
  have h2 : st ≤ mostF xs a i st ∧ Vq (xs.take (i + 1)) a ≤ mostF xs a i st := by unfold mostF; split <;> omega
  refine ⟨Int.le_trans h2.1 h1.1, fun _ => ?_⟩
  cases r with
  | nil => exact Int.le_trans h2.2 h1.1
  | cons c r =>
   have := h1.2 (by simp)
   rw [show i + (b :: c :: r).length = i + 1 + (c :: r).length by simp only [List.length_cons]; omega]
   exact this
theorem Vjk (xs : List (Int × ByteArray × Int)) (a : ByteArray) (h : Vw xs = true) : 0 ≤ Vq xs a ∧ Vq xs a ≤ mostL xs a ∧ mostL xs a ≤ (totL xs a).getD 0 0 := by
 have hv := VN h
 have hok : Vad [] xs = true := by
  unfold Vw at h
  simp only [Bool.and_eq_true] at h
  exact h.2
 have h0 := VeW xs [] a hok (Int.le_refl 0)
 rw [List.nil_append] at h0
 have ht := VhP xs a hv.1
 refine ⟨h0, ?_, ?_⟩
 ·have := Vjj xs a xs 0 0
  unfold mostL
  cases xs with
  | nil => exact Int.le_refl 0
  | cons b r =>
   have h2 := this.2 (by simp)
   rw [Nat.zero_add, List.take_length] at h2
   exact h2
 ·unfold mostL
  refine Vji xs a hv.1 _ ht xs 0 0 ?_
  have := ht 0
  rw [List.take_zero] at this
  exact this
end Go.Pl

namespace Go.Pl
open Go.Ev
set_option linter.unusedVariables false
set_option linter.unusedSimpArgs false
def dg (n : Nat) : UInt8 := UInt8.ofNat (48 + n)
theorem decB1 {n : Int} (h0 : 0 ≤ n) (h : n < 10) : decB n = ob [dg n.toNat] := by
 obtain ⟨m, rfl⟩ : ∃ m : Nat, n = m := ⟨n.toNat, by omega⟩
 rw [VaK, VD (by omega)]; rfl
theorem QbW (d : Int) : ∀ (n : Nat) (L : List UInt8) (k : Nat), (L.length : Int) + n = d → L.length + n ≤ 1000 → n < k → Qab.l2 NN k d (ob L) = some (ob (List.replicate n 48 ++ L)) := by
 intro n
 induction n with
 | zero =>
  intro L k h _ hk
  obtain ⟨k, rfl⟩ : ∃ j, k = j + 1 := ⟨k - 1, by omega⟩
  have e : ¬ (L.length : Int) < d := by omega
  simp [Qab.l2, Qab.g2, Vk, e]
 | succ n ih =>
  intro L k h h2 hk
  obtain ⟨k, rfl⟩ : ∃ j, k = j + 1 := ⟨k - 1, by omega⟩
  have e : (L.length : Int) < d := by omega
  have c : (⟨#[48]⟩ : ByteArray) = ob [48] := rfl
  have q : ([48] : List UInt8).length + L.length ≤ 9223372036854775807 := by simp; omega
  simp only [Qab.l2, Qab.g2, Vk, e, c, q, Vas, and_self, and_true, true_and, decide_true, decide_false, if_true, if_false, Vc, Vd, Va, Vb, Ve, Option.bind_some, Bool.not_true, Bool.not_false, Bool.false_eq_true, Bool.true_eq_false, beq_self_eq_true, bne_self_eq_false, Int.toNat_natCast]
  rw [ih _ k (by simp; omega) (by simp; omega) (by omega)]
  congr 2
  rw [List.replicate_succ']; simp
theorem Qc5 {n : Int} (h0 : 0 ≤ n) (h : n < 100) : Qab.f n 2 = some (ob [dg (n.toNat / 10), dg (n.toNat % 10)]) := by
 obtain ⟨m, rfl⟩ : ∃ m : Nat, n = m := ⟨n.toNat, by omega⟩
 rw [Int.toNat_natCast]
 unfold Qab.f Qab.fn Qab.top
 rw [QbS (by omega) (by omega), VaK, Option.bind_some]
 by_cases h1 : m < 10
 ·rw [VD h1, QbW 2 1 _ NN (by simp) (by simp) (NN_lt (by omega))]
  have e1 : m / 10 = 0 := by omega
  have e2 : m % 10 = m := by omega
  rw [e1, e2]; rfl
 ·rw [V9 h1, VD (show m / 10 < 10 by omega), QbW 2 0 _ NN (by simp) (by simp) (NN_lt (by omega))]; rfl
theorem Qc6 {n : Int} (h0 : 0 ≤ n) (h : n < 1000) : Qab.f n 3 = some (ob [dg (n.toNat / 100), dg (n.toNat / 10 % 10), dg (n.toNat % 10)]) := by
 obtain ⟨m, rfl⟩ : ∃ m : Nat, n = m := ⟨n.toNat, by omega⟩
 rw [Int.toNat_natCast]
 unfold Qab.f Qab.fn Qab.top
 rw [QbS (by omega) (by omega), VaK, Option.bind_some]
 by_cases h1 : m < 10
 ·rw [VD h1, QbW 3 2 _ NN (by simp) (by simp) (NN_lt (by omega))]
  have e1 : m / 10 % 10 = 0 := by omega
  have e2 : m % 10 = m := by omega
  have e3 : m / 100 = 0 := by omega
  rw [e1, e2, e3]; rfl
 ·by_cases h2 : m < 100
  ·rw [V9 h1, VD (show m / 10 < 10 by omega), QbW 3 1 _ NN (by simp) (by simp) (NN_lt (by omega))]
   have e1 : m / 10 % 10 = m / 10 := by omega
   have e3 : m / 100 = 0 := by omega
   rw [e1, e3]; rfl
  ·rw [V9 h1, V9 (show ¬ m / 10 < 10 by omega), VD (show m / 10 / 10 < 10 by omega), QbW 3 0 _ NN (by simp) (by simp) (NN_lt (by omega))]
   have e3 : m / 10 / 10 = m / 100 := by omega
   rw [e3]; rfl
noncomputable def ttR (t : Int) : ByteArray × Int := (QaB.f t).getD (ByteArray.empty, 0)
theorem VeX (t : Int) : QaV.f t = some (ttR t) ∧ QaB.f t = some (ttR t) ∧ (ttR t).1.size ≤ 40 := by
 have key : ∃ v, QaV.f t = some v ∧ QaB.f t = some v ∧ v.1.size ≤ 40 := by
  unfold QaV.f QaV.fn QaV.top QaB.f QaB.fn QaB.top
  rw [QbI, Qb3]
  cases ht : inB t 0 10000000
  ·exact ⟨(⟨#[]⟩, 2), rfl, rfl, by decide⟩
  have ht' := inB_iff.1 ht
  have d1 : Int.tdiv t 60000 = t / 60000 := Int.tdiv_eq_ediv_of_nonneg ht'.1
  have d2 : Int.tdiv t 1000 = t / 1000 := Int.tdiv_eq_ediv_of_nonneg ht'.1
  have m1 : Int.tmod t 1000 = t % 1000 := Int.tmod_eq_emod_of_nonneg ht'.1
  have m2 : Int.tmod (t / 1000) 60 = t / 1000 % 60 := Int.tmod_eq_emod_of_nonneg (by omega)
  have d3 : Int.tdiv (t / 1000 % 60) 10 = t / 1000 % 60 / 10 := Int.tdiv_eq_ediv_of_nonneg (by omega)
  have m3 : Int.tmod (t / 1000 % 60) 10 = t / 1000 % 60 % 10 := Int.tmod_eq_emod_of_nonneg (by omega)
  have d4 : Int.tdiv (t % 1000) 100 = t % 1000 / 100 := Int.tdiv_eq_ediv_of_nonneg (by omega)
  have d5 : Int.tdiv (t % 1000) 10 = t % 1000 / 10 := Int.tdiv_eq_ediv_of_nonneg (by omega)
  have m4 : Int.tmod (t % 1000 / 10) 10 = t % 1000 / 10 % 10 := Int.tmod_eq_emod_of_nonneg (by omega)
  have m5 : Int.tmod (t % 1000) 10 = t % 1000 % 10 := Int.tmod_eq_emod_of_nonneg (by omega)
  have hsz := Vbd (n := t / 60000) (by omega) (by omega)
  have hd : ∃ L, decB (t / 60000) = ob L := ⟨_, rfl⟩
  obtain ⟨L, hL⟩ := hd
  rw [hL, Vk] at hsz
  have c58 : (⟨#[58]⟩ : ByteArray) = ob [58] := rfl
  have c46 : (⟨#[46]⟩ : ByteArray) = ob [46] := rfl
  have T1 : QaU.f t = some (ob (L ++ [58] ++ [dg ((t / 1000 % 60).toNat / 10), dg ((t / 1000 % 60).toNat % 10)] ++ [46] ++ [dg ((t % 1000).toNat / 100), dg ((t % 1000).toNat / 10 % 10), dg ((t % 1000).toNat % 10)])) := by
   unfold QaU.f QaU.fn QaU.top
   rw [d1, d2, m1, w64 (n := t / 60000) (by omega) (by omega), w64 (n := t / 1000) (by omega) (by omega), m2, QbS (n := t / 60000) (by omega) (by omega), Qc5 (n := t / 1000 % 60) (by omega) (by omega), Qc6 (n := t % 1000) (by omega) (by omega), hL]
   simp only [Option.bind_some, c58, c46, Vas, Vk, List.length_append, List.length_cons, List.length_nil]
   rw [if_pos (by omega), if_pos (by omega), if_pos (by omega), if_pos (by omega)]
  have T2 : Qa7.f t = some (ob (L ++ [58] ++ [dg ((t / 1000 % 60).toNat / 10), dg ((t / 1000 % 60).toNat % 10)] ++ [46] ++ [dg ((t % 1000).toNat / 100), dg ((t % 1000).toNat / 10 % 10), dg ((t % 1000).toNat % 10)])) := by
   unfold Qa7.f Qa7.fn Qa7.top
   rw [d1, d2, m1, w64 (n := t / 60000) (by omega) (by omega), w64 (n := t / 1000) (by omega) (by omega), m2, d3, m3, d4, d5, w64 (n := t / 1000 % 60 / 10) (by omega) (by omega), w64 (n := t % 1000 / 100) (by omega) (by omega), w64 (n := t % 1000 / 10) (by omega) (by omega), m4, m5]
   rw [Qbt (n := t / 60000) (by omega) (by omega), Qbt (n := t / 1000 % 60 / 10) (by omega) (by omega), Qbt (n := t / 1000 % 60 % 10) (by omega) (by omega), Qbt (n := t % 1000 / 100) (by omega) (by omega), Qbt (n := t % 1000 / 10 % 10) (by omega) (by omega), Qbt (n := t % 1000 % 10) (by omega) (by omega), hL]
   rw [decB1 (n := t / 1000 % 60 / 10) (by omega) (by omega), decB1 (n := t / 1000 % 60 % 10) (by omega) (by omega), decB1 (n := t % 1000 / 100) (by omega) (by omega), decB1 (n := t % 1000 / 10 % 10) (by omega) (by omega), decB1 (n := t % 1000 % 10) (by omega) (by omega)]
   simp only [Option.bind_some, c58, c46, Vas, Vk, List.length_append, List.length_cons, List.length_nil]
   rw [if_pos (by omega), if_pos (by omega), if_pos (by omega), if_pos (by omega), if_pos (by omega), if_pos (by omega), if_pos (by omega)]
   have e1 : (t / 1000 % 60 / 10).toNat = (t / 1000 % 60).toNat / 10 := by omega
   have e2 : (t / 1000 % 60 % 10).toNat = (t / 1000 % 60).toNat % 10 := by omega
   have e3 : (t % 1000 / 100).toNat = (t % 1000).toNat / 100 := by omega
   have e4 : (t % 1000 / 10 % 10).toNat = (t % 1000).toNat / 10 % 10 := by omega
   have e5 : (t % 1000 % 10).toNat = (t % 1000).toNat % 10 := by omega
   rw [e1, e2, e3, e4, e5]
   simp
  simp only [and_self, and_true, true_and, decide_true, decide_false, if_true, if_false, Vc, Vd, Va, Vb, Ve, Option.bind_some, Bool.not_true, Bool.not_false, Bool.false_eq_true, Bool.true_eq_false, beq_self_eq_true, bne_self_eq_false, Int.toNat_natCast, T1, T2]
  refine ⟨_, rfl, rfl, ?_⟩
  simp only [Vk, List.length_append, List.length_cons, List.length_nil]; omega
 obtain ⟨v, h1, h2, h3⟩ := key
 have : ttR t = v := by unfold ttR; rw [h2]; rfl
 rw [this]
 exact ⟨h1, h2, h3⟩
end Go.Pl

namespace Go.Pl
open Go.Ev
set_option linter.unusedVariables false
set_option linter.unusedSimpArgs false
theorem VaB {a b A B : Int} (ha : 0 ≤ a) (hA : a ≤ A) (hb : 0 ≤ b) (hB : b ≤ B) : 0 ≤ a * b ∧ a * b ≤ A * B :=
 ⟨Int.mul_nonneg ha hb, Int.mul_le_mul hA hB hb (by omega)⟩
def cub (m : Int) : Int := m * m * m
theorem VhQ {a b : Int} (ha : 0 ≤ a) (h : a ≤ b) : cub a ≤ cub b := by
 have h1 := VaB ha h ha h
 exact (VaB h1.1 h1.2 ha h).2
theorem VhR {m : Int} (h0 : 0 ≤ m) (h1 : m ≤ 300000) : (0 ≤ m * m ∧ m * m ≤ 90000000000) ∧ 0 ≤ m * m * m ∧ m * m * m ≤ 27000000000000000 := by
 have a := VaB h0 h1 h0 h1
 have b := VaB a.1 a.2 h0 h1
 refine ⟨⟨a.1, by omega⟩, b.1, by omega⟩
def SepP (c h : Int) : Prop := 0 ≤ h ∧ h ≤ 300000 ∧ c ≤ cub h ∧ (h = 0 ∨ cub (h - 1) < c)
theorem Vjl {c h i : Int} (a : SepP c h) (b : SepP c i) : h = i := by
 obtain ⟨a1, a2, a3, a4⟩ := a
 obtain ⟨b1, b2, b3, b4⟩ := b
 rcases Int.lt_trichotomy h i with hlt | heq | hgt
 ·rcases b4 with b4 | b4
  ·omega
  ·have := VhQ a1 (show h ≤ i - 1 by omega); omega
 ·exact heq
 ·rcases a4 with a4 | a4
  ·omega
  ·have := VhQ b1 (show i ≤ h - 1 by omega); omega
theorem half {a b : Int} (h : 0 ≤ a + b) : Int.tdiv (a + b) 2 = (a + b) / 2 := Int.tdiv_eq_ediv_of_nonneg h
theorem Qdi (c : Int) : ∀ (n : Nat) (low high : Int) (k : Nat), 0 ≤ low → low ≤ high → high ≤ 300000 → high - low ≤ n → c ≤ cub high → (low = 0 ∨ cub (low - 1) < c) → n < k →
  ∃ h, Qy.l3 NN k c low high = some h ∧ SepP c h := by
 intro n
 induction n with
 | zero =>
  intro low high k h0 h1 h2 h3 h4 h5 hk
  obtain ⟨k, rfl⟩ : ∃ j, k = j + 1 := ⟨k - 1, by omega⟩
  have e : ¬ low < high := by omega
  have e2 : high = low := by omega
  refine ⟨low, by simp [Qy.l3, Qy.g3, e], h0, by omega, by rw [← e2]; exact h4, h5⟩
 | succ n ih =>
  intro low high k h0 h1 h2 h3 h4 h5 hk
  obtain ⟨k, rfl⟩ : ∃ j, k = j + 1 := ⟨k - 1, by omega⟩
  by_cases e : low < high
  ·have w1 := w64 (n := low + high) (by omega) (by omega)
   have w2 := w64 (n := (low + high) / 2) (by omega) (by omega)
   have hb := VhR (m := (low + high) / 2) (by omega) (by omega)
   have w3 := w64 (n := (low + high) / 2 * ((low + high) / 2)) (by omega) (by omega)
   have hb2 : 0 ≤ cub ((low + high) / 2) ∧ cub ((low + high) / 2) ≤ 27000000000000000 := hb.2
   have w4 := w64 (n := cub ((low + high) / 2)) (by omega) (by omega)
   have w5 := w64 (n := (low + high) / 2 + 1) (by omega) (by omega)
   have ec : (low + high) / 2 * ((low + high) / 2) * ((low + high) / 2) = cub ((low + high) / 2) := rfl
   simp only [Qy.l3, Qy.g3, e, w1, half (show 0 ≤ low + high by omega), w2, w3, w4, w5, ec, and_self, and_true, true_and, decide_true, decide_false, if_true, if_false, Vc, Vd, Va, Vb, Ve, Option.bind_some, Bool.not_true, Bool.not_false, Bool.false_eq_true, Bool.true_eq_false, beq_self_eq_true, bne_self_eq_false, Int.toNat_natCast]
   by_cases q : c ≤ cub ((low + high) / 2)
   ·simp only [q, and_self, and_true, true_and, decide_true, decide_false, if_true, if_false, Vc, Vd, Va, Vb, Ve, Option.bind_some, Bool.not_true, Bool.not_false, Bool.false_eq_true, Bool.true_eq_false, beq_self_eq_true, bne_self_eq_false, Int.toNat_natCast]
    exact ih low ((low + high) / 2) k h0 (by omega) (by omega) (by omega) q h5 (by omega)
   ·simp only [q, and_self, and_true, true_and, decide_true, decide_false, if_true, if_false, Vc, Vd, Va, Vb, Ve, Option.bind_some, Bool.not_true, Bool.not_false, Bool.false_eq_true, Bool.true_eq_false, beq_self_eq_true, bne_self_eq_false, Int.toNat_natCast]
    refine ih ((low + high) / 2 + 1) high k (by omega) (by omega) h2 (by omega) h4 (.inr ?_) (by omega)
    rw [Int.add_sub_cancel]; omega
  ·have e2 : high = low := by omega
   refine ⟨low, by simp [Qy.l3, Qy.g3, e], h0, by omega, by rw [← e2]; exact h4, h5⟩
theorem Qcr {m : Int} (h0 : 0 ≤ m) (h1 : m ≤ 300000) : Qa3.f m = some (cub m) := by
 have hb := VhR h0 h1
 unfold Qa3.f Qa3.fn Qa3.top cub
 rw [w64 (n := m * m) (by omega) (by omega), w64 (by omega) (by omega)]
theorem Qdj (f g : Int) (hf : 0 ≤ f ∧ f ≤ 500) (hc : 0 ≤ cub f * g ∧ cub f * g ≤ 12500000000000000) : ∀ (n : Nat) (low high : Int) (k : Nat), -1 ≤ low → low < high → high ≤ 300000 → high - low ≤ n → cub f * g ≤ cub high → (low = -1 ∨ cub low < cub f * g) → n < k →
  ∃ h, Qac.l2 NN k f g low high = some h ∧ SepP (cub f * g) h := by
 intro n
 induction n with
 | zero => intro low high k _ _ _ _ _ _ _; omega
 | succ n ih =>
  intro low high k h0 h1 h2 h3 h4 h5 hk
  obtain ⟨k, rfl⟩ : ∃ j, k = j + 1 := ⟨k - 1, by omega⟩
  have w0 := w64 (n := low + 1) (by omega) (by omega)
  by_cases e : low + 1 < high
  ·have w1 := w64 (n := low + high) (by omega) (by omega)
   have w2 := w64 (n := (low + high) / 2) (by omega) (by omega)
   have w3 := w64 (n := cub f * g) (by omega) (by omega)
   simp only [Qac.l2, Qac.g2, e, w0, w1, half (show 0 ≤ low + high by omega), w2, Qcr (show 0 ≤ (low + high) / 2 by omega) (by omega), Qcr hf.1 (show f ≤ 300000 by omega), w3, and_self, and_true, true_and, decide_true, decide_false, if_true, if_false, Vc, Vd, Va, Vb, Ve, Option.bind_some, Bool.not_true, Bool.not_false, Bool.false_eq_true, Bool.true_eq_false, beq_self_eq_true, bne_self_eq_false, Int.toNat_natCast]
   by_cases q : cub f * g ≤ cub ((low + high) / 2)
   ·simp only [q, and_self, and_true, true_and, decide_true, decide_false, if_true, if_false, Vc, Vd, Va, Vb, Ve, Option.bind_some, Bool.not_true, Bool.not_false, Bool.false_eq_true, Bool.true_eq_false, beq_self_eq_true, bne_self_eq_false, Int.toNat_natCast]
    exact ih low ((low + high) / 2) k h0 (by omega) (by omega) (by omega) q h5 (by omega)
   ·simp only [q, and_self, and_true, true_and, decide_true, decide_false, if_true, if_false, Vc, Vd, Va, Vb, Ve, Option.bind_some, Bool.not_true, Bool.not_false, Bool.false_eq_true, Bool.true_eq_false, beq_self_eq_true, bne_self_eq_false, Int.toNat_natCast]
    exact ih ((low + high) / 2) high k (by omega) (by omega) h2 (by omega) h4 (.inr (by omega)) (by omega)
  ·have e2 : high = low + 1 := by omega
   refine ⟨high, by simp [Qac.l2, Qac.g2, e, w0], by omega, h2, h4, ?_⟩
   rcases h5 with h5 | h5
   ·exact .inl (by omega)
   ·right; rw [e2, Int.add_sub_cancel]; exact h5
noncomputable def sepR (f g : Int) : Int × Int := (Qai.f f g).getD (0, 0)
theorem VcK (f g : Int) : Qaq.f f g = some (sepR f g) ∧ Qai.f f g = some (sepR f g) ∧ 0 ≤ (sepR f g).1 ∧ (sepR f g).1 ≤ 300000 := by
  have key : ∃ v, Qaq.f f g = some v ∧ Qai.f f g = some v ∧ 0 ≤ v.1 ∧ v.1 ≤ 300000 := by
    unfold Qaq.f Qaq.fn Qaq.top Qbc.f Qbc.fn Qbc.top Qai.f Qai.fn Qai.top QaN.f QaN.fn QaN.top QaM.f QaM.fn QaM.top
    rw [Qbr, Qbr, Qbq, Qbq]
    cases hf : inB f 0 500
    · exact ⟨(0, 2), rfl, rfl, by simp, by simp⟩
    cases hg : inB g 0 100000000
    · exact ⟨(0, 2), rfl, rfl, by simp, by simp⟩
    have hf' := inB_iff.1 hf
    have hg' := inB_iff.1 hg
    have e : ((0 : Int) != 0) = false := rfl
    have a := VaB hf'.1 hf'.2 hf'.1 hf'.2
    have b := VaB a.1 a.2 hf'.1 hf'.2
    have c := VaB b.1 b.2 hg'.1 hg'.2
    have ec : f * f * f = cub f := rfl
    rw [ec] at b c
    have w1 := w64 (n := f * f) (by omega) (by omega)
    have w2 := w64 (n := cub f) (by omega) (by omega)
    have w3 := w64 (n := cub f * g) (by omega) (by omega)
    have hi : cub f * g ≤ cub 300000 := by have : cub 300000 = 27000000000000000 := by decide +kernel
                                           omega
    obtain ⟨x, hx, px⟩ := Qdj f g hf' ⟨c.1, by omega⟩ 300001 (-1) 300000 NN (by omega) (by omega) (by omega) (by omega) hi (.inl rfl) (NN_lt (by omega))
    obtain ⟨y, hy, py⟩ := Qdi (cub f * g) 300001 0 300000 NN (by omega) (by omega) (by omega) (by omega) hi (.inl rfl) (NN_lt (by omega))
    have hxy := Vjl px py
    subst hxy
    refine ⟨(x, 0), ?_, ?_, px.1, px.2.1⟩
    · simp only [e, and_self, and_true, true_and, decide_true, decide_false, if_true, if_false, Vc, Vd, Va, Vb, Ve, Option.bind_some, Bool.not_true, Bool.not_false, Bool.false_eq_true, Bool.true_eq_false, beq_self_eq_true, bne_self_eq_false, Int.toNat_natCast]
      unfold Qac.f Qac.fn Qac.top
      rw [hx]; rfl
    · simp only [and_self, and_true, true_and, decide_true, decide_false, if_true, if_false, Vc, Vd, Va, Vb, Ve, Option.bind_some, Bool.not_true, Bool.not_false, Bool.false_eq_true, Bool.true_eq_false, beq_self_eq_true, bne_self_eq_false, Int.toNat_natCast]
      unfold Qy.f Qy.fn Qy.top
      rw [w1, ec, w2, w3, hy]; rfl
  obtain ⟨v, h1, h2, h3⟩ := key
  have : sepR f g = v := by unfold sepR; rw [h2]; rfl
  rw [this]
  exact ⟨h1, h2, h3⟩
end Go.Pl
