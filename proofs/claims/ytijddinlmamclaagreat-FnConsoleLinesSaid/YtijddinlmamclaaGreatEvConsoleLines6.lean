/- Part 6 of what the law FnConsoleLines stands on: an evaluator of the model's code, proved sound; the functions as plain texts; their contracts. -/
import Derived.Test.YtijddinlmamclaaGreatChecked
import Derived.Test.YtijddinlmamclaaGreatProg
import Derived.Test.YtijddinlmamclaaGreatRows
import Derived.Below
import Derived.Calls
import Derived.Carry
import Derived.ChangeArms
import Derived.ChangeKeysEq
import Derived.ChangeOld
import Derived.Deep.Quiet
import Derived.KernelRfl
import Derived.Laws.Append
import Derived.Laws.BytesString
import Derived.Laws.MakeOwn
import Derived.Laws.Strings
import Derived.Laws.StructEq
import Derived.OpenShut
import Derived.OrdersHeld
import Derived.ProofKit
import Derived.ShutString
import Derived.SizedLaws
import Derived.Tactics
import Derived.WalkKit
import Derived.WideShapes
import Derived.Test.YtijddinlmamclaaGreatEvConsoleLines5
namespace Go.Pl
open Go.Ev
set_option linter.unusedVariables false
set_option linter.unusedSimpArgs false
def digs (n : Nat) : List UInt8 := if h : n < 10 then [UInt8.ofNat (48 + n)] else digs (n / 10) ++ [UInt8.ofNat (48 + n % 10)]
  termination_by n
  decreasing_by omega
theorem digs_small {n : Nat} (h : n < 10) : digs n = [UInt8.ofNat (48 + n)] := by rw [digs, dif_pos h]
theorem digs_big {n : Nat} (h : ¬ n < 10) : digs n = digs (n / 10) ++ [UInt8.ofNat (48 + n % 10)] := by rw [digs, dif_neg h]
theorem digs_len : ∀ (d n : Nat), n < 10 ^ (d + 1) → (digs n).length ≤ d + 1 ∧ 1 ≤ (digs n).length := by
  intro d
  induction d with
  | zero => intro n hn; rw [digs_small (by simpa using hn)]; simp
  | succ d ih =>
    intro n hn
    by_cases h : n < 10
    · rw [digs_small h]; simp
    · rw [digs_big h]
      have := ih (n / 10) (by rw [Nat.pow_succ] at hn; omega)
      simp; omega
def decB (n : Int) : ByteArray := ob (if n < 0 then 45 :: digs (-n).toNat else digs n.toNat)
theorem decB_nat (n : Nat) : decB (n : Int) = ob (digs n) := by unfold decB; rw [if_neg (by omega), Int.toNat_natCast]
theorem bytesOf_dig {x : Nat} (h : x < 10) : bytesOf [IntKind.u8.wrap (IntKind.i64.wrap (48 + (x : Int)))] = ob [UInt8.ofNat (48 + x)] := by
  rw [w64 (n := 48 + (x : Int)) (by omega) (by omega), w8 (by omega) (by omega), bytesOf_ob]
  simp only [List.map_cons, List.map_nil]
  rfl
theorem tmod10 (x : Nat) : Int.tmod (x : Int) 10 = ((x % 10 : Nat) : Int) := (Int.ofNat_tmod x 10).symm
theorem tdiv10 (x : Nat) : Int.tdiv (x : Int) 10 = ((x / 10 : Nat) : Int) := (Int.ofNat_tdiv x 10).symm
theorem p19 : (10 : Nat) ^ (18 + 1) = 10000000000000000000 := by decide
theorem QcW (S : Int → Option ByteArray) : ∀ (d n : Nat), n < 10 ^ (d + 1) → n ≤ 1000000000000000000 → ∀ (acc : List UInt8) (k : Nat), acc.length + d ≤ 1000 → d < k → Qf.l4 S NN k (n : Int) (ob acc) = some (ob (digs n ++ acc)) := by
  intro d
  induction d with
  | zero =>
    intro n hn _ acc k ha hk
    obtain ⟨k, rfl⟩ : ∃ j, k = j + 1 := ⟨k - 1, by omega⟩
    have hn' : n < 10 := by simpa using hn
    have e0 : (ob [UInt8.ofNat (48 + n % 10)]).size + (ob acc).size ≤ 9223372036854775807 := by rw [ob_size, ob_size]; simp; omega
    have ew := w64 (n := ((n / 10 : Nat) : Int)) (by omega) (by omega)
    have ez : (((n / 10 : Nat) : Int) == 0) = true := by rw [beq_iff_eq]; omega
    simp only [Qf.l4, Qf.g4, tdiv10, tmod10, bytesOf_dig (show n % 10 < 10 by omega), e0, ew, ez, if_true, ob_append]
    rw [digs_small hn', Nat.mod_eq_of_lt hn']
  | succ d ih =>
    intro n hn hm acc k ha hk
    obtain ⟨k, rfl⟩ : ∃ j, k = j + 1 := ⟨k - 1, by omega⟩
    have e0 : (ob [UInt8.ofNat (48 + n % 10)]).size + (ob acc).size ≤ 9223372036854775807 := by rw [ob_size, ob_size]; simp; omega
    have ew := w64 (n := ((n / 10 : Nat) : Int)) (by omega) (by omega)
    simp only [Qf.l4, Qf.g4, tdiv10, tmod10, bytesOf_dig (show n % 10 < 10 by omega), e0, ew, if_true, ob_append]
    by_cases h : n < 10
    · have ez : (((n / 10 : Nat) : Int) == 0) = true := by rw [beq_iff_eq]; omega
      rw [if_pos ez, digs_small h, Nat.mod_eq_of_lt h]
    · have ez : ¬ (((n / 10 : Nat) : Int) == 0) = true := by rw [beq_iff_eq]; omega
      have hn' : n / 10 < 10 ^ (d + 1) := by rw [Nat.pow_succ] at hn; omega
      rw [if_neg ez, ih (n / 10) hn' (by omega) _ k (by simp; omega) (by omega), digs_big h, List.append_assoc]
theorem Qcb (S : Int → Option ByteArray) (m : Nat) (h : m ≤ 1000000000000000000) : Qf.fn S NN m = some (decB m) := by
  unfold Qf.fn Qf.top
  have hl := QcW S 18 m (by rw [p19]; omega) h [] NN (by simp) (NN_lt (by omega))
  rw [List.append_nil] at hl
  have hn : ¬ (m : Int) < 0 := by omega
  simp only [hn, decide_false, Bool.false_eq_true, if_false]
  rw [decB_nat]; exact hl
theorem NN_succ2 : ∃ j, NN = j + 1 + 1 := ⟨NN - 2, by have := NNb; omega⟩
theorem QbJ {n : Int} (h0 : -1000000000000000000 ≤ n) (h : n ≤ 1000000000000000000) : Qf.f n = some (decB n) := by
  unfold Qf.f
  obtain ⟨k, hk⟩ := NN_succ2
  rw [hk]
  show Qf.fn (Qf.rc (k + 1)) NN n = some (decB n)
  by_cases hn : 0 ≤ n
  · obtain ⟨m, rfl⟩ : ∃ m : Nat, n = m := ⟨n.toNat, by omega⟩
    exact Qcb _ m (by omega)
  · obtain ⟨m, hm⟩ : ∃ m : Nat, -n = m := ⟨(-n).toNat, by omega⟩
    have hl := digs_len 18 m (by rw [p19]; omega)
    have hw : IntKind.i64.wrap (0 - n) = (m : Int) := by rw [w64 (by omega) (by omega)]; omega
    have hf := Qcb (Qf.rc k) m (by omega)
    have hlt : n < 0 := by omega
    show Qf.top (Qf.rc (k + 1)) (Qf.l4 (Qf.rc (k + 1)) NN NN) n = some (decB n)
    unfold Qf.top
    simp only [hlt, decide_true, if_true, hw]
    rw [show Qf.rc (k + 1) (m : Int) = Qf.fn (Qf.rc k) NN (m : Int) from rfl, hf]
    simp only [Option.bind_some]
    rw [decB_nat, if_pos (by rw [ob_size, show (⟨#[45]⟩ : ByteArray).size = 1 from rfl]; omega), show (⟨#[45]⟩ : ByteArray) = ob [45] from rfl, ob_append]
    unfold decB; rw [if_pos hlt, hm]; rfl
theorem QcF : ∀ (d n : Nat), d ≤ 20 → n < 10 ^ (d + 1) → n ≤ 1000000000000000000 → ∀ k, d < k → Qe.rc k (n : Int) = some (ob (digs n)) := by
  intro d
  induction d with
  | zero =>
    intro n _ hn _ k hk
    obtain ⟨k, rfl⟩ : ∃ j, k = j + 1 := ⟨k - 1, by omega⟩
    have hn' : n < 10 := by simpa using hn
    have h1 : (n : Int) < 10 := by omega
    simp only [Qe.rc, Qe.fn, Qe.top, h1, decide_true, if_true, bytesOf_dig hn', digs_small hn']
  | succ d ih =>
    intro n hd hn hm k hk
    obtain ⟨k, rfl⟩ : ∃ j, k = j + 1 := ⟨k - 1, by omega⟩
    by_cases h : n < 10
    · have h1 : (n : Int) < 10 := by omega
      simp only [Qe.rc, Qe.fn, Qe.top, h1, decide_true, if_true, bytesOf_dig h, digs_small h]
    · have hn' : n / 10 < 10 ^ (d + 1) := by rw [Nat.pow_succ] at hn; omega
      have hl := digs_len d (n / 10) hn'
      have h1 : ¬ (n : Int) < 10 := by omega
      have ew := w64 (n := ((n / 10 : Nat) : Int)) (by omega) (by omega)
      have e0 : (ob (digs (n / 10))).size + (ob [UInt8.ofNat (48 + n % 10)]).size ≤ 9223372036854775807 := by rw [ob_size, ob_size]; simp; omega
      simp only [Qe.rc, Qe.fn, Qe.top, h1, decide_false, Bool.false_eq_true, if_false, tdiv10, tmod10, ew, ih (n / 10) (by omega) hn' (by omega) k (by omega), Option.bind_some, bytesOf_dig (show n % 10 < 10 by omega), e0, if_true, ob_append, digs_big h]
theorem Qbl {n : Int} (h0 : 0 ≤ n) (h : n ≤ 1000000000000000000) : Qe.f n = some (decB n) := by
  obtain ⟨m, rfl⟩ : ∃ m : Nat, n = m := ⟨n.toNat, by omega⟩
  rw [decB_nat]
  exact QcF 18 m (by omega) (by rw [p19]; omega) (by omega) NN (NN_lt (by omega))
theorem decB_size {n : Int} (h0 : -1000000000000000000 ≤ n) (h : n ≤ 1000000000000000000) : (decB n).size ≤ 20 := by
  have hl := digs_len 18 n.toNat (by rw [p19]; omega)
  have hl2 := digs_len 18 (-n).toNat (by rw [p19]; omega)
  unfold decB; rw [ob_size]; split
  · rw [List.length_cons]; omega
  · omega
end Go.Pl

namespace Go.Pl
open Go.Ev
set_option linter.unusedVariables false
set_option linter.unusedSimpArgs false
def isDig (c : UInt8) : Bool := decide (48 ≤ (c.toNat : Int) ∧ (c.toNat : Int) ≤ 57)
def valL : List UInt8 → Nat → Nat
  | [], a => a
  | c :: r, a => valL r (10 * a + (c.toNat - 48))
theorem head_app {α : Type} {p r : List α} (h : p ≠ []) : (p ++ r).head? = p.head? := by
  cases p with
  | nil => exact absurd rfl h
  | cons => rfl
theorem isDig_iff {c : UInt8} : isDig c = true ↔ 48 ≤ c.toNat ∧ c.toNat ≤ 57 := by unfold isDig; rw [decide_eq_true_eq]; omega
theorem valL_append (l r : List UInt8) (a : Nat) : valL (l ++ r) a = valL r (valL l a) := by
  induction l generalizing a with
  | nil => rfl
  | cons c l ih => simp only [List.cons_append, valL]; exact ih _
theorem valL_lt : ∀ (l : List UInt8) (a : Nat), (∀ c ∈ l, isDig c = true) → valL l a < (a + 1) * 10 ^ l.length := by
  intro l
  induction l with
  | nil => intro a _; simp [valL]
  | cons c r ih =>
    intro a h
    have hc := isDig_iff.1 (h c (by simp))
    have := ih (10 * a + (c.toNat - 48)) (fun x hx => h x (by simp [hx]))
    simp only [valL, List.length_cons]
    have h2 : (10 * a + (c.toNat - 48) + 1) * 10 ^ r.length ≤ ((a + 1) * 10) * 10 ^ r.length := Nat.mul_le_mul_right _ (by omega)
    have h3 : ((a + 1) * 10) * 10 ^ r.length = (a + 1) * 10 ^ (r.length + 1) := by rw [Nat.mul_assoc, ← Nat.pow_succ']
    omega
theorem digs_ne (n : Nat) : digs n ≠ [] := by
  by_cases h : n < 10
  · rw [digs_small h]; simp
  · rw [digs_big h]; simp
theorem digs_head {n : Nat} (h : n ≠ 0) : ∀ c, (digs n).head? = some c → c ≠ 48 := by
  induction n using Nat.strongRecOn with
  | _ n ih =>
    by_cases hn : n < 10
    · rw [digs_small hn]
      intro c hc
      simp only [List.head?_cons, Option.some.injEq] at hc
      subst hc
      intro e
      have := congrArg UInt8.toNat e
      rw [UInt8.toNat_ofNat'] at this
      have e2 : (48 : UInt8).toNat = 48 := rfl
      omega
    · rw [digs_big hn]
      intro c hc
      have h1 := digs_ne (n / 10)
      rw [head_app h1] at hc
      exact ih (n / 10) (by omega) (by omega) c hc
theorem digs_valL : ∀ (l : List UInt8), l ≠ [] → (∀ c ∈ l, isDig c = true) → (l.length = 1 ∨ l.head? ≠ some 48) → digs (valL l 0) = l := by
  have key : ∀ (k : Nat) (l : List UInt8), l.length = k → l ≠ [] → (∀ c ∈ l, isDig c = true) → (l.length = 1 ∨ l.head? ≠ some 48) → digs (valL l 0) = l := by
    intro k
    induction k with
    | zero => intro l hl hne; exact absurd (List.length_eq_zero_iff.1 hl) hne
    | succ k ih =>
      intro l hl hne hd hz
      obtain ⟨p, c, rfl⟩ : ∃ p c, l = p ++ [c] := ⟨l.dropLast, l.getLast hne, (List.dropLast_concat_getLast hne).symm⟩
      have hc := isDig_iff.1 (hd c (by simp))
      have ec : UInt8.ofNat (48 + (c.toNat - 48)) = c := by
        apply UInt8.toNat_inj.1; rw [UInt8.toNat_ofNat']; omega
      simp only [List.length_append, List.length_cons, List.length_nil] at hl
      rw [valL_append]
      simp only [valL]
      by_cases hp : p = []
      · subst hp
        simp only [valL, List.nil_append]
        rw [Nat.mul_zero, Nat.zero_add, digs_small (by omega), ec]
      · have hpl : p.length ≠ 0 := fun e => hp (List.length_eq_zero_iff.1 e)
        have hp0 : p.head? ≠ some 48 := by
          rcases hz with hz | hz
          · rw [List.length_append, List.length_cons, List.length_nil] at hz; omega
          · rw [head_app hp] at hz; exact hz
        have ihp := ih p (by omega) hp (fun x hx => hd x (by simp [hx])) (.inr hp0)
        have hv : valL p 0 ≠ 0 := by
          intro e
          rw [e] at ihp
          rw [digs_small (by omega)] at ihp
          rw [← ihp] at hp0
          exact hp0 rfl
        rw [digs_big (by omega), show (10 * valL p 0 + (c.toNat - 48)) / 10 = valL p 0 by omega, ihp, show (10 * valL p 0 + (c.toNat - 48)) % 10 = c.toNat - 48 by omega, ec]
  intro l
  exact key l.length l rfl
theorem u8_sub48 {c : UInt8} (h : isDig c = true) : IntKind.i64.wrap (IntKind.u8.wrap ((c.toNat : Int) - 48)) = ((c.toNat - 48 : Nat) : Int) := by
  have := isDig_iff.1 h
  rw [w8 (by omega) (by omega), w64 (by omega) (by omega)]; omega
theorem p18 : (10 : Nat) ^ 18 = 1000000000000000000 := by decide
theorem pow_le18 {a : Nat} (h : a ≤ 18) : (10 : Nat) ^ a ≤ 1000000000000000000 := by
  have := Nat.pow_le_pow_right (n := 10) (by omega) h
  rw [p18] at this; exact this
theorem Qb7 (s : ByteArray) : ∀ (r p : List UInt8) (a k : Nat), p.length + r.length ≤ 18 → r.length < k → a < 10 ^ p.length →
    Qs.l8 NN k s (ob (p ++ r)) (a : Int) (p.length : Int) = if r.all isDig = true then (if (((p ++ r).length : Nat) : Int) < (s.size : Int) then some (-((valL r a : Nat) : Int), true) else some (((valL r a : Nat) : Int), true)) else some (0, false) := by
  intro r
  induction r with
  | nil =>
    intro p a k hb hk ha
    obtain ⟨k, rfl⟩ : ∃ j, k = j + 1 := ⟨k - 1, by omega⟩
    have h18 := pow_le18 (a := p.length) (by simpa using hb)
    rw [List.append_nil]
    have c1 : ¬ (p.length : Int) < (p.length : Int) := by omega
    have cw := w64 (n := 0 - (a : Int)) (by omega) (by omega)
    simp only [Qs.l8, Qs.g8, ob_size, c1, cw, and_self, and_true, true_and, decide_true, decide_false, if_true, if_false, mid_get, mid_set, mid_getn, mid_setn, bt_mid, Option.bind_some, Bool.not_true, Bool.not_false, Bool.false_eq_true, Bool.true_eq_false, beq_self_eq_true, bne_self_eq_false, Int.toNat_natCast, decide_eq_true_eq, List.all_nil, valL]
    rw [show 0 - (a : Int) = -(a : Int) by omega]
  | cons c r ih =>
    intro p a k hb hk ha
    simp only [List.length_cons] at hb hk
    obtain ⟨k, rfl⟩ : ∃ j, k = j + 1 := ⟨k - 1, by omega⟩
    have h17 : (10 : Nat) ^ p.length ≤ 10 ^ 17 := Nat.pow_le_pow_right (by omega) (by omega)
    have e17 : (10 : Nat) ^ 17 = 100000000000000000 := by decide
    have c0 : (0 : Int) ≤ (p.length : Int) := by omega
    have hm := mid_len p r c
    have c1 : (p.length : Int) < ((ob (p ++ c :: r)).size : Int) := by rw [ob_size]; omega
    have cw := w64 (n := (p.length : Int) + 1) (by omega) (by omega)
    simp only [Qs.l8, Qs.g8, c0, c1, cw, and_self, and_true, true_and, decide_true, decide_false, if_true, if_false, mid_get, mid_set, mid_getn, mid_setn, bt_mid, Option.bind_some, Bool.not_true, Bool.not_false, Bool.false_eq_true, Bool.true_eq_false, beq_self_eq_true, bne_self_eq_false, Int.toNat_natCast, List.all_cons]
    by_cases hd : isDig c = true
    · have h2 := isDig_iff.1 hd
      have n1 : ¬ (c.toNat : Int) < 48 := by omega
      have n2 : ¬ (57 : Int) < (c.toNat : Int) := by omega
      have e1 := w64 (n := 10 * (a : Int)) (by omega) (by omega)
      have e2 := w64 (n := 10 * (a : Int) + ((c.toNat - 48 : Nat) : Int)) (by omega) (by omega)
      have := ih (p ++ [c]) (10 * a + (c.toNat - 48)) k (by simp; omega) (by omega) (by rw [List.length_append, List.length_singleton, Nat.pow_succ]; omega)
      rw [mid_snoc, snoc_len, show ((10 * a + (c.toNat - 48) : Nat) : Int) = 10 * (a : Int) + ((c.toNat - 48 : Nat) : Int) by omega] at this
      simp only [n1, n2, and_self, and_true, true_and, decide_true, decide_false, if_true, if_false, mid_get, mid_set, mid_getn, mid_setn, bt_mid, Option.bind_some, Bool.not_true, Bool.not_false, Bool.false_eq_true, Bool.true_eq_false, beq_self_eq_true, bne_self_eq_false, Int.toNat_natCast, u8_sub48 hd, e1, e2, hd, this, valL]
      rfl
    · have hd' : isDig c = false := by simpa using hd
      by_cases h1 : (c.toNat : Int) < 48
      · simp [h1, hd']
      · have h3 : (57 : Int) < (c.toNat : Int) := by
          have : ¬ (48 ≤ c.toNat ∧ c.toNat ≤ 57) := fun e => hd (isDig_iff.2 e)
          omega
        simp [h1, h3, hd']
def okDigs (l : List UInt8) (m : Nat) (neg : Bool) : Bool := decide (l ≠ [] ∧ l.length ≤ m ∧ (l.head? ≠ some 48 ∨ (l.length = 1 ∧ neg = false))) && l.all isDig
theorem okDigs_long {l : List UInt8} {m : Nat} {neg : Bool} (h : m < l.length) : okDigs l m neg = false := by
  unfold okDigs
  rw [decide_eq_false (fun h' => by have := h'.2.1; omega), Bool.false_and]
theorem okDigs_short {c : UInt8} {r : List UInt8} {m : Nat} {neg : Bool} (h : (c :: r).length ≤ m) : okDigs (c :: r) m neg = ((decide (c ≠ 48) || (decide (r = []) && !neg)) && (c :: r).all isDig) := by
  unfold okDigs
  congr 1
  rw [Bool.eq_iff_iff]
  simp only [decide_eq_true_eq, Bool.or_eq_true, Bool.and_eq_true, Bool.not_eq_true', List.head?_cons, ne_eq, Option.some.injEq, List.length_cons]
  constructor
  · rintro ⟨_, _, h1 | ⟨h1, h2⟩⟩
    · exact .inl h1
    · exact .inr ⟨List.length_eq_zero_iff.1 (by omega), h2⟩
  · rintro (h1 | ⟨h1, h2⟩)
    · exact ⟨by simp, by simpa using h, .inl h1⟩
    · exact ⟨by simp, by simpa using h, .inr ⟨by rw [h1]; rfl, h2⟩⟩
def rdD (s : ByteArray) : Int × Bool :=
  if (bl s).head? = some 45 then (if okDigs (bl s).tail 18 true then (-((valL (bl s).tail 0 : Nat) : Int), true) else (0, false))
  else (if okDigs (bl s) 18 false then (((valL (bl s) 0 : Nat) : Int), true) else (0, false))
theorem bt0_ob (c : UInt8) (r : List UInt8) : bt (ob (c :: r)) 0 = (c.toNat : Int) := rfl
theorem Qb8 (s : ByteArray) (hs : s.size ≤ 1000000) : Qs.f s = some (rdD s) := by
  revert hs
  refine ob_all (P := fun s => s.size ≤ 1000000 → Qs.f s = some (rdD s)) ?_ s
  intro l hs
  rw [ob_size] at hs
  unfold Qs.f Qs.fn Qs.top rdD
  rw [bl_ob, ob_size]
  cases l with
  | nil => simp [okDigs]
  | cons c r =>
    simp only [List.length_cons] at hs
    have c0 : (0 : Int) < ((c :: r).length : Int) := by simp only [List.length_cons]; omega
    have cz : (((c :: r).length : Int) == 0) = false := by rw [beq_eq_false_iff_ne]; omega
    simp only [c0, cz, bt0_ob, and_self, and_true, true_and, decide_true, decide_false, if_true, if_false, mid_get, mid_set, mid_getn, mid_setn, bt_mid, Option.bind_some, Bool.not_true, Bool.not_false, Bool.false_eq_true, Bool.true_eq_false, beq_self_eq_true, bne_self_eq_false, Int.toNat_natCast, Int.le_refl, List.head?_cons, Option.some.injEq, List.tail_cons]
    by_cases hc : c = 45
    · subst hc
      have e45 : (((45 : UInt8).toNat : Int) == 45) = true := rfl
      have c1 : (1 : Int) ≤ ((45 :: r : List UInt8).length : Int) := by simp only [List.length_cons]; omega
      have ex : (ob (45 :: r)).extract (1 : Int).toNat (45 :: r : List UInt8).length = ob r := by
        rw [ob_extract, List.take_of_length_le (by omega)]; rfl
      simp only [e45, c1, ex, ob_size, and_self, and_true, true_and, decide_true, decide_false, if_true, if_false, mid_get, mid_set, mid_getn, mid_setn, bt_mid, Option.bind_some, Bool.not_true, Bool.not_false, Bool.false_eq_true, Bool.true_eq_false, beq_self_eq_true, bne_self_eq_false, Int.toNat_natCast, show (0 : Int) ≤ 1 from by omega]
      cases r with
      | nil => simp [okDigs]
      | cons d r =>
        have d0 : (0 : Int) < ((d :: r).length : Int) := by simp only [List.length_cons]; omega
        have dz : (((d :: r).length : Int) == 0) = false := by rw [beq_eq_false_iff_ne]; omega
        have d1 : (1 : Int) < ((45 :: d :: r : List UInt8).length : Int) := by simp only [List.length_cons]; omega
        simp only [d0, dz, d1, bt0_ob, and_self, and_true, true_and, decide_true, decide_false, if_true, if_false, mid_get, mid_set, mid_getn, mid_setn, bt_mid, Option.bind_some, Bool.not_true, Bool.not_false, Bool.false_eq_true, Bool.true_eq_false, beq_self_eq_true, bne_self_eq_false, Int.toNat_natCast]
        by_cases h18 : (18 : Int) < ((d :: r).length : Int)
        · simp only [okDigs_long (show 18 < (d :: r).length by omega), h18, and_self, and_true, true_and, decide_true, decide_false, if_true, if_false, mid_get, mid_set, mid_getn, mid_setn, bt_mid, Option.bind_some, Bool.not_true, Bool.not_false, Bool.false_eq_true, Bool.true_eq_false, beq_self_eq_true, bne_self_eq_false, Int.toNat_natCast]
        · have h18' : (d :: r).length ≤ 18 := by omega
          have hl := Qb7 (ob (45 :: d :: r)) (d :: r) [] 0 NN (by simpa using h18') (NN_lt (by omega)) (by simp)
          simp only [List.nil_append, List.length_nil, ob_size] at hl
          have d2 : ((d :: r).length : Int) < ((45 :: d :: r : List UInt8).length : Int) := by simp only [List.length_cons]; omega
          rw [show ((0 : Nat) : Int) = 0 from rfl] at hl
          simp only [d2, if_true] at hl
          simp only [okDigs_short h18', h18, hl, and_self, and_true, true_and, decide_true, decide_false, if_true, if_false, mid_get, mid_set, mid_getn, mid_setn, bt_mid, Option.bind_some, Bool.not_true, Bool.not_false, Bool.false_eq_true, Bool.true_eq_false, beq_self_eq_true, bne_self_eq_false, Int.toNat_natCast]
          by_cases hd : d = 48
          · subst hd
            simp
          · have : ((d.toNat : Int) == 48) = false := by rw [beq_eq_false_iff_ne]; intro e; exact hd ((u8_eq (n := 48) (by omega)).mp (by omega))
            simp only [this, and_self, and_true, true_and, decide_true, decide_false, if_true, if_false, mid_get, mid_set, mid_getn, mid_setn, bt_mid, Option.bind_some, Bool.not_true, Bool.not_false, Bool.false_eq_true, Bool.true_eq_false, beq_self_eq_true, bne_self_eq_false, Int.toNat_natCast]
            cases ha : (d :: r).all isDig <;> simp [hd]
    · have e45 : ((c.toNat : Int) == 45) = false := by rw [beq_eq_false_iff_ne]; intro e; exact hc ((u8_eq (n := 45) (by omega)).mp (by omega))
      simp only [e45, hc, and_self, and_true, true_and, decide_true, decide_false, if_true, if_false, mid_get, mid_set, mid_getn, mid_setn, bt_mid, Option.bind_some, Bool.not_true, Bool.not_false, Bool.false_eq_true, Bool.true_eq_false, beq_self_eq_true, bne_self_eq_false, Int.toNat_natCast]
      by_cases h18 : (18 : Int) < ((c :: r).length : Int)
      · simp only [okDigs_long (show 18 < (c :: r).length by omega), h18, and_self, and_true, true_and, decide_true, decide_false, if_true, if_false, mid_get, mid_set, mid_getn, mid_setn, bt_mid, Option.bind_some, Bool.not_true, Bool.not_false, Bool.false_eq_true, Bool.true_eq_false, beq_self_eq_true, bne_self_eq_false, Int.toNat_natCast]
      · have h18' : (c :: r).length ≤ 18 := by omega
        have hl := Qb7 (ob (c :: r)) (c :: r) [] 0 NN (by simpa using h18') (NN_lt (by omega)) (by simp)
        simp only [List.nil_append, List.length_nil, ob_size, Int.lt_irrefl, if_false] at hl
        rw [show ((0 : Nat) : Int) = 0 from rfl] at hl
        simp only [okDigs_short h18', h18, hl, and_self, and_true, true_and, decide_true, decide_false, if_true, if_false, mid_get, mid_set, mid_getn, mid_setn, bt_mid, Option.bind_some, Bool.not_true, Bool.not_false, Bool.false_eq_true, Bool.true_eq_false, beq_self_eq_true, bne_self_eq_false, Int.toNat_natCast]
        by_cases hd : c = 48
        · subst hd
          have e48 : (((48 : UInt8).toNat : Int) == 48) = true := rfl
          simp only [e48, and_self, and_true, true_and, decide_true, decide_false, if_true, if_false, mid_get, mid_set, mid_getn, mid_setn, bt_mid, Option.bind_some, Bool.not_true, Bool.not_false, Bool.false_eq_true, Bool.true_eq_false, beq_self_eq_true, bne_self_eq_false, Int.toNat_natCast]
          cases r with
          | nil =>
            simp only [List.length_cons, List.length_nil]
            cases ha : ([48] : List UInt8).all isDig <;> simp
          | cons d r =>
            have h1 : (1 : Int) < ((48 :: d :: r : List UInt8).length : Int) := by simp only [List.length_cons]; omega
            simp only [h1, and_self, and_true, true_and, decide_true, decide_false, if_true, if_false, mid_get, mid_set, mid_getn, mid_setn, bt_mid, Option.bind_some, Bool.not_true, Bool.not_false, Bool.false_eq_true, Bool.true_eq_false, beq_self_eq_true, bne_self_eq_false, Int.toNat_natCast]
            simp
        · have : ((c.toNat : Int) == 48) = false := by rw [beq_eq_false_iff_ne]; intro e; exact hd ((u8_eq (n := 48) (by omega)).mp (by omega))
          simp only [this, and_self, and_true, true_and, decide_true, decide_false, if_true, if_false, mid_get, mid_set, mid_getn, mid_setn, bt_mid, Option.bind_some, Bool.not_true, Bool.not_false, Bool.false_eq_true, Bool.true_eq_false, beq_self_eq_true, bne_self_eq_false, Int.toNat_natCast]
          cases ha : (c :: r).all isDig <;> simp [hd]
theorem QcG : ∀ (r p : List UInt8) (a k : Nat), p.length + r.length ≤ 13 → r.length < k → a < 10 ^ p.length →
    QG.l5 NN k (ob (p ++ r)) (a : Int) (p.length : Int) = if r.all isDig = true then some (((valL r a : Nat) : Int), decide (ob (digs (valL r a)) = ob (p ++ r))) else some (0, false) := by
  intro r
  induction r with
  | nil =>
    intro p a k hb hk ha
    obtain ⟨k, rfl⟩ : ∃ j, k = j + 1 := ⟨k - 1, by omega⟩
    have h18 := pow_le18 (a := p.length) (by simp at hb; omega)
    rw [List.append_nil]
    have c1 : ¬ (p.length : Int) < (p.length : Int) := by omega
    simp only [QG.l5, QG.g5, ob_size, c1, and_self, and_true, true_and, decide_true, decide_false, if_true, if_false, mid_get, mid_set, mid_getn, mid_setn, bt_mid, Option.bind_some, Bool.not_true, Bool.not_false, Bool.false_eq_true, Bool.true_eq_false, beq_self_eq_true, bne_self_eq_false, Int.toNat_natCast, Qbl (show (0 : Int) ≤ (a : Int) by omega) (show (a : Int) ≤ 1000000000000000000 by omega), decB_nat, ba_beq, List.all_nil, valL]
    rfl
  | cons c r ih =>
    intro p a k hb hk ha
    simp only [List.length_cons] at hb hk
    obtain ⟨k, rfl⟩ : ∃ j, k = j + 1 := ⟨k - 1, by omega⟩
    have h17 : (10 : Nat) ^ p.length ≤ 10 ^ 17 := Nat.pow_le_pow_right (by omega) (by omega)
    have e17 : (10 : Nat) ^ 17 = 100000000000000000 := by decide
    have c0 : (0 : Int) ≤ (p.length : Int) := by omega
    have hm := mid_len p r c
    have c1 : (p.length : Int) < ((ob (p ++ c :: r)).size : Int) := by rw [ob_size]; omega
    have cw := w64 (n := (p.length : Int) + 1) (by omega) (by omega)
    simp only [QG.l5, QG.g5, c0, c1, cw, and_self, and_true, true_and, decide_true, decide_false, if_true, if_false, mid_get, mid_set, mid_getn, mid_setn, bt_mid, Option.bind_some, Bool.not_true, Bool.not_false, Bool.false_eq_true, Bool.true_eq_false, beq_self_eq_true, bne_self_eq_false, Int.toNat_natCast, List.all_cons]
    by_cases hd : isDig c = true
    · have h2 := isDig_iff.1 hd
      have n1 : ¬ (c.toNat : Int) < 48 := by omega
      have n2 : ¬ (57 : Int) < (c.toNat : Int) := by omega
      have e1 := w64 (n := 10 * (a : Int)) (by omega) (by omega)
      have e2 := w64 (n := 10 * (a : Int) + ((c.toNat - 48 : Nat) : Int)) (by omega) (by omega)
      have := ih (p ++ [c]) (10 * a + (c.toNat - 48)) k (by simp; omega) (by omega) (by rw [List.length_append, List.length_singleton, Nat.pow_succ]; omega)
      rw [mid_snoc, snoc_len, show ((10 * a + (c.toNat - 48) : Nat) : Int) = 10 * (a : Int) + ((c.toNat - 48 : Nat) : Int) by omega] at this
      simp only [n1, n2, and_self, and_true, true_and, decide_true, decide_false, if_true, if_false, mid_get, mid_set, mid_getn, mid_setn, bt_mid, Option.bind_some, Bool.not_true, Bool.not_false, Bool.false_eq_true, Bool.true_eq_false, beq_self_eq_true, bne_self_eq_false, Int.toNat_natCast, u8_sub48 hd, e1, e2, hd, this, valL]
      rfl
    · have hd' : isDig c = false := by simpa using hd
      by_cases h1 : (c.toNat : Int) < 48
      · simp [h1, hd']
      · have h3 : (57 : Int) < (c.toNat : Int) := by
          have : ¬ (48 ≤ c.toNat ∧ c.toNat ≤ 57) := fun e => hd (isDig_iff.2 e)
          omega
        simp [h1, h3, hd']
def rdV (s : ByteArray) : Int × Bool := if 1 ≤ s.size ∧ s.size ≤ 13 ∧ (bl s).all isDig = true then (((valL (bl s) 0 : Nat) : Int), decide (digs (valL (bl s) 0) = bl s)) else (0, false)
theorem QbO (s : ByteArray) (hs : s.size ≤ 1000000) : QG.f s = some (rdV s) := by
  unfold QG.f QG.fn QG.top rdV
  by_cases h1 : (s.size : Int) < 1
  · have : ¬ 1 ≤ s.size := by omega
    simp [h1, this]
  · by_cases h13 : (13 : Int) < (s.size : Int)
    · have : ¬ s.size ≤ 13 := by omega
      simp [h1, h13, this]
    · have e1 : 1 ≤ s.size := by omega
      have e2 : s.size ≤ 13 := by omega
      have := QcG (bl s) [] 0 NN (by simpa [bl_length] using e2) (by rw [bl_length]; exact NN_lt (by omega)) (by simp)
      simp only [List.nil_append, ob_bl, List.length_nil] at this
      rw [show ((0 : Nat) : Int) = 0 from rfl] at this
      simp only [h1, h13, this, e1, e2, and_self, and_true, true_and, decide_true, decide_false, if_true, if_false, mid_get, mid_set, mid_getn, mid_setn, bt_mid, Option.bind_some, Bool.not_true, Bool.not_false, Bool.false_eq_true, Bool.true_eq_false, beq_self_eq_true, bne_self_eq_false, Int.toNat_natCast]
      have e3 : decide (ob (digs (valL (bl s) 0)) = s) = decide (digs (valL (bl s) 0) = bl s) := by
        congr 1
        exact propext ⟨fun h => by have := congrArg bl h; rwa [bl_ob] at this, fun h => by rw [h, ob_bl]⟩
      cases ha : (bl s).all isDig
      · simp
      · simp only [if_true]
        congr 2
theorem rdV_rdD {s : ByteArray} (h : (rdV s).2 = true) : rdD s = rdV s := by
  unfold rdV at h ⊢
  split at h
  · rename_i hc
    rw [if_pos hc]
    obtain ⟨h1, h2, h3⟩ := hc
    simp only [decide_eq_true_eq] at h
    have hne : bl s ≠ [] := by intro e; have := bl_length s; rw [e] at this; simp at this; omega
    obtain ⟨c, r, e⟩ : ∃ c r, bl s = c :: r := by
      cases hb : bl s with
      | nil => exact absurd hb hne
      | cons c r => exact ⟨c, r, rfl⟩
    have hd : isDig c = true := by rw [e] at h3; simp at h3; exact h3.1
    have hdi := isDig_iff.1 hd
    have h45 : ¬ (bl s).head? = some 45 := by
      rw [e]; simp only [List.head?_cons, Option.some.injEq]
      intro hc; subst hc
      have : (45 : UInt8).toNat = 45 := rfl
      omega
    have hz : (bl s).head? ≠ some 48 ∨ ((bl s).length = 1 ∧ false = false) := by
      by_cases hv : valL (bl s) 0 = 0
      · right
        rw [hv, digs_small (by omega)] at h
        rw [← h]; exact ⟨rfl, rfl⟩
      · left
        intro hh
        rw [← h] at hh
        exact digs_head hv 48 hh rfl
    have hok : okDigs (bl s) 18 false = true := by
      unfold okDigs
      rw [h3, Bool.and_true]
      exact decide_eq_true ⟨hne, by rw [bl_length]; omega, hz⟩
    unfold rdD
    rw [if_neg h45, if_pos hok, decide_eq_true h]
  · cases h
end Go.Pl

namespace Go.Pl
open Go.Ev
set_option linter.unusedVariables false
set_option linter.unusedSimpArgs false
noncomputable def numI (s : ByteArray) : Option Int := if (rdV s).2 = true then some (rdV s).1 else none
noncomputable def numJ (s : ByteArray) : Option Int := if (bl s).head? = some 45 then (match numI (ob (bl s).tail) with | some n => if 0 < n then some (-n) else none | none => none) else numI s
theorem rdV_ok {s : ByteArray} (h : (rdV s).2 = true) : 1 ≤ s.size ∧ s.size ≤ 13 ∧ (bl s).all isDig = true ∧ digs (valL (bl s) 0) = bl s ∧ (rdV s).1 = ((valL (bl s) 0 : Nat) : Int) := by
  unfold rdV at h ⊢
  split at h
  · rename_i h1
    rw [if_pos h1]
    exact ⟨h1.1, h1.2.1, h1.2.2, by simpa using h, rfl⟩
  · simp at h
theorem rdV_mk {s : ByteArray} (h1 : 1 ≤ s.size) (h2 : s.size ≤ 13) (h3 : (bl s).all isDig = true) (h4 : digs (valL (bl s) 0) = bl s) : rdV s = (((valL (bl s) 0 : Nat) : Int), true) := by
  unfold rdV
  rw [if_pos ⟨h1, h2, h3⟩, h4]; simp
theorem okDigs_iff {l : List UInt8} {m : Nat} {neg : Bool} : okDigs l m neg = true ↔ (l ≠ [] ∧ l.length ≤ m ∧ (l.head? ≠ some 48 ∨ (l.length = 1 ∧ neg = false))) ∧ l.all isDig = true := by
  unfold okDigs; simp only [Bool.and_eq_true, decide_eq_true_eq]
theorem rdD_pos {s : ByteArray} (h : (bl s).head? ≠ some 45) : rdD s = if okDigs (bl s) 18 false then (((valL (bl s) 0 : Nat) : Int), true) else (0, false) := by
  unfold rdD; rw [if_neg h]
theorem rdD_neg {s : ByteArray} (h : (bl s).head? = some 45) : rdD s = if okDigs (bl s).tail 18 true then (-((valL (bl s).tail 0 : Nat) : Int), true) else (0, false) := by
  unfold rdD; rw [if_pos h]
theorem okDigs_val {l : List UInt8} {m : Nat} {neg : Bool} (h : okDigs l m neg = true) : digs (valL l 0) = l := by
  obtain ⟨⟨h1, h2, h3⟩, h4⟩ := okDigs_iff.1 h
  refine digs_valL l h1 (fun c hc => List.all_eq_true.1 h4 c hc) ?_
  rcases h3 with h3 | h3
  · exact .inr h3
  · exact .inl h3.1
theorem okDigs_neg_pos {l : List UInt8} {m : Nat} (h : okDigs l m true = true) : 0 < valL l 0 := by
  have hv := okDigs_val h
  obtain ⟨⟨h1, h2, h3⟩, h4⟩ := okDigs_iff.1 h
  rcases Nat.eq_zero_or_pos (valL l 0) with h0 | h0
  · rw [h0, digs_small (by omega)] at hv
    rcases h3 with h3 | h3
    · exact absurd (by rw [← hv]; rfl) h3
    · exact absurd h3.2 (by decide)
  · exact h0
theorem size_bl (s : ByteArray) : s.size = (bl s).length := (bl_length s).symm
theorem numI_eq (s : ByteArray) : numI s = if (rdD s).2 = true ∧ 0 ≤ (rdD s).1 ∧ s.size ≤ 13 then some (rdD s).1 else none := by
  unfold numI
  by_cases h : (rdV s).2 = true
  · obtain ⟨h1, h2, h3, h4, h5⟩ := rdV_ok h
    have e := rdV_rdD h
    rw [if_pos h, e, if_pos ⟨h, by rw [h5]; omega, h2⟩]
  · rw [if_neg h]
    by_cases q : (rdD s).2 = true ∧ 0 ≤ (rdD s).1 ∧ s.size ≤ 13
    · exfalso
      obtain ⟨q1, q2, q3⟩ := q
      by_cases hh : (bl s).head? = some 45
      · have e := rdD_neg hh
        by_cases ho : okDigs (bl s).tail 18 true = true
        · rw [if_pos ho] at e
          have := okDigs_neg_pos ho
          rw [e] at q2
          simp only at q2; omega
        · rw [if_neg ho] at e
          rw [e] at q1; simp at q1
      · have e := rdD_pos hh
        by_cases ho : okDigs (bl s) 18 false = true
        · obtain ⟨⟨o1, o2, o3⟩, o4⟩ := okDigs_iff.1 ho
          have hl : 1 ≤ (bl s).length := List.length_pos_iff.2 o1
          have := rdV_mk (s := s) (by rw [size_bl]; exact hl) q3 o4 (okDigs_val ho)
          rw [this] at h; simp at h
        · rw [if_neg ho] at e
          rw [e] at q1; simp at q1
    · rw [if_neg q]
theorem numJ_eq (s : ByteArray) : numJ s = if (rdD s).2 = true ∧ ((rdD s).1 < 0 → s.size ≤ 14) ∧ (0 ≤ (rdD s).1 → s.size ≤ 13) then some (rdD s).1 else none := by
  unfold numJ
  by_cases hh : (bl s).head? = some 45
  · rw [if_pos hh]
    have hs : s.size = (bl s).tail.length + 1 := by
      rw [size_bl]
      cases hb : bl s with
      | nil => rw [hb] at hh; simp at hh
      | cons a r => simp
    have e := rdD_neg hh
    by_cases ho : okDigs (bl s).tail 18 true = true
    · have hp := okDigs_neg_pos ho
      have hv := okDigs_val ho
      obtain ⟨⟨o1, o2, o3⟩, o4⟩ := okDigs_iff.1 ho
      have hl : 1 ≤ (bl s).tail.length := List.length_pos_iff.2 o1
      rw [if_pos ho] at e
      rw [e]
      by_cases h13 : (bl s).tail.length ≤ 13
      · have hm := rdV_mk (s := ob (bl s).tail) (by rw [ob_size]; exact hl) (by rw [ob_size]; exact h13) (by rw [bl_ob]; exact o4) (by rw [bl_ob]; exact hv)
        rw [bl_ob] at hm
        have hn : numI (ob (bl s).tail) = some ((valL (bl s).tail 0 : Nat) : Int) := by unfold numI; rw [hm]; rfl
        rw [hn, if_pos ⟨rfl, fun _ => by omega, fun h => by simp only at h; omega⟩]
        simp only
        rw [if_pos (by omega)]
      · have hn : numI (ob (bl s).tail) = none := by
          unfold numI rdV
          rw [ob_size]
          have hq : ¬ (1 ≤ (bl s).tail.length ∧ (bl s).tail.length ≤ 13 ∧ (bl (ob (bl s).tail)).all isDig = true) := fun h => by omega
          rw [if_neg hq]; rfl
        rw [hn, if_neg]
        rintro ⟨_, h, _⟩
        have := h (show -((valL (bl s).tail 0 : Nat) : Int) < 0 by omega)
        omega
    · rw [if_neg ho] at e
      rw [e, if_neg (by simp)]
      cases hn : numI (ob (bl s).tail) with
      | none => rfl
      | some n =>
        simp only
        by_cases h0 : 0 < n
        · exfalso
          unfold numI at hn
          split at hn
          · rename_i hr
            obtain ⟨r1, r2, r3, r4, r5⟩ := rdV_ok hr
            rw [ob_size] at r1 r2
            rw [bl_ob] at r3 r4 r5
            have hn' := Option.some.inj hn
            have hval : valL (bl s).tail 0 ≠ 0 := by
              intro h; rw [h] at r5; omega
            apply ho
            refine okDigs_iff.2 ⟨⟨List.length_pos_iff.1 r1, by omega, .inl ?_⟩, r3⟩
            intro hc
            have := digs_head hval 48 (by rw [r4]; exact hc)
            exact this rfl
          · cases hn
        · rw [if_neg h0]
  · rw [if_neg hh, numI_eq]
    have hn0 : 0 ≤ (rdD s).1 := by
      rw [rdD_pos hh]
      split <;> simp only <;> omega
    by_cases q : (rdD s).2 = true ∧ 0 ≤ (rdD s).1 ∧ s.size ≤ 13
    · rw [if_pos q, if_pos ⟨q.1, fun h => by omega, fun _ => q.2.2⟩]
    · rw [if_neg q, if_neg]
      rintro ⟨a, b, c⟩
      exact q ⟨a, hn0, c hn0⟩
theorem numI_bd {s : ByteArray} {n : Int} (h : numI s = some n) : 0 ≤ n ∧ n ≤ 10000000000000 := by
  unfold numI at h
  split at h
  · rename_i hr
    obtain ⟨r1, r2, r3, r4, r5⟩ := rdV_ok hr
    rw [← Option.some.inj h, r5]
    have hl := valL_lt (bl s) 0 (fun c hc => List.all_eq_true.1 r3 c hc)
    have hp : (10 : Nat) ^ (bl s).length ≤ 10 ^ 13 := Nat.pow_le_pow_right (by omega) (by rw [← size_bl]; exact r2)
    have e : (10 : Nat) ^ 13 = 10000000000000 := by decide
    omega
  · cases h
theorem Qcy (s : ByteArray) (hs : s.size ≤ 1000000) : ∃ n b, QaA.f s = some (n, b) ∧ numJ s = if b = true then some n else none := by
  revert hs
  refine ob_all (P := fun s => s.size ≤ 1000000 → ∃ n b, QaA.f s = some (n, b) ∧ numJ s = if b = true then some n else none) ?_ s
  intro l hs
  unfold QaA.f QaA.fn QaA.top numJ
  rw [bl_ob]
  cases l with
  | nil =>
    rw [if_neg (by simp [ob_size]), QbO _ hs]
    exact ⟨(rdV (ob [])).1, (rdV (ob [])).2, rfl, by rw [if_neg (by simp)]; rfl⟩
  | cons a r =>
    rw [ob_size] at hs
    simp only [List.length_cons] at hs
    rw [if_pos (by simp [ob_size] <;> omega), if_pos ⟨by omega, by simp [ob_size] <;> omega⟩]
    have e0 : bt (ob (a :: r)) 0 = (a.toNat : Int) := rfl
    rw [e0]
    by_cases h : a = 45
    · subst h
      have ex : (ob (45 :: r)).extract (1 : Int).toNat (ob (45 :: r)).size = ob r := by
        apply bl_inj
        rw [bl_ob, ob_size]
        simp [bl, ob]
      have e1 : ((((45 : UInt8).toNat : Int) == 45) = true) := by decide
      rw [if_pos e1, if_pos ⟨by omega, by simp [ob_size] <;> omega⟩, ex, QbO _ (by rw [ob_size]; omega), Option.bind_some, if_pos (show ((45 : UInt8) :: r).head? = some 45 from rfl)]
      simp only [List.tail_cons]
      unfold numI
      by_cases hr : (rdV (ob r)).2 = true
      · obtain ⟨r1, r2, r3, r4, r5⟩ := rdV_ok hr
        have hb := numI_bd (s := ob r) (n := (rdV (ob r)).1) (by unfold numI; rw [if_pos hr])
        have w := w64 (n := 0 - (rdV (ob r)).1) (by omega) (by omega)
        rw [if_pos hr, if_pos hr, w]
        refine ⟨_, _, rfl, ?_⟩
        simp only [decide_eq_true_eq]
        rw [show 0 - (rdV (ob r)).1 = -(rdV (ob r)).1 by omega]
      · rw [if_neg hr, if_neg hr]
        exact ⟨_, _, rfl, by simp⟩
    · have e1 : ¬ ((a.toNat : Int) == 45) = true := by
        intro q
        apply h
        have : (a.toNat : Int) = 45 := by simpa using q
        apply UInt8.toNat.inj
        show a.toNat = 45
        omega
      rw [if_neg e1, QbO _ (by rw [ob_size]; simp; omega), if_neg (by simpa using h)]
      exact ⟨_, _, rfl, rfl⟩
end Go.Pl

namespace Go.Pl
open Go.Ev
set_option linter.unusedVariables false
set_option linter.unusedSimpArgs false
def joinF (sep : ByteArray) (i : Nat) (out s : ByteArray) : ByteArray := if 0 < i then (out ++ sep) ++ s else out ++ s
def joinB (sep : ByteArray) (xs : List ByteArray) : ByteArray := foldi (joinF sep) 0 ⟨#[]⟩ xs
theorem QcH (xs : List ByteArray) (sep : ByteArray) (hx : ∀ s ∈ xs, s.size ≤ 1000000) (hl : xs.length ≤ 1000000) (hs : sep.size ≤ 1000000) : QV.f xs sep = some (joinB sep xs) ∧ (joinB sep xs).size ≤ 2000000 * xs.length := by
  have := fold_fix (E := fun s : ByteArray => s.size ≤ 1000000) (fun p st => st.size ≤ 2000000 * p.length) (joinF sep) some (fun k i st => QV.l3 NN k sep st xs xs.length i) xs ?_ ?_ (⟨#[]⟩ : ByteArray) hx (by simp; rfl) (by omega) NN (NN_lt (by omega))
  · exact ⟨this.2, this.1⟩
  · intro k st _
    simp [QV.l3, QV.g3]
  · intro k p b r st hxs hb hI c0 c1 c2 cw g
    have z1 : (st ++ sep).size = st.size + sep.size := ByteArray.size_append
    have z2 : (st ++ sep ++ b).size = st.size + sep.size + b.size := by rw [ByteArray.size_append, z1]
    have z3 : (st ++ b).size = st.size + b.size := ByteArray.size_append
    have hp : p.length ≤ 1000000 := by omega
    refine ⟨?_, ?_⟩
    · unfold joinF; rw [List.length_append, List.length_singleton]; split <;> omega
    · have d1 : st.size + sep.size ≤ 9223372036854775807 := by omega
      have d2 : (st ++ sep).size + b.size ≤ 9223372036854775807 := by omega
      have d3 : st.size + b.size ≤ 9223372036854775807 := by omega
      simp only [QV.l3, QV.g3, c0, c1, cw, and_self, and_true, true_and, decide_true, decide_false, if_true, if_false, mid_get, mid_set, mid_getn, mid_setn, bt_mid, Option.bind_some, Bool.not_true, Bool.not_false, Bool.false_eq_true, Bool.true_eq_false, beq_self_eq_true, bne_self_eq_false, Int.toNat_natCast, g, d1, d2, d3, decide_eq_true_eq]
      unfold joinF
      by_cases h : 0 < p.length
      · have : (0 : Int) < (p.length : Int) := by omega
        simp [h, this]
      · have : ¬ (0 : Int) < (p.length : Int) := by omega
        simp [h, this]
theorem QcI (xs : List ByteArray) (sep : ByteArray) (hx : ∀ s ∈ xs, s.size ≤ 1000000) (hl : xs.length ≤ 1000000) (hs : sep.size ≤ 1000000) : QY.f xs sep = some (joinB sep xs) ∧ (joinB sep xs).size ≤ 2000000 * xs.length := by
  have := fold_fix (E := fun s : ByteArray => s.size ≤ 1000000) (fun p st => st.size ≤ 2000000 * p.length) (joinF sep) some (fun k i st => QY.l3 NN k xs sep st i) xs ?_ ?_ (⟨#[]⟩ : ByteArray) hx (by simp; rfl) (by omega) NN (NN_lt (by omega))
  · exact ⟨this.2, this.1⟩
  · intro k st _
    simp [QY.l3, QY.g3]
  · intro k p b r st hxs hb hI c0 c1 c2 cw g
    have z1 : (st ++ sep).size = st.size + sep.size := ByteArray.size_append
    have z2 : (st ++ sep ++ b).size = st.size + sep.size + b.size := by rw [ByteArray.size_append, z1]
    have z3 : (st ++ b).size = st.size + b.size := ByteArray.size_append
    have hp : p.length ≤ 1000000 := by omega
    refine ⟨?_, ?_⟩
    · unfold joinF; rw [List.length_append, List.length_singleton]; split <;> omega
    · have d1 : st.size + sep.size ≤ 9223372036854775807 := by omega
      have d2 : (st ++ sep).size + b.size ≤ 9223372036854775807 := by omega
      have d3 : st.size + b.size ≤ 9223372036854775807 := by omega
      simp only [QY.l3, QY.g3, c0, c1, cw, and_self, and_true, true_and, decide_true, decide_false, if_true, if_false, mid_get, mid_set, mid_getn, mid_setn, bt_mid, Option.bind_some, Bool.not_true, Bool.not_false, Bool.false_eq_true, Bool.true_eq_false, beq_self_eq_true, bne_self_eq_false, Int.toNat_natCast, g, d1, d2, d3, decide_eq_true_eq]
      unfold joinF
      by_cases h : 0 < p.length
      · have : (0 : Int) < (p.length : Int) := by omega
        simp [h, this]
      · have : ¬ (0 : Int) < (p.length : Int) := by omega
        simp [h, this]
end Go.Pl

namespace Go.Pl
open Go.Ev
set_option linter.unusedVariables false
set_option linter.unusedSimpArgs false
def glue (p : List UInt8) : List (List UInt8) → List (List UInt8)
  | [] => [p]
  | x :: xs => (p ++ x) :: xs
def splitL (b : UInt8) : List UInt8 → List (List UInt8)
  | [] => [[]]
  | c :: r => if c = b then [] :: splitL b r else glue [c] (splitL b r)
theorem splitL_ne (b : UInt8) (l : List UInt8) : splitL b l ≠ [] := by
  cases l with
  | nil => simp [splitL]
  | cons c r => simp only [splitL]; split
                · simp
                · cases splitL b r <;> simp [glue]
theorem glue_nil {x : List (List UInt8)} (h : x ≠ []) : glue [] x = x := by
  cases x with
  | nil => exact absurd rfl h
  | cons => rfl
theorem glue_glue (p q : List UInt8) (x : List (List UInt8)) : glue p (glue q x) = glue (p ++ q) x := by
  cases x <;> simp [glue]
theorem splitL_length (b : UInt8) (l : List UInt8) : (splitL b l).length ≤ l.length + 1 := by
  induction l with
  | nil => simp [splitL]
  | cons c r ih =>
    simp only [splitL]
    split
    · simp; omega
    · cases e : splitL b r with
      | nil => simp [glue]
      | cons y ys => rw [e] at ih; simp [glue] at ih ⊢; omega
theorem room_small {α : Type} (out : List α) (x : α) (h : out.length ≤ 2000000) : out.length + [x].length < room 16 := by rw [room16]; simp; omega
theorem ext_mid (q t r : List UInt8) : (ob (q ++ t ++ r)).extract q.length (q ++ t).length = ob t := by
  rw [ob_extract, List.take_left' rfl, List.drop_left' rfl]
theorem QcX (b : UInt8) : ∀ (r q t : List UInt8) (out : List ByteArray) (k : Nat), (q ++ t).length + r.length ≤ 1000000 → r.length < k → out.length ≤ (q ++ t).length →
    QW.l4 NN k (ob (q ++ t ++ r)) (b.toNat : Int) (q.length : Int) ((q ++ t).length : Int) out = some (out ++ (glue t (splitL b r)).map ob) := by
  intro r
  induction r with
  | nil =>
    intro q t out k hb hk ho
    obtain ⟨k, rfl⟩ : ∃ j, k = j + 1 := ⟨k - 1, by omega⟩
    have hb' : q.length + t.length ≤ 1000000 := by simpa using hb
    rw [List.append_nil]
    have c1 : ¬ ((q ++ t).length : Int) < ((ob (q ++ t)).size : Int) := by rw [ob_size]; omega
    have c2 : (0 : Int) ≤ (q.length : Int) := by omega
    have c3 : (q.length : Int) ≤ ((ob (q ++ t)).size : Int) := by rw [ob_size, List.length_append]; omega
    have e : (ob (q ++ t)).extract q.length (ob (q ++ t)).size = ob t := by
      have := ext_mid q t []
      rw [List.append_nil] at this
      rw [ob_size]; exact this
    simp only [QW.l4, QW.g4, c1, c2, c3, and_self, and_true, true_and, decide_true, decide_false, if_true, if_false, mid_get, mid_set, mid_getn, mid_setn, bt_mid, Option.bind_some, Bool.not_true, Bool.not_false, Bool.false_eq_true, Bool.true_eq_false, beq_self_eq_true, bne_self_eq_false, Int.toNat_natCast, e]
    rw [if_pos (room_small _ _ (by simp at ho; omega))]
    simp [splitL, glue]
  | cons c r ih =>
    intro q t out k hb hk ho
    simp only [List.length_cons] at hb hk
    obtain ⟨k, rfl⟩ : ∃ j, k = j + 1 := ⟨k - 1, by omega⟩
    have hm := mid_len (q ++ t) r c
    have c0 : (0 : Int) ≤ ((q ++ t).length : Int) := by omega
    have c1 : ((q ++ t).length : Int) < ((ob (q ++ t ++ c :: r)).size : Int) := by rw [ob_size]; omega
    have c2 : (0 : Int) ≤ (q.length : Int) := by omega
    have c3 : (q.length : Int) ≤ ((q ++ t).length : Int) := by rw [List.length_append]; omega
    have c4 : ((q ++ t).length : Int) ≤ ((ob (q ++ t ++ c :: r)).size : Int) := by rw [ob_size]; omega
    have cw := w64 (n := ((q ++ t).length : Int) + 1) (by omega) (by omega)
    simp only [QW.l4, QW.g4, c0, c1, c2, c3, c4, cw, and_self, and_true, true_and, decide_true, decide_false, if_true, if_false, mid_get, mid_set, mid_getn, mid_setn, bt_mid, Option.bind_some, Bool.not_true, Bool.not_false, Bool.false_eq_true, Bool.true_eq_false, beq_self_eq_true, bne_self_eq_false, Int.toNat_natCast]
    by_cases hc : c = b
    · subst hc
      simp only [and_self, and_true, true_and, decide_true, decide_false, if_true, if_false, mid_get, mid_set, mid_getn, mid_setn, bt_mid, Option.bind_some, Bool.not_true, Bool.not_false, Bool.false_eq_true, Bool.true_eq_false, beq_self_eq_true, bne_self_eq_false, Int.toNat_natCast]
      rw [if_pos (room_small _ _ (by rw [List.length_append] at ho hb; omega)), ext_mid]
      have := ih (q ++ t ++ [c]) [] (out ++ [ob t]) k (by simp at hb ⊢; omega) (by omega) (by simp at ho ⊢; omega)
      rw [List.append_nil, show (q ++ t ++ [c]) ++ r = q ++ t ++ c :: r by simp, snoc_len] at this
      rw [this, glue_nil (splitL_ne c r)]
      simp [splitL, glue]
    · have hne : (((c.toNat : Int)) == (b.toNat : Int)) = false := by
        rw [beq_eq_false_iff_ne]; intro e; exact hc (UInt8.toNat_inj.mp (by omega))
      simp only [hne, and_self, and_true, true_and, decide_true, decide_false, if_true, if_false, mid_get, mid_set, mid_getn, mid_setn, bt_mid, Option.bind_some, Bool.not_true, Bool.not_false, Bool.false_eq_true, Bool.true_eq_false, beq_self_eq_true, bne_self_eq_false, Int.toNat_natCast]
      have := ih q (t ++ [c]) out k (by simp at hb ⊢; omega) (by omega) (by simp at ho ⊢; omega)
      rw [show q ++ (t ++ [c]) ++ r = q ++ t ++ c :: r by simp, show ((q ++ (t ++ [c])).length : Int) = ((q ++ t).length : Int) + 1 by simp; omega] at this
      rw [this]
      simp only [splitL, if_neg hc, glue_glue]
theorem Qch (s : ByteArray) (b : UInt8) (hs : s.size ≤ 1000000) : QW.f s (b.toNat : Int) = some ((splitL b (bl s)).map ob) := by
  have := QcX b (bl s) [] [] [] NN (by simp [bl_length]; exact hs) (by rw [bl_length]; exact NN_lt (by omega)) (by simp)
  unfold QW.f QW.fn QW.top
  simp only [List.nil_append, ob_bl, List.length_nil] at this
  rw [glue_nil (splitL_ne _ _)] at this
  exact this
theorem QcJ (b : UInt8) : ∀ (r q t : List UInt8) (out : List ByteArray) (k : Nat), (q ++ t).length + r.length ≤ 1000000 → r.length + 1 < k → out.length ≤ (q ++ t).length →
    QL.l4 NN k (ob (q ++ t ++ r)) (b.toNat : Int) (q.length : Int) ((q ++ t).length : Int) out = some (out ++ (glue t (splitL b r)).map ob) := by
  intro r
  induction r with
  | nil =>
    intro q t out k hb hk ho
    obtain ⟨k, rfl⟩ : ∃ j, k = j + 1 + 1 := ⟨k - 2, by simp at hk; omega⟩
    have hb' : q.length + t.length ≤ 1000000 := by simpa using hb
    have c1 : ((q ++ t).length : Int) ≤ ((ob (q ++ t ++ [])).size : Int) := by rw [ob_size, List.append_nil]; omega
    have c1e : (((q ++ t).length : Int) == ((ob (q ++ t ++ [])).size : Int)) = true := by rw [ob_size, List.append_nil]; simp
    have c2 : (0 : Int) ≤ (q.length : Int) := by omega
    have c3 : (q.length : Int) ≤ ((q ++ t).length : Int) := by rw [List.length_append]; omega
    have cw := w64 (n := ((q ++ t).length : Int) + 1) (by omega) (by omega)
    have c4 : ¬ ((q ++ t).length : Int) + 1 ≤ ((ob (q ++ t ++ [])).size : Int) := by rw [ob_size, List.append_nil]; omega
    simp only [QL.l4, QL.g4, c1, c1e, c2, c3, c4, cw, and_self, and_true, true_and, decide_true, decide_false, if_true, if_false, mid_get, mid_set, mid_getn, mid_setn, bt_mid, Option.bind_some, Bool.not_true, Bool.not_false, Bool.false_eq_true, Bool.true_eq_false, beq_self_eq_true, bne_self_eq_false, Int.toNat_natCast, ext_mid]
    rw [if_pos (room_small _ _ (by simp at ho; omega))]
    simp [splitL, glue]
  | cons c r ih =>
    intro q t out k hb hk ho
    simp only [List.length_cons] at hb hk
    obtain ⟨k, rfl⟩ : ∃ j, k = j + 1 := ⟨k - 1, by omega⟩
    have hm := mid_len (q ++ t) r c
    have c0 : (0 : Int) ≤ ((q ++ t).length : Int) := by omega
    have c1 : ((q ++ t).length : Int) < ((ob (q ++ t ++ c :: r)).size : Int) := by rw [ob_size]; omega
    have c2 : (0 : Int) ≤ (q.length : Int) := by omega
    have c3 : (q.length : Int) ≤ ((q ++ t).length : Int) := by rw [List.length_append]; omega
    have c4 : ((q ++ t).length : Int) ≤ ((ob (q ++ t ++ c :: r)).size : Int) := by rw [ob_size]; omega
    have c5 : (((q ++ t).length : Int) == ((ob (q ++ t ++ c :: r)).size : Int)) = false := by rw [beq_eq_false_iff_ne]; omega
    have cw := w64 (n := ((q ++ t).length : Int) + 1) (by omega) (by omega)
    simp only [QL.l4, QL.g4, c0, c1, c2, c3, c4, c5, cw, and_self, and_true, true_and, decide_true, decide_false, if_true, if_false, mid_get, mid_set, mid_getn, mid_setn, bt_mid, Option.bind_some, Bool.not_true, Bool.not_false, Bool.false_eq_true, Bool.true_eq_false, beq_self_eq_true, bne_self_eq_false, Int.toNat_natCast]
    by_cases hc : c = b
    · subst hc
      simp only [and_self, and_true, true_and, decide_true, decide_false, if_true, if_false, mid_get, mid_set, mid_getn, mid_setn, bt_mid, Option.bind_some, Bool.not_true, Bool.not_false, Bool.false_eq_true, Bool.true_eq_false, beq_self_eq_true, bne_self_eq_false, Int.toNat_natCast]
      rw [if_pos (room_small _ _ (by rw [List.length_append] at ho hb; omega)), ext_mid]
      have := ih (q ++ t ++ [c]) [] (out ++ [ob t]) k (by simp at hb ⊢; omega) (by omega) (by simp at ho ⊢; omega)
      rw [List.append_nil, show (q ++ t ++ [c]) ++ r = q ++ t ++ c :: r by simp, snoc_len] at this
      rw [this, glue_nil (splitL_ne c r)]
      simp [splitL, glue]
    · have hne : (((c.toNat : Int)) == (b.toNat : Int)) = false := by
        rw [beq_eq_false_iff_ne]; intro e; exact hc (UInt8.toNat_inj.mp (by omega))
      simp only [hne, and_self, and_true, true_and, decide_true, decide_false, if_true, if_false, mid_get, mid_set, mid_getn, mid_setn, bt_mid, Option.bind_some, Bool.not_true, Bool.not_false, Bool.false_eq_true, Bool.true_eq_false, beq_self_eq_true, bne_self_eq_false, Int.toNat_natCast]
      have := ih q (t ++ [c]) out k (by simp at hb ⊢; omega) (by omega) (by simp at ho ⊢; omega)
      rw [show q ++ (t ++ [c]) ++ r = q ++ t ++ c :: r by simp, show ((q ++ (t ++ [c])).length : Int) = ((q ++ t).length : Int) + 1 by simp; omega] at this
      rw [this]
      simp only [splitL, if_neg hc, glue_glue]
theorem Qcc (s : ByteArray) (b : UInt8) (hs : s.size ≤ 1000000) : QL.f s (b.toNat : Int) = some ((splitL b (bl s)).map ob) := by
  have := QcJ b (bl s) [] [] [] NN (by simp [bl_length]; exact hs) (by rw [bl_length]; exact NN_lt (by omega)) (by simp)
  unfold QL.f QL.fn QL.top
  simp only [List.nil_append, ob_bl, List.length_nil] at this
  rw [glue_nil (splitL_ne _ _)] at this
  exact this
theorem splitL_size (b : UInt8) (l : List UInt8) : ∀ x ∈ splitL b l, x.length ≤ l.length := by
  induction l with
  | nil => simp [splitL]
  | cons c r ih =>
    simp only [splitL]
    split
    · intro x hx
      rcases List.mem_cons.1 hx with rfl | hx
      · simp
      · have := ih x hx; simp; omega
    · intro x hx
      cases e : splitL b r with
      | nil => exact absurd e (splitL_ne b r)
      | cons y ys =>
        rw [e] at hx ih
        rcases List.mem_cons.1 hx with rfl | hx
        · have := ih y (by simp); simp; omega
        · have := ih x (by simp [hx]); simp; omega
end Go.Pl

namespace Go.Pl
open Go.Ev
set_option linter.unusedVariables false
set_option linter.unusedSimpArgs false
def wPeople : ByteArray := ⟨#[112, 101, 111, 112, 108, 101]⟩
def wClear : ByteArray := ⟨#[99, 108, 101, 97, 114]⟩
def wSignal : ByteArray := ⟨#[115, 105, 103, 110, 97, 108]⟩
def wState : ByteArray := ⟨#[115, 116, 97, 116, 101]⟩
def wFire : ByteArray := ⟨#[102, 105, 114, 101]⟩
def wSettle : ByteArray := ⟨#[115, 101, 116, 116, 108, 101]⟩
def wTop : ByteArray := ⟨#[116, 111, 112]⟩
def wTime : ByteArray := ⟨#[116, 105, 109, 101]⟩
def wBook : ByteArray := ⟨#[98, 111, 111, 107]⟩
def wLeft : ByteArray := ⟨#[108, 101, 102, 116]⟩
def wOpen : ByteArray := ⟨#[111, 112, 101, 110]⟩
def wNeed : ByteArray := ⟨#[110, 101, 101, 100]⟩
def shpL (w : ByteArray) : Option (List UInt8) :=
  if w = wPeople then some [116, 105, 106]
  else if w = wClear then some [116, 105]
  else if w = wSignal then some [116, 105]
  else if w = wState then some [105]
  else if w = wFire then some [105]
  else if w = wSettle then some [105]
  else if w = wTop then some [105]
  else if w = wTime then some [105]
  else if w = wBook then some [116, 116, 105]
  else if w = wLeft then some [116]
  else if w = wOpen then some []
  else if w = wNeed then some [105, 105]
  else none
def upK (c : UInt8) : UInt8 := if c = 116 then 84 else if c = 105 then 73 else 74
theorem nbeq {a b : ByteArray} (h : ¬ a = b) : (a.toList == b.toList) = false := by rw [ba_beq]; simpa using h
theorem shape_cases (w : ByteArray) : (w = wPeople ∨ w = wClear ∨ w = wSignal ∨ w = wState ∨ w = wFire ∨ w = wSettle ∨ w = wTop ∨ w = wTime ∨ w = wBook ∨ w = wLeft ∨ w = wOpen ∨ w = wNeed) ∨ (shpL w = none ∧ Qal.f w = some (⟨#[]⟩, false) ∧ QaS.f w = some ⟨#[45]⟩) := by
  by_cases h1 : w = wPeople
  · simp [h1]
  by_cases h2 : w = wClear
  · simp [h2]
  by_cases h3 : w = wSignal
  · simp [h3]
  by_cases h4 : w = wState
  · simp [h4]
  by_cases h5 : w = wFire
  · simp [h5]
  by_cases h6 : w = wSettle
  · simp [h6]
  by_cases h7 : w = wTop
  · simp [h7]
  by_cases h8 : w = wTime
  · simp [h8]
  by_cases h9 : w = wBook
  · simp [h9]
  by_cases h10 : w = wLeft
  · simp [h10]
  by_cases h11 : w = wOpen
  · simp [h11]
  by_cases h12 : w = wNeed
  · simp [h12]
  right
  have b1 := nbeq h1
  have b2 := nbeq h2
  have b3 := nbeq h3
  have b4 := nbeq h4
  have b5 := nbeq h5
  have b6 := nbeq h6
  have b7 := nbeq h7
  have b8 := nbeq h8
  have b9 := nbeq h9
  have b10 := nbeq h10
  have b11 := nbeq h11
  have b12 := nbeq h12
  unfold wPeople at b1
  unfold wClear at b2
  unfold wSignal at b3
  unfold wState at b4
  unfold wFire at b5
  unfold wSettle at b6
  unfold wTop at b7
  unfold wTime at b8
  unfold wBook at b9
  unfold wLeft at b10
  unfold wOpen at b11
  unfold wNeed at b12
  refine ⟨?_, ?_, ?_⟩
  · unfold shpL
    rw [if_neg h1, if_neg h2, if_neg h3, if_neg h4, if_neg h5, if_neg h6, if_neg h7, if_neg h8, if_neg h9, if_neg h10, if_neg h11, if_neg h12]
  · unfold Qal.f Qal.fn Qal.top
    simp only [b1, b2, b3, b4, b5, b6, b7, b8, b9, b10, b11, b12, Bool.false_eq_true, if_false]
  · unfold QaS.f QaS.fn QaS.top
    simp only [b1, b2, b3, b4, b5, b6, b7, b8, b9, b10, b11, b12, Bool.false_eq_true, if_false]
theorem shape_some {w : ByteArray} {l : List UInt8} (h : shpL w = some l) : Qal.f w = some (ob l, true) ∧ QaS.f w = some (ob (l.map upK)) ∧ (∀ c ∈ l, c = 116 ∨ c = 105 ∨ c = 106) ∧ l.length ≤ 3 := by
  rcases shape_cases w with (rfl | rfl | rfl | rfl | rfl | rfl | rfl | rfl | rfl | rfl | rfl | rfl) | ⟨h1, _⟩
  all_goals first
    | (rw [h1] at h; cases h)
    | (have hl := Option.some.inj h; subst hl; exact ⟨by decide +kernel, by decide +kernel, by decide, by decide⟩)
theorem shape_none {w : ByteArray} (h : shpL w = none) : Qal.f w = some (⟨#[]⟩, false) ∧ QaS.f w = some ⟨#[45]⟩ := by
  rcases shape_cases w with (rfl | rfl | rfl | rfl | rfl | rfl | rfl | rfl | rfl | rfl | rfl | rfl) | ⟨h1, h2⟩
  all_goals first
    | exact h2
    | (exfalso; revert h; decide +kernel)
end Go.Pl

namespace Go.Pl
open Go.Ev
set_option linter.unusedVariables false
set_option linter.unusedSimpArgs false
noncomputable def prs : List UInt8 → List ByteArray → Option (List ByteArray × List Int)
  | [], _ => some ([], [])
  | _ :: _, [] => none
  | c :: r, w :: ws => if c = 116 then (match prs r ws with | some y => some (w :: y.1, y.2) | none => none)
      else (match (if c = 105 then numI w else numJ w) with
        | some x => (match prs r ws with | some y => some (y.1, x :: y.2) | none => none)
        | none => none)
theorem room16w {n : Nat} (h : n ≤ 2000000) : n < room 16 := by rw [room16]; omega
theorem room8w {n : Nat} (h : n ≤ 2000000) : n < room 8 := by rw [room8]; omega
def cmdOut (a : ByteArray) (w5 : List ByteArray) (w6 : List Int) : Option (List ByteArray × List Int) → (ByteArray × List ByteArray × List Int) × Bool
  | some y => ((a, (w5 ++ y.1, w6 ++ y.2)), true)
  | none => ((ByteArray.empty, ([], [])), false)
theorem Qdc (v2a c7a w0 : ByteArray) (w3 : List ByteArray) (w4 : List Int) : ∀ (r p : List UInt8) (wr wp : List ByteArray) (w5 : List ByteArray) (w6 : List Int) (k : Nat), wp.length = p.length → wr.length = r.length → p.length + r.length ≤ 1000 → w5.length ≤ p.length → w6.length ≤ p.length → (∀ c ∈ r, c = 116 ∨ c = 105 ∨ c = 106) → (∀ w ∈ wr, w.size ≤ 1000000) → r.length < k →
    Qu.l7 NN k (ob (p ++ r)) p.length v2a (w0 :: (wp ++ wr)) c7a w3 w4 w5 w6 = some (cmdOut c7a w5 w6 (prs r wr)) := by
  intro r
  induction r with
  | nil =>
    intro p wr wp w5 w6 k _ _ _ _ _ _ _ hk
    obtain ⟨k, rfl⟩ : ∃ j, k = j + 1 := ⟨k - 1, by omega⟩
    simp [Qu.l7, Qu.g7, prs, cmdOut, ob_size]
  | cons c r ih =>
    intro p wr wp w5 w6 k hwp hwr hl h5 h6 hc hz hk
    simp only [List.length_cons] at hl hk hwr
    obtain ⟨k, rfl⟩ : ∃ j, k = j + 1 := ⟨k - 1, by omega⟩
    cases wr with
    | nil => simp at hwr
    | cons w ws =>
      simp only [List.length_cons] at hwr
      have hln := mid_len p r c
      have c0 : (0 : Int) ≤ (p.length : Int) := by omega
      have c1 : (p.length : Int) < ((ob (p ++ c :: r)).size : Int) := by rw [ob_size]; omega
      have cw := w64 (n := (p.length : Int) + 1) (by omega) (by omega)
      have c2 : (0 : Int) ≤ (p.length : Int) + 1 := by omega
      have c3 : (p.length : Int) + 1 < ((w0 :: (wp ++ w :: ws)).length : Int) := by simp; omega
      have g : ∀ z, (w0 :: (wp ++ w :: ws)).getD ((p.length : Int) + 1).toNat z = w := fun z => by
        rw [show ((p.length : Int) + 1).toNat = p.length + 1 by omega, List.getD_cons_succ, ← hwp]
        exact mid_getn wp ws w z
      have hsz := hz w (by simp)
      have i := fun a b ha hb => ih (p ++ [c]) ws (wp ++ [w]) a b k (by simp; omega) (by omega) (by simp; omega) ha hb (fun x hx => hc x (by simp [hx])) (fun x hx => hz x (by simp [hx])) (by omega)
      simp only [mid_snoc, snoc_len] at i
      have e2 : (p ++ [c]).length = p.length + 1 := by simp
      rw [e2] at i
      have r16 : w5.length + [w].length < room 16 := room16w (by simp; omega)
      have r8 : ∀ x : Int, w6.length + [x].length < room 8 := fun x => room8w (by simp; omega)
      rcases hc c (by simp) with rfl | rfl | rfl
      · have e : (((116 : UInt8).toNat : Int) == 116) = true := by decide
        simp only [Qu.l7, Qu.g7, c0, c1, cw, c2, c3, g, e, r16, and_self, and_true, true_and, decide_true, decide_false, if_true, if_false, mid_get, mid_set, mid_getn, mid_setn, bt_mid, Option.bind_some, Bool.not_true, Bool.not_false, Bool.false_eq_true, Bool.true_eq_false, beq_self_eq_true, bne_self_eq_false, Int.toNat_natCast, prs]
        rw [i (w5 ++ [w]) w6 (by simp; omega) (by omega)]
        cases prs r ws with
        | none => rfl
        | some y => simp [cmdOut]
      · have e : (((105 : UInt8).toNat : Int) == 116) = false := by decide
        have e' : (((105 : UInt8).toNat : Int) == 105) = true := by decide
        have n1 : ¬ ((105 : UInt8) = 116) := by decide
        have ws1 := w64 (n := (w.size : Int) - 1) (by omega) (by omega)
        simp only [Qu.l7, Qu.g7, c0, c1, cw, c2, c3, g, e, e', r8, and_self, and_true, true_and, decide_true, decide_false, if_true, if_false, mid_get, mid_set, mid_getn, mid_setn, bt_mid, Option.bind_some, Bool.not_true, Bool.not_false, Bool.false_eq_true, Bool.true_eq_false, beq_self_eq_true, bne_self_eq_false, Int.toNat_natCast, prs, n1, Qb8 w hsz, ws1, numI_eq]
        generalize rdD w = d
        obtain ⟨n, b⟩ := d
        by_cases hn : n < 0
        · have n0 : ¬ (0 : Int) ≤ n := by omega
          simp only [hn, n0, and_self, and_true, true_and, decide_true, decide_false, if_true, if_false, mid_get, mid_set, mid_getn, mid_setn, bt_mid, Option.bind_some, Bool.not_true, Bool.not_false, Bool.false_eq_true, Bool.true_eq_false, beq_self_eq_true, bne_self_eq_false, Int.toNat_natCast, and_false, false_and]
          cases b
          · rfl
          · by_cases hs : (13 : Int) < (w.size : Int) - 1 <;> simp only [hs, and_self, and_true, true_and, decide_true, decide_false, if_true, if_false, mid_get, mid_set, mid_getn, mid_setn, bt_mid, Option.bind_some, Bool.not_true, Bool.not_false, Bool.false_eq_true, Bool.true_eq_false, beq_self_eq_true, bne_self_eq_false, Int.toNat_natCast] <;> rfl
        · have n0 : (0 : Int) ≤ n := by omega
          simp only [hn, n0, and_self, and_true, true_and, decide_true, decide_false, if_true, if_false, mid_get, mid_set, mid_getn, mid_setn, bt_mid, Option.bind_some, Bool.not_true, Bool.not_false, Bool.false_eq_true, Bool.true_eq_false, beq_self_eq_true, bne_self_eq_false, Int.toNat_natCast]
          cases b
          · simp only [and_self, and_true, true_and, decide_true, decide_false, if_true, if_false, mid_get, mid_set, mid_getn, mid_setn, bt_mid, Option.bind_some, Bool.not_true, Bool.not_false, Bool.false_eq_true, Bool.true_eq_false, beq_self_eq_true, bne_self_eq_false, Int.toNat_natCast, false_and]; rfl
          · by_cases hs : (13 : Int) < (w.size : Int)
            · have hs' : ¬ w.size ≤ 13 := by omega
              simp only [hs, hs', and_self, and_true, true_and, decide_true, decide_false, if_true, if_false, mid_get, mid_set, mid_getn, mid_setn, bt_mid, Option.bind_some, Bool.not_true, Bool.not_false, Bool.false_eq_true, Bool.true_eq_false, beq_self_eq_true, bne_self_eq_false, Int.toNat_natCast, and_false]; rfl
            · have hs' : w.size ≤ 13 := by omega
              simp only [hs, hs', and_self, and_true, true_and, decide_true, decide_false, if_true, if_false, mid_get, mid_set, mid_getn, mid_setn, bt_mid, Option.bind_some, Bool.not_true, Bool.not_false, Bool.false_eq_true, Bool.true_eq_false, beq_self_eq_true, bne_self_eq_false, Int.toNat_natCast]
              rw [i w5 (w6 ++ [n]) (by omega) (by simp; omega)]
              cases prs r ws with
              | none => rfl
              | some y => simp [cmdOut]
      · have e : (((106 : UInt8).toNat : Int) == 116) = false := by decide
        have e' : (((106 : UInt8).toNat : Int) == 105) = false := by decide
        have n1 : ¬ ((106 : UInt8) = 116) := by decide
        have n2 : ¬ ((106 : UInt8) = 105) := by decide
        have ws1 := w64 (n := (w.size : Int) - 1) (by omega) (by omega)
        simp only [Qu.l7, Qu.g7, c0, c1, cw, c2, c3, g, e, e', r8, and_self, and_true, true_and, decide_true, decide_false, if_true, if_false, mid_get, mid_set, mid_getn, mid_setn, bt_mid, Option.bind_some, Bool.not_true, Bool.not_false, Bool.false_eq_true, Bool.true_eq_false, beq_self_eq_true, bne_self_eq_false, Int.toNat_natCast, prs, n1, n2, Qb8 w hsz, ws1, numJ_eq]
        generalize rdD w = d
        obtain ⟨n, b⟩ := d
        by_cases hn : n < 0
        · have n0 : ¬ (0 : Int) ≤ n := by omega
          simp only [hn, n0, and_self, and_true, true_and, decide_true, decide_false, if_true, if_false, mid_get, mid_set, mid_getn, mid_setn, bt_mid, Option.bind_some, Bool.not_true, Bool.not_false, Bool.false_eq_true, Bool.true_eq_false, beq_self_eq_true, bne_self_eq_false, Int.toNat_natCast, false_implies, true_implies]
          cases b
          · simp only [and_self, and_true, true_and, decide_true, decide_false, if_true, if_false, mid_get, mid_set, mid_getn, mid_setn, bt_mid, Option.bind_some, Bool.not_true, Bool.not_false, Bool.false_eq_true, Bool.true_eq_false, beq_self_eq_true, bne_self_eq_false, Int.toNat_natCast, false_and]; rfl
          · by_cases hs : (13 : Int) < (w.size : Int) - 1
            · have hs' : ¬ w.size ≤ 14 := by omega
              simp only [hs, hs', and_self, and_true, true_and, decide_true, decide_false, if_true, if_false, mid_get, mid_set, mid_getn, mid_setn, bt_mid, Option.bind_some, Bool.not_true, Bool.not_false, Bool.false_eq_true, Bool.true_eq_false, beq_self_eq_true, bne_self_eq_false, Int.toNat_natCast, and_false]; rfl
            · have hs' : w.size ≤ 14 := by omega
              simp only [hs, hs', and_self, and_true, true_and, decide_true, decide_false, if_true, if_false, mid_get, mid_set, mid_getn, mid_setn, bt_mid, Option.bind_some, Bool.not_true, Bool.not_false, Bool.false_eq_true, Bool.true_eq_false, beq_self_eq_true, bne_self_eq_false, Int.toNat_natCast]
              rw [i w5 (w6 ++ [n]) (by omega) (by simp; omega)]
              cases prs r ws with
              | none => rfl
              | some y => simp [cmdOut]
        · have n0 : (0 : Int) ≤ n := by omega
          simp only [hn, n0, and_self, and_true, true_and, decide_true, decide_false, if_true, if_false, mid_get, mid_set, mid_getn, mid_setn, bt_mid, Option.bind_some, Bool.not_true, Bool.not_false, Bool.false_eq_true, Bool.true_eq_false, beq_self_eq_true, bne_self_eq_false, Int.toNat_natCast, false_implies, true_implies]
          cases b
          · simp only [and_self, and_true, true_and, decide_true, decide_false, if_true, if_false, mid_get, mid_set, mid_getn, mid_setn, bt_mid, Option.bind_some, Bool.not_true, Bool.not_false, Bool.false_eq_true, Bool.true_eq_false, beq_self_eq_true, bne_self_eq_false, Int.toNat_natCast, false_and]; rfl
          · by_cases hs : (13 : Int) < (w.size : Int)
            · have hs' : ¬ w.size ≤ 13 := by omega
              simp only [hs, hs', and_self, and_true, true_and, decide_true, decide_false, if_true, if_false, mid_get, mid_set, mid_getn, mid_setn, bt_mid, Option.bind_some, Bool.not_true, Bool.not_false, Bool.false_eq_true, Bool.true_eq_false, beq_self_eq_true, bne_self_eq_false, Int.toNat_natCast, and_false]; rfl
            · have hs' : w.size ≤ 13 := by omega
              simp only [hs, hs', and_self, and_true, true_and, decide_true, decide_false, if_true, if_false, mid_get, mid_set, mid_getn, mid_setn, bt_mid, Option.bind_some, Bool.not_true, Bool.not_false, Bool.false_eq_true, Bool.true_eq_false, beq_self_eq_true, bne_self_eq_false, Int.toNat_natCast]
              rw [i w5 (w6 ++ [n]) (by omega) (by simp; omega)]
              cases prs r ws with
              | none => rfl
              | some y => simp [cmdOut]
def prsOut (words : List ByteArray) (n7 : List Int) : Option (List ByteArray × List Int) → List ByteArray × List Int × Bool
  | some y => (words, (n7 ++ y.2, true))
  | none => ([], ([], false))
theorem Qdd (w0 : ByteArray) : ∀ (r : List UInt8) (p : List UInt8) (wr wp : List ByteArray) (n7 : List Int) (k : Nat), wp.length = p.length → wr.length = r.length → p.length + r.length ≤ 1000 → n7.length ≤ p.length → (∀ c ∈ r, c = 116 ∨ c = 105 ∨ c = 106) → (∀ w ∈ wr, w.size ≤ 1000000) → r.length < k →
    Qq.l7 NN k (ob (p ++ r.map upK)) p.length (w0 :: (wp ++ wr)) n7 = some (prsOut (w0 :: (wp ++ wr)) n7 (prs r wr)) := by
  intro r
  induction r with
  | nil =>
    intro p wr wp n7 k _ _ _ _ _ _ hk
    obtain ⟨k, rfl⟩ : ∃ j, k = j + 1 := ⟨k - 1, by omega⟩
    simp [Qq.l7, Qq.g7, prs, prsOut, ob_size]
  | cons c r ih =>
    intro p wr wp n7 k hwp hwr hl h7 hc hz hk
    simp only [List.length_cons] at hl hk hwr
    obtain ⟨k, rfl⟩ : ∃ j, k = j + 1 := ⟨k - 1, by omega⟩
    cases wr with
    | nil => simp at hwr
    | cons w ws =>
      simp only [List.length_cons] at hwr
      have hln := mid_len p (r.map upK) (upK c)
      have c0 : (0 : Int) ≤ (p.length : Int) := by omega
      have c1 : (p.length : Int) < ((ob (p ++ upK c :: r.map upK)).size : Int) := by rw [ob_size]; omega
      have cw := w64 (n := (p.length : Int) + 1) (by omega) (by omega)
      have c2 : (0 : Int) ≤ (p.length : Int) + 1 := by omega
      have c3 : (p.length : Int) + 1 < ((w0 :: (wp ++ w :: ws)).length : Int) := by simp; omega
      have g : ∀ z, (w0 :: (wp ++ w :: ws)).getD ((p.length : Int) + 1).toNat z = w := fun z => by
        rw [show ((p.length : Int) + 1).toNat = p.length + 1 by omega, List.getD_cons_succ, ← hwp]
        exact mid_getn wp ws w z
      have hsz := hz w (by simp)
      have i := fun a ha => ih (p ++ [upK c]) ws (wp ++ [w]) a k (by simp; omega) (by omega) (by simp; omega) ha (fun x hx => hc x (by simp [hx])) (fun x hx => hz x (by simp [hx])) (by omega)
      simp only [mid_snoc, snoc_len] at i
      have e2 : (p ++ [upK c]).length = p.length + 1 := by simp
      rw [e2] at i
      have r8 : ∀ x : Int, n7.length + [x].length < room 8 := fun x => room8w (by simp; omega)
      rw [List.map_cons]
      rcases hc c (by simp) with rfl | rfl | rfl
      · have e : (((upK 116).toNat : Int) == 73) = false := by decide
        have e' : (((upK 116).toNat : Int) == 74) = false := by decide
        simp only [Qq.l7, Qq.g7, c0, c1, cw, e, e', and_self, and_true, true_and, decide_true, decide_false, if_true, if_false, mid_get, mid_set, mid_getn, mid_setn, bt_mid, Option.bind_some, Bool.not_true, Bool.not_false, Bool.false_eq_true, Bool.true_eq_false, beq_self_eq_true, bne_self_eq_false, Int.toNat_natCast, prs]
        rw [i n7 (by omega)]
        cases prs r ws <;> rfl
      · have e : (((upK 105).toNat : Int) == 73) = true := by decide
        have n1 : ¬ ((105 : UInt8) = 116) := by decide
        simp only [Qq.l7, Qq.g7, c0, c1, cw, c2, c3, g, e, r8, and_self, and_true, true_and, decide_true, decide_false, if_true, if_false, mid_get, mid_set, mid_getn, mid_setn, bt_mid, Option.bind_some, Bool.not_true, Bool.not_false, Bool.false_eq_true, Bool.true_eq_false, beq_self_eq_true, bne_self_eq_false, Int.toNat_natCast, prs, n1, QbO w hsz]
        unfold numI
        by_cases hv : (rdV w).2 = true
        · rw [hv]
          simp only [and_self, and_true, true_and, decide_true, decide_false, if_true, if_false, mid_get, mid_set, mid_getn, mid_setn, bt_mid, Option.bind_some, Bool.not_true, Bool.not_false, Bool.false_eq_true, Bool.true_eq_false, beq_self_eq_true, bne_self_eq_false, Int.toNat_natCast]
          rw [i (n7 ++ [(rdV w).1]) (by simp; omega)]
          cases prs r ws with
          | none => rfl
          | some y => simp [prsOut]
        · have hv' : (rdV w).2 = false := by simpa using hv
          rw [hv']
          rfl
      · have e : (((upK 106).toNat : Int) == 73) = false := by decide
        have e' : (((upK 106).toNat : Int) == 74) = true := by decide
        have n1 : ¬ ((106 : UInt8) = 116) := by decide
        have n2 : ¬ ((106 : UInt8) = 105) := by decide
        obtain ⟨n, b, s1, s2⟩ := Qcy w hsz
        simp only [Qq.l7, Qq.g7, c0, c1, cw, c2, c3, g, e, e', r8, and_self, and_true, true_and, decide_true, decide_false, if_true, if_false, mid_get, mid_set, mid_getn, mid_setn, bt_mid, Option.bind_some, Bool.not_true, Bool.not_false, Bool.false_eq_true, Bool.true_eq_false, beq_self_eq_true, bne_self_eq_false, Int.toNat_natCast, prs, n1, n2, s1, s2]
        cases b
        · rfl
        · simp only [and_self, and_true, true_and, decide_true, decide_false, if_true, if_false, mid_get, mid_set, mid_getn, mid_setn, bt_mid, Option.bind_some, Bool.not_true, Bool.not_false, Bool.false_eq_true, Bool.true_eq_false, beq_self_eq_true, bne_self_eq_false, Int.toNat_natCast]
          rw [i (n7 ++ [n]) (by simp; omega)]
          cases prs r ws with
          | none => rfl
          | some y => simp [prsOut]
end Go.Pl

namespace Go.Pl
open Go.Ev
set_option linter.unusedVariables false
set_option linter.unusedSimpArgs false
def inB (n lo hi : Int) : Bool := decide (lo ≤ n) && decide (n ≤ hi)
theorem inB_iff {n lo hi : Int} : inB n lo hi = true ↔ lo ≤ n ∧ n ≤ hi := by unfold inB; simp
theorem Qbg (n lo hi : Int) : Q8.f n lo hi = some (inB n lo hi) := by
  unfold Q8.f Q8.fn Q8.top inB
  by_cases h : lo ≤ n <;> simp [h]
theorem Qbi (n lo hi : Int) : Qab.f n lo hi = some (inB n lo hi) := by
  unfold Qab.f Qab.fn Qab.top inB
  by_cases h : lo ≤ n <;> simp [h]
def letB (c : UInt8) : Bool := !(decide ((c.toNat : Int) < 97)) && !(decide (122 < (c.toNat : Int)))
def wordB (s : ByteArray) : Bool := decide (1 ≤ s.size) && decide (s.size ≤ 16) && (bl s).all letB
theorem wordB_size {s : ByteArray} (h : wordB s = true) : 1 ≤ s.size ∧ s.size ≤ 16 := by
  unfold wordB at h; simp at h; exact h.1
theorem Qcz (s : ByteArray) (h : s.size ≤ 140737488355328) : QJ.l4 NN NN s 0 = if (bl s).all letB = true then some true else some false := by
  refine all_loop_str letB (fun s => some true) (fun k s i => QJ.l4 NN k s i) ?_ ?_ s h NN (NN_lt (by omega))
  · intro k p
    show QJ.g4 _ (ob p) p.length = _
    simp [QJ.g4, ob_size, Qbi]
  · intro k p a r c0 c1 cw
    show QJ.g4 (QJ.l4 NN k) (ob (p ++ a :: r)) p.length = _
    simp only [QJ.g4, c0, c1, cw, and_self, and_true, true_and, decide_true, decide_false, if_true, if_false, mid_get, mid_set, mid_getn, mid_setn, bt_mid, Option.bind_some, Bool.not_true, Bool.not_false, Bool.false_eq_true, Bool.true_eq_false, beq_self_eq_true, bne_self_eq_false, Int.toNat_natCast]
    unfold letB
    by_cases h1 : (a.toNat : Int) < 97 <;> by_cases h2 : (122 : Int) < (a.toNat : Int) <;> simp [h1, h2]
theorem QcA (s : ByteArray) (h : s.size ≤ 140737488355328) : QP.l2 NN NN s 0 = if (bl s).all letB = true then some (inB s.size 1 16) else some false := by
  refine all_loop_str letB (fun s => some (inB s.size 1 16)) (fun k s i => QP.l2 NN k s i) ?_ ?_ s h NN (NN_lt (by omega))
  · intro k p
    show QP.g2 _ (ob p) p.length = _
    simp [QP.g2, ob_size, Qbi]
  · intro k p a r c0 c1 cw
    show QP.g2 (QP.l2 NN k) (ob (p ++ a :: r)) p.length = _
    simp only [QP.g2, c0, c1, cw, and_self, and_true, true_and, decide_true, decide_false, if_true, if_false, mid_get, mid_set, mid_getn, mid_setn, bt_mid, Option.bind_some, Bool.not_true, Bool.not_false, Bool.false_eq_true, Bool.true_eq_false, beq_self_eq_true, bne_self_eq_false, Int.toNat_natCast]
    unfold letB
    by_cases h1 : (a.toNat : Int) < 97 <;> by_cases h2 : (122 : Int) < (a.toNat : Int) <;> simp [h1, h2]
theorem QbL (s : ByteArray) (h : s.size ≤ 140737488355328) : QJ.f s = some (wordB s) := by
  unfold QJ.f QJ.fn QJ.top
  rw [Qcz s h]
  unfold wordB
  by_cases h1 : (s.size : Int) < 1
  · have : ¬ 1 ≤ s.size := by omega
    simp [h1, this]
  · have e1 : 1 ≤ s.size := by omega
    by_cases h2 : (16 : Int) < s.size
    · have : ¬ s.size ≤ 16 := by omega
      simp [h1, h2, this]
    · have : s.size ≤ 16 := by omega
      cases h3 : (bl s).all letB <;> simp [h1, h2, this, h3, e1]
theorem QbM (s : ByteArray) (h : s.size ≤ 140737488355328) : QP.f s = some (wordB s) := by
  unfold QP.f QP.fn QP.top
  rw [QcA s h]
  unfold wordB inB
  have e1 : decide ((1 : Int) ≤ s.size) = decide (1 ≤ s.size) := by congr 1; simp; omega
  have e2 : decide ((s.size : Int) ≤ 16) = decide (s.size ≤ 16) := by congr 1; simp; omega
  rw [e1, e2]
  cases h3 : (bl s).all letB <;> simp
end Go.Pl

namespace Go.Pl
open Go.Ev
set_option linter.unusedVariables false
set_option linter.unusedSimpArgs false
def OkBooking (x : Int × ByteArray × Int) : Prop := Rg .i64 x.1 ∧ Sm x.2.1 ∧ Rg .i64 x.2.2
end Go.Pl

namespace Go.Pl
open Go.Ev
set_option linter.unusedVariables false
set_option linter.unusedSimpArgs false
abbrev Mov := Int × ByteArray × Int
def movB (m : Mov) : Bool := inB m.1 0 10000000 && wordB m.2.1 && inB m.2.2 (-1000) 1000 && !decide (m.2.2 = 0)
theorem movB_iff {m : Mov} (h : movB m = true) : (0 ≤ m.1 ∧ m.1 ≤ 10000000) ∧ wordB m.2.1 = true ∧ (-1000 ≤ m.2.2 ∧ m.2.2 ≤ 1000) := by
  unfold movB at h
  simp only [Bool.and_eq_true, inB_iff] at h
  exact ⟨h.1.1.1, h.1.1.2, h.1.2⟩
theorem QbX (t : Int) : QaO.f t = some (inB t 0 10000000) := by
  unfold QaO.f QaO.fn QaO.top
  rw [Qbg]; rfl
theorem Qcq (t : Int) : QaY.f t = some (inB t 0 100000) := by
  unfold QaY.f QaY.fn QaY.top
  rw [Qbg]; rfl
theorem Qbz (t : Int) : Qaj.f t = some (inB t 0 10000000) := by
  unfold Qaj.f Qaj.fn Qaj.top
  rw [Qbi]; rfl
def addP (z : ByteArray) (s : Int) (m : Mov) : Int := if m.2.1 = z then s + m.2.2 else s
def peopS (xs : List Mov) (z : ByteArray) : Int := xs.foldl (addP z) 0
theorem QcK (xs : List Mov) (z : ByteArray) (t : Int) (h : ∀ m ∈ xs, movB m = true) (ht : ∀ m ∈ xs, m.1 ≤ t) (hl : xs.length ≤ 1000000) : QB.f xs z t = some (peopS xs z) := by
  have := (fold_fix (E := fun m : Mov => movB m = true ∧ m.1 ≤ t) (fun p st => -(1000 * (p.length : Int)) ≤ st ∧ st ≤ 1000 * (p.length : Int)) (fun _ => addP z) (fun st => some st) (fun k i st => QB.l3 NN k z t st xs xs.length i) xs ?_ ?_ 0 (fun m hm => ⟨h m hm, ht m hm⟩) (by simp) (by omega) NN (NN_lt (by omega))).2
  · rw [foldi_foldl] at this
    exact this
  · intro k st _
    simp [QB.l3, QB.g3]
  · intro k p m r st hx hm hI c0 c1 c2 cw g
    have hb := movB_iff hm.1
    have hp : p.length ≤ 1000000 := by omega
    have w1 := w64 (n := st + m.2.2) (by omega) (by omega)
    have q := hm.2
    refine ⟨by unfold addP; rw [List.length_append, List.length_singleton]; split <;> omega, ?_⟩
    simp only [QB.l3, QB.g3, c0, c1, cw, and_self, and_true, true_and, decide_true, decide_false, if_true, if_false, mid_get, mid_set, mid_getn, mid_setn, bt_mid, Option.bind_some, Bool.not_true, Bool.not_false, Bool.false_eq_true, Bool.true_eq_false, beq_self_eq_true, bne_self_eq_false, Int.toNat_natCast, g, ba_beq, q, w1]
    unfold addP
    by_cases e : m.2.1 = z <;> simp [e]
theorem Qb9 (xs rest : List Mov) (z : ByteArray) (h : ∀ m ∈ xs, movB m = true) (hl : xs.length ≤ 1000000) : QA.f (xs ++ rest) z xs.length = some (peopS xs z) := by
  have := (fold_fix (E := fun m : Mov => movB m = true) (fun p st => -(1000 * (p.length : Int)) ≤ st ∧ st ≤ 1000 * (p.length : Int)) (fun _ => addP z) (fun st => some st) (fun k i st => QA.l3 NN k (xs ++ rest) z xs.length st i) xs ?_ ?_ 0 h (by simp) (by omega) NN (NN_lt (by omega))).2
  · rw [foldi_foldl] at this
    exact this
  · intro k st _
    simp [QA.l3, QA.g3]
  · intro k p m r st hx hm hI c0 c1 c2 cw g
    have hb := movB_iff hm
    have hp : p.length ≤ 1000000 := by omega
    have w1 := w64 (n := st + m.2.2) (by omega) (by omega)
    have c3 : (p.length : Int) < ((xs ++ rest).length : Int) := by simp; omega
    have g2 : ∀ w, (xs ++ rest).getD p.length w = m := fun w => by rw [hx, List.append_assoc, List.cons_append, mid_getn]
    refine ⟨by unfold addP; rw [List.length_append, List.length_singleton]; split <;> omega, ?_⟩
    simp only [QA.l3, QA.g3, c0, c1, c3, cw, and_self, and_true, true_and, decide_true, decide_false, if_true, if_false, mid_get, mid_set, mid_getn, mid_setn, bt_mid, Option.bind_some, Bool.not_true, Bool.not_false, Bool.false_eq_true, Bool.true_eq_false, beq_self_eq_true, bne_self_eq_false, Int.toNat_natCast, g2, ba_beq, w1]
    unfold addP
    by_cases e : m.2.1 = z <;> simp [e]
def prevM (p : List Mov) (t : Int) : Bool := match p.getLast? with | none => true | some y => !decide (t < y.1)
def movF (p : List Mov) : List Mov → Bool
  | [] => true
  | m :: r => movB m && (prevM p m.1 && (!decide (peopS (p ++ [m]) m.2.1 < 0) && movF (p ++ [m]) r))
def movesB (xs : List Mov) : Bool := decide (xs.length ≤ 40) && movF [] xs
structure MvI (p : List Mov) : Prop where
  ok : ∀ m ∈ p, movB m = true
  le : ∀ m ∈ p, ∀ y, p.getLast? = some y → m.1 ≤ y.1
theorem mvi_snoc {p : List Mov} {m : Mov} (h : MvI p) (hm : movB m = true) (hp : prevM p m.1 = true) : MvI (p ++ [m]) ∧ ∀ x ∈ p ++ [m], x.1 ≤ m.1 := by
  have key : ∀ x ∈ p ++ [m], x.1 ≤ m.1 := fun x hx => by
    rcases List.mem_append.1 hx with h1 | h1
    · unfold prevM at hp
      cases e : p.getLast? with
      | none => rw [List.getLast?_eq_none_iff.1 e] at h1; cases h1
      | some y =>
        rw [e] at hp
        simp only [Bool.not_eq_true', decide_eq_false_iff_not] at hp
        have := h.le x h1 y e
        omega
    · rw [List.mem_singleton.1 h1]; omega
  refine ⟨⟨fun x hx => ?_, fun x hx y hy => ?_⟩, key⟩
  · rcases List.mem_append.1 hx with h1 | h1
    · exact h.ok x h1
    · rw [List.mem_singleton.1 h1]; exact hm
  · rw [List.getLast?_append] at hy
    simp at hy
    rw [← hy]; exact key x hx
theorem last_cases {α : Type} (p : List α) : p = [] ∨ ∃ q y, p = q ++ [y] := by
  rcases List.eq_nil_or_concat p with h | ⟨q, y, h⟩
  · exact .inl h
  · exact .inr ⟨q, y, by rw [h]; simp⟩
theorem last_snoc {α : Type} (q : List α) (y : α) : (q ++ [y]).getLast? = some y := by simp
theorem QcL : ∀ (r p : List Mov) (k : Nat), MvI p → (∀ m ∈ r, Sz m.2.1) → p.length + r.length ≤ 1000000 → r.length < k → Qx.l4 NN k (p ++ r) (p ++ r) (p ++ r).length p.length = some (movF p r) := by
  intro r
  induction r with
  | nil =>
    intro p k _ _ _ hk
    obtain ⟨k, rfl⟩ : ∃ j, k = j + 1 := ⟨k - 1, by omega⟩
    simp [Qx.l4, Qx.g4, movF]
  | cons m r ih =>
    intro p k hI hs hb hk
    simp only [List.length_cons] at hb hk
    obtain ⟨k, rfl⟩ : ∃ j, k = j + 1 := ⟨k - 1, by omega⟩
    have hl := mid_len p r m
    have c0 : (0 : Int) ≤ (p.length : Int) := by omega
    have c1 : (p.length : Int) < ((p ++ m :: r).length : Int) := by omega
    have cw := w64 (n := (p.length : Int) + 1) (by omega) (by omega)
    have c3 : (0 : Int) ≤ (p.length : Int) + 1 := by omega
    have c4 : (p.length : Int) + 1 ≤ ((p ++ m :: r).length : Int) := by omega
    have t1 : ((p.length : Int) + 1).toNat = (p ++ [m]).length := by simp
    have htk : (p ++ m :: r).take (p ++ [m]).length = p ++ [m] := by rw [← mid_snoc p r m, List.take_left]
    simp only [Qx.l4, Qx.g4, c0, c1, c3, c4, cw, t1, htk, and_self, and_true, true_and, decide_true, decide_false, if_true, if_false, mid_get, mid_set, mid_getn, mid_setn, bt_mid, Option.bind_some, Bool.not_true, Bool.not_false, Bool.false_eq_true, Bool.true_eq_false, beq_self_eq_true, bne_self_eq_false, Int.toNat_natCast, QbX, QbL _ (hs m (by simp)), Qbg]
    by_cases hm : movB m = true
    rotate_left
    · have e : movF p (m :: r) = false := by simp only [movF]; cases q : movB m; rfl; exact absurd q hm
      rw [e]
      unfold movB at hm
      simp only [Bool.and_eq_true, Bool.not_eq_true', decide_eq_false_iff_not, not_and] at hm
      by_cases h1 : inB m.1 0 10000000 = true
      · by_cases h2 : wordB m.2.1 = true
        · by_cases h3 : inB m.2.2 (-1000) 1000 = true
          · have h4 : m.2.2 = 0 := by have := hm ⟨⟨h1, h2⟩, h3⟩; omega
            simp [h1, h2, h3, h4]
          · simp [h1, h2, h3]
        · simp [h1, h2]
      · simp [h1]
    have hm' := hm
    unfold movB at hm'
    simp only [Bool.and_eq_true, Bool.not_eq_true', decide_eq_false_iff_not] at hm'
    obtain ⟨⟨⟨h1, h2⟩, h3⟩, h4⟩ := hm'
    have h4' : (m.2.2 == 0) = false := by simpa using h4
    simp only [h1, h2, h3, h4', and_self, and_true, true_and, decide_true, decide_false, if_true, if_false, mid_get, mid_set, mid_getn, mid_setn, bt_mid, Option.bind_some, Bool.not_true, Bool.not_false, Bool.false_eq_true, Bool.true_eq_false, beq_self_eq_true, bne_self_eq_false, Int.toNat_natCast]
    have fin : prevM p m.1 = true → ((QB.f (p ++ [m]) m.2.1 m.1).bind fun r4 => if (decide (r4 < 0)) = true then some false else Qx.l4 NN k (p ++ m :: r) (p ++ m :: r) (p ++ m :: r).length ((p.length : Int) + 1)) = some (movF p (m :: r)) := fun hp => by
      obtain ⟨q1, q2⟩ := mvi_snoc hI hm hp
      rw [QcK _ _ _ q1.ok q2 (by simp; omega)]
      have := ih (p ++ [m]) k q1 (fun x hx => hs x (by simp [hx])) (by simp; omega) (by omega)
      rw [mid_snoc, snoc_len] at this
      simp only [movF, hm, hp, Bool.true_and, Option.bind_some, this]
      by_cases e : peopS (p ++ [m]) m.2.1 < 0 <;> simp [e]
    rcases last_cases p with hp | ⟨q, y, hp⟩
    · have n1 : ¬ (0 : Int) < (p.length : Int) := by rw [hp]; simp
      simp only [n1, and_self, and_true, true_and, decide_true, decide_false, if_true, if_false, mid_get, mid_set, mid_getn, mid_setn, bt_mid, Option.bind_some, Bool.not_true, Bool.not_false, Bool.false_eq_true, Bool.true_eq_false, beq_self_eq_true, bne_self_eq_false, Int.toNat_natCast]
      exact fin (by rw [hp]; rfl)
    · have hpl : (p.length : Int) - 1 = (q.length : Int) := by rw [hp]; simp
      have n1 : (0 : Int) < (p.length : Int) := by rw [hp]; simp
      have w1 := w64 (n := (q.length : Int)) (by omega) (by omega)
      have q0 : (0 : Int) ≤ (q.length : Int) := by omega
      have q1 : (q.length : Int) < ((p ++ m :: r).length : Int) := by omega
      have g2 : ∀ z, (p ++ m :: r).getD q.length z = y := fun z => by rw [hp, List.append_assoc, List.singleton_append, mid_getn]
      simp only [n1, hpl, w1, q0, q1, g2, and_self, and_true, true_and, decide_true, decide_false, if_true, if_false, mid_get, mid_set, mid_getn, mid_setn, bt_mid, Option.bind_some, Bool.not_true, Bool.not_false, Bool.false_eq_true, Bool.true_eq_false, beq_self_eq_true, bne_self_eq_false, Int.toNat_natCast]
      have hpr : prevM p m.1 = !decide (m.1 < y.1) := by unfold prevM; rw [hp, last_snoc]
      by_cases e : m.1 < y.1
      · have : movF p (m :: r) = false := by simp [movF, hpr, e]
        simp [e, this]
      · simp only [e, and_self, and_true, true_and, decide_true, decide_false, if_true, if_false, mid_get, mid_set, mid_getn, mid_setn, bt_mid, Option.bind_some, Bool.not_true, Bool.not_false, Bool.false_eq_true, Bool.true_eq_false, beq_self_eq_true, bne_self_eq_false, Int.toNat_natCast]
        exact fin (by rw [hpr]; simp [e])
theorem QcM : ∀ (r p : List Mov) (k : Nat), MvI p → (∀ m ∈ r, Sz m.2.1) → p.length + r.length ≤ 1000000 → r.length < k → Qy.l2 NN k (p ++ r) p.length = some (movF p r && decide ((p ++ r).length ≤ 40)) := by
  intro r
  induction r with
  | nil =>
    intro p k _ _ _ hk
    obtain ⟨k, rfl⟩ : ∃ j, k = j + 1 := ⟨k - 1, by omega⟩
    have e : decide ((p.length : Int) ≤ 40) = decide (p.length ≤ 40) := by congr 1; exact propext (by omega)
    simp [Qy.l2, Qy.g2, movF, e]
  | cons m r ih =>
    intro p k hI hs hb hk
    simp only [List.length_cons] at hb hk
    obtain ⟨k, rfl⟩ : ∃ j, k = j + 1 := ⟨k - 1, by omega⟩
    have hl := mid_len p r m
    have c0 : (0 : Int) ≤ (p.length : Int) := by omega
    have c1 : (p.length : Int) < ((p ++ m :: r).length : Int) := by omega
    have cw := w64 (n := (p.length : Int) + 1) (by omega) (by omega)
    simp only [Qy.l2, Qy.g2, c0, c1, cw, and_self, and_true, true_and, decide_true, decide_false, if_true, if_false, mid_get, mid_set, mid_getn, mid_setn, bt_mid, Option.bind_some, Bool.not_true, Bool.not_false, Bool.false_eq_true, Bool.true_eq_false, beq_self_eq_true, bne_self_eq_false, Int.toNat_natCast, Qbz, QbM _ (hs m (by simp)), Qbi]
    by_cases hm : movB m = true
    rotate_left
    · have e : movF p (m :: r) = false := by simp only [movF]; cases q : movB m; rfl; exact absurd q hm
      rw [e]
      unfold movB at hm
      simp only [Bool.and_eq_true, Bool.not_eq_true', decide_eq_false_iff_not, not_and] at hm
      by_cases h1 : inB m.1 0 10000000 = true
      · by_cases h2 : wordB m.2.1 = true
        · by_cases h3 : inB m.2.2 (-1000) 1000 = true
          · have h4 : m.2.2 = 0 := by have := hm ⟨⟨h1, h2⟩, h3⟩; omega
            simp [h1, h2, h3, h4]
          · simp [h1, h2, h3]
        · simp [h1, h2]
      · simp [h1]
    have hm' := hm
    unfold movB at hm'
    simp only [Bool.and_eq_true, Bool.not_eq_true', decide_eq_false_iff_not] at hm'
    obtain ⟨⟨⟨h1, h2⟩, h3⟩, h4⟩ := hm'
    have h4' : (m.2.2 == 0) = false := by simpa using h4
    simp only [h1, h2, h3, h4', and_self, and_true, true_and, decide_true, decide_false, if_true, if_false, mid_get, mid_set, mid_getn, mid_setn, bt_mid, Option.bind_some, Bool.not_true, Bool.not_false, Bool.false_eq_true, Bool.true_eq_false, beq_self_eq_true, bne_self_eq_false, Int.toNat_natCast]
    have fin : prevM p m.1 = true → ((QA.f (p ++ m :: r) m.2.1 ((p.length : Int) + 1)).bind fun r4 => if (decide (r4 < 0)) = true then some false else Qy.l2 NN k (p ++ m :: r) ((p.length : Int) + 1)) = some (movF p (m :: r) && decide ((p ++ m :: r).length ≤ 40)) := fun hp => by
      obtain ⟨q1, q2⟩ := mvi_snoc hI hm hp
      have hpe := Qb9 (p ++ [m]) r m.2.1 q1.ok (by simp; omega)
      rw [mid_snoc, snoc_len] at hpe
      rw [hpe]
      have := ih (p ++ [m]) k q1 (fun x hx => hs x (by simp [hx])) (by simp; omega) (by omega)
      rw [mid_snoc, snoc_len] at this
      simp only [movF, hm, hp, Bool.true_and, Option.bind_some, this]
      by_cases e : peopS (p ++ [m]) m.2.1 < 0 <;> simp [e]
    rcases last_cases p with hp | ⟨q, y, hp⟩
    · have n1 : ¬ (0 : Int) < (p.length : Int) := by rw [hp]; simp
      simp only [n1, and_self, and_true, true_and, decide_true, decide_false, if_true, if_false, mid_get, mid_set, mid_getn, mid_setn, bt_mid, Option.bind_some, Bool.not_true, Bool.not_false, Bool.false_eq_true, Bool.true_eq_false, beq_self_eq_true, bne_self_eq_false, Int.toNat_natCast]
      exact fin (by rw [hp]; rfl)
    · have hpl : (p.length : Int) - 1 = (q.length : Int) := by rw [hp]; simp
      have n1 : (0 : Int) < (p.length : Int) := by rw [hp]; simp
      have w1 := w64 (n := (q.length : Int)) (by omega) (by omega)
      have q0 : (0 : Int) ≤ (q.length : Int) := by omega
      have q1 : (q.length : Int) < ((p ++ m :: r).length : Int) := by omega
      have g2 : ∀ z, (p ++ m :: r).getD q.length z = y := fun z => by rw [hp, List.append_assoc, List.singleton_append, mid_getn]
      simp only [n1, hpl, w1, q0, q1, g2, and_self, and_true, true_and, decide_true, decide_false, if_true, if_false, mid_get, mid_set, mid_getn, mid_setn, bt_mid, Option.bind_some, Bool.not_true, Bool.not_false, Bool.false_eq_true, Bool.true_eq_false, beq_self_eq_true, bne_self_eq_false, Int.toNat_natCast]
      have hpr : prevM p m.1 = !decide (m.1 < y.1) := by unfold prevM; rw [hp, last_snoc]
      by_cases e : m.1 < y.1
      · have : movF p (m :: r) = false := by simp [movF, hpr, e]
        simp [e, this]
      · simp only [e, and_self, and_true, true_and, decide_true, decide_false, if_true, if_false, mid_get, mid_set, mid_getn, mid_setn, bt_mid, Option.bind_some, Bool.not_true, Bool.not_false, Bool.false_eq_true, Bool.true_eq_false, beq_self_eq_true, bne_self_eq_false, Int.toNat_natCast]
        exact fin (by rw [hpr]; simp [e])
theorem mvi_nil : MvI [] := ⟨by simp, by simp⟩
theorem QbP (xs : List Mov) (hl : xs.length ≤ 1000000) (hs : ∀ m ∈ xs, Sz m.2.1) : Qx.f xs = some (movesB xs) := by
  unfold Qx.f Qx.fn Qx.top movesB
  have := QcL xs [] NN mvi_nil hs (by simpa using hl) (NN_lt (by omega))
  rw [List.nil_append] at this
  by_cases h8 : (40 : Int) < (xs.length : Int)
  · have : ¬ xs.length ≤ 40 := by omega
    simp [h8, this]
  · have e8 : xs.length ≤ 40 := by omega
    simp only [h8, e8, and_self, and_true, true_and, decide_true, decide_false, if_true, if_false, mid_get, mid_set, mid_getn, mid_setn, bt_mid, Option.bind_some, Bool.not_true, Bool.not_false, Bool.false_eq_true, Bool.true_eq_false, beq_self_eq_true, bne_self_eq_false, Int.toNat_natCast, Bool.true_and]
    exact this
theorem QbQ (xs : List Mov) (hl : xs.length ≤ 1000000) (hs : ∀ m ∈ xs, Sz m.2.1) : Qy.f xs = some (movesB xs) := by
  unfold Qy.f Qy.fn Qy.top movesB
  have := QcM xs [] NN mvi_nil hs (by simpa using hl) (NN_lt (by omega))
  rw [List.nil_append] at this
  rw [Bool.and_comm]
  exact this
end Go.Pl

namespace Go.Pl
open Go.Ev
set_option linter.unusedVariables false
set_option linter.unusedSimpArgs false
def valB (b : Int × ByteArray × Int) : Bool := inB b.1 0 3 && wordB b.2.1 && inB b.2.2 1 1000
def addL (a : ByteArray) (s : Int) (b : Int × ByteArray × Int) : Int := if b.2.1 = a then (if b.1 = 0 then s + b.2.2 else s - b.2.2) else s
def leftOf (xs : List (Int × ByteArray × Int)) (a : ByteArray) : Int := xs.foldl (addL a) 0
theorem leftOf_snoc (p : List (Int × ByteArray × Int)) (b : Int × ByteArray × Int) (a : ByteArray) : leftOf (p ++ [b]) a = addL a (leftOf p a) b := by
  unfold leftOf; rw [List.foldl_append]; rfl
theorem valB_count {b : Int × ByteArray × Int} (h : valB b = true) : 1 ≤ b.2.2 ∧ b.2.2 ≤ 1000 ∧ 0 ≤ b.1 ∧ b.1 ≤ 3 := by
  unfold valB at h
  simp only [Bool.and_eq_true, inB_iff] at h
  omega
theorem leftOf_le (a : ByteArray) (xs : List (Int × ByteArray × Int)) (h : ∀ b ∈ xs, valB b = true) : -(1000 * (xs.length : Int)) ≤ leftOf xs a ∧ leftOf xs a ≤ 1000 * (xs.length : Int) := by
  have key : ∀ (ys : List (Int × ByteArray × Int)) (s : Int), (∀ b ∈ ys, valB b = true) → s - 1000 * (ys.length : Int) ≤ ys.foldl (addL a) s ∧ ys.foldl (addL a) s ≤ s + 1000 * (ys.length : Int) := by
    intro ys
    induction ys with
    | nil => intro s _; simp
    | cons b r ih =>
      intro s hb
      have h1 := ih (addL a s b) (fun x hx => hb x (by simp [hx]))
      have h2 := valB_count (hb b (by simp))
      simp only [List.foldl_cons, List.length_cons]
      have : s - 1000 ≤ addL a s b ∧ addL a s b ≤ s + 1000 := by
        unfold addL; split <;> (try split) <;> omega
      omega
  have := key xs 0 h
  unfold leftOf; omega
theorem Qci (xs rest : List (Int × ByteArray × Int)) (a : ByteArray) (h : ∀ b ∈ xs, valB b = true) (hl : xs.length ≤ 1000000) : QK.f (xs ++ rest) a xs.length = some (leftOf xs a) := by
  have := (fold_fix (E := fun b => valB b = true) (fun p s => (∀ b ∈ p, valB b = true) ∧ s = leftOf p a) (fun _ => addL a) some (fun k i s => QK.l3 NN k (xs ++ rest) a xs.length s i) xs ?_ ?_ 0 h ⟨by simp, rfl⟩ (by omega) NN (NN_lt (by omega))).2
  · rw [foldi_foldl] at this
    exact this
  · intro k st _
    simp [QK.l3, QK.g3]
  · intro k p b r st hx hb hI c0 c1 c2 cw g
    obtain ⟨h1, rfl⟩ := hI
    have h2 : ∀ x ∈ p ++ [b], valB x = true := fun x hx => by
      rcases List.mem_append.1 hx with h | h
      · exact h1 x h
      · rw [List.mem_singleton.1 h]; exact hb
    refine ⟨⟨h2, (leftOf_snoc p b a).symm⟩, ?_⟩
    have c3 : (p.length : Int) < ((xs ++ rest).length : Int) := by rw [List.length_append]; omega
    have g' : ∀ z, (xs ++ rest).getD p.length z = b := fun z => by rw [hx]; simp
    have bd := leftOf_le a (p ++ [b]) h2
    rw [leftOf_snoc] at bd
    have hpl : p.length ≤ 1000000 := by omega
    simp only [List.length_append, List.length_cons, List.length_nil] at bd
    simp only [QK.l3, QK.g3, c0, c1, c3, cw, and_self, and_true, true_and, decide_true, decide_false, if_true, if_false, mid_get, mid_set, mid_getn, mid_setn, bt_mid, Option.bind_some, Bool.not_true, Bool.not_false, Bool.false_eq_true, Bool.true_eq_false, beq_self_eq_true, bne_self_eq_false, Int.toNat_natCast, g', ba_beq]
    unfold addL at bd ⊢
    by_cases ha : b.2.1 = a
    · by_cases hz : b.1 = 0
      · have e := w64 (n := leftOf p a + b.2.2) (by simp only [ha, hz, if_true] at bd; omega) (by simp only [ha, hz, if_true] at bd; omega)
        simp [ha, hz, e]
      · have e := w64 (n := leftOf p a - b.2.2) (by simp only [ha, hz, if_true, if_false] at bd; omega) (by simp only [ha, hz, if_true, if_false] at bd; omega)
        simp [ha, hz, e]
    · simp [ha]
def addT (a : ByteArray) (s : List Int) (b : Int × ByteArray × Int) : List Int := if b.2.1 = a then s.set b.1.toNat (s.getD b.1.toNat 0 + b.2.2) else s
def totL (xs : List (Int × ByteArray × Int)) (a : ByteArray) : List Int := xs.foldl (addT a) [0, 0, 0, 0]
theorem totL_snoc (p : List (Int × ByteArray × Int)) (b : Int × ByteArray × Int) (a : ByteArray) : totL (p ++ [b]) a = addT a (totL p a) b := by
  unfold totL; rw [List.foldl_append]; rfl
theorem totL_shape (a : ByteArray) (xs : List (Int × ByteArray × Int)) (h : ∀ b ∈ xs, valB b = true) : ∃ t0 t1 t2 t3, totL xs a = [t0, t1, t2, t3] ∧ t0 - t1 - t2 - t3 = leftOf xs a ∧ 0 ≤ t0 ∧ 0 ≤ t1 ∧ 0 ≤ t2 ∧ 0 ≤ t3 ∧ t0 + t1 + t2 + t3 ≤ 1000 * (xs.length : Int) := by
  have key : ∀ (n : Nat) (xs : List (Int × ByteArray × Int)), xs.length = n → (∀ b ∈ xs, valB b = true) → ∃ t0 t1 t2 t3, totL xs a = [t0, t1, t2, t3] ∧ t0 - t1 - t2 - t3 = leftOf xs a ∧ 0 ≤ t0 ∧ 0 ≤ t1 ∧ 0 ≤ t2 ∧ 0 ≤ t3 ∧ t0 + t1 + t2 + t3 ≤ 1000 * (xs.length : Int) := by
    intro n
    induction n with
    | zero => intro xs hn _; obtain rfl := List.length_eq_zero_iff.1 hn; exact ⟨0, 0, 0, 0, rfl, rfl, by omega, by omega, by omega, by omega, by simp⟩
    | succ n ih =>
      intro xs hn hb
      rcases List.eq_nil_or_concat xs with rfl | ⟨p, b, rfl⟩
      · simp at hn
      simp only [List.concat_eq_append] at hn hb ⊢
      obtain ⟨t0, t1, t2, t3, e1, e2, e3, e4, e5, e6, e7⟩ := ih p (by simpa using hn) (fun x hx => hb x (by simp [hx]))
      have hv := valB_count (hb b (by simp))
      rw [totL_snoc, leftOf_snoc, e1]
      simp only [List.length_append, List.length_cons, List.length_nil]
      unfold addT addL
      by_cases ha : b.2.1 = a
      · simp only [ha, if_true]
        obtain h | h | h | h : b.1 = 0 ∨ b.1 = 1 ∨ b.1 = 2 ∨ b.1 = 3 := by omega
        · exact ⟨t0 + b.2.2, t1, t2, t3, by simp [h], by simp [h]; omega, by omega, by omega, by omega, by omega, by omega⟩
        · exact ⟨t0, t1 + b.2.2, t2, t3, by simp [h], by simp [h]; omega, by omega, by omega, by omega, by omega, by omega⟩
        · exact ⟨t0, t1, t2 + b.2.2, t3, by simp [h], by simp [h]; omega, by omega, by omega, by omega, by omega, by omega⟩
        · exact ⟨t0, t1, t2, t3 + b.2.2, by simp [h], by simp [h]; omega, by omega, by omega, by omega, by omega, by omega⟩
      · simp only [ha, if_false]
        exact ⟨t0, t1, t2, t3, rfl, by omega, by omega, by omega, by omega, by omega, by omega⟩
  exact key _ xs rfl h
theorem QcN (xs : List (Int × ByteArray × Int)) (a : ByteArray) (h : ∀ b ∈ xs, valB b = true) (hl : xs.length ≤ 1000000) : QQ.f xs a = some (totL xs a) := by
  have := (fold_fix (E := fun b => valB b = true) (fun p s => (∀ b ∈ p, valB b = true) ∧ s = totL p a) (fun _ => addT a) some (fun k i s => QQ.l3 NN k a xs xs.length i s) xs ?_ ?_ [0, 0, 0, 0] h ⟨by simp, rfl⟩ (by omega) NN (NN_lt (by omega))).2
  · rw [foldi_foldl] at this
    unfold QQ.f QQ.fn QQ.top
    rw [if_pos (by rw [room8]; omega)]
    exact this
  · intro k st _
    simp [QQ.l3, QQ.g3]
  · intro k p b r st hx hb hI c0 c1 c2 cw g
    obtain ⟨h1, rfl⟩ := hI
    have h2 : ∀ x ∈ p ++ [b], valB x = true := fun x hx => by
      rcases List.mem_append.1 hx with h | h
      · exact h1 x h
      · rw [List.mem_singleton.1 h]; exact hb
    refine ⟨⟨h2, (totL_snoc p b a).symm⟩, ?_⟩
    obtain ⟨t0, t1, t2, t3, e1, e2, e3, e4, e5, e6, e7⟩ := totL_shape a p h1
    have hpl : p.length ≤ 1000000 := by omega
    have hv := valB_count hb
    simp only [QQ.l3, QQ.g3, c0, c1, cw, and_self, and_true, true_and, decide_true, decide_false, if_true, if_false, mid_get, mid_set, mid_getn, mid_setn, bt_mid, Option.bind_some, Bool.not_true, Bool.not_false, Bool.false_eq_true, Bool.true_eq_false, beq_self_eq_true, bne_self_eq_false, Int.toNat_natCast, g, ba_beq]
    unfold addT
    by_cases ha : b.2.1 = a
    · have k1 : b.1 < ((totL p a).length : Int) := by rw [e1]; simp; omega
      have k2 : 0 ≤ (totL p a).getD b.1.toNat 0 ∧ (totL p a).getD b.1.toNat 0 ≤ 1000000000 := by
        rw [e1]
        obtain h | h | h | h : b.1 = 0 ∨ b.1 = 1 ∨ b.1 = 2 ∨ b.1 = 3 := by omega
        all_goals (rw [h]; simp; omega)
      have e := w64 (n := (totL p a).getD b.1.toNat 0 + b.2.2) (by omega) (by omega)
      simp only [ha, decide_true, if_true, hv.2.2.1, k1, and_self, e]
    · simp [ha]
theorem QbD (xs : List (Int × ByteArray × Int)) (a : ByteArray) (h : ∀ b ∈ xs, valB b = true) (hl : xs.length ≤ 1000000) : Qaf.f xs a = some (leftOf xs a) := by
  unfold Qaf.f Qaf.fn Qaf.top
  rw [QcN xs a h hl]
  obtain ⟨t0, t1, t2, t3, e1, e2, e3, e4, e5, e6, e7⟩ := totL_shape a xs h
  have w1 := w64 (n := t0 - t1) (by omega) (by omega)
  have w2 := w64 (n := t0 - t1 - t2) (by omega) (by omega)
  have w3 := w64 (n := t0 - t1 - t2 - t3) (by omega) (by omega)
  have w4 : IntKind.i64.wrap (leftOf xs a) = leftOf xs a := by rw [← e2]; exact w3
  rw [e1]
  simp [w1, w2, w3, e2, w4]
def okFrom (p : List (Int × ByteArray × Int)) : List (Int × ByteArray × Int) → Bool
  | [] => true
  | b :: r => valB b && decide (0 ≤ leftOf (p ++ [b]) b.2.1) && okFrom (p ++ [b]) r
def booksB (xs : List (Int × ByteArray × Int)) : Bool := decide (xs.length ≤ 60) && okFrom [] xs
theorem okFrom_val : ∀ (r p : List (Int × ByteArray × Int)), okFrom p r = true → ∀ b ∈ r, valB b = true := by
  intro r
  induction r with
  | nil => intro p _ b hb; cases hb
  | cons x r ih =>
    intro p h b hb
    simp only [okFrom, Bool.and_eq_true] at h
    rcases List.mem_cons.1 hb with rfl | hb
    · exact h.1.1
    · exact ih _ h.2 b hb
theorem booksB_val {xs : List (Int × ByteArray × Int)} (h : booksB xs = true) : (∀ b ∈ xs, valB b = true) ∧ xs.length ≤ 60 := by
  unfold booksB at h
  simp only [Bool.and_eq_true, decide_eq_true_eq] at h
  exact ⟨okFrom_val _ _ h.2, h.1⟩
theorem val_snoc {p : List (Int × ByteArray × Int)} {b : Int × ByteArray × Int} (h1 : ∀ x ∈ p, valB x = true) (hb : valB b = true) : ∀ x ∈ p ++ [b], valB x = true := fun x hx => by
  rcases List.mem_append.1 hx with h | h
  · exact h1 x h
  · rw [List.mem_singleton.1 h]; exact hb
theorem Qcj : ∀ (r p : List (Int × ByteArray × Int)) (k : Nat), (∀ b ∈ p, valB b = true) → (∀ b ∈ r, Sz b.2.1) → p.length + r.length ≤ 1000000 → r.length < k →
    Qj.l2 NN k (p ++ r) p.length = some (okFrom p r && decide ((p ++ r).length ≤ 60)) := by
  intro r
  induction r with
  | nil =>
    intro p k _ _ _ hk
    obtain ⟨k, rfl⟩ : ∃ j, k = j + 1 := ⟨k - 1, by omega⟩
    simp [Qj.l2, Qj.g2, okFrom]
    omega
  | cons b r ih =>
    intro p k hp hr hb hk
    simp only [List.length_cons] at hk hb
    obtain ⟨k, rfl⟩ : ∃ j, k = j + 1 := ⟨k - 1, by omega⟩
    have hm := mid_len p r b
    have c0 : (0 : Int) ≤ (p.length : Int) := by omega
    have c1 : (p.length : Int) < ((p ++ b :: r).length : Int) := by omega
    have cw := w64 (n := (p.length : Int) + 1) (by omega) (by omega)
    simp only [Qj.l2, Qj.g2, c0, c1, cw, and_self, and_true, true_and, decide_true, decide_false, if_true, if_false, mid_get, mid_set, mid_getn, mid_setn, bt_mid, Option.bind_some, Bool.not_true, Bool.not_false, Bool.false_eq_true, Bool.true_eq_false, beq_self_eq_true, bne_self_eq_false, Int.toNat_natCast, Qbi, QbM _ (hr b (by simp))]
    have hv : valB b = (inB b.1 0 3 && wordB b.2.1 && inB b.2.2 1 1000) := rfl
    simp only [okFrom]
    cases h1 : inB b.1 0 3
    · simp [hv, h1]
    cases h2 : wordB b.2.1
    · simp [hv, h2]
    cases h3 : inB b.2.2 1 1000
    · simp [hv, h3]
    have hvt : valB b = true := by rw [hv, h1, h2, h3]; rfl
    have hl := Qci (p ++ [b]) r b.2.1 (val_snoc hp hvt) (by simp; omega)
    rw [mid_snoc, snoc_len] at hl
    have := ih (p ++ [b]) k (val_snoc hp hvt) (fun x hx => hr x (by simp [hx])) (by simp; omega) (by omega)
    rw [mid_snoc, snoc_len] at this
    simp only [hl, this, hvt, and_self, and_true, true_and, decide_true, decide_false, if_true, if_false, mid_get, mid_set, mid_getn, mid_setn, bt_mid, Option.bind_some, Bool.not_true, Bool.not_false, Bool.false_eq_true, Bool.true_eq_false, beq_self_eq_true, bne_self_eq_false, Int.toNat_natCast, decide_eq_true_eq]
    by_cases hn : leftOf (p ++ [b]) b.2.1 < 0
    · have : ¬ 0 ≤ leftOf (p ++ [b]) b.2.1 := by omega
      simp [hn, this]
    · have h4 : 0 ≤ leftOf (p ++ [b]) b.2.1 := by omega
      simp [hn, h4]
theorem Qbx (xs : List (Int × ByteArray × Int)) (h : Lm OkBooking xs) : Qj.f xs = some (booksB xs) := by
  have := Qcj xs [] NN (by simp) (fun b hb => Nat.le_trans (h.2 b hb).2.1 (by omega)) (by simpa using h.1) (NN_lt (by have := h.1; omega))
  unfold Qj.f Qj.fn Qj.top booksB
  rw [Bool.and_comm]
  simpa using this
theorem Qck : ∀ (r p : List (Int × ByteArray × Int)) (k : Nat), (∀ b ∈ p, valB b = true) → (∀ b ∈ r, Sz b.2.1) → p.length + r.length ≤ 1000000 → r.length < k →
    Ql.l4 NN k (p ++ r) (p ++ r) (p ++ r).length p.length = some (okFrom p r) := by
  intro r
  induction r with
  | nil =>
    intro p k _ _ _ hk
    obtain ⟨k, rfl⟩ : ∃ j, k = j + 1 := ⟨k - 1, by omega⟩
    simp [Ql.l4, Ql.g4, okFrom]
  | cons b r ih =>
    intro p k hp hr hb hk
    simp only [List.length_cons] at hk hb
    obtain ⟨k, rfl⟩ : ∃ j, k = j + 1 := ⟨k - 1, by omega⟩
    have hm := mid_len p r b
    have c0 : (0 : Int) ≤ (p.length : Int) := by omega
    have c1 : (p.length : Int) < ((p ++ b :: r).length : Int) := by omega
    have cw := w64 (n := (p.length : Int) + 1) (by omega) (by omega)
    have c2 : (0 : Int) ≤ (p.length : Int) + 1 := by omega
    have c3 : (p.length : Int) + 1 ≤ ((p ++ b :: r).length : Int) := by omega
    have ct : (p ++ b :: r).take ((p.length : Int) + 1).toNat = p ++ [b] := by
      rw [show ((p.length : Int) + 1).toNat = (p ++ [b]).length by simp, show p ++ b :: r = (p ++ [b]) ++ r by simp, List.take_left' rfl]
    simp only [Ql.l4, Ql.g4, c0, c1, c2, c3, cw, ct, and_self, and_true, true_and, decide_true, decide_false, if_true, if_false, mid_get, mid_set, mid_getn, mid_setn, bt_mid, Option.bind_some, Bool.not_true, Bool.not_false, Bool.false_eq_true, Bool.true_eq_false, beq_self_eq_true, bne_self_eq_false, Int.toNat_natCast, Qbg, QbL _ (hr b (by simp))]
    have hv : valB b = (inB b.1 0 3 && wordB b.2.1 && inB b.2.2 1 1000) := rfl
    simp only [okFrom]
    cases h1 : inB b.1 0 3
    · simp [hv, h1]
    cases h2 : wordB b.2.1
    · simp [hv, h2]
    cases h3 : inB b.2.2 1 1000
    · simp [hv, h3]
    have hvt : valB b = true := by rw [hv, h1, h2, h3]; rfl
    have hl := QbD (p ++ [b]) b.2.1 (val_snoc hp hvt) (by simp; omega)
    have := ih (p ++ [b]) k (val_snoc hp hvt) (fun x hx => hr x (by simp [hx])) (by simp; omega) (by omega)
    rw [mid_snoc, snoc_len] at this
    simp only [hl, this, hvt, and_self, and_true, true_and, decide_true, decide_false, if_true, if_false, mid_get, mid_set, mid_getn, mid_setn, bt_mid, Option.bind_some, Bool.not_true, Bool.not_false, Bool.false_eq_true, Bool.true_eq_false, beq_self_eq_true, bne_self_eq_false, Int.toNat_natCast, decide_eq_true_eq]
    by_cases hn : leftOf (p ++ [b]) b.2.1 < 0
    · have : ¬ 0 ≤ leftOf (p ++ [b]) b.2.1 := by omega
      simp [hn, this]
    · have h4 : 0 ≤ leftOf (p ++ [b]) b.2.1 := by omega
      simp [hn, h4]
theorem Qby (xs : List (Int × ByteArray × Int)) (h : Lm OkBooking xs) : Ql.f xs = some (booksB xs) := by
  have := Qck xs [] NN (by simp) (fun b hb => Nat.le_trans (h.2 b hb).2.1 (by omega)) (by simpa using h.1) (NN_lt (by have := h.1; omega))
  unfold Ql.f Ql.fn Ql.top booksB
  simp only [List.nil_append, List.length_nil] at this
  by_cases h1 : (60 : Int) < xs.length
  · have h2 : ¬ xs.length ≤ 60 := by omega
    simp [h1, h2]
  · have h2 : xs.length ≤ 60 := by omega
    simp only [h1, h2, decide_false, Bool.false_eq_true, if_false, decide_true, Bool.true_and]
    exact this
end Go.Pl

namespace Go.Pl
open Go.Ev
set_option linter.unusedVariables false
noncomputable section
def Qbu.g5 (L5 : YD → ByteArray → Int → Int → Int → Option YC) (q : List YA) (p : ByteArray) (r : Int) (v17 : Int) (v18 : Int) : Option YC :=
 if (decide ((v18 : Int) < v17)) = true then
 if (0 : Int) ≤ (IntKind.i64.wrap (v18 + 1)) ∧ ((IntKind.i64.wrap (v18 + 1)) : Int) ≤ q.length then
 (Qaf.f (q.take ((IntKind.i64.wrap (v18 + 1)) : Int).toNat) p).bind fun r3 =>
 L5 q p (if r3 > r then r3 else r) v17 (IntKind.i64.wrap (v18 + 1))
 else
 none
 else
 some (r, 0)
def Qbu.l5 (n : Nat) : Nat → YD → ByteArray → Int → Int → Int → Option YC
 | 0 => fun _ _ _ _ _ => none
 | k + 1 => Qbu.g5 (Qbu.l5 n k)
def Qbu.top (I5 : YD → ByteArray → Int → Int → Int → Option YC) (q : List YA) (p : ByteArray) : Option YC :=
 (Ql.f q).bind fun r1 =>
 if (!r1) = false then
 (QJ.f p).bind fun r2 =>
 if (!r2) = true then
 some (0, 1)
 else
 I5 q p 0 (q.length : Int) 0
 else
 some (0, 1)
def Qbu.fn (n : Nat) (q : List YA) (p : ByteArray) : Option YC := Qbu.top (Qbu.l5 n n) q p
def Qbu.f (q : List YA) (p : ByteArray) : Option YC := Qbu.fn NN q p
end
end Go.Pl

namespace Go.Pl
open Go.Ev
set_option linter.unusedVariables false
noncomputable section
def Qbv.g5 (L5 : YD → ByteArray → Int → Int → Option YC) (q : List YA) (p : ByteArray) (r : Int) (n7 : Int) : Option YC :=
 if (decide ((n7 : Int) ≤ (q.length : Int))) = true then
 (QK.f q p n7).bind fun r3 =>
 L5 q p (if r3 > r then r3 else r) (IntKind.i64.wrap (n7 + 1))
 else
 some (r, 0)
def Qbv.l5 (n : Nat) : Nat → YD → ByteArray → Int → Int → Option YC
 | 0 => fun _ _ _ _ => none
 | k + 1 => Qbv.g5 (Qbv.l5 n k)
def Qbv.top (I5 : YD → ByteArray → Int → Int → Option YC) (q : List YA) (p : ByteArray) : Option YC :=
 (Qj.f q).bind fun r1 =>
 if (!r1) = false then
 (QP.f p).bind fun r2 =>
 if (!r2) = true then
 some (0, 1)
 else
 I5 q p 0 0
 else
 some (0, 1)
def Qbv.fn (n : Nat) (q : List YA) (p : ByteArray) : Option YC := Qbv.top (Qbv.l5 n n) q p
def Qbv.f (q : List YA) (p : ByteArray) : Option YC := Qbv.fn NN q p
end
end Go.Pl

namespace Go.Pl
open Go.Ev
set_option linter.unusedVariables false
set_option linter.unusedSimpArgs false
theorem l32Left_all (xs : List (Int × ByteArray × Int)) (a : ByteArray) (h : ∀ b ∈ xs, valB b = true) (hl : xs.length ≤ 1000000) : QK.f xs a xs.length = some (leftOf xs a) := by
  have := Qci xs [] a h hl
  rwa [List.append_nil] at this
def leftR (xs : List (Int × ByteArray × Int)) (a : ByteArray) : Int × Int := if booksB xs = true ∧ wordB a = true then (leftOf xs a, 0) else (0, 1)
theorem PiecesLeft_both (xs : List (Int × ByteArray × Int)) (a : ByteArray) (h : Lm OkBooking xs) (ha : Sm a) : Qay.f xs a = some (leftR xs a) ∧ Qaw.f xs a = some (leftR xs a) := by
  unfold leftR
  refine ⟨?_, ?_⟩
  · unfold Qay.f Qay.fn Qay.top
    rw [Qbx xs h, QbM a (Nat.le_trans ha (by omega))]
    cases hb : booksB xs
    · rfl
    cases hw : wordB a
    · rfl
    have hv := booksB_val hb
    simp only [and_self, and_true, true_and, decide_true, decide_false, if_true, if_false, mid_get, mid_set, mid_getn, mid_setn, bt_mid, Option.bind_some, Bool.not_true, Bool.not_false, Bool.false_eq_true, Bool.true_eq_false, beq_self_eq_true, bne_self_eq_false, Int.toNat_natCast]
    rw [l32Left_all xs a hv.1 (by omega)]; rfl
  · unfold Qaw.f Qaw.fn Qaw.top
    rw [Qby xs h, QbL a (Nat.le_trans ha (by omega))]
    cases hb : booksB xs
    · rfl
    cases hw : wordB a
    · rfl
    have hv := booksB_val hb
    simp only [and_self, and_true, true_and, decide_true, decide_false, if_true, if_false, mid_get, mid_set, mid_getn, mid_setn, bt_mid, Option.bind_some, Bool.not_true, Bool.not_false, Bool.false_eq_true, Bool.true_eq_false, beq_self_eq_true, bne_self_eq_false, Int.toNat_natCast]
    rw [QbD xs a hv.1 (by omega)]; rfl
def mostF (xs : List (Int × ByteArray × Int)) (a : ByteArray) (i : Nat) (st : Int) : Int := if leftOf (xs.take (i + 1)) a > st then leftOf (xs.take (i + 1)) a else st
def mostL (xs : List (Int × ByteArray × Int)) (a : ByteArray) : Int := foldi (fun i st (_ : Int × ByteArray × Int) => mostF xs a i st) 0 0 xs
end Go.Pl

namespace Go.Pl
open Go.Ev
set_option linter.unusedVariables false
noncomputable section
def Qb5.top (d0 : YD × YE × List YA) : Option Bool :=
 (Qx.f d0.1).bind fun r1 =>
 if r1 = true then
 (Qo.f d0.2.1).bind fun r2 =>
 if r2 = true then
 (Ql.f d0.2.2).bind fun r3 =>
 some r3
 else
 some false
 else
 some false
def Qb5.fn (n : Nat) (d0 : YD × YE × List YA) : Option Bool := Qb5.top d0
def Qb5.f (d0 : YD × YE × List YA) : Option Bool := Qb5.fn NN d0
end
end Go.Pl

namespace Go.Pl
open Go.Ev
set_option linter.unusedVariables false
noncomputable section
def Qb6.top (d0 : YD × YE × List YA) : Option Bool :=
 (Qy.f d0.1).bind fun r1 =>
 if r1 = true then
 (Qr.f d0.2.1).bind fun r2 =>
 if r2 = true then
 (Qj.f d0.2.2).bind fun r3 =>
 some r3
 else
 some false
 else
 some false
def Qb6.fn (n : Nat) (d0 : YD × YE × List YA) : Option Bool := Qb6.top d0
def Qb6.f (d0 : YD × YE × List YA) : Option Bool := Qb6.fn NN d0
end
end Go.Pl

namespace Go.Pl
open Go.Ev
set_option linter.unusedVariables false
set_option linter.unusedSimpArgs false
abbrev Sig := Int × Int
def sigB (m : Sig) : Bool := inB m.1 0 100000 && inB m.2 0 9 && !decide (m.2 = 8)
def prevS (p : List Sig) (t : Int) : Bool := match p.getLast? with | none => true | some y => !decide (t < y.1)
def sigF (p : List Sig) : List Sig → Bool
  | [] => true
  | m :: r => sigB m && (prevS p m.1 && sigF (p ++ [m]) r)
def sigsB (xs : List Sig) : Bool := decide (xs.length ≤ 40) && sigF [] xs
theorem Qct : ∀ (r p : List Sig) (k : Nat), p.length + r.length ≤ 1000000 → r.length < k → Qo.l4 NN k (p ++ r) (p ++ r) (p ++ r).length p.length = some (sigF p r) := by
  intro r
  induction r with
  | nil =>
    intro p k _ hk
    obtain ⟨k, rfl⟩ : ∃ j, k = j + 1 := ⟨k - 1, by omega⟩
    have e : decide ((p.length : Int) ≤ 40) = decide (p.length ≤ 40) := by congr 1; exact propext (by omega)
    simp [Qo.l4, Qo.g4, sigF, e]
  | cons m r ih =>
    intro p k hb hk
    simp only [List.length_cons] at hb hk
    obtain ⟨k, rfl⟩ : ∃ j, k = j + 1 := ⟨k - 1, by omega⟩
    have hl := mid_len p r m
    have c0 : (0 : Int) ≤ (p.length : Int) := by omega
    have c1 : (p.length : Int) < ((p ++ m :: r).length : Int) := by omega
    have cw := w64 (n := (p.length : Int) + 1) (by omega) (by omega)
    have i1 := ih (p ++ [m]) k (by simp; omega) (by omega)
    rw [mid_snoc, snoc_len] at i1
    simp only [Qo.l4, Qo.g4, c0, c1, cw, and_self, and_true, true_and, decide_true, decide_false, if_true, if_false, mid_get, mid_set, mid_getn, mid_setn, bt_mid, Option.bind_some, Bool.not_true, Bool.not_false, Bool.false_eq_true, Bool.true_eq_false, beq_self_eq_true, bne_self_eq_false, Int.toNat_natCast, Qcq, Qbg]
    by_cases hm : sigB m = true
    rotate_left
    · have e : sigF p (m :: r) = false := by simp only [sigF]; cases q : sigB m; rfl; exact absurd q hm
      rw [e]
      unfold sigB at hm
      simp only [Bool.and_eq_true, Bool.not_eq_true', decide_eq_false_iff_not, not_and] at hm
      by_cases h1 : inB m.1 0 100000 = true
      · by_cases h3 : inB m.2 0 9 = true
        · have h4 : m.2 = 8 := by have := hm ⟨h1, h3⟩; omega
          simp [h1, h3, h4]
        · simp [h1, h3]
      · simp [h1]
    have hm' := hm
    unfold sigB at hm'
    simp only [Bool.and_eq_true, Bool.not_eq_true', decide_eq_false_iff_not] at hm'
    obtain ⟨⟨h1, h3⟩, h4⟩ := hm'
    have h4' : (m.2 == 8) = false := by simpa using h4
    simp only [h1, h3, h4', and_self, and_true, true_and, decide_true, decide_false, if_true, if_false, mid_get, mid_set, mid_getn, mid_setn, bt_mid, Option.bind_some, Bool.not_true, Bool.not_false, Bool.false_eq_true, Bool.true_eq_false, beq_self_eq_true, bne_self_eq_false, Int.toNat_natCast]
    rcases last_cases p with hp | ⟨q, y, hp⟩
    · have n1 : ¬ (0 : Int) < (p.length : Int) := by rw [hp]; simp
      have hpr : prevS p m.1 = true := by rw [hp]; rfl
      simp only [n1, and_self, and_true, true_and, decide_true, decide_false, if_true, if_false, mid_get, mid_set, mid_getn, mid_setn, bt_mid, Option.bind_some, Bool.not_true, Bool.not_false, Bool.false_eq_true, Bool.true_eq_false, beq_self_eq_true, bne_self_eq_false, Int.toNat_natCast, i1, sigF, hm, hpr, Bool.true_and]
    · have hpl : (p.length : Int) - 1 = (q.length : Int) := by rw [hp]; simp
      have n1 : (0 : Int) < (p.length : Int) := by rw [hp]; simp
      have w1 := w64 (n := (q.length : Int)) (by omega) (by omega)
      have q0 : (0 : Int) ≤ (q.length : Int) := by omega
      have q1 : (q.length : Int) < ((p ++ m :: r).length : Int) := by omega
      have g2 : ∀ z, (p ++ m :: r).getD q.length z = y := fun z => by rw [hp, List.append_assoc, List.singleton_append, mid_getn]
      have hpr : prevS p m.1 = !decide (m.1 < y.1) := by unfold prevS; rw [hp, last_snoc]
      simp only [n1, hpl, w1, q0, q1, g2, and_self, and_true, true_and, decide_true, decide_false, if_true, if_false, mid_get, mid_set, mid_getn, mid_setn, bt_mid, Option.bind_some, Bool.not_true, Bool.not_false, Bool.false_eq_true, Bool.true_eq_false, beq_self_eq_true, bne_self_eq_false, Int.toNat_natCast, i1, sigF, hm, hpr, Bool.true_and]
      by_cases e : m.1 < y.1 <;> simp [e]
theorem Qcu : ∀ (r p : List Sig) (k : Nat), p.length + r.length ≤ 1000000 → r.length < k → Qr.l2 NN k (p ++ r) p.length = some (sigF p r && decide ((p ++ r).length ≤ 40)) := by
  intro r
  induction r with
  | nil =>
    intro p k _ hk
    obtain ⟨k, rfl⟩ : ∃ j, k = j + 1 := ⟨k - 1, by omega⟩
    have e : decide ((p.length : Int) ≤ 40) = decide (p.length ≤ 40) := by congr 1; exact propext (by omega)
    simp [Qr.l2, Qr.g2, sigF, e]
  | cons m r ih =>
    intro p k hb hk
    simp only [List.length_cons] at hb hk
    obtain ⟨k, rfl⟩ : ∃ j, k = j + 1 := ⟨k - 1, by omega⟩
    have hl := mid_len p r m
    have c0 : (0 : Int) ≤ (p.length : Int) := by omega
    have c1 : (p.length : Int) < ((p ++ m :: r).length : Int) := by omega
    have cw := w64 (n := (p.length : Int) + 1) (by omega) (by omega)
    have i1 := ih (p ++ [m]) k (by simp; omega) (by omega)
    rw [mid_snoc, snoc_len] at i1
    simp only [Qr.l2, Qr.g2, c0, c1, cw, and_self, and_true, true_and, decide_true, decide_false, if_true, if_false, mid_get, mid_set, mid_getn, mid_setn, bt_mid, Option.bind_some, Bool.not_true, Bool.not_false, Bool.false_eq_true, Bool.true_eq_false, beq_self_eq_true, bne_self_eq_false, Int.toNat_natCast, Qbi]
    by_cases hm : sigB m = true
    rotate_left
    · have e : sigF p (m :: r) = false := by simp only [sigF]; cases q : sigB m; rfl; exact absurd q hm
      rw [e]
      unfold sigB at hm
      simp only [Bool.and_eq_true, Bool.not_eq_true', decide_eq_false_iff_not, not_and] at hm
      by_cases h1 : inB m.1 0 100000 = true
      · by_cases h3 : inB m.2 0 9 = true
        · have h4 : m.2 = 8 := by have := hm ⟨h1, h3⟩; omega
          simp [h1, h3, h4]
        · simp [h1, h3]
      · simp [h1]
    have hm' := hm
    unfold sigB at hm'
    simp only [Bool.and_eq_true, Bool.not_eq_true', decide_eq_false_iff_not] at hm'
    obtain ⟨⟨h1, h3⟩, h4⟩ := hm'
    have h4' : (m.2 == 8) = false := by simpa using h4
    simp only [h1, h3, h4', and_self, and_true, true_and, decide_true, decide_false, if_true, if_false, mid_get, mid_set, mid_getn, mid_setn, bt_mid, Option.bind_some, Bool.not_true, Bool.not_false, Bool.false_eq_true, Bool.true_eq_false, beq_self_eq_true, bne_self_eq_false, Int.toNat_natCast]
    rcases last_cases p with hp | ⟨q, y, hp⟩
    · have n1 : ¬ (0 : Int) < (p.length : Int) := by rw [hp]; simp
      have hpr : prevS p m.1 = true := by rw [hp]; rfl
      simp only [n1, and_self, and_true, true_and, decide_true, decide_false, if_true, if_false, mid_get, mid_set, mid_getn, mid_setn, bt_mid, Option.bind_some, Bool.not_true, Bool.not_false, Bool.false_eq_true, Bool.true_eq_false, beq_self_eq_true, bne_self_eq_false, Int.toNat_natCast, i1, sigF, hm, hpr, Bool.true_and]
    · have hpl : (p.length : Int) - 1 = (q.length : Int) := by rw [hp]; simp
      have n1 : (0 : Int) < (p.length : Int) := by rw [hp]; simp
      have w1 := w64 (n := (q.length : Int)) (by omega) (by omega)
      have q0 : (0 : Int) ≤ (q.length : Int) := by omega
      have q1 : (q.length : Int) < ((p ++ m :: r).length : Int) := by omega
      have g2 : ∀ z, (p ++ m :: r).getD q.length z = y := fun z => by rw [hp, List.append_assoc, List.singleton_append, mid_getn]
      have hpr : prevS p m.1 = !decide (m.1 < y.1) := by unfold prevS; rw [hp, last_snoc]
      simp only [n1, hpl, w1, q0, q1, g2, and_self, and_true, true_and, decide_true, decide_false, if_true, if_false, mid_get, mid_set, mid_getn, mid_setn, bt_mid, Option.bind_some, Bool.not_true, Bool.not_false, Bool.false_eq_true, Bool.true_eq_false, beq_self_eq_true, bne_self_eq_false, Int.toNat_natCast, i1, sigF, hm, hpr, Bool.true_and]
      by_cases e : m.1 < y.1 <;> simp [e]
theorem QbE (xs : List Sig) (hl : xs.length ≤ 1000000) : Qo.f xs = some (sigsB xs) := by
  unfold Qo.f Qo.fn Qo.top sigsB
  have := Qct xs [] NN (by simpa using hl) (NN_lt (by omega))
  rw [List.nil_append] at this
  by_cases h8 : (40 : Int) < (xs.length : Int)
  · have : ¬ xs.length ≤ 40 := by omega
    simp [h8, this]
  · have e8 : xs.length ≤ 40 := by omega
    simp only [h8, e8, and_self, and_true, true_and, decide_true, decide_false, if_true, if_false, mid_get, mid_set, mid_getn, mid_setn, bt_mid, Option.bind_some, Bool.not_true, Bool.not_false, Bool.false_eq_true, Bool.true_eq_false, beq_self_eq_true, bne_self_eq_false, Int.toNat_natCast, Bool.true_and]
    exact this
theorem QbF (xs : List Sig) (hl : xs.length ≤ 1000000) : Qr.f xs = some (sigsB xs) := by
  unfold Qr.f Qr.fn Qr.top sigsB
  have := Qcu xs [] NN (by simpa using hl) (NN_lt (by omega))
  rw [List.nil_append] at this
  rw [Bool.and_comm]
  exact this
abbrev Dsk := List Mov × List Sig × List (Int × ByteArray × Int)
def deskB (d : Dsk) : Bool := movesB d.1 && (sigsB d.2.1 && booksB d.2.2)
end Go.Pl

namespace Go.Pl
open Go.Ev
set_option linter.unusedVariables false
set_option linter.unusedSimpArgs false
abbrev Ctl := Bool × Bool × Bool × Bool × Bool × Int
def giveC : Ctl → Int → Option Ctl
  | (a, b, r, h, s, d), i =>
    if i = 0 then some (if a = true then (false, b, false, false, s, d) else (true, b, r, h, s, d))
    else if i = 1 then some (if b = true then (a, false, false, false, s, d) else (a, true, r, h, s, d))
    else if i = 2 then (if (a && b && !s) = true then some (a, b, true, false, s, 0) else none)
    else if i = 3 then some (a, b, false, false, s, d)
    else if i = 4 then (if (r && !h) = true then some (a, b, r, true, s, d) else none)
    else if i = 5 then (if h = true then some (a, b, r, false, s, d) else none)
    else if i = 6 then some (a, b, false, false, true, d)
    else if i = 7 then some (a, b, r, h, s, 0)
    else if i = 8 then some (if 3 < d + 1 then (a, b, false, false, s, 4) else (a, b, r, h, s, d + 1))
    else (if (s && !a && !b) = true then some (a, b, r, h, false, d) else none)
def tkC : Ctl → Ctl
  | (a, b, r, h, s, d) => if 3 < d + 1 then (a, b, false, false, s, 4) else (a, b, r, h, s, d + 1)
theorem give_tk (c : Ctl) : giveC c 8 = some (tkC c) := rfl
def giveB (c : Ctl) (i : Int) : Ctl := (giveC c i).getD c
def DeadOk (c : Ctl) : Prop := 0 ≤ c.2.2.2.2.2 ∧ c.2.2.2.2.2 ≤ 4
def mayC (c : Ctl) : Bool := c.2.2.1 && !c.2.2.2.1
theorem tk_dead {c : Ctl} (h : DeadOk c) : DeadOk (tkC c) := by
  obtain ⟨a, b, r, e, s, d⟩ := c
  unfold DeadOk at h ⊢
  simp only at h
  simp only [tkC]
  by_cases h3 : 3 < d + 1
  · rw [if_pos h3]; simp
  · rw [if_neg h3]; simp only; omega
theorem give_dead {c : Ctl} (h : DeadOk c) (i : Int) : DeadOk (giveB c i) := by
  obtain ⟨a, b, r, e, s, d⟩ := c
  unfold DeadOk at h ⊢
  simp only at h
  unfold giveB giveC
  simp only
  repeat' split
  all_goals simp only [Option.getD_some, Option.getD_none]
  all_goals omega
def tkN : Nat → Ctl → Ctl
  | 0, c => c
  | n + 1, c => tkN n (tkC c)
theorem tkN_add : ∀ (m n : Nat) (c : Ctl), tkN (m + n) c = tkN n (tkN m c) := by
  intro m
  induction m with
  | zero => intro n c; rw [Nat.zero_add]; rfl
  | succ m ih => intro n c; rw [Nat.succ_add]; exact ih n (tkC c)
theorem tkN_dead : ∀ (n : Nat) {c : Ctl}, DeadOk c → DeadOk (tkN n c) := by
  intro n
  induction n with
  | zero => intro c h; exact h
  | succ n ih => intro c h; exact ih (tk_dead h)
theorem tk4 {a b r e s : Bool} {d : Int} (h0 : 0 ≤ d) (h1 : d ≤ 4) : tkN 4 (a, b, r, e, s, d) = (a, b, false, false, s, 4) := by
  have : d = 0 ∨ d = 1 ∨ d = 2 ∨ d = 3 ∨ d = 4 := by omega
  rcases this with rfl | rfl | rfl | rfl | rfl <;> rfl
theorem tk_off (a b s : Bool) : ∀ n : Nat, tkN n (a, b, false, false, s, 4) = (a, b, false, false, s, 4) := by
  intro n
  induction n with
  | zero => rfl
  | succ n ih => exact ih
theorem tkN_min {c : Ctl} (h : DeadOk c) (n : Nat) : tkN (min n 5) c = tkN n c := by
  by_cases hn : n ≤ 5
  · rw [Nat.min_eq_left hn]
  · obtain ⟨a, b, r, e, s, d⟩ := c
    rw [Nat.min_eq_right (by omega), show n = 4 + (n - 4) by omega, tkN_add, tk4 h.1 h.2, tk_off, show (5 : Nat) = 4 + 1 from rfl, tkN_add, tk4 h.1 h.2, tk_off]
def SrtF : Int → List Sig → Prop
  | _, [] => True
  | t, x :: r => t ≤ x.1 ∧ SrtF x.1 r
def atR : List Sig → Ctl → Int → Int → Ctl
  | [], c, now, t => tkN (t - now).toNat c
  | x :: r, c, now, t => if x.1 ≤ t then atR r (giveB (tkN (x.1 - now).toNat c) x.2) x.1 t else tkN (t - now).toNat c
theorem atR_step {l : List Sig} {T t : Int} (c : Ctl) (h : SrtF (T + 1) l) (ht : T + 1 ≤ t) : atR l c T t = atR l (tkC c) (T + 1) t := by
  have key : ∀ u : Int, T + 1 ≤ u → tkN (u - T).toNat c = tkN (u - (T + 1)).toNat (tkC c) := by
    intro u hu
    rw [show (u - T).toNat = (u - (T + 1)).toNat + 1 by omega]; rfl
  cases l with
  | nil => exact key t ht
  | cons x r => simp only [atR]; rw [key t ht, key x.1 h.1]
theorem atR_give (T i : Int) (r : List Sig) (c : Ctl) {t : Int} (ht : T ≤ t) : atR ((T, i) :: r) c T t = atR r (giveB c i) T t := by
  simp only [atR, ht, if_true]
  rw [show (T - T).toNat = 0 by omega]; rfl
theorem atR_now {l : List Sig} {T : Int} (c : Ctl) (h : SrtF (T + 1) l) : atR l c T T = c := by
  have h0 : (T - T).toNat = 0 := by omega
  cases l with
  | nil => simp only [atR, h0]; rfl
  | cons x r =>
    have : ¬ x.1 ≤ T := by have := h.1; omega
    simp only [atR, this, if_false, h0]; rfl
def ctlAt (l : List Sig) (t : Int) : Ctl := atR l (false, false, false, false, false, 0) 0 t
theorem sigF_srt : ∀ {r p : List Sig} {t : Int}, sigF p r = true → (∀ y, p.getLast? = some y → t ≤ y.1) → (p = [] → ∀ y r', r = y :: r' → t ≤ y.1) → SrtF t r := by
  intro r
  induction r with
  | nil => intro p t _ _ _; trivial
  | cons x r ih =>
    intro p t h hp hn
    simp only [sigF, Bool.and_eq_true] at h
    have hx : t ≤ x.1 := by
      rcases last_cases p with e | ⟨q, y, e⟩
      · exact hn e x r rfl
      · have h1 := h.2.1
        unfold prevS at h1
        rw [e, last_snoc] at h1
        simp only [Bool.not_eq_true', decide_eq_false_iff_not] at h1
        have := hp y (by rw [e, last_snoc])
        omega
    refine ⟨hx, ih h.2.2 (fun y hy => ?_) (fun e => absurd e (by simp))⟩
    rw [last_snoc] at hy
    rw [← Option.some.inj hy]; omega
theorem sigF_mem : ∀ {r p : List Sig}, sigF p r = true → ∀ m ∈ r, sigB m = true := by
  intro r
  induction r with
  | nil => intro p _ m hm; cases hm
  | cons x r ih =>
    intro p h m hm
    simp only [sigF, Bool.and_eq_true] at h
    rcases List.mem_cons.1 hm with rfl | hm
    · exact h.1
    · exact ih h.2.2 m hm
theorem sigsB_iff {l : List Sig} (h : sigsB l = true) : l.length ≤ 40 ∧ SrtF 0 l ∧ ∀ m ∈ l, (0 ≤ m.1 ∧ m.1 ≤ 100000) ∧ (0 ≤ m.2 ∧ m.2 ≤ 9) ∧ m.2 ≠ 8 := by
  unfold sigsB at h
  simp only [Bool.and_eq_true, decide_eq_true_eq] at h
  have hm := sigF_mem h.2
  have hk : ∀ m ∈ l, (0 ≤ m.1 ∧ m.1 ≤ 100000) ∧ (0 ≤ m.2 ∧ m.2 ≤ 9) ∧ m.2 ≠ 8 := fun m h1 => by
    have := hm m h1
    unfold sigB at this
    simp only [Bool.and_eq_true, inB_iff, Bool.not_eq_true', decide_eq_false_iff_not] at this
    exact ⟨this.1.1, this.1.2, this.2⟩
  refine ⟨h.1, sigF_srt h.2 (fun y hy => by simp at hy) (fun _ y r' e => ?_), hk⟩
  exact (hk y (by rw [e]; simp)).1.1
def addZ (z : ByteArray) (t s : Int) (m : Mov) : Int := if m.2.1 = z ∧ m.1 ≤ t then s + m.2.2 else s
def peopT (xs : List Mov) (z : ByteArray) (t : Int) : Int := xs.foldl (addZ z t) 0
def nearB (z : ByteArray) (t : Int) (m : Mov) : Bool := decide (m.2.1 = z) && (decide (m.1 ≤ t) && decide (t - m.1 < 30000))
def clrB (xs : List Mov) (z : ByteArray) (t : Int) : Bool := xs.all (fun m => !nearB z t m) && decide (peopT xs z t = 0)
def upN (t : Int) : List Mov → Nat
  | [] => 0
  | m :: r => if m.1 ≤ t then upN t r + 1 else 0
theorem upN_le (t : Int) : ∀ xs : List Mov, upN t xs ≤ xs.length := by
  intro xs
  induction xs with
  | nil => simp [upN]
  | cons m r ih => simp only [upN, List.length_cons]; split <;> omega
def SrtM (xs : List Mov) : Prop := xs.Pairwise fun a b => a.1 ≤ b.1
theorem upN_split (t : Int) : ∀ (xs : List Mov), SrtM xs → (∀ m ∈ xs.take (upN t xs), m.1 ≤ t) ∧ ∀ m ∈ xs.drop (upN t xs), t < m.1 := by
  intro xs
  induction xs with
  | nil => intro _; simp
  | cons m r ih =>
    intro h
    have h' := List.pairwise_cons.1 h
    have i := ih h'.2
    by_cases hm : m.1 ≤ t
    · simp only [upN, hm, if_true, List.take_succ_cons, List.drop_succ_cons]
      refine ⟨fun x hx => ?_, i.2⟩
      rcases List.mem_cons.1 hx with rfl | hx
      · exact hm
      · exact i.1 x hx
    · simp only [upN, hm, if_false, List.take_zero, List.drop_zero]
      refine ⟨by simp, fun x hx => ?_⟩
      rcases List.mem_cons.1 hx with rfl | hx
      · omega
      · have := h'.1 x hx; omega
theorem addZ_in (z : ByteArray) (t : Int) : ∀ (xs : List Mov) (s : Int), (∀ m ∈ xs, m.1 ≤ t) → xs.foldl (addZ z t) s = xs.foldl (addP z) s := by
  intro xs
  induction xs with
  | nil => intro s _; rfl
  | cons m r ih =>
    intro s h
    have := h m (by simp)
    simp only [List.foldl_cons]
    rw [show addZ z t s m = addP z s m by unfold addZ addP; simp [this]]
    exact ih _ (fun x hx => h x (by simp [hx]))
theorem addZ_out (z : ByteArray) (t : Int) : ∀ (xs : List Mov) (s : Int), (∀ m ∈ xs, t < m.1) → xs.foldl (addZ z t) s = s := by
  intro xs
  induction xs with
  | nil => intro s _; rfl
  | cons m r ih =>
    intro s h
    have := h m (by simp)
    have n : ¬ m.1 ≤ t := by omega
    simp only [List.foldl_cons]
    rw [show addZ z t s m = s by unfold addZ; simp [n]]
    exact ih _ (fun x hx => h x (by simp [hx]))
theorem peopT_up {xs : List Mov} (h : SrtM xs) (z : ByteArray) (t : Int) : peopT xs z t = peopS (xs.take (upN t xs)) z := by
  obtain ⟨h1, h2⟩ := upN_split t xs h
  unfold peopT peopS
  conv => lhs; rw [← List.take_append_drop (upN t xs) xs]
  rw [List.foldl_append, addZ_in z t _ _ h1, addZ_out z t _ _ h2]
theorem near_up {xs : List Mov} (h : SrtM xs) (z : ByteArray) (t : Int) : xs.all (fun m => !nearB z t m) = (xs.take (upN t xs)).all (fun m => !(decide (m.2.1 = z) && decide (t < m.1 + 30000))) := by
  obtain ⟨h1, h2⟩ := upN_split t xs h
  conv => lhs; rw [← List.take_append_drop (upN t xs) xs]
  rw [List.all_append]
  have e2 : (xs.drop (upN t xs)).all (fun m => !nearB z t m) = true := by
    rw [List.all_eq_true]
    intro m hm
    have n : ¬ m.1 ≤ t := by have := h2 m hm; omega
    simp [nearB, n]
  rw [e2, Bool.and_true, Bool.eq_iff_iff, List.all_eq_true, List.all_eq_true]
  refine forall_congr' fun m => forall_congr' fun hm => ?_
  have a1 := h1 m hm
  have e : decide (t - m.1 < 30000) = decide (t < m.1 + 30000) := by congr 1; exact propext (by omega)
  unfold nearB
  rw [e, decide_eq_true a1, Bool.true_and]
theorem movF_srt : ∀ {r p : List Mov}, MvI p → SrtM p → movF p r = true → SrtM (p ++ r) ∧ ∀ m ∈ r, movB m = true := by
  intro r
  induction r with
  | nil => intro p _ hs _; rw [List.append_nil]; exact ⟨hs, fun m hm => by cases hm⟩
  | cons m r ih =>
    intro p hI hs h
    simp only [movF, Bool.and_eq_true] at h
    obtain ⟨j1, j2⟩ := mvi_snoc hI h.1 h.2.1
    have hs' : SrtM (p ++ [m]) := by
      unfold SrtM
      rw [List.pairwise_append]
      refine ⟨hs, by simp, fun a ha b hb => ?_⟩
      rw [List.mem_singleton.1 hb]; exact j2 a (by simp [ha])
    have i := ih j1 hs' h.2.2.2
    rw [List.append_assoc, List.singleton_append] at i
    refine ⟨i.1, fun x hx => ?_⟩
    rcases List.mem_cons.1 hx with rfl | hx
    · exact h.1
    · exact i.2 x hx
theorem movesB_iff {xs : List Mov} (h : movesB xs = true) : xs.length ≤ 40 ∧ SrtM xs ∧ ∀ m ∈ xs, movB m = true := by
  unfold movesB at h
  simp only [Bool.and_eq_true, decide_eq_true_eq] at h
  have := movF_srt mvi_nil (by simp [SrtM]) h.2
  rw [List.nil_append] at this
  exact ⟨h.1, this⟩
end Go.Pl

namespace Go.Pl
open Go.Ev
set_option linter.unusedVariables false
set_option linter.unusedSimpArgs false
theorem QbA (c : Ctl) (i : Int) (h : DeadOk c) (h0 : 0 ≤ i ∧ i ≤ 9) : Qap.f c i = some (match giveC c i with | some y => (y, 0) | none => ((false, false, false, false, false, 0), 5)) := by
  obtain ⟨a, b, r, e, s, d⟩ := c
  have hd : 0 ≤ d ∧ d ≤ 4 := h
  have w := w64 (n := d + 1) (by omega) (by omega)
  have hi : i = 0 ∨ i = 1 ∨ i = 2 ∨ i = 3 ∨ i = 4 ∨ i = 5 ∨ i = 6 ∨ i = 7 ∨ i = 8 ∨ i = 9 := by omega
  unfold Qap.f Qap.fn Qap.top Qbb.f Qbb.fn Qbb.top giveC
  rcases hi with rfl | rfl | rfl | rfl | rfl | rfl | rfl | rfl | rfl | rfl
  case inr.inr.inr.inr.inr.inr.inr.inr.inl =>
    simp only [w]
    by_cases h3 : 3 < d + 1
    · have h4 : d + 1 = 4 ∨ d + 1 = 5 := by omega
      rcases h4 with h4 | h4 <;> simp [h4]
    · have h4 : ¬ 4 < d + 1 := by omega
      simp [h3, h4]
  all_goals cases a <;> cases b <;> cases r <;> cases e <;> cases s <;> rfl
theorem Qcl (c : Ctl) (i : Int) (h : DeadOk c) (h0 : 0 ≤ i ∧ i ≤ 9) : ∃ y : Ctl × Bool, QaL.f c i = some y ∧ y.2 = (giveC c i).isSome ∧ y.1 = giveB c i := by
  obtain ⟨a, b, r, e, s, d⟩ := c
  have hd : 0 ≤ d ∧ d ≤ 4 := h
  have w := w64 (n := d + 1) (by omega) (by omega)
  have hi : i = 0 ∨ i = 1 ∨ i = 2 ∨ i = 3 ∨ i = 4 ∨ i = 5 ∨ i = 6 ∨ i = 7 ∨ i = 8 ∨ i = 9 := by omega
  unfold QaL.f QaL.fn QaL.top Qa2.f Qa2.fn Qa2.top giveB giveC
  rcases hi with rfl | rfl | rfl | rfl | rfl | rfl | rfl | rfl | rfl | rfl
  case inr.inr.inr.inr.inr.inr.inr.inr.inl =>
    simp only [w]
    have hd5 : d = 0 ∨ d = 1 ∨ d = 2 ∨ d = 3 ∨ d = 4 := by omega
    rcases hd5 with rfl | rfl | rfl | rfl | rfl <;> exact ⟨_, rfl, rfl, rfl⟩
  all_goals cases a <;> cases b <;> cases r <;> cases e <;> cases s <;> exact ⟨_, rfl, rfl, rfl⟩
theorem QcY (c : Ctl) : Qa9.f c = some (mayC c) := by
  obtain ⟨a, b, r, e, s, d⟩ := c
  cases r <;> rfl
theorem QcO (a1 a2 a3 a4 a5 : Bool) (a6 : Int) : ∀ (n : Nat) (c : Ctl) (k : Nat), DeadOk c → n ≤ 1000 → n < k → QH.l2 NN k n c a1 a2 a3 a4 a5 a6 = some (tkN n c) := by
  intro n
  induction n with
  | zero =>
    intro c k _ _ hk
    obtain ⟨k, rfl⟩ : ∃ j, k = j + 1 := ⟨k - 1, by omega⟩
    simp [QH.l2, QH.g2, tkN]
  | succ n ih =>
    intro c k hc hn hk
    obtain ⟨k, rfl⟩ : ∃ j, k = j + 1 := ⟨k - 1, by omega⟩
    obtain ⟨y, e1, e2, e3⟩ := Qcl c 8 hc (by omega)
    have c0 : (0 : Int) < ((n + 1 : Nat) : Int) := by omega
    have w := w64 (n := ((n + 1 : Nat) : Int) - 1) (by omega) (by omega)
    have e4 : giveB c 8 = tkC c := rfl
    rw [e4] at e3
    simp only [QH.l2, QH.g2, c0, w, e1, e3, and_self, and_true, true_and, decide_true, decide_false, if_true, if_false, mid_get, mid_set, mid_getn, mid_setn, bt_mid, Option.bind_some, Bool.not_true, Bool.not_false, Bool.false_eq_true, Bool.true_eq_false, beq_self_eq_true, bne_self_eq_false, Int.toNat_natCast]
    rw [show ((n + 1 : Nat) : Int) - 1 = (n : Int) by omega]
    exact ih _ k (tk_dead hc) (by omega) (by omega)
theorem Qb2 (c : Ctl) {n : Int} (hc : DeadOk c) (h0 : 0 ≤ n) : QH.f c n = some (tkN n.toNat c) := by
  unfold QH.f QH.fn QH.top
  have e : (if 5 < n then 5 else n) = ((min n.toNat 5 : Nat) : Int) := by split <;> omega
  rw [e, QcO _ _ _ _ _ _ _ _ _ hc (by omega) (NN_lt (by omega)), tkN_min hc]
theorem Qda (t : Int) (ht : 0 ≤ t ∧ t ≤ 1000000) (a1 a2 a3 a4 a5 : Bool) (a6 : Int) : ∀ (r p : List Sig) (now : Int) (c : Ctl) (ref : List Int) (k : Nat), p.length + r.length ≤ 1000000 → r.length < k → DeadOk c → 0 ≤ now → now ≤ t → SrtF now r → (∀ m ∈ r, (0 ≤ m.1 ∧ m.1 ≤ 100000) ∧ (0 ≤ m.2 ∧ m.2 ≤ 9)) → ref.length ≤ p.length →
    ∃ q, QN.l4 NN k (p ++ r) t now p.length a1 a2 a3 a4 a5 a6 c ref = some (atR r c now t, q) := by
  intro r
  induction r with
  | nil =>
    intro p now c ref k _ hk hc hn hnt _ _ _
    obtain ⟨k, rfl⟩ : ∃ j, k = j + 1 := ⟨k - 1, by omega⟩
    have w := w64 (n := t - now) (by omega) (by omega)
    refine ⟨ref, ?_⟩
    simp only [List.append_nil, QN.l4, QN.g4, Int.lt_irrefl, w, and_self, and_true, true_and, decide_true, decide_false, if_true, if_false, mid_get, mid_set, mid_getn, mid_setn, bt_mid, Option.bind_some, Bool.not_true, Bool.not_false, Bool.false_eq_true, Bool.true_eq_false, beq_self_eq_true, bne_self_eq_false, Int.toNat_natCast]
    rw [Qb2 c hc (by omega)]; rfl
  | cons m r ih =>
    intro p now c ref k hl hk hc hn hnt hs hm hr
    simp only [List.length_cons] at hl hk
    obtain ⟨k, rfl⟩ : ∃ j, k = j + 1 := ⟨k - 1, by omega⟩
    have hmm := hm m (by simp)
    have hln := mid_len p r m
    have c0 : (0 : Int) ≤ (p.length : Int) := by omega
    have c1 : (p.length : Int) < ((p ++ m :: r).length : Int) := by omega
    have cw := w64 (n := (p.length : Int) + 1) (by omega) (by omega)
    have w := w64 (n := t - now) (by omega) (by omega)
    have w2 := w64 (n := m.1 - now) (by omega) (by omega)
    have hs1 := hs.1
    by_cases h : m.1 ≤ t
    · have hd := tkN_dead (m.1 - now).toNat hc
      obtain ⟨y, e1, e2, e3⟩ := Qcl (tkN (m.1 - now).toNat c) m.2 hd hmm.2
      have st : ∀ ref' : List Int, ref'.length ≤ (p ++ [m]).length → ∃ q, QN.l4 NN k (p ++ m :: r) t m.1 ((p.length : Int) + 1) a1 a2 a3 a4 a5 a6 (giveB (tkN (m.1 - now).toNat c) m.2) ref' = some (atR r (giveB (tkN (m.1 - now).toNat c) m.2) m.1 t, q) := by
        intro ref' hr'
        have i := ih (p ++ [m]) m.1 (giveB (tkN (m.1 - now).toNat c) m.2) ref' k (by simp; omega) (by omega) (give_dead hd _) (by omega) h hs.2 (fun x hx => hm x (by simp [hx])) hr'
        rwa [mid_snoc, snoc_len] at i
      simp only [QN.l4, QN.g4, c0, c1, cw, w2, h, and_self, and_true, true_and, decide_true, decide_false, if_true, if_false, mid_get, mid_set, mid_getn, mid_setn, bt_mid, Option.bind_some, Bool.not_true, Bool.not_false, Bool.false_eq_true, Bool.true_eq_false, beq_self_eq_true, bne_self_eq_false, Int.toNat_natCast, atR]
      rw [Qb2 c hc (by omega)]
      simp only [Option.bind_some, e1]
      by_cases hy : y.2 = true
      · rw [if_pos hy, e3]
        exact st ref (by simp; omega)
      · rw [if_neg hy]
        have hg : giveB (tkN (m.1 - now).toNat c) m.2 = tkN (m.1 - now).toNat c := by
          unfold giveB
          rw [e2] at hy
          cases hq : giveC (tkN (m.1 - now).toNat c) m.2 with
          | none => rfl
          | some z => rw [hq] at hy; simp at hy
        have i := st (ref ++ [(p.length : Int)]) (by simp; omega)
        rw [hg] at i ⊢
        rw [if_pos (by rw [room8]; simp; omega)]
        exact i
    · refine ⟨ref, ?_⟩
      simp only [QN.l4, QN.g4, c0, c1, w, h, and_self, and_true, true_and, decide_true, decide_false, if_true, if_false, mid_get, mid_set, mid_getn, mid_setn, bt_mid, Option.bind_some, Bool.not_true, Bool.not_false, Bool.false_eq_true, Bool.true_eq_false, beq_self_eq_true, bne_self_eq_false, Int.toNat_natCast, atR]
      rw [Qb2 c hc (by omega)]; rfl
theorem ctl0_dead : DeadOk ((false, false, false, false, false, 0) : Ctl) := by simp [DeadOk]
theorem Qcr {l : List Sig} (h : sigsB l = true) {t : Int} (ht : 0 ≤ t ∧ t ≤ 1000000) : ∃ q, QN.f l t = some (ctlAt l t, q) := by
  obtain ⟨h1, h2, h3⟩ := sigsB_iff h
  have := Qda t ht false false false false false 0 l [] 0 (false, false, false, false, false, 0) [] NN (by simp; omega) (NN_lt (by omega)) ctl0_dead (by omega) ht.1 h2 (fun m hm => ⟨(h3 m hm).1, (h3 m hm).2.1⟩) (by simp)
  exact this
theorem QcP (xs : List Mov) (z : ByteArray) (t : Int) (h : ∀ m ∈ xs, movB m = true) (hl : xs.length ≤ 1000000) : QB.f xs z t = some (peopT xs z t) := by
  have := (fold_fix (E := fun m : Mov => movB m = true) (fun p st => -(1000 * (p.length : Int)) ≤ st ∧ st ≤ 1000 * (p.length : Int)) (fun _ => addZ z t) (fun st => some st) (fun k i st => QB.l3 NN k z t st xs xs.length i) xs ?_ ?_ 0 h (by simp) (by omega) NN (NN_lt (by omega))).2
  · rw [foldi_foldl] at this
    exact this
  · intro k st _
    simp [QB.l3, QB.g3]
  · intro k p m r st hx hm hI c0 c1 c2 cw g
    have hb := movB_iff hm
    have hp : p.length ≤ 1000000 := by omega
    have w1 := w64 (n := st + m.2.2) (by omega) (by omega)
    refine ⟨by unfold addZ; rw [List.length_append, List.length_singleton]; split <;> omega, ?_⟩
    simp only [QB.l3, QB.g3, c0, c1, cw, and_self, and_true, true_and, decide_true, decide_false, if_true, if_false, mid_get, mid_set, mid_getn, mid_setn, bt_mid, Option.bind_some, Bool.not_true, Bool.not_false, Bool.false_eq_true, Bool.true_eq_false, beq_self_eq_true, bne_self_eq_false, Int.toNat_natCast, g, ba_beq, w1]
    unfold addZ
    by_cases e : m.2.1 = z <;> by_cases q : m.1 ≤ t <;> simp [e, q]
theorem Qcm (xs : List Mov) (z : ByteArray) {t : Int} (ht : 0 ≤ t ∧ t ≤ 1000000000) (h : ∀ m ∈ xs, movB m = true) (hl : xs.length ≤ 1000000) : QX.f xs z t = some (clrB xs z t) := by
  have := all_loop (E := fun m : Mov => movB m = true) (fun m => !nearB z t m) (fun v => some (decide (peopT xs z t = 0))) (fun k v i => QX.l2 NN k xs z t v v.length i) ?_ ?_ xs h (by omega) NN (NN_lt (by omega))
  · unfold QX.f QX.fn QX.top clrB
    rw [this]
    cases xs.all (fun m => !nearB z t m) <;> rfl
  · intro k p
    simp only [QX.l2, QX.g2, Int.lt_irrefl, and_self, and_true, true_and, decide_true, decide_false, if_true, if_false, mid_get, mid_set, mid_getn, mid_setn, bt_mid, Option.bind_some, Bool.not_true, Bool.not_false, Bool.false_eq_true, Bool.true_eq_false, beq_self_eq_true, bne_self_eq_false, Int.toNat_natCast]
    rw [QcP xs z t h hl]
    rfl
  · intro k p m r hm c0 c1 cw
    have hb := movB_iff hm
    have w1 := w64 (n := t - m.1) (by omega) (by omega)
    simp only [QX.l2, QX.g2, c0, c1, cw, and_self, and_true, true_and, decide_true, decide_false, if_true, if_false, mid_get, mid_set, mid_getn, mid_setn, bt_mid, Option.bind_some, Bool.not_true, Bool.not_false, Bool.false_eq_true, Bool.true_eq_false, beq_self_eq_true, bne_self_eq_false, Int.toNat_natCast, w1, ba_beq, nearB]
    by_cases e : m.2.1 = z <;> by_cases q : m.1 ≤ t <;> by_cases q2 : t - m.1 < 30000 <;> simp [e, q, q2]
theorem Qcs (xs : List Mov) (zs : List ByteArray) {t : Int} (ht : 0 ≤ t ∧ t ≤ 1000000000) (h : ∀ m ∈ xs, movB m = true) (hl : xs.length ≤ 1000000) (hz : zs.length ≤ 1000000) : Qt.f xs zs t = some (zs.all (clrB xs · t)) := by
  have := all_loop (E := fun _ : ByteArray => True) (clrB xs · t) (fun v => some true) (fun k v i => Qt.l2 NN k xs t v v.length i) ?_ ?_ zs (fun _ _ => trivial) (by omega) NN (NN_lt (by omega))
  · unfold Qt.f Qt.fn Qt.top
    rw [this]
    cases zs.all (clrB xs · t) <;> rfl
  · intro k p
    simp [Qt.l2, Qt.g2]
  · intro k p z r _ c0 c1 cw
    simp only [Qt.l2, Qt.g2, c0, c1, cw, and_self, and_true, true_and, decide_true, decide_false, if_true, if_false, mid_get, mid_set, mid_getn, mid_setn, bt_mid, Option.bind_some, Bool.not_true, Bool.not_false, Bool.false_eq_true, Bool.true_eq_false, beq_self_eq_true, bne_self_eq_false, Int.toNat_natCast]
    rw [Qcm xs z ht h hl]
    cases clrB xs z t <;> rfl
theorem QcZ (t : Int) : ∀ (r p : List Mov) (k : Nat), p.length + r.length ≤ 1000000 → r.length < k → QZ.l2 NN k (p ++ r) t p.length = some ((p.length + upN t r : Nat) : Int) := by
  intro r
  induction r with
  | nil =>
    intro p k _ hk
    obtain ⟨k, rfl⟩ : ∃ j, k = j + 1 := ⟨k - 1, by omega⟩
    simp [QZ.l2, QZ.g2, upN]
  | cons m r ih =>
    intro p k hl hk
    simp only [List.length_cons] at hl hk
    obtain ⟨k, rfl⟩ : ∃ j, k = j + 1 := ⟨k - 1, by omega⟩
    have hln := mid_len p r m
    have c0 : (0 : Int) ≤ (p.length : Int) := by omega
    have c1 : (p.length : Int) < ((p ++ m :: r).length : Int) := by omega
    have cw := w64 (n := (p.length : Int) + 1) (by omega) (by omega)
    have i := ih (p ++ [m]) k (by simp; omega) (by omega)
    rw [mid_snoc, snoc_len] at i
    by_cases h : m.1 ≤ t
    · simp only [QZ.l2, QZ.g2, c0, c1, cw, h, and_self, and_true, true_and, decide_true, decide_false, if_true, if_false, mid_get, mid_set, mid_getn, mid_setn, bt_mid, Option.bind_some, Bool.not_true, Bool.not_false, Bool.false_eq_true, Bool.true_eq_false, beq_self_eq_true, bne_self_eq_false, Int.toNat_natCast, i, upN]
      congr 1
      simp only [List.length_append, List.length_singleton]; omega
    · simp only [QZ.l2, QZ.g2, c0, c1, cw, h, and_self, and_true, true_and, decide_true, decide_false, if_true, if_false, mid_get, mid_set, mid_getn, mid_setn, bt_mid, Option.bind_some, Bool.not_true, Bool.not_false, Bool.false_eq_true, Bool.true_eq_false, beq_self_eq_true, bne_self_eq_false, Int.toNat_natCast, upN]
      rfl
theorem Qc0 (xs : List Mov) (t : Int) (hl : xs.length ≤ 1000000) : QZ.f xs t = some (upN t xs : Int) := by
  have := QcZ t xs [] NN (by simpa using hl) (NN_lt (by omega))
  rw [List.nil_append] at this
  unfold QZ.f QZ.fn QZ.top
  refine this.trans ?_
  simp
theorem QcQ (z : ByteArray) (t : Int) (ht : 0 ≤ t ∧ t ≤ 1000000000) (rest : List Mov) (n : Nat) (v : Int) : ∀ (r p : List Mov) (k : Nat), p.length + r.length = n → (∀ m ∈ r, movB m = true) → QA.f (p ++ (r ++ rest)) z n = some v → n ≤ 1000000 → r.length < k → QM.l3 NN k (p ++ (r ++ rest)) z t n p.length = if r.all (fun m => !(decide (m.2.1 = z) && decide (t < m.1 + 30000))) = true then some (decide (v = 0)) else some false := by
  intro r
  induction r with
  | nil =>
    intro p k hn _ hv _ hk
    obtain ⟨k, rfl⟩ : ∃ j, k = j + 1 := ⟨k - 1, by omega⟩
    have c1 : ¬ (p.length : Int) < (n : Int) := by simp at hn; omega
    rw [List.nil_append] at hv ⊢
    simp only [QM.l3, QM.g3, c1, and_self, and_true, true_and, decide_true, decide_false, if_true, if_false, mid_get, mid_set, mid_getn, mid_setn, bt_mid, Option.bind_some, Bool.not_true, Bool.not_false, Bool.false_eq_true, Bool.true_eq_false, beq_self_eq_true, bne_self_eq_false, Int.toNat_natCast, hv, List.all_nil]
    rfl
  | cons m r ih =>
    intro p k hn hm hv hl hk
    simp only [List.length_cons] at hn hk
    obtain ⟨k, rfl⟩ : ∃ j, k = j + 1 := ⟨k - 1, by omega⟩
    rw [List.cons_append] at hv ⊢
    have hln := mid_len p (r ++ rest) m
    have hb := movB_iff (hm m (by simp))
    have c0 : (0 : Int) ≤ (p.length : Int) := by omega
    have c1 : (p.length : Int) < ((p ++ m :: (r ++ rest)).length : Int) := by omega
    have c2 : (p.length : Int) < (n : Int) := by omega
    have cw := w64 (n := (p.length : Int) + 1) (by omega) (by omega)
    have w1 := w64 (n := m.1 + 30000) (by omega) (by omega)
    have i := ih (p ++ [m]) k (by simp; omega) (fun x hx => hm x (by simp [hx])) (by rw [mid_snoc]; exact hv) hl (by omega)
    rw [mid_snoc, snoc_len] at i
    simp only [QM.l3, QM.g3, c0, c1, c2, cw, and_self, and_true, true_and, decide_true, decide_false, if_true, if_false, mid_get, mid_set, mid_getn, mid_setn, bt_mid, Option.bind_some, Bool.not_true, Bool.not_false, Bool.false_eq_true, Bool.true_eq_false, beq_self_eq_true, bne_self_eq_false, Int.toNat_natCast, w1, ba_beq, List.all_cons]
    by_cases e : m.2.1 = z
    · by_cases q : t < m.1 + 30000
      · simp [e, q]
      · simp only [e, q, and_self, and_true, true_and, decide_true, decide_false, if_true, if_false, mid_get, mid_set, mid_getn, mid_setn, bt_mid, Option.bind_some, Bool.not_true, Bool.not_false, Bool.false_eq_true, Bool.true_eq_false, beq_self_eq_true, bne_self_eq_false, Int.toNat_natCast, Bool.and_false]
        exact i
    · simp only [e, and_self, and_true, true_and, decide_true, decide_false, if_true, if_false, mid_get, mid_set, mid_getn, mid_setn, bt_mid, Option.bind_some, Bool.not_true, Bool.not_false, Bool.false_eq_true, Bool.true_eq_false, beq_self_eq_true, bne_self_eq_false, Int.toNat_natCast, Bool.false_and]
      exact i
theorem Qcd (xs : List Mov) (z : ByteArray) {t : Int} (ht : 0 ≤ t ∧ t ≤ 1000000000) (hs : SrtM xs) (h : ∀ m ∈ xs, movB m = true) (hl : xs.length ≤ 1000000) : QM.f xs z t = some (clrB xs z t) := by
  have hu := upN_le t xs
  have hpl : (xs.take (upN t xs)).length = upN t xs := by rw [List.length_take]; omega
  have hin : ∀ m ∈ xs.take (upN t xs), movB m = true := fun m hm => h m (List.mem_of_mem_take hm)
  have hsp := Qb9 (xs.take (upN t xs)) (xs.drop (upN t xs)) z hin (by omega)
  rw [List.take_append_drop, hpl, ← peopT_up hs] at hsp
  have := QcQ z t ht (xs.drop (upN t xs)) (upN t xs) (peopT xs z t) (xs.take (upN t xs)) [] NN (by rw [hpl]; simp) hin (by rw [List.nil_append, List.take_append_drop]; exact hsp) (by omega) (NN_lt (by omega))
  rw [List.nil_append, List.take_append_drop] at this
  unfold QM.f QM.fn QM.top clrB
  rw [Qc0 xs t hl, Option.bind_some, near_up hs]
  refine this.trans ?_
  cases (xs.take (upN t xs)).all (fun m => !(decide (m.2.1 = z) && decide (t < m.1 + 30000))) <;> rfl
end Go.Pl

namespace Go.Pl
open Go.Ev
set_option linter.unusedVariables false
set_option linter.unusedSimpArgs false
def ltW (a b : ByteArray) : Bool := Op.bytesLess a.toList b.toList
theorem lessL_trans : ∀ (x y z : List UInt8), Op.bytesLess x y = true → Op.bytesLess y z = true → Op.bytesLess x z = true := by
  intro x
  induction x with
  | nil =>
    intro y z h1 h2
    cases z with
    | nil => cases y <;> simp [Op.bytesLess] at h2
    | cons c z => rfl
  | cons a x ih =>
    intro y z h1 h2
    cases y with
    | nil => simp [Op.bytesLess] at h1
    | cons b y =>
      cases z with
      | nil => simp [Op.bytesLess] at h2
      | cons c z =>
        simp only [Op.bytesLess, Bool.or_eq_true, Bool.and_eq_true, decide_eq_true_eq, beq_iff_eq, UInt8.lt_iff_toNat_lt] at h1 h2 ⊢
        rcases h1 with h1 | ⟨rfl, h1⟩
        · rcases h2 with h2 | ⟨rfl, h2⟩
          · left; omega
          · left; exact h1
        · rcases h2 with h2 | ⟨rfl, h2⟩
          · left; exact h2
          · right; exact ⟨rfl, ih y z h1 h2⟩
theorem lessL_irr : ∀ (x : List UInt8), Op.bytesLess x x = false := by
  intro x
  induction x with
  | nil => rfl
  | cons a x ih => simp [Op.bytesLess, ih]
theorem lessL_tot : ∀ (x y : List UInt8), Op.bytesLess x y = true ∨ x = y ∨ Op.bytesLess y x = true := by
  intro x
  induction x with
  | nil => intro y; cases y; exact .inr (.inl rfl); exact .inl rfl
  | cons a x ih =>
    intro y
    cases y with
    | nil => exact .inr (.inr rfl)
    | cons b y =>
      simp only [Op.bytesLess, Bool.or_eq_true, Bool.and_eq_true, decide_eq_true_eq, beq_iff_eq, UInt8.lt_iff_toNat_lt, List.cons.injEq]
      by_cases h : a = b
      · subst h
        rcases ih y with h | h | h
        · exact .inl (.inr ⟨rfl, h⟩)
        · exact .inr (.inl ⟨rfl, h⟩)
        · exact .inr (.inr (.inr ⟨rfl, h⟩))
      · have h' : a.toNat ≠ b.toNat := fun e => h (UInt8.toNat_inj.1 e)
        rcases Nat.lt_or_gt_of_ne h' with h | h
        · exact .inl (.inl h)
        · exact .inr (.inr (.inl h))
theorem ltW_trans {a b c : ByteArray} (h1 : ltW a b = true) (h2 : ltW b c = true) : ltW a c = true := lessL_trans _ _ _ h1 h2
theorem ltW_irr (a : ByteArray) : ltW a a = false := lessL_irr _
theorem ltW_ne {a b : ByteArray} (h : ltW a b = true) : a ≠ b := fun e => by subst e; rw [ltW_irr] at h; cases h
theorem ltW_asym {a b : ByteArray} (h : ltW a b = true) : ltW b a = false := by
  cases h2 : ltW b a
  · rfl
  · exact absurd (ltW_trans h h2) (by rw [ltW_irr]; simp)
theorem ltW_tot (a b : ByteArray) : ltW a b = true ∨ a = b ∨ ltW b a = true := by
  rcases lessL_tot a.toList b.toList with h | h | h
  · exact .inl h
  · exact .inr (.inl (ba_toList.1 h))
  · exact .inr (.inr h)
theorem ltW_not {a b : ByteArray} (h1 : ltW a b = false) (h2 : a ≠ b) : ltW b a = true := by
  rcases ltW_tot a b with h | h | h
  · rw [h1] at h; cases h
  · exact absurd h h2
  · exact h
end Go.Pl

namespace Go.Pl
open Go.Ev
set_option linter.unusedVariables false
set_option linter.unusedSimpArgs false
def SrtW (xs : List ByteArray) : Prop := xs.Pairwise fun a b => ltW a b = true
def insW (w : ByteArray) : List ByteArray → List ByteArray
  | [] => [w]
  | a :: r => if ltW a w = true then a :: insW w r else if a = w then a :: r else w :: a :: r
theorem insW_mid {w : ByteArray} {r : List ByteArray} : ∀ {p : List ByteArray}, (∀ x ∈ p, ltW x w = true) → insW w (p ++ r) = p ++ insW w r := by
  intro p
  induction p with
  | nil => intro _; rfl
  | cons a p ih => intro h; simp only [List.cons_append, insW, h a (by simp), if_true]; rw [ih fun x hx => h x (by simp [hx])]
theorem insW_up {w : ByteArray} {r : List ByteArray} (h : ∀ x ∈ r, ltW w x = true) : insW w r = w :: r := by
  cases r with
  | nil => rfl
  | cons a r =>
    have h1 := h a (by simp)
    simp only [insW, ltW_asym h1, Bool.false_eq_true, if_false]
    rw [if_neg fun e => ltW_ne h1 e.symm]
theorem insW_here {w : ByteArray} {r : List ByteArray} : insW w (w :: r) = w :: r := by simp [insW, ltW_irr]
theorem mem_insW {w x : ByteArray} : ∀ {xs : List ByteArray}, x ∈ insW w xs ↔ x = w ∨ x ∈ xs := by
  intro xs
  induction xs with
  | nil => simp [insW]
  | cons a r ih =>
    simp only [insW]
    split
    · simp only [List.mem_cons, ih]
      constructor
      · rintro (h | h | h) <;> simp [h]
      · rintro (h | h | h) <;> simp [h]
    · split
      · rename_i h; subst h; simp
      · simp
theorem insW_srt {w : ByteArray} : ∀ {xs : List ByteArray}, SrtW xs → SrtW (insW w xs) := by
  intro xs
  induction xs with
  | nil => intro _; exact List.pairwise_singleton _ _
  | cons a r ih =>
    intro hs
    obtain ⟨h1, h2⟩ := List.pairwise_cons.1 hs
    simp only [insW]
    split
    · rename_i h
      refine List.pairwise_cons.2 ⟨fun x hx => ?_, ih h2⟩
      rcases mem_insW.1 hx with rfl | hx
      · exact h
      · exact h1 x hx
    · rename_i h
      split
      · exact hs
      · rename_i he
        have hlt : ltW w a = true := ltW_not (by simpa using h) he
        refine List.pairwise_cons.2 ⟨fun x hx => ?_, hs⟩
        rcases List.mem_cons.1 hx with rfl | hx
        · exact hlt
        · exact ltW_trans hlt (h1 x hx)
theorem insW_len (w : ByteArray) : ∀ (xs : List ByteArray), (insW w xs).length ≤ xs.length + 1 := by
  intro xs
  induction xs with
  | nil => simp [insW]
  | cons a r ih =>
    simp only [insW]
    split
    · simp only [List.length_cons]; omega
    · split <;> simp
theorem room16n {n : Nat} (h : n ≤ 2000000) : n < room 16 := by rw [room16]; omega
def hitW (w : ByteArray) (xs : List ByteArray) (i : Nat) (a : ByteArray) : List ByteArray := if a = w then xs else xs.take i ++ w :: xs.drop i
theorem insW_first (w : ByteArray) : ∀ (r p : List ByteArray), p ++ insW w r = (firstOf (fun a => !ltW a w) p.length r).elim (p ++ r ++ [w]) (fun x => hitW w (p ++ r) x.1 x.2) := by
  intro r
  induction r with
  | nil => intro p; simp [insW, firstOf]
  | cons l r ih =>
    intro p
    have := ih (p ++ [l])
    simp only [insW, firstOf]
    by_cases h : ltW l w = true
    · simp only [h, if_true, Bool.not_true, Bool.false_eq_true, if_false]
      simp only [List.length_append, List.length_singleton, List.append_assoc, List.singleton_append] at this ⊢
      exact this
    · simp only [Bool.not_eq_true] at h
      simp only [h, Bool.false_eq_true, if_false, Bool.not_false, if_true, Option.elim, hitW]
      by_cases h2 : l = w <;> simp [h2]
theorem Qca (xs : List ByteArray) (w : ByteArray) (h : xs.length ≤ 1000000) : Qm.f xs w = some (insW w xs) := by
  have := find_loop (E := fun _ => True) (fun a => !ltW a w) (fun i a => some (hitW w xs i a)) (fun p => some (p ++ [w])) (fun k p i => if p = xs then Qm.l2 NN k w i p else (firstOf (fun a => !ltW a w) i.toNat (p.drop i.toNat)).elim (some (p ++ [w])) (fun x => some (hitW w xs x.1 x.2))) ?_ ?_ xs (fun _ _ => trivial) (by omega) NN (NN_lt (by omega))
  · rw [if_pos rfl] at this
    unfold Qm.f Qm.fn Qm.top
    rw [this]
    have h2 := insW_first w xs []
    simp only [List.nil_append, List.length_nil] at h2
    rw [h2]
    cases firstOf (fun a => !ltW a w) 0 xs <;> rfl
  · intro k p
    by_cases hp : p = xs
    · subst hp
      rw [if_pos rfl]
      have q0 : (0 : Int) ≤ (p.length : Int) := by omega
      simp only [Qm.l2, Qm.g2, Int.lt_irrefl, and_self, and_true, true_and, decide_true, decide_false, if_true, if_false, mid_get, mid_set, mid_getn, mid_setn, bt_mid, Option.bind_some, Bool.not_true, Bool.not_false, Bool.false_eq_true, Bool.true_eq_false, beq_self_eq_true, bne_self_eq_false, Int.toNat_natCast, Int.le_refl, q0, List.take_length, List.drop_length, List.nil_append, List.append_nil]
      rw [if_pos (room16n (by simp; omega)), if_pos (room16n (by simp; omega)), if_pos (room16n (by simp; omega))]
    · rw [if_neg hp]; simp [firstOf]
  · intro k p l r _ c0 c1 c2 cw
    by_cases hp : p ++ l :: r = xs
    · rw [if_pos hp, if_pos hp, hp]
      have c1' : (p.length : Int) < (xs.length : Int) := by rw [← hp]; exact c1
      have g : ∀ z, xs.getD p.length z = l := fun z => by rw [← hp, mid_getn]
      have c3 : (p.length : Int) ≤ (xs.length : Int) := by omega
      simp only [Qm.l2, Qm.g2, c0, c1', c3, cw, and_self, and_true, true_and, decide_true, decide_false, if_true, if_false, mid_get, mid_set, mid_getn, mid_setn, bt_mid, Option.bind_some, Bool.not_true, Bool.not_false, Bool.false_eq_true, Bool.true_eq_false, beq_self_eq_true, bne_self_eq_false, Int.toNat_natCast, g]
      rw [show Op.bytesLess l.toList w.toList = ltW l w from rfl, ba_beq]
      cases h1 : ltW l w
      · simp only [Bool.false_eq_true, if_false, Bool.not_false, if_true, hitW, decide_eq_true_eq]
        by_cases h2 : l = w
        · simp only [h2, if_true]
        · simp only [h2, if_false, List.nil_append]
          rw [if_pos (room16n (by simp; omega)), if_pos (room16n (by simp; omega)), if_pos (room16n (by simp; omega))]
          simp
      · simp
    · rw [if_neg hp, if_neg hp]
      have t1 : ((p.length : Int) + 1).toNat = p.length + 1 := by omega
      rw [t1, Int.toNat_natCast, List.drop_left, show p ++ l :: r = (p ++ [l]) ++ r by simp, show p.length + 1 = (p ++ [l]).length by simp, List.drop_left]
      simp only [firstOf]
      by_cases h1 : ltW l w = true
      · simp only [h1, Bool.not_true, Bool.false_eq_true, if_false, List.length_append, List.length_singleton]
      · simp only [Bool.not_eq_true] at h1
        simp only [h1, Bool.not_false, if_true, Option.elim]
theorem copy_ins {α : Type} (q s : List α) (e w : α) : (copyL (q ++ s ++ [e]) (q.length + 1) q.length).set q.length w = q ++ w :: s := by
  unfold copyL
  have e1 : (q ++ s ++ [e]).drop q.length = s ++ [e] := by rw [List.append_assoc, List.drop_left]
  have e2 : (q ++ s ++ [e]).length - (q.length + 1) = s.length := by simp; omega
  have e3 : q.length + 1 + min ((q ++ s ++ [e]).length - q.length) ((q ++ s ++ [e]).length - (q.length + 1)) = (q ++ s ++ [e]).length := by simp; omega
  have e4 : ∃ h, (q ++ s ++ [e]).take (q.length + 1) = q ++ [h] := by
    cases s with
    | nil => exact ⟨e, by rw [List.append_nil, List.take_of_length_le (by simp)]⟩
    | cons y s =>
      refine ⟨y, ?_⟩
      rw [show q ++ y :: s ++ [e] = (q ++ [y]) ++ (s ++ [e]) by simp, show q.length + 1 = (q ++ [y]).length by simp, List.take_left]
  obtain ⟨h, e4⟩ := e4
  rw [e3, e2, e1, e4, List.drop_length, List.take_left]
  simp
theorem copy_len2 {α : Type} (q s : List α) (e : α) : (copyL (q ++ s ++ [e]) (q.length + 1) q.length).length = q.length + s.length + 1 := by
  have := congrArg List.length (copy_ins q s e e)
  simp only [List.length_set, List.length_append, List.length_cons] at this
  omega
theorem putWord_l (w : ByteArray) : ∀ (n : Nat) (q s : List ByteArray) (k : Nat), q.length = n → SrtW (q ++ s) → (∀ y ∈ s, ltW w y = true) → (q ++ s).length ≤ 1000000 → n < k →
    Q1.l2 NN k w (n : Int) (q ++ s) = some (insW w (q ++ s)) := by
  intro n
  induction n with
  | zero =>
    intro q s k hq hs hu hl hk
    obtain ⟨k, rfl⟩ : ∃ j, k = j + 1 := ⟨k - 1, by omega⟩
    obtain rfl := List.eq_nil_of_length_eq_zero hq
    simp only [List.nil_append] at hl ⊢
    have w1 := w64 (n := ((0 : Nat) : Int) + 1) (by omega) (by omega)
    have hc := copy_ins [] s ⟨#[]⟩ w
    have hcl := copy_len2 [] s (⟨#[]⟩ : ByteArray)
    simp only [List.nil_append, List.length_nil, Nat.zero_add] at hc hcl
    have n1 : ¬ (0 : Int) < ((0 : Nat) : Int) := by omega
    have n2 : (0 : Int) ≤ ((0 : Nat) : Int) := by omega
    have n3 : (0 : Int) ≤ ((0 : Nat) : Int) + 1 := by omega
    have n4 : ((0 : Nat) : Int) + 1 ≤ ((s ++ [(⟨#[]⟩ : ByteArray)]).length : Int) := by simp; omega
    have n5 : ((0 : Nat) : Int) ≤ ((s ++ [(⟨#[]⟩ : ByteArray)]).length : Int) := by omega
    have n6 : ((0 : Nat) : Int) < ((copyL (s ++ [(⟨#[]⟩ : ByteArray)]) 1 0).length : Int) := by rw [hcl]; omega
    have t1 : (((0 : Nat) : Int) + 1).toNat = 1 := rfl
    have hr := room16n (n := s.length + [(⟨#[]⟩ : ByteArray)].length) (by simp; omega)
    simp only [Q1.l2, Q1.g2, n1, n2, n3, n4, n5, n6, w1, t1, hr, and_self, and_true, true_and, decide_true, decide_false, if_true, if_false, mid_get, mid_set, mid_getn, mid_setn, bt_mid, Option.bind_some, Bool.not_true, Bool.not_false, Bool.false_eq_true, Bool.true_eq_false, beq_self_eq_true, bne_self_eq_false, Int.toNat_natCast]
    rw [hc, insW_up hu]
  | succ n ih =>
    intro q s k hq hs hu hl hk
    obtain ⟨k, rfl⟩ : ∃ j, k = j + 1 := ⟨k - 1, by omega⟩
    obtain ⟨q', x, rfl⟩ : ∃ q' x, q = q' ++ [x] := by
      rcases List.eq_nil_or_concat q with h | ⟨q', x, h⟩
      · rw [h] at hq; simp at hq
      · exact ⟨q', x, by rw [h]; simp⟩
    have hq' : q'.length = n := by simpa using hq
    have hll : q'.length + s.length + 1 ≤ 1000000 := by simpa [Nat.add_assoc, Nat.add_comm, Nat.add_left_comm] using hl
    have w1 := w64 (n := ((n + 1 : Nat) : Int) - 1) (by omega) (by omega)
    have w2 := w64 (n := ((n + 1 : Nat) : Int) + 1) (by omega) (by omega)
    have n1 : (0 : Int) < ((n + 1 : Nat) : Int) := by omega
    have n2 : (0 : Int) ≤ ((n + 1 : Nat) : Int) - 1 := by omega
    have n3 : ((n + 1 : Nat) : Int) - 1 < ((q' ++ [x] ++ s).length : Int) := by simp; omega
    have t1 : (((n + 1 : Nat) : Int) - 1).toNat = q'.length := by omega
    have g : ∀ z, (q' ++ [x] ++ s).getD q'.length z = x := fun z => by rw [List.append_assoc, List.singleton_append, mid_getn]
    have e1 : ((n + 1 : Nat) : Int) - 1 = (n : Int) := by omega
    simp only [Q1.l2, Q1.g2, n1, n2, n3, w1, t1, g, and_self, and_true, true_and, decide_true, decide_false, if_true, if_false, mid_get, mid_set, mid_getn, mid_setn, bt_mid, Option.bind_some, Bool.not_true, Bool.not_false, Bool.false_eq_true, Bool.true_eq_false, beq_self_eq_true, bne_self_eq_false, Int.toNat_natCast]
    rw [show Op.bytesLess x.toList w.toList = ltW x w from rfl, ba_beq]
    have hs' : SrtW (q' ++ x :: s) := by simpa using hs
    obtain ⟨p1, p2, p3⟩ := List.pairwise_append.1 hs'
    have hbelow : ∀ y ∈ q', ltW y x = true := fun y hy => p3 y hy x (by simp)
    rcases ltW_tot x w with h | h | h
    · have hne := ltW_ne h
      simp only [h, hne, decide_false, Bool.or_false, Bool.not_true, Bool.false_eq_true, if_false]
      have hc := copy_ins (q' ++ [x]) s ⟨#[]⟩ w
      have hcl := copy_len2 (q' ++ [x]) s (⟨#[]⟩ : ByteArray)
      have hqn : (q' ++ [x]).length = n + 1 := by simp [hq']
      rw [hqn] at hc hcl
      have n4 : (0 : Int) ≤ ((n + 1 : Nat) : Int) + 1 := by omega
      have n5 : ((n + 1 : Nat) : Int) + 1 ≤ ((q' ++ [x] ++ s ++ [(⟨#[]⟩ : ByteArray)]).length : Int) := by simp; omega
      have n6 : (0 : Int) ≤ ((n + 1 : Nat) : Int) := by omega
      have n7 : ((n + 1 : Nat) : Int) ≤ ((q' ++ [x] ++ s ++ [(⟨#[]⟩ : ByteArray)]).length : Int) := by omega
      have t2 : (((n + 1 : Nat) : Int) + 1).toNat = n + 1 + 1 := by omega
      have t3 : ((n + 1 : Nat) : Int).toNat = n + 1 := by omega
      have n8 : ((n + 1 : Nat) : Int) < ((copyL (q' ++ [x] ++ s ++ [(⟨#[]⟩ : ByteArray)]) (n + 1 + 1) (n + 1)).length : Int) := by rw [hcl]; omega
      have hr := room16n (n := (q' ++ [x] ++ s).length + [(⟨#[]⟩ : ByteArray)].length) (by simp; omega)
      simp only [n4, n5, n6, n7, n8, w2, t2, t3, hr, and_self, if_true]
      rw [hc, insW_mid (p := q' ++ [x]) (r := s) (fun y hy => ?_), insW_up hu]
      rcases List.mem_append.1 hy with hy | hy
      · exact ltW_trans (hbelow y hy) h
      · rw [List.mem_singleton.1 hy]; exact h
    · subst h
      simp only [decide_true, Bool.or_true, Bool.not_true, Bool.false_eq_true, if_false, if_true]
      rw [show q' ++ [x] ++ s = q' ++ x :: s by simp, insW_mid hbelow, insW_here]
    · have hne : ¬ x = w := fun e => ltW_ne h e.symm
      simp only [ltW_asym h, hne, decide_false, Bool.or_false, Bool.not_false, if_true]
      rw [e1, show q' ++ [x] ++ s = q' ++ (x :: s) by simp]
      refine ih q' (x :: s) k hq' hs' (fun y hy => ?_) (by simpa [Nat.add_assoc] using hl) (by omega)
      rcases List.mem_cons.1 hy with rfl | hy
      · exact h
      · exact hu y hy
theorem Qcn (xs : List ByteArray) (w : ByteArray) (hs : SrtW xs) (h : xs.length ≤ 1000000) : Q1.f xs w = some (insW w xs) := by
  have := putWord_l w xs.length xs [] NN rfl (by simpa using hs) (by simp) (by simpa using h) (NN_lt (by omega))
  rw [List.append_nil] at this
  exact this
end Go.Pl

namespace Go.Pl
open Go.Ev
set_option linter.unusedVariables false
set_option linter.unusedSimpArgs false
theorem room32m {n : Nat} (h : n ≤ 2000000) : n < room 32 := by rw [room32]; omega
def amR (xs : List Mov) (m : Mov) : List Mov × Int := if movesB xs = true then (if xs.length = 40 then ([], 3) else if movesB (xs ++ [m]) = true then (xs ++ [m], 0) else ([], 5)) else ([], 1)
theorem AddMove_both (xs : List Mov) (m : Mov) (h1 : xs.length ≤ 1000000) (h2 : ∀ m ∈ xs, Sz m.2.1) (h3 : Sz m.2.1) : Qak.f xs m = some (amR xs m) ∧ Qah.f xs m = some (amR xs m) := by
  have hz : ∀ y ∈ xs ++ [m], Sz y.2.1 := fun y hy => by
    rcases List.mem_append.1 hy with h | h
    · exact h2 y h
    · rw [List.mem_singleton.1 h]; exact h3
  unfold Qak.f Qak.fn Qak.top Qah.f Qah.fn Qah.top amR
  rw [QbQ xs h1 h2, QbP xs h1 h2]
  cases hb : movesB xs
  · exact ⟨rfl, rfl⟩
  have hl := (movesB_iff hb).1
  simp only [and_self, and_true, true_and, decide_true, decide_false, if_true, if_false, mid_get, mid_set, mid_getn, mid_setn, bt_mid, Option.bind_some, Bool.not_true, Bool.not_false, Bool.false_eq_true, Bool.true_eq_false, beq_self_eq_true, bne_self_eq_false, Int.toNat_natCast]
  by_cases h40 : xs.length = 40
  · have e : ((xs.length : Int) == 40) = true := by rw [h40]; rfl
    simp [e, h40]
  have e : ((xs.length : Int) == 40) = false := by simpa using (show ¬ (xs.length : Int) = 40 by omega)
  have r1 : ([] : List Mov).length + xs.length < room 32 := room32m (by simp; omega)
  have r2 : (([] : List Mov) ++ xs).length + [m].length < room 32 := room32m (by simp; omega)
  have r3 : (xs ++ [m]).length ≤ 1000000 := by simp; omega
  rw [List.nil_append] at r2
  simp only [List.nil_append, e, h40, r1, r2, and_self, and_true, true_and, decide_true, decide_false, if_true, if_false, mid_get, mid_set, mid_getn, mid_setn, bt_mid, Option.bind_some, Bool.not_true, Bool.not_false, Bool.false_eq_true, Bool.true_eq_false, beq_self_eq_true, bne_self_eq_false, Int.toNat_natCast]
  rw [QbQ _ r3 hz, QbP _ r3 hz]
  cases movesB (xs ++ [m]) <;> exact ⟨rfl, rfl⟩
def icR (xs : List Mov) (z : ByteArray) (t : Int) : Bool × Int := if movesB xs = true then (if wordB z = true then (if inB t 0 10000000 = true then (clrB xs z t, 0) else (false, 2)) else (false, 1)) else (false, 1)
theorem IsClear_both (xs : List Mov) (z : ByteArray) (t : Int) (h1 : xs.length ≤ 1000000) (h2 : ∀ m ∈ xs, Sz m.2.1) (h3 : Sz z) : Qa0.f xs z t = some (icR xs z t) ∧ QaV.f xs z t = some (icR xs z t) := by
  unfold Qa0.f Qa0.fn Qa0.top Qa4.f Qa4.fn Qa4.top QaV.f QaV.fn QaV.top QaJ.f QaJ.fn QaJ.top icR
  rw [QbQ xs h1 h2, QbP xs h1 h2, QbM z h3, QbL z h3, Qbz, QbX]
  cases hb : movesB xs
  · exact ⟨rfl, rfl⟩
  cases hw : wordB z
  · exact ⟨rfl, rfl⟩
  cases ht : inB t 0 10000000
  · exact ⟨rfl, rfl⟩
  obtain ⟨m1, m2, m3⟩ := movesB_iff hb
  have ht' := inB_iff.1 ht
  have e : ((0 : Int) != 0) = false := rfl
  simp only [e, and_self, and_true, true_and, decide_true, decide_false, if_true, if_false, mid_get, mid_set, mid_getn, mid_setn, bt_mid, Option.bind_some, Bool.not_true, Bool.not_false, Bool.false_eq_true, Bool.true_eq_false, beq_self_eq_true, bne_self_eq_false, Int.toNat_natCast]
  rw [Qcd xs z (by omega) m2 m3 h1, Qcm xs z (by omega) m3 h1]
  exact ⟨rfl, rfl⟩
def insRv (x : Sig) : List Sig → List Sig → List Sig
  | [], q => x :: q
  | y :: p, q => if x.1 < y.1 then insRv x p (y :: q) else (y :: p).reverse ++ x :: q
def insS (xs : List Sig) (x : Sig) : List Sig := insRv x xs.reverse []
def fin5 (xs : List Sig) : List Sig × Int := if sigsB xs = true then (xs, 0) else ([], 5)
def asR (xs : List Sig) (x : Sig) : List Sig × Int := if sigsB xs = true then (if xs.length = 40 then ([], 3) else fin5 (insS xs x)) else ([], 1)
theorem Qc6 (xs : List Sig) (h : xs.length ≤ 1000000) : ((Qo.f xs).bind fun r => if (!r) = true then some ([], 5) else some (xs, 0)) = some (fin5 xs) := by
  rw [QbE xs h]
  unfold fin5
  cases sigsB xs <;> rfl
theorem Qc7 (xs : List Sig) (h : xs.length ≤ 1000000) : ((Qr.f xs).bind fun r => if (!r) = true then some ([], 5) else some (xs, 0)) = some (fin5 xs) := by
  rw [QbF xs h]
  unfold fin5
  cases sigsB xs <;> rfl
theorem QcB (x : Sig) : ∀ (p q : List Sig) (k : Nat), p.length + q.length ≤ 100000 → p.length < k → Qi.l7 NN k p.length (p.reverse ++ x :: q) = some (fin5 (insRv x p q)) := by
  intro p
  induction p with
  | nil =>
    intro q k hl hk
    obtain ⟨k, rfl⟩ : ∃ j, k = j + 1 := ⟨k - 1, by omega⟩
    have n0 : ¬ (0 : Int) < (([] : List Sig).length : Int) := by simp
    simp only [Qi.l7, Qi.g7, n0, and_self, and_true, true_and, decide_true, decide_false, if_true, if_false, mid_get, mid_set, mid_getn, mid_setn, bt_mid, Option.bind_some, Bool.not_true, Bool.not_false, Bool.false_eq_true, Bool.true_eq_false, beq_self_eq_true, bne_self_eq_false, Int.toNat_natCast, List.reverse_nil, List.nil_append, insRv]
    exact Qc6 _ (by simp at hl ⊢; omega)
  | cons y p ih =>
    intro q k hl hk
    simp only [List.length_cons] at hl hk
    obtain ⟨k, rfl⟩ : ∃ j, k = j + 1 := ⟨k - 1, by omega⟩
    have hr : (y :: p).reverse ++ x :: q = p.reverse ++ y :: x :: q := by simp
    have hpl : p.reverse.length = p.length := List.length_reverse
    have hc : ((y :: p).length : Int) = (p.length : Int) + 1 := by simp
    have w := w64 (n := (p.length : Int) + 1 - 1) (by omega) (by omega)
    rw [Int.add_sub_cancel] at w
    have c0 : (0 : Int) < (p.length : Int) + 1 := by omega
    have c1 : (0 : Int) ≤ (p.length : Int) := by omega
    have c1' : (0 : Int) ≤ (p.length : Int) + 1 := by omega
    have hlen : ((p.reverse ++ y :: x :: q).length : Int) = (p.length : Int) + q.length + 2 := by simp; omega
    have c2 : (p.length : Int) < ((p.reverse ++ y :: x :: q).length : Int) := by omega
    have c3 : (p.length : Int) + 1 < ((p.reverse ++ y :: x :: q).length : Int) := by omega
    have g1 : ∀ z, (p.reverse ++ y :: x :: q).getD p.length z = y := fun z => by
      have := mid_getn p.reverse (x :: q) y z
      rwa [hpl] at this
    have g2 : ∀ z, (p.reverse ++ y :: x :: q).getD ((p.length : Int) + 1).toNat z = x := fun z => by
      have := mid_getn (p.reverse ++ [y]) q x z
      rw [mid_snoc] at this
      rw [show ((p.length : Int) + 1).toNat = (p.reverse ++ [y]).length by simp]
      exact this
    have s1 : (p.reverse ++ y :: x :: q).set p.length x = p.reverse ++ x :: x :: q := by
      have := mid_setn p.reverse (x :: q) y x
      rwa [hpl] at this
    have s2 : (p.reverse ++ x :: x :: q).set ((p.length : Int) + 1).toNat y = p.reverse ++ x :: y :: q := by
      have := mid_setn (p.reverse ++ [x]) q x y
      rw [mid_snoc, mid_snoc] at this
      rw [show ((p.length : Int) + 1).toNat = (p.reverse ++ [x]).length by simp]
      exact this
    have c4 : (p.length : Int) + 1 < ((p.reverse ++ x :: x :: q).length : Int) := by simp; omega
    rw [hr, hc]
    simp only [Qi.l7, Qi.g7, c0, Int.add_sub_cancel, w, c1, c1', c2, c3, g1, g2, s1, c4, s2, and_self, and_true, true_and, decide_true, decide_false, if_true, if_false, mid_get, mid_set, mid_getn, mid_setn, bt_mid, Option.bind_some, Bool.not_true, Bool.not_false, Bool.false_eq_true, Bool.true_eq_false, beq_self_eq_true, bne_self_eq_false, Int.toNat_natCast, insRv]
    by_cases h : x.1 < y.1
    · simp only [h, and_self, and_true, true_and, decide_true, decide_false, if_true, if_false, mid_get, mid_set, mid_getn, mid_setn, bt_mid, Option.bind_some, Bool.not_true, Bool.not_false, Bool.false_eq_true, Bool.true_eq_false, beq_self_eq_true, bne_self_eq_false, Int.toNat_natCast]
      exact ih (y :: q) k (by simp; omega) (by omega)
    · simp only [h, and_self, and_true, true_and, decide_true, decide_false, if_true, if_false, mid_get, mid_set, mid_getn, mid_setn, bt_mid, Option.bind_some, Bool.not_true, Bool.not_false, Bool.false_eq_true, Bool.true_eq_false, beq_self_eq_true, bne_self_eq_false, Int.toNat_natCast]
      rw [← hr]
      exact Qc6 _ (by simp; omega)
theorem QcC (x : Sig) : ∀ (p q : List Sig) (k : Nat), p.length + q.length ≤ 100000 → p.length < k → Qk.l6 NN k (p.reverse ++ q) p.length x = some (fin5 (insRv x p q)) := by
  intro p
  induction p with
  | nil =>
    intro q k hl hk
    obtain ⟨k, rfl⟩ : ∃ j, k = j + 1 := ⟨k - 1, by omega⟩
    simp only [List.length_nil] at hl
    show Qk.l6 NN (k + 1) q 0 x = some (fin5 (x :: q))
    have n2 : (0 : Int) ≤ (q.length : Int) := by omega
    have r1 : ([] : List Sig).length + [x].length < room 16 := room16n (by simp)
    have r2 : [x].length + q.length < room 16 := room16n (by simp; omega)
    have r0 : ([] : List Sig).length + ([] : List Sig).length < room 16 := room16n (by simp)
    simp only [Qk.l6, Qk.g6, Int.lt_irrefl, Int.le_refl, n2, and_self, and_true, true_and, decide_true, decide_false, if_true, if_false, mid_get, mid_set, mid_getn, mid_setn, bt_mid, Option.bind_some, Bool.not_true, Bool.not_false, Bool.false_eq_true, Bool.true_eq_false, beq_self_eq_true, bne_self_eq_false, Int.toNat_natCast, Int.toNat_zero, List.take_zero, List.drop_zero, List.nil_append, r0, r1, r2]
    exact Qc7 _ (by simp; omega)
  | cons y p ih =>
    intro q k hl hk
    simp only [List.length_cons] at hl hk
    obtain ⟨k, rfl⟩ : ∃ j, k = j + 1 := ⟨k - 1, by omega⟩
    have hr : (y :: p).reverse ++ q = p.reverse ++ y :: q := by simp
    have hpl : p.reverse.length = p.length := List.length_reverse
    have hc : ((y :: p).length : Int) = (p.length : Int) + 1 := by simp
    have w := w64 (n := (p.length : Int) + 1 - 1) (by omega) (by omega)
    rw [Int.add_sub_cancel] at w
    have c0 : (0 : Int) < (p.length : Int) + 1 := by omega
    have c1 : (0 : Int) ≤ (p.length : Int) := by omega
    have c1' : (0 : Int) ≤ (p.length : Int) + 1 := by omega
    have hlen : ((p.reverse ++ y :: q).length : Int) = (p.length : Int) + q.length + 1 := by simp; omega
    have c2 : (p.length : Int) < ((p.reverse ++ y :: q).length : Int) := by omega
    have c3 : (p.length : Int) + 1 ≤ ((p.reverse ++ y :: q).length : Int) := by omega
    have g1 : ∀ z, (p.reverse ++ y :: q).getD p.length z = y := fun z => by
      have := mid_getn p.reverse q y z
      rwa [hpl] at this
    have tk : (p.reverse ++ y :: q).take ((p.length : Int) + 1).toNat = p.reverse ++ [y] := by
      have t := List.take_left (l₁ := p.reverse ++ [y]) (l₂ := q)
      rw [mid_snoc] at t
      rw [show ((p.length : Int) + 1).toNat = (p.reverse ++ [y]).length by simp]
      exact t
    have dr : (p.reverse ++ y :: q).drop ((p.length : Int) + 1).toNat = q := by
      have t := List.drop_left (l₁ := p.reverse ++ [y]) (l₂ := q)
      rw [mid_snoc] at t
      rw [show ((p.length : Int) + 1).toNat = (p.reverse ++ [y]).length by simp]
      exact t
    rw [hr, hc]
    simp only [Qk.l6, Qk.g6, c0, Int.add_sub_cancel, w, c1, c1', c2, c3, g1, and_self, and_true, true_and, decide_true, decide_false, if_true, if_false, mid_get, mid_set, mid_getn, mid_setn, bt_mid, Option.bind_some, Bool.not_true, Bool.not_false, Bool.false_eq_true, Bool.true_eq_false, beq_self_eq_true, bne_self_eq_false, Int.toNat_natCast, insRv]
    by_cases h : x.1 < y.1
    · simp only [h, and_self, and_true, true_and, decide_true, decide_false, if_true, if_false, mid_get, mid_set, mid_getn, mid_setn, bt_mid, Option.bind_some, Bool.not_true, Bool.not_false, Bool.false_eq_true, Bool.true_eq_false, beq_self_eq_true, bne_self_eq_false, Int.toNat_natCast]
      have := ih (y :: q) k (by simp; omega) (by omega)
      exact this
    · have r1 : ([] : List Sig).length + (p.reverse ++ [y]).length < room 16 := room16n (by simp; omega)
      have r2 : (p.reverse ++ [y]).length + [x].length < room 16 := room16n (by simp; omega)
      have r3 : ((p.reverse ++ [y]) ++ [x]).length + q.length < room 16 := room16n (by simp; omega)
      simp only [h, tk, dr, r1, r2, r3, List.nil_append, and_self, and_true, true_and, decide_true, decide_false, if_true, if_false, mid_get, mid_set, mid_getn, mid_setn, bt_mid, Option.bind_some, Bool.not_true, Bool.not_false, Bool.false_eq_true, Bool.true_eq_false, beq_self_eq_true, bne_self_eq_false, Int.toNat_natCast]
      have e : (y :: p).reverse ++ x :: q = (p.reverse ++ [y]) ++ [x] ++ q := by simp
      rw [e]
      exact Qc7 _ (by simp; omega)
theorem AddSignal_both (xs : List Sig) (x : Sig) (h : xs.length ≤ 1000000) : Qk.f xs x = some (asR xs x) ∧ Qi.f xs x = some (asR xs x) := by
  unfold Qk.f Qk.fn Qk.top Qi.f Qi.fn Qi.top asR
  rw [QbF xs h, QbE xs h]
  cases hb : sigsB xs
  · exact ⟨rfl, rfl⟩
  have hl := (sigsB_iff hb).1
  simp only [and_self, and_true, true_and, decide_true, decide_false, if_true, if_false, mid_get, mid_set, mid_getn, mid_setn, bt_mid, Option.bind_some, Bool.not_true, Bool.not_false, Bool.false_eq_true, Bool.true_eq_false, beq_self_eq_true, bne_self_eq_false, Int.toNat_natCast]
  by_cases h40 : xs.length = 40
  · have e : ((xs.length : Int) == 40) = true := by rw [h40]; rfl
    simp [e, h40]
  have e : ((xs.length : Int) == 40) = false := by simpa using (show ¬ (xs.length : Int) = 40 by omega)
  have r1 : ([] : List Sig).length + xs.length < room 16 := room16n (by simp; omega)
  have r2 : xs.length + [x].length < room 16 := room16n (by simp; omega)
  have a1 := QcC x xs.reverse [] NN (by simp; omega) (NN_lt (by simp; omega))
  have a2 := QcB x xs.reverse [] NN (by simp; omega) (NN_lt (by simp; omega))
  simp only [List.reverse_reverse, List.append_nil, List.length_reverse] at a1 a2
  have w : IntKind.i64.wrap (((xs ++ [x]).length : Int) - 1) = (xs.length : Int) := by
    rw [show ((xs ++ [x]).length : Int) - 1 = (xs.length : Int) by simp]
    exact w64 (by omega) (by omega)
  refine ⟨?_, ?_⟩
  · simp only [e, h40, and_self, and_true, true_and, decide_true, decide_false, if_true, if_false, mid_get, mid_set, mid_getn, mid_setn, bt_mid, Option.bind_some, Bool.not_true, Bool.not_false, Bool.false_eq_true, Bool.true_eq_false, beq_self_eq_true, bne_self_eq_false, Int.toNat_natCast]
    exact a1
  · simp only [e, h40, List.nil_append, r1, r2, w, and_self, and_true, true_and, decide_true, decide_false, if_true, if_false, mid_get, mid_set, mid_getn, mid_setn, bt_mid, Option.bind_some, Bool.not_true, Bool.not_false, Bool.false_eq_true, Bool.true_eq_false, beq_self_eq_true, bne_self_eq_false, Int.toNat_natCast]
    exact a2
end Go.Pl

namespace Go.Pl
open Go.Ev
set_option linter.unusedVariables false
set_option linter.unusedSimpArgs false
def tkT (t : Int) : Int := Int.tdiv t 100
theorem tkT_bd {t : Int} (h : 0 ≤ t ∧ t ≤ 10000000) : 0 ≤ tkT t ∧ tkT t ≤ 100000 := by
  unfold tkT
  rw [Int.tdiv_eq_ediv_of_nonneg h.1]; omega
def firT (l : List Sig) (ms : List Mov) (zs : List ByteArray) (t : Int) : Int := if (mayC (ctlAt l (tkT t)) && zs.all (clrB ms · (tkT t * 100))) = true then tkT t else -1
def firF (l : List Sig) (ms : List Mov) (zs : List ByteArray) (T t : Int) : Int := if tkT t < T then firT l ms zs t else -1
abbrev LF := List Int → List Mov → List ByteArray → Int → List Int → List Sig → Int → Int → Ctl → List Int → Option (List Int)
theorem nn0 : 0 < NN := NN_lt (by omega)
theorem fired_begin (L10 : LF) (times : List Int) (ms : List Mov) (zs : List ByteArray) (last : Int) (o1 : List Int) (b1 : List Sig) (b2 b3 : Int) (b4 : Ctl) (b5 : List Int) (out : List Int) (T : Int) : ∀ (r p : List Sig) (c : Ctl) (ref : List Int) (k : Nat), p.length + r.length ≤ 1000000 → r.length < k → DeadOk c → SrtF T r → (∀ m ∈ r, 0 ≤ m.2 ∧ m.2 ≤ 9) → ref.length ≤ p.length →
    ∃ (p' r' : List Sig) (c' : Ctl) (ref' : List Int), p' ++ r' = p ++ r ∧ SrtF (T + 1) r' ∧ DeadOk c' ∧ ref'.length ≤ p'.length ∧ (∀ t, T ≤ t → atR r' c' T t = atR r c T t) ∧ (∀ m ∈ r', 0 ≤ m.2 ∧ m.2 ≤ 9) ∧
      Qb.l120000001 NN L10 k times ms zs last o1 b1 b2 b3 b4 b5 out (p ++ r) p.length T c ref = Qb.l1000012 NN L10 NN times ms zs last out (p ++ r) p'.length T c' ref' := by
  intro r
  induction r with
  | nil =>
    intro p c ref k _ hk hc _ _ hr
    obtain ⟨k, rfl⟩ : ∃ j, k = j + 1 := ⟨k - 1, by omega⟩
    refine ⟨p, [], c, ref, rfl, trivial, hc, hr, fun _ _ => rfl, by simp, ?_⟩
    simp only [List.append_nil, Qb.l120000001, Qb.g120000001, Int.lt_irrefl, and_self, and_true, true_and, decide_true, decide_false, if_true, if_false, mid_get, mid_set, mid_getn, mid_setn, bt_mid, Option.bind_some, Bool.not_true, Bool.not_false, Bool.false_eq_true, Bool.true_eq_false, beq_self_eq_true, bne_self_eq_false, Int.toNat_natCast]
  | cons m r ih =>
    intro p c ref k hl hk hc hs hm hr
    simp only [List.length_cons] at hl hk
    obtain ⟨k, rfl⟩ : ∃ j, k = j + 1 := ⟨k - 1, by omega⟩
    have hln := mid_len p r m
    have c0 : (0 : Int) ≤ (p.length : Int) := by omega
    have c1 : (p.length : Int) < ((p ++ m :: r).length : Int) := by omega
    have cw := w64 (n := (p.length : Int) + 1) (by omega) (by omega)
    have hs1 := hs.1
    by_cases h : m.1 = T
    · have st : ∀ (c1 : Ctl) (ref1 : List Int), c1 = giveB c m.2 → ref1.length ≤ p.length + 1 → ∃ (p' r' : List Sig) (c' : Ctl) (ref' : List Int), p' ++ r' = p ++ m :: r ∧ SrtF (T + 1) r' ∧ DeadOk c' ∧ ref'.length ≤ p'.length ∧ (∀ t, T ≤ t → atR r' c' T t = atR (m :: r) c T t) ∧ (∀ m ∈ r', 0 ≤ m.2 ∧ m.2 ≤ 9) ∧
          Qb.l120000001 NN L10 k times ms zs last o1 b1 b2 b3 b4 b5 out (p ++ m :: r) ((p.length : Int) + 1) T c1 ref1 = Qb.l1000012 NN L10 NN times ms zs last out (p ++ m :: r) p'.length T c' ref' := by
        intro c1 ref1 e1 hr1
        have i := ih (p ++ [m]) c1 ref1 k (by simp; omega) (by omega) (by rw [e1]; exact give_dead hc _) (by rw [← h]; exact hs.2) (fun x hx => hm x (by simp [hx])) (by simp; omega)
        rw [mid_snoc, snoc_len] at i
        obtain ⟨p', r', c', ref', i1, i2, i3, i4, i5, i6, i7⟩ := i
        refine ⟨p', r', c', ref', i1, i2, i3, i4, fun t ht => ?_, i6, i7⟩
        rw [i5 t ht, e1, show m = (T, m.2) by rw [← h], atR_give T m.2 r c ht]
      have hg := QbA c m.2 hc (hm m (by simp))
      have e0 : (m.1 == T) = true := by rw [h]; simp
      simp only [Qb.l120000001, Qb.g120000001, c0, c1, cw, e0, hg, and_self, and_true, true_and, decide_true, decide_false, if_true, if_false, mid_get, mid_set, mid_getn, mid_setn, bt_mid, Option.bind_some, Bool.not_true, Bool.not_false, Bool.false_eq_true, Bool.true_eq_false, beq_self_eq_true, bne_self_eq_false, Int.toNat_natCast]
      cases hq : giveC c m.2 with
      | some y =>
        simp only [and_self, and_true, true_and, decide_true, decide_false, if_true, if_false, mid_get, mid_set, mid_getn, mid_setn, bt_mid, Option.bind_some, Bool.not_true, Bool.not_false, Bool.false_eq_true, Bool.true_eq_false, beq_self_eq_true, bne_self_eq_false, Int.toNat_natCast]
        exact st y ref (by unfold giveB; rw [hq]; rfl) (by omega)
      | none =>
        have n5 : ((5 : Int) == 0) = false := rfl
        have hro : ref.length + [(p.length : Int)].length < room 8 := by rw [room8]; simp; omega
        simp only [n5, hro, and_self, and_true, true_and, decide_true, decide_false, if_true, if_false, mid_get, mid_set, mid_getn, mid_setn, bt_mid, Option.bind_some, Bool.not_true, Bool.not_false, Bool.false_eq_true, Bool.true_eq_false, beq_self_eq_true, bne_self_eq_false, Int.toNat_natCast]
        exact st c (ref ++ [(p.length : Int)]) (by unfold giveB; rw [hq]; rfl) (by simp; omega)
    · have e0 : (m.1 == T) = false := by simpa using h
      refine ⟨p, m :: r, c, ref, rfl, ⟨by omega, hs.2⟩, hc, hr, fun _ _ => rfl, hm, ?_⟩
      simp only [Qb.l120000001, Qb.g120000001, c0, c1, e0, and_self, and_true, true_and, decide_true, decide_false, if_true, if_false, mid_get, mid_set, mid_getn, mid_setn, bt_mid, Option.bind_some, Bool.not_true, Bool.not_false, Bool.false_eq_true, Bool.true_eq_false, beq_self_eq_true, bne_self_eq_false, Int.toNat_natCast]
theorem fired_fill (L10 : LF) (l : List Sig) (ms : List Mov) (zs : List ByteArray) (hms : ∀ m ∈ ms, movB m = true) (hml : ms.length ≤ 1000000) (hzl : zs.length ≤ 1000000) (last : Int) (T : Int) (hT : 0 ≤ T ∧ T ≤ 1000000) (hmay : mayC (ctlAt l T) = true) (ls : List Sig) (nx : Int) (c : Ctl) (ref : List Int) : ∀ (r p : List Int) (k : Nat), p.length + r.length ≤ 1000000 → r.length < k → (∀ t ∈ r, 0 ≤ t ∧ t ≤ 10000000) →
    Qb.l14 NN L10 k (p ++ r) ms zs last (p ++ r) (p ++ r).length p.length (p.map (firF l ms zs (T + 1)) ++ r.map (firF l ms zs T)) ls nx T c ref = Qb.l1000019 NN L10 NN (p ++ r) ms zs last ((p ++ r).map (firF l ms zs (T + 1))) ls nx T c ref := by
  intro r
  induction r with
  | nil =>
    intro p k _ hk _
    obtain ⟨k, rfl⟩ : ∃ j, k = j + 1 := ⟨k - 1, by omega⟩
    simp only [List.append_nil, List.map_nil, Qb.l14, Qb.g14, Int.lt_irrefl, and_self, and_true, true_and, decide_true, decide_false, if_true, if_false, mid_get, mid_set, mid_getn, mid_setn, bt_mid, Option.bind_some, Bool.not_true, Bool.not_false, Bool.false_eq_true, Bool.true_eq_false, beq_self_eq_true, bne_self_eq_false, Int.toNat_natCast]
  | cons t r ih =>
    intro p k hl hk ht
    simp only [List.length_cons] at hl hk
    obtain ⟨k, rfl⟩ : ∃ j, k = j + 1 := ⟨k - 1, by omega⟩
    have hln := mid_len p r t
    have htt := ht t (by simp)
    have hb := tkT_bd htt
    have c0 : (0 : Int) ≤ (p.length : Int) := by omega
    have c1 : (p.length : Int) < ((p ++ t :: r).length : Int) := by omega
    have cw := w64 (n := (p.length : Int) + 1) (by omega) (by omega)
    have w1 := w64 (n := Int.tdiv t 100) (by unfold tkT at hb; omega) (by unfold tkT at hb; omega)
    have w2 := w64 (n := T * 100) (by omega) (by omega)
    have i := ih (p ++ [t]) k (by simp; omega) (by omega) (fun x hx => ht x (by simp [hx]))
    rw [mid_snoc, snoc_len] at i
    have cl : (p.length : Int) < ((p.map (firF l ms zs (T + 1)) ++ firF l ms zs T t :: r.map (firF l ms zs T)).length : Int) := by
      rw [mid_len, List.length_map]; omega
    have hpm : ((p.map (firF l ms zs (T + 1))).length : Int) = (p.length : Int) := by rw [List.length_map]
    rw [List.map_append, List.map_singleton, mid_snoc] at i
    simp only [List.map_cons]
    by_cases h : tkT t = T
    · have e0 : (Int.tdiv t 100 == T) = true := by unfold tkT at h; rw [h]; simp
      simp only [Qb.l14, Qb.g14, c0, c1, cw, w1, w2, e0, and_self, and_true, true_and, decide_true, decide_false, if_true, if_false, mid_get, mid_set, mid_getn, mid_setn, bt_mid, Option.bind_some, Bool.not_true, Bool.not_false, Bool.false_eq_true, Bool.true_eq_false, beq_self_eq_true, bne_self_eq_false, Int.toNat_natCast]
      rw [Qcs ms zs (by omega) hms hml hzl, Option.bind_some]
      have eF : firF l ms zs (T + 1) t = if zs.all (clrB ms · (T * 100)) = true then T else -1 := by
        unfold firF firT
        rw [h, if_pos (by omega), hmay, Bool.true_and]
      have eN : firF l ms zs T t = -1 := by unfold firF; rw [if_neg (by omega)]
      rw [eF] at i
      by_cases ha : zs.all (clrB ms · (T * 100)) = true
      · rw [if_pos ha] at i
        rw [if_pos ha, if_pos cl]
        have es : (p.map (firF l ms zs (T + 1)) ++ firF l ms zs T t :: r.map (firF l ms zs T)).set p.length T = p.map (firF l ms zs (T + 1)) ++ T :: r.map (firF l ms zs T) := by
          have := mid_setn (p.map (firF l ms zs (T + 1))) (r.map (firF l ms zs T)) (firF l ms zs T t) T
          rwa [List.length_map] at this
        rw [es]
        exact i
      · rw [if_neg ha] at i
        rw [if_neg ha, eN]
        exact i
    · have e0 : (Int.tdiv t 100 == T) = false := by unfold tkT at h; simpa using h
      have eF : firF l ms zs (T + 1) t = firF l ms zs T t := by
        unfold firF
        by_cases q : tkT t < T
        · rw [if_pos q, if_pos (by omega)]
        · rw [if_neg q, if_neg (by omega)]
      rw [eF] at i
      simp only [Qb.l14, Qb.g14, c0, c1, cw, w1, e0, and_self, and_true, true_and, decide_true, decide_false, if_true, if_false, mid_get, mid_set, mid_getn, mid_setn, bt_mid, Option.bind_some, Bool.not_true, Bool.not_false, Bool.false_eq_true, Bool.true_eq_false, beq_self_eq_true, bne_self_eq_false, Int.toNat_natCast]
      exact i
theorem fired_main (l : List Sig) (ms : List Mov) (zs : List ByteArray) (hms : ∀ m ∈ ms, movB m = true) (hml : ms.length ≤ 1000000) (hzl : zs.length ≤ 1000000) (hll : l.length ≤ 1000000) (last : Int) (hlast : last ≤ 100000) (times : List Int) (htl : times.length ≤ 1000000) (ht : ∀ t ∈ times, (0 ≤ t ∧ t ≤ 10000000) ∧ tkT t ≤ last) : ∀ (n : Nat) (T : Int) (p r : List Sig) (c : Ctl) (ref : List Int) (k : Nat), 0 ≤ T → T + n = last + 1 → n < k → l = p ++ r → SrtF T r → DeadOk c → ref.length ≤ p.length → (∀ m ∈ r, 0 ≤ m.2 ∧ m.2 ≤ 9) → (∀ t, T ≤ t → atR r c T t = ctlAt l t) →
    Qb.l10 NN k times ms zs last (times.map (firF l ms zs T)) l p.length T c ref = some (times.map (firT l ms zs)) := by
  intro n
  induction n with
  | zero =>
    intro T p r c ref k _ hT hk _ _ _ _ _ _
    obtain ⟨k, rfl⟩ : ∃ j, k = j + 1 := ⟨k - 1, by omega⟩
    have c1 : ¬ T ≤ last := by omega
    simp only [Qb.l10, Qb.g10, c1, and_self, and_true, true_and, decide_true, decide_false, if_true, if_false, mid_get, mid_set, mid_getn, mid_setn, bt_mid, Option.bind_some, Bool.not_true, Bool.not_false, Bool.false_eq_true, Bool.true_eq_false, beq_self_eq_true, bne_self_eq_false, Int.toNat_natCast]
    congr 1
    refine List.map_congr_left fun t h => ?_
    have := (ht t h).2
    unfold firF
    rw [if_pos (by omega)]
  | succ n ih =>
    intro T p r c ref k h0 hT hk hl hs hc hr hm hat
    obtain ⟨k, rfl⟩ : ∃ j, k = j + 1 := ⟨k - 1, by omega⟩
    have c1 : T ≤ last := by omega
    have hll2 := hll
    rw [hl, List.length_append] at hll2
    simp only [Qb.l10, Qb.g10, c1, and_self, and_true, true_and, decide_true, decide_false, if_true, if_false, mid_get, mid_set, mid_getn, mid_setn, bt_mid, Option.bind_some, Bool.not_true, Bool.not_false, Bool.false_eq_true, Bool.true_eq_false, beq_self_eq_true, bne_self_eq_false, Int.toNat_natCast]
    rw [Qb.c1000011 nn0]
    unfold Qb.g1000011
    obtain ⟨p', r', c', ref', b1, b2, b3, b4, b5, b6, b7⟩ := fired_begin (Qb.l10 NN k) times ms zs last (times.map (firF l ms zs T)) l p.length T c ref (times.map (firF l ms zs T)) T r p c ref NN hll2 (NN_lt (by omega)) hc hs hm hr
    rw [← hl] at b7 b1
    rw [b7, Qb.c1000012 nn0]
    unfold Qb.g1000012
    rw [QcY, Option.bind_some]
    have hcT : c' = ctlAt l T := by
      rw [← hat T (Int.le_refl T), ← b5 T (Int.le_refl T), atR_now c' b2]
    have w1 := w64 (n := T + 1) (by omega) (by omega)
    have hend : Qb.l1000019 NN (Qb.l10 NN k) NN times ms zs last (times.map (firF l ms zs (T + 1))) l p'.length T c' ref' = some (times.map (firT l ms zs)) := by
      rw [Qb.c1000019 nn0]
      unfold Qb.g1000019
      rw [QbA c' 8 b3 (by omega), give_tk]
      simp only [Option.bind_some, w1]
      exact ih (T + 1) p' r' (tkC c') ref' k (by omega) (by omega) (by omega) b1.symm b2 (tk_dead b3) b4 b6 (fun t h => by rw [← atR_step c' b2 h, b5 t (by omega), hat t (by omega)])
    by_cases hmay : mayC c' = true
    · rw [if_pos hmay]
      have := fired_fill (Qb.l10 NN k) l ms zs hms hml hzl last T (by omega) (by rw [← hcT]; exact hmay) l p'.length c' ref' times [] NN (by simpa using htl) (NN_lt (by omega)) (fun t h => (ht t h).1)
      rw [List.nil_append, List.map_nil, List.nil_append] at this
      refine Eq.trans this ?_
      exact hend
    · rw [if_neg hmay]
      have e : times.map (firF l ms zs T) = times.map (firF l ms zs (T + 1)) := by
        refine List.map_congr_left fun t h => ?_
        unfold firF
        by_cases q : tkT t < T
        · rw [if_pos q, if_pos (by omega)]
        · rw [if_neg q]
          by_cases q2 : tkT t < T + 1
          · have e3 : tkT t = T := by omega
            rw [if_pos q2]
            unfold firT
            rw [e3, ← hcT]
            simp [hmay]
          · rw [if_neg q2]
      rw [e]
      exact hend
theorem fired_first (l : List Sig) (ms : List Mov) (zs : List ByteArray) : ∀ (r p : List Int) (last : Int) (k : Nat), p.length + r.length ≤ 1000000 → r.length < k → (∀ t ∈ p, (0 ≤ t ∧ t ≤ 10000000) ∧ tkT t ≤ last) → (∀ t ∈ r, 0 ≤ t ∧ t ≤ 10000000) → 0 ≤ last → last ≤ 100000 →
    ∃ last', 0 ≤ last' ∧ last' ≤ 100000 ∧ (∀ t ∈ p ++ r, (0 ≤ t ∧ t ≤ 10000000) ∧ tkT t ≤ last') ∧ Qb.l4 NN k (p ++ r) l ms zs last (p ++ r) (p ++ r).length p.length (p.map (fun _ => (-1 : Int)) ++ r.map (fun _ => (0 : Int))) = Qb.l10 NN NN (p ++ r) ms zs last' ((p ++ r).map (fun _ => (-1 : Int))) l 0 0 (false, false, false, false, false, 0) [] := by
  intro r
  induction r with
  | nil =>
    intro p last k _ hk hp _ h0 h1
    obtain ⟨k, rfl⟩ : ∃ j, k = j + 1 := ⟨k - 1, by omega⟩
    refine ⟨last, h0, h1, by simpa using hp, ?_⟩
    simp only [List.append_nil, List.map_nil, Qb.l4, Qb.g4, Int.lt_irrefl, and_self, and_true, true_and, decide_true, decide_false, if_true, if_false, mid_get, mid_set, mid_getn, mid_setn, bt_mid, Option.bind_some, Bool.not_true, Bool.not_false, Bool.false_eq_true, Bool.true_eq_false, beq_self_eq_true, bne_self_eq_false, Int.toNat_natCast]
  | cons t r ih =>
    intro p last k hl hk hp hr h0 h1
    simp only [List.length_cons] at hl hk
    obtain ⟨k, rfl⟩ : ∃ j, k = j + 1 := ⟨k - 1, by omega⟩
    have hln := mid_len p r t
    have htt := hr t (by simp)
    have hb := tkT_bd htt
    have c0 : (0 : Int) ≤ (p.length : Int) := by omega
    have c1 : (p.length : Int) < ((p ++ t :: r).length : Int) := by omega
    have cw := w64 (n := (p.length : Int) + 1) (by omega) (by omega)
    have w1 := w64 (n := Int.tdiv t 100) (by unfold tkT at hb; omega) (by unfold tkT at hb; omega)
    have cl : (p.length : Int) < ((p.map (fun _ => (-1 : Int)) ++ (0 : Int) :: r.map (fun _ => (0 : Int))).length : Int) := by
      rw [mid_len, List.length_map]; omega
    have es : (p.map (fun _ => (-1 : Int)) ++ (0 : Int) :: r.map (fun _ => (0 : Int))).set p.length (-1) = p.map (fun _ => (-1 : Int)) ++ (-1 : Int) :: r.map (fun _ => (0 : Int)) := by
      have := mid_setn (p.map (fun _ => (-1 : Int))) (r.map (fun _ => (0 : Int))) (0 : Int) (-1)
      rwa [List.length_map] at this
    have i := ih (p ++ [t]) (if Int.tdiv t 100 > last then Int.tdiv t 100 else last) k (by simp; omega) (by omega) (fun x hx => by
      rcases List.mem_append.1 hx with h | h
      · have := hp x h
        refine ⟨this.1, ?_⟩
        split <;> omega
      · rw [List.mem_singleton.1 h]
        refine ⟨htt, ?_⟩
        unfold tkT
        split <;> omega) (fun x hx => hr x (by simp [hx])) (by unfold tkT at hb; split <;> omega) (by unfold tkT at hb; split <;> omega)
    rw [mid_snoc, snoc_len, List.map_append, List.map_singleton, mid_snoc] at i
    simp only [List.map_cons, Qb.l4, Qb.g4, c0, c1, cw, w1, cl, and_self, and_true, true_and, decide_true, decide_false, if_true, if_false, mid_get, mid_set, mid_getn, mid_setn, bt_mid, Option.bind_some, Bool.not_true, Bool.not_false, Bool.false_eq_true, Bool.true_eq_false, beq_self_eq_true, bne_self_eq_false, Int.toNat_natCast, es]
    exact i
theorem Qcv {l : List Sig} (hl : sigsB l = true) {ms : List Mov} (hm : movesB ms = true) (zs : List ByteArray) (hz : zs.length ≤ 1000000) (times : List Int) (htl : times.length ≤ 1000000) (ht : ∀ t ∈ times, 0 ≤ t ∧ t ≤ 10000000) : Qb.f times l ms zs = some (times.map (firT l ms zs)) := by
  obtain ⟨h1, h2, h3⟩ := sigsB_iff hl
  obtain ⟨m1, m2, m3⟩ := movesB_iff hm
  obtain ⟨last, l1, l2, l3, l4⟩ := fired_first l ms zs times [] 0 NN (by simpa using htl) (NN_lt (by omega)) (by simp) ht (by omega) (by omega)
  rw [List.nil_append] at l3
  simp only [List.nil_append, List.map_nil, List.length_nil] at l4
  have hr : (times.length : Int) < room 8 := by rw [room8]; omega
  unfold Qb.f Qb.fn Qb.top
  rw [if_pos ⟨by omega, hr, rfl⟩, Int.toNat_natCast, ← List.map_const']
  refine Eq.trans l4 ?_
  have := fired_main l ms zs m3 (by omega) hz (by omega) last l2 times htl l3 (last + 1).toNat 0 [] l (false, false, false, false, false, 0) [] NN (by omega) (by omega) (NN_lt (by omega)) rfl h2 ctl0_dead (by simp) (fun m h => (h3 m h).2.1) (fun t _ => rfl)
  refine Eq.trans ?_ this
  congr 1
  refine List.map_congr_left fun t h => ?_
  have := tkT_bd (ht t h)
  unfold firF
  rw [if_neg (by omega)]
end Go.Pl

namespace Go.Pl
open Go.Ev
set_option linter.unusedVariables false
noncomputable section
def QbS.top (p : Int) : Option Bool :=
 (Q8.f p 0 100000).bind fun r1 =>
 some r1
def QbS.fn (n : Nat) (p : Int) : Option Bool := QbS.top p
def QbS.f (p : Int) : Option Bool := QbS.fn NN p
end
end Go.Pl

namespace Go.Pl
open Go.Ev
set_option linter.unusedVariables false
noncomputable section
def QbK.top (n0 : Int) : Option Bool :=
 (Q8.f n0 20 300).bind fun r1 =>
 some r1
def QbK.fn (n : Nat) (n0 : Int) : Option Bool := QbK.top n0
def QbK.f (n0 : Int) : Option Bool := QbK.fn NN n0
end
end Go.Pl

namespace Go.Pl
open Go.Ev
set_option linter.unusedVariables false
noncomputable section
def Qbo.g4 (L4 : Int → (Int × Int × Int × Int × List Int × Int) → Option Bool) (i3 : Int) (p1 : Int × Int × Int × Int × List Int × Int) : Option Bool :=
 if (decide ((i3 : Int) < (p1.2.2.2.2.1.length : Int))) = true then
 if (0 : Int) ≤ (IntKind.i64.wrap (i3 - 1)) ∧ ((IntKind.i64.wrap (i3 - 1)) : Int) < p1.2.2.2.2.1.length then
 if (0 : Int) ≤ i3 ∧ (i3 : Int) < p1.2.2.2.2.1.length then
 if (decide (((p1.2.2.2.2.1.getD (i3 : Int).toNat 0) : Int) ≤ (p1.2.2.2.2.1.getD ((IntKind.i64.wrap (i3 - 1)) : Int).toNat 0))) = true then
 some false
 else
 L4 (IntKind.i64.wrap (i3 + 1)) p1
 else
 none
 else
 none
 else
 some true
def Qbo.l4 (n : Nat) : Nat → Int → (Int × Int × Int × Int × List Int × Int) → Option Bool
 | 0 => fun _ _ => none
 | k + 1 => Qbo.g4 (Qbo.l4 n k)
def Qbo.top (I4 : Int → (Int × Int × Int × Int × List Int × Int) → Option Bool) (p0 : Int × Int × Int × Int × List Int × Int) : Option Bool :=
 (QbS.f p0.1).bind fun r1 =>
 if (!r1) = false then
 (QbS.f p0.2.1).bind fun r2 =>
 if (!r2) = false then
 if (decide ((p0.2.1 : Int) < p0.1)) = false then
 (Q8.f p0.2.2.1 0 1000000000).bind fun r3 =>
 if (!r3) = false then
 (QbK.f p0.2.2.2.1).bind fun r4 =>
 if (!r4) = false then
 (Q8.f p0.2.2.2.2.2 0 3).bind fun r5 =>
 if (!r5) = false then
 (QE.f p0.2.2.2.2.1 0 3).bind fun r6 =>
 if (!r6) = true then
 some false
 else
 I4 1 p0
 else
 some false
 else
 some false
 else
 some false
 else
 some false
 else
 some false
 else
 some false
def Qbo.fn (n : Nat) (p0 : Int × Int × Int × Int × List Int × Int) : Option Bool := Qbo.top (Qbo.l4 n n) p0
def Qbo.f (p0 : Int × Int × Int × Int × List Int × Int) : Option Bool := Qbo.fn NN p0
end
end Go.Pl

namespace Go.Pl
open Go.Ev
set_option linter.unusedVariables false
noncomputable section
def Qbm.g2 (L2 : List Int → Int → Int → Option Bool) (p : List Int) (n1 : Int) (i5 : Int) : Option Bool :=
 if (decide ((i5 : Int) < (p.length : Int))) = true then
 if (0 : Int) ≤ i5 ∧ (i5 : Int) < p.length then
 (Qab.f (p.getD (i5 : Int).toNat 0) 0 (IntKind.i64.wrap (n1 - 1))).bind fun r1 =>
 if (!r1) = false then
 if (decide ((0 : Int) < i5)) = true then
 if (0 : Int) ≤ i5 ∧ (i5 : Int) < p.length then
 if (0 : Int) ≤ (IntKind.i64.wrap (i5 - 1)) ∧ ((IntKind.i64.wrap (i5 - 1)) : Int) < p.length then
 if (decide (((p.getD (i5 : Int).toNat 0) : Int) ≤ (p.getD ((IntKind.i64.wrap (i5 - 1)) : Int).toNat 0))) = true then
 some false
 else
 L2 p n1 (IntKind.i64.wrap (i5 + 1))
 else
 none
 else
 none
 else
 L2 p n1 (IntKind.i64.wrap (i5 + 1))
 else
 some false
 else
 none
 else
 some true
def Qbm.l2 (n : Nat) : Nat → List Int → Int → Int → Option Bool
 | 0 => fun _ _ _ => none
 | k + 1 => Qbm.g2 (Qbm.l2 n k)
def Qbm.top (I2 : List Int → Int → Int → Option Bool) (p : List Int) (n1 : Int) : Option Bool :=
 I2 p n1 0
def Qbm.fn (n : Nat) (p : List Int) (n1 : Int) : Option Bool := Qbm.top (Qbm.l2 n n) p n1
def Qbm.f (p : List Int) (n1 : Int) : Option Bool := Qbm.fn NN p n1
end
end Go.Pl

namespace Go.Pl
open Go.Ev
set_option linter.unusedVariables false
noncomputable section
def QbY.top (p0 : Int × Int × Int × Int × List Int × Int) : Option Bool :=
 (Qab.f p0.1 0 100000).bind fun r1 =>
 if r1 = true then
 (Qab.f p0.2.1 p0.1 100000).bind fun r2 =>
 if r2 = true then
 (Qab.f p0.2.2.1 0 1000000000).bind fun r3 =>
 if r3 = true then
 (Qab.f p0.2.2.2.1 20 300).bind fun r4 =>
 if r4 = true then
 (Qbm.f p0.2.2.2.2.1 4).bind fun r5 =>
 if r5 = true then
 (Qab.f p0.2.2.2.2.2 0 3).bind fun r6 =>
 some r6
 else
 some false
 else
 some false
 else
 some false
 else
 some false
 else
 some false
def QbY.fn (n : Nat) (p0 : Int × Int × Int × Int × List Int × Int) : Option Bool := QbY.top p0
def QbY.f (p0 : Int × Int × Int × Int × List Int × Int) : Option Bool := QbY.fn NN p0
end
end Go.Pl

namespace Go.Pl
open Go.Ev
set_option linter.unusedVariables false
set_option linter.unusedSimpArgs false
theorem QcD (xs : List Int) (lo hi : Int) (h : xs.length ≤ 140737488355328) : QE.f xs lo hi = some (xs.all (inB · lo hi)) := by
  have := all_loop (E := fun _ => True) (inB · lo hi) (fun _ => some true) (fun k xs i => QE.l2 NN k lo hi xs xs.length i) ?_ ?_ xs (fun _ _ => trivial) h NN (NN_lt (by omega))
  · unfold QE.f QE.fn QE.top
    refine this.trans ?_
    cases xs.all (inB · lo hi) <;> simp
  · intro k p
    simp [QE.l2, QE.g2]
  · intro k p a r _ c0 c1 cw
    simp only [QE.l2, QE.g2, c0, c1, cw, and_self, and_true, true_and, decide_true, decide_false, if_true, if_false, mid_get, mid_set, mid_getn, mid_setn, bt_mid, Option.bind_some, Bool.not_true, Bool.not_false, Bool.false_eq_true, Bool.true_eq_false, beq_self_eq_true, bne_self_eq_false, Int.toNat_natCast, Qbg]
    cases inB a lo hi <;> simp
end Go.Pl

namespace Go.Pl
open Go.Ev
set_option linter.unusedVariables false
noncomputable section
def Qbf.g2 (L2 : List ByteArray → Int → Option Bool) (p : List ByteArray) (i3 : Int) : Option Bool :=
 if (decide ((i3 : Int) < (p.length : Int))) = true then
 if (0 : Int) ≤ i3 ∧ (i3 : Int) < p.length then
 (QP.f (p.getD (i3 : Int).toNat ByteArray.empty)).bind fun r1 =>
 if (!r1) = true then
 some false
 else
 L2 p (IntKind.i64.wrap (i3 + 1))
 else
 none
 else
 some true
def Qbf.l2 (n : Nat) : Nat → List ByteArray → Int → Option Bool
 | 0 => fun _ _ => none
 | k + 1 => Qbf.g2 (Qbf.l2 n k)
def Qbf.top (I2 : List ByteArray → Int → Option Bool) (p : List ByteArray) : Option Bool :=
 I2 p 0
def Qbf.fn (n : Nat) (p : List ByteArray) : Option Bool := Qbf.top (Qbf.l2 n n) p
def Qbf.f (p : List ByteArray) : Option Bool := Qbf.fn NN p
end
end Go.Pl

namespace Go.Pl
open Go.Ev
set_option linter.unusedVariables false
noncomputable section
def Qbd.g2 (L2 : List Int → YE → YD → List ByteArray → Int → Option Int) (p : List Int) (s : List YC) (r : List YA) (q : List ByteArray) (i9 : Int) : Option Int :=
 if (decide ((i9 : Int) < (p.length : Int))) = true then
 if (0 : Int) ≤ i9 ∧ (i9 : Int) < p.length then
 (Qaj.f (p.getD (i9 : Int).toNat 0)).bind fun r1 =>
 if (!r1) = true then
 some 1
 else
 L2 p s r q (IntKind.i64.wrap (i9 + 1))
 else
 none
 else if (decide ((20 : Int) < (p.length : Int))) = false then
 (Qr.f s).bind fun r2 =>
 if (!r2) = false then
 (Qy.f r).bind fun r3 =>
 if (!r3) = false then
 (Qbf.f q).bind fun r4 =>
 if (!r4) = false then
 if (decide ((60 : Int) < (q.length : Int))) = true then
 some 1
 else
 some 0
 else
 some 1
 else
 some 1
 else
 some 1
 else
 some 1
def Qbd.l2 (n : Nat) : Nat → List Int → YE → YD → List ByteArray → Int → Option Int
 | 0 => fun _ _ _ _ _ => none
 | k + 1 => Qbd.g2 (Qbd.l2 n k)
def Qbd.top (I2 : List Int → YE → YD → List ByteArray → Int → Option Int) (p : List Int) (s : List YC) (r : List YA) (q : List ByteArray) : Option Int :=
 I2 p s r q 0
def Qbd.fn (n : Nat) (p : List Int) (s : List YC) (r : List YA) (q : List ByteArray) : Option Int := Qbd.top (Qbd.l2 n n) p s r q
def Qbd.f (p : List Int) (s : List YC) (r : List YA) (q : List ByteArray) : Option Int := Qbd.fn NN p s r q
end
end Go.Pl

namespace Go.Pl
open Go.Ev
set_option linter.unusedVariables false
noncomputable section
def Qbj.top (p : List Int) (s : List YC) (q : List YA) (r : List ByteArray) : Option YAG :=
 (Qbd.f p s q r).bind fun r1 =>
 if ((r1 : Int) != 0) = true then
 some ([], r1)
 else
 (Qg.f p s q r).bind fun r2 =>
 some (r2, 0)
def Qbj.fn (n : Nat) (p : List Int) (s : List YC) (q : List YA) (r : List ByteArray) : Option YAG := Qbj.top p s q r
def Qbj.f (p : List Int) (s : List YC) (q : List YA) (r : List ByteArray) : Option YAG := Qbj.fn NN p s q r
end
end Go.Pl

namespace Go.Pl
open Go.Ev
set_option linter.unusedVariables false
set_option linter.unusedSimpArgs false
theorem Qc8 (times : List Int) (l : List Sig) (ms : List Mov) (zs : List ByteArray) (L3 : List Int → List Sig → List Mov → List ByteArray → Int → List Int → Option (List Int)) (hs : SrtM ms) (hms : ∀ m ∈ ms, movB m = true) (hml : ms.length ≤ 1000000) (i T : Int) (hT : 0 ≤ T ∧ T ≤ 1000000) (out : List Int) (ho : out.length ≤ 1000000) : ∀ (r p : List ByteArray) (b : Bool) (k : Nat), zs = p ++ r → p.length + r.length ≤ 1000000 → r.length < k →
    Qg.l9 NN L3 k times l ms zs i T b p.length out = L3 times l ms zs (IntKind.i64.wrap (i + 1)) (out ++ [if (b && r.all (clrB ms · (T * 100))) = true then T else -1]) := by
  intro r
  induction r with
  | nil =>
    intro p b k hz hl hk
    obtain ⟨k, rfl⟩ : ∃ j, k = j + 1 := ⟨k - 1, by omega⟩
    rw [List.append_nil] at hz
    have c1 : ¬ (p.length : Int) < (zs.length : Int) := by rw [hz]; omega
    have h1 : ∀ x : Int, out.length + [x].length < room 8 := fun x => by rw [room8]; simp; omega
    simp only [Qg.l9, Qg.g9, c1, h1, and_self, and_true, true_and, decide_true, decide_false, if_true, if_false, mid_get, mid_set, mid_getn, mid_setn, bt_mid, Option.bind_some, Bool.not_true, Bool.not_false, Bool.false_eq_true, Bool.true_eq_false, beq_self_eq_true, bne_self_eq_false, Int.toNat_natCast, List.all_nil, Bool.and_true]
    cases b <;> rfl
  | cons z r ih =>
    intro p b k hz hl hk
    simp only [List.length_cons] at hl hk
    obtain ⟨k, rfl⟩ : ∃ j, k = j + 1 := ⟨k - 1, by omega⟩
    have c0 : (0 : Int) ≤ (p.length : Int) := by omega
    have c1 : (p.length : Int) < (zs.length : Int) := by rw [hz]; simp; omega
    have cw := w64 (n := (p.length : Int) + 1) (by omega) (by omega)
    have w2 := w64 (n := T * 100) (by omega) (by omega)
    have g : ∀ w, zs.getD p.length w = z := fun w => by rw [hz]; exact mid_getn p r z w
    have i1 := fun b => ih (p ++ [z]) b k (by rw [hz, mid_snoc]) (by simp; omega) (by omega)
    simp only [snoc_len] at i1
    rw [List.all_cons]
    simp only [Qg.l9, Qg.g9, c0, c1, cw, w2, and_self, and_true, true_and, decide_true, decide_false, if_true, if_false, mid_get, mid_set, mid_getn, mid_setn, bt_mid, Option.bind_some, Bool.not_true, Bool.not_false, Bool.false_eq_true, Bool.true_eq_false, beq_self_eq_true, bne_self_eq_false, Int.toNat_natCast, g]
    cases b
    · simp only [and_self, and_true, true_and, decide_true, decide_false, if_true, if_false, mid_get, mid_set, mid_getn, mid_setn, bt_mid, Option.bind_some, Bool.not_true, Bool.not_false, Bool.false_eq_true, Bool.true_eq_false, beq_self_eq_true, bne_self_eq_false, Int.toNat_natCast, Bool.false_and]
      have := i1 false
      simp only [Bool.false_and, Bool.false_eq_true, if_false] at this
      exact this
    · simp only [and_self, and_true, true_and, decide_true, decide_false, if_true, if_false, mid_get, mid_set, mid_getn, mid_setn, bt_mid, Option.bind_some, Bool.not_true, Bool.not_false, Bool.false_eq_true, Bool.true_eq_false, beq_self_eq_true, bne_self_eq_false, Int.toNat_natCast]
      rw [Qcd ms z (by omega) hs hms hml, Option.bind_some, i1, Bool.true_and]
theorem Qce {l : List Sig} (hl : sigsB l = true) {ms : List Mov} (hm : movesB ms = true) (zs : List ByteArray) (hz : zs.length ≤ 1000000) (times : List Int) (htl : times.length ≤ 1000000) (ht : ∀ t ∈ times, 0 ≤ t ∧ t ≤ 10000000) : Qg.f times l ms zs = some (times.map (firT l ms zs)) := by
  obtain ⟨m1, m2, m3⟩ := movesB_iff hm
  have := (fold_fix (E := fun t : Int => 0 ≤ t ∧ t ≤ 10000000) (fun p (st : List Int) => st = p.map (firT l ms zs)) (fun _ st t => st ++ [firT l ms zs t]) (fun st => some st) (fun k i st => Qg.l3 NN k times l ms zs i st) times ?_ ?_ [] ht rfl (by omega) NN (NN_lt (by omega)))
  · unfold Qg.f Qg.fn Qg.top
    rw [this.2, this.1]
  · intro k st _
    simp [Qg.l3, Qg.g3]
  · intro k p t r st hx htt hI c0 c1 c2 cw g
    have hb := tkT_bd htt
    have hpl : p.length ≤ 1000000 := by rw [hx] at htl; simp at htl; omega
    have w1 := w64 (n := Int.tdiv t 100) (by unfold tkT at hb; omega) (by unfold tkT at hb; omega)
    refine ⟨by rw [hI]; simp, ?_⟩
    obtain ⟨q, hq⟩ := Qcr hl (t := tkT t) (by omega)
    have hb' : 0 ≤ Int.tdiv t 100 ∧ Int.tdiv t 100 ≤ 100000 := hb
    have e1 : tkT t = Int.tdiv t 100 := rfl
    rw [e1] at hq
    simp only [Qg.l3, Qg.g3, c0, c1, and_self, and_true, true_and, decide_true, decide_false, if_true, if_false, mid_get, mid_set, mid_getn, mid_setn, bt_mid, Option.bind_some, Bool.not_true, Bool.not_false, Bool.false_eq_true, Bool.true_eq_false, beq_self_eq_true, bne_self_eq_false, Int.toNat_natCast, g, w1, hq]
    have key := fun b => Qc8 times l ms zs (Qg.l3 NN k) m2 m3 (by omega) (p.length : Int) (Int.tdiv t 100) (by omega) st (by rw [hI, List.length_map]; omega) zs [] b NN rfl (by simpa using hz) (NN_lt (by omega))
    simp only [List.length_nil] at key
    have eF : firT l ms zs t = if (mayC (ctlAt l (Int.tdiv t 100)) && zs.all (clrB ms · (Int.tdiv t 100 * 100))) = true then Int.tdiv t 100 else -1 := rfl
    rw [eF]
    unfold mayC
    generalize ctlAt l (Int.tdiv t 100) = c at *
    obtain ⟨a, b, r2, e, s, d⟩ := c
    cases r2
    · simp only [and_self, and_true, true_and, decide_true, decide_false, if_true, if_false, mid_get, mid_set, mid_getn, mid_setn, bt_mid, Option.bind_some, Bool.not_true, Bool.not_false, Bool.false_eq_true, Bool.true_eq_false, beq_self_eq_true, bne_self_eq_false, Int.toNat_natCast, Bool.false_and]
      refine (key false).trans ?_
      rw [cw]
      simp
    · simp only [and_self, and_true, true_and, decide_true, decide_false, if_true, if_false, mid_get, mid_set, mid_getn, mid_setn, bt_mid, Option.bind_some, Bool.not_true, Bool.not_false, Bool.false_eq_true, Bool.true_eq_false, beq_self_eq_true, bne_self_eq_false, Int.toNat_natCast]
      refine (key (!e)).trans ?_
      rw [cw, Bool.true_and]
def zonesB (zs : List ByteArray) : Bool := decide (zs.length ≤ 60) && zs.all wordB
theorem QcR (zs : List ByteArray) (hl : zs.length ≤ 1000000) (hz : ∀ z ∈ zs, Sz z) : QS.f zs = some (zonesB zs) := by
  have := all_loop (E := fun z : ByteArray => Sz z) wordB (fun v => some true) (fun k v i => QS.l4 NN k v v.length i) ?_ ?_ zs hz (by omega) NN (NN_lt (by omega))
  · unfold QS.f QS.fn QS.top zonesB
    by_cases h : (60 : Int) < (zs.length : Int)
    · have : ¬ zs.length ≤ 60 := by omega
      simp [h, this]
    · have h2 : zs.length ≤ 60 := by omega
      simp only [h, h2, and_self, and_true, true_and, decide_true, decide_false, if_true, if_false, mid_get, mid_set, mid_getn, mid_setn, bt_mid, Option.bind_some, Bool.not_true, Bool.not_false, Bool.false_eq_true, Bool.true_eq_false, beq_self_eq_true, bne_self_eq_false, Int.toNat_natCast]
      rw [this]
      cases zs.all wordB <;> rfl
  · intro k p
    simp [QS.l4, QS.g4]
  · intro k p z r hz c0 c1 cw
    simp only [QS.l4, QS.g4, c0, c1, cw, and_self, and_true, true_and, decide_true, decide_false, if_true, if_false, mid_get, mid_set, mid_getn, mid_setn, bt_mid, Option.bind_some, Bool.not_true, Bool.not_false, Bool.false_eq_true, Bool.true_eq_false, beq_self_eq_true, bne_self_eq_false, Int.toNat_natCast]
    rw [QbL z hz]
    cases wordB z <;> rfl
theorem Qc9 (zs : List ByteArray) (hl : zs.length ≤ 1000000) (hz : ∀ z ∈ zs, Sz z) : Qbf.f zs = some (zs.all wordB) := by
  have := all_loop (E := fun z : ByteArray => Sz z) wordB (fun v => some true) (fun k v i => Qbf.l2 NN k v i) ?_ ?_ zs hz (by omega) NN (NN_lt (by omega))
  · unfold Qbf.f Qbf.fn Qbf.top
    rw [this]
    cases zs.all wordB <;> rfl
  · intro k p
    simp [Qbf.l2, Qbf.g2]
  · intro k p z r hz c0 c1 cw
    simp only [Qbf.l2, Qbf.g2, c0, c1, cw, and_self, and_true, true_and, decide_true, decide_false, if_true, if_false, mid_get, mid_set, mid_getn, mid_setn, bt_mid, Option.bind_some, Bool.not_true, Bool.not_false, Bool.false_eq_true, Bool.true_eq_false, beq_self_eq_true, bne_self_eq_false, Int.toNat_natCast]
    rw [QbM z hz]
    cases wordB z <;> rfl
def firOk (times : List Int) (l : List Sig) (ms : List Mov) (zs : List ByteArray) : Bool := decide (times.length ≤ 20) && times.all (inB · 0 10000000) && sigsB l && movesB ms && zonesB zs
def firR (times : List Int) (l : List Sig) (ms : List Mov) (zs : List ByteArray) : List Int × Int := if firOk times l ms zs = true then (times.map (firT l ms zs), 0) else ([], 1)
theorem QcS (times : List Int) (l : List Sig) (ms : List Mov) (zs : List ByteArray) (h1 : times.length ≤ 1000000) (h2 : l.length ≤ 1000000) (h3 : ms.length ≤ 1000000) (h3z : ∀ m ∈ ms, Sz m.2.1) (h4 : zs.length ≤ 1000000) (h4z : ∀ z ∈ zs, Sz z) : QaP.f times l ms zs = some (firOk times l ms zs) := by
  unfold QaP.f QaP.fn QaP.top Qav.f Qav.fn Qav.top firOk
  rw [QcD times 0 10000000 (by omega), QbE l h2, QbP ms h3 h3z, QcR zs h4 h4z]
  have e : decide ((times.length : Int) ≤ 20) = decide (times.length ≤ 20) := by congr 1; exact propext (by omega)
  rw [e]
  cases decide (times.length ≤ 20) <;> cases times.all (inB · 0 10000000) <;> cases sigsB l <;> cases movesB ms <;> cases zonesB zs <;> rfl
theorem QcT (times : List Int) (l : List Sig) (ms : List Mov) (zs : List ByteArray) (h1 : times.length ≤ 1000000) (h2 : l.length ≤ 1000000) (h3 : ms.length ≤ 1000000) (h3z : ∀ m ∈ ms, Sz m.2.1) (h4 : zs.length ≤ 1000000) (h4z : ∀ z ∈ zs, Sz z) : Qbd.f times l ms zs = some (if firOk times l ms zs = true then 0 else 1) := by
  have key : ∀ (r p : List Int) (k : Nat), p.length + r.length ≤ 1000000 → r.length < k → Qbd.l2 NN k (p ++ r) l ms zs p.length = some (if (r.all (inB · 0 10000000) && (decide ((p ++ r).length ≤ 20) && sigsB l && movesB ms && zonesB zs)) = true then 0 else 1) := by
    intro r
    induction r with
    | nil =>
      intro p k _ hk
      obtain ⟨k, rfl⟩ : ∃ j, k = j + 1 := ⟨k - 1, by omega⟩
      simp only [List.append_nil, Qbd.l2, Qbd.g2, Int.lt_irrefl, and_self, and_true, true_and, decide_true, decide_false, if_true, if_false, mid_get, mid_set, mid_getn, mid_setn, bt_mid, Option.bind_some, Bool.not_true, Bool.not_false, Bool.false_eq_true, Bool.true_eq_false, beq_self_eq_true, bne_self_eq_false, Int.toNat_natCast, List.all_nil, zonesB]
      rw [QbF l h2, QbQ ms h3 h3z, Qc9 zs h4 h4z]
      have e : decide ((20 : Int) < (p.length : Int)) = !decide (p.length ≤ 20) := by rw [← decide_not]; congr 1; exact propext (by omega)
      have e2 : decide ((60 : Int) < (zs.length : Int)) = !decide (zs.length ≤ 60) := by rw [← decide_not]; congr 1; exact propext (by omega)
      rw [e, e2]
      cases decide (p.length ≤ 20) <;> cases sigsB l <;> cases movesB ms <;> cases zs.all wordB <;> cases decide (zs.length ≤ 60) <;> rfl
    | cons t r ih =>
      intro p k hl hk
      simp only [List.length_cons] at hl hk
      obtain ⟨k, rfl⟩ : ∃ j, k = j + 1 := ⟨k - 1, by omega⟩
      have hln := mid_len p r t
      have c0 : (0 : Int) ≤ (p.length : Int) := by omega
      have c1 : (p.length : Int) < ((p ++ t :: r).length : Int) := by omega
      have cw := w64 (n := (p.length : Int) + 1) (by omega) (by omega)
      have i := ih (p ++ [t]) k (by simp; omega) (by omega)
      rw [mid_snoc, snoc_len] at i
      rw [List.all_cons]
      simp only [Qbd.l2, Qbd.g2, c0, c1, cw, and_self, and_true, true_and, decide_true, decide_false, if_true, if_false, mid_get, mid_set, mid_getn, mid_setn, bt_mid, Option.bind_some, Bool.not_true, Bool.not_false, Bool.false_eq_true, Bool.true_eq_false, beq_self_eq_true, bne_self_eq_false, Int.toNat_natCast, Qbz]
      cases inB t 0 10000000
      · simp
      · simp only [and_self, and_true, true_and, decide_true, decide_false, if_true, if_false, mid_get, mid_set, mid_getn, mid_setn, bt_mid, Option.bind_some, Bool.not_true, Bool.not_false, Bool.false_eq_true, Bool.true_eq_false, beq_self_eq_true, bne_self_eq_false, Int.toNat_natCast]
        exact i
  have := key times [] NN (by simpa using h1) (NN_lt (by omega))
  rw [List.nil_append] at this
  unfold Qbd.f Qbd.fn Qbd.top
  refine Eq.trans this ?_
  have e : (times.all (inB · 0 10000000) && (decide (times.length ≤ 20) && sigsB l && movesB ms && zonesB zs)) = firOk times l ms zs := by
    unfold firOk
    cases decide (times.length ≤ 20) <;> cases times.all (inB · 0 10000000) <;> cases sigsB l <;> cases movesB ms <;> cases zonesB zs <;> rfl
  rw [e]
theorem FiredSafely_both (times : List Int) (l : List Sig) (ms : List Mov) (zs : List ByteArray) (h1 : times.length ≤ 1000000) (h2 : l.length ≤ 1000000) (h3 : ms.length ≤ 1000000) (h3z : ∀ m ∈ ms, Sz m.2.1) (h4 : zs.length ≤ 1000000) (h4z : ∀ z ∈ zs, Sz z) : Qat.f times l ms zs = some (firR times l ms zs) ∧ Qbj.f times l ms zs = some (firR times l ms zs) := by
  unfold Qat.f Qat.fn Qat.top Qbj.f Qbj.fn Qbj.top firR
  rw [QcS times l ms zs h1 h2 h3 h3z h4 h4z, QcT times l ms zs h1 h2 h3 h3z h4 h4z]
  by_cases h : firOk times l ms zs = true
  · have h' := h
    unfold firOk at h'
    simp only [Bool.and_eq_true, decide_eq_true_eq, List.all_eq_true, inB_iff] at h'
    rw [h]
    simp only [and_self, and_true, true_and, decide_true, decide_false, if_true, if_false, mid_get, mid_set, mid_getn, mid_setn, bt_mid, Option.bind_some, Bool.not_true, Bool.not_false, Bool.false_eq_true, Bool.true_eq_false, beq_self_eq_true, bne_self_eq_false, Int.toNat_natCast]
    rw [Qcv h'.1.1.2 h'.1.2 zs h4 times h1 (fun t ht => h'.1.1.1.2 t ht), Qce h'.1.1.2 h'.1.2 zs h4 times h1 (fun t ht => h'.1.1.1.2 t ht)]
    exact ⟨rfl, rfl⟩
  · have h' : firOk times l ms zs = false := by simpa using h
    rw [h']
    exact ⟨rfl, rfl⟩
end Go.Pl

namespace Go.Pl
open Go.Ev
set_option linter.unusedVariables false
set_option linter.unusedSimpArgs false
abbrev LC := Int → Bool → Bool → Bool → Bool → Bool → Int → List Sig → Int → Int → Ctl → List Int → Option (Ctl × Int)
theorem ca_beg1 (L7 : LC) (tick : Int) (v1 v2 v3 v4 v5 : Bool) (v6 : Int) (b1 : List Sig) (b2 b3 : Int) (b4 : Ctl) (b5 : List Int) (u1 u2 u3 u4 u5 : Bool) (u6 : Int) (T : Int) : ∀ (r p : List Sig) (c : Ctl) (ref : List Int) (k : Nat), p.length + r.length ≤ 1000000 → r.length < k → DeadOk c → SrtF T r → (∀ m ∈ r, 0 ≤ m.2 ∧ m.2 ≤ 9) → ref.length ≤ p.length →
    ∃ (p' r' : List Sig) (c' : Ctl) (ref' : List Int), p' ++ r' = p ++ r ∧ SrtF (T + 1) r' ∧ DeadOk c' ∧ ref'.length ≤ p'.length ∧ (∀ t, T ≤ t → atR r' c' T t = atR r c T t) ∧ (∀ m ∈ r', 0 ≤ m.2 ∧ m.2 ≤ 9) ∧
      Qa.l100000001 NN L7 k tick v1 v2 v3 v4 v5 v6 b1 b2 b3 b4 b5 u1 u2 u3 u4 u5 u6 (p ++ r) p.length T c ref = L7 tick u1 u2 u3 u4 u5 u6 (p ++ r) p'.length T c' ref' := by
  intro r
  induction r with
  | nil =>
    intro p c ref k _ hk hc _ _ hr
    obtain ⟨k, rfl⟩ : ∃ j, k = j + 1 := ⟨k - 1, by omega⟩
    refine ⟨p, [], c, ref, rfl, trivial, hc, hr, fun _ _ => rfl, by simp, ?_⟩
    simp only [List.append_nil, Qa.l100000001, Qa.g100000001, Int.lt_irrefl, and_self, and_true, true_and, decide_true, decide_false, if_true, if_false, mid_get, mid_set, mid_getn, mid_setn, bt_mid, Option.bind_some, Bool.not_true, Bool.not_false, Bool.false_eq_true, Bool.true_eq_false, beq_self_eq_true, bne_self_eq_false, Int.toNat_natCast]
  | cons m r ih =>
    intro p c ref k hl hk hc hs hm hr
    simp only [List.length_cons] at hl hk
    obtain ⟨k, rfl⟩ : ∃ j, k = j + 1 := ⟨k - 1, by omega⟩
    have hln := mid_len p r m
    have c0 : (0 : Int) ≤ (p.length : Int) := by omega
    have c1 : (p.length : Int) < ((p ++ m :: r).length : Int) := by omega
    have cw := w64 (n := (p.length : Int) + 1) (by omega) (by omega)
    have hs1 := hs.1
    by_cases h : m.1 = T
    · have st : ∀ (c1 : Ctl) (ref1 : List Int), c1 = giveB c m.2 → ref1.length ≤ p.length + 1 → ∃ (p' r' : List Sig) (c' : Ctl) (ref' : List Int), p' ++ r' = p ++ m :: r ∧ SrtF (T + 1) r' ∧ DeadOk c' ∧ ref'.length ≤ p'.length ∧ (∀ t, T ≤ t → atR r' c' T t = atR (m :: r) c T t) ∧ (∀ m ∈ r', 0 ≤ m.2 ∧ m.2 ≤ 9) ∧
          Qa.l100000001 NN L7 k tick v1 v2 v3 v4 v5 v6 b1 b2 b3 b4 b5 u1 u2 u3 u4 u5 u6 (p ++ m :: r) ((p.length : Int) + 1) T c1 ref1 = L7 tick u1 u2 u3 u4 u5 u6 (p ++ m :: r) p'.length T c' ref' := by
        intro c1 ref1 e1 hr1
        have i := ih (p ++ [m]) c1 ref1 k (by simp; omega) (by omega) (by rw [e1]; exact give_dead hc _) (by rw [← h]; exact hs.2) (fun x hx => hm x (by simp [hx])) (by simp; omega)
        rw [mid_snoc, snoc_len] at i
        obtain ⟨p', r', c', ref', i1, i2, i3, i4, i5, i6, i7⟩ := i
        refine ⟨p', r', c', ref', i1, i2, i3, i4, fun t ht => ?_, i6, i7⟩
        rw [i5 t ht, e1, show m = (T, m.2) by rw [← h], atR_give T m.2 r c ht]
      have hg := QbA c m.2 hc (hm m (by simp))
      have e0 : (m.1 == T) = true := by rw [h]; simp
      simp only [Qa.l100000001, Qa.g100000001, c0, c1, cw, e0, hg, and_self, and_true, true_and, decide_true, decide_false, if_true, if_false, mid_get, mid_set, mid_getn, mid_setn, bt_mid, Option.bind_some, Bool.not_true, Bool.not_false, Bool.false_eq_true, Bool.true_eq_false, beq_self_eq_true, bne_self_eq_false, Int.toNat_natCast]
      cases hq : giveC c m.2 with
      | some y =>
        simp only [and_self, and_true, true_and, decide_true, decide_false, if_true, if_false, mid_get, mid_set, mid_getn, mid_setn, bt_mid, Option.bind_some, Bool.not_true, Bool.not_false, Bool.false_eq_true, Bool.true_eq_false, beq_self_eq_true, bne_self_eq_false, Int.toNat_natCast]
        exact st y ref (by unfold giveB; rw [hq]; rfl) (by omega)
      | none =>
        have n5 : ((5 : Int) == 0) = false := rfl
        have hro : ref.length + [(p.length : Int)].length < room 8 := by rw [room8]; simp; omega
        simp only [n5, hro, and_self, and_true, true_and, decide_true, decide_false, if_true, if_false, mid_get, mid_set, mid_getn, mid_setn, bt_mid, Option.bind_some, Bool.not_true, Bool.not_false, Bool.false_eq_true, Bool.true_eq_false, beq_self_eq_true, bne_self_eq_false, Int.toNat_natCast]
        exact st c (ref ++ [(p.length : Int)]) (by unfold giveB; rw [hq]; rfl) (by simp; omega)
    · have e0 : (m.1 == T) = false := by simpa using h
      refine ⟨p, m :: r, c, ref, rfl, ⟨by omega, hs.2⟩, hc, hr, fun _ _ => rfl, hm, ?_⟩
      simp only [Qa.l100000001, Qa.g100000001, c0, c1, e0, and_self, and_true, true_and, decide_true, decide_false, if_true, if_false, mid_get, mid_set, mid_getn, mid_setn, bt_mid, Option.bind_some, Bool.not_true, Bool.not_false, Bool.false_eq_true, Bool.true_eq_false, beq_self_eq_true, bne_self_eq_false, Int.toNat_natCast]
theorem ca_beg0 (tick : Int) (v1 v2 v3 v4 v5 : Bool) (v6 : Int) (b1 : List Sig) (b2 b3 : Int) (x1 x2 x3 x4 x5 : Bool) (x6 : Int) (b5 : List Int) (u1 u2 u3 u4 u5 : Bool) (u6 : Int) (T : Int) : ∀ (r p : List Sig) (c : Ctl) (ref : List Int) (k : Nat), p.length + r.length ≤ 1000000 → r.length < k → DeadOk c → SrtF T r → (∀ m ∈ r, 0 ≤ m.2 ∧ m.2 ≤ 9) → ref.length ≤ p.length →
    ∃ (p' r' : List Sig) (c' : Ctl) (ref' : List Int), p' ++ r' = p ++ r ∧ SrtF (T + 1) r' ∧ DeadOk c' ∧ ref'.length ≤ p'.length ∧ (∀ t, T ≤ t → atR r' c' T t = atR r c T t) ∧ (∀ m ∈ r', 0 ≤ m.2 ∧ m.2 ≤ 9) ∧
      Qa.l70000001 NN k tick v1 v2 v3 v4 v5 v6 b1 b2 b3 x1 x2 x3 x4 x5 x6 b5 u1 u2 u3 u4 u5 u6 (p ++ r) p.length T c ref = Qa.l1000007 NN NN tick u1 u2 u3 u4 u5 u6 (p ++ r) p'.length T c' ref' := by
  intro r
  induction r with
  | nil =>
    intro p c ref k _ hk hc _ _ hr
    obtain ⟨k, rfl⟩ : ∃ j, k = j + 1 := ⟨k - 1, by omega⟩
    refine ⟨p, [], c, ref, rfl, trivial, hc, hr, fun _ _ => rfl, by simp, ?_⟩
    simp only [List.append_nil, Qa.l70000001, Qa.g70000001, Int.lt_irrefl, and_self, and_true, true_and, decide_true, decide_false, if_true, if_false, mid_get, mid_set, mid_getn, mid_setn, bt_mid, Option.bind_some, Bool.not_true, Bool.not_false, Bool.false_eq_true, Bool.true_eq_false, beq_self_eq_true, bne_self_eq_false, Int.toNat_natCast]
  | cons m r ih =>
    intro p c ref k hl hk hc hs hm hr
    simp only [List.length_cons] at hl hk
    obtain ⟨k, rfl⟩ : ∃ j, k = j + 1 := ⟨k - 1, by omega⟩
    have hln := mid_len p r m
    have c0 : (0 : Int) ≤ (p.length : Int) := by omega
    have c1 : (p.length : Int) < ((p ++ m :: r).length : Int) := by omega
    have cw := w64 (n := (p.length : Int) + 1) (by omega) (by omega)
    have hs1 := hs.1
    by_cases h : m.1 = T
    · have st : ∀ (c1 : Ctl) (ref1 : List Int), c1 = giveB c m.2 → ref1.length ≤ p.length + 1 → ∃ (p' r' : List Sig) (c' : Ctl) (ref' : List Int), p' ++ r' = p ++ m :: r ∧ SrtF (T + 1) r' ∧ DeadOk c' ∧ ref'.length ≤ p'.length ∧ (∀ t, T ≤ t → atR r' c' T t = atR (m :: r) c T t) ∧ (∀ m ∈ r', 0 ≤ m.2 ∧ m.2 ≤ 9) ∧
          Qa.l70000001 NN k tick v1 v2 v3 v4 v5 v6 b1 b2 b3 x1 x2 x3 x4 x5 x6 b5 u1 u2 u3 u4 u5 u6 (p ++ m :: r) ((p.length : Int) + 1) T c1 ref1 = Qa.l1000007 NN NN tick u1 u2 u3 u4 u5 u6 (p ++ m :: r) p'.length T c' ref' := by
        intro c1 ref1 e1 hr1
        have i := ih (p ++ [m]) c1 ref1 k (by simp; omega) (by omega) (by rw [e1]; exact give_dead hc _) (by rw [← h]; exact hs.2) (fun x hx => hm x (by simp [hx])) (by simp; omega)
        rw [mid_snoc, snoc_len] at i
        obtain ⟨p', r', c', ref', i1, i2, i3, i4, i5, i6, i7⟩ := i
        refine ⟨p', r', c', ref', i1, i2, i3, i4, fun t ht => ?_, i6, i7⟩
        rw [i5 t ht, e1, show m = (T, m.2) by rw [← h], atR_give T m.2 r c ht]
      have hg := QbA c m.2 hc (hm m (by simp))
      have e0 : (m.1 == T) = true := by rw [h]; simp
      simp only [Qa.l70000001, Qa.g70000001, c0, c1, cw, e0, hg, and_self, and_true, true_and, decide_true, decide_false, if_true, if_false, mid_get, mid_set, mid_getn, mid_setn, bt_mid, Option.bind_some, Bool.not_true, Bool.not_false, Bool.false_eq_true, Bool.true_eq_false, beq_self_eq_true, bne_self_eq_false, Int.toNat_natCast]
      cases hq : giveC c m.2 with
      | some y =>
        simp only [and_self, and_true, true_and, decide_true, decide_false, if_true, if_false, mid_get, mid_set, mid_getn, mid_setn, bt_mid, Option.bind_some, Bool.not_true, Bool.not_false, Bool.false_eq_true, Bool.true_eq_false, beq_self_eq_true, bne_self_eq_false, Int.toNat_natCast]
        exact st y ref (by unfold giveB; rw [hq]; rfl) (by omega)
      | none =>
        have n5 : ((5 : Int) == 0) = false := rfl
        have hro : ref.length + [(p.length : Int)].length < room 8 := by rw [room8]; simp; omega
        simp only [n5, hro, and_self, and_true, true_and, decide_true, decide_false, if_true, if_false, mid_get, mid_set, mid_getn, mid_setn, bt_mid, Option.bind_some, Bool.not_true, Bool.not_false, Bool.false_eq_true, Bool.true_eq_false, beq_self_eq_true, bne_self_eq_false, Int.toNat_natCast]
        exact st c (ref ++ [(p.length : Int)]) (by unfold giveB; rw [hq]; rfl) (by simp; omega)
    · have e0 : (m.1 == T) = false := by simpa using h
      refine ⟨p, m :: r, c, ref, rfl, ⟨by omega, hs.2⟩, hc, hr, fun _ _ => rfl, hm, ?_⟩
      simp only [Qa.l70000001, Qa.g70000001, c0, c1, e0, and_self, and_true, true_and, decide_true, decide_false, if_true, if_false, mid_get, mid_set, mid_getn, mid_setn, bt_mid, Option.bind_some, Bool.not_true, Bool.not_false, Bool.false_eq_true, Bool.true_eq_false, beq_self_eq_true, bne_self_eq_false, Int.toNat_natCast]
theorem ca_main (l : List Sig) (hll : l.length ≤ 1000000) (tick : Int) (ht : tick ≤ 1000000) (v1 v2 v3 v4 v5 : Bool) (v6 : Int) : ∀ (n : Nat) (T : Int) (p r : List Sig) (c : Ctl) (ref : List Int) (k : Nat), 0 ≤ T → T + n = tick → n < k → l = p ++ r → SrtF (T + 1) r → DeadOk c → ref.length ≤ p.length → (∀ m ∈ r, 0 ≤ m.2 ∧ m.2 ≤ 9) → (∀ t, T ≤ t → atR r c T t = ctlAt l t) →
    Qa.l7 NN k tick v1 v2 v3 v4 v5 v6 l p.length T c ref = some (ctlAt l tick, 0) := by
  intro n
  induction n with
  | zero =>
    intro T p r c ref k _ hT hk _ hs _ _ _ hat
    obtain ⟨k, rfl⟩ : ∃ j, k = j + 1 := ⟨k - 1, by omega⟩
    have c1 : ¬ T < tick := by omega
    have hTt : T = tick := by omega
    simp only [Qa.l7, Qa.g7, c1, and_self, and_true, true_and, decide_true, decide_false, if_true, if_false, mid_get, mid_set, mid_getn, mid_setn, bt_mid, Option.bind_some, Bool.not_true, Bool.not_false, Bool.false_eq_true, Bool.true_eq_false, beq_self_eq_true, bne_self_eq_false, Int.toNat_natCast]
    rw [← hTt, ← hat T (Int.le_refl T), atR_now c hs]
  | succ n ih =>
    intro T p r c ref k h0 hT hk hl hs hc hr hm hat
    obtain ⟨k, rfl⟩ : ∃ j, k = j + 1 := ⟨k - 1, by omega⟩
    have c1 : T < tick := by omega
    have hll2 := hll
    rw [hl, List.length_append] at hll2
    have w1 := w64 (n := T + 1) (by omega) (by omega)
    simp only [Qa.l7, Qa.g7, c1, and_self, and_true, true_and, decide_true, decide_false, if_true, if_false, mid_get, mid_set, mid_getn, mid_setn, bt_mid, Option.bind_some, Bool.not_true, Bool.not_false, Bool.false_eq_true, Bool.true_eq_false, beq_self_eq_true, bne_self_eq_false, Int.toNat_natCast]
    rw [Qa.c1000008 nn0]
    unfold Qa.g1000008
    rw [QbA c 8 hc (by omega), give_tk]
    simp only [Option.bind_some, w1]
    rw [Qa.c1000009 nn0]
    unfold Qa.g1000009
    obtain ⟨p', r', c', ref', b1, b2, b3, b4, b5, b6, b7⟩ := ca_beg1 (Qa.l7 NN k) tick v1 v2 v3 v4 v5 v6 l p.length (T + 1) (tkC c) ref v1 v2 v3 v4 v5 v6 (T + 1) r p (tkC c) ref NN hll2 (NN_lt (by omega)) (tk_dead hc) hs hm hr
    rw [← hl] at b7 b1
    refine Eq.trans b7 ?_
    exact ih (T + 1) p' r' c' ref' k (by omega) (by omega) (by omega) b1.symm b2 b3 b4 b6 (fun t h => by rw [b5 t h, ← atR_step c hs h, hat t (by omega)])
def caR (l : List Sig) (tick : Int) : Ctl × Int := if sigsB l = true then (if inB tick 0 100000 = true then (ctlAt l tick, 0) else ((false, false, false, false, false, 0), 2)) else ((false, false, false, false, false, 0), 1)
theorem ControllerAt_both (l : List Sig) (tick : Int) (hl : l.length ≤ 1000000) : Qaq.f l tick = some (caR l tick) ∧ Qa.f l tick = some (caR l tick) := by
  unfold Qaq.f Qaq.fn Qaq.top Qa7.f Qa7.fn Qa7.top Qa.f Qa.fn Qa.top caR
  rw [QbF l hl, QbE l hl, Qbi, Qcq]
  cases hb : sigsB l
  · exact ⟨rfl, rfl⟩
  cases ht : inB tick 0 100000
  · exact ⟨rfl, rfl⟩
  have ht' := inB_iff.1 ht
  obtain ⟨h1, h2, h3⟩ := sigsB_iff hb
  have e : ((0 : Int) != 0) = false := rfl
  refine ⟨?_, ?_⟩
  · obtain ⟨q, hq⟩ := Qcr hb (t := tick) (by omega)
    simp only [e, and_self, and_true, true_and, decide_true, decide_false, if_true, if_false, mid_get, mid_set, mid_getn, mid_setn, bt_mid, Option.bind_some, Bool.not_true, Bool.not_false, Bool.false_eq_true, Bool.true_eq_false, beq_self_eq_true, bne_self_eq_false, Int.toNat_natCast, hq]
  · simp only [and_self, and_true, true_and, decide_true, decide_false, if_true, if_false, mid_get, mid_set, mid_getn, mid_setn, bt_mid, Option.bind_some, Bool.not_true, Bool.not_false, Bool.false_eq_true, Bool.true_eq_false, beq_self_eq_true, bne_self_eq_false, Int.toNat_natCast]
    rw [Qa.c1000006 nn0]
    unfold Qa.g1000006
    obtain ⟨p', r', c', ref', b1, b2, b3, b4, b5, b6, b7⟩ := ca_beg0 tick false false false false false 0 l 0 0 false false false false false 0 [] false false false false false 0 0 l [] (false, false, false, false, false, 0) [] NN (by simpa using hl) (NN_lt (by omega)) ctl0_dead h2 (fun m h => (h3 m h).2.1) (by simp)
    rw [List.nil_append] at b7 b1
    refine Eq.trans b7 ?_
    rw [Qa.c1000007 nn0]
    unfold Qa.g1000007
    exact ca_main l hl tick (by omega) _ _ _ _ _ _ tick.toNat 0 p' r' c' ref' NN (by omega) (by omega) (NN_lt (by omega)) b1.symm b2 b3 b4 b6 (fun t h => b5 t h)
end Go.Pl

namespace Go.Pl
open Go.Ev
set_option linter.unusedVariables false
set_option linter.unusedSimpArgs false
theorem ok_snoc {α : Type} {Q : α → Prop} {xs : List α} {b : α} (h : Lm Q xs) (hb : Q b) (hl : xs.length < 1000000) : Lm Q (xs ++ [b]) :=
  ⟨by simp; omega, fun x hx => by
    rcases List.mem_append.1 hx with h1 | h1
    · exact h.2 x h1
    · rw [List.mem_singleton.1 h1]; exact hb⟩
def bookR (xs : List (Int × ByteArray × Int)) (b : Int × ByteArray × Int) : List (Int × ByteArray × Int) × Int :=
  if booksB xs = true then (if xs.length = 60 then ([], 3) else if booksB (xs ++ [b]) = true then (xs ++ [b], 0) else ([], 5)) else ([], 1)
theorem Qcw (xs : List (Int × ByteArray × Int)) (b : Int × ByteArray × Int) (h : Lm OkBooking xs) (hb : OkBooking b) : Q6.f xs b = some (bookR xs b) := by
  unfold Q6.f Q6.fn Q6.top bookR
  rw [Qby xs h]
  cases hx : booksB xs
  · rfl
  have hv := booksB_val hx
  simp only [and_self, and_true, true_and, decide_true, decide_false, if_true, if_false, mid_get, mid_set, mid_getn, mid_setn, bt_mid, Option.bind_some, Bool.not_true, Bool.not_false, Bool.false_eq_true, Bool.true_eq_false, beq_self_eq_true, bne_self_eq_false, Int.toNat_natCast]
  by_cases h60 : xs.length = 60
  · simp [h60]
  · have e1 : ((xs.length : Int) == 60) = false := by rw [beq_eq_false_iff_ne]; omega
    have e2 : ([] : List (Int × ByteArray × Int)).length + xs.length < room 32 := by rw [room32]; simp; omega
    have e3 : (([] : List (Int × ByteArray × Int)) ++ xs).length + [b].length < room 32 := by rw [room32]; simp; omega
    simp only [e1, e2, e3, h60, and_self, and_true, true_and, decide_true, decide_false, if_true, if_false, mid_get, mid_set, mid_getn, mid_setn, bt_mid, Option.bind_some, Bool.not_true, Bool.not_false, Bool.false_eq_true, Bool.true_eq_false, beq_self_eq_true, bne_self_eq_false, Int.toNat_natCast]
    rw [List.nil_append, Qby (xs ++ [b]) (ok_snoc h hb (by omega))]
    cases booksB (xs ++ [b]) <;> rfl
theorem Qcx (xs : List (Int × ByteArray × Int)) (b : Int × ByteArray × Int) (h : Lm OkBooking xs) (hb : OkBooking b) : QT.f xs b = some (bookR xs b) := by
  unfold QT.f QT.fn QT.top bookR
  rw [Qbx xs h]
  cases hx : booksB xs
  · rfl
  have hv := booksB_val hx
  simp only [and_self, and_true, true_and, decide_true, decide_false, if_true, if_false, mid_get, mid_set, mid_getn, mid_setn, bt_mid, Option.bind_some, Bool.not_true, Bool.not_false, Bool.false_eq_true, Bool.true_eq_false, beq_self_eq_true, bne_self_eq_false, Int.toNat_natCast]
  by_cases h60 : xs.length = 60
  · simp [h60]
  · have e1 : ((xs.length : Int) == 60) = false := by rw [beq_eq_false_iff_ne]; omega
    have e2 : ([] : List (Int × ByteArray × Int)).length + xs.length < room 32 := by rw [room32]; simp; omega
    have e3 : (([] : List (Int × ByteArray × Int)) ++ xs).length + [b].length < room 32 := by rw [room32]; simp; omega
    simp only [e1, e2, e3, h60, and_self, and_true, true_and, decide_true, decide_false, if_true, if_false, mid_get, mid_set, mid_getn, mid_setn, bt_mid, Option.bind_some, Bool.not_true, Bool.not_false, Bool.false_eq_true, Bool.true_eq_false, beq_self_eq_true, bne_self_eq_false, Int.toNat_natCast]
    rw [List.nil_append, Qbx (xs ++ [b]) (ok_snoc h hb (by omega))]
    cases booksB (xs ++ [b]) <;> rfl
end Go.Pl

namespace Go.Pl
open Go.Ev
set_option linter.unusedVariables false
noncomputable section
def QbT.top (p : List YA) : Option (Bool × Int) :=
 (Ql.f p).bind fun r1 =>
 if (!r1) = true then
 some (false, 1)
 else
 (Qp.f p).bind fun r2 =>
 some (((r2.length : Int) : Int) == 0, 0)
def QbT.fn (n : Nat) (p : List YA) : Option (Bool × Int) := QbT.top p
def QbT.f (p : List YA) : Option (Bool × Int) := QbT.fn NN p
end
end Go.Pl

namespace Go.Pl
open Go.Ev
set_option linter.unusedVariables false
noncomputable section
def QbU.top (p : List YA) : Option (Bool × Int) :=
 (Qj.f p).bind fun r1 =>
 if (!r1) = true then
 some (false, 1)
 else
 (Q0.f p).bind fun r2 =>
 some (((r2.length : Int) : Int) == 0, 0)
def QbU.fn (n : Nat) (p : List YA) : Option (Bool × Int) := QbU.top p
def QbU.f (p : List YA) : Option (Bool × Int) := QbU.fn NN p
end
end Go.Pl

namespace Go.Pl
open Go.Ev
set_option linter.unusedVariables false
noncomputable section
def QbG.top (p : List YA) : Option YAE :=
 (Ql.f p).bind fun r1 =>
 if (!r1) = true then
 some ([], 1)
 else
 (Qp.f p).bind fun r2 =>
 some (r2, 0)
def QbG.fn (n : Nat) (p : List YA) : Option YAE := QbG.top p
def QbG.f (p : List YA) : Option YAE := QbG.fn NN p
end
end Go.Pl

namespace Go.Pl
open Go.Ev
set_option linter.unusedVariables false
noncomputable section
def QbH.top (p : List YA) : Option YAE :=
 (Qj.f p).bind fun r1 =>
 if (!r1) = true then
 some ([], 1)
 else
 (Q0.f p).bind fun r2 =>
 some (r2, 0)
def QbH.fn (n : Nat) (p : List YA) : Option YAE := QbH.top p
def QbH.f (p : List YA) : Option YAE := QbH.fn NN p
end
end Go.Pl

namespace Go.Pl
open Go.Ev
set_option linter.unusedVariables false
set_option linter.unusedSimpArgs false
abbrev Bkg := Int × ByteArray × Int
def openF (xs : List Bkg) (st : List ByteArray) (b : Bkg) : List ByteArray := if 0 < leftOf xs b.2.1 then insW b.2.1 st else st
def openL (xs : List Bkg) : List ByteArray := xs.foldl (openF xs) []
structure OI (xs p : List Bkg) (st : List ByteArray) : Prop where
  srt : SrtW st
  len : st.length ≤ p.length
  mem : ∀ w, w ∈ st ↔ (∃ b ∈ p, b.2.1 = w) ∧ 0 < leftOf xs w
theorem oi_step {xs p : List Bkg} {st : List ByteArray} (b : Bkg) (h : OI xs p st) : OI xs (p ++ [b]) (openF xs st b) := by
  unfold openF
  split
  · rename_i hp
    refine ⟨insW_srt h.srt, by have := insW_len b.2.1 st; have := h.len; simp; omega, fun w => ?_⟩
    rw [mem_insW, h.mem]
    constructor
    · rintro (rfl | ⟨⟨c, h1, h2⟩, h3⟩)
      · exact ⟨⟨b, by simp, rfl⟩, hp⟩
      · exact ⟨⟨c, by simp [h1], h2⟩, h3⟩
    · rintro ⟨⟨c, h1, h2⟩, h3⟩
      rcases List.mem_append.1 h1 with h1 | h1
      · exact .inr ⟨⟨c, h1, h2⟩, h3⟩
      · rw [List.mem_singleton.1 h1] at h2; exact .inl h2.symm
  · rename_i hp
    refine ⟨h.srt, by have := h.len; simp; omega, fun w => ?_⟩
    rw [h.mem]
    constructor
    · rintro ⟨⟨c, h1, h2⟩, h3⟩; exact ⟨⟨c, by simp [h1], h2⟩, h3⟩
    · rintro ⟨⟨c, h1, h2⟩, h3⟩
      rcases List.mem_append.1 h1 with h1 | h1
      · exact ⟨⟨c, h1, h2⟩, h3⟩
      · rw [List.mem_singleton.1 h1] at h2; rw [h2] at hp; exact absurd h3 hp
theorem oi_nil (xs : List Bkg) : OI xs [] [] := ⟨List.Pairwise.nil, by simp, fun w => by simp⟩
theorem open_both (xs : List Bkg) (h : ∀ b ∈ xs, valB b = true) (hl : xs.length ≤ 1000000) : OI xs xs (openL xs) ∧ Qp.f xs = some (openL xs) ∧ Q0.f xs = some (openL xs) := by
  have e1 := fold_fix (E := fun _ => True) (fun p st => OI xs p st) (fun _ => openF xs) (fun st => some st) (fun k i st => Qp.l3 NN k xs xs xs.length i st) xs ?_ ?_ [] (fun _ _ => trivial) (oi_nil xs) (by omega) NN (NN_lt (by omega))
  have e2 := fold_fix (E := fun _ => True) (fun p st => OI xs p st) (fun _ => openF xs) (fun st => some st) (fun k i st => Q0.l3 NN k xs i st) xs ?_ ?_ [] (fun _ _ => trivial) (oi_nil xs) (by omega) NN (NN_lt (by omega))
  · rw [foldi_foldl] at e1 e2
    exact ⟨e1.1, e1.2, e2.2⟩
  · intro k st _
    simp [Q0.l3, Q0.g3]
  · intro k p b r st hx _ hI c0 c1 c2 cw g
    refine ⟨oi_step b hI, ?_⟩
    have hpl : p.length ≤ 1000000 := by rw [hx] at hl; simp at hl; omega
    have := hI.len
    simp only [Q0.l3, Q0.g3, c0, c1, cw, and_self, and_true, true_and, decide_true, decide_false, if_true, if_false, mid_get, mid_set, mid_getn, mid_setn, bt_mid, Option.bind_some, Bool.not_true, Bool.not_false, Bool.false_eq_true, Bool.true_eq_false, beq_self_eq_true, bne_self_eq_false, Int.toNat_natCast, g, l32Left_all xs _ h hl, decide_eq_true_eq]
    unfold openF
    split
    · rw [Qca _ _ (by omega)]; rfl
    · rfl
  · intro k st _
    simp [Qp.l3, Qp.g3]
  · intro k p b r st hx _ hI c0 c1 c2 cw g
    refine ⟨oi_step b hI, ?_⟩
    have hpl : p.length ≤ 1000000 := by rw [hx] at hl; simp at hl; omega
    have := hI.len
    simp only [Qp.l3, Qp.g3, c0, c1, cw, and_self, and_true, true_and, decide_true, decide_false, if_true, if_false, mid_get, mid_set, mid_getn, mid_setn, bt_mid, Option.bind_some, Bool.not_true, Bool.not_false, Bool.false_eq_true, Bool.true_eq_false, beq_self_eq_true, bne_self_eq_false, Int.toNat_natCast, g, QbD xs _ h hl, decide_eq_true_eq]
    unfold openF
    split
    · rw [Qcn _ _ hI.srt (by omega)]; rfl
    · rfl
theorem open_sm {xs : List Bkg} (h : ∀ b ∈ xs, valB b = true) (hl : xs.length ≤ 1000000) : ∀ w ∈ openL xs, wordB w = true := by
  intro w hw
  obtain ⟨⟨b, h1, rfl⟩, _⟩ := ((open_both xs h hl).1.mem w).1 hw
  have := h b h1
  unfold valB at this
  simp only [Bool.and_eq_true] at this
  exact this.1.2
theorem word_sm {w : ByteArray} (h : wordB w = true) : Sm w := by have := wordB_size h; unfold Sm; omega
theorem len0 {α : Type} (l : List α) : (((l.length : Int) : Int) == 0) = decide (l = []) := by cases l <;> simp <;> omega
def setlF (xs : List Bkg) (kind : Int) (out : List Bkg) (w : ByteArray) : List Bkg := out ++ [(kind, w, leftOf xs w)]
def setlL (xs : List Bkg) (kind : Int) : List Bkg := (openL xs).foldl (setlF xs kind) xs
def limS (out : List Bkg) : List Bkg × Int := if 60 < out.length then ([], 3) else if booksB out = true then (out, 0) else ([], 5)
def stlR (xs : List Bkg) (kind : Int) : List Bkg × Int := if booksB xs = true then (if inB kind 1 3 = true then limS (setlL xs kind) else ([], 2)) else ([], 1)
theorem room32n {n : Nat} (h : n ≤ 2000000) : n < room 32 := by rw [room32]; omega
structure SI (xs : List Bkg) (p : List ByteArray) (out : List Bkg) : Prop where
  len : out.length = xs.length + p.length
  ok : ∀ b ∈ out, OkBooking b
theorem Settle_l (xs : List Bkg) (kind : Int) (hk : 1 ≤ kind ∧ kind ≤ 3) (hok : ∀ b ∈ xs, OkBooking b) (h : ∀ b ∈ xs, valB b = true) (hl : xs.length ≤ 60) :
    SI xs (openL xs) (setlL xs kind) ∧ QD.l7 NN NN xs kind (openL xs).length 0 xs (openL xs) = some (limS (setlL xs kind)) ∧ QF.l8 NN NN xs kind 0 xs (openL xs) = some (limS (setlL xs kind)) := by
  obtain ⟨oi, _, _⟩ := open_both xs h (by omega)
  have hol := oi.len
  have hos := open_sm h (by omega)
  have step : ∀ (p : List ByteArray) (w : ByteArray) (out : List Bkg), wordB w = true → SI xs p out → SI xs (p ++ [w]) (setlF xs kind out w) := fun p w out hw hI => by
    have hb := leftOf_le w xs h
    refine ⟨by unfold setlF; have := hI.len; simp; omega, fun b hb' => ?_⟩
    unfold setlF at hb'
    rcases List.mem_append.1 hb' with h1 | h1
    · exact hI.ok b h1
    · rw [List.mem_singleton.1 h1]; exact ⟨wf64.2 (by simp only; omega), word_sm hw, wf64.2 (by simp only; omega)⟩
  have z0 : SI xs [] xs := ⟨by simp, hok⟩
  have e1 := fold_fix (E := fun w => wordB w = true) (fun p out => SI xs p out) (fun _ => setlF xs kind) (fun out => some (limS out)) (fun k i out => QD.l7 NN k xs kind (openL xs).length i out (openL xs)) (openL xs) ?_ ?_ xs hos z0 (by omega) NN (NN_lt (by omega))
  have e2 := fold_fix (E := fun w => wordB w = true) (fun p out => SI xs p out) (fun _ => setlF xs kind) (fun out => some (limS out)) (fun k i out => QF.l8 NN k xs kind i out (openL xs)) (openL xs) ?_ ?_ xs hos z0 (by omega) NN (NN_lt (by omega))
  · rw [foldi_foldl] at e1 e2
    exact ⟨e1.1, e1.2, e2.2⟩
  · intro k out hI
    have := hI.len
    simp only [QF.l8, QF.g8, Int.lt_irrefl, and_self, and_true, true_and, decide_true, decide_false, if_true, if_false, mid_get, mid_set, mid_getn, mid_setn, bt_mid, Option.bind_some, Bool.not_true, Bool.not_false, Bool.false_eq_true, Bool.true_eq_false, beq_self_eq_true, bne_self_eq_false, Int.toNat_natCast]
    unfold QaK.f QaK.fn QaK.top limS
    by_cases h6 : 60 < out.length
    · have h6' : (60 : Int) < (out.length : Int) := by omega
      simp only [h6, h6', and_self, and_true, true_and, decide_true, decide_false, if_true, if_false, mid_get, mid_set, mid_getn, mid_setn, bt_mid, Option.bind_some, Bool.not_true, Bool.not_false, Bool.false_eq_true, Bool.true_eq_false, beq_self_eq_true, bne_self_eq_false, Int.toNat_natCast]; rfl
    · have h6' : ¬ (60 : Int) < (out.length : Int) := by omega
      simp only [h6, h6', and_self, and_true, true_and, decide_true, decide_false, if_true, if_false, mid_get, mid_set, mid_getn, mid_setn, bt_mid, Option.bind_some, Bool.not_true, Bool.not_false, Bool.false_eq_true, Bool.true_eq_false, beq_self_eq_true, bne_self_eq_false, Int.toNat_natCast]
      rw [Qbx out ⟨by omega, hI.ok⟩]
      cases booksB out <;> rfl
  · intro k p w r out hx hw hI c0 c1 c2 cw g
    refine ⟨step p w out hw hI, ?_⟩
    have hpl : p.length ≤ 60 := by have := congrArg List.length hx; simp at this; omega
    have hil := hI.len
    have hr := room32n (n := out.length + [(kind, w, leftOf xs w)].length) (by simp; omega)
    simp only [QF.l8, QF.g8, c0, c1, cw, and_self, and_true, true_and, decide_true, decide_false, if_true, if_false, mid_get, mid_set, mid_getn, mid_setn, bt_mid, Option.bind_some, Bool.not_true, Bool.not_false, Bool.false_eq_true, Bool.true_eq_false, beq_self_eq_true, bne_self_eq_false, Int.toNat_natCast, g, l32Left_all xs _ h (by omega), hr]
    rfl
  · intro k out hI
    have := hI.len
    simp only [QD.l7, QD.g7, Int.lt_irrefl, and_self, and_true, true_and, decide_true, decide_false, if_true, if_false, mid_get, mid_set, mid_getn, mid_setn, bt_mid, Option.bind_some, Bool.not_true, Bool.not_false, Bool.false_eq_true, Bool.true_eq_false, beq_self_eq_true, bne_self_eq_false, Int.toNat_natCast]
    unfold limS
    by_cases h6 : 60 < out.length
    · have h6' : (60 : Int) < (out.length : Int) := by omega
      simp only [h6, h6', and_self, and_true, true_and, decide_true, decide_false, if_true, if_false, mid_get, mid_set, mid_getn, mid_setn, bt_mid, Option.bind_some, Bool.not_true, Bool.not_false, Bool.false_eq_true, Bool.true_eq_false, beq_self_eq_true, bne_self_eq_false, Int.toNat_natCast]
    · have h6' : ¬ (60 : Int) < (out.length : Int) := by omega
      simp only [h6, h6', and_self, and_true, true_and, decide_true, decide_false, if_true, if_false, mid_get, mid_set, mid_getn, mid_setn, bt_mid, Option.bind_some, Bool.not_true, Bool.not_false, Bool.false_eq_true, Bool.true_eq_false, beq_self_eq_true, bne_self_eq_false, Int.toNat_natCast]
      rw [Qby out ⟨by omega, hI.ok⟩]
      cases booksB out <;> rfl
  · intro k p w r out hx hw hI c0 c1 c2 cw g
    refine ⟨step p w out hw hI, ?_⟩
    have hpl : p.length ≤ 60 := by have := congrArg List.length hx; simp at this; omega
    have hil := hI.len
    have hr := room32n (n := out.length + [(kind, w, leftOf xs w)].length) (by simp; omega)
    simp only [QD.l7, QD.g7, c0, c1, cw, and_self, and_true, true_and, decide_true, decide_false, if_true, if_false, mid_get, mid_set, mid_getn, mid_setn, bt_mid, Option.bind_some, Bool.not_true, Bool.not_false, Bool.false_eq_true, Bool.true_eq_false, beq_self_eq_true, bne_self_eq_false, Int.toNat_natCast, g, QbD xs _ h (by omega), hr]
    rfl
theorem SettleAll_both (xs : List Bkg) (kind : Int) (h : Lm OkBooking xs) : QF.f xs kind = some (stlR xs kind) ∧ QD.f xs kind = some (stlR xs kind) := by
  unfold QF.f QF.fn QF.top QD.f QD.fn QD.top stlR
  rw [Qbx xs h, Qby xs h, Qbi, Qbg]
  cases hx : booksB xs
  · exact ⟨rfl, rfl⟩
  have hv := booksB_val hx
  cases hk : inB kind 1 3
  · exact ⟨rfl, rfl⟩
  obtain ⟨_, e1, e2⟩ := open_both xs hv.1 (by omega)
  obtain ⟨_, e3, e4⟩ := Settle_l xs kind (inB_iff.1 hk) h.2 hv.1 hv.2
  have hr := room32n (n := 0 + xs.length) (by omega)
  simp only [Option.bind_some, Bool.not_true, Bool.false_eq_true, if_false, if_true, List.length_nil, List.nil_append, hr, e1, e2, e3, e4, and_self]
end Go.Pl

namespace Go.Pl
open Go.Ev
set_option linter.unusedVariables false
noncomputable section
def QbZ.top (q : List YA) (p : ByteArray) : Option YAG :=
 (Ql.f q).bind fun r1 =>
 if (!r1) = false then
 (QJ.f p).bind fun r2 =>
 if (!r2) = true then
 some ([], 1)
 else
 (QQ.f q p).bind fun r3 =>
 some (r3, 0)
 else
 some ([], 1)
def QbZ.fn (n : Nat) (q : List YA) (p : ByteArray) : Option YAG := QbZ.top q p
def QbZ.f (q : List YA) (p : ByteArray) : Option YAG := QbZ.fn NN q p
end
end Go.Pl

namespace Go.Pl
open Go.Ev
set_option linter.unusedVariables false
noncomputable section
def Qbp.g5 (L5 : YD → ByteArray → Int → List Int → Option YAG) (p : List YA) (q : ByteArray) (i7 : Int) (r : List Int) : Option YAG :=
 if (decide ((i7 : Int) < (p.length : Int))) = true then
 if (0 : Int) ≤ i7 ∧ (i7 : Int) < p.length then
 if ((((p.getD (i7 : Int).toNat (0, (ByteArray.empty, 0))).2).1).toList == q.toList) = true then
 if (0 : Int) ≤ i7 ∧ (i7 : Int) < p.length then
 if (0 : Int) ≤ i7 ∧ (i7 : Int) < p.length then
 if (0 : Int) ≤ ((p.getD (i7 : Int).toNat (0, (ByteArray.empty, 0))).1) ∧ (((p.getD (i7 : Int).toNat (0, (ByteArray.empty, 0))).1) : Int) < r.length then
 if (0 : Int) ≤ i7 ∧ (i7 : Int) < p.length then
 if (0 : Int) ≤ ((p.getD (i7 : Int).toNat (0, (ByteArray.empty, 0))).1) ∧ (((p.getD (i7 : Int).toNat (0, (ByteArray.empty, 0))).1) : Int) < r.length then
 L5 p q (IntKind.i64.wrap (i7 + 1)) (r.set (((p.getD (i7 : Int).toNat (0, (ByteArray.empty, 0))).1) : Int).toNat (IntKind.i64.wrap ((r.getD (((p.getD (i7 : Int).toNat (0, (ByteArray.empty, 0))).1) : Int).toNat 0) + (((p.getD (i7 : Int).toNat (0, (ByteArray.empty, 0))).2).2))))
 else
 none
 else
 none
 else
 none
 else
 none
 else
 none
 else
 L5 p q (IntKind.i64.wrap (i7 + 1)) r
 else
 none
 else
 some (r, 0)
def Qbp.l5 (n : Nat) : Nat → YD → ByteArray → Int → List Int → Option YAG
 | 0 => fun _ _ _ _ => none
 | k + 1 => Qbp.g5 (Qbp.l5 n k)
def Qbp.top (I5 : YD → ByteArray → Int → List Int → Option YAG) (p : List YA) (q : ByteArray) : Option YAG :=
 (Qj.f p).bind fun r1 =>
 if (!r1) = false then
 (QP.f q).bind fun r2 =>
 if (!r2) = true then
 some ([], 1)
 else if (0 : Int) ≤ 4 ∧ (4 : Int) < room 8 ∧ (4 : Int) = 4 then
 I5 p q 0 (List.replicate (4 : Int).toNat 0)
 else
 none
 else
 some ([], 1)
def Qbp.fn (n : Nat) (p : List YA) (q : ByteArray) : Option YAG := Qbp.top (Qbp.l5 n n) p q
def Qbp.f (p : List YA) (q : ByteArray) : Option YAG := Qbp.fn NN p q
end
end Go.Pl

namespace Go.Pl
open Go.Ev
set_option linter.unusedVariables false
set_option linter.unusedSimpArgs false
end Go.Pl

namespace Go.Pl
open Go.Ev
set_option linter.unusedVariables false
set_option linter.unusedSimpArgs false
def SrcOk (s : List Int × Int × Int) : Prop := s.1.length ≤ 4096 ∧ (∀ c ∈ s.1, 0 ≤ c ∧ c ≤ 255) ∧ (0 ≤ s.2.1 ∧ s.2.1 ≤ (s.1.length : Int)) ∧ 0 ≤ s.2.2 ∧ s.2.2 < 2147483647
theorem tmod_bd {a n : Int} (h : 0 ≤ a) (hn : 0 < n) : 0 ≤ Int.tmod a n ∧ Int.tmod a n < n := by
  rw [Int.tmod_eq_emod_of_nonneg h]
  exact ⟨Int.emod_nonneg _ (by omega), Int.emod_lt_of_pos _ hn⟩
theorem getD_mem {xs : List Int} {i : Nat} (h : i < xs.length) : xs.getD i 0 ∈ xs := by
  rw [List.getD_eq_getElem?_getD, List.getElem?_eq_getElem h]; exact List.getElem_mem h
theorem next_ok {s : List Int × Int × Int} (hs : SrcOk s) (n : Int) (hn : n ≤ 1000000000000000) : ∃ x s', Qh.f s n = some (x, s') ∧ SrcOk s' ∧ 0 ≤ x ∧ (x < n ∨ x = 0) := by
  obtain ⟨code, at_, seed⟩ := s
  obtain ⟨h1, h2, h3, h4, h5⟩ := hs
  simp only at h1 h2 h3 h4 h5
  unfold Qh.f Qh.fn Qh.top
  by_cases hn1 : n ≤ 1
  · simp only [hn1, decide_true, if_true]
    exact ⟨0, _, rfl, ⟨h1, h2, h3, h4, h5⟩, by omega, .inr rfl⟩
  have w1 := w64 (n := seed * 48271) (by omega) (by omega)
  have w2 := w64 (n := seed * 48271 + 29) (by omega) (by omega)
  have hm := @tmod_bd (seed * 48271 + 29) 2147483647 (by omega) (by omega)
  have hd : Int.tdiv (Int.tmod (seed * 48271 + 29) 2147483647) 31 = Int.tmod (seed * 48271 + 29) 2147483647 / 31 := Int.tdiv_eq_ediv_of_nonneg hm.1
  have w3 := w64 (n := Int.tdiv (Int.tmod (seed * 48271 + 29) 2147483647) 31) (by omega) (by omega)
  have w4 := w64 (n := at_ + 1) (by omega) (by omega)
  have w5 := w64 (n := at_ + 1 - 1) (by omega) (by omega)
  have hnz : ¬ n = 0 := by omega
  simp only [hn1, decide_false, Bool.false_eq_true, if_false, w1, w2, w3, w4, w5, hnz, decide_eq_true_eq]
  by_cases ha : at_ < (code.length : Int)
  · have hc := h2 _ (getD_mem (show at_.toNat < code.length by omega))
    have hc' : (0 : Int) ≤ at_ + 1 - 1 ∧ at_ + 1 - 1 < (code.length : Int) := by omega
    have e1 : (at_ + 1 - 1).toNat = at_.toNat := by omega
    have w6 := w64 (n := code.getD at_.toNat 0) (by omega) (by omega)
    have w7 := w64 (n := Int.tdiv (Int.tmod (seed * 48271 + 29) 2147483647) 31 + code.getD at_.toNat 0) (by omega) (by omega)
    have b1 := @tmod_bd (code.getD at_.toNat 0) n hc.1 (by omega)
    have b2 := @tmod_bd (Int.tdiv (Int.tmod (seed * 48271 + 29) 2147483647) 31 + code.getD at_.toNat 0) n (by omega) (by omega)
    have hs' : SrcOk (code, at_ + 1, Int.tmod (seed * 48271 + 29) 2147483647) := ⟨h1, h2, ⟨by simp only; omega, by simp only; omega⟩, hm.1, hm.2⟩
    simp only [ha, h3.1, and_self, if_true, hc', e1, w6, w7]
    by_cases h256 : n ≤ 256
    · simp only [h256, if_true]
      split
      · exact ⟨_, _, rfl, hs', b1.1, .inl b1.2⟩
      · exact ⟨_, _, rfl, hs', b2.1, .inl b2.2⟩
    · simp only [h256, if_false]
      exact ⟨_, _, rfl, hs', b2.1, .inl b2.2⟩
  · have b3 := @tmod_bd (Int.tdiv (Int.tmod (seed * 48271 + 29) 2147483647) 31) n (by omega) (by omega)
    simp only [ha, if_false]
    exact ⟨_, _, rfl, ⟨h1, h2, h3, hm.1, hm.2⟩, b3.1, .inl b3.2⟩
theorem pick_ok {s : List Int × Int × Int} (hs : SrcOk s) (xs : List Int) (h : 1 ≤ xs.length) (hl : xs.length ≤ 1000) : ∃ x s', QaE.f s xs = some (x, s') ∧ SrcOk s' ∧ x ∈ xs := by
  obtain ⟨x, s', e, h1, h2, h3⟩ := next_ok hs (xs.length : Int) (by omega)
  have hx : x < (xs.length : Int) := by omega
  unfold QaE.f QaE.fn QaE.top
  rw [e]
  simp only [Option.bind_some, h2, hx, and_self, if_true]
  exact ⟨_, _, rfl, h1, getD_mem (by omega)⟩
theorem from_l (code : List Int) (hl : code.length ≤ 4096) (hc : ∀ c ∈ code, 0 ≤ c ∧ c ≤ 255) (c : List Int) (b : Int) : ∀ (d i k : Nat) (seed : Int), i + d = code.length → d < k → 0 ≤ seed → seed < 2147483647 → ∃ seed', QU.l3 NN k code i c b seed = some (c, b, seed') ∧ 0 ≤ seed' ∧ seed' < 2147483647 := by
  intro d
  induction d with
  | zero =>
    intro i k seed hi hk h0 h1
    obtain ⟨k, rfl⟩ : ∃ j, k = j + 1 := ⟨k - 1, by omega⟩
    have n1 : ¬ (i : Int) < (code.length : Int) := by omega
    exact ⟨seed, by simp only [QU.l3, QU.g3, n1, decide_false, Bool.false_eq_true, if_false], h0, h1⟩
  | succ d ih =>
    intro i k seed hi hk h0 h1
    obtain ⟨k, rfl⟩ : ∃ j, k = j + 1 := ⟨k - 1, by omega⟩
    have n1 : (i : Int) < (code.length : Int) := by omega
    by_cases h64 : (i : Int) < 64
    · have hcc := hc _ (getD_mem (show i < code.length by omega))
      have w1 := w64 (n := seed * 83) (by omega) (by omega)
      have w2 := w64 (n := code.getD i 0) (by omega) (by omega)
      have w3 := w64 (n := seed * 83 + code.getD i 0) (by omega) (by omega)
      have w4 := w64 (n := (i : Int) + 1) (by omega) (by omega)
      have hm := @tmod_bd (seed * 83 + code.getD i 0) 2147483647 (by omega) (by omega)
      obtain ⟨s', e1, e2⟩ := ih (i + 1) k (Int.tmod (seed * 83 + code.getD i 0) 2147483647) (by omega) (by omega) hm.1 hm.2
      refine ⟨s', ?_, e2⟩
      simp only [QU.l3, QU.g3, n1, h64, decide_true, if_true, Int.toNat_natCast, w1, w2, w3, w4, show (0 : Int) ≤ (i : Int) from by omega, and_self]
      exact e1
    · exact ⟨seed, by simp only [QU.l3, QU.g3, n1, h64, decide_true, if_true, decide_false, Bool.false_eq_true, if_false], h0, h1⟩
def CodeOk (code : List Int) : Prop := code.length ≤ 4096 ∧ ∀ c ∈ code, 0 ≤ c ∧ c ≤ 255
theorem from_ok {code : List Int} (h : CodeOk code) : ∃ s, QU.f code = some s ∧ SrcOk s := by
  obtain ⟨s', e, h1, h2⟩ := from_l code h.1 h.2 code 0 code.length 0 NN 61043 (by omega) (by have := h.1; exact NN_lt (by omega)) (by omega) (by omega)
  exact ⟨(code, 0, s'), e, h.1, h.2, ⟨by simp only; omega, by simp only; omega⟩, h1, h2⟩
theorem big_f (code : List Int) : Qbe.f code = some (decide ((4096 : Int) < (code.length : Int))) := rfl
theorem code_of {code : List Int} (h : Ls (Rg .u8) code) (hb : ¬ (4096 : Int) < (code.length : Int)) : CodeOk code := ⟨by omega, fun c hc => wf8.1 (h.2 c hc)⟩
end Go.Pl

namespace Go.Pl
open Go.Ev
set_option linter.unusedVariables false
noncomputable section
def Qbq.g4 (L4 : List Int → List Int → Int → Option Bool) (a0 : List Int) (b1 : List Int) (i5 : Int) : Option Bool :=
 if (decide ((i5 : Int) < (a0.length : Int))) = true then
 if (0 : Int) ≤ i5 ∧ (i5 : Int) < a0.length then
 if (0 : Int) ≤ i5 ∧ (i5 : Int) < b1.length then
 if (((a0.getD (i5 : Int).toNat 0) : Int) != (b1.getD (i5 : Int).toNat 0)) = true then
 some false
 else
 L4 a0 b1 (IntKind.i64.wrap (i5 + 1))
 else
 none
 else
 none
 else
 some true
def Qbq.l4 (n : Nat) : Nat → List Int → List Int → Int → Option Bool
 | 0 => fun _ _ _ => none
 | k + 1 => Qbq.g4 (Qbq.l4 n k)
def Qbq.top (I4 : List Int → List Int → Int → Option Bool) (a0 : List Int) (b1 : List Int) : Option Bool :=
 if (((a0.length : Int) : Int) != (b1.length : Int)) = true then
 some false
 else
 I4 a0 b1 0
def Qbq.fn (n : Nat) (a0 : List Int) (b1 : List Int) : Option Bool := Qbq.top (Qbq.l4 n n) a0 b1
def Qbq.f (a0 : List Int) (b1 : List Int) : Option Bool := Qbq.fn NN a0 b1
end
end Go.Pl

namespace Go.Pl
open Go.Ev
set_option linter.unusedVariables false
noncomputable section
def Qbw.g2 (L2 : List Int → Int → Int → Option Bool) (p : List Int) (x1 : Int) (i5 : Int) : Option Bool :=
 if (decide ((i5 : Int) < (p.length : Int))) = true then
 if (0 : Int) ≤ i5 ∧ (i5 : Int) < p.length then
 if (((p.getD (i5 : Int).toNat 0) : Int) == x1) = true then
 some true
 else
 L2 p x1 (IntKind.i64.wrap (i5 + 1))
 else
 none
 else
 some false
def Qbw.l2 (n : Nat) : Nat → List Int → Int → Int → Option Bool
 | 0 => fun _ _ _ => none
 | k + 1 => Qbw.g2 (Qbw.l2 n k)
def Qbw.top (I2 : List Int → Int → Int → Option Bool) (p : List Int) (x1 : Int) : Option Bool :=
 I2 p x1 0
def Qbw.fn (n : Nat) (p : List Int) (x1 : Int) : Option Bool := Qbw.top (Qbw.l2 n n) p x1
def Qbw.f (p : List Int) (x1 : Int) : Option Bool := Qbw.fn NN p x1
end
end Go.Pl

namespace Go.Pl
open Go.Ev
set_option linter.unusedVariables false
set_option linter.unusedSimpArgs false
end Go.Pl

namespace Go.Pl
open Go.Ev
set_option linter.unusedVariables false
noncomputable section
def QbR.top (s0 : List Int × Int × Int) : Option YF :=
 (Qh.f s0 12).bind fun r1 =>
 if (0 : Int) ≤ r1.1 ∧ (r1.1 : Int) < ([(⟨#[97, 100, 97]⟩ : ByteArray), (⟨#[98, 114, 117, 110, 111]⟩ : ByteArray), (⟨#[99, 108, 97, 114, 97]⟩ : ByteArray), (⟨#[100, 111, 114, 97]⟩ : ByteArray), (⟨#[101, 109, 105, 108]⟩ : ByteArray), (⟨#[102, 114, 105, 100, 97]⟩ : ByteArray), (⟨#[103, 117, 115, 116, 97, 118]⟩ : ByteArray), (⟨#[104, 97, 110, 110, 97]⟩ : ByteArray), (⟨#[105, 118, 97, 110]⟩ : ByteArray), (⟨#[106, 97, 110, 97]⟩ : ByteArray), (⟨#[107, 97, 114, 108]⟩ : ByteArray), (⟨#[108, 101, 110, 97]⟩ : ByteArray)]).length then
 some (([(⟨#[97, 100, 97]⟩ : ByteArray), (⟨#[98, 114, 117, 110, 111]⟩ : ByteArray), (⟨#[99, 108, 97, 114, 97]⟩ : ByteArray), (⟨#[100, 111, 114, 97]⟩ : ByteArray), (⟨#[101, 109, 105, 108]⟩ : ByteArray), (⟨#[102, 114, 105, 100, 97]⟩ : ByteArray), (⟨#[103, 117, 115, 116, 97, 118]⟩ : ByteArray), (⟨#[104, 97, 110, 110, 97]⟩ : ByteArray), (⟨#[105, 118, 97, 110]⟩ : ByteArray), (⟨#[106, 97, 110, 97]⟩ : ByteArray), (⟨#[107, 97, 114, 108]⟩ : ByteArray), (⟨#[108, 101, 110, 97]⟩ : ByteArray)]).getD (r1.1 : Int).toNat ByteArray.empty, r1.2)
 else
 none
def QbR.fn (n : Nat) (s0 : List Int × Int × Int) : Option YF := QbR.top s0
def QbR.f (s0 : List Int × Int × Int) : Option YF := QbR.fn NN s0
end
end Go.Pl

namespace Go.Pl
open Go.Ev
set_option linter.unusedVariables false
noncomputable section
def Qbs.top (s0 : List Int × Int × Int) : Option YF :=
 (Qh.f s0 24).bind fun r1 =>
 if ((r1.1 : Int) == 0) = true then
 (Qh.f r1.2 6).bind fun r2 =>
 if (0 : Int) ≤ r2.1 ∧ (r2.1 : Int) < ([(⟨#[]⟩ : ByteArray), (⟨#[65, 100, 97]⟩ : ByteArray), (⟨#[97, 49]⟩ : ByteArray), (⟨#[97, 98, 99, 100, 101, 102, 103, 104, 105, 106, 107, 108, 109, 110, 111, 112]⟩ : ByteArray), (⟨#[97, 98, 99, 100, 101, 102, 103, 104, 105, 106, 107, 108, 109, 110, 111, 112, 113]⟩ : ByteArray), (⟨#[97, 32, 98]⟩ : ByteArray)]).length then
 some (([(⟨#[]⟩ : ByteArray), (⟨#[65, 100, 97]⟩ : ByteArray), (⟨#[97, 49]⟩ : ByteArray), (⟨#[97, 98, 99, 100, 101, 102, 103, 104, 105, 106, 107, 108, 109, 110, 111, 112]⟩ : ByteArray), (⟨#[97, 98, 99, 100, 101, 102, 103, 104, 105, 106, 107, 108, 109, 110, 111, 112, 113]⟩ : ByteArray), (⟨#[97, 32, 98]⟩ : ByteArray)]).getD (r2.1 : Int).toNat ByteArray.empty, r2.2)
 else
 none
 else
 (QbR.f r1.2).bind fun r3 =>
 some (r3.1, r3.2)
def Qbs.fn (n : Nat) (s0 : List Int × Int × Int) : Option YF := Qbs.top s0
def Qbs.f (s0 : List Int × Int × Int) : Option YF := Qbs.fn NN s0
end
end Go.Pl

namespace Go.Pl
open Go.Ev
set_option linter.unusedVariables false
noncomputable section
def Qbn.g4 (L4 : Int → YP → YD → List ByteArray → Option YT) (n5 : Int) (s0 : List Int × Int × Int) (q : List YA) (p : List ByteArray) : Option YT :=
 if (decide ((0 : Int) < n5)) = true then
 (Qh.f s0 4).bind fun r3 =>
 (Qh.f r3.2 4).bind fun r4 =>
 if (0 : Int) ≤ r4.1 ∧ (r4.1 : Int) < p.length then
 (Qh.f r4.2 12).bind fun r5 =>
 (QK.f q (p.getD (r4.1 : Int).toNat ByteArray.empty) (q.length : Int)).bind fun r6 =>
 if (decide ((0 : Int) < r3.1)) = true then
 if (decide ((0 : Int) < r6)) = true then
 (Qh.f r5.2 2).bind fun r7 =>
 if ((r7.1 : Int) == 0) = true then
 if ((r6 : Int) == 0) = true then
 (QT.f q (0, (p.getD (r4.1 : Int).toNat ByteArray.empty, (if r6 < 1000 then r6 else 1000)))).bind fun r8 =>
 if ((r8.2 : Int) == 0) = true then
 L4 (IntKind.i64.wrap (n5 - 1)) r7.2 r8.1 p
 else
 L4 (IntKind.i64.wrap (n5 - 1)) r7.2 q p
 else
 (QT.f q (r3.1, (p.getD (r4.1 : Int).toNat ByteArray.empty, (if r6 < 1000 then r6 else 1000)))).bind fun r9 =>
 if ((r9.2 : Int) == 0) = true then
 L4 (IntKind.i64.wrap (n5 - 1)) r7.2 r9.1 p
 else
 L4 (IntKind.i64.wrap (n5 - 1)) r7.2 q p
 else if ((r6 : Int) == 0) = true then
 (QT.f q (0, (p.getD (r4.1 : Int).toNat ByteArray.empty, IntKind.i64.wrap (1 + r5.1)))).bind fun r10 =>
 if ((r10.2 : Int) == 0) = true then
 L4 (IntKind.i64.wrap (n5 - 1)) r7.2 r10.1 p
 else
 L4 (IntKind.i64.wrap (n5 - 1)) r7.2 q p
 else
 (QT.f q (r3.1, (p.getD (r4.1 : Int).toNat ByteArray.empty, IntKind.i64.wrap (1 + r5.1)))).bind fun r11 =>
 if ((r11.2 : Int) == 0) = true then
 L4 (IntKind.i64.wrap (n5 - 1)) r7.2 r11.1 p
 else
 L4 (IntKind.i64.wrap (n5 - 1)) r7.2 q p
 else if ((r6 : Int) == 0) = true then
 (QT.f q (0, (p.getD (r4.1 : Int).toNat ByteArray.empty, IntKind.i64.wrap (1 + r5.1)))).bind fun r12 =>
 if ((r12.2 : Int) == 0) = true then
 L4 (IntKind.i64.wrap (n5 - 1)) r5.2 r12.1 p
 else
 L4 (IntKind.i64.wrap (n5 - 1)) r5.2 q p
 else
 (QT.f q (r3.1, (p.getD (r4.1 : Int).toNat ByteArray.empty, IntKind.i64.wrap (1 + r5.1)))).bind fun r13 =>
 if ((r13.2 : Int) == 0) = true then
 L4 (IntKind.i64.wrap (n5 - 1)) r5.2 r13.1 p
 else
 L4 (IntKind.i64.wrap (n5 - 1)) r5.2 q p
 else if ((r6 : Int) == 0) = true then
 (QT.f q (0, (p.getD (r4.1 : Int).toNat ByteArray.empty, IntKind.i64.wrap (1 + r5.1)))).bind fun r14 =>
 if ((r14.2 : Int) == 0) = true then
 L4 (IntKind.i64.wrap (n5 - 1)) r5.2 r14.1 p
 else
 L4 (IntKind.i64.wrap (n5 - 1)) r5.2 q p
 else
 (QT.f q (r3.1, (p.getD (r4.1 : Int).toNat ByteArray.empty, IntKind.i64.wrap (1 + r5.1)))).bind fun r15 =>
 if ((r15.2 : Int) == 0) = true then
 L4 (IntKind.i64.wrap (n5 - 1)) r5.2 r15.1 p
 else
 L4 (IntKind.i64.wrap (n5 - 1)) r5.2 q p
 else
 none
 else
 some (q, s0)
def Qbn.l4 (n : Nat) : Nat → Int → YP → YD → List ByteArray → Option YT
 | 0 => fun _ _ _ _ => none
 | k + 1 => Qbn.g4 (Qbn.l4 n k)
def Qbn.top (I4 : Int → YP → YD → List ByteArray → Option YT) (s0 : List Int × Int × Int) : Option YT :=
 (QaQ.f).bind fun r1 =>
 (Qh.f s0 10).bind fun r2 =>
 I4 r2.1 r2.2 [] r1
def Qbn.fn (n : Nat) (s0 : List Int × Int × Int) : Option YT := Qbn.top (Qbn.l4 n n) s0
def Qbn.f (s0 : List Int × Int × Int) : Option YT := Qbn.fn NN s0
end
end Go.Pl

namespace Go.Pl
open Go.Ev
set_option linter.unusedVariables false
noncomputable section
def Qbk.g6 (L6 : YP → YD → Option YT) (s0 : List Int × Int × Int) (p : List YA) : Option YT :=
 (Qh.f s0 2).bind fun r6 =>
 if (decide (((p.length : Int) : Int) < (IntKind.i64.wrap (60 + r6.1)))) = true then
 if p.length + ([(0, ((⟨#[112, 97, 108, 109]⟩ : ByteArray), 1))]).length < room 32 then
 L6 r6.2 (p ++ ([(0, ((⟨#[112, 97, 108, 109]⟩ : ByteArray), 1))]))
 else
 none
 else
 some (p, r6.2)
def Qbk.l6 (n : Nat) : Nat → YP → YD → Option YT
 | 0 => fun _ _ => none
 | k + 1 => Qbk.g6 (Qbk.l6 n k)
def Qbk.top (I6 : YP → YD → Option YT) (s0 : List Int × Int × Int) : Option YT :=
 (Qbn.f s0).bind fun r1 =>
 (Qh.f r1.2 30).bind fun r2 =>
 if ((r2.1 : Int) == 0) = true then
 (Qh.f r2.2 6).bind fun r3 =>
 (Qbs.f r3.2).bind fun r4 =>
 (QaE.f r4.2 ([0, 1, 1000, 1001])).bind fun r5 =>
 if r1.1.length + ([(IntKind.i64.wrap (r3.1 - 1), (r4.1, r5.1))]).length < room 32 then
 some (r1.1 ++ ([(IntKind.i64.wrap (r3.1 - 1), (r4.1, r5.1))]), r5.2)
 else
 none
 else if ((r2.1 : Int) == 1) = true then
 I6 r2.2 r1.1
 else if ((r2.1 : Int) == 2) = true then
 if r1.1.length + ([(0, ((⟨#[97, 115, 116, 101, 114]⟩ : ByteArray), 1000)), (0, ((⟨#[97, 115, 116, 101, 114]⟩ : ByteArray), 700))]).length < room 32 then
 some (r1.1 ++ ([(0, ((⟨#[97, 115, 116, 101, 114]⟩ : ByteArray), 1000)), (0, ((⟨#[97, 115, 116, 101, 114]⟩ : ByteArray), 700))]), r2.2)
 else
 none
 else
 some (r1.1, r2.2)
def Qbk.fn (n : Nat) (s0 : List Int × Int × Int) : Option YT := Qbk.top (Qbk.l6 n n) s0
def Qbk.f (s0 : List Int × Int × Int) : Option YT := Qbk.fn NN s0
end
end Go.Pl

namespace Go.Pl
open Go.Ev
set_option linter.unusedVariables false
noncomputable section
def QbB.top (p : List Int) : Option (YD × Int × ByteArray × Int) :=
 (QU.f p).bind fun r1 =>
 (Qbk.f r1).bind fun r2 =>
 (Qh.f r2.2 4).bind fun r3 =>
 (QaQ.f).bind fun r4 =>
 (Qh.f r3.2 5).bind fun r5 =>
 if (0 : Int) ≤ r5.1 ∧ (r5.1 : Int) < r4.length then
 (Qh.f r5.2 12).bind fun r6 =>
 (Qh.f r6.2 4).bind fun r7 =>
 (QaE.f r7.2 ([IntKind.i64.wrap (1 + r6.1), 1, 1000, 1001, IntKind.i64.wrap (1 + r7.1)])).bind fun r8 =>
 some (r2.1, (r3.1, (r4.getD (r5.1 : Int).toNat ByteArray.empty, r8.1)))
 else
 none
def QbB.fn (n : Nat) (p : List Int) : Option (YD × Int × ByteArray × Int) := QbB.top p
def QbB.f (p : List Int) : Option (YD × Int × ByteArray × Int) := QbB.fn NN p
end
end Go.Pl

namespace Go.Pl
open Go.Ev
set_option linter.unusedVariables false
noncomputable section
def Qbr.top (p : List Int) : Option (YD × ByteArray) :=
 (QU.f p).bind fun r1 =>
 (Qbk.f r1).bind fun r2 =>
 (Qh.f r2.2 16).bind fun r3 =>
 if ((r3.1 : Int) == 0) = true then
 (Qbs.f r3.2).bind fun r4 =>
 some (r2.1, r4.1)
 else
 (QaQ.f).bind fun r5 =>
 (Qh.f r3.2 5).bind fun r6 =>
 if (0 : Int) ≤ r6.1 ∧ (r6.1 : Int) < r5.length then
 some (r2.1, r5.getD (r6.1 : Int).toNat ByteArray.empty)
 else
 none
def Qbr.fn (n : Nat) (p : List Int) : Option (YD × ByteArray) := Qbr.top p
def Qbr.f (p : List Int) : Option (YD × ByteArray) := Qbr.fn NN p
end
end Go.Pl

namespace Go.Pl
open Go.Ev
set_option linter.unusedVariables false
noncomputable section
def QbI.top (p : List Int) : Option (YD × ByteArray) :=
 (Qbr.f p).bind fun r1 =>
 some (r1.1, r1.2)
def QbI.fn (n : Nat) (p : List Int) : Option (YD × ByteArray) := QbI.top p
def QbI.f (p : List Int) : Option (YD × ByteArray) := QbI.fn NN p
end
end Go.Pl

namespace Go.Pl
open Go.Ev
set_option linter.unusedVariables false
noncomputable section
def Qbh.g4 (L4 : YD → YD → Int → Option Bool) (a0 : List YA) (b1 : List YA) (i5 : Int) : Option Bool :=
 if (decide ((i5 : Int) < (a0.length : Int))) = true then
 if (0 : Int) ≤ i5 ∧ (i5 : Int) < a0.length then
 if (0 : Int) ≤ i5 ∧ (i5 : Int) < b1.length then
 if (!(((((a0.getD (i5 : Int).toNat (0, (ByteArray.empty, 0))).1) : Int) == ((b1.getD (i5 : Int).toNat (0, (ByteArray.empty, 0))).1)) && (((((a0.getD (i5 : Int).toNat (0, (ByteArray.empty, 0))).2).1).toList == (((b1.getD (i5 : Int).toNat (0, (ByteArray.empty, 0))).2).1).toList) && (((((a0.getD (i5 : Int).toNat (0, (ByteArray.empty, 0))).2).2) : Int) == (((b1.getD (i5 : Int).toNat (0, (ByteArray.empty, 0))).2).2))))) = true then
 some false
 else
 L4 a0 b1 (IntKind.i64.wrap (i5 + 1))
 else
 none
 else
 none
 else
 some true
def Qbh.l4 (n : Nat) : Nat → YD → YD → Int → Option Bool
 | 0 => fun _ _ _ => none
 | k + 1 => Qbh.g4 (Qbh.l4 n k)
def Qbh.top (I4 : YD → YD → Int → Option Bool) (a0 : List YA) (b1 : List YA) : Option Bool :=
 if (((a0.length : Int) : Int) != (b1.length : Int)) = true then
 some false
 else
 I4 a0 b1 0
def Qbh.fn (n : Nat) (a0 : List YA) (b1 : List YA) : Option Bool := Qbh.top (Qbh.l4 n n) a0 b1
def Qbh.f (a0 : List YA) (b1 : List YA) : Option Bool := Qbh.fn NN a0 b1
end
end Go.Pl

namespace Go.Pl
open Go.Ev
set_option linter.unusedVariables false
set_option linter.unusedSimpArgs false
def names6 : List ByteArray := [(⟨#[97, 115, 116, 101, 114]⟩ : ByteArray), (⟨#[99, 111, 109, 101, 116]⟩ : ByteArray), (⟨#[100, 97, 104, 108, 105, 97]⟩ : ByteArray), (⟨#[112, 97, 108, 109]⟩ : ByteArray), (⟨#[112, 101, 111, 110, 121]⟩ : ByteArray), (⟨#[119, 105, 108, 108, 111, 119]⟩ : ByteArray)]
theorem names_f : QaQ.f = some names6 := rfl
theorem names6_len : names6.length = 6 := rfl
theorem leftOf_nonneg : ∀ (r p : List (Int × ByteArray × Int)) (a : ByteArray), okFrom p r = true → 0 ≤ leftOf p a → 0 ≤ leftOf (p ++ r) a := by
  intro r
  induction r with
  | nil => intro p a _ h; rwa [List.append_nil]
  | cons b r ih =>
    intro p a h hp
    simp only [okFrom, Bool.and_eq_true, decide_eq_true_eq] at h
    have := ih (p ++ [b]) a h.2 (by
      by_cases ha : b.2.1 = a
      · rw [← ha]; exact h.1.2
      · rw [leftOf_snoc]; unfold addL; rw [if_neg ha]; exact hp)
    rwa [List.append_assoc] at this
theorem tot0_mono (a : ByteArray) : ∀ (r p : List (Int × ByteArray × Int)), (∀ b ∈ p ++ r, valB b = true) → (totL p a).getD 0 0 ≤ (totL (p ++ r) a).getD 0 0 := by
  intro r
  induction r with
  | nil => intro p _; rw [List.append_nil]; exact Int.le_refl _
  | cons b r ih =>
    intro p h
    have h1 := ih (p ++ [b]) (by rw [List.append_assoc]; exact h)
    rw [List.append_assoc] at h1
    refine Int.le_trans ?_ h1
    have hv := valB_count (h b (by simp))
    obtain ⟨t0, t1, t2, t3, q1, q2⟩ := totL_shape a p (fun x hx => h x (by simp [hx]))
    rw [totL_snoc, q1]
    unfold addT
    split
    · obtain h | h | h | h : b.1 = 0 ∨ b.1 = 1 ∨ b.1 = 2 ∨ b.1 = 3 := by omega
      all_goals (rw [h]; simp)
      omega
    · exact Int.le_refl _
theorem left_tot0 (xs : List (Int × ByteArray × Int)) (a : ByteArray) (h : ∀ b ∈ xs, valB b = true) (n : Nat) : leftOf (xs.take n) a ≤ (totL xs a).getD 0 0 := by
  have h1 := tot0_mono a (xs.drop n) (xs.take n) (by rw [List.take_append_drop]; exact h)
  rw [List.take_append_drop] at h1
  obtain ⟨t0, t1, t2, t3, q1, q2, q3, q4, q5, q6, q7⟩ := totL_shape a (xs.take n) (fun x hx => h x (List.mem_of_mem_take hx))
  rw [q1] at h1
  have : ([t0, t1, t2, t3] : List Int).getD 0 0 = t0 := rfl
  rw [this] at h1
  omega
theorem most_le (xs : List (Int × ByteArray × Int)) (a : ByteArray) (h : ∀ b ∈ xs, valB b = true) (B : Int) (hB : ∀ n, leftOf (xs.take n) a ≤ B) : ∀ (r : List (Int × ByteArray × Int)) (i : Nat) (st : Int), st ≤ B → foldi (fun i st (_ : Int × ByteArray × Int) => mostF xs a i st) i st r ≤ B := by
  intro r
  induction r with
  | nil => intro i st hs; exact hs
  | cons b r ih =>
    intro i st hs
    refine ih (i + 1) _ ?_
    have := hB (i + 1)
    show mostF xs a i st ≤ B
    unfold mostF; split <;> omega
theorem most_ge (xs : List (Int × ByteArray × Int)) (a : ByteArray) : ∀ (r : List (Int × ByteArray × Int)) (i : Nat) (st : Int), st ≤ foldi (fun i st (_ : Int × ByteArray × Int) => mostF xs a i st) i st r ∧ (0 < r.length → leftOf (xs.take (i + r.length)) a ≤ foldi (fun i st (_ : Int × ByteArray × Int) => mostF xs a i st) i st r) := by
  intro r
  induction r with
  | nil => intro i st; exact ⟨Int.le_refl _, fun h => by simp at h⟩
  | cons b r ih =>
    intro i st
    have h1 := ih (i + 1) (mostF xs a i st)
    have h2 : st ≤ mostF xs a i st ∧ leftOf (xs.take (i + 1)) a ≤ mostF xs a i st := by unfold mostF; split <;> omega
    refine ⟨Int.le_trans h2.1 h1.1, fun _ => ?_⟩
    cases r with
    | nil => exact Int.le_trans h2.2 h1.1
    | cons c r =>
      have := h1.2 (by simp)
      rw [show i + (b :: c :: r).length = i + 1 + (c :: r).length by simp only [List.length_cons]; omega]
      exact this
theorem most_bd (xs : List (Int × ByteArray × Int)) (a : ByteArray) (h : booksB xs = true) : 0 ≤ leftOf xs a ∧ leftOf xs a ≤ mostL xs a ∧ mostL xs a ≤ (totL xs a).getD 0 0 := by
  have hv := booksB_val h
  have hok : okFrom [] xs = true := by
    unfold booksB at h
    simp only [Bool.and_eq_true] at h
    exact h.2
  have h0 := leftOf_nonneg xs [] a hok (Int.le_refl 0)
  rw [List.nil_append] at h0
  have ht := left_tot0 xs a hv.1
  refine ⟨h0, ?_, ?_⟩
  · have := most_ge xs a xs 0 0
    unfold mostL
    cases xs with
    | nil => exact Int.le_refl 0
    | cons b r =>
      have h2 := this.2 (by simp)
      rw [Nat.zero_add, List.take_length] at h2
      exact h2
  · unfold mostL
    refine most_le xs a hv.1 _ ht xs 0 0 ?_
    have := ht 0
    rw [List.take_zero] at this
    exact this
end Go.Pl
