/- The law FnExactWriteJournal, and what it stands on (the last part): the program answers as the law says, for all arguments of a claim's bounds. -/
import Derived.Test.YtppfdipgaifhiabChecked
import Derived.Test.YtppfdipgaifhiabProg
import Derived.Test.YtppfdipgaifhiabRows
import Derived.Below
import Derived.Calls
import Derived.Carry
import Derived.ChangeArms
import Derived.ChangeOld
import Derived.Deep.Quiet
import Derived.KernelRfl
import Derived.Laws.Append
import Derived.Laws.BytesString
import Derived.Laws.MakeOwn
import Derived.Laws.Strings
import Derived.OpenShut
import Derived.OrdersHeld
import Derived.ProofKit
import Derived.ShutString
import Derived.SizedLaws
import Derived.Tactics
import Derived.WalkKit
import Derived.WideShapes
import Derived.Test.YtppfdipgaifhiabEvExactWriteJournal1
namespace Go.Pl
open Go.Ev
set_option linter.unusedVariables false
set_option linter.unusedSimpArgs false
def digs (n : Nat) : List UInt8 := if h : n < 10 then [UInt8.ofNat (48 + n)] else digs (n / 10) ++ [UInt8.ofNat (48 + n % 10)]
  termination_by n
  decreasing_by omega
theorem digs_small {n : Nat} (h : n < 10) : digs n = [UInt8.ofNat (48 + n)] := by rw [digs, dif_pos h]
theorem digs_big {n : Nat} (h : ¬ n < 10) : digs n = digs (n / 10) ++ [UInt8.ofNat (48 + n % 10)] := by rw [digs, dif_neg h]
theorem digs_len : ∀ (d n : Nat), n < 10 ^ (d + 1) → (digs n).length ≤ d + 1 ∧ 1 ≤ (digs n).length := by
  intro d
  induction d with
  | zero => intro n hn; rw [digs_small (by simpa using hn)]; simp
  | succ d ih =>
    intro n hn
    by_cases h : n < 10
    · rw [digs_small h]; simp
    · rw [digs_big h]
      have := ih (n / 10) (by rw [Nat.pow_succ] at hn; omega)
      simp; omega
def decB (n : Int) : ByteArray := ob (if n < 0 then 45 :: digs (-n).toNat else digs n.toNat)
theorem decB_nat (n : Nat) : decB (n : Int) = ob (digs n) := by unfold decB; rw [if_neg (by omega), Int.toNat_natCast]
theorem bytesOf_dig {x : Nat} (h : x < 10) : bytesOf [IntKind.u8.wrap (IntKind.i64.wrap (48 + (x : Int)))] = ob [UInt8.ofNat (48 + x)] := by
  rw [w64 (n := 48 + (x : Int)) (by omega) (by omega), w8 (by omega) (by omega), bytesOf_ob]
  simp only [List.map_cons, List.map_nil]
  rfl
theorem tmod10 (x : Nat) : Int.tmod (x : Int) 10 = ((x % 10 : Nat) : Int) := (Int.ofNat_tmod x 10).symm
theorem tdiv10 (x : Nat) : Int.tdiv (x : Int) 10 = ((x / 10 : Nat) : Int) := (Int.ofNat_tdiv x 10).symm
theorem p19 : (10 : Nat) ^ (18 + 1) = 10000000000000000000 := by decide
theorem impl_decimal_l (S : Int → Option ByteArray) : ∀ (d n : Nat), n < 10 ^ (d + 1) → n ≤ 1000000000000000000 → ∀ (acc : List UInt8) (k : Nat), acc.length + d ≤ 1000 → d < k → impl_decimal.l4 S NN k (n : Int) (ob acc) = some (ob (digs n ++ acc)) := by
  intro d
  induction d with
  | zero =>
    intro n hn _ acc k ha hk
    obtain ⟨k, rfl⟩ : ∃ j, k = j + 1 := ⟨k - 1, by omega⟩
    have hn' : n < 10 := by simpa using hn
    have e0 : (ob [UInt8.ofNat (48 + n % 10)]).size + (ob acc).size ≤ 9223372036854775807 := by rw [ob_size, ob_size]; simp; omega
    have ew := w64 (n := ((n / 10 : Nat) : Int)) (by omega) (by omega)
    have ez : (((n / 10 : Nat) : Int) == 0) = true := by rw [beq_iff_eq]; omega
    simp only [impl_decimal.l4, impl_decimal.g4, tdiv10, tmod10, bytesOf_dig (show n % 10 < 10 by omega), e0, ew, ez, if_true, ob_append]
    rw [digs_small hn', Nat.mod_eq_of_lt hn']
  | succ d ih =>
    intro n hn hm acc k ha hk
    obtain ⟨k, rfl⟩ : ∃ j, k = j + 1 := ⟨k - 1, by omega⟩
    have e0 : (ob [UInt8.ofNat (48 + n % 10)]).size + (ob acc).size ≤ 9223372036854775807 := by rw [ob_size, ob_size]; simp; omega
    have ew := w64 (n := ((n / 10 : Nat) : Int)) (by omega) (by omega)
    simp only [impl_decimal.l4, impl_decimal.g4, tdiv10, tmod10, bytesOf_dig (show n % 10 < 10 by omega), e0, ew, if_true, ob_append]
    by_cases h : n < 10
    · have ez : (((n / 10 : Nat) : Int) == 0) = true := by rw [beq_iff_eq]; omega
      rw [if_pos ez, digs_small h, Nat.mod_eq_of_lt h]
    · have ez : ¬ (((n / 10 : Nat) : Int) == 0) = true := by rw [beq_iff_eq]; omega
      have hn' : n / 10 < 10 ^ (d + 1) := by rw [Nat.pow_succ] at hn; omega
      rw [if_neg ez, ih (n / 10) hn' (by omega) _ k (by simp; omega) (by omega), digs_big h, List.append_assoc]
theorem impl_decimal_fn (S : Int → Option ByteArray) (m : Nat) (h : m ≤ 1000000000000000000) : impl_decimal.fn S NN m = some (decB m) := by
  unfold impl_decimal.fn impl_decimal.top
  have hl := impl_decimal_l S 18 m (by rw [p19]; omega) h [] NN (by simp) (NN_lt (by omega))
  rw [List.append_nil] at hl
  have hn : ¬ (m : Int) < 0 := by omega
  simp only [hn, decide_false, Bool.false_eq_true, if_false]
  rw [decB_nat]; exact hl
theorem NN_succ2 : ∃ j, NN = j + 1 + 1 := ⟨NN - 2, by have := NNb; omega⟩
theorem impl_decimal_f {n : Int} (h0 : -1000000000000000000 ≤ n) (h : n ≤ 1000000000000000000) : impl_decimal.f n = some (decB n) := by
  unfold impl_decimal.f
  obtain ⟨k, hk⟩ := NN_succ2
  rw [hk]
  show impl_decimal.fn (impl_decimal.rc (k + 1)) NN n = some (decB n)
  by_cases hn : 0 ≤ n
  · obtain ⟨m, rfl⟩ : ∃ m : Nat, n = m := ⟨n.toNat, by omega⟩
    exact impl_decimal_fn _ m (by omega)
  · obtain ⟨m, hm⟩ : ∃ m : Nat, -n = m := ⟨(-n).toNat, by omega⟩
    have hl := digs_len 18 m (by rw [p19]; omega)
    have hw : IntKind.i64.wrap (0 - n) = (m : Int) := by rw [w64 (by omega) (by omega)]; omega
    have hf := impl_decimal_fn (impl_decimal.rc k) m (by omega)
    have hlt : n < 0 := by omega
    show impl_decimal.top (impl_decimal.rc (k + 1)) (impl_decimal.l4 (impl_decimal.rc (k + 1)) NN NN) n = some (decB n)
    unfold impl_decimal.top
    simp only [hlt, decide_true, if_true, hw]
    rw [show impl_decimal.rc (k + 1) (m : Int) = impl_decimal.fn (impl_decimal.rc k) NN (m : Int) from rfl, hf]
    simp only [Option.bind_some]
    rw [decB_nat, if_pos (by rw [ob_size, show (⟨#[45]⟩ : ByteArray).size = 1 from rfl]; omega), show (⟨#[45]⟩ : ByteArray) = ob [45] from rfl, ob_append]
    unfold decB; rw [if_pos hlt, hm]; rfl
theorem spec_l01Dec_nat : ∀ (d n : Nat), d ≤ 20 → n < 10 ^ (d + 1) → n ≤ 1000000000000000000 → ∀ k, d < k → spec_l01Dec.rc k (n : Int) = some (ob (digs n)) := by
  intro d
  induction d with
  | zero =>
    intro n _ hn _ k hk
    obtain ⟨k, rfl⟩ : ∃ j, k = j + 1 := ⟨k - 1, by omega⟩
    have hn' : n < 10 := by simpa using hn
    have h1 : (n : Int) < 10 := by omega
    simp only [spec_l01Dec.rc, spec_l01Dec.fn, spec_l01Dec.top, h1, decide_true, if_true, bytesOf_dig hn', digs_small hn']
  | succ d ih =>
    intro n hd hn hm k hk
    obtain ⟨k, rfl⟩ : ∃ j, k = j + 1 := ⟨k - 1, by omega⟩
    by_cases h : n < 10
    · have h1 : (n : Int) < 10 := by omega
      simp only [spec_l01Dec.rc, spec_l01Dec.fn, spec_l01Dec.top, h1, decide_true, if_true, bytesOf_dig h, digs_small h]
    · have hn' : n / 10 < 10 ^ (d + 1) := by rw [Nat.pow_succ] at hn; omega
      have hl := digs_len d (n / 10) hn'
      have h1 : ¬ (n : Int) < 10 := by omega
      have ew := w64 (n := ((n / 10 : Nat) : Int)) (by omega) (by omega)
      have e0 : (ob (digs (n / 10))).size + (ob [UInt8.ofNat (48 + n % 10)]).size ≤ 9223372036854775807 := by rw [ob_size, ob_size]; simp; omega
      simp only [spec_l01Dec.rc, spec_l01Dec.fn, spec_l01Dec.top, h1, decide_false, Bool.false_eq_true, if_false, tdiv10, tmod10, ew, ih (n / 10) (by omega) hn' (by omega) k (by omega), Option.bind_some, bytesOf_dig (show n % 10 < 10 by omega), e0, if_true, ob_append, digs_big h]
theorem spec_l01Dec_f {n : Int} (h0 : 0 ≤ n) (h : n ≤ 1000000000000000000) : spec_l01Dec.f n = some (decB n) := by
  obtain ⟨m, rfl⟩ : ∃ m : Nat, n = m := ⟨n.toNat, by omega⟩
  rw [decB_nat]
  exact spec_l01Dec_nat 18 m (by omega) (by rw [p19]; omega) (by omega) NN (NN_lt (by omega))
theorem decB_size {n : Int} (h0 : -1000000000000000000 ≤ n) (h : n ≤ 1000000000000000000) : (decB n).size ≤ 20 := by
  have hl := digs_len 18 n.toNat (by rw [p19]; omega)
  have hl2 := digs_len 18 (-n).toNat (by rw [p19]; omega)
  unfold decB; rw [ob_size]; split
  · rw [List.length_cons]; omega
  · omega
end Go.Pl

namespace Go.Pl
open Go.Ev
set_option linter.unusedVariables false
set_option linter.unusedSimpArgs false
def ckL : Int → List UInt8 → Int
  | c, [] => c
  | c, b :: r => ckL ((c * 29 + (b.toNat : Int)) % 9973) r
theorem ckL_range : ∀ (l : List UInt8) (c : Int), 0 ≤ c → c ≤ 9972 → 0 ≤ ckL c l ∧ ckL c l ≤ 9972 := by
  intro l
  induction l with
  | nil => intro c h0 h1; exact ⟨h0, h1⟩
  | cons b r ih => intro c h0 h1; simp only [ckL]; exact ih _ (by omega) (by omega)
def ckE (c : Int) (e : Int × ByteArray) : Int := ckL ((c * 29 + e.1) % 9973) (bl e.2)
theorem ckE_range {c : Int} (e : Int × ByteArray) : 0 ≤ ckE c e ∧ ckE c e ≤ 9972 := ckL_range _ _ (by omega) (by omega)
theorem ck_step {c b : Int} (h0 : 0 ≤ c) (h1 : c ≤ 10000) (h2 : 0 ≤ b) (h3 : b ≤ 255) : Int.tmod (IntKind.i64.wrap ((IntKind.i64.wrap (c * 29)) + (IntKind.i64.wrap b))) 9973 = (c * 29 + b) % 9973 := by
  rw [w64 (n := c * 29) (by omega) (by omega), w64 (n := b) (by omega) (by omega), w64 (by omega) (by omega), Int.tmod_eq_emod_of_nonneg (by omega)]
def EnIn (e : Int × ByteArray) : Prop := 0 ≤ e.1 ∧ e.1 ≤ 255 ∧ e.2.size ≤ 1000000
theorem impl_nextCheck_l (kd : Int) : ∀ (r p : List UInt8) (c : Int) (k : Nat), p.length + r.length ≤ 1000000 → r.length < k → 0 ≤ c → c ≤ 10000 → impl_nextCheck.l3 NN k c p.length (kd, ob (p ++ r)) = some (ckL c r) := by
  intro r
  induction r with
  | nil =>
    intro p c k _ hk _ _
    obtain ⟨k, rfl⟩ : ∃ j, k = j + 1 := ⟨k - 1, by omega⟩
    simp [impl_nextCheck.l3, impl_nextCheck.g3, ob_size, ckL]
  | cons b r ih =>
    intro p c k hb hk h0 h1
    simp only [List.length_cons] at hb hk
    obtain ⟨k, rfl⟩ : ∃ j, k = j + 1 := ⟨k - 1, by omega⟩
    have hm := mid_len p r b
    have c0 : (0 : Int) ≤ (p.length : Int) := by omega
    have c1 : (p.length : Int) < ((ob (p ++ b :: r)).size : Int) := by rw [ob_size]; omega
    have cw := w64 (n := (p.length : Int) + 1) (by omega) (by omega)
    have hu := u8_lt b
    have := ih (p ++ [b]) ((c * 29 + (b.toNat : Int)) % 9973) k (by simp; omega) (by omega) (by omega) (by omega)
    rw [mid_snoc, snoc_len] at this
    simp only [impl_nextCheck.l3, impl_nextCheck.g3, c0, c1, cw, and_self, and_true, true_and, decide_true, decide_false, if_true, if_false, mid_get, mid_set, mid_getn, mid_setn, bt_mid, Option.bind_some, Bool.not_true, Bool.not_false, Bool.false_eq_true, Bool.true_eq_false, beq_self_eq_true, bne_self_eq_false, Int.toNat_natCast, ck_step h0 h1 (show (0 : Int) ≤ (b.toNat : Int) by omega) (show (b.toNat : Int) ≤ 255 by omega), this]
    rfl
theorem impl_nextCheck_f {c : Int} (e : Int × ByteArray) (he : EnIn e) (h0 : 0 ≤ c) (h1 : c ≤ 10000) : impl_nextCheck.f c e = some (ckE c e) := by
  obtain ⟨kd, t⟩ := e
  obtain ⟨h2, h3, h4⟩ := he
  simp only at h2 h3 h4
  unfold impl_nextCheck.f impl_nextCheck.fn impl_nextCheck.top ckE
  rw [ck_step h0 h1 h2 h3]
  have := impl_nextCheck_l kd (bl t) [] ((c * 29 + kd) % 9973) NN (by simp [bl_length]; exact h4) (by rw [bl_length]; exact NN_lt (by omega)) (by omega) (by omega)
  rw [List.nil_append, ob_bl] at this
  exact this
theorem spec_l33Check_l (kd : Int) : ∀ (r p : List UInt8) (c : Int) (k : Nat), p.length + r.length ≤ 1000000 → r.length < k → 0 ≤ c → c ≤ 10000 → spec_l33Check.l3 NN k c p.length (kd, ob (p ++ r)) = some (ckL c r) := by
  intro r
  induction r with
  | nil =>
    intro p c k _ hk _ _
    obtain ⟨k, rfl⟩ : ∃ j, k = j + 1 := ⟨k - 1, by omega⟩
    simp [spec_l33Check.l3, spec_l33Check.g3, ob_size, ckL]
  | cons b r ih =>
    intro p c k hb hk h0 h1
    simp only [List.length_cons] at hb hk
    obtain ⟨k, rfl⟩ : ∃ j, k = j + 1 := ⟨k - 1, by omega⟩
    have hm := mid_len p r b
    have c0 : (0 : Int) ≤ (p.length : Int) := by omega
    have c1 : (p.length : Int) < ((ob (p ++ b :: r)).size : Int) := by rw [ob_size]; omega
    have cw := w64 (n := (p.length : Int) + 1) (by omega) (by omega)
    have hu := u8_lt b
    have := ih (p ++ [b]) ((c * 29 + (b.toNat : Int)) % 9973) k (by simp; omega) (by omega) (by omega) (by omega)
    rw [mid_snoc, snoc_len] at this
    simp only [spec_l33Check.l3, spec_l33Check.g3, c0, c1, cw, and_self, and_true, true_and, decide_true, decide_false, if_true, if_false, mid_get, mid_set, mid_getn, mid_setn, bt_mid, Option.bind_some, Bool.not_true, Bool.not_false, Bool.false_eq_true, Bool.true_eq_false, beq_self_eq_true, bne_self_eq_false, Int.toNat_natCast, ck_step h0 h1 (show (0 : Int) ≤ (b.toNat : Int) by omega) (show (b.toNat : Int) ≤ 255 by omega), this]
    rfl
theorem spec_l33Check_f {c : Int} (e : Int × ByteArray) (he : EnIn e) (h0 : 0 ≤ c) (h1 : c ≤ 10000) : spec_l33Check.f c e = some (ckE c e) := by
  obtain ⟨kd, t⟩ := e
  obtain ⟨h2, h3, h4⟩ := he
  simp only at h2 h3 h4
  unfold spec_l33Check.f spec_l33Check.fn spec_l33Check.top ckE
  rw [ck_step h0 h1 h2 h3]
  have := spec_l33Check_l kd (bl t) [] ((c * 29 + kd) % 9973) NN (by simp [bl_length]; exact h4) (by rw [bl_length]; exact NN_lt (by omega)) (by omega) (by omega)
  rw [List.nil_append, ob_bl] at this
  exact this
def lnB (e : Int × ByteArray) (c : Int) : ByteArray := bytesOf [e.1] ++ ⟨#[32]⟩ ++ e.2 ++ ⟨#[32]⟩ ++ decB c ++ ⟨#[10]⟩
theorem bytesOf1_size (k : Int) : (bytesOf [k]).size = 1 := by rw [bytesOf_ob, ob_size]; rfl
theorem lit1_size (c : UInt8) : (⟨#[c]⟩ : ByteArray).size = 1 := rfl
theorem lnB_size (e : Int × ByteArray) {c : Int} (h0 : 0 ≤ c) (h1 : c ≤ 10000) : (lnB e c).size ≤ e.2.size + 24 := by
  have := @decB_size c (by omega) (by omega)
  unfold lnB
  simp only [ByteArray.size_append, bytesOf1_size, lit1_size]; omega
theorem impl_decimal_nn {n : Int} (h0 : 0 ≤ n) (h : n ≤ 1000000000000000000) : impl_decimal.f n = some (decB n) := impl_decimal_f (by omega) h
theorem impl_entryLine_f (e : Int × ByteArray) {c : Int} (ht : e.2.size ≤ 1000000) (h0 : 0 ≤ c) (h1 : c ≤ 10000) : impl_entryLine.f e c = some (lnB e c) := by
  have hd := @decB_size c (by omega) (by omega)
  have z1 : (bytesOf [e.1]).size + (⟨#[32]⟩ : ByteArray).size ≤ 9223372036854775807 := by rw [bytesOf1_size, lit1_size]; omega
  have z2 : (bytesOf [e.1] ++ (⟨#[32]⟩ : ByteArray)).size + e.2.size ≤ 9223372036854775807 := by simp only [ByteArray.size_append, bytesOf1_size, lit1_size]; omega
  have z3 : (bytesOf [e.1] ++ (⟨#[32]⟩ : ByteArray) ++ e.2).size + (⟨#[32]⟩ : ByteArray).size ≤ 9223372036854775807 := by simp only [ByteArray.size_append, bytesOf1_size, lit1_size]; omega
  have z4 : (bytesOf [e.1] ++ (⟨#[32]⟩ : ByteArray) ++ e.2 ++ (⟨#[32]⟩ : ByteArray)).size + (decB c).size ≤ 9223372036854775807 := by simp only [ByteArray.size_append, bytesOf1_size, lit1_size]; omega
  have z5 : (bytesOf [e.1] ++ (⟨#[32]⟩ : ByteArray) ++ e.2 ++ (⟨#[32]⟩ : ByteArray) ++ decB c).size + (⟨#[10]⟩ : ByteArray).size ≤ 9223372036854775807 := by simp only [ByteArray.size_append, bytesOf1_size, lit1_size]; omega
  unfold impl_entryLine.f impl_entryLine.fn impl_entryLine.top
  simp only [impl_decimal_nn h0 (show c ≤ 1000000000000000000 by omega), Option.bind_some, z1, z2, z3, z4, z5, if_true, agree_self]
  rfl
theorem spec_l33Line_f (e : Int × ByteArray) {c : Int} (ht : e.2.size ≤ 1000000) (h0 : 0 ≤ c) (h1 : c ≤ 10000) : spec_l33Line.f e c = some (lnB e c) := by
  have hd := @decB_size c (by omega) (by omega)
  have z1 : (bytesOf [e.1]).size + (⟨#[32]⟩ : ByteArray).size ≤ 9223372036854775807 := by rw [bytesOf1_size, lit1_size]; omega
  have z2 : (bytesOf [e.1] ++ (⟨#[32]⟩ : ByteArray)).size + e.2.size ≤ 9223372036854775807 := by simp only [ByteArray.size_append, bytesOf1_size, lit1_size]; omega
  have z3 : (bytesOf [e.1] ++ (⟨#[32]⟩ : ByteArray) ++ e.2).size + (⟨#[32]⟩ : ByteArray).size ≤ 9223372036854775807 := by simp only [ByteArray.size_append, bytesOf1_size, lit1_size]; omega
  have z4 : (bytesOf [e.1] ++ (⟨#[32]⟩ : ByteArray) ++ e.2 ++ (⟨#[32]⟩ : ByteArray)).size + (decB c).size ≤ 9223372036854775807 := by simp only [ByteArray.size_append, bytesOf1_size, lit1_size]; omega
  have z5 : (bytesOf [e.1] ++ (⟨#[32]⟩ : ByteArray) ++ e.2 ++ (⟨#[32]⟩ : ByteArray) ++ decB c).size + (⟨#[10]⟩ : ByteArray).size ≤ 9223372036854775807 := by simp only [ByteArray.size_append, bytesOf1_size, lit1_size]; omega
  unfold spec_l33Line.f spec_l33Line.fn spec_l33Line.top
  simp only [spec_l01Dec_f h0 (show c ≤ 1000000000000000000 by omega), Option.bind_some, z1, z2, z3, z4, z5, if_true, agree_self]
  rfl
/-- out and check -/
def jF (st : ByteArray × Int) (e : Int × ByteArray) : ByteArray × Int := (st.1 ++ lnB e (ckE st.2 e), ckE st.2 e)
def jText (l : List (Int × ByteArray)) : ByteArray := (l.foldl jF (⟨#[]⟩, 1)).1
theorem impl_journalOf_f (l : List (Int × ByteArray)) (hl : l.length ≤ 1000000) (hin : ∀ e ∈ l, EnIn e) : impl_journalOf.f l = some (jText l) ∧ (jText l).size ≤ 2000000 * l.length := by
  have := fold_fix (E := EnIn) (fun p st => st.1.size ≤ 2000000 * p.length ∧ 0 ≤ st.2 ∧ st.2 ≤ 10000) (fun _ => jF) (fun st => some st.1) (fun k i st => impl_journalOf.l3 NN k st.1 st.2 l l.length i) l ?_ ?_ (⟨#[]⟩, 1) hin ⟨by simp; rfl, by simp, by simp⟩ (by omega) NN (NN_lt (by omega))
  · rw [foldi_foldl] at this
    exact ⟨this.2, this.1.1⟩
  · intro k st _
    simp [impl_journalOf.l3, impl_journalOf.g3]
  · intro k p e r st hx he hI c0 c1 c2 cw g
    obtain ⟨h1, h2, h3⟩ := hI
    have hr := @ckE_range st.2 e
    have hs := @lnB_size e (ckE st.2 e) hr.1 (by omega)
    have h4 := he.2.2
    have hz : st.1.size + (lnB e (ckE st.2 e)).size ≤ 9223372036854775807 := by omega
    refine ⟨⟨?_, by simp only [jF]; omega, by simp only [jF]; omega⟩, ?_⟩
    · simp only [jF, ByteArray.size_append, List.length_append, List.length_singleton]; omega
    · simp only [impl_journalOf.l3, impl_journalOf.g3, c0, c1, cw, and_self, and_true, true_and, decide_true, decide_false, if_true, if_false, mid_get, mid_set, mid_getn, mid_setn, bt_mid, Option.bind_some, Bool.not_true, Bool.not_false, Bool.false_eq_true, Bool.true_eq_false, beq_self_eq_true, bne_self_eq_false, Int.toNat_natCast, g, impl_nextCheck_f e he h2 h3, @impl_entryLine_f e (ckE st.2 e) h4 hr.1 (by omega), hz]
      rfl
theorem spec_l33Write_f (l : List (Int × ByteArray)) (hl : l.length ≤ 1000000) (hin : ∀ e ∈ l, EnIn e) : spec_l33Write.f l = some (jText l) ∧ (jText l).size ≤ 2000000 * l.length := by
  have := fold_fix (E := EnIn) (fun p st => st.1.size ≤ 2000000 * p.length ∧ 0 ≤ st.2 ∧ st.2 ≤ 10000) (fun _ => jF) (fun st => some st.1) (fun k i st => spec_l33Write.l3 NN k l st.1 st.2 i) l ?_ ?_ (⟨#[]⟩, 1) hin ⟨by simp; rfl, by simp, by simp⟩ (by omega) NN (NN_lt (by omega))
  · rw [foldi_foldl] at this
    exact ⟨this.2, this.1.1⟩
  · intro k st _
    simp [spec_l33Write.l3, spec_l33Write.g3]
  · intro k p e r st hx he hI c0 c1 c2 cw g
    obtain ⟨h1, h2, h3⟩ := hI
    have hr := @ckE_range st.2 e
    have hs := @lnB_size e (ckE st.2 e) hr.1 (by omega)
    have h4 := he.2.2
    have hz : st.1.size + (lnB e (ckE st.2 e)).size ≤ 9223372036854775807 := by omega
    refine ⟨⟨?_, by simp only [jF]; omega, by simp only [jF]; omega⟩, ?_⟩
    · simp only [jF, ByteArray.size_append, List.length_append, List.length_singleton]; omega
    · simp only [spec_l33Write.l3, spec_l33Write.g3, c0, c1, cw, and_self, and_true, true_and, decide_true, decide_false, if_true, if_false, mid_get, mid_set, mid_getn, mid_setn, bt_mid, Option.bind_some, Bool.not_true, Bool.not_false, Bool.false_eq_true, Bool.true_eq_false, beq_self_eq_true, bne_self_eq_false, Int.toNat_natCast, g, spec_l33Check_f e he h2 h3, @spec_l33Line_f e (ckE st.2 e) h4 hr.1 (by omega), hz]
      rfl
theorem entB_in {e : Int × ByteArray} (h : entB e = true) : EnIn e := by
  unfold entB at h
  simp only [Bool.and_eq_true, decide_eq_true_eq] at h
  exact ⟨by omega, by omega, by omega⟩
end Go.Pl

namespace Go.Pl
open Go.Ev
set_option linter.unusedVariables false
set_option linter.unusedSimpArgs false
theorem spec_l33Code_f (xs : List (Int × ByteArray)) (h : Ls (fun e => Sz e.2) xs) : spec_l33Code.f xs = some (if xs.all entB = true then (if xs.length ≤ 20 then 0 else 3) else 1) := by
  unfold spec_l33Code.f spec_l33Code.fn spec_l33Code.top
  rw [spec_l33All_f xs h]
  cases xs.all entB
  · rfl
  by_cases h1 : xs.length ≤ 20
  · have : ¬ (20 : Int) < (xs.length : Int) := by omega
    simp [h1, this]
  · have : (20 : Int) < (xs.length : Int) := by omega
    simp [h1, this]
theorem ok_sz {xs : List (Int × ByteArray)} (h : Lm OkEntry xs) : Ls (fun e => Sz e.2) xs := ⟨Nat.le_trans h.1 (by omega), fun x hx => Nat.le_trans (h.2 x hx).2 (by omega)⟩
theorem all_in {xs : List (Int × ByteArray)} (h : xs.all entB = true) : ∀ e ∈ xs, EnIn e := fun e he => entB_in (List.all_eq_true.1 h e he)
theorem WriteJournal_core (xs : List (Int × ByteArray)) (h : Lm OkEntry xs) : ∃ w, spec_WriteJournal.f xs = some w ∧ impl_WriteJournal.f xs = some w ∧ True := by
  have hs := ok_sz h
  refine ⟨if xs.all entB = true then (if xs.length ≤ 20 then (jText xs, 0) else (⟨#[]⟩, 3)) else (⟨#[]⟩, 1), ?_, ?_, trivial⟩
  · unfold spec_WriteJournal.f spec_WriteJournal.fn spec_WriteJournal.top
    rw [spec_l33Code_f xs hs]
    cases ha : xs.all entB
    · rfl
    by_cases h1 : xs.length ≤ 20
    · simp only [h1, and_self, and_true, true_and, decide_true, decide_false, if_true, if_false, mid_get, mid_set, mid_getn, mid_setn, bt_mid, Option.bind_some, Bool.not_true, Bool.not_false, Bool.false_eq_true, Bool.true_eq_false, beq_self_eq_true, bne_self_eq_false, Int.toNat_natCast]
      rw [(spec_l33Write_f xs h.1 (all_in ha)).1]; rfl
    · simp only [h1, and_self, and_true, true_and, decide_true, decide_false, if_true, if_false, mid_get, mid_set, mid_getn, mid_setn, bt_mid, Option.bind_some, Bool.not_true, Bool.not_false, Bool.false_eq_true, Bool.true_eq_false, beq_self_eq_true, bne_self_eq_false, Int.toNat_natCast]; rfl
  · unfold impl_WriteJournal.f impl_WriteJournal.fn impl_WriteJournal.top
    rw [impl_areEntries_f xs hs]
    cases ha : xs.all entB
    · rfl
    by_cases h1 : xs.length ≤ 20
    · have : ¬ (20 : Int) < (xs.length : Int) := by omega
      simp only [h1, this, and_self, and_true, true_and, decide_true, decide_false, if_true, if_false, mid_get, mid_set, mid_getn, mid_setn, bt_mid, Option.bind_some, Bool.not_true, Bool.not_false, Bool.false_eq_true, Bool.true_eq_false, beq_self_eq_true, bne_self_eq_false, Int.toNat_natCast]
      rw [(impl_journalOf_f xs h.1 (all_in ha)).1]; rfl
    · have : (20 : Int) < (xs.length : Int) := by omega
      simp only [h1, this, and_self, and_true, true_and, decide_true, decide_false, if_true, if_false, mid_get, mid_set, mid_getn, mid_setn, bt_mid, Option.bind_some, Bool.not_true, Bool.not_false, Bool.false_eq_true, Bool.true_eq_false, beq_self_eq_true, bne_self_eq_false, Int.toNat_natCast]
end Go.Pl

namespace Go.Pl
open Go.Ev
set_option linter.unusedVariables false
set_option linter.unusedSimpArgs false
theorem FnExactWriteJournal_true (aList : List (Int × ByteArray)) (hyp : Ls PlEntry aList) : laws_FnExactWriteJournal.f aList = some true := by
  have h_aList := hyp
  unfold laws_FnExactWriteJournal.f laws_FnExactWriteJournal.fn laws_FnExactWriteJournal.top
  obtain ⟨s1, e1, l1, k1⟩ := laws_szEntryS_ok aList 1000000 (by omega) (by omega) h_aList
  simp only [e1, Option.bind_some, decide_eq_true_eq]
  by_cases hn1 : s1 < 0
  · simp [hn1]
  simp only [hn1, if_false]
  obtain ⟨q1, o_aList⟩ := k1 (by omega)
  obtain ⟨f0_aList, t_aList, i_aList⟩ := laws_toEntryS_both aList o_aList
  obtain ⟨⟨w0, w1⟩, c1, c2, c3⟩ := WriteJournal_core aList o_aList
  have c4 := c3
  simp [t_aList, i_aList, c1, c2]
end Go.Pl

/- The law FnExactWriteJournal: the program's function answers as the law says, for all arguments of a claim's bounds. -/
namespace Go.Proofs.Ytppfdipgaifhiab.fnExactWriteJournal
open Go.ChangeShapes Go.WideShapes Go.ChangeAt Go.RowKit Go.Ev
set_option linter.unusedVariables false
theorem own : ownKnob Try.prog.godebug = none := by kernel_rfl
theorem posok : posB Go.Ev.Try.tab = true := by kernel_rfl
theorem laidOut : laidOutB Try.prog = true := by kernel_rfl
set_option maxRecDepth 100000 in
theorem lifted (os : Os) (started : os.Started) (H : Type) (enc : TypeId × Value → H) :
    ReturnsInHanded {} Try.checked os 3 .any (Rows.fnExactWriteJournalSpec.pre6 enc Try.prog Try.f3 Rows.fnExactWriteJournalRow.domain false) (Rows.fnExactWriteJournalSpec.post enc Try.prog Try.f3 false true false false) := by
  refine returnsInHanded_of_change_sized (C := Try.checked) own started (by kernel_rfl) Try.func3
    (ChangeSpec.witness6 (enc := enc) (C := Try.checked) false ⟨#[], #[.slice none 0 0], []⟩ 8 (by kernel_rfl) (by kernel_rfl) (by kernel_rfl) (by kernel_rfl)) ?_
  intro W base args ds gs before hval0 hW hcnd hsz0 _
  have hsz : (DataW.weightsEach Try.prog (Try.f3.params.toList ++ Rows.fnExactWriteJournalSpec.plain.varTypes Try.prog) (ds ++ gs)).all (· ≤ reachBytes) = true := hsz0
  have hval : ∀ (j : Nat) t v, Try.f3.params[j]? = some t → args[j]? = some v → Value.okWide Try.prog W .any base t v := hval0
  have hW' := hW
  obtain ⟨p, q, hA0, hV, rfl, hfz, hnd⟩ := hW
  have hA : DataW.TrodAll enc Try.prog W 0 (fun _ => true) true Try.f3.params.toList args.toList ds p := hA0
  rw [Try.params3] at hA hval hsz
  obtain ⟨rfl, rfl⟩ := trodVars_none hV
  have hcall := fun hl => law_row Go.Ev.Try.tabok posok Go.Ev.Try.laws_FnExactWriteJournal.good rfl (by kernel_rfl)
    (fun x hx => ⟨true, Go.Pl.FnExactWriteJournal_true x hx, rfl⟩) (ts := [22]) (by rfl) hA (fun j t v hj hv => hval j t v (by simpa using hj) hv) (.inr rfl) hsz hl
  obtain ⟨v0, vs0, d0, ds0, p0, q0, hargs0, rfl, rfl, h0, r0⟩ := trodAll_cons hA
  obtain ⟨rfl, rfl, rfl⟩ := trodAll_nil r0
  obtain rfl : args = #[v0] := by cases args; simp_all
  refine (hcall rfl).mono fun e W' ⟨he, bel⟩ => ?_
  subst he
  have hlt0 : ∀ x ∈ p0, x.block < W.heap.size := fun x hx => by simpa using hW'.lt x (by simp [hx])
  exact ⟨_, rfl, _, _, _, [], _, [], hW', trodAll_mk1 (shut_bool Try.underlying4 _), (trodAll_cons_mk (Below.trod laidOut (by kernel_rfl) (of_decide_eq_true (by kernel_rfl)) h0 bel hlt0) trodAll_mk0), rfl, bel.frame _, fun h => by cases h⟩
theorem over : Rows.fnExactWriteJournalRow.holds Try.pinned (OpenSpec.ofChange Rows.fnExactWriteJournalSpec) :=
  OpenClaim.holds_of_wide 3 Try.f3 rfl rfl rfl rfl rfl rfl rfl ⟨rfl, rfl, rfl, rfl, rfl⟩ rfl rfl rfl rfl rfl (by kernel_rfl) Try.func3 (by kernel_rfl)
    (of_decide_eq_true (by kernel_rfl)) (by unfold Func.isWrapper; first | (rw [if_pos (by decide +kernel)]; kernel_rfl) | (rw [if_neg (by decide +kernel)]; exact ⟨rfl, rfl⟩))
    (fun os started H enc _ => lifted os started H enc)
theorem proved : Rows.FnExactWriteJournalSaid := over
end Go.Proofs.Ytppfdipgaifhiab.fnExactWriteJournal
namespace Go.Proofs.Ytppfdipgaifhiab
theorem fnExactWriteJournal_holds : Rows.FnExactWriteJournalSaid := fnExactWriteJournal.proved
end Go.Proofs.Ytppfdipgaifhiab
