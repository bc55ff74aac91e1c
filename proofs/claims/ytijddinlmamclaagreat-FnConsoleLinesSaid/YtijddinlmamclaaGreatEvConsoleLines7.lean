/- Part 7 of what the law FnConsoleLines stands on: an evaluator of the model's code, proved sound; the functions as plain texts; their contracts. -/
import Derived.Test.YtijddinlmamclaaGreatChecked
import Derived.Test.YtijddinlmamclaaGreatProg
import Derived.Test.YtijddinlmamclaaGreatRows
import Derived.Below
import Derived.Calls
import Derived.Carry
import Derived.ChangeArms
import Derived.ChangeKeysEq
import Derived.ChangeOld
import Derived.Deep.Quiet
import Derived.KernelRfl
import Derived.Laws.Append
import Derived.Laws.BytesString
import Derived.Laws.MakeOwn
import Derived.Laws.Strings
import Derived.Laws.StructEq
import Derived.OpenShut
import Derived.OrdersHeld
import Derived.ProofKit
import Derived.ShutString
import Derived.SizedLaws
import Derived.Tactics
import Derived.WalkKit
import Derived.WideShapes
import Derived.Test.YtijddinlmamclaaGreatEvConsoleLines6
namespace Go.Pl
open Go.Ev
set_option linter.unusedVariables false
set_option linter.unusedSimpArgs false
def dg (n : Nat) : UInt8 := UInt8.ofNat (48 + n)
theorem decB1 {n : Int} (h0 : 0 ≤ n) (h : n < 10) : decB n = ob [dg n.toNat] := by
  obtain ⟨m, rfl⟩ : ∃ m : Nat, n = m := ⟨n.toNat, by omega⟩
  rw [decB_nat, digs_small (by omega)]; rfl
theorem QbN (d : Int) : ∀ (n : Nat) (L : List UInt8) (k : Nat), (L.length : Int) + n = d → L.length + n ≤ 1000 → n < k → Q3.l2 NN k d (ob L) = some (ob (List.replicate n 48 ++ L)) := by
  intro n
  induction n with
  | zero =>
    intro L k h _ hk
    obtain ⟨k, rfl⟩ : ∃ j, k = j + 1 := ⟨k - 1, by omega⟩
    have e : ¬ (L.length : Int) < d := by omega
    simp [Q3.l2, Q3.g2, ob_size, e]
  | succ n ih =>
    intro L k h h2 hk
    obtain ⟨k, rfl⟩ : ∃ j, k = j + 1 := ⟨k - 1, by omega⟩
    have e : (L.length : Int) < d := by omega
    have c : (⟨#[48]⟩ : ByteArray) = ob [48] := rfl
    have q : ([48] : List UInt8).length + L.length ≤ 9223372036854775807 := by simp; omega
    simp only [Q3.l2, Q3.g2, ob_size, e, c, q, ob_append, and_self, and_true, true_and, decide_true, decide_false, if_true, if_false, mid_get, mid_set, mid_getn, mid_setn, bt_mid, Option.bind_some, Bool.not_true, Bool.not_false, Bool.false_eq_true, Bool.true_eq_false, beq_self_eq_true, bne_self_eq_false, Int.toNat_natCast]
    rw [ih _ k (by simp; omega) (by simp; omega) (by omega)]
    congr 2
    rw [List.replicate_succ']; simp
theorem Qc1 {n : Int} (h0 : 0 ≤ n) (h : n < 100) : Q3.f n 2 = some (ob [dg (n.toNat / 10), dg (n.toNat % 10)]) := by
  obtain ⟨m, rfl⟩ : ∃ m : Nat, n = m := ⟨n.toNat, by omega⟩
  rw [Int.toNat_natCast]
  unfold Q3.f Q3.fn Q3.top
  rw [QbJ (by omega) (by omega), decB_nat, Option.bind_some]
  by_cases h1 : m < 10
  · rw [digs_small h1, QbN 2 1 _ NN (by simp) (by simp) (NN_lt (by omega))]
    have e1 : m / 10 = 0 := by omega
    have e2 : m % 10 = m := by omega
    rw [e1, e2]; rfl
  · rw [digs_big h1, digs_small (show m / 10 < 10 by omega), QbN 2 0 _ NN (by simp) (by simp) (NN_lt (by omega))]; rfl
theorem Qc2 {n : Int} (h0 : 0 ≤ n) (h : n < 1000) : Q3.f n 3 = some (ob [dg (n.toNat / 100), dg (n.toNat / 10 % 10), dg (n.toNat % 10)]) := by
  obtain ⟨m, rfl⟩ : ∃ m : Nat, n = m := ⟨n.toNat, by omega⟩
  rw [Int.toNat_natCast]
  unfold Q3.f Q3.fn Q3.top
  rw [QbJ (by omega) (by omega), decB_nat, Option.bind_some]
  by_cases h1 : m < 10
  · rw [digs_small h1, QbN 3 2 _ NN (by simp) (by simp) (NN_lt (by omega))]
    have e1 : m / 10 % 10 = 0 := by omega
    have e2 : m % 10 = m := by omega
    have e3 : m / 100 = 0 := by omega
    rw [e1, e2, e3]; rfl
  · by_cases h2 : m < 100
    · rw [digs_big h1, digs_small (show m / 10 < 10 by omega), QbN 3 1 _ NN (by simp) (by simp) (NN_lt (by omega))]
      have e1 : m / 10 % 10 = m / 10 := by omega
      have e3 : m / 100 = 0 := by omega
      rw [e1, e3]; rfl
    · rw [digs_big h1, digs_big (show ¬ m / 10 < 10 by omega), digs_small (show m / 10 / 10 < 10 by omega), QbN 3 0 _ NN (by simp) (by simp) (NN_lt (by omega))]
      have e3 : m / 10 / 10 = m / 100 := by omega
      rw [e3]; rfl
noncomputable def ttR (t : Int) : ByteArray × Int := (Qax.f t).getD (ByteArray.empty, 0)
theorem TimeText_both (t : Int) : QaN.f t = some (ttR t) ∧ Qax.f t = some (ttR t) ∧ (ttR t).1.size ≤ 40 := by
  have key : ∃ v, QaN.f t = some v ∧ Qax.f t = some v ∧ v.1.size ≤ 40 := by
    unfold QaN.f QaN.fn QaN.top Qax.f Qax.fn Qax.top
    rw [Qbz, QbX]
    cases ht : inB t 0 10000000
    · exact ⟨(⟨#[]⟩, 2), rfl, rfl, by decide⟩
    have ht' := inB_iff.1 ht
    have d1 : Int.tdiv t 60000 = t / 60000 := Int.tdiv_eq_ediv_of_nonneg ht'.1
    have d2 : Int.tdiv t 1000 = t / 1000 := Int.tdiv_eq_ediv_of_nonneg ht'.1
    have m1 : Int.tmod t 1000 = t % 1000 := Int.tmod_eq_emod_of_nonneg ht'.1
    have m2 : Int.tmod (t / 1000) 60 = t / 1000 % 60 := Int.tmod_eq_emod_of_nonneg (by omega)
    have d3 : Int.tdiv (t / 1000 % 60) 10 = t / 1000 % 60 / 10 := Int.tdiv_eq_ediv_of_nonneg (by omega)
    have m3 : Int.tmod (t / 1000 % 60) 10 = t / 1000 % 60 % 10 := Int.tmod_eq_emod_of_nonneg (by omega)
    have d4 : Int.tdiv (t % 1000) 100 = t % 1000 / 100 := Int.tdiv_eq_ediv_of_nonneg (by omega)
    have d5 : Int.tdiv (t % 1000) 10 = t % 1000 / 10 := Int.tdiv_eq_ediv_of_nonneg (by omega)
    have m4 : Int.tmod (t % 1000 / 10) 10 = t % 1000 / 10 % 10 := Int.tmod_eq_emod_of_nonneg (by omega)
    have m5 : Int.tmod (t % 1000) 10 = t % 1000 % 10 := Int.tmod_eq_emod_of_nonneg (by omega)
    have hsz := decB_size (n := t / 60000) (by omega) (by omega)
    have hd : ∃ L, decB (t / 60000) = ob L := ⟨_, rfl⟩
    obtain ⟨L, hL⟩ := hd
    rw [hL, ob_size] at hsz
    have c58 : (⟨#[58]⟩ : ByteArray) = ob [58] := rfl
    have c46 : (⟨#[46]⟩ : ByteArray) = ob [46] := rfl
    have T1 : QaM.f t = some (ob (L ++ [58] ++ [dg ((t / 1000 % 60).toNat / 10), dg ((t / 1000 % 60).toNat % 10)] ++ [46] ++ [dg ((t % 1000).toNat / 100), dg ((t % 1000).toNat / 10 % 10), dg ((t % 1000).toNat % 10)])) := by
      unfold QaM.f QaM.fn QaM.top
      rw [d1, d2, m1, w64 (n := t / 60000) (by omega) (by omega), w64 (n := t / 1000) (by omega) (by omega), m2, QbJ (n := t / 60000) (by omega) (by omega), Qc1 (n := t / 1000 % 60) (by omega) (by omega), Qc2 (n := t % 1000) (by omega) (by omega), hL]
      simp only [Option.bind_some, c58, c46, ob_append, ob_size, List.length_append, List.length_cons, List.length_nil]
      rw [if_pos (by omega), if_pos (by omega), if_pos (by omega), if_pos (by omega)]
    have T2 : Qa1.f t = some (ob (L ++ [58] ++ [dg ((t / 1000 % 60).toNat / 10), dg ((t / 1000 % 60).toNat % 10)] ++ [46] ++ [dg ((t % 1000).toNat / 100), dg ((t % 1000).toNat / 10 % 10), dg ((t % 1000).toNat % 10)])) := by
      unfold Qa1.f Qa1.fn Qa1.top
      rw [d1, d2, m1, w64 (n := t / 60000) (by omega) (by omega), w64 (n := t / 1000) (by omega) (by omega), m2, d3, m3, d4, d5, w64 (n := t / 1000 % 60 / 10) (by omega) (by omega), w64 (n := t % 1000 / 100) (by omega) (by omega), w64 (n := t % 1000 / 10) (by omega) (by omega), m4, m5]
      rw [Qbl (n := t / 60000) (by omega) (by omega), Qbl (n := t / 1000 % 60 / 10) (by omega) (by omega), Qbl (n := t / 1000 % 60 % 10) (by omega) (by omega), Qbl (n := t % 1000 / 100) (by omega) (by omega), Qbl (n := t % 1000 / 10 % 10) (by omega) (by omega), Qbl (n := t % 1000 % 10) (by omega) (by omega), hL]
      rw [decB1 (n := t / 1000 % 60 / 10) (by omega) (by omega), decB1 (n := t / 1000 % 60 % 10) (by omega) (by omega), decB1 (n := t % 1000 / 100) (by omega) (by omega), decB1 (n := t % 1000 / 10 % 10) (by omega) (by omega), decB1 (n := t % 1000 % 10) (by omega) (by omega)]
      simp only [Option.bind_some, c58, c46, ob_append, ob_size, List.length_append, List.length_cons, List.length_nil]
      rw [if_pos (by omega), if_pos (by omega), if_pos (by omega), if_pos (by omega), if_pos (by omega), if_pos (by omega), if_pos (by omega)]
      have e1 : (t / 1000 % 60 / 10).toNat = (t / 1000 % 60).toNat / 10 := by omega
      have e2 : (t / 1000 % 60 % 10).toNat = (t / 1000 % 60).toNat % 10 := by omega
      have e3 : (t % 1000 / 100).toNat = (t % 1000).toNat / 100 := by omega
      have e4 : (t % 1000 / 10 % 10).toNat = (t % 1000).toNat / 10 % 10 := by omega
      have e5 : (t % 1000 % 10).toNat = (t % 1000).toNat % 10 := by omega
      rw [e1, e2, e3, e4, e5]
      simp
    simp only [and_self, and_true, true_and, decide_true, decide_false, if_true, if_false, mid_get, mid_set, mid_getn, mid_setn, bt_mid, Option.bind_some, Bool.not_true, Bool.not_false, Bool.false_eq_true, Bool.true_eq_false, beq_self_eq_true, bne_self_eq_false, Int.toNat_natCast, T1, T2]
    refine ⟨_, rfl, rfl, ?_⟩
    simp only [ob_size, List.length_append, List.length_cons, List.length_nil]; omega
  obtain ⟨v, h1, h2, h3⟩ := key
  have : ttR t = v := by unfold ttR; rw [h2]; rfl
  rw [this]
  exact ⟨h1, h2, h3⟩
end Go.Pl

namespace Go.Pl
open Go.Ev
set_option linter.unusedVariables false
set_option linter.unusedSimpArgs false
theorem mul_le2 {a b A B : Int} (ha : 0 ≤ a) (hA : a ≤ A) (hb : 0 ≤ b) (hB : b ≤ B) : 0 ≤ a * b ∧ a * b ≤ A * B :=
  ⟨Int.mul_nonneg ha hb, Int.mul_le_mul hA hB hb (by omega)⟩
def cub (m : Int) : Int := m * m * m
theorem cub_le {a b : Int} (ha : 0 ≤ a) (h : a ≤ b) : cub a ≤ cub b := by
  have h1 := mul_le2 ha h ha h
  exact (mul_le2 h1.1 h1.2 ha h).2
theorem cub_bd {m : Int} (h0 : 0 ≤ m) (h1 : m ≤ 300000) : (0 ≤ m * m ∧ m * m ≤ 90000000000) ∧ 0 ≤ m * m * m ∧ m * m * m ≤ 27000000000000000 := by
  have a := mul_le2 h0 h1 h0 h1
  have b := mul_le2 a.1 a.2 h0 h1
  refine ⟨⟨a.1, by omega⟩, b.1, by omega⟩
def SepP (c h : Int) : Prop := 0 ≤ h ∧ h ≤ 300000 ∧ c ≤ cub h ∧ (h = 0 ∨ cub (h - 1) < c)
theorem sep_one {c h i : Int} (a : SepP c h) (b : SepP c i) : h = i := by
  obtain ⟨a1, a2, a3, a4⟩ := a
  obtain ⟨b1, b2, b3, b4⟩ := b
  rcases Int.lt_trichotomy h i with hlt | heq | hgt
  · rcases b4 with b4 | b4
    · omega
    · have := cub_le a1 (show h ≤ i - 1 by omega); omega
  · exact heq
  · rcases a4 with a4 | a4
    · omega
    · have := cub_le b1 (show i ≤ h - 1 by omega); omega
theorem half {a b : Int} (h : 0 ≤ a + b) : Int.tdiv (a + b) 2 = (a + b) / 2 := Int.tdiv_eq_ediv_of_nonneg h
theorem Qde (c : Int) : ∀ (n : Nat) (low high : Int) (k : Nat), 0 ≤ low → low ≤ high → high ≤ 300000 → high - low ≤ n → c ≤ cub high → (low = 0 ∨ cub (low - 1) < c) → n < k →
    ∃ h, Qv.l3 NN k c low high = some h ∧ SepP c h := by
  intro n
  induction n with
  | zero =>
    intro low high k h0 h1 h2 h3 h4 h5 hk
    obtain ⟨k, rfl⟩ : ∃ j, k = j + 1 := ⟨k - 1, by omega⟩
    have e : ¬ low < high := by omega
    have e2 : high = low := by omega
    refine ⟨low, by simp [Qv.l3, Qv.g3, e], h0, by omega, by rw [← e2]; exact h4, h5⟩
  | succ n ih =>
    intro low high k h0 h1 h2 h3 h4 h5 hk
    obtain ⟨k, rfl⟩ : ∃ j, k = j + 1 := ⟨k - 1, by omega⟩
    by_cases e : low < high
    · have w1 := w64 (n := low + high) (by omega) (by omega)
      have w2 := w64 (n := (low + high) / 2) (by omega) (by omega)
      have hb := cub_bd (m := (low + high) / 2) (by omega) (by omega)
      have w3 := w64 (n := (low + high) / 2 * ((low + high) / 2)) (by omega) (by omega)
      have hb2 : 0 ≤ cub ((low + high) / 2) ∧ cub ((low + high) / 2) ≤ 27000000000000000 := hb.2
      have w4 := w64 (n := cub ((low + high) / 2)) (by omega) (by omega)
      have w5 := w64 (n := (low + high) / 2 + 1) (by omega) (by omega)
      have ec : (low + high) / 2 * ((low + high) / 2) * ((low + high) / 2) = cub ((low + high) / 2) := rfl
      simp only [Qv.l3, Qv.g3, e, w1, half (show 0 ≤ low + high by omega), w2, w3, w4, w5, ec, and_self, and_true, true_and, decide_true, decide_false, if_true, if_false, mid_get, mid_set, mid_getn, mid_setn, bt_mid, Option.bind_some, Bool.not_true, Bool.not_false, Bool.false_eq_true, Bool.true_eq_false, beq_self_eq_true, bne_self_eq_false, Int.toNat_natCast]
      by_cases q : c ≤ cub ((low + high) / 2)
      · simp only [q, and_self, and_true, true_and, decide_true, decide_false, if_true, if_false, mid_get, mid_set, mid_getn, mid_setn, bt_mid, Option.bind_some, Bool.not_true, Bool.not_false, Bool.false_eq_true, Bool.true_eq_false, beq_self_eq_true, bne_self_eq_false, Int.toNat_natCast]
        exact ih low ((low + high) / 2) k h0 (by omega) (by omega) (by omega) q h5 (by omega)
      · simp only [q, and_self, and_true, true_and, decide_true, decide_false, if_true, if_false, mid_get, mid_set, mid_getn, mid_setn, bt_mid, Option.bind_some, Bool.not_true, Bool.not_false, Bool.false_eq_true, Bool.true_eq_false, beq_self_eq_true, bne_self_eq_false, Int.toNat_natCast]
        refine ih ((low + high) / 2 + 1) high k (by omega) (by omega) h2 (by omega) h4 (.inr ?_) (by omega)
        rw [Int.add_sub_cancel]; omega
    · have e2 : high = low := by omega
      refine ⟨low, by simp [Qv.l3, Qv.g3, e], h0, by omega, by rw [← e2]; exact h4, h5⟩
theorem Qco {m : Int} (h0 : 0 ≤ m) (h1 : m ≤ 300000) : QaW.f m = some (cub m) := by
  have hb := cub_bd h0 h1
  unfold QaW.f QaW.fn QaW.top cub
  rw [w64 (n := m * m) (by omega) (by omega), w64 (by omega) (by omega)]
theorem Qdf (f g : Int) (hf : 0 ≤ f ∧ f ≤ 500) (hc : 0 ≤ cub f * g ∧ cub f * g ≤ 12500000000000000) : ∀ (n : Nat) (low high : Int) (k : Nat), -1 ≤ low → low < high → high ≤ 300000 → high - low ≤ n → cub f * g ≤ cub high → (low = -1 ∨ cub low < cub f * g) → n < k →
    ∃ h, Q4.l2 NN k f g low high = some h ∧ SepP (cub f * g) h := by
  intro n
  induction n with
  | zero => intro low high k _ _ _ _ _ _ _; omega
  | succ n ih =>
    intro low high k h0 h1 h2 h3 h4 h5 hk
    obtain ⟨k, rfl⟩ : ∃ j, k = j + 1 := ⟨k - 1, by omega⟩
    have w0 := w64 (n := low + 1) (by omega) (by omega)
    by_cases e : low + 1 < high
    · have w1 := w64 (n := low + high) (by omega) (by omega)
      have w2 := w64 (n := (low + high) / 2) (by omega) (by omega)
      have w3 := w64 (n := cub f * g) (by omega) (by omega)
      simp only [Q4.l2, Q4.g2, e, w0, w1, half (show 0 ≤ low + high by omega), w2, Qco (show 0 ≤ (low + high) / 2 by omega) (by omega), Qco hf.1 (show f ≤ 300000 by omega), w3, and_self, and_true, true_and, decide_true, decide_false, if_true, if_false, mid_get, mid_set, mid_getn, mid_setn, bt_mid, Option.bind_some, Bool.not_true, Bool.not_false, Bool.false_eq_true, Bool.true_eq_false, beq_self_eq_true, bne_self_eq_false, Int.toNat_natCast]
      by_cases q : cub f * g ≤ cub ((low + high) / 2)
      · simp only [q, and_self, and_true, true_and, decide_true, decide_false, if_true, if_false, mid_get, mid_set, mid_getn, mid_setn, bt_mid, Option.bind_some, Bool.not_true, Bool.not_false, Bool.false_eq_true, Bool.true_eq_false, beq_self_eq_true, bne_self_eq_false, Int.toNat_natCast]
        exact ih low ((low + high) / 2) k h0 (by omega) (by omega) (by omega) q h5 (by omega)
      · simp only [q, and_self, and_true, true_and, decide_true, decide_false, if_true, if_false, mid_get, mid_set, mid_getn, mid_setn, bt_mid, Option.bind_some, Bool.not_true, Bool.not_false, Bool.false_eq_true, Bool.true_eq_false, beq_self_eq_true, bne_self_eq_false, Int.toNat_natCast]
        exact ih ((low + high) / 2) high k (by omega) (by omega) h2 (by omega) h4 (.inr (by omega)) (by omega)
    · have e2 : high = low + 1 := by omega
      refine ⟨high, by simp [Q4.l2, Q4.g2, e, w0], by omega, h2, h4, ?_⟩
      rcases h5 with h5 | h5
      · exact .inl (by omega)
      · right; rw [e2, Int.add_sub_cancel]; exact h5
noncomputable def sepR (f g : Int) : Int × Int := (Qaa.f f g).getD (0, 0)
theorem SeparationFor_both (f g : Int) : Qai.f f g = some (sepR f g) ∧ Qaa.f f g = some (sepR f g) ∧ 0 ≤ (sepR f g).1 ∧ (sepR f g).1 ≤ 300000 := by
  have key : ∃ v, Qai.f f g = some v ∧ Qaa.f f g = some v ∧ 0 ≤ v.1 ∧ v.1 ≤ 300000 := by
    unfold Qai.f Qai.fn Qai.top Qa5.f Qa5.fn Qa5.top Qaa.f Qaa.fn Qaa.top QaG.f QaG.fn QaG.top QaF.f QaF.fn QaF.top
    rw [Qbi, Qbi, Qbg, Qbg]
    cases hf : inB f 0 500
    · exact ⟨(0, 2), rfl, rfl, by simp, by simp⟩
    cases hg : inB g 0 100000000
    · exact ⟨(0, 2), rfl, rfl, by simp, by simp⟩
    have hf' := inB_iff.1 hf
    have hg' := inB_iff.1 hg
    have e : ((0 : Int) != 0) = false := rfl
    have a := mul_le2 hf'.1 hf'.2 hf'.1 hf'.2
    have b := mul_le2 a.1 a.2 hf'.1 hf'.2
    have c := mul_le2 b.1 b.2 hg'.1 hg'.2
    have ec : f * f * f = cub f := rfl
    rw [ec] at b c
    have w1 := w64 (n := f * f) (by omega) (by omega)
    have w2 := w64 (n := cub f) (by omega) (by omega)
    have w3 := w64 (n := cub f * g) (by omega) (by omega)
    have hi : cub f * g ≤ cub 300000 := by have : cub 300000 = 27000000000000000 := by decide +kernel
                                           omega
    obtain ⟨x, hx, px⟩ := Qdf f g hf' ⟨c.1, by omega⟩ 300001 (-1) 300000 NN (by omega) (by omega) (by omega) (by omega) hi (.inl rfl) (NN_lt (by omega))
    obtain ⟨y, hy, py⟩ := Qde (cub f * g) 300001 0 300000 NN (by omega) (by omega) (by omega) (by omega) hi (.inl rfl) (NN_lt (by omega))
    have hxy := sep_one px py
    subst hxy
    refine ⟨(x, 0), ?_, ?_, px.1, px.2.1⟩
    · simp only [e, and_self, and_true, true_and, decide_true, decide_false, if_true, if_false, mid_get, mid_set, mid_getn, mid_setn, bt_mid, Option.bind_some, Bool.not_true, Bool.not_false, Bool.false_eq_true, Bool.true_eq_false, beq_self_eq_true, bne_self_eq_false, Int.toNat_natCast]
      unfold Q4.f Q4.fn Q4.top
      rw [hx]; rfl
    · simp only [and_self, and_true, true_and, decide_true, decide_false, if_true, if_false, mid_get, mid_set, mid_getn, mid_setn, bt_mid, Option.bind_some, Bool.not_true, Bool.not_false, Bool.false_eq_true, Bool.true_eq_false, beq_self_eq_true, bne_self_eq_false, Int.toNat_natCast]
      unfold Qv.f Qv.fn Qv.top
      rw [w1, ec, w2, w3, hy]; rfl
  obtain ⟨v, h1, h2, h3⟩ := key
  have : sepR f g = v := by unfold sepR; rw [h2]; rfl
  rw [this]
  exact ⟨h1, h2, h3⟩
end Go.Pl

namespace Go.Pl
open Go.Ev
set_option linter.unusedVariables false
set_option linter.unusedSimpArgs false
theorem floor2 (a : Int) (h0 : -9000000000000000000 ≤ a) (h1 : a ≤ 9000000000000000000) : (if decide (Int.tmod a 2000000 < 0) = true then some (IntKind.i64.wrap (IntKind.i64.wrap (Int.tdiv a 2000000) - 1)) else some (IntKind.i64.wrap (Int.tdiv a 2000000))) = some (a / 2000000) := by
  have h := Int.mul_tdiv_add_tmod a 2000000
  have hb : -2000000 < Int.tmod a 2000000 ∧ Int.tmod a 2000000 < 2000000 := ⟨Int.lt_tmod_of_pos a (by omega), Int.tmod_lt_of_pos a (by omega)⟩
  have hs : (0 ≤ a → 0 ≤ Int.tmod a 2000000) := fun h => Int.tmod_nonneg _ h
  generalize Int.tmod a 2000000 = r at *
  generalize Int.tdiv a 2000000 = q at *
  by_cases hr : r < 0
  · simp only [hr, decide_true, if_true]
    rw [w64 (n := q) (by omega) (by omega), w64 (by omega) (by omega)]
    congr 1; omega
  · simp only [hr, decide_false, Bool.false_eq_true, if_false]
    rw [w64 (by omega) (by omega)]
    congr 1; omega
def numN (u t : Int) : Int := 2000 * u * t - 9810 * t * t
def HN (u t : Int) : Int := numN u t / 2000000
theorem num_bd {u t : Int} (hu : 0 ≤ u ∧ u ≤ 200000) (ht : 0 ≤ t ∧ t ≤ 60000) : (0 ≤ 2000 * u * t ∧ 2000 * u * t ≤ 24000000000000) ∧ 0 ≤ 9810 * t * t ∧ 9810 * t * t ≤ 35316000000000 := by
  have a := mul_le2 (show 0 ≤ 2000 * u by omega) (show 2000 * u ≤ 400000000 by omega) ht.1 ht.2
  have b := mul_le2 (show 0 ≤ 9810 * t by omega) (show 9810 * t ≤ 588600000 by omega) ht.1 ht.2
  omega
theorem Qb3 {u t : Int} (hu : 0 ≤ u ∧ u ≤ 200000) (ht : 0 ≤ t ∧ t ≤ 60000) : QaH.f u t = some (HN u t) := by
  have b := num_bd hu ht
  unfold QaH.f QaH.fn QaH.top QaT.f QaT.fn QaT.top
  rw [w64 (n := 2000 * u) (by omega) (by omega), w64 (n := 2000 * u * t) (by omega) (by omega), w64 (n := 9810 * t) (by omega) (by omega), w64 (n := 9810 * t * t) (by omega) (by omega), w64 (by omega) (by omega)]
  have := floor2 (2000 * u * t - 9810 * t * t) (by omega) (by omega)
  rw [if_neg (by omega), if_neg (by omega)]
  exact (congrArg (·.bind fun r1 => some r1) this).trans rfl
theorem Qbt {u t : Int} (hu : 0 ≤ u ∧ u ≤ 200000) (ht : 0 ≤ t ∧ t ≤ 60000) : Qau.f u t = some (HN u t) := by
  have b := num_bd hu ht
  unfold Qau.f Qau.fn Qau.top QaU.f QaU.fn QaU.top
  rw [w64 (n := 2000 * u) (by omega) (by omega), w64 (n := 2000 * u * t) (by omega) (by omega), w64 (n := 9810 * t) (by omega) (by omega), w64 (n := 9810 * t * t) (by omega) (by omega), w64 (n := 2000 * u * t - 9810 * t * t) (by omega) (by omega)]
  have := floor2 (2000 * u * t - 9810 * t * t) (by omega) (by omega)
  rw [if_neg (by decide), if_neg (by omega), if_neg (by omega)]
  exact (congrArg (·.bind fun r1 => some r1) this).trans rfl
def lastT (u : Int) : Int := 1000 * u / 9810
theorem HN_step {u t : Int} (ht : 0 ≤ t) (h : t + 1 ≤ lastT u) : HN u t ≤ HN u (t + 1) := by
  unfold lastT at h
  have e1 : 2000 * u * (t + 1) = 2000 * u * t + 2000 * u := by rw [Int.mul_add, Int.mul_one]
  have e2 : 9810 * (t + 1) * (t + 1) = 9810 * t * t + 19620 * t + 9810 := by
    rw [Int.mul_add, Int.mul_add, Int.mul_one, Int.add_mul]; omega
  unfold HN numN
  rw [e1, e2]
  omega
theorem HN_mono {u : Int} : ∀ (n : Nat) {s : Int}, 0 ≤ s → s + n ≤ lastT u → HN u s ≤ HN u (s + n) := by
  intro n
  induction n with
  | zero => intro s _ _; simp
  | succ n ih =>
    intro s h0 h
    have a := ih (s := s) h0 (by omega)
    have b := HN_step (u := u) (t := s + n) (by omega) (by omega)
    rw [show s + ((n + 1 : Nat) : Int) = s + n + 1 by omega]
    omega
theorem HN_le {u s t : Int} (h0 : 0 ≤ s) (h : s ≤ t) (ht : t ≤ lastT u) : HN u s ≤ HN u t := by
  have := HN_mono (u := u) (t - s).toNat (s := s) h0 (by omega)
  rwa [show s + ((t - s).toNat : Int) = t by omega] at this
def TopP (u v : Int) : Prop := 0 ≤ v ∧ v ≤ lastT u ∧ HN u v = HN u (lastT u) ∧ (v = 0 ∨ HN u (v - 1) ≠ HN u (lastT u))
theorem top_one {u v w : Int} (a : TopP u v) (b : TopP u w) : v = w := by
  obtain ⟨a1, a2, a3, a4⟩ := a
  obtain ⟨b1, b2, b3, b4⟩ := b
  rcases Int.lt_trichotomy v w with h | h | h
  · have h1 := HN_le a1 (show v ≤ w - 1 by omega) (show w - 1 ≤ lastT u by omega)
    have h2 := HN_le (show 0 ≤ w - 1 by omega) (show w - 1 ≤ lastT u by omega) (Int.le_refl _)
    rcases b4 with b4 | b4 <;> omega
  · exact h
  · have h1 := HN_le b1 (show w ≤ v - 1 by omega) (show v - 1 ≤ lastT u by omega)
    have h2 := HN_le (show 0 ≤ v - 1 by omega) (show v - 1 ≤ lastT u by omega) (Int.le_refl _)
    rcases a4 with a4 | a4 <;> omega
theorem last_bd {u : Int} (hu : 0 ≤ u ∧ u ≤ 200000) : 0 ≤ lastT u ∧ lastT u ≤ 20388 := by unfold lastT; omega
theorem Qdg {u : Int} (hu : 0 ≤ u ∧ u ≤ 200000) : ∀ (n : Nat) (low high : Int) (k : Nat), 0 ≤ low → low ≤ high → high ≤ lastT u → high - low ≤ n → HN u high = HN u (lastT u) → (low = 0 ∨ HN u (low - 1) < HN u (lastT u)) → n < k →
    ∃ v, Qac.l7 NN k u (HN u (lastT u)) low high = some (v, HN u (lastT u)) ∧ TopP u v := by
  intro n
  have hl := last_bd hu
  have fin : ∀ (low high : Int) (k : Nat), 0 ≤ low → low ≤ high → high ≤ lastT u → HN u high = HN u (lastT u) → (low = 0 ∨ HN u (low - 1) < HN u (lastT u)) → ¬ low < high → ∃ v, Qac.l7 NN (k + 1) u (HN u (lastT u)) low high = some (v, HN u (lastT u)) ∧ TopP u v := by
    intro low high k h0 h1 h2 h4 h5 e
    have e2 : high = low := by omega
    refine ⟨low, by simp [Qac.l7, Qac.g7, e], h0, by omega, by rw [← e2]; exact h4, ?_⟩
    rcases h5 with h5 | h5
    · exact .inl h5
    · exact .inr (by omega)
  induction n with
  | zero =>
    intro low high k h0 h1 h2 h3 h4 h5 hk
    obtain ⟨k, rfl⟩ : ∃ j, k = j + 1 := ⟨k - 1, by omega⟩
    exact fin low high k h0 h1 h2 h4 h5 (by omega)
  | succ n ih =>
    intro low high k h0 h1 h2 h3 h4 h5 hk
    obtain ⟨k, rfl⟩ : ∃ j, k = j + 1 := ⟨k - 1, by omega⟩
    by_cases e : low < high
    · have w1 := w64 (n := low + high) (by omega) (by omega)
      have w2 := w64 (n := (low + high) / 2) (by omega) (by omega)
      have w5 := w64 (n := (low + high) / 2 + 1) (by omega) (by omega)
      have hm := HN_le (u := u) (show 0 ≤ (low + high) / 2 by omega) (show (low + high) / 2 ≤ lastT u by omega) (Int.le_refl _)
      simp only [Qac.l7, Qac.g7, e, w1, half (show 0 ≤ low + high by omega), w2, w5, Qb3 hu (show 0 ≤ (low + high) / 2 ∧ (low + high) / 2 ≤ 60000 by omega), and_self, and_true, true_and, decide_true, decide_false, if_true, if_false, mid_get, mid_set, mid_getn, mid_setn, bt_mid, Option.bind_some, Bool.not_true, Bool.not_false, Bool.false_eq_true, Bool.true_eq_false, beq_self_eq_true, bne_self_eq_false, Int.toNat_natCast]
      by_cases q : HN u (lastT u) ≤ HN u ((low + high) / 2)
      · simp only [q, and_self, and_true, true_and, decide_true, decide_false, if_true, if_false, mid_get, mid_set, mid_getn, mid_setn, bt_mid, Option.bind_some, Bool.not_true, Bool.not_false, Bool.false_eq_true, Bool.true_eq_false, beq_self_eq_true, bne_self_eq_false, Int.toNat_natCast]
        exact ih low ((low + high) / 2) k h0 (by omega) (by omega) (by omega) (by omega) h5 (by omega)
      · simp only [q, and_self, and_true, true_and, decide_true, decide_false, if_true, if_false, mid_get, mid_set, mid_getn, mid_setn, bt_mid, Option.bind_some, Bool.not_true, Bool.not_false, Bool.false_eq_true, Bool.true_eq_false, beq_self_eq_true, bne_self_eq_false, Int.toNat_natCast]
        refine ih ((low + high) / 2 + 1) high k (by omega) (by omega) h2 (by omega) h4 (.inr ?_) (by omega)
        rw [Int.add_sub_cancel]; omega
    · exact fin low high k h0 h1 h2 h4 h5 e
theorem Qdh {u : Int} (hu : 0 ≤ u ∧ u ≤ 200000) : ∀ (n : Nat) (t : Int) (k : Nat), t = n → t ≤ lastT u → HN u t = HN u (lastT u) → n < k →
    ∃ v, Q5.l3 NN k u t (HN u (lastT u)) = some (v, HN u (lastT u)) ∧ TopP u v := by
  have hl := last_bd hu
  intro n
  induction n with
  | zero =>
    intro t k ht h2 h4 hk
    obtain ⟨k, rfl⟩ : ∃ j, k = j + 1 := ⟨k - 1, by omega⟩
    have e : ¬ 0 < t := by omega
    refine ⟨t, ?_, by omega, h2, h4, .inl (by omega)⟩
    simp only [Q5.l3, Q5.g3, e, Qbt hu (show 0 ≤ t ∧ t ≤ 60000 by omega), h4, Int.lt_irrefl, and_self, and_true, true_and, decide_true, decide_false, if_true, if_false, mid_get, mid_set, mid_getn, mid_setn, bt_mid, Option.bind_some, Bool.not_true, Bool.not_false, Bool.false_eq_true, Bool.true_eq_false, beq_self_eq_true, bne_self_eq_false, Int.toNat_natCast]
  | succ n ih =>
    intro t k ht h2 h4 hk
    obtain ⟨k, rfl⟩ : ∃ j, k = j + 1 := ⟨k - 1, by omega⟩
    have e : 0 < t := by omega
    have w := w64 (n := t - 1) (by omega) (by omega)
    simp only [Q5.l3, Q5.g3, e, w, Qbt hu (show 0 ≤ t ∧ t ≤ 60000 by omega), Qbt hu (show 0 ≤ t - 1 ∧ t - 1 ≤ 60000 by omega), h4, Int.lt_irrefl, and_self, and_true, true_and, decide_true, decide_false, if_true, if_false, mid_get, mid_set, mid_getn, mid_setn, bt_mid, Option.bind_some, Bool.not_true, Bool.not_false, Bool.false_eq_true, Bool.true_eq_false, beq_self_eq_true, bne_self_eq_false, Int.toNat_natCast]
    by_cases q : HN u (t - 1) = HN u (lastT u)
    · have q' : (HN u (t - 1) == HN u (lastT u)) = true := by simpa using q
      simp only [q', and_self, and_true, true_and, decide_true, decide_false, if_true, if_false, mid_get, mid_set, mid_getn, mid_setn, bt_mid, Option.bind_some, Bool.not_true, Bool.not_false, Bool.false_eq_true, Bool.true_eq_false, beq_self_eq_true, bne_self_eq_false, Int.toNat_natCast]
      exact ih (t - 1) k (by omega) (by omega) q (by omega)
    · have q' : (HN u (t - 1) == HN u (lastT u)) = false := by simpa using q
      simp only [q', and_self, and_true, true_and, decide_true, decide_false, if_true, if_false, mid_get, mid_set, mid_getn, mid_setn, bt_mid, Option.bind_some, Bool.not_true, Bool.not_false, Bool.false_eq_true, Bool.true_eq_false, beq_self_eq_true, bne_self_eq_false, Int.toNat_natCast]
      exact ⟨t, rfl, by omega, h2, h4, .inr q⟩
noncomputable def topR (u : Int) : Int × Int × Int := (Qa3.f u).getD (0, 0, 0)
theorem TopOf_both (u : Int) : Qba.f u = some (topR u) ∧ Qa3.f u = some (topR u) ∧ (0 ≤ (topR u).1 ∧ (topR u).1 ≤ 1000000000) ∧ 0 ≤ (topR u).2.1 ∧ (topR u).2.1 ≤ 1000000000 := by
  have key : ∃ v, Qba.f u = some v ∧ Qa3.f u = some v ∧ (0 ≤ v.1 ∧ v.1 ≤ 1000000000) ∧ 0 ≤ v.2.1 ∧ v.2.1 ≤ 1000000000 := by
    unfold Qba.f Qba.fn Qba.top Qa6.f Qa6.fn Qa6.top Qa3.f Qa3.fn Qa3.top Qbc.f Qbc.fn Qbc.top
    rw [Qbi, Qbi, Qbi, Qbg]
    cases hu : inB u 0 200000
    · exact ⟨(0, 0, 2), rfl, rfl, by simp, by simp⟩
    have hu' := inB_iff.1 hu
    have hl := last_bd hu'
    have e1 : inB 0 (-50000) 50000 = true := rfl
    have e2 : inB 0 0 60000 = true := rfl
    have e : ((0 : Int) != 0) = false := rfl
    simp only [e1, e2, e, and_self, and_true, true_and, decide_true, decide_false, if_true, if_false, mid_get, mid_set, mid_getn, mid_setn, bt_mid, Option.bind_some, Bool.not_true, Bool.not_false, Bool.false_eq_true, Bool.true_eq_false, beq_self_eq_true, bne_self_eq_false, Int.toNat_natCast]
    have td : Int.tdiv (1000 * u) 9810 = lastT u := Int.tdiv_eq_ediv_of_nonneg (by omega)
    have w1 := w64 (n := 1000 * u) (by omega) (by omega)
    have w2 := w64 (n := lastT u) (by omega) (by omega)
    have w3 := w64 (n := lastT u + 1) (by omega) (by omega)
    have a1 := Qb3 hu' (show 0 ≤ lastT u ∧ lastT u ≤ 60000 by omega)
    have a2 := Qb3 hu' (show 0 ≤ lastT u + 1 ∧ lastT u + 1 ≤ 60000 by omega)
    have a3 := Qbt hu' (show 0 ≤ lastT u ∧ lastT u ≤ 60000 by omega)
    have a4 := Qbt hu' (show 0 ≤ lastT u + 1 ∧ lastT u + 1 ≤ 60000 by omega)
    have hb := num_bd hu' (show 0 ≤ lastT u ∧ lastT u ≤ 60000 by omega)
    have hb1 := num_bd hu' (show 0 ≤ lastT u + 1 ∧ lastT u + 1 ≤ 60000 by omega)
    have hz : 0 ≤ HN u (lastT u) := by
      have h0 := HN_le (u := u) (Int.le_refl 0) hl.1 (Int.le_refl _)
      have : HN u 0 = 0 := by unfold HN numN; simp
      omega
    have ht1 : HN u (lastT u) ≤ 1000000000 := by unfold HN numN; omega
    have ht2 : HN u (lastT u + 1) ≤ 1000000000 := by unfold HN numN; omega
    unfold Q5.f Q5.fn Q5.top Qac.f Qac.fn Qac.top
    rw [w1, td, w2, w3, a1, a2, a3, a4]
    simp only [Option.bind_some]
    by_cases q : HN u (lastT u) < HN u (lastT u + 1)
    · refine ⟨(lastT u + 1, HN u (lastT u + 1), 0), ?_, ?_, by simp only; omega, by simp only; omega⟩
      · obtain ⟨k, hk⟩ : ∃ j, NN = j + 1 := ⟨NN - 1, by have := NNb; omega⟩
        have q2 : HN u (lastT u + 1) > HN u (lastT u) := q
        rw [show Q5.l3 NN NN = Q5.l3 NN (k + 1) by rw [← hk]]
        simp only [q2, if_true, Q5.l3, Q5.g3, a3, q, w3, and_self, and_true, true_and, decide_true, decide_false, if_true, if_false, mid_get, mid_set, mid_getn, mid_setn, bt_mid, Option.bind_some, Bool.not_true, Bool.not_false, Bool.false_eq_true, Bool.true_eq_false, beq_self_eq_true, bne_self_eq_false, Int.toNat_natCast]
        by_cases h0 : 0 < lastT u
        · have w4 := w64 (n := lastT u - 1) (by omega) (by omega)
          have a5 := Qbt hu' (show 0 ≤ lastT u - 1 ∧ lastT u - 1 ≤ 60000 by omega)
          have hm := HN_le (u := u) (show 0 ≤ lastT u - 1 by omega) (show lastT u - 1 ≤ lastT u by omega) (Int.le_refl _)
          have q' : (HN u (lastT u - 1) == HN u (lastT u + 1)) = false := by
            have : HN u (lastT u - 1) ≠ HN u (lastT u + 1) := by omega
            simpa using this
          simp only [h0, w4, a5, q', and_self, and_true, true_and, decide_true, decide_false, if_true, if_false, mid_get, mid_set, mid_getn, mid_setn, bt_mid, Option.bind_some, Bool.not_true, Bool.not_false, Bool.false_eq_true, Bool.true_eq_false, beq_self_eq_true, bne_self_eq_false, Int.toNat_natCast]
        · simp only [h0, and_self, and_true, true_and, decide_true, decide_false, if_true, if_false, mid_get, mid_set, mid_getn, mid_setn, bt_mid, Option.bind_some, Bool.not_true, Bool.not_false, Bool.false_eq_true, Bool.true_eq_false, beq_self_eq_true, bne_self_eq_false, Int.toNat_natCast]
      · simp only [q, and_self, and_true, true_and, decide_true, decide_false, if_true, if_false, mid_get, mid_set, mid_getn, mid_setn, bt_mid, Option.bind_some, Bool.not_true, Bool.not_false, Bool.false_eq_true, Bool.true_eq_false, beq_self_eq_true, bne_self_eq_false, Int.toNat_natCast]
    · obtain ⟨x, hx, px⟩ := Qdh hu' (lastT u).toNat (lastT u) NN (by omega) (Int.le_refl _) rfl (NN_lt (by omega))
      obtain ⟨y, hy, py⟩ := Qdg hu' (lastT u).toNat 0 (lastT u) NN (by omega) hl.1 (Int.le_refl _) (by omega) rfl (.inl rfl) (NN_lt (by omega))
      have hxy := top_one px py
      subst hxy
      have q2 : ¬ HN u (lastT u + 1) > HN u (lastT u) := q
      refine ⟨(x, HN u (lastT u), 0), ?_, ?_, ⟨px.1, by have := px.2.1; simp only; omega⟩, hz, ht1⟩
      · simp only [q2, if_false]
        rw [hx]; rfl
      · simp only [q, and_self, and_true, true_and, decide_true, decide_false, if_true, if_false, mid_get, mid_set, mid_getn, mid_setn, bt_mid, Option.bind_some, Bool.not_true, Bool.not_false, Bool.false_eq_true, Bool.true_eq_false, beq_self_eq_true, bne_self_eq_false, Int.toNat_natCast]
        rw [hy]; rfl
  obtain ⟨v, h1, h2, h3⟩ := key
  have : topR u = v := by unfold topR; rw [h2]; rfl
  rw [this]
  exact ⟨h1, h2, h3⟩
end Go.Pl

namespace Go.Pl
open Go.Ev
set_option linter.unusedVariables false
set_option linter.unusedSimpArgs false
theorem firstOf_lt {α : Type} (P : α → Bool) : ∀ (xs : List α) (i : Nat) (y : Nat × α), firstOf P i xs = some y → y.1 < i + xs.length := by
  intro xs
  induction xs with
  | nil => intro i y h; cases h
  | cons a r ih =>
    intro i y h
    simp only [firstOf] at h
    split at h
    · rw [← Option.some.inj h]; simp
    · have := ih (i + 1) y h
      simp only [List.length_cons]; omega
def idxW (ws : List ByteArray) (w : ByteArray) : Int := (firstOf (fun x : ByteArray => decide (x = w)) 0 ws).elim (-1) (fun x => (x.1 : Int))
theorem idxW_bd (ws : List ByteArray) (w : ByteArray) : -1 ≤ idxW ws w ∧ idxW ws w < (ws.length : Int) := by
  unfold idxW
  cases hf : firstOf (fun x : ByteArray => decide (x = w)) 0 ws with
  | none => simp only [Option.elim_none]; omega
  | some y =>
    have h2 := firstOf_lt _ ws 0 y hf
    simp only [Option.elim_some]; omega
theorem Qb0 (ws : List ByteArray) (w : ByteArray) (h : ws.length ≤ 1000000) : Qz.f ws w = some (idxW ws w) := by
  have := find_loop (E := fun _ : ByteArray => True) (fun x => decide (x = w)) (fun i _ => some (i : Int)) (fun _ => some (-1)) (fun k v i => Qz.l2 NN k w v v.length i) ?_ ?_ ws (fun _ _ => trivial) (by omega) NN (NN_lt (by omega))
  · unfold Qz.f Qz.fn Qz.top idxW
    refine Eq.trans this ?_
    cases firstOf (fun x : ByteArray => decide (x = w)) 0 ws <;> rfl
  · intro k p
    simp [Qz.l2, Qz.g2]
  · intro k p a r _ c0 c1 c2 cw
    simp only [Qz.l2, Qz.g2, c0, c1, cw, and_self, and_true, true_and, decide_true, decide_false, if_true, if_false, mid_get, mid_set, mid_getn, mid_setn, bt_mid, Option.bind_some, Bool.not_true, Bool.not_false, Bool.false_eq_true, Bool.true_eq_false, beq_self_eq_true, bne_self_eq_false, Int.toNat_natCast, ba_beq]
theorem Qb4 (ws : List ByteArray) (w : ByteArray) (h : ws.length ≤ 1000000) : QR.f ws w = some (idxW ws w) := by
  have := find_loop (E := fun _ : ByteArray => True) (fun x => decide (x = w)) (fun i _ => some (i : Int)) (fun _ => some (-1)) (fun k v i => QR.l2 NN k v w i) ?_ ?_ ws (fun _ _ => trivial) (by omega) NN (NN_lt (by omega))
  · unfold QR.f QR.fn QR.top idxW
    refine Eq.trans this ?_
    cases firstOf (fun x : ByteArray => decide (x = w)) 0 ws <;> rfl
  · intro k p
    simp [QR.l2, QR.g2]
  · intro k p a r _ c0 c1 c2 cw
    simp only [QR.l2, QR.g2, c0, c1, cw, and_self, and_true, true_and, decide_true, decide_false, if_true, if_false, mid_get, mid_set, mid_getn, mid_setn, bt_mid, Option.bind_some, Bool.not_true, Bool.not_false, Bool.false_eq_true, Bool.true_eq_false, beq_self_eq_true, bne_self_eq_false, Int.toNat_natCast, ba_beq]
theorem words_same : ∃ ws : List ByteArray, QaB.f = some ws ∧ QaI.f = some ws ∧ ws.length ≤ 100 := ⟨_, rfl, rfl, by decide⟩
def sttW (c : Ctl) : ByteArray := if c.2.2.2.2.1 = true then ⟨#[115, 116, 111, 112, 112, 101, 100]⟩ else if c.2.2.2.1 = true then ⟨#[104, 101, 108, 100]⟩ else if c.2.2.1 = true then ⟨#[97, 114, 109, 101, 100]⟩ else ⟨#[111, 102, 102]⟩
theorem sttW_size (c : Ctl) : (sttW c).size ≤ 100 := by
  obtain ⟨a, b, r, h, s, n⟩ := c
  cases s <;> cases h <;> cases r <;> exact Nat.le_of_ble_eq_true rfl
theorem QcE (c : Ctl) : QaC.f c = some (sttW c) := by
  obtain ⟨a, b, r, h, s, n⟩ := c
  cases s <;> cases h <;> cases r <;> rfl
theorem QcU (d : Dsk) (t : Int) (h : d.2.1.length ≤ 1000000) : QaR.f d t = some (sttW (caR d.2.1 t).1, (caR d.2.1 t).2) := by
  unfold QaR.f QaR.fn QaR.top
  rw [(ControllerAt_both d.2.1 t h).1, Option.bind_some]
  generalize caR d.2.1 t = q
  obtain ⟨⟨a, b, r, h, s, n⟩, e⟩ := q
  cases s <;> cases h <;> cases r <;> rfl
def zonF (z : List ByteArray) (m : Mov) : List ByteArray := insW m.2.1 z
def zonL (ms : List Mov) : List ByteArray := ms.foldl zonF []
structure ZI (p : List Mov) (z : List ByteArray) : Prop where
  srt : SrtW z
  len : z.length ≤ p.length
  wrd : ∀ w ∈ z, wordB w = true
theorem zi_nil : ZI [] [] := ⟨List.Pairwise.nil, by simp, by simp⟩
theorem zi_step {p : List Mov} {z : List ByteArray} {m : Mov} (h : ZI p z) (hm : movB m = true) : ZI (p ++ [m]) (zonF z m) := by
  refine ⟨insW_srt h.srt, ?_, fun w hw => ?_⟩
  · have := insW_len m.2.1 z
    have := h.len
    unfold zonF
    rw [List.length_append, List.length_singleton]; omega
  · rcases mem_insW.1 hw with rfl | hw
    · exact (movB_iff hm).2.1
    · exact h.wrd w hw
def firV (d : Dsk) (t : Int) : ByteArray × Int := if inB t 0 10000000 = true then ((if firT d.2.1 d.1 (zonL d.1) t < 0 then ⟨#[109, 105, 115, 115, 101, 100]⟩ else decB (firT d.2.1 d.1 (zonL d.1) t)), 0) else (⟨#[]⟩, 1)
theorem firT_bd (l : List Sig) (ms : List Mov) (zs : List ByteArray) {t : Int} (h : 0 ≤ t ∧ t ≤ 10000000) : -1 ≤ firT l ms zs t ∧ firT l ms zs t ≤ 100000 := by
  have := tkT_bd h
  unfold firT
  split <;> omega
theorem zon_ok {ms : List Mov} (h : movesB ms = true) : ZI ms (zonL ms) := by
  obtain ⟨m1, m2, m3⟩ := movesB_iff h
  have key : ∀ (r p : List Mov) (z : List ByteArray), (∀ m ∈ r, movB m = true) → ZI p z → ZI (p ++ r) (r.foldl zonF z) := by
    intro r
    induction r with
    | nil => intro p z _ h; rwa [List.append_nil]
    | cons m r ih =>
      intro p z hr hz
      have := ih (p ++ [m]) (zonF z m) (fun x hx => hr x (by simp [hx])) (zi_step hz (hr m (by simp)))
      rwa [mid_snoc] at this
  have := key ms [] [] m3 zi_nil
  rwa [List.nil_append] at this
theorem firR_one {d : Dsk} (h1 : movesB d.1 = true) (h2 : sigsB d.2.1 = true) (t : Int) : firR [t] d.2.1 d.1 (zonL d.1) = if inB t 0 10000000 = true then ([firT d.2.1 d.1 (zonL d.1) t], 0) else ([], 1) := by
  have z := zon_ok h1
  have hm := (movesB_iff h1).1
  have hz : zonesB (zonL d.1) = true := by
    unfold zonesB
    rw [Bool.and_eq_true, decide_eq_true_eq, List.all_eq_true]
    exact ⟨by have := z.len; omega, z.wrd⟩
  unfold firR firOk
  rw [h1, h2, hz]
  simp
theorem Qdb {d : Dsk} (h1 : movesB d.1 = true) (h2 : sigsB d.2.1 = true) (t : Int) (c : ByteArray × List ByteArray × List Int) (hc : c.2.2 = [t]) : ∀ (r p : List Mov) (z : List ByteArray) (k : Nat), d.1 = p ++ r → ZI p z → r.foldl zonF z = zonL d.1 → r.length < k →
    Qd.l24 NN k d.1 d.1.length p.length d c z [] [] [] = some (d, firV d t) := by
  obtain ⟨m1, m2, m3⟩ := movesB_iff h1
  have hs1 := (sigsB_iff h2).1
  intro r
  induction r with
  | nil =>
    intro p z k hp hz hf hk
    obtain ⟨k, rfl⟩ : ∃ j, k = j + 1 := ⟨k - 1, by omega⟩
    have c1 : ¬ (p.length : Int) < (d.1.length : Int) := by rw [hp]; simp
    simp only [List.foldl_nil] at hf
    subst hf
    have zz := zon_ok h1
    have g0 : ([t] : List Int).getD (0 : Int).toNat 0 = t := rfl
    have l1 : (0 : Int) < (([t] : List Int).length : Int) := by simp
    simp only [Qd.l24, Qd.g24, c1, hc, l1, g0, Int.le_refl, and_self, and_true, true_and, decide_true, decide_false, if_true, if_false, mid_get, mid_set, mid_getn, mid_setn, bt_mid, Option.bind_some, Bool.not_true, Bool.not_false, Bool.false_eq_true, Bool.true_eq_false, beq_self_eq_true, bne_self_eq_false, Int.toNat_natCast]
    rw [(FiredSafely_both [t] d.2.1 d.1 (zonL d.1) (by simp) (by omega) (by omega) (fun m hm => Nat.le_trans (wordB_size (movB_iff (m3 m hm)).2.1).2 (by omega)) (by have := zz.len; omega) (fun w hw => Nat.le_trans (wordB_size (zz.wrd w hw)).2 (by omega))).1, firR_one h1 h2, Option.bind_some]
    unfold firV
    by_cases ht : inB t 0 10000000 = true
    · have hb := firT_bd d.2.1 d.1 (zonL d.1) (inB_iff.1 ht)
      rw [if_pos ht, if_pos ht]
      generalize firT d.2.1 d.1 (zonL d.1) t = x at *
      have g1 : ([x] : List Int).getD (0 : Int).toNat 0 = x := rfl
      have l2 : (0 : Int) < (([x] : List Int).length : Int) := by simp
      have e0 : ((0 : Int) != 0) = false := rfl
      simp only [e0, l2, g1, Int.le_refl, and_self, and_true, true_and, decide_true, decide_false, if_true, if_false, mid_get, mid_set, mid_getn, mid_setn, bt_mid, Option.bind_some, Bool.not_true, Bool.not_false, Bool.false_eq_true, Bool.true_eq_false, beq_self_eq_true, bne_self_eq_false, Int.toNat_natCast]
      by_cases hx : x < 0
      · simp only [hx, and_self, and_true, true_and, decide_true, decide_false, if_true, if_false, mid_get, mid_set, mid_getn, mid_setn, bt_mid, Option.bind_some, Bool.not_true, Bool.not_false, Bool.false_eq_true, Bool.true_eq_false, beq_self_eq_true, bne_self_eq_false, Int.toNat_natCast]
      · simp only [hx, and_self, and_true, true_and, decide_true, decide_false, if_true, if_false, mid_get, mid_set, mid_getn, mid_setn, bt_mid, Option.bind_some, Bool.not_true, Bool.not_false, Bool.false_eq_true, Bool.true_eq_false, beq_self_eq_true, bne_self_eq_false, Int.toNat_natCast]
        rw [QbJ (by omega) (by omega)]; rfl
    · rw [if_neg ht, if_neg ht]; rfl
  | cons m r ih =>
    intro p z k hp hz hf hk
    simp only [List.length_cons] at hk
    obtain ⟨k, rfl⟩ : ∃ j, k = j + 1 := ⟨k - 1, by omega⟩
    have hpl : p.length ≤ 40 := by rw [hp] at m1; simp at m1; omega
    have c0 : (0 : Int) ≤ (p.length : Int) := by omega
    have c1 : (p.length : Int) < (d.1.length : Int) := by rw [hp]; simp; omega
    have cw := w64 (n := (p.length : Int) + 1) (by omega) (by omega)
    have g : ∀ w, d.1.getD p.length w = m := fun w => by rw [hp]; exact mid_getn p r m w
    have hm := m3 m (by rw [hp]; simp)
    have i := ih (p ++ [m]) (zonF z m) k (by rw [hp, mid_snoc]) (zi_step hz hm) (by simpa using hf) (by omega)
    rw [snoc_len] at i
    simp only [Qd.l24, Qd.g24, c0, c1, cw, g, and_self, and_true, true_and, decide_true, decide_false, if_true, if_false, mid_get, mid_set, mid_getn, mid_setn, bt_mid, Option.bind_some, Bool.not_true, Bool.not_false, Bool.false_eq_true, Bool.true_eq_false, beq_self_eq_true, bne_self_eq_false, Int.toNat_natCast]
    rw [Qcn z m.2.1 hz.srt (by have := hz.len; omega), Option.bind_some]
    exact i
theorem Qc3 {d : Dsk} (h1 : movesB d.1 = true) (h2 : sigsB d.2.1 = true) (t : Int) (ht : inB t 0 10000000 = true) : ∀ (r p : List Mov) (z : List ByteArray) (k : Nat), d.1 = p ++ r → ZI p z → r.foldl zonF z = zonL d.1 → r.length < k →
    Q2.l5 NN k t p.length d z = some (firV d t) := by
  obtain ⟨m1, m2, m3⟩ := movesB_iff h1
  intro r
  induction r with
  | nil =>
    intro p z k hp hz hf hk
    obtain ⟨k, rfl⟩ : ∃ j, k = j + 1 := ⟨k - 1, by omega⟩
    have c1 : ¬ (p.length : Int) < (d.1.length : Int) := by rw [hp]; simp
    simp only [List.foldl_nil] at hf
    subst hf
    have zz := zon_ok h1
    have hb := firT_bd d.2.1 d.1 (zonL d.1) (inB_iff.1 ht)
    simp only [Q2.l5, Q2.g5, c1, and_self, and_true, true_and, decide_true, decide_false, if_true, if_false, mid_get, mid_set, mid_getn, mid_setn, bt_mid, Option.bind_some, Bool.not_true, Bool.not_false, Bool.false_eq_true, Bool.true_eq_false, beq_self_eq_true, bne_self_eq_false, Int.toNat_natCast]
    rw [Qce h2 h1 (zonL d.1) (by have := zz.len; omega) [t] (by simp) (fun x hx => by rw [List.mem_singleton.1 hx]; exact inB_iff.1 ht), Option.bind_some]
    unfold firV
    rw [if_pos ht, List.map_singleton]
    generalize firT d.2.1 d.1 (zonL d.1) t = x at *
    have g1 : ([x] : List Int).getD (0 : Int).toNat 0 = x := rfl
    have l2 : (0 : Int) < (([x] : List Int).length : Int) := by simp
    simp only [l2, g1, Int.le_refl, and_self, and_true, true_and, decide_true, decide_false, if_true, if_false, mid_get, mid_set, mid_getn, mid_setn, bt_mid, Option.bind_some, Bool.not_true, Bool.not_false, Bool.false_eq_true, Bool.true_eq_false, beq_self_eq_true, bne_self_eq_false, Int.toNat_natCast]
    by_cases hx : x < 0
    · simp only [hx, and_self, and_true, true_and, decide_true, decide_false, if_true, if_false, mid_get, mid_set, mid_getn, mid_setn, bt_mid, Option.bind_some, Bool.not_true, Bool.not_false, Bool.false_eq_true, Bool.true_eq_false, beq_self_eq_true, bne_self_eq_false, Int.toNat_natCast]
    · simp only [hx, and_self, and_true, true_and, decide_true, decide_false, if_true, if_false, mid_get, mid_set, mid_getn, mid_setn, bt_mid, Option.bind_some, Bool.not_true, Bool.not_false, Bool.false_eq_true, Bool.true_eq_false, beq_self_eq_true, bne_self_eq_false, Int.toNat_natCast]
      rw [Qbl (by omega) (by omega)]; rfl
  | cons m r ih =>
    intro p z k hp hz hf hk
    simp only [List.length_cons] at hk
    obtain ⟨k, rfl⟩ : ∃ j, k = j + 1 := ⟨k - 1, by omega⟩
    have hpl : p.length ≤ 40 := by rw [hp] at m1; simp at m1; omega
    have c0 : (0 : Int) ≤ (p.length : Int) := by omega
    have c1 : (p.length : Int) < (d.1.length : Int) := by rw [hp]; simp; omega
    have cw := w64 (n := (p.length : Int) + 1) (by omega) (by omega)
    have g : ∀ w, d.1.getD p.length w = m := fun w => by rw [hp]; exact mid_getn p r m w
    have hm := m3 m (by rw [hp]; simp)
    have i := ih (p ++ [m]) (zonF z m) k (by rw [hp, mid_snoc]) (zi_step hz hm) (by simpa using hf) (by omega)
    rw [snoc_len] at i
    simp only [Q2.l5, Q2.g5, c0, c1, cw, g, and_self, and_true, true_and, decide_true, decide_false, if_true, if_false, mid_get, mid_set, mid_getn, mid_setn, bt_mid, Option.bind_some, Bool.not_true, Bool.not_false, Bool.false_eq_true, Bool.true_eq_false, beq_self_eq_true, bne_self_eq_false, Int.toNat_natCast]
    rw [Qca z m.2.1 (by have := hz.len; omega), Option.bind_some]
    exact i
theorem Qc4 {d : Dsk} (h1 : movesB d.1 = true) (h2 : sigsB d.2.1 = true) (t : Int) : Q2.f d t = some (firV d t) := by
  obtain ⟨m1, m2, m3⟩ := movesB_iff h1
  unfold Q2.f Q2.fn Q2.top
  rw [Qbz, Option.bind_some]
  by_cases ht : inB t 0 10000000 = true
  · rw [ht]
    exact Qc3 h1 h2 t ht d.1 [] [] NN rfl zi_nil rfl (NN_lt (by omega))
  · have ht' : inB t 0 10000000 = false := by simpa using ht
    unfold firV
    rw [ht']; rfl
theorem firV_bd (d : Dsk) (t : Int) : ((firV d t).2 = 0 ∨ (firV d t).2 = 1) ∧ (firV d t).1.size ≤ 100 := by
  unfold firV
  split
  · rename_i h
    have hb := firT_bd d.2.1 d.1 (zonL d.1) (inB_iff.1 h)
    refine ⟨.inl rfl, ?_⟩
    split
    · decide
    · exact Nat.le_trans (decB_size (by omega) (by omega)) (by omega)
  · exact ⟨.inr rfl, by decide⟩
theorem joinF_size (sep : ByteArray) (hs : sep.size ≤ 1) : ∀ (xs : List ByteArray) (i : Nat) (st : ByteArray), (∀ w ∈ xs, w.size ≤ 16) → (foldi (joinF sep) i st xs).size ≤ st.size + 17 * xs.length := by
  intro xs
  induction xs with
  | nil => intro i st _; simp [foldi]
  | cons w r ih =>
    intro i st h
    have hw := h w (by simp)
    have i1 := ih (i + 1) (joinF sep i st w) (fun x hx => h x (by simp [hx]))
    have h2 : (joinF sep i st w).size ≤ st.size + 17 := by
      unfold joinF
      split <;> simp only [ByteArray.size_append] <;> omega
    simp only [foldi, List.length_cons]
    omega
end Go.Pl

namespace Go.Pl
open Go.Ev
set_option linter.unusedVariables false
set_option linter.unusedSimpArgs false
noncomputable def cmdW : List ByteArray → Option (List ByteArray × List Int)
  | [] => none
  | w0 :: ws => match shpL w0 with
    | some l => if ws.length = l.length then prs l ws else none
    | none => none
def wErr : ByteArray := ⟨#[101, 114, 114, 111, 114, 32]⟩
def wOk : ByteArray := ⟨#[111, 107]⟩
def errT (e : Int) : ByteArray := wErr ++ decB e
def finR (d d' : Dsk) (o : ByteArray) (e : Int) : Dsk × ByteArray := if e = 0 then (d', o) else (d, errT e)
theorem wErr_size : wErr.size = 6 := by decide
theorem errT_size {e : Int} (h : 0 ≤ e ∧ e ≤ 20) : (errT e).size ≤ 26 := by
  have := decB_size (n := e) (by omega) (by omega)
  have := wErr_size
  unfold errT
  rw [ByteArray.size_append]; omega
theorem err_fit {e : Int} (h : 0 ≤ e ∧ e ≤ 20) : (⟨#[101, 114, 114, 111, 114, 32]⟩ : ByteArray).size + (decB e).size ≤ 9223372036854775807 := by
  have := decB_size (n := e) (by omega) (by omega)
  have h2 : (⟨#[101, 114, 114, 111, 114, 32]⟩ : ByteArray).size = 6 := by decide
  omega
theorem run_tail {d d' : Dsk} {o : ByteArray} {e : Int} (he : 0 ≤ e ∧ e ≤ 20) : (if (e != 0) = true then (Qe.f e).bind fun r4 => if (⟨#[101, 114, 114, 111, 114, 32]⟩ : ByteArray).size + r4.size ≤ 9223372036854775807 then some (d, (⟨#[101, 114, 114, 111, 114, 32]⟩ : ByteArray) ++ r4) else none else some (d', o)) = some (finR d d' o e) := by
  unfold finR
  by_cases h : e = 0
  · subst h; rfl
  · rw [if_pos (by simpa using h), if_neg h, Qbl (by omega) (by omega), Option.bind_some, if_pos (err_fit he)]; rfl
theorem bind_eq {α β : Type} {x : Option α} {v : α} {f : α → Option β} {r : Option β} (h : x = some v) (h2 : f v = r) : x.bind f = r := by subst h; exact h2
theorem run_set {d d' : Dsk} {line w0 : ByteArray} {ws : List ByteArray} {n : List Int} {e : Int} (hp : Qq.f line = some (w0 :: ws, (n, true))) (hw : w0 = wPeople ∨ w0 = wSignal ∨ w0 = wBook ∨ w0 = wSettle) (h : Qad.f d (w0 :: ws) n = some (d', e)) (he : 0 ≤ e ∧ e ≤ 20) : QC.f d line = some (finR d d' wOk e) := by
  have hr := run_tail (d := d) (d' := d') (o := wOk) he
  have c0 : (0 : Int) ≤ 0 ∧ (0 : Int) < ((w0 :: ws).length : Int) := ⟨by omega, by simp⟩
  have g0 : (w0 :: ws).getD (0 : Int).toNat ByteArray.empty = w0 := rfl
  unfold QC.f QC.fn QC.top
  rw [hp, Option.bind_some]
  simp only [Bool.not_true, Bool.false_eq_true, if_false]
  rw [if_pos c0]
  simp only [g0]
  rcases hw with rfl | rfl | rfl | rfl
  · rw [if_pos (by decide +kernel), if_pos (by decide +kernel), h]; exact hr
  · rw [if_neg (by decide +kernel), if_pos (by decide +kernel), if_pos (by decide +kernel), h]; exact hr
  · rw [if_neg (by decide +kernel), if_neg (by decide +kernel), if_pos (by decide +kernel), if_pos (by decide +kernel), h]; exact hr
  · rw [if_neg (by decide +kernel), if_neg (by decide +kernel), if_neg (by decide +kernel), if_pos (by decide +kernel), h]; exact hr
theorem run_ask {d : Dsk} {line w0 : ByteArray} {ws : List ByteArray} {n : List Int} {o : ByteArray} {e : Int} (hp : Qq.f line = some (w0 :: ws, (n, true))) (hw : w0 = wClear ∨ w0 = wState ∨ w0 = wFire ∨ w0 = wTop ∨ w0 = wTime ∨ w0 = wLeft ∨ w0 = wOpen ∨ w0 = wNeed) (h : Q9.f d (w0 :: ws) n = some (o, e)) (he : 0 ≤ e ∧ e ≤ 20) : QC.f d line = some (finR d d o e) := by
  have hr := run_tail (d := d) (d' := d) (o := o) he
  have c0 : (0 : Int) ≤ 0 ∧ (0 : Int) < ((w0 :: ws).length : Int) := ⟨by omega, by simp⟩
  have g0 : (w0 :: ws).getD (0 : Int).toNat ByteArray.empty = w0 := rfl
  unfold QC.f QC.fn QC.top
  rw [hp, Option.bind_some]
  simp only [Bool.not_true, Bool.false_eq_true, if_false]
  rw [if_pos c0]
  simp only [g0]
  rcases hw with rfl | rfl | rfl | rfl | rfl | rfl | rfl | rfl <;>
    (rw [if_neg (by decide +kernel), if_neg (by decide +kernel), if_neg (by decide +kernel), if_neg (by decide +kernel), h]; exact hr)
theorem gd0 {α : Type} (a : α) (l : List α) (z : α) : (a :: l).getD (0 : Int).toNat z = a := rfl
theorem gd1 {α : Type} (a b : α) (l : List α) (z : α) : (a :: b :: l).getD (1 : Int).toNat z = b := rfl
theorem gd2 {α : Type} (a b c : α) (l : List α) (z : α) : (a :: b :: c :: l).getD (2 : Int).toNat z = c := rfl
theorem ln0 {α : Type} (a : α) (l : List α) : ((0 : Int) ≤ 0 ∧ (0 : Int) < ((a :: l).length : Int)) = True := eq_true ⟨by omega, by simp⟩
theorem ln1 {α : Type} (a b : α) (l : List α) : ((0 : Int) ≤ 1 ∧ (1 : Int) < ((a :: b :: l).length : Int)) = True := eq_true ⟨by omega, by simp; omega⟩
theorem ln2 {α : Type} (a b c : α) (l : List α) : ((0 : Int) ≤ 2 ∧ (2 : Int) < ((a :: b :: c :: l).length : Int)) = True := eq_true ⟨by omega, by simp; omega⟩
def Exe (d : Dsk) (line : ByteArray) (c : ByteArray × List ByteArray × List Int) : Prop :=
  ∃ (d' : Dsk) (o : ByteArray) (e : Int), Qd.f d c = some (d', o, e) ∧ QC.f d line = some (finR d d' o e) ∧ (e = 0 → deskB d' = true) ∧ (0 ≤ e ∧ e ≤ 20) ∧ o.size ≤ 10000
theorem desk_iff {d : Dsk} : deskB d = true ↔ movesB d.1 = true ∧ sigsB d.2.1 = true ∧ booksB d.2.2 = true := by
  unfold deskB; simp only [Bool.and_eq_true]
theorem moves_sz {xs : List Mov} (h : movesB xs = true) : xs.length ≤ 1000000 ∧ ∀ m ∈ xs, Sz m.2.1 := by
  obtain ⟨m1, m2, m3⟩ := movesB_iff h
  exact ⟨by omega, fun m hm => Nat.le_trans (wordB_size (movB_iff (m3 m hm)).2.1).2 (by omega)⟩
theorem books_lm' {xs : List Bkg} (h : booksB xs = true) : Lm OkBooking xs := by
  have hv := booksB_val h
  refine ⟨by omega, fun b hb => ?_⟩
  have h1 := valB_count (hv.1 b hb)
  have h2 := hv.1 b hb
  unfold valB at h2
  simp only [Bool.and_eq_true] at h2
  exact ⟨wf64.2 (by omega), Nat.le_trans (wordB_size h2.1.2).2 (by omega), wf64.2 (by omega)⟩
theorem ex_people {d : Dsk} (hd : deskB d = true) {line w1 w2 w3 : ByteArray} {a b : Int} (hz : w1.size ≤ 1000000) (hp : Qq.f line = some ([wPeople, w1, w2, w3], ([a, b], true))) : Exe d line (wPeople, ([w1], [a, b])) := by
  obtain ⟨h1, h2, h3⟩ := desk_iff.1 hd
  obtain ⟨s1, s2⟩ := moves_sz h1
  obtain ⟨b1, b2⟩ := AddMove_both d.1 (a, (w1, b)) s1 s2 (Nat.le_trans hz (by omega))
  have hc : ((amR d.1 (a, (w1, b))).2 = 0 → movesB (amR d.1 (a, (w1, b))).1 = true) ∧ 0 ≤ (amR d.1 (a, (w1, b))).2 ∧ (amR d.1 (a, (w1, b))).2 ≤ 20 := by
    unfold amR
    repeat' split
    all_goals simp_all
  refine ⟨((amR d.1 (a, (w1, b))).1, d.2), wOk, (amR d.1 (a, (w1, b))).2, ?_, ?_, fun h => desk_iff.2 ⟨hc.1 h, h2, h3⟩, hc.2, by decide⟩
  · unfold Qd.f Qd.fn Qd.top
    simp only [gd0, gd1, gd2, ln0, ln1, ln2, if_true]
    rw [if_pos (by decide +kernel)]
    exact bind_eq (b2) rfl
  · have hs : Qad.f d [wPeople, w1, w2, w3] [a, b] = some (if (amR d.1 (a, (w1, b))).2 = 0 then ((amR d.1 (a, (w1, b))).1, d.2) else d, (amR d.1 (a, (w1, b))).2) := by
      unfold Qad.f Qad.fn Qad.top
      simp only [gd0, gd1, gd2, ln0, ln1, ln2, if_true]
      rw [if_pos (by decide +kernel)]
      refine bind_eq (b1) ?_
      try dsimp only
      by_cases h : (amR d.1 (a, (w1, b))).2 = 0
      · rw [if_pos (by simpa using h), if_pos h]
      · rw [if_neg (by simpa using h), if_neg h]
    rw [run_set hp (.inl rfl) hs hc.2]
    unfold finR
    by_cases h : (amR d.1 (a, (w1, b))).2 = 0
    · rw [if_pos h, if_pos h, if_pos h]
    · rw [if_neg h, if_neg h]
theorem ex_clear {d : Dsk} (hd : deskB d = true) {line w1 w2 : ByteArray} {a : Int} (hz : w1.size ≤ 1000000) (hp : Qq.f line = some ([wClear, w1, w2], ([a], true))) : Exe d line (wClear, ([w1], [a])) := by
  obtain ⟨h1, h2, h3⟩ := desk_iff.1 hd
  obtain ⟨s1, s2⟩ := moves_sz h1
  obtain ⟨b1, b2⟩ := IsClear_both d.1 w1 a s1 s2 (Nat.le_trans hz (by omega))
  have hc : 0 ≤ (icR d.1 w1 a).2 ∧ (icR d.1 w1 a).2 ≤ 20 := by
    unfold icR
    repeat' split
    all_goals simp
  refine ⟨d, (if (icR d.1 w1 a).1 = true then ⟨#[121, 101, 115]⟩ else ⟨#[110, 111]⟩), (icR d.1 w1 a).2, ?_, ?_, fun _ => hd, hc, by split <;> decide⟩
  · unfold Qd.f Qd.fn Qd.top
    simp only [gd0, gd1, gd2, ln0, ln1, ln2, if_true]
    rw [if_neg (by decide +kernel), if_pos (by decide +kernel)]
    refine bind_eq (b2) ?_
    try dsimp only
    cases (icR d.1 w1 a).1 <;> rfl
  · refine run_ask hp (.inl rfl) ?_ hc
    unfold Q9.f Q9.fn Q9.top
    simp only [gd0, gd1, gd2, ln0, ln1, ln2, if_true]
    rw [if_pos (by decide +kernel)]
    refine bind_eq (b1) ?_
    try dsimp only
    cases (icR d.1 w1 a).1 <;> rfl
theorem ex_signal {d : Dsk} (hd : deskB d = true) {line w1 w2 : ByteArray} {a : Int} (hp : Qq.f line = some ([wSignal, w1, w2], ([a], true))) : Exe d line (wSignal, ([w1], [a])) := by
  obtain ⟨h1, h2, h3⟩ := desk_iff.1 hd
  have hs1 := (sigsB_iff h2).1
  obtain ⟨ws, q1, q2, q3⟩ := words_same
  have hb := idxW_bd ws w1
  obtain ⟨b1, b2⟩ := AddSignal_both d.2.1 (a, idxW ws w1) (by omega)
  have hc : ((asR d.2.1 (a, idxW ws w1)).2 = 0 → sigsB (asR d.2.1 (a, idxW ws w1)).1 = true) ∧ 0 ≤ (asR d.2.1 (a, idxW ws w1)).2 ∧ (asR d.2.1 (a, idxW ws w1)).2 ≤ 20 := by
    unfold asR fin5
    repeat' split
    all_goals simp_all
  by_cases hi : idxW ws w1 < 0
  · refine ⟨d, ⟨#[]⟩, 6, ?_, ?_, fun h => absurd h (by decide), by decide, by decide⟩
    · unfold Qd.f Qd.fn Qd.top
      simp only [gd0, gd1, gd2, ln0, ln1, ln2, if_true]
      rw [if_neg (by decide +kernel), if_neg (by decide +kernel), if_pos (by decide +kernel), q1, Option.bind_some]
      refine bind_eq ((Qb0 ws w1 (by omega))) ?_
      try dsimp only
      rw [if_pos (decide_eq_true hi)]
    · have hs : Qad.f d [wSignal, w1, w2] [a] = some (d, 6) := by
        unfold Qad.f Qad.fn Qad.top
        simp only [gd0, gd1, gd2, ln0, ln1, ln2, if_true]
        rw [if_neg (by decide +kernel), if_pos (by decide +kernel), q2, Option.bind_some]
        refine bind_eq ((Qb4 ws w1 (by omega))) ?_
        try dsimp only
        rw [if_pos (decide_eq_true hi)]
      rw [run_set hp (.inr (.inl rfl)) hs (by decide)]
      unfold finR
      rw [if_neg (by decide), if_neg (by decide)]
  · refine ⟨(d.1, ((asR d.2.1 (a, idxW ws w1)).1, d.2.2)), wOk, (asR d.2.1 (a, idxW ws w1)).2, ?_, ?_, fun h => desk_iff.2 ⟨h1, hc.1 h, h3⟩, hc.2, by decide⟩
    · unfold Qd.f Qd.fn Qd.top
      simp only [gd0, gd1, gd2, ln0, ln1, ln2, if_true]
      rw [if_neg (by decide +kernel), if_neg (by decide +kernel), if_pos (by decide +kernel), q1, Option.bind_some]
      refine bind_eq ((Qb0 ws w1 (by omega))) ?_
      try dsimp only
      rw [if_neg (by simpa using hi)]
      exact bind_eq (b2) rfl
    · have hs : Qad.f d [wSignal, w1, w2] [a] = some (if (asR d.2.1 (a, idxW ws w1)).2 = 0 then (d.1, ((asR d.2.1 (a, idxW ws w1)).1, d.2.2)) else d, (asR d.2.1 (a, idxW ws w1)).2) := by
        unfold Qad.f Qad.fn Qad.top
        simp only [gd0, gd1, gd2, ln0, ln1, ln2, if_true]
        rw [if_neg (by decide +kernel), if_pos (by decide +kernel), q2, Option.bind_some]
        refine bind_eq ((Qb4 ws w1 (by omega))) ?_
        try dsimp only
        rw [if_neg (by simpa using hi)]
        refine bind_eq (b1) ?_
        try dsimp only
        by_cases h : (asR d.2.1 (a, idxW ws w1)).2 = 0
        · rw [if_pos (by simpa using h), if_pos h]
        · rw [if_neg (by simpa using h), if_neg h]
      rw [run_set hp (.inr (.inl rfl)) hs hc.2]
      unfold finR
      by_cases h : (asR d.2.1 (a, idxW ws w1)).2 = 0
      · rw [if_pos h, if_pos h, if_pos h]
      · rw [if_neg h, if_neg h]
theorem ex_state {d : Dsk} (hd : deskB d = true) {line w1 : ByteArray} {a : Int} (hp : Qq.f line = some ([wState, w1], ([a], true))) : Exe d line (wState, ([], [a])) := by
  obtain ⟨h1, h2, h3⟩ := desk_iff.1 hd
  have hs1 := (sigsB_iff h2).1
  obtain ⟨b1, b2⟩ := ControllerAt_both d.2.1 a (by omega)
  have hc : 0 ≤ (caR d.2.1 a).2 ∧ (caR d.2.1 a).2 ≤ 20 := by
    unfold caR
    repeat' split
    all_goals simp
  refine ⟨d, sttW (caR d.2.1 a).1, (caR d.2.1 a).2, ?_, ?_, fun _ => hd, hc, Nat.le_trans (sttW_size _) (by omega)⟩
  · unfold Qd.f Qd.fn Qd.top
    simp only [gd0, gd1, gd2, ln0, ln1, ln2, if_true]
    rw [if_neg (by decide +kernel), if_neg (by decide +kernel), if_neg (by decide +kernel), if_pos (by decide +kernel)]
    refine bind_eq (b2) ?_
    try dsimp only
    rw [QcE]; rfl
  · refine run_ask hp (.inr (.inl rfl)) ?_ hc
    unfold Q9.f Q9.fn Q9.top
    simp only [gd0, gd1, gd2, ln0, ln1, ln2, if_true]
    rw [if_neg (by decide +kernel), if_pos (by decide +kernel)]
    exact bind_eq ((QcU d a (by omega))) rfl
theorem ex_fire {d : Dsk} (hd : deskB d = true) {line w1 : ByteArray} {a : Int} (hp : Qq.f line = some ([wFire, w1], ([a], true))) : Exe d line (wFire, ([], [a])) := by
  obtain ⟨h1, h2, h3⟩ := desk_iff.1 hd
  have hv := firV_bd d a
  have hc : 0 ≤ (firV d a).2 ∧ (firV d a).2 ≤ 20 := by rcases hv.1 with h | h <;> omega
  refine ⟨d, (firV d a).1, (firV d a).2, ?_, ?_, fun _ => hd, hc, by omega⟩
  · unfold Qd.f Qd.fn Qd.top
    simp only [gd0, gd1, gd2, ln0, ln1, ln2, if_true]
    rw [if_neg (by decide +kernel), if_neg (by decide +kernel), if_neg (by decide +kernel), if_neg (by decide +kernel), if_pos (by decide +kernel)]
    exact Qdb h1 h2 a (wFire, ([], [a])) rfl d.1 [] [] NN rfl zi_nil rfl (NN_lt (by have := (movesB_iff h1).1; omega))
  · refine run_ask hp (.inr (.inr (.inl rfl))) ?_ hc
    unfold Q9.f Q9.fn Q9.top
    simp only [gd0, gd1, gd2, ln0, ln1, ln2, if_true]
    rw [if_neg (by decide +kernel), if_neg (by decide +kernel), if_pos (by decide +kernel)]
    exact bind_eq ((Qc4 h1 h2 a)) rfl
end Go.Pl

namespace Go.Pl
open Go.Ev
set_option linter.unusedVariables false
set_option linter.unusedSimpArgs false
theorem dec_both {n : Int} (h0 : 0 ≤ n) (h : n ≤ 1000000000000000) : Qf.f n = some (decB n) ∧ Qe.f n = some (decB n) ∧ (decB n).size ≤ 20 := ⟨QbJ (by omega) (by omega), Qbl h0 (by omega), decB_size (by omega) (by omega)⟩
def bookW : List ByteArray := [(⟨#[105, 110]⟩ : ByteArray), (⟨#[102, 105, 114, 101, 100]⟩ : ByteArray), (⟨#[114, 101, 116, 117, 114, 110, 101, 100]⟩ : ByteArray), (⟨#[100, 101, 115, 116, 114, 111, 121, 101, 100]⟩ : ByteArray)]
theorem ex_book {d : Dsk} (hd : deskB d = true) {line w1 w2 w3 : ByteArray} {a : Int} (hz : w2.size ≤ 1000000) (ha : -10000000000000 ≤ a ∧ a ≤ 10000000000000) (hp : Qq.f line = some ([wBook, w1, w2, w3], ([a], true))) : Exe d line (wBook, ([w1, w2], [a])) := by
  obtain ⟨h1, h2, h3⟩ := desk_iff.1 hd
  have hl := (booksB_val h3).2
  have hb := idxW_bd bookW w1
  have hbl : bookW.length = 4 := rfl
  have p1 := Qb0 bookW w1 (by rw [hbl]; omega)
  have p2 := Qb4 bookW w1 (by rw [hbl]; omega)
  by_cases hi : idxW bookW w1 < 0
  · refine ⟨d, ⟨#[]⟩, 6, ?_, ?_, fun h => absurd h (by decide), by decide, by decide⟩
    · unfold Qd.f Qd.fn Qd.top
      simp only [gd0, gd1, gd2, ln0, ln1, ln2, if_true]
      rw [if_neg (by decide +kernel), if_neg (by decide +kernel), if_neg (by decide +kernel), if_neg (by decide +kernel), if_neg (by decide +kernel), if_pos (by decide +kernel)]
      refine bind_eq p1 ?_
      try dsimp only
      rw [if_pos (decide_eq_true hi)]
    · have hs : Qad.f d [wBook, w1, w2, w3] [a] = some (d, 6) := by
        unfold Qad.f Qad.fn Qad.top
        simp only [gd0, gd1, gd2, ln0, ln1, ln2, if_true]
        rw [if_neg (by decide +kernel), if_neg (by decide +kernel), if_pos (by decide +kernel)]
        refine bind_eq p2 ?_
        try dsimp only
        rw [if_pos (decide_eq_true hi)]
      rw [run_set hp (.inr (.inr (.inl rfl))) hs (by decide)]
      unfold finR
      rw [if_neg (by decide), if_neg (by decide)]
  · have hok : OkBooking (idxW bookW w1, (w2, a)) := ⟨wf64.2 (by simp only; omega), hz, wf64.2 (by simp only; omega)⟩
    have hlm := books_lm' h3
    have b1 := Qcx d.2.2 (idxW bookW w1, (w2, a)) hlm hok
    have b2 := Qcw d.2.2 (idxW bookW w1, (w2, a)) hlm hok
    have hc : ((bookR d.2.2 (idxW bookW w1, (w2, a))).2 = 0 → booksB (bookR d.2.2 (idxW bookW w1, (w2, a))).1 = true) ∧ 0 ≤ (bookR d.2.2 (idxW bookW w1, (w2, a))).2 ∧ (bookR d.2.2 (idxW bookW w1, (w2, a))).2 ≤ 20 := by
      unfold bookR
      repeat' split
      all_goals simp_all
    generalize bookR d.2.2 (idxW bookW w1, (w2, a)) = R at *
    refine ⟨(d.1, (d.2.1, R.1)), wOk, R.2, ?_, ?_, fun h => desk_iff.2 ⟨h1, h2, hc.1 h⟩, hc.2, by decide⟩
    · unfold Qd.f Qd.fn Qd.top
      simp only [gd0, gd1, gd2, ln0, ln1, ln2, if_true]
      rw [if_neg (by decide +kernel), if_neg (by decide +kernel), if_neg (by decide +kernel), if_neg (by decide +kernel), if_neg (by decide +kernel), if_pos (by decide +kernel)]
      refine bind_eq p1 ?_
      try dsimp only
      rw [if_neg (by simpa using hi)]
      exact bind_eq b2 rfl
    · have hs : Qad.f d [wBook, w1, w2, w3] [a] = some (if R.2 = 0 then (d.1, (d.2.1, R.1)) else d, R.2) := by
        unfold Qad.f Qad.fn Qad.top
        simp only [gd0, gd1, gd2, ln0, ln1, ln2, if_true]
        rw [if_neg (by decide +kernel), if_neg (by decide +kernel), if_pos (by decide +kernel)]
        refine bind_eq p2 ?_
        try dsimp only
        rw [if_neg (by simpa using hi)]
        refine bind_eq b1 ?_
        try dsimp only
        by_cases h : R.2 = 0
        · rw [if_pos (by simpa using h), if_pos h]
        · rw [if_neg (by simpa using h), if_neg h]
      rw [run_set hp (.inr (.inr (.inl rfl))) hs hc.2]
      unfold finR
      by_cases h : R.2 = 0
      · rw [if_pos h, if_pos h, if_pos h]
      · rw [if_neg h, if_neg h]
theorem ex_settle {d : Dsk} (hd : deskB d = true) {line w1 : ByteArray} {a : Int} (hp : Qq.f line = some ([wSettle, w1], ([a], true))) : Exe d line (wSettle, ([], [a])) := by
  obtain ⟨h1, h2, h3⟩ := desk_iff.1 hd
  obtain ⟨b1, b2⟩ := SettleAll_both d.2.2 a (books_lm' h3)
  have hc : ((stlR d.2.2 a).2 = 0 → booksB (stlR d.2.2 a).1 = true) ∧ 0 ≤ (stlR d.2.2 a).2 ∧ (stlR d.2.2 a).2 ≤ 20 := by
    unfold stlR limS
    repeat' split
    all_goals simp_all
  generalize stlR d.2.2 a = R at *
  refine ⟨(d.1, (d.2.1, R.1)), wOk, R.2, ?_, ?_, fun h => desk_iff.2 ⟨h1, h2, hc.1 h⟩, hc.2, by decide⟩
  · unfold Qd.f Qd.fn Qd.top
    simp only [gd0, gd1, gd2, ln0, ln1, ln2, if_true]
    rw [if_neg (by decide +kernel), if_neg (by decide +kernel), if_neg (by decide +kernel), if_neg (by decide +kernel), if_neg (by decide +kernel), if_neg (by decide +kernel), if_neg (by decide +kernel), if_neg (by decide +kernel), if_pos (by decide +kernel)]
    exact bind_eq b2 rfl
  · have hs : Qad.f d [wSettle, w1] [a] = some (if R.2 = 0 then (d.1, (d.2.1, R.1)) else d, R.2) := by
      unfold Qad.f Qad.fn Qad.top
      simp only [gd0, gd1, gd2, ln0, ln1, ln2, if_true]
      rw [if_neg (by decide +kernel), if_neg (by decide +kernel), if_neg (by decide +kernel)]
      refine bind_eq b1 ?_
      try dsimp only
      by_cases h : R.2 = 0
      · rw [if_pos (by simpa using h), if_pos h]
      · rw [if_neg (by simpa using h), if_neg h]
    rw [run_set hp (.inr (.inr (.inr rfl))) hs hc.2]
    unfold finR
    by_cases h : R.2 = 0
    · rw [if_pos h, if_pos h, if_pos h]
    · rw [if_neg h, if_neg h]
theorem ex_left {d : Dsk} (hd : deskB d = true) {line w1 : ByteArray} (hz : w1.size ≤ 1000000) (hp : Qq.f line = some ([wLeft, w1], ([], true))) : Exe d line (wLeft, ([w1], [])) := by
  obtain ⟨h1, h2, h3⟩ := desk_iff.1 hd
  obtain ⟨b1, b2⟩ := PiecesLeft_both d.2.2 w1 (books_lm' h3) hz
  have hv := booksB_val h3
  have hle := leftOf_le w1 d.2.2 hv.1
  have h0 := (most_bd d.2.2 w1 h3).1
  have hc : (0 ≤ (leftR d.2.2 w1).1 ∧ (leftR d.2.2 w1).1 ≤ 1000000) ∧ 0 ≤ (leftR d.2.2 w1).2 ∧ (leftR d.2.2 w1).2 ≤ 20 := by
    unfold leftR
    split <;> simp only <;> omega
  generalize leftR d.2.2 w1 = R at *
  obtain ⟨d1, d2, d3⟩ := dec_both (n := R.1) hc.1.1 (by omega)
  refine ⟨d, decB R.1, R.2, ?_, ?_, fun _ => hd, hc.2, by omega⟩
  · unfold Qd.f Qd.fn Qd.top
    simp only [gd0, gd1, gd2, ln0, ln1, ln2, if_true]
    rw [if_neg (by decide +kernel), if_neg (by decide +kernel), if_neg (by decide +kernel), if_neg (by decide +kernel), if_neg (by decide +kernel), if_neg (by decide +kernel), if_pos (by decide +kernel)]
    exact bind_eq b2 (bind_eq d1 rfl)
  · refine run_ask hp (.inr (.inr (.inr (.inr (.inr (.inl rfl)))))) ?_ hc.2
    unfold Q9.f Q9.fn Q9.top
    simp only [gd0, gd1, gd2, ln0, ln1, ln2, if_true]
    rw [if_neg (by decide +kernel), if_neg (by decide +kernel), if_neg (by decide +kernel), if_pos (by decide +kernel)]
    exact bind_eq b1 (bind_eq d2 rfl)
theorem lf0 {α : Type} : ((0 : Int) ≤ 0 ∧ (0 : Int) < (([] : List α).length : Int)) = False := eq_false (fun h => by simp at h)
theorem lf1 {α : Type} : ((0 : Int) ≤ 1 ∧ (1 : Int) < (([] : List α).length : Int)) = False := eq_false (fun h => by simp at h)
theorem lf2 {α : Type} (a : α) : ((0 : Int) ≤ 1 ∧ (1 : Int) < (([a] : List α).length : Int)) = False := eq_false (fun h => by simp at h)
theorem ex_open {d : Dsk} (hd : deskB d = true) {line : ByteArray} (hp : Qq.f line = some ([wOpen], ([], true))) : Exe d line (wOpen, ([], [])) := by
  obtain ⟨h1, h2, h3⟩ := desk_iff.1 hd
  have hv := booksB_val h3
  obtain ⟨o1, b2, b1⟩ := open_both d.2.2 hv.1 (by omega)
  have hw : ∀ w ∈ openL d.2.2, w.size ≤ 16 := fun w hw => by
    obtain ⟨⟨b, hb, e⟩, _⟩ := (o1.mem w).1 hw
    have := hv.1 b hb
    unfold valB at this
    simp only [Bool.and_eq_true] at this
    rw [← e]; exact (wordB_size this.1.2).2
  have hln := o1.len
  generalize openL d.2.2 = L at *
  by_cases hL : L = []
  · subst hL
    refine ⟨d, ⟨#[45]⟩, 0, ?_, ?_, fun _ => hd, by decide, by decide⟩
    · unfold Qd.f Qd.fn Qd.top
      simp only [gd0, gd1, gd2, ln0, ln1, ln2, lf0, lf1, lf2, if_true, if_false]
      rw [if_neg (by decide +kernel), if_neg (by decide +kernel), if_neg (by decide +kernel), if_neg (by decide +kernel), if_neg (by decide +kernel), if_neg (by decide +kernel), if_neg (by decide +kernel), if_pos (by decide +kernel)]
      exact bind_eq b2 rfl
    · refine run_ask hp (.inr (.inr (.inr (.inr (.inr (.inr (.inl rfl))))))) ?_ (by decide)
      unfold Q9.f Q9.fn Q9.top
      simp only [gd0, gd1, gd2, ln0, ln1, ln2, lf0, lf1, lf2, if_true, if_false]
      rw [if_neg (by decide +kernel), if_neg (by decide +kernel), if_neg (by decide +kernel), if_neg (by decide +kernel), if_pos (by decide +kernel)]
      exact bind_eq b1 rfl
  · have hne : ((L.length : Int) == 0) = false := by
      rw [len0]; simpa using hL
    have hcs : (⟨#[44]⟩ : ByteArray).size = 1 := by decide
    have j1 := QcH L (⟨#[44]⟩ : ByteArray) (fun s hs => by have := hw s hs; omega) (by omega) (by omega)
    have j2 := QcI L (⟨#[44]⟩ : ByteArray) (fun s hs => by have := hw s hs; omega) (by omega) (by omega)
    have hsz : (joinB (⟨#[44]⟩ : ByteArray) L).size ≤ 10000 := by
      have := joinF_size (⟨#[44]⟩ : ByteArray) (by omega) L 0 (⟨#[]⟩ : ByteArray) hw
      have e0 : (⟨#[]⟩ : ByteArray).size = 0 := by decide
      unfold joinB; omega
    refine ⟨d, joinB (⟨#[44]⟩ : ByteArray) L, 0, ?_, ?_, fun _ => hd, by decide, hsz⟩
    · unfold Qd.f Qd.fn Qd.top
      simp only [gd0, gd1, gd2, ln0, ln1, ln2, lf0, lf1, lf2, if_true, if_false]
      rw [if_neg (by decide +kernel), if_neg (by decide +kernel), if_neg (by decide +kernel), if_neg (by decide +kernel), if_neg (by decide +kernel), if_neg (by decide +kernel), if_neg (by decide +kernel), if_pos (by decide +kernel)]
      refine bind_eq b2 ?_
      try dsimp only
      rw [hne, if_neg (by simp)]
      exact bind_eq j1.1 rfl
    · refine run_ask hp (.inr (.inr (.inr (.inr (.inr (.inr (.inl rfl))))))) ?_ (by decide)
      unfold Q9.f Q9.fn Q9.top
      simp only [gd0, gd1, gd2, ln0, ln1, ln2, lf0, lf1, lf2, if_true, if_false]
      rw [if_neg (by decide +kernel), if_neg (by decide +kernel), if_neg (by decide +kernel), if_neg (by decide +kernel), if_pos (by decide +kernel)]
      refine bind_eq b1 ?_
      try dsimp only
      rw [hne, if_neg (by simp)]
      exact bind_eq j2.1 rfl
theorem ex_top {d : Dsk} (hd : deskB d = true) {line w1 : ByteArray} {a : Int} (hp : Qq.f line = some ([wTop, w1], ([a], true))) : Exe d line (wTop, ([], [a])) := by
  obtain ⟨b1, b2, b3, b4, b5⟩ := TopOf_both a
  have hc : 0 ≤ (topR a).2.2 ∧ (topR a).2.2 ≤ 20 := by
    have : (topR a).2.2 = 0 ∨ (topR a).2.2 = 2 := by
      have h := b2
      unfold Qa3.f Qa3.fn Qa3.top Qbc.f Qbc.fn Qbc.top at h
      rw [Qbg] at h
      cases hu : inB a 0 200000
      · rw [hu] at h
        have := Option.some.inj h
        rw [← this]; exact .inr rfl
      · rw [hu] at h
        simp only [Option.bind_some, Bool.not_true, Bool.false_eq_true, if_false] at h
        cases ht : Qac.f a with
        | none => rw [ht] at h; cases h
        | some y =>
          rw [ht] at h
          have := Option.some.inj h
          rw [← this]; exact .inl rfl
    omega
  obtain ⟨d1, d2, d3⟩ := dec_both (n := (topR a).1) b3.1 (by omega)
  obtain ⟨f1, f2, f3⟩ := dec_both (n := (topR a).2.1) b4 (by omega)
  have e1 : (⟨#[32]⟩ : ByteArray).size = 1 := by decide
  generalize topR a = R at *
  have q1 : (decB R.1).size + (⟨#[32]⟩ : ByteArray).size ≤ 9223372036854775807 := by omega
  have q2 : (decB R.1 ++ (⟨#[32]⟩ : ByteArray)).size + (decB R.2.1).size ≤ 9223372036854775807 := by rw [ByteArray.size_append]; omega
  refine ⟨d, (decB R.1 ++ (⟨#[32]⟩ : ByteArray)) ++ decB R.2.1, R.2.2, ?_, ?_, fun _ => hd, hc, by rw [ByteArray.size_append, ByteArray.size_append]; omega⟩
  · unfold Qd.f Qd.fn Qd.top
    simp only [gd0, gd1, gd2, ln0, ln1, ln2, if_true]
    rw [if_neg (by decide +kernel), if_neg (by decide +kernel), if_neg (by decide +kernel), if_neg (by decide +kernel), if_neg (by decide +kernel), if_neg (by decide +kernel), if_neg (by decide +kernel), if_neg (by decide +kernel), if_neg (by decide +kernel), if_pos (by decide +kernel)]
    refine bind_eq b2 (bind_eq d1 ?_)
    try dsimp only
    rw [if_pos q1]
    refine bind_eq f1 ?_
    try dsimp only
    rw [if_pos q2]
  · refine run_ask hp (.inr (.inr (.inr (.inl rfl)))) ?_ hc
    unfold Q9.f Q9.fn Q9.top
    simp only [gd0, gd1, gd2, ln0, ln1, ln2, if_true]
    rw [if_neg (by decide +kernel), if_neg (by decide +kernel), if_neg (by decide +kernel), if_neg (by decide +kernel), if_neg (by decide +kernel), if_pos (by decide +kernel)]
    refine bind_eq b1 (bind_eq d2 ?_)
    try dsimp only
    rw [if_pos q1]
    refine bind_eq f2 ?_
    try dsimp only
    rw [if_pos q2]
theorem ex_need {d : Dsk} (hd : deskB d = true) {line w1 w2 : ByteArray} {a b : Int} (hp : Qq.f line = some ([wNeed, w1, w2], ([a, b], true))) : Exe d line (wNeed, ([], [a, b])) := by
  obtain ⟨b1, b2, b3, b4⟩ := SeparationFor_both a b
  have hc : 0 ≤ (sepR a b).2 ∧ (sepR a b).2 ≤ 20 := by
    have : (sepR a b).2 = 0 ∨ (sepR a b).2 = 2 := by
      have h := b2
      unfold Qaa.f Qaa.fn Qaa.top QaG.f QaG.fn QaG.top QaF.f QaF.fn QaF.top at h
      rw [Qbg, Qbg] at h
      cases hu : inB a 0 500
      · rw [hu] at h
        have := Option.some.inj h
        rw [← this]; exact .inr rfl
      · cases hv : inB b 0 100000000
        · rw [hu, hv] at h
          have := Option.some.inj h
          rw [← this]; exact .inr rfl
        · rw [hu, hv] at h
          simp only [Option.bind_some, Bool.not_true, Bool.false_eq_true, if_false, if_true] at h
          cases ht : Qv.f a b with
          | none => rw [ht] at h; cases h
          | some y =>
            rw [ht] at h
            have := Option.some.inj h
            rw [← this]; exact .inl rfl
    omega
  obtain ⟨d1, d2, d3⟩ := dec_both (n := (sepR a b).1) b3 (by omega)
  generalize sepR a b = R at *
  refine ⟨d, decB R.1, R.2, ?_, ?_, fun _ => hd, hc, by omega⟩
  · unfold Qd.f Qd.fn Qd.top
    simp only [gd0, gd1, gd2, ln0, ln1, ln2, if_true]
    rw [if_neg (by decide +kernel), if_neg (by decide +kernel), if_neg (by decide +kernel), if_neg (by decide +kernel), if_neg (by decide +kernel), if_neg (by decide +kernel), if_neg (by decide +kernel), if_neg (by decide +kernel), if_neg (by decide +kernel), if_neg (by decide +kernel), if_pos (by decide +kernel)]
    exact bind_eq b2 (bind_eq d1 rfl)
  · refine run_ask hp (.inr (.inr (.inr (.inr (.inr (.inr (.inr rfl))))))) ?_ hc
    unfold Q9.f Q9.fn Q9.top
    simp only [gd0, gd1, gd2, ln0, ln1, ln2, if_true]
    rw [if_neg (by decide +kernel), if_neg (by decide +kernel), if_neg (by decide +kernel), if_neg (by decide +kernel), if_neg (by decide +kernel), if_neg (by decide +kernel), if_pos (by decide +kernel)]
    exact bind_eq b1 (bind_eq d2 rfl)
theorem ex_time {d : Dsk} (hd : deskB d = true) {line w1 : ByteArray} {a : Int} (hp : Qq.f line = some ([wTime, w1], ([a], true))) : Exe d line (wTime, ([], [a])) := by
  obtain ⟨b1, b2, b3⟩ := TimeText_both a
  have hc : 0 ≤ (ttR a).2 ∧ (ttR a).2 ≤ 20 := by
    have : (ttR a).2 = 0 ∨ (ttR a).2 = 2 := by
      have h := b2
      unfold Qax.f Qax.fn Qax.top at h
      rw [QbX] at h
      cases hu : inB a 0 10000000
      · rw [hu] at h
        have := Option.some.inj h
        rw [← this]; exact .inr rfl
      · rw [hu] at h
        simp only [Option.bind_some, Bool.not_true, Bool.false_eq_true, if_false] at h
        cases ht : QaM.f a with
        | none => rw [ht] at h; cases h
        | some y =>
          rw [ht] at h
          have := Option.some.inj h
          rw [← this]; exact .inl rfl
    omega
  generalize ttR a = R at *
  refine ⟨d, R.1, R.2, ?_, ?_, fun _ => hd, hc, by omega⟩
  · unfold Qd.f Qd.fn Qd.top
    simp only [gd0, gd1, gd2, ln0, ln1, ln2, if_true]
    rw [if_neg (by decide +kernel), if_neg (by decide +kernel), if_neg (by decide +kernel), if_neg (by decide +kernel), if_neg (by decide +kernel), if_neg (by decide +kernel), if_neg (by decide +kernel), if_neg (by decide +kernel), if_neg (by decide +kernel), if_neg (by decide +kernel), if_neg (by decide +kernel)]
    exact bind_eq b2 rfl
  · refine run_ask hp (.inr (.inr (.inr (.inr (.inl rfl))))) ?_ hc
    unfold Q9.f Q9.fn Q9.top
    simp only [gd0, gd1, gd2, ln0, ln1, ln2, if_true]
    rw [if_neg (by decide +kernel), if_neg (by decide +kernel), if_neg (by decide +kernel), if_neg (by decide +kernel), if_neg (by decide +kernel), if_neg (by decide +kernel), if_neg (by decide +kernel)]
    exact bind_eq b1 rfl
end Go.Pl

namespace Go.Pl
open Go.Ev
set_option linter.unusedVariables false
noncomputable section
def QbV.top (p : ByteArray) : Option (YG × Int) :=
 (QO.f p).bind fun r1 =>
 some (r1.2.1, r1.2.2)
def QbV.fn (n : Nat) (p : ByteArray) : Option (YG × Int) := QbV.top p
def QbV.f (p : ByteArray) : Option (YG × Int) := QbV.fn NN p
end
end Go.Pl

namespace Go.Pl
open Go.Ev
set_option linter.unusedVariables false
noncomputable section
def QbW.top (p : ByteArray) : Option (YG × Int) :=
 (QaX.f p).bind fun r1 =>
 if (!r1) = true then
 some (([], ([], [])), 3)
 else
 (Qaz.f p).bind fun r2 =>
 (QI.f r2).bind fun r3 =>
 some (r3.1, 0)
def QbW.fn (n : Nat) (p : ByteArray) : Option (YG × Int) := QbW.top p
def QbW.f (p : ByteArray) : Option (YG × Int) := QbW.fn NN p
end
end Go.Pl

namespace Go.Pl
open Go.Ev
set_option linter.unusedVariables false
set_option linter.unusedSimpArgs false
def spW (line : ByteArray) : List ByteArray := (splitL 32 (bl line)).map ob
theorem spW_cons (line : ByteArray) : ∃ w0 ws, spW line = w0 :: ws := by
  unfold spW
  cases h : splitL 32 (bl line) with
  | nil => exact absurd h (splitL_ne _ _)
  | cons a r => exact ⟨ob a, r.map ob, rfl⟩
theorem spW_size (line : ByteArray) : ∀ w ∈ spW line, w.size ≤ line.size := by
  intro w hw
  obtain ⟨x, hx, rfl⟩ := List.mem_map.1 hw
  rw [ob_size, ← bl_length]
  exact splitL_size 32 (bl line) x hx
theorem spW_len (line : ByteArray) : (spW line).length ≤ line.size + 1 := by
  unfold spW
  rw [List.length_map, ← bl_length]
  exact splitL_length _ _
theorem cmdW_none {w0 : ByteArray} (ws : List ByteArray) (h : shpL w0 = none) : cmdW (w0 :: ws) = none := by simp only [cmdW, h]
theorem cmdW_some {w0 : ByteArray} {l : List UInt8} (ws : List ByteArray) (h : shpL w0 = some l) : cmdW (w0 :: ws) = if ws.length = l.length then prs l ws else none := by simp only [cmdW, h]
theorem Qb1 {line w0 : ByteArray} {ws : List ByteArray} (h : line.size ≤ 1000000) (hw : spW line = w0 :: ws) : Qu.f line = some (cmdOut w0 [] [] (cmdW (w0 :: ws))) := by
  have hs := spW_size line
  have hl := spW_len line
  rw [hw] at hs hl
  simp only [List.length_cons] at hl
  unfold Qu.f Qu.fn Qu.top
  have e := Qch line 32 h
  rw [show (((32 : UInt8).toNat : Int)) = 32 from rfl, show (splitL 32 (bl line)).map ob = spW line from rfl, hw] at e
  rw [e, Option.bind_some]
  simp only [ln0, gd0, if_true]
  cases hsh : shpL w0 with
  | none =>
    rw [cmdW_none ws hsh, (shape_none hsh).1]
    rfl
  | some l =>
    obtain ⟨s1, s2, s3, s4⟩ := shape_some hsh
    have w := w64 (n := (l.length : Int) + 1) (by omega) (by omega)
    rw [cmdW_some ws hsh, s1, Option.bind_some]
    simp only [and_self, and_true, true_and, decide_true, decide_false, if_true, if_false, mid_get, mid_set, mid_getn, mid_setn, bt_mid, Option.bind_some, Bool.not_true, Bool.not_false, Bool.false_eq_true, Bool.true_eq_false, beq_self_eq_true, bne_self_eq_false, Int.toNat_natCast, ob_size, w]
    by_cases hlen : ws.length = l.length
    · have e1 : (((w0 :: ws).length : Int) != (l.length : Int) + 1) = false := by simp [hlen]
      rw [e1, if_neg (by simp), if_pos hlen]
      have := Qdc ByteArray.empty w0 w0 [] [] l [] ws [] [] [] NN rfl hlen (by simp; omega) (by simp) (by simp) s3 (fun x hx => by have := hs x (by simp [hx]); omega) (NN_lt (by omega))
      exact this
    · have e1 : (((w0 :: ws).length : Int) != (l.length : Int) + 1) = true := by
        have : ¬ ((ws.length : Int) + 1 = (l.length : Int) + 1) := by omega
        simpa using this
      rw [e1, if_pos rfl, if_neg hlen]
      rfl
theorem Qcf {line w0 : ByteArray} {ws : List ByteArray} (h : line.size ≤ 1000000) (hw : spW line = w0 :: ws) : Qq.f line = some (prsOut (w0 :: ws) [] (cmdW (w0 :: ws))) := by
  have hs := spW_size line
  have hl := spW_len line
  rw [hw] at hs hl
  simp only [List.length_cons] at hl
  unfold Qq.f Qq.fn Qq.top
  have e := Qcc line 32 h
  rw [show (((32 : UInt8).toNat : Int)) = 32 from rfl, show (splitL 32 (bl line)).map ob = spW line from rfl, hw] at e
  rw [e, Option.bind_some]
  simp only [ln0, gd0, if_true]
  cases hsh : shpL w0 with
  | none =>
    have e45 : ((⟨#[45]⟩ : ByteArray).toList == (⟨#[45]⟩ : ByteArray).toList) = true := by decide +kernel
    rw [cmdW_none ws hsh, (shape_none hsh).2, Option.bind_some, e45]
    rfl
  | some l =>
    obtain ⟨s1, s2, s3, s4⟩ := shape_some hsh
    have w := w64 (n := (l.length : Int) + 1) (by omega) (by omega)
    have hne : ((ob (l.map upK)).toList == (⟨#[45]⟩ : ByteArray).toList) = false := by
      rw [ba_beq, decide_eq_false_iff_not]
      intro he
      have he2 : l.map upK = [45] := by
        have := congrArg bl he
        rwa [bl_ob] at this
      cases l with
      | nil => cases he2
      | cons c r =>
        have h45 : upK c = 45 := by
          rw [List.map_cons] at he2
          exact (List.cons.inj he2).1
        rcases s3 c (by simp) with rfl | rfl | rfl <;> exact absurd h45 (by decide)
    rw [cmdW_some ws hsh, s2, Option.bind_some, hne]
    simp only [and_self, and_true, true_and, decide_true, decide_false, if_true, if_false, mid_get, mid_set, mid_getn, mid_setn, bt_mid, Option.bind_some, Bool.not_true, Bool.not_false, Bool.false_eq_true, Bool.true_eq_false, beq_self_eq_true, bne_self_eq_false, Int.toNat_natCast, ob_size, List.length_map, w]
    by_cases hlen : ws.length = l.length
    · have e1 : (((w0 :: ws).length : Int) != (l.length : Int) + 1) = false := by simp [hlen]
      rw [e1, if_neg (by simp), if_pos hlen]
      have := Qdd w0 l [] ws [] [] NN rfl hlen (by simp; omega) (by simp) s3 (fun x hx => by have := hs x (by simp [hx]); omega) (NN_lt (by omega))
      exact this
    · have e1 : (((w0 :: ws).length : Int) != (l.length : Int) + 1) = true := by
        have : ¬ ((ws.length : Int) + 1 = (l.length : Int) + 1) := by omega
        simpa using this
      rw [e1, if_pos rfl, if_neg hlen]
      rfl
theorem exec_all {d : Dsk} (hd : deskB d = true) {line w0 : ByteArray} {ws t : List ByteArray} {n : List Int} (hz : ∀ w ∈ ws, w.size ≤ 1000000) (hc : cmdW (w0 :: ws) = some (t, n)) (hp : Qq.f line = some (w0 :: ws, (n, true))) : Exe d line (w0, (t, n)) := by
  rcases shape_cases w0 with (rfl | rfl | rfl | rfl | rfl | rfl | rfl | rfl | rfl | rfl | rfl | rfl) | ⟨h1, _⟩
  case inr => rw [cmdW_none ws h1] at hc; cases hc
  · -- people
    have hs : shpL wPeople = some [116, 105, 106] := by decide +kernel
    rw [cmdW_some ws hs] at hc
    match ws, hz, hp, hc with
    | [w1, w2, w3], hz, hp, hc =>
      simp only [List.length_cons, List.length_nil, if_true, prs] at hc
      cases n0 : numI w2 with
      | none => simp [n0] at hc
      | some a =>
        cases n1 : numJ w3 with
        | none => simp [n0, n1] at hc
        | some b =>
          simp [n0, n1] at hc
          obtain ⟨rfl, rfl⟩ := hc
          exact ex_people hd (hz w1 (by simp)) hp
    | [], _, _, hc => simp at hc
    | [_], _, _, hc => simp at hc
    | [_, _], _, _, hc => simp at hc
    | _ :: _ :: _ :: _ :: _, _, _, hc => simp at hc
  · -- clear
    have hs : shpL wClear = some [116, 105] := by decide +kernel
    rw [cmdW_some ws hs] at hc
    match ws, hz, hp, hc with
    | [w1, w2], hz, hp, hc =>
      simp only [List.length_cons, List.length_nil, if_true, prs] at hc
      cases n0 : numI w2 with
      | none => simp [n0] at hc
      | some a =>
        simp [n0] at hc
        obtain ⟨rfl, rfl⟩ := hc
        exact ex_clear hd (hz w1 (by simp)) hp
    | [], _, _, hc => simp at hc
    | [_], _, _, hc => simp at hc
    | _ :: _ :: _ :: _, _, _, hc => simp at hc
  · -- signal
    have hs : shpL wSignal = some [116, 105] := by decide +kernel
    rw [cmdW_some ws hs] at hc
    match ws, hz, hp, hc with
    | [w1, w2], hz, hp, hc =>
      simp only [List.length_cons, List.length_nil, if_true, prs] at hc
      cases n0 : numI w2 with
      | none => simp [n0] at hc
      | some a =>
        simp [n0] at hc
        obtain ⟨rfl, rfl⟩ := hc
        exact ex_signal hd hp
    | [], _, _, hc => simp at hc
    | [_], _, _, hc => simp at hc
    | _ :: _ :: _ :: _, _, _, hc => simp at hc
  · -- state
    have hs : shpL wState = some [105] := by decide +kernel
    rw [cmdW_some ws hs] at hc
    match ws, hz, hp, hc with
    | [w1], hz, hp, hc =>
      simp only [List.length_cons, List.length_nil, if_true, prs] at hc
      cases n0 : numI w1 with
      | none => simp [n0] at hc
      | some a =>
        simp [n0] at hc
        obtain ⟨rfl, rfl⟩ := hc
        exact ex_state hd hp
    | [], _, _, hc => simp at hc
    | _ :: _ :: _, _, _, hc => simp at hc
  · -- fire
    have hs : shpL wFire = some [105] := by decide +kernel
    rw [cmdW_some ws hs] at hc
    match ws, hz, hp, hc with
    | [w1], hz, hp, hc =>
      simp only [List.length_cons, List.length_nil, if_true, prs] at hc
      cases n0 : numI w1 with
      | none => simp [n0] at hc
      | some a =>
        simp [n0] at hc
        obtain ⟨rfl, rfl⟩ := hc
        exact ex_fire hd hp
    | [], _, _, hc => simp at hc
    | _ :: _ :: _, _, _, hc => simp at hc
  · -- settle
    have hs : shpL wSettle = some [105] := by decide +kernel
    rw [cmdW_some ws hs] at hc
    match ws, hz, hp, hc with
    | [w1], hz, hp, hc =>
      simp only [List.length_cons, List.length_nil, if_true, prs] at hc
      cases n0 : numI w1 with
      | none => simp [n0] at hc
      | some a =>
        simp [n0] at hc
        obtain ⟨rfl, rfl⟩ := hc
        exact ex_settle hd hp
    | [], _, _, hc => simp at hc
    | _ :: _ :: _, _, _, hc => simp at hc
  · -- top
    have hs : shpL wTop = some [105] := by decide +kernel
    rw [cmdW_some ws hs] at hc
    match ws, hz, hp, hc with
    | [w1], hz, hp, hc =>
      simp only [List.length_cons, List.length_nil, if_true, prs] at hc
      cases n0 : numI w1 with
      | none => simp [n0] at hc
      | some a =>
        simp [n0] at hc
        obtain ⟨rfl, rfl⟩ := hc
        exact ex_top hd hp
    | [], _, _, hc => simp at hc
    | _ :: _ :: _, _, _, hc => simp at hc
  · -- time
    have hs : shpL wTime = some [105] := by decide +kernel
    rw [cmdW_some ws hs] at hc
    match ws, hz, hp, hc with
    | [w1], hz, hp, hc =>
      simp only [List.length_cons, List.length_nil, if_true, prs] at hc
      cases n0 : numI w1 with
      | none => simp [n0] at hc
      | some a =>
        simp [n0] at hc
        obtain ⟨rfl, rfl⟩ := hc
        exact ex_time hd hp
    | [], _, _, hc => simp at hc
    | _ :: _ :: _, _, _, hc => simp at hc
  · -- book
    have hs : shpL wBook = some [116, 116, 105] := by decide +kernel
    rw [cmdW_some ws hs] at hc
    match ws, hz, hp, hc with
    | [w1, w2, w3], hz, hp, hc =>
      simp only [List.length_cons, List.length_nil, if_true, prs] at hc
      cases n0 : numI w3 with
      | none => simp [n0] at hc
      | some a =>
        simp [n0] at hc
        obtain ⟨rfl, rfl⟩ := hc
        exact ex_book hd (hz w2 (by simp)) (by have := numI_bd n0; omega) hp
    | [], _, _, hc => simp at hc
    | [_], _, _, hc => simp at hc
    | [_, _], _, _, hc => simp at hc
    | _ :: _ :: _ :: _ :: _, _, _, hc => simp at hc
  · -- left
    have hs : shpL wLeft = some [116] := by decide +kernel
    rw [cmdW_some ws hs] at hc
    match ws, hz, hp, hc with
    | [w1], hz, hp, hc =>
      simp only [List.length_cons, List.length_nil, if_true, prs] at hc
      simp [] at hc
      obtain ⟨rfl, rfl⟩ := hc
      exact ex_left hd (hz w1 (by simp)) hp
    | [], _, _, hc => simp at hc
    | _ :: _ :: _, _, _, hc => simp at hc
  · -- open
    have hs : shpL wOpen = some [] := by decide +kernel
    rw [cmdW_some ws hs] at hc
    match ws, hz, hp, hc with
    | [], hz, hp, hc =>
      simp only [List.length_cons, List.length_nil, if_true, prs] at hc
      simp at hc
      obtain ⟨rfl, rfl⟩ := hc
      exact ex_open hd hp
    | _ :: _, _, _, hc => simp at hc
  · -- need
    have hs : shpL wNeed = some [105, 105] := by decide +kernel
    rw [cmdW_some ws hs] at hc
    match ws, hz, hp, hc with
    | [w1, w2], hz, hp, hc =>
      simp only [List.length_cons, List.length_nil, if_true, prs] at hc
      cases n0 : numI w1 with
      | none => simp [n0] at hc
      | some a =>
        cases n1 : numI w2 with
        | none => simp [n0, n1] at hc
        | some b =>
          simp [n0, n1] at hc
          obtain ⟨rfl, rfl⟩ := hc
          exact ex_need hd hp
    | [], _, _, hc => simp at hc
    | [_], _, _, hc => simp at hc
    | _ :: _ :: _ :: _, _, _, hc => simp at hc
end Go.Pl

namespace Go.Pl
open Go.Ev
set_option linter.unusedVariables false
set_option linter.unusedSimpArgs false
noncomputable def lnR (d : Dsk) (line : ByteArray) : Dsk × ByteArray := (QC.f d line).getD (d, ByteArray.empty)
theorem line_ok {d : Dsk} (hd : deskB d = true) {line : ByteArray} (h : line.size ≤ 1000000) :
    QC.f d line = some (lnR d line) ∧ deskB (lnR d line).1 = true ∧ (lnR d line).2.size ≤ 10000 ∧
    ((cmdW (spW line) = none ∧ Qu.f line = some ((ByteArray.empty, ([], [])), false) ∧ lnR d line = (d, errT 6)) ∨
     (∃ w0 t n d' o e, Qu.f line = some ((w0, (t, n)), true) ∧ Qd.f d (w0, (t, n)) = some (d', o, e) ∧ (0 ≤ e ∧ e ≤ 20) ∧ lnR d line = finR d d' o e)) := by
  obtain ⟨w0, ws, hw⟩ := spW_cons line
  have hs := spW_size line
  rw [hw] at hs
  have p1 := Qb1 h hw
  have p2 := Qcf h hw
  cases hc : cmdW (w0 :: ws) with
  | none =>
    rw [hc] at p1 p2
    have e1 : QC.f d line = some (d, errT 6) := by
      unfold QC.f QC.fn QC.top
      refine bind_eq p2 ?_
      dsimp only [prsOut]
      rw [if_pos (show (!false) = true from rfl), (dec_both (n := 6) (by omega) (by omega)).2.1, Option.bind_some, if_pos (err_fit (e := 6) (by omega))]; rfl
    have e2 : lnR d line = (d, errT 6) := by unfold lnR; rw [e1]; rfl
    rw [e2]
    have := errT_size (e := 6) (by omega)
    exact ⟨e1, hd, by simp only; omega, .inl ⟨by rw [hw]; exact hc, p1, rfl⟩⟩
  | some y =>
    obtain ⟨t, n⟩ := y
    rw [hc] at p1 p2
    simp only [cmdOut, prsOut, List.nil_append] at p1 p2
    obtain ⟨d', o, e, x1, x2, x3, x4, x5⟩ := exec_all hd (fun w hw => by have := hs w (by simp [hw]); omega) hc p2
    have e2 : lnR d line = finR d d' o e := by unfold lnR; rw [x2]; rfl
    rw [e2]
    have he := errT_size x4
    refine ⟨x2, ?_, ?_, .inr ⟨w0, t, n, d', o, e, p1, x1, x4, rfl⟩⟩
    · unfold finR
      split
      · rename_i h0; exact x3 h0
      · exact hd
    · unfold finR
      split
      · exact x5
      · simp only; omega
noncomputable def runF (st : List ByteArray × Dsk) (line : ByteArray) : List ByteArray × Dsk := (st.1 ++ [(lnR st.2 line).2], (lnR st.2 line).1)
noncomputable def runL (ls : List ByteArray) : List ByteArray × Dsk := ls.foldl runF ([], ([], ([], [])))
structure RI (p : List ByteArray) (st : List ByteArray × Dsk) : Prop where
  ok : deskB st.2 = true
  len : st.1.length = p.length
  sz : ∀ o ∈ st.1, o.size ≤ 10000
theorem ri_nil : RI [] ([], ([], ([], []))) := ⟨rfl, rfl, by simp⟩
theorem ri_step {p : List ByteArray} {st : List ByteArray × Dsk} {line : ByteArray} (h : RI p st) (hs : line.size ≤ 1000000) : RI (p ++ [line]) (runF st line) := by
  obtain ⟨a, b, c, _⟩ := line_ok h.ok hs
  refine ⟨b, ?_, fun o ho => ?_⟩
  · have := h.len
    unfold runF
    simp only [List.length_append, List.length_singleton]; omega
  · unfold runF at ho
    rcases List.mem_append.1 ho with ho | ho
    · exact h.sz o ho
    · rw [List.mem_singleton.1 ho]; exact c
theorem room16s {n : Nat} (h : n ≤ 1000000) (st : List ByteArray) (x : ByteArray) (hl : st.length = n) : st.length + [x].length < room 16 := by rw [room16]; simp; omega
theorem Qcp (ls : List ByteArray) (hl : ls.length ≤ 1000) (hs : ∀ l ∈ ls, l.size ≤ 1000000) : RI ls (runL ls) ∧ QO.l11 NN NN ls ls.length 0 [] ([], ([], [])) [] [] [] = some ((runL ls).1, ((runL ls).2, 0)) := by
  have := (fold_fix (E := fun l : ByteArray => l.size ≤ 1000000) RI (fun _ => runF) (fun st => some (st.1, (st.2, (0 : Int)))) (fun k i st => QO.l11 NN k ls ls.length i st.1 st.2 [] [] []) ls ?_ ?_ ([], ([], ([], []))) hs ri_nil (by omega) NN (NN_lt (by omega)))
  · rw [foldi_foldl] at this
    exact this
  · intro k st _
    simp only [QO.l11, QO.g11, Int.lt_irrefl, and_self, and_true, true_and, decide_true, decide_false, if_true, if_false, mid_get, mid_set, mid_getn, mid_setn, bt_mid, Option.bind_some, Bool.not_true, Bool.not_false, Bool.false_eq_true, Bool.true_eq_false, beq_self_eq_true, bne_self_eq_false, Int.toNat_natCast]
  · intro k p line r st hx hln hI c0 c1 c2 cw g
    have hpl : p.length ≤ 1000 := by rw [hx] at hl; simp at hl; omega
    refine ⟨ri_step hI hln, ?_⟩
    obtain ⟨_, _, _, q⟩ := line_ok hI.ok hln
    have r16 := fun x => room16s (n := p.length) (by omega) st.1 x hI.len
    simp only [QO.l11, QO.g11, c0, c1, cw, g, and_self, and_true, true_and, decide_true, decide_false, if_true, if_false, mid_get, mid_set, mid_getn, mid_setn, bt_mid, Option.bind_some, Bool.not_true, Bool.not_false, Bool.false_eq_true, Bool.true_eq_false, beq_self_eq_true, bne_self_eq_false, Int.toNat_natCast]
    unfold runF
    rcases q with ⟨_, q1, q2⟩ | ⟨w0, t, n, d', o, e, q1, q2, q3, q4⟩
    · rw [q1, q2]
      simp only [and_self, and_true, true_and, decide_true, decide_false, if_true, if_false, mid_get, mid_set, mid_getn, mid_setn, bt_mid, Option.bind_some, Bool.not_true, Bool.not_false, Bool.false_eq_true, Bool.true_eq_false, beq_self_eq_true, bne_self_eq_false, Int.toNat_natCast]
      rw [(dec_both (n := 6) (by omega) (by omega)).1, Option.bind_some, if_pos (err_fit (e := 6) (by omega)), if_pos (r16 _)]
      rfl
    · rw [q1, q4]
      simp only [and_self, and_true, true_and, decide_true, decide_false, if_true, if_false, mid_get, mid_set, mid_getn, mid_setn, bt_mid, Option.bind_some, Bool.not_true, Bool.not_false, Bool.false_eq_true, Bool.true_eq_false, beq_self_eq_true, bne_self_eq_false, Int.toNat_natCast]
      rw [q2, Option.bind_some]
      unfold finR
      by_cases he : e = 0
      · subst he
        have e0 : ((0 : Int) != 0) = false := rfl
        simp only [e0, and_self, and_true, true_and, decide_true, decide_false, if_true, if_false, mid_get, mid_set, mid_getn, mid_setn, bt_mid, Option.bind_some, Bool.not_true, Bool.not_false, Bool.false_eq_true, Bool.true_eq_false, beq_self_eq_true, bne_self_eq_false, Int.toNat_natCast]
        rw [if_pos (r16 _)]
      · have e0 : (e != 0) = true := by simpa using he
        simp only [e0, he, and_self, and_true, true_and, decide_true, decide_false, if_true, if_false, mid_get, mid_set, mid_getn, mid_setn, bt_mid, Option.bind_some, Bool.not_true, Bool.not_false, Bool.false_eq_true, Bool.true_eq_false, beq_self_eq_true, bne_self_eq_false, Int.toNat_natCast]
        rw [(dec_both (n := e) (by omega) (by omega)).1, Option.bind_some, if_pos (err_fit q3), if_pos (r16 _)]
        rfl
theorem Qdi (ls : List ByteArray) (hl : ls.length ≤ 1000) (hs : ∀ l ∈ ls, l.size ≤ 1000000) : QI.f ls = some ((runL ls).2, (runL ls).1) := by
  have := (fold_fix (E := fun l : ByteArray => l.size ≤ 1000000) RI (fun _ => runF) (fun st => some (st.2, st.1)) (fun k i st => QI.l4 NN k ls i st.2 st.1 [] [] []) ls ?_ ?_ ([], ([], ([], []))) hs ri_nil (by omega) NN (NN_lt (by omega))).2
  · rw [foldi_foldl] at this
    exact this
  · intro k st _
    simp only [QI.l4, QI.g4, Int.lt_irrefl, and_self, and_true, true_and, decide_true, decide_false, if_true, if_false, mid_get, mid_set, mid_getn, mid_setn, bt_mid, Option.bind_some, Bool.not_true, Bool.not_false, Bool.false_eq_true, Bool.true_eq_false, beq_self_eq_true, bne_self_eq_false, Int.toNat_natCast]
  · intro k p line r st hx hln hI c0 c1 c2 cw g
    have hpl : p.length ≤ 1000 := by rw [hx] at hl; simp at hl; omega
    refine ⟨ri_step hI hln, ?_⟩
    obtain ⟨q, _, _, _⟩ := line_ok hI.ok hln
    have r16 := fun x => room16s (n := p.length) (by omega) st.1 x hI.len
    simp only [QI.l4, QI.g4, c0, c1, cw, g, and_self, and_true, true_and, decide_true, decide_false, if_true, if_false, mid_get, mid_set, mid_getn, mid_setn, bt_mid, Option.bind_some, Bool.not_true, Bool.not_false, Bool.false_eq_true, Bool.true_eq_false, beq_self_eq_true, bne_self_eq_false, Int.toNat_natCast]
    rw [q, Option.bind_some, if_pos (r16 _)]
    rfl
def lnsT (text : ByteArray) : List ByteArray :=
  if ((splitL 10 (bl text)).map ob).getD (((splitL 10 (bl text)).map ob).length - 1) ByteArray.empty = (⟨#[]⟩ : ByteArray) then ((splitL 10 (bl text)).map ob).take (((splitL 10 (bl text)).map ob).length - 1) else (splitL 10 (bl text)).map ob
theorem lnsT_size (text : ByteArray) : ∀ l ∈ lnsT text, l.size ≤ text.size := by
  intro l hl
  have : l ∈ (splitL 10 (bl text)).map ob := by
    unfold lnsT at hl
    split at hl
    · exact List.mem_of_mem_take hl
    · exact hl
  obtain ⟨x, hx, rfl⟩ := List.mem_map.1 this
  rw [ob_size, ← bl_length]
  exact splitL_size 10 (bl text) x hx
def fitT (text : ByteArray) : Bool := decide (text.size ≤ 1500) && decide ((lnsT text).length ≤ 40)
noncomputable def conR (text : ByteArray) : (List ByteArray × Dsk) × Int := if fitT text = true then (runL (lnsT text), 0) else (([], ([], ([], []))), 3)
theorem Qcg (text : ByteArray) (h : text.size ≤ 1000000) : Qaz.f text = some (lnsT text) := by
  unfold Qaz.f Qaz.fn Qaz.top lnsT
  have e := Qcc text 10 h
  rw [show (((10 : UInt8).toNat : Int)) = 10 from rfl] at e
  rw [e, Option.bind_some]
  have hn : (splitL 10 (bl text)).map ob ≠ [] := by
    intro q
    exact splitL_ne 10 (bl text) (List.map_eq_nil_iff.1 q)
  have hle : ((splitL 10 (bl text)).map ob).length ≤ 2000000 := by
    have := splitL_length 10 (bl text)
    rw [bl_length] at this
    rw [List.length_map]; omega
  have hp := List.length_pos_iff.2 hn
  generalize (splitL 10 (bl text)).map ob = r at *
  have w := w64 (n := (r.length : Int) - 1) (by omega) (by omega)
  have e1 : ((r.length : Int) - 1).toNat = r.length - 1 := by omega
  rw [w, e1, ba_beq, if_pos ⟨by omega, by omega⟩]
  by_cases hq : r.getD (r.length - 1) ByteArray.empty = (⟨#[]⟩ : ByteArray)
  · rw [if_pos (decide_eq_true hq), if_pos hq, if_pos ⟨by omega, by omega⟩]
  · rw [if_neg (by simpa using hq), if_neg hq]
theorem QcV (text : ByteArray) (h : text.size ≤ 1000000) : QO.f text = some ((conR text).1.1, ((conR text).1.2, (conR text).2)) := by
  unfold QO.f QO.fn QO.top conR fitT
  by_cases h15 : (1500 : Int) < (text.size : Int)
  · have : ¬ text.size ≤ 1500 := by omega
    simp [h15, this]
  have h15' : text.size ≤ 1500 := by omega
  have hsz := lnsT_size text
  have hrun := fun hl => Qcp (lnsT text) hl (fun l hl => by have := hsz l hl; omega)
  simp only [h15, h15', and_self, and_true, true_and, decide_true, decide_false, if_true, if_false, mid_get, mid_set, mid_getn, mid_setn, bt_mid, Option.bind_some, Bool.not_true, Bool.not_false, Bool.false_eq_true, Bool.true_eq_false, beq_self_eq_true, bne_self_eq_false, Int.toNat_natCast, Bool.true_and]
  have e := Qch text 10 h
  rw [show (((10 : UInt8).toNat : Int)) = 10 from rfl] at e
  rw [e, Option.bind_some]
  have hn : (splitL 10 (bl text)).map ob ≠ [] := by
    intro q
    exact splitL_ne 10 (bl text) (List.map_eq_nil_iff.1 q)
  have hle : ((splitL 10 (bl text)).map ob).length ≤ 2000000 := by
    have := splitL_length 10 (bl text)
    rw [bl_length] at this
    rw [List.length_map]; omega
  have hp := List.length_pos_iff.2 hn
  unfold lnsT at hrun ⊢
  generalize (splitL 10 (bl text)).map ob = r at *
  have w := w64 (n := (r.length : Int) - 1) (by omega) (by omega)
  have e1 : ((r.length : Int) - 1).toNat = r.length - 1 := by omega
  rw [w, e1, ba_beq, if_pos ⟨by omega, by omega⟩]
  by_cases hq : r.getD (r.length - 1) ByteArray.empty = (⟨#[]⟩ : ByteArray)
  · rw [if_pos hq] at hrun ⊢
    rw [if_pos (decide_eq_true hq), if_pos ⟨by omega, by omega⟩]
    by_cases h40 : (40 : Int) < ((r.take (r.length - 1)).length : Int)
    · have h40' : ¬ (r.take (r.length - 1)).length ≤ 40 := by omega
      rw [if_pos (decide_eq_true h40), if_neg (by simpa using h40')]
    · have h40' : (r.take (r.length - 1)).length ≤ 40 := by omega
      rw [if_neg (by simpa using h40), if_pos (decide_eq_true h40')]
      exact (hrun (by omega)).2
  · rw [if_neg hq] at hrun ⊢
    rw [if_neg (by simpa using hq)]
    by_cases h40 : (40 : Int) < (r.length : Int)
    · have h40' : ¬ r.length ≤ 40 := by omega
      rw [if_pos (decide_eq_true h40), if_neg (by simpa using h40')]
    · have h40' : r.length ≤ 40 := by omega
      rw [if_neg (by simpa using h40), if_pos (decide_eq_true h40')]
      exact (hrun (by omega)).2
theorem Qc5 (text : ByteArray) (h : text.size ≤ 1000000) : QaX.f text = some (fitT text) := by
  unfold QaX.f QaX.fn QaX.top fitT
  rw [Qcg text h]
  have e1 : decide ((text.size : Int) ≤ 1500) = decide (text.size ≤ 1500) := by congr 1; exact propext (by omega)
  have e2 : decide (((lnsT text).length : Int) ≤ 40) = decide ((lnsT text).length ≤ 40) := by congr 1; exact propext (by omega)
  rw [e1]
  simp only [Option.bind_some, e2]
  cases decide (text.size ≤ 1500) <;> rfl
theorem con_ok (text : ByteArray) (h : text.size ≤ 1000000) : Lm Sm (conR text).1.1 ∧ deskB (conR text).1.2 = true := by
  unfold conR
  by_cases hf : fitT text = true
  · rw [if_pos hf]
    unfold fitT at hf
    simp only [Bool.and_eq_true, decide_eq_true_eq] at hf
    have hsz := lnsT_size text
    obtain ⟨a, _⟩ := Qcp (lnsT text) (by omega) (fun l hl => by have := hsz l hl; omega)
    refine ⟨⟨by rw [a.len]; omega, fun o ho => Nat.le_trans (a.sz o ho) (by omega)⟩, a.ok⟩
  · rw [if_neg hf]
    exact ⟨⟨by simp, by simp⟩, rfl⟩
theorem RunConsole_both (text : ByteArray) (h : text.size ≤ 1000000) : Qas.f text = some ((conR text).1.1, (conR text).2) ∧ Qar.f text = some ((conR text).1.1, (conR text).2) := by
  refine ⟨?_, ?_⟩
  · unfold Qas.f Qas.fn Qas.top
    rw [Qc5 text h, Option.bind_some]
    unfold conR
    by_cases hf : fitT text = true
    · have hf' := hf
      unfold fitT at hf'
      simp only [Bool.and_eq_true, decide_eq_true_eq] at hf'
      have hsz := lnsT_size text
      rw [if_pos hf, hf, if_neg (by simp), Qcg text h, Option.bind_some, Qdi (lnsT text) (by omega) (fun l hl => by have := hsz l hl; omega)]
      rfl
    · have hf' : fitT text = false := by simpa using hf
      rw [if_neg hf, hf', if_pos (by simp)]
  · unfold Qar.f Qar.fn Qar.top
    rw [QcV text h]; rfl
end Go.Pl

namespace Go.Pl
open Go.Ev
set_option linter.unusedVariables false
set_option linter.unusedSimpArgs false
theorem likeTexts_same (a : List ByteArray) (hl : a.length ≤ 140737488355328) : Qw.f a a = some true := by
  unfold Qw.f Qw.fn Qw.top
  simp only [bne_self_eq_false, Bool.false_eq_true, if_false]
  refine eqS_loop (E := fun _ => True) (fun k a b i => Qw.l4 NN k a b i) a (fun _ _ => trivial) ?_ ?_ NN (NN_lt (by omega))
  · intro k p x r hx ha
    subst ha
    have hm := mid_len p r x
    have c1 : (p.length : Int) < ((p ++ x :: r).length : Int) := by omega
    have c0 : (0 : Int) ≤ (p.length : Int) := by omega
    have cw := w64 (n := (p.length : Int) + 1) (by omega) (by omega)
    simp only [Qw.l4, Qw.g4, c0, c1, cw, and_self, and_true, true_and, decide_true, decide_false, if_true, if_false, mid_get, mid_set, mid_getn, mid_setn, bt_mid, Option.bind_some, Bool.not_true, Bool.not_false, Bool.false_eq_true, Bool.true_eq_false, beq_self_eq_true, bne_self_eq_false, Int.toNat_natCast]
  · intro k
    simp [Qw.l4, Qw.g4]
theorem IsConsoleLine_both (line : ByteArray) (h : line.size ≤ 1000000) : Qam.f line = some (cmdW (spW line)).isSome ∧ Qan.f line = some (cmdW (spW line)).isSome := by
  obtain ⟨w0, ws, hw⟩ := spW_cons line
  unfold Qam.f Qam.fn Qam.top Qan.f Qan.fn Qan.top
  rw [Qb1 h hw, Qcf h hw, hw]
  cases cmdW (w0 :: ws) <;> exact ⟨rfl, rfl⟩
theorem glue_app (p : List UInt8) {x y : List (List UInt8)} (h : x ≠ []) : glue p (x ++ y) = glue p x ++ y := by
  cases x with
  | nil => exact absurd rfl h
  | cons a r => rfl
theorem splitL_at (b : UInt8) (r : List UInt8) : ∀ p : List UInt8, splitL b (p ++ b :: r) = splitL b p ++ splitL b r := by
  intro p
  induction p with
  | nil => simp [splitL]
  | cons c p ih =>
    simp only [List.cons_append, splitL]
    by_cases h : c = b
    · rw [if_pos h, if_pos h, ih]; rfl
    · rw [if_neg h, if_neg h, ih, glue_app _ (splitL_ne b p)]
def noise : ByteArray := ⟨#[110, 111, 105, 115, 101, 10]⟩
def noise1 : ByteArray := ⟨#[110, 111, 105, 115, 101]⟩
theorem noise_split : splitL 10 (bl noise) = [[110, 111, 105, 115, 101], []] := by decide
theorem lines_end (t : ByteArray) (h : bl t = [] ∨ ∃ p, bl t = p ++ 10 :: []) : ∃ X : List (List UInt8), lnsT t = X.map ob ∧ lnsT (t ++ noise) = X.map ob ++ [noise1] := by
  have hlast : ∀ X : List (List UInt8), ((X ++ [[]]).map ob).getD (((X ++ [[]]).map ob).length - 1) ByteArray.empty = (⟨#[]⟩ : ByteArray) ∧ ((X ++ [[]]).map ob).take (((X ++ [[]]).map ob).length - 1) = X.map ob := by
    intro X
    have e : ((X ++ [[]]).map ob).length - 1 = (X.map ob).length := by simp
    rw [e, List.map_append]
    refine ⟨?_, ?_⟩
    · have := mid_getn (X.map ob) [] (ob []) ByteArray.empty
      exact this
    · exact List.take_left
  have hT : ∀ (s : ByteArray) (X : List (List UInt8)), splitL 10 (bl s) = X ++ [[]] → lnsT s = X.map ob := by
    intro s X hs
    unfold lnsT
    rw [hs, if_pos (hlast X).1, (hlast X).2]
  rcases h with h | ⟨p, h⟩
  · refine ⟨[], hT t [] (by rw [h]; rfl), ?_⟩
    have := hT (t ++ noise) [[110, 111, 105, 115, 101]] (by rw [bl_append, h, List.nil_append, noise_split]; rfl)
    exact this
  · refine ⟨splitL 10 p, hT t _ (by rw [h, splitL_at]; rfl), ?_⟩
    have := hT (t ++ noise) (splitL 10 p ++ [[110, 111, 105, 115, 101]]) (by
      rw [bl_append, h, List.append_assoc, List.cons_append, List.nil_append, splitL_at, noise_split]
      simp)
    rw [this, List.map_append]; rfl
theorem noise_none : cmdW (spW noise1) = none := by
  have h : shpL noise1 = none := by decide +kernel
  have e : spW noise1 = [noise1] := rfl
  rw [e]
  exact cmdW_none [] h
theorem noise_line {d : Dsk} (hd : deskB d = true) : lnR d noise1 = (d, errT 6) := by
  have hs : noise1.size ≤ 1000000 := by decide
  obtain ⟨_, _, _, q⟩ := line_ok hd hs
  rcases q with ⟨_, _, q⟩ | ⟨w0, t, n, d', o, e, q1, _⟩
  · exact q
  · exfalso
    obtain ⟨v0, ws, hw⟩ := spW_cons noise1
    have := Qb1 hs hw
    rw [← hw, noise_none, q1] at this
    have := congrArg (fun x => x.map (·.2)) this
    simp [cmdOut] at this
theorem err6 : (errT 6).toList = (⟨#[101, 114, 114, 111, 114, 32, 54]⟩ : ByteArray).toList := by
  have : errT 6 = (⟨#[101, 114, 114, 111, 114, 32, 54]⟩ : ByteArray) := by
    unfold errT wErr
    rw [show decB 6 = ob [54] from by rw [show (6 : Int) = ((6 : Nat) : Int) from rfl, decB_nat, digs_small (by omega)]; rfl]
    rfl
  rw [this]
theorem con_fit {t : ByteArray} (h : (conR t).2 = 0) : fitT t = true ∧ conR t = (runL (lnsT t), 0) := by
  unfold conR at h ⊢
  by_cases hf : fitT t = true
  · rw [if_pos hf]; exact ⟨hf, rfl⟩
  · rw [if_neg hf] at h; simp at h
theorem con_noise {t : ByteArray} (ht : t.size ≤ 900000) (h0 : (conR t).2 = 0) (h : bl t = [] ∨ ∃ p, bl t = p ++ 10 :: []) : (conR (t ++ noise)).2 = 3 ∨ ((conR (t ++ noise)).2 = 0 ∧ (conR (t ++ noise)).1.1 = (conR t).1.1 ++ [errT 6]) := by
  obtain ⟨X, l1, l2⟩ := lines_end t h
  obtain ⟨hf, hc⟩ := con_fit h0
  unfold conR
  by_cases hf2 : fitT (t ++ noise) = true
  · right
    rw [if_pos hf2, if_pos hf, l1, l2]
    have hf' := hf
    unfold fitT at hf'
    simp only [Bool.and_eq_true, decide_eq_true_eq] at hf'
    have hsz := lnsT_size t
    obtain ⟨a, _⟩ := Qcp (lnsT t) (by omega) (fun l hl => by have := hsz l hl; omega)
    rw [l1] at a
    refine ⟨rfl, ?_⟩
    unfold runL
    rw [List.foldl_append]
    have e := noise_line a.ok
    unfold runL at e
    simp only [List.foldl_cons, List.foldl_nil]
    generalize List.foldl runF ([], ([], ([], []))) (List.map ob X) = st at e ⊢
    unfold runF
    rw [e]
  · left
    rw [if_neg hf2]
end Go.Pl

namespace Go.Pl
open Go.Ev
set_option linter.unusedVariables false
set_option linter.unusedSimpArgs false
theorem damage_ok {s : List Int × Int × Int} (hs : SrcOk s) (t : ByteArray) (ht : t.size ≤ 1000000) : ∃ u s', Qae.f s t = some (u, s') ∧ SrcOk s' ∧ u.size ≤ t.size + 1 := by
  unfold Qae.f Qae.fn Qae.top
  rw [w64 (n := (t.size : Int) + 1) (by omega) (by omega)]
  obtain ⟨k, s1, e1, o1, k0, k1⟩ := next_ok hs ((t.size : Int) + 1) (by omega)
  obtain ⟨x, s2, e2, o2, x0, x1⟩ := next_ok o1 8 (by omega)
  obtain ⟨y, s3, e3, o3, y0, y1⟩ := next_ok o2 8 (by omega)
  have hk : k ≤ (t.size : Int) := by omega
  have z1 : ∀ a b : Nat, (t.extract a b).size ≤ b - a := fun a b => by rw [ByteArray.size_extract]; omega
  have za := z1 0 k.toNat
  have zb := z1 k.toNat t.size
  simp only [e1, e2, Option.bind_some, k0, hk, and_self, if_true]
  by_cases hx0 : x = 0
  · subst hx0
    simp only [beq_self_eq_true, if_true]
    exact ⟨_, _, rfl, o2, by omega⟩
  · have b0 : (x == 0) = false := by rw [beq_eq_false_iff_ne]; exact hx0
    simp only [b0, Bool.false_eq_true, if_false]
    by_cases hx1 : x = 1
    · subst hx1
      simp only [beq_self_eq_true, if_true, e3, Option.bind_some]
      have hy : y < 8 := by omega
      have hlit : ∀ i : Nat, (([(⟨#[48]⟩ : ByteArray), (⟨#[35]⟩ : ByteArray), (⟨#[46]⟩ : ByteArray), (⟨#[47]⟩ : ByteArray), (⟨#[32]⟩ : ByteArray), (⟨#[97]⟩ : ByteArray), (⟨#[45]⟩ : ByteArray), (⟨#[10]⟩ : ByteArray)]).getD i ByteArray.empty).size ≤ 1 := by
        intro i
        match i with
        | 0 | 1 | 2 | 3 | 4 | 5 | 6 | 7 => exact Nat.le_refl 1
        | n + 8 => exact Nat.zero_le 1
      have hl := hlit y.toNat
      rw [if_pos ⟨y0, by simp only [List.length_cons, List.length_nil]; omega⟩, if_pos (by omega), if_pos (by rw [ByteArray.size_append]; omega)]
      exact ⟨_, _, rfl, o3, by rw [ByteArray.size_append, ByteArray.size_append]; omega⟩
    · have b1 : (x == 1) = false := by rw [beq_eq_false_iff_ne]; exact hx1
      simp only [b1, Bool.false_eq_true, if_false]
      by_cases hx2 : x = 2
      · subst hx2
        simp only [beq_self_eq_true, if_true, decide_eq_true_eq]
        by_cases hlt : k < (t.size : Int)
        · have w1 := w64 (n := k + 1) (by omega) (by omega)
          have zc := z1 (k + 1).toNat t.size
          simp only [hlt, if_true, w1]
          rw [if_pos ⟨by omega, by omega⟩, if_pos (by omega)]
          exact ⟨_, _, rfl, o2, by rw [ByteArray.size_append]; omega⟩
        · simp only [hlt, if_false]
          exact ⟨_, _, rfl, o2, by omega⟩
      · have b2 : (x == 2) = false := by rw [beq_eq_false_iff_ne]; exact hx2
        simp only [b2, Bool.false_eq_true, if_false]
        exact ⟨_, _, rfl, o2, by omega⟩
end Go.Pl

namespace Go.Pl
open Go.Ev
set_option linter.unusedVariables false
noncomputable section
def QbC.top (p : List Int) : Option ByteArray :=
 (QU.f p).bind fun r1 =>
 (Qn.f r1).bind fun r2 =>
 some r2.1
def QbC.fn (n : Nat) (p : List Int) : Option ByteArray := QbC.top p
def QbC.f (p : List Int) : Option ByteArray := QbC.fn NN p
end
end Go.Pl

namespace Go.Pl
open Go.Ev
set_option linter.unusedVariables false
set_option linter.unusedSimpArgs false
abbrev Src := List Int × Int × Int
def DOk {α : Type} (P : α → Prop) (x : Option (α × Src)) : Prop := ∃ a s, x = some (a, s) ∧ SrcOk s ∧ P a
section
variable {α : Type} {P : α → Prop}
theorem d_some {a : α} {s : Src} (hs : SrcOk s) (h : P a) : DOk P (some (a, s)) := ⟨a, s, rfl, hs, h⟩
theorem d_next {s : Src} {n : Int} {F : Int × Src → Option (α × Src)} (hs : SrcOk s) (hn : n ≤ 1000000000000000) (h : ∀ x s', SrcOk s' → 0 ≤ x → (x < n ∨ x = 0) → DOk P (F (x, s'))) : DOk P ((Qh.f s n).bind F) := by
  obtain ⟨x, s', e, o, x0, x1⟩ := next_ok hs n hn
  rw [e]; exact h x s' o x0 x1
theorem d_pick {s : Src} {xs : List Int} {F : Int × Src → Option (α × Src)} (hs : SrcOk s) (h1 : 1 ≤ xs.length) (h2 : xs.length ≤ 1000) (h : ∀ x s', SrcOk s' → x ∈ xs → DOk P (F (x, s'))) : DOk P ((QaE.f s xs).bind F) := by
  obtain ⟨x, s', e, o, x0⟩ := pick_ok hs xs h1 h2
  rw [e]; exact h x s' o x0
theorem d_dec {n : Int} {F : ByteArray → Option (α × Src)} (h0 : 0 ≤ n) (h1 : n ≤ 1000000000000000) (h : (decB n).size ≤ 20 → DOk P (F (decB n))) : DOk P ((Qe.f n).bind F) := by
  obtain ⟨_, e, d⟩ := dec_both h0 h1
  rw [e]; exact h d
theorem d_if {c : Prop} {i : Decidable c} {A B : Option (α × Src)} (hc : c) (h : DOk P A) : DOk P (@ite _ c i A B) := by rw [if_pos hc]; exact h
theorem d_ite {c : Prop} {i : Decidable c} {A B : Option (α × Src)} (h1 : c → DOk P A) (h2 : ¬ c → DOk P B) : DOk P (@ite _ c i A B) := by
  by_cases hc : c
  · rw [if_pos hc]; exact h1 hc
  · rw [if_neg hc]; exact h2 hc
theorem d_bind {β : Type} {Q : β → Prop} {x : Option (β × Src)} {F : β × Src → Option (α × Src)} (hx : DOk Q x) (h : ∀ b s', SrcOk s' → Q b → DOk P (F (b, s'))) : DOk P (x.bind F) := by
  obtain ⟨b, s', e, o, q⟩ := hx
  rw [e]; exact h b s' o q
end
def S20 (u : ByteArray) : Prop := u.size ≤ 20
def S200 (u : ByteArray) : Prop := u.size ≤ 200
theorem getB3 {xs : List ByteArray} {i : Int} (h0 : 0 ≤ i) (h1 : i < (xs.length : Int)) : xs.getD i.toNat ByteArray.empty ∈ xs := by
  rw [List.getD_eq_getElem?_getD, List.getElem?_eq_getElem (by omega)]; exact List.getElem_mem _
theorem zone_ok {s : Src} (hs : SrcOk s) : DOk S20 (QaZ.f s) := by
  unfold QaZ.f QaZ.fn QaZ.top
  refine d_next hs (by omega) fun x s' o x0 x1 => ?_
  have hx : x < (([(⟨#[98, 97, 110, 107]⟩ : ByteArray), (⟨#[102, 105, 101, 108, 100]⟩ : ByteArray), (⟨#[114, 105, 118, 101, 114]⟩ : ByteArray)] : List ByteArray).length : Int) := by simp only [List.length_cons, List.length_nil]; omega
  refine d_if ⟨x0, hx⟩ (d_some o ?_)
  have hm := getB3 x0 hx
  revert hm
  generalize List.getD _ x.toNat ByteArray.empty = c
  intro hm
  simp only [List.mem_cons, List.not_mem_nil, or_false] at hm
  unfold S20
  rcases hm with h | h | h <;> (rw [h]; exact Nat.le_of_ble_eq_true rfl)
theorem number_ok {n : Int} (h0 : -1000000000000000 ≤ n) (h1 : n ≤ 1000000000000000) : ∃ u, QaD.f n = some u ∧ u.size ≤ 21 := by
  unfold QaD.f QaD.fn QaD.top
  by_cases h : n < 0
  · obtain ⟨_, e, d⟩ := dec_both (n := 0 - n) (by omega) (by omega)
    have w := w64 (n := 0 - n) (by omega) (by omega)
    have l1 : (⟨#[45]⟩ : ByteArray).size = 1 := by decide
    rw [if_pos (decide_eq_true h), w, e, Option.bind_some, if_pos (by omega)]
    exact ⟨_, rfl, by rw [ByteArray.size_append]; omega⟩
  · obtain ⟨_, e, d⟩ := dec_both (n := n) (by omega) (by omega)
    rw [if_neg (by simpa using h), e]
    exact ⟨_, rfl, by omega⟩
theorem words21 : ∃ ws : List ByteArray, QaI.f = some ws ∧ ws.length = 10 ∧ ∀ w ∈ ws, w.size ≤ 20 := by
  refine ⟨_, rfl, rfl, ?_⟩
  intro w hw
  simp only [List.mem_cons, List.not_mem_nil, or_false] at hw
  rcases hw with h | h | h | h | h | h | h | h | h | h <;> (rw [h]; exact Nat.le_of_ble_eq_true rfl)
theorem bnd {a b : Nat} (h : a + b ≤ 1000) : a + b ≤ 9223372036854775807 := by omega
theorem z1 : (⟨#[32]⟩ : ByteArray).size = 1 := by decide
theorem cmd16_ok {nm cnt : ByteArray} (hn : nm.size ≤ 20) (hc : cnt.size ≤ 20) (v : Int) (b : Bool) {s : Src} (hs : SrcOk s) : DOk S200 (Qc.l1000016 NN NN nm cnt v b s) := by
  rw [Qc.c1000016 nn0]
  unfold Qc.g1000016
  refine d_ite (fun _ => ?_) fun _ => ?_
  · obtain ⟨ws, e0, l0, m0⟩ := words21
    rw [e0, Option.bind_some]
    refine d_pick hs (by simp) (by simp) fun x s1 o1 hx => ?_
    have hx2 : 0 ≤ x ∧ x < (ws.length : Int) := by
      rw [l0]
      simp only [List.mem_cons, List.not_mem_nil, or_false] at hx
      omega
    refine d_if hx2 ?_
    have hw := m0 _ (getB3 hx2.1 hx2.2)
    simp only
    generalize ws.getD x.toNat ByteArray.empty = w at hw
    obtain ⟨y, s2, e2, o2, y0, y1⟩ := next_ok o1 9 (by omega)
    have w1 := w64 (n := 3 + y) (by omega) (by omega)
    obtain ⟨_, e3, d3⟩ := dec_both (n := 3 + y) (by omega) (by omega)
    have lA : (⟨#[115, 105, 103, 110, 97, 108, 32]⟩ : ByteArray).size = 7 := by decide
    generalize (⟨#[115, 105, 103, 110, 97, 108, 32]⟩ : ByteArray) = A at lA
    have lB := z1
    generalize (⟨#[32]⟩ : ByteArray) = B at lB
    have q1 : A.size + w.size ≤ 9223372036854775807 := bnd (by omega)
    have q2 : (A ++ w).size + B.size ≤ 9223372036854775807 := bnd (by rw [ByteArray.size_append]; omega)
    have q3 : ((A ++ w) ++ B).size + (decB (3 + y)).size ≤ 9223372036854775807 := bnd (by rw [ByteArray.size_append, ByteArray.size_append]; omega)
    simp only [e2, w1, e3, q1, q2, q3, if_true, Option.bind_some, agree_self]
    refine d_some o2 ?_
    unfold S200
    rw [ByteArray.size_append, ByteArray.size_append, ByteArray.size_append]; omega
  refine d_ite (fun _ => ?_) fun _ => ?_
  · obtain ⟨x, s1, e1, o1, x0, x1⟩ := next_ok hs 2 (by omega)
    obtain ⟨y, s2, e2, o2, y0, y1⟩ := next_ok o1 12 (by omega)
    obtain ⟨_, e3, d3⟩ := dec_both (n := y) (by omega) (by omega)
    have hx : 0 ≤ x ∧ x < (([(⟨#[115, 116, 97, 116, 101, 32]⟩ : ByteArray), (⟨#[102, 105, 114, 101, 32]⟩ : ByteArray)] : List ByteArray).length : Int) := ⟨x0, by simp only [List.length_cons, List.length_nil]; omega⟩
    have hw : (([(⟨#[115, 116, 97, 116, 101, 32]⟩ : ByteArray), (⟨#[102, 105, 114, 101, 32]⟩ : ByteArray)] : List ByteArray).getD x.toNat ByteArray.empty).size ≤ 20 := by
      have hm := getB3 hx.1 hx.2
      revert hm
      generalize List.getD _ x.toNat ByteArray.empty = c
      intro hm
      simp only [List.mem_cons, List.not_mem_nil, or_false] at hm
      rcases hm with h | h <;> (rw [h]; exact Nat.le_of_ble_eq_true rfl)
    have q1 : (([(⟨#[115, 116, 97, 116, 101, 32]⟩ : ByteArray), (⟨#[102, 105, 114, 101, 32]⟩ : ByteArray)] : List ByteArray).getD x.toNat ByteArray.empty).size + (decB y).size ≤ 9223372036854775807 := bnd (by omega)
    simp only [e1, e2, e3, q1, hx, and_self, if_true, Option.bind_some, agree_self]
    refine d_some o2 ?_
    unfold S200
    rw [ByteArray.size_append]; omega
  refine d_ite (fun _ => ?_) fun _ => ?_
  · have lA : (⟨#[102, 105, 114, 101, 32]⟩ : ByteArray).size = 5 := by decide
    refine d_next hs (by omega) fun x s1 o1 x0 x1 => ?_
    refine d_dec x0 (by simp only; omega) fun d => ?_
    refine d_if (bnd (by simp only at d ⊢; omega)) (d_some o1 ?_)
    unfold S200
    simp only at d ⊢
    rw [ByteArray.size_append]; omega
  refine d_ite (fun _ => ?_) fun _ => ?_
  · have lA : (⟨#[98, 111, 111, 107, 32, 105, 110, 32]⟩ : ByteArray).size = 8 := by decide
    have lB := z1
    refine d_if (bnd (by omega)) (d_if (bnd (by rw [ByteArray.size_append]; omega)) (d_if (bnd (by rw [ByteArray.size_append, ByteArray.size_append]; omega)) (d_some hs ?_)))
    unfold S200
    rw [ByteArray.size_append, ByteArray.size_append, ByteArray.size_append]; omega
  refine d_ite (fun _ => ?_) fun _ => ?_
  · have lA : (⟨#[98, 111, 111, 107, 32]⟩ : ByteArray).size = 5 := by decide
    have lB := z1
    refine d_next hs (by omega) fun x s1 o1 x0 x1 => ?_
    have hx : 0 ≤ x ∧ x < (([(⟨#[102, 105, 114, 101, 100]⟩ : ByteArray), (⟨#[114, 101, 116, 117, 114, 110, 101, 100]⟩ : ByteArray), (⟨#[100, 101, 115, 116, 114, 111, 121, 101, 100]⟩ : ByteArray)] : List ByteArray).length : Int) := ⟨x0, by simp only [List.length_cons, List.length_nil]; omega⟩
    refine d_if hx ?_
    have hw : (([(⟨#[102, 105, 114, 101, 100]⟩ : ByteArray), (⟨#[114, 101, 116, 117, 114, 110, 101, 100]⟩ : ByteArray), (⟨#[100, 101, 115, 116, 114, 111, 121, 101, 100]⟩ : ByteArray)] : List ByteArray).getD x.toNat ByteArray.empty).size ≤ 20 := by
      have hm := getB3 hx.1 hx.2
      revert hm
      generalize List.getD _ x.toNat ByteArray.empty = c
      intro hm
      simp only [List.mem_cons, List.not_mem_nil, or_false] at hm
      rcases hm with h | h | h <;> (rw [h]; exact Nat.le_of_ble_eq_true rfl)
    simp only
    generalize List.getD _ x.toNat ByteArray.empty = w at hw
    refine d_if (bnd (by omega)) (d_if (bnd (by rw [ByteArray.size_append]; omega)) (d_if (bnd (by rw [ByteArray.size_append, ByteArray.size_append]; omega)) (d_if (bnd (by rw [ByteArray.size_append, ByteArray.size_append, ByteArray.size_append]; omega)) (d_if (bnd (by rw [ByteArray.size_append, ByteArray.size_append, ByteArray.size_append, ByteArray.size_append]; omega)) (d_some o1 ?_)))))
    unfold S200
    rw [ByteArray.size_append, ByteArray.size_append, ByteArray.size_append, ByteArray.size_append, ByteArray.size_append]; omega
  refine d_ite (fun _ => ?_) fun _ => ?_
  · have lA : (⟨#[108, 101, 102, 116, 32]⟩ : ByteArray).size = 5 := by decide
    have lC : (⟨#[111, 112, 101, 110]⟩ : ByteArray).size = 4 := by decide
    refine d_if (bnd (by omega)) ?_
    refine d_next hs (by omega) fun x s1 o1 x0 x1 => ?_
    generalize (⟨#[108, 101, 102, 116, 32]⟩ : ByteArray) = A at lA
    generalize (⟨#[111, 112, 101, 110]⟩ : ByteArray) = C at lC
    have hx : 0 ≤ x ∧ x < (([A ++ nm, C] : List ByteArray).length : Int) := ⟨x0, by simp only [List.length_cons, List.length_nil]; omega⟩
    refine d_if hx (d_some o1 ?_)
    have hm := getB3 hx.1 hx.2
    simp only
    revert hm
    generalize List.getD _ x.toNat ByteArray.empty = c
    intro hm
    simp only [List.mem_cons, List.not_mem_nil, or_false] at hm
    unfold S200
    rcases hm with h | h
    · rw [h, ByteArray.size_append]; omega
    · rw [h]; omega
  refine d_ite (fun _ => ?_) fun _ => ?_
  · have lA : (⟨#[115, 101, 116, 116, 108, 101, 32]⟩ : ByteArray).size = 7 := by decide
    have lC : (⟨#[110, 101, 101, 100, 32, 49, 50, 32]⟩ : ByteArray).size = 8 := by decide
    generalize (⟨#[115, 101, 116, 116, 108, 101, 32]⟩ : ByteArray) = A at lA
    generalize (⟨#[110, 101, 101, 100, 32, 49, 50, 32]⟩ : ByteArray) = C at lC
    refine d_next hs (by omega) fun x s1 o1 x0 x1 => ?_
    refine d_dec x0 (by simp only; omega) fun d1 => ?_
    refine d_if (bnd (by simp only at d1 ⊢; omega)) ?_
    refine d_next o1 (by omega) fun y s2 o2 y0 y1 => ?_
    refine d_dec y0 (by simp only; omega) fun d2 => ?_
    refine d_if (bnd (by simp only at d2 ⊢; omega)) ?_
    refine d_next o2 (by omega) fun z s3 o3 z0 z1 => ?_
    simp only at d1 d2 ⊢
    generalize decB x = D1 at d1
    generalize decB y = D2 at d2
    have hz : 0 ≤ z ∧ z < (([A ++ D1, C ++ D2] : List ByteArray).length : Int) := ⟨z0, by simp only [List.length_cons, List.length_nil]; omega⟩
    refine d_if hz (d_some o3 ?_)
    have hm := getB3 hz.1 hz.2
    revert hm
    generalize List.getD _ z.toNat ByteArray.empty = c
    intro hm
    simp only [List.mem_cons, List.not_mem_nil, or_false] at hm
    unfold S200
    rcases hm with h | h
    · rw [h, ByteArray.size_append]; omega
    · rw [h, ByteArray.size_append]; omega
  obtain ⟨x, s1, e1, o1, x0, x1⟩ := next_ok hs 2 (by omega)
  obtain ⟨y, s2, e2, o2, y0, y1⟩ := next_ok o1 90000 (by omega)
  obtain ⟨_, e3, d3⟩ := dec_both (n := y) (by omega) (by omega)
  have hx : 0 ≤ x ∧ x < (([(⟨#[116, 111, 112, 32]⟩ : ByteArray), (⟨#[116, 105, 109, 101, 32]⟩ : ByteArray)] : List ByteArray).length : Int) := ⟨x0, by simp only [List.length_cons, List.length_nil]; omega⟩
  have hw : (([(⟨#[116, 111, 112, 32]⟩ : ByteArray), (⟨#[116, 105, 109, 101, 32]⟩ : ByteArray)] : List ByteArray).getD x.toNat ByteArray.empty).size ≤ 20 := by
    have hm := getB3 hx.1 hx.2
    revert hm
    generalize List.getD _ x.toNat ByteArray.empty = c
    intro hm
    simp only [List.mem_cons, List.not_mem_nil, or_false] at hm
    rcases hm with h | h <;> (rw [h]; exact Nat.le_of_ble_eq_true rfl)
  have q1 : (([(⟨#[116, 111, 112, 32]⟩ : ByteArray), (⟨#[116, 105, 109, 101, 32]⟩ : ByteArray)] : List ByteArray).getD x.toNat ByteArray.empty).size + (decB y).size ≤ 9223372036854775807 := bnd (by omega)
  simp only [e1, e2, e3, q1, hx, and_self, if_true, Option.bind_some, agree_self]
  refine d_some o2 ?_
  unfold S200
  rw [ByteArray.size_append]; omega
end Go.Pl

namespace Go.Pl
open Go.Ev
set_option linter.unusedVariables false
set_option linter.unusedSimpArgs false
theorem cmd7_ok {z nm cnt : ByteArray} (hz : z.size ≤ 20) (hn : nm.size ≤ 20) (hc : cnt.size ≤ 20) (v : Int) (b : Bool) {s : Src} (hs : SrcOk s) : DOk S200 (Qc.l1000007 NN NN z nm cnt v b s) := by
  rw [Qc.c1000007 nn0]
  unfold Qc.g1000007
  have lB := z1
  refine d_ite (fun _ => ?_) fun _ => ?_
  · have lA : (⟨#[112, 101, 111, 112, 108, 101, 32]⟩ : ByteArray).size = 7 := by decide
    generalize (⟨#[112, 101, 111, 112, 108, 101, 32]⟩ : ByteArray) = A at lA
    generalize (⟨#[32]⟩ : ByteArray) = B at lB
    refine d_if (bnd (by omega)) (d_if (bnd (by rw [ByteArray.size_append]; omega)) ?_)
    refine d_next hs (by omega) fun x s1 o1 x0 x1 => ?_
    have w := w64 (n := 1000 * x) (by omega) (by omega)
    simp only [w]
    refine d_dec (by omega) (by omega) fun d1 => ?_
    generalize decB (1000 * x) = D at d1
    refine d_if (bnd (by rw [ByteArray.size_append, ByteArray.size_append]; omega)) (d_if (bnd (by rw [ByteArray.size_append, ByteArray.size_append, ByteArray.size_append]; omega)) ?_)
    refine d_pick o1 (by simp) (by simp) fun y s2 o2 hy => ?_
    have hy2 : -10 ≤ y ∧ y ≤ 10 := by
      simp only [List.mem_cons, List.not_mem_nil, or_false] at hy
      omega
    obtain ⟨u, e, du⟩ := number_ok (n := y) (by omega) (by omega)
    simp only [e, Option.bind_some]
    refine d_if (bnd (by rw [ByteArray.size_append, ByteArray.size_append, ByteArray.size_append, ByteArray.size_append]; omega)) (d_some o2 ?_)
    unfold S200
    rw [ByteArray.size_append, ByteArray.size_append, ByteArray.size_append, ByteArray.size_append, ByteArray.size_append]; omega
  refine d_ite (fun _ => ?_) fun _ => ?_
  · have lA : (⟨#[99, 108, 101, 97, 114, 32]⟩ : ByteArray).size = 6 := by decide
    generalize (⟨#[99, 108, 101, 97, 114, 32]⟩ : ByteArray) = A at lA
    generalize (⟨#[32]⟩ : ByteArray) = B at lB
    refine d_if (bnd (by omega)) (d_if (bnd (by rw [ByteArray.size_append]; omega)) ?_)
    refine d_next hs (by omega) fun x s1 o1 x0 x1 => ?_
    have w := w64 (n := 1000 * x) (by omega) (by omega)
    simp only [w]
    refine d_dec (by omega) (by omega) fun d1 => ?_
    generalize decB (1000 * x) = D at d1
    refine d_if (bnd (by rw [ByteArray.size_append, ByteArray.size_append]; omega)) (d_some o1 ?_)
    unfold S200
    rw [ByteArray.size_append, ByteArray.size_append, ByteArray.size_append]; omega
  refine d_ite (fun _ => ?_) fun _ => ?_
  · have lA : (⟨#[115, 105, 103, 110, 97, 108, 32, 107, 101, 121, 97, 32]⟩ : ByteArray).size = 12 := by decide
    refine d_next hs (by omega) fun x s1 o1 x0 x1 => ?_
    refine d_dec x0 (by simp only; omega) fun d => ?_
    refine d_if (bnd (by simp only at d ⊢; omega)) (d_some o1 ?_)
    unfold S200
    simp only at d ⊢
    rw [ByteArray.size_append]; omega
  refine d_ite (fun _ => ?_) fun _ => ?_
  · have lA : (⟨#[115, 105, 103, 110, 97, 108, 32, 107, 101, 121, 98, 32]⟩ : ByteArray).size = 12 := by decide
    refine d_next hs (by omega) fun x s1 o1 x0 x1 => ?_
    refine d_dec x0 (by simp only; omega) fun d => ?_
    refine d_if (bnd (by simp only at d ⊢; omega)) (d_some o1 ?_)
    unfold S200
    simp only at d ⊢
    rw [ByteArray.size_append]; omega
  exact d_ite (fun _ => cmd16_ok hn hc _ _ hs) fun _ => cmd16_ok hn hc _ _ hs
theorem names6_20 : ∀ c ∈ names6, c.size ≤ 20 := by
  intro c hc
  unfold names6 at hc
  simp only [List.mem_cons, List.not_mem_nil, or_false] at hc
  rcases hc with h | h | h | h | h | h <;> (rw [h]; exact Nat.le_of_ble_eq_true rfl)
theorem command_ok {s : Src} (hs : SrcOk s) : DOk S200 (Qc.f s) := by
  unfold Qc.f Qc.fn Qc.top
  refine d_bind (zone_ok hs) fun z s1 o1 hz => ?_
  rw [names_f, Option.bind_some]
  refine d_next o1 (by omega) fun x s2 o2 x0 x1 => ?_
  have hx : 0 ≤ x ∧ x < (names6.length : Int) := ⟨x0, by rw [names6_len]; omega⟩
  refine d_if hx ?_
  have hn := names6_20 _ (getB3 hx.1 hx.2)
  refine d_next o2 (by omega) fun y s3 o3 y0 y1 => ?_
  have w := w64 (n := 1 + y) (by omega) (by omega)
  simp only [w]
  refine d_dec (by omega) (by omega) fun d1 => ?_
  refine d_next o3 (by omega) fun v s4 o4 v0 v1 => ?_
  exact d_ite (fun _ => cmd7_ok hz hn d1 _ _ o4) fun _ => cmd7_ok hz hn d1 _ _ o4
def S9k (u : ByteArray) : Prop := u.size ≤ 900000
theorem l34Draw_l12 (t : ByteArray) (w : Src) (hw : SrcOk w) : ∀ (n : Nat) (i : Int) (u : ByteArray) (k : Nat), i + n = 36 → 0 ≤ i → n < k → u.size + 5 * n ≤ 900000 → DOk S9k (Qn.l12 NN k u i w) := by
  intro n
  induction n with
  | zero =>
    intro i u k hi _ hk hu
    obtain ⟨k, rfl⟩ : ∃ j, k = j + 1 := ⟨k - 1, by omega⟩
    have c : ¬ i < 36 := by omega
    simp only [Qn.l12, Qn.g12, c, and_self, and_true, true_and, decide_true, decide_false, if_true, if_false, mid_get, mid_set, mid_getn, mid_setn, bt_mid, Option.bind_some, Bool.not_true, Bool.not_false, Bool.false_eq_true, Bool.true_eq_false, beq_self_eq_true, bne_self_eq_false, Int.toNat_natCast]
    exact d_some hw (by unfold S9k; omega)
  | succ n ih =>
    intro i u k hi h0 hk hu
    obtain ⟨k, rfl⟩ : ∃ j, k = j + 1 := ⟨k - 1, by omega⟩
    have c : i < 36 := by omega
    have l : (⟨#[111, 112, 101, 110, 10]⟩ : ByteArray).size = 5 := by decide
    have cw := w64 (n := i + 1) (by omega) (by omega)
    have q : u.size + (⟨#[111, 112, 101, 110, 10]⟩ : ByteArray).size ≤ 9223372036854775807 := by omega
    simp only [Qn.l12, Qn.g12, c, q, cw, and_self, and_true, true_and, decide_true, decide_false, if_true, if_false, mid_get, mid_set, mid_getn, mid_setn, bt_mid, Option.bind_some, Bool.not_true, Bool.not_false, Bool.false_eq_true, Bool.true_eq_false, beq_self_eq_true, bne_self_eq_false, Int.toNat_natCast]
    exact ih (i + 1) _ k (by omega) (by omega) (by omega) (by rw [ByteArray.size_append]; omega)
theorem l34Draw_l3 : ∀ (n : Nat) (u : ByteArray) (k : Nat) (s : Src), SrcOk s → n ≤ 20 → n < k → u.size + 300 * n ≤ 800000 → DOk S9k (Qn.l3 NN k u n s) := by
  intro n
  induction n with
  | zero =>
    intro u k s hs _ hk hu
    obtain ⟨k, rfl⟩ : ∃ j, k = j + 1 := ⟨k - 1, by omega⟩
    have c : ¬ (0 : Int) < ((0 : Nat) : Int) := by omega
    have l : (⟨#[111, 112, 101, 110]⟩ : ByteArray).size = 4 := by decide
    have q : u.size + (⟨#[111, 112, 101, 110]⟩ : ByteArray).size ≤ 9223372036854775807 := by omega
    simp only [Qn.l3, Qn.g3, c, and_self, and_true, true_and, decide_true, decide_false, if_true, if_false, mid_get, mid_set, mid_getn, mid_setn, bt_mid, Option.bind_some, Bool.not_true, Bool.not_false, Bool.false_eq_true, Bool.true_eq_false, beq_self_eq_true, bne_self_eq_false, Int.toNat_natCast]
    refine d_next hs (by omega) fun x s1 o1 x0 x1 => ?_
    refine d_ite (fun _ => l34Draw_l12 u s1 o1 36 0 u NN (by omega) (by omega) (NN_lt (by omega)) (by omega)) fun _ => ?_
    refine d_ite (fun _ => d_if q (d_some o1 ?_)) fun _ => d_some o1 ?_
    · unfold S9k; rw [ByteArray.size_append]; omega
    · unfold S9k; omega
  | succ n ih =>
    intro u k s hs hn hk hu
    obtain ⟨k, rfl⟩ : ∃ j, k = j + 1 := ⟨k - 1, by omega⟩
    have c : (0 : Int) < ((n + 1 : Nat) : Int) := by omega
    have l : (⟨#[10]⟩ : ByteArray).size = 1 := by decide
    have w : IntKind.i64.wrap (((n + 1 : Nat) : Int) - 1) = (n : Int) := by rw [w64 (by omega) (by omega)]; omega
    simp only [Qn.l3, Qn.g3, c, w, and_self, and_true, true_and, decide_true, decide_false, if_true, if_false, mid_get, mid_set, mid_getn, mid_setn, bt_mid, Option.bind_some, Bool.not_true, Bool.not_false, Bool.false_eq_true, Bool.true_eq_false, beq_self_eq_true, bne_self_eq_false, Int.toNat_natCast]
    refine d_bind (command_ok hs) fun line s1 o1 hl => ?_
    have hl' : line.size ≤ 200 := hl
    refine d_next o1 (by omega) fun x s2 o2 x0 x1 => ?_
    refine d_ite (fun _ => ?_) fun _ => ?_
    · obtain ⟨v, s3, e, o3, hv⟩ := damage_ok o2 line (by omega)
      simp only [e, Option.bind_some]
      refine d_if (by omega) (d_if (by rw [ByteArray.size_append]; omega) ?_)
      exact ih _ k s3 o3 (by omega) (by omega) (by rw [ByteArray.size_append, ByteArray.size_append]; omega)
    · refine d_if (by simp only; omega) (d_if (by simp only [ByteArray.size_append]; omega) ?_)
      exact ih _ k s2 o2 (by omega) (by omega) (by simp only [ByteArray.size_append]; omega)
theorem l34Draw_ok {s : Src} (hs : SrcOk s) : DOk S9k (Qn.f s) := by
  unfold Qn.f Qn.fn Qn.top
  refine d_next hs (by omega) fun x s1 o1 x0 x1 => ?_
  have e : x = ((x.toNat : Nat) : Int) := by omega
  have z : (⟨#[]⟩ : ByteArray).size = 0 := by decide
  simp only
  rw [e]
  exact l34Draw_l3 x.toNat _ NN s1 o1 (by omega) (NN_lt (by omega)) (by omega)
theorem DrawRunConsole_ok {code : List Int} (h : CodeOk code) : ∃ u, Qag.f code = some u ∧ u.size ≤ 900000 := by
  obtain ⟨s, e, o⟩ := from_ok h
  obtain ⟨u, s1, e1, o1, hu⟩ := l34Draw_ok o
  unfold Qag.f Qag.fn Qag.top
  rw [e, Option.bind_some, e1]
  exact ⟨u, rfl, hu⟩
theorem DrawIsConsoleLine_ok {code : List Int} (h : CodeOk code) : ∃ u, Q7.f code = some u ∧ u.size ≤ 900000 := by
  obtain ⟨s, e, o⟩ := from_ok h
  obtain ⟨u, s1, e1, o1, hu⟩ := command_ok o
  have hu' : u.size ≤ 200 := hu
  obtain ⟨x, s2, e2, o2, x0, x1⟩ := next_ok o1 2 (by omega)
  obtain ⟨v, s3, e3, o3, hv⟩ := damage_ok o2 u (by omega)
  unfold Q7.f Q7.fn Q7.top
  rw [e, Option.bind_some, e1]
  simp only [Option.bind_some, e2]
  split
  · rw [e3]; exact ⟨v, rfl, by omega⟩
  · exact ⟨u, rfl, by omega⟩
end Go.Pl

namespace Go.Pl
open Go.Ev
set_option linter.unusedVariables false
set_option linter.unusedSimpArgs false
theorem last_10 {t : ByteArray} (h : 0 < t.size) (h10 : bt t ((t.size : Int) - 1) = 10) : ∃ p, bl t = p ++ 10 :: [] := by
  revert h h10
  refine ob_all (P := fun t => 0 < t.size → bt t ((t.size : Int) - 1) = 10 → ∃ p, bl t = p ++ 10 :: []) ?_ t
  intro l h h10
  rw [ob_size] at h h10
  rw [bl_ob]
  rcases last_cases l with e | ⟨q, y, e⟩
  · rw [e] at h; simp at h
  · subst e
    refine ⟨q, ?_⟩
    have e1 : ((q ++ [y]).length : Int) - 1 = (q.length : Int) := by simp
    rw [e1, bt_mid] at h10
    have : y = 10 := by
      apply UInt8.toNat.inj
      show y.toNat = 10
      omega
    rw [this]
theorem lines_tail {t : ByteArray} (ht : t.size ≤ 900000) (h0 : (conR t).2 = 0) (h : bl t = [] ∨ ∃ p, bl t = p ++ 10 :: []) (B : Option Bool)
    (hB : ∀ r : List ByteArray × Int, r.1.length ≤ 1000000 → (r.2 = 3 ∨ (r.2 = 0 ∧ r.1 = (conR t).1.1 ++ [errT 6])) → Qas.f (t ++ noise) = some r → Qar.f (t ++ noise) = some r → B = some true) : B = some true := by
  have hs : (t ++ noise).size ≤ 1000000 := by
    have : noise.size = 6 := by decide
    rw [ByteArray.size_append]; omega
  obtain ⟨r1, r2⟩ := RunConsole_both (t ++ noise) hs
  exact hB _ (con_ok (t ++ noise) hs).1.1 (con_noise ht h0 h) r1 r2
theorem FnConsoleLines_true (code : List Int) (hyp : Ls (Rg .u8) code) : Qao.f code = some true := by
  unfold Qao.f Qao.fn Qao.top
  rw [big_f, Option.bind_some]
  by_cases hb : (4096 : Int) < (code.length : Int)
  · rw [if_pos (decide_eq_true hb)]
  rw [if_neg (by simpa using hb)]
  have hc := code_of hyp hb
  obtain ⟨t, e1, ht⟩ := DrawRunConsole_ok hc
  obtain ⟨u, e2, hu⟩ := DrawIsConsoleLine_ok hc
  obtain ⟨s1, i1⟩ := RunConsole_both t (by omega)
  obtain ⟨i2, s2⟩ := IsConsoleLine_both u (by omega)
  have hlm := (con_ok t (by omega)).1
  rw [e1, Option.bind_some, i1, Option.bind_some, s1, Option.bind_some, e2, Option.bind_some]
  have hself := likeTexts_same (conR t).1.1 (by have := hlm.1; omega)
  rw [if_pos (show ((conR t).2 != (conR t).2) = false by simp), hself, Option.bind_some, if_pos (by simp), i2, Option.bind_some, s2, Option.bind_some, if_neg (by simp)]
  by_cases h0 : (conR t).2 = 0
  rotate_left
  · rw [if_neg (by simpa using h0)]
  rw [if_pos (by simpa using h0)]
  have hn : noise.size = 6 := by decide
  have hfit : t.size + (⟨#[110, 111, 105, 115, 101, 10]⟩ : ByteArray).size ≤ 9223372036854775807 := by
    have e : (⟨#[110, 111, 105, 115, 101, 10]⟩ : ByteArray).size = 6 := hn
    omega
  have hen : (⟨#[110, 111, 105, 115, 101, 10]⟩ : ByteArray) = noise := rfl
  have main : ∀ r : List ByteArray × Int, r.1.length ≤ 1000000 → (r.2 = 3 ∨ (r.2 = 0 ∧ r.1 = (conR t).1.1 ++ [errT 6])) →
      (if ((r.2 : Int) != r.2) = false then
        (Qw.f r.1 r.1).bind fun r11 =>
        if (!r11) = true then some false
        else if ((r.2 : Int) != 0) = true then some ((r.2 : Int) == 3)
        else if (((r.1.length : Int) : Int) == (IntKind.i64.wrap (((conR t).1.1.length : Int) + 1))) = true then
          if (0 : Int) ≤ ((conR t).1.1.length : Int) ∧ (((conR t).1.1.length : Int) : Int) < r.1.length then
            if ((r.1.getD (((conR t).1.1.length : Int) : Int).toNat ByteArray.empty).toList == (⟨#[101, 114, 114, 111, 114, 32, 54]⟩ : ByteArray).toList) = true then
              if (0 : Int) ≤ ((conR t).1.1.length : Int) ∧ (((conR t).1.1.length : Int) : Int) ≤ r.1.length then
                (Qw.f (r.1.take (((conR t).1.1.length : Int) : Int).toNat) (conR t).1.1).bind fun r12 => some r12
              else none
            else some false
          else none
        else some false
      else some false) = some true := by
    intro r hl hr
    rw [if_pos (by simp), likeTexts_same r.1 (by omega), Option.bind_some, if_neg (by simp)]
    rcases hr with hr | ⟨hr, hr2⟩
    · rw [hr]; rfl
    · have hol := hlm.1
      have w := w64 (n := ((conR t).1.1.length : Int) + 1) (by omega) (by omega)
      rw [if_neg (by simp [hr]), hr2, w]
      have g := mid_getn (conR t).1.1 [] (errT 6) ByteArray.empty
      rw [if_pos (by simp), if_pos ⟨by omega, by simp; omega⟩, Int.toNat_natCast, g, err6, if_pos (by simp), if_pos ⟨by omega, by simp; omega⟩, List.take_left, hself]
      rfl
  by_cases hz : (0 : Int) < (t.size : Int)
  · have w := w64 (n := (t.size : Int) - 1) (by omega) (by omega)
    rw [if_pos (decide_eq_true hz), w, if_pos ⟨by omega, by omega⟩]
    by_cases h10 : bt t ((t.size : Int) - 1) = 10
    · rw [if_neg (by simpa using h10), if_pos hfit, hen]
      refine lines_tail ht h0 (.inr (last_10 (by omega) h10)) _ fun r hl hr q1 q2 => ?_
      rw [q2, Option.bind_some, ← hen, if_pos hfit, hen, q1, Option.bind_some]
      exact main r hl hr
    · rw [if_pos (by simpa using h10)]
  · rw [if_neg (by simpa using hz), if_pos hfit, hen]
    have hbl : bl t = [] := by
      have : t.size = 0 := by omega
      rw [← bl_length] at this
      exact List.length_eq_zero_iff.1 this
    refine lines_tail ht h0 (.inl hbl) _ fun r hl hr q1 q2 => ?_
    rw [q2, Option.bind_some, ← hen, if_pos hfit, hen, q1, Option.bind_some]
    exact main r hl hr
end Go.Pl
