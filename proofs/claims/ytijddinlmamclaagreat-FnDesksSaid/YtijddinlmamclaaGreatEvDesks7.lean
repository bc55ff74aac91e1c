/- Part 7 of what the law FnDesks stands on: an evaluator of the model's code, proved sound; the functions as plain texts; their contracts. -/
import Derived.Test.YtijddinlmamclaaGreatChecked
import Derived.Test.YtijddinlmamclaaGreatProg
import Derived.Test.YtijddinlmamclaaGreatRows
import Derived.Below
import Derived.Calls
import Derived.Carry
import Derived.ChangeArms
import Derived.ChangeKeysEq
import Derived.ChangeOld
import Derived.Deep.Quiet
import Derived.KernelRfl
import Derived.Laws.Append
import Derived.Laws.BytesString
import Derived.Laws.MakeOwn
import Derived.Laws.Strings
import Derived.Laws.StructEq
import Derived.OpenShut
import Derived.OrdersHeld
import Derived.ProofKit
import Derived.ShutString
import Derived.SizedLaws
import Derived.Tactics
import Derived.WalkKit
import Derived.WideShapes
import Derived.Test.YtijddinlmamclaaGreatEvDesks6
namespace Go.Pl
open Go.Ev
set_option linter.unusedVariables false
set_option linter.unusedSimpArgs false
theorem VhS (a : Int) (h0 : -9000000000000000000 ≤ a) (h1 : a ≤ 9000000000000000000) : (if decide (Int.tmod a 2000000 < 0) = true then some (IntKind.i64.wrap (IntKind.i64.wrap (Int.tdiv a 2000000) - 1)) else some (IntKind.i64.wrap (Int.tdiv a 2000000))) = some (a / 2000000) := by
 have h := Int.mul_tdiv_add_tmod a 2000000
 have hb : -2000000 < Int.tmod a 2000000 ∧ Int.tmod a 2000000 < 2000000 := ⟨Int.lt_tmod_of_pos a (by omega), Int.tmod_lt_of_pos a (by omega)⟩
 have hs : (0 ≤ a → 0 ≤ Int.tmod a 2000000) := fun h => Int.tmod_nonneg _ h
 generalize Int.tmod a 2000000 = r at *
 generalize Int.tdiv a 2000000 = q at *
 by_cases hr : r < 0
 ·simp only [hr, decide_true, if_true]
  rw [w64 (n := q) (by omega) (by omega), w64 (by omega) (by omega)]
  congr 1; omega
 ·simp only [hr, decide_false, Bool.false_eq_true, if_false]
  rw [w64 (by omega) (by omega)]
  congr 1; omega
def numN (u t : Int) : Int := 2000 * u * t - 9810 * t * t
def HN (u t : Int) : Int := numN u t / 2000000
theorem Vd6 {u t : Int} (hu : 0 ≤ u ∧ u ≤ 200000) (ht : 0 ≤ t ∧ t ≤ 60000) : (0 ≤ 2000 * u * t ∧ 2000 * u * t ≤ 24000000000000) ∧ 0 ≤ 9810 * t * t ∧ 9810 * t * t ≤ 35316000000000 := by
 have a := VaB (show 0 ≤ 2000 * u by omega) (show 2000 * u ≤ 400000000 by omega) ht.1 ht.2
 have b := VaB (show 0 ≤ 9810 * t by omega) (show 9810 * t ≤ 588600000 by omega) ht.1 ht.2
 omega
theorem Qb9 {u t : Int} (hu : 0 ≤ u ∧ u ≤ 200000) (ht : 0 ≤ t ∧ t ≤ 60000) : QaO.f u t = some (HN u t) := by
 have b := Vd6 hu ht
 unfold QaO.f QaO.fn QaO.top Qa0.f Qa0.fn Qa0.top
 rw [w64 (n := 2000 * u) (by omega) (by omega), w64 (n := 2000 * u * t) (by omega) (by omega), w64 (n := 9810 * t) (by omega) (by omega), w64 (n := 9810 * t * t) (by omega) (by omega), w64 (by omega) (by omega)]
 have := VhS (2000 * u * t - 9810 * t * t) (by omega) (by omega)
 rw [if_neg (by omega), if_neg (by omega)]
 exact (congrArg (·.bind fun r1 => some r1) this).trans rfl
theorem QbB {u t : Int} (hu : 0 ≤ u ∧ u ≤ 200000) (ht : 0 ≤ t ∧ t ≤ 60000) : Qay.f u t = some (HN u t) := by
 have b := Vd6 hu ht
 unfold Qay.f Qay.fn Qay.top Qa1.f Qa1.fn Qa1.top
 rw [w64 (n := 2000 * u) (by omega) (by omega), w64 (n := 2000 * u * t) (by omega) (by omega), w64 (n := 9810 * t) (by omega) (by omega), w64 (n := 9810 * t * t) (by omega) (by omega), w64 (n := 2000 * u * t - 9810 * t * t) (by omega) (by omega)]
 have := VhS (2000 * u * t - 9810 * t * t) (by omega) (by omega)
 rw [if_neg (by decide), if_neg (by omega), if_neg (by omega)]
 exact (congrArg (·.bind fun r1 => some r1) this).trans rfl
def lastT (u : Int) : Int := 1000 * u / 9810
theorem Vjm {u t : Int} (ht : 0 ≤ t) (h : t + 1 ≤ lastT u) : HN u t ≤ HN u (t + 1) := by
 unfold lastT at h
 have e1 : 2000 * u * (t + 1) = 2000 * u * t + 2000 * u := by rw [Int.mul_add, Int.mul_one]
 have e2 : 9810 * (t + 1) * (t + 1) = 9810 * t * t + 19620 * t + 9810 := by
  rw [Int.mul_add, Int.mul_add, Int.mul_one, Int.add_mul]; omega
 unfold HN numN
 rw [e1, e2]
 omega
theorem Vjn {u : Int} : ∀ (n : Nat) {s : Int}, 0 ≤ s → s + n ≤ lastT u → HN u s ≤ HN u (s + n) := by
 intro n
 induction n with
 | zero => intro s _ _; simp
 | succ n ih =>
  intro s h0 h
  have a := ih (s := s) h0 (by omega)
  have b := Vjm (u := u) (t := s + n) (by omega) (by omega)
  rw [show s + ((n + 1 : Nat) : Int) = s + n + 1 by omega]
  omega
theorem HN_le {u s t : Int} (h0 : 0 ≤ s) (h : s ≤ t) (ht : t ≤ lastT u) : HN u s ≤ HN u t := by
 have := Vjn (u := u) (t - s).toNat (s := s) h0 (by omega)
 rwa [show s + ((t - s).toNat : Int) = t by omega] at this
def TopP (u v : Int) : Prop := 0 ≤ v ∧ v ≤ lastT u ∧ HN u v = HN u (lastT u) ∧ (v = 0 ∨ HN u (v - 1) ≠ HN u (lastT u))
theorem Vjo {u v w : Int} (a : TopP u v) (b : TopP u w) : v = w := by
 obtain ⟨a1, a2, a3, a4⟩ := a
 obtain ⟨b1, b2, b3, b4⟩ := b
 rcases Int.lt_trichotomy v w with h | h | h
 ·have h1 := HN_le a1 (show v ≤ w - 1 by omega) (show w - 1 ≤ lastT u by omega)
  have h2 := HN_le (show 0 ≤ w - 1 by omega) (show w - 1 ≤ lastT u by omega) (Int.le_refl _)
  rcases b4 with b4 | b4 <;> omega
 ·exact h
 ·have h1 := HN_le b1 (show w ≤ v - 1 by omega) (show v - 1 ≤ lastT u by omega)
  have h2 := HN_le (show 0 ≤ v - 1 by omega) (show v - 1 ≤ lastT u by omega) (Int.le_refl _)
  rcases a4 with a4 | a4 <;> omega
theorem Vet {u : Int} (hu : 0 ≤ u ∧ u ≤ 200000) : 0 ≤ lastT u ∧ lastT u ≤ 20388 := by unfold lastT; omega
theorem Qdk {u : Int} (hu : 0 ≤ u ∧ u ≤ 200000) : ∀ (n : Nat) (low high : Int) (k : Nat), 0 ≤ low → low ≤ high → high ≤ lastT u → high - low ≤ n → HN u high = HN u (lastT u) → (low = 0 ∨ HN u (low - 1) < HN u (lastT u)) → n < k →
  ∃ v, Qak.l7 NN k u (HN u (lastT u)) low high = some (v, HN u (lastT u)) ∧ TopP u v := by
 intro n
 have hl := Vet hu
 have fin : ∀ (low high : Int) (k : Nat), 0 ≤ low → low ≤ high → high ≤ lastT u → HN u high = HN u (lastT u) → (low = 0 ∨ HN u (low - 1) < HN u (lastT u)) → ¬ low < high → ∃ v, Qak.l7 NN (k + 1) u (HN u (lastT u)) low high = some (v, HN u (lastT u)) ∧ TopP u v := by
  intro low high k h0 h1 h2 h4 h5 e
  have e2 : high = low := by omega
  refine ⟨low, by simp [Qak.l7, Qak.g7, e], h0, by omega, by rw [← e2]; exact h4, ?_⟩
  rcases h5 with h5 | h5
  ·exact .inl h5
  ·exact .inr (by omega)
 induction n with
 | zero =>
  intro low high k h0 h1 h2 h3 h4 h5 hk
  obtain ⟨k, rfl⟩ : ∃ j, k = j + 1 := ⟨k - 1, by omega⟩
  exact fin low high k h0 h1 h2 h4 h5 (by omega)
 | succ n ih =>
  intro low high k h0 h1 h2 h3 h4 h5 hk
  obtain ⟨k, rfl⟩ : ∃ j, k = j + 1 := ⟨k - 1, by omega⟩
  by_cases e : low < high
  ·have w1 := w64 (n := low + high) (by omega) (by omega)
   have w2 := w64 (n := (low + high) / 2) (by omega) (by omega)
   have w5 := w64 (n := (low + high) / 2 + 1) (by omega) (by omega)
   have hm := HN_le (u := u) (show 0 ≤ (low + high) / 2 by omega) (show (low + high) / 2 ≤ lastT u by omega) (Int.le_refl _)
   simp only [Qak.l7, Qak.g7, e, w1, half (show 0 ≤ low + high by omega), w2, w5, Qb9 hu (show 0 ≤ (low + high) / 2 ∧ (low + high) / 2 ≤ 60000 by omega), and_self, and_true, true_and, decide_true, decide_false, if_true, if_false, Vc, Vd, Va, Vb, Ve, Option.bind_some, Bool.not_true, Bool.not_false, Bool.false_eq_true, Bool.true_eq_false, beq_self_eq_true, bne_self_eq_false, Int.toNat_natCast]
   by_cases q : HN u (lastT u) ≤ HN u ((low + high) / 2)
   ·simp only [q, and_self, and_true, true_and, decide_true, decide_false, if_true, if_false, Vc, Vd, Va, Vb, Ve, Option.bind_some, Bool.not_true, Bool.not_false, Bool.false_eq_true, Bool.true_eq_false, beq_self_eq_true, bne_self_eq_false, Int.toNat_natCast]
    exact ih low ((low + high) / 2) k h0 (by omega) (by omega) (by omega) (by omega) h5 (by omega)
   ·simp only [q, and_self, and_true, true_and, decide_true, decide_false, if_true, if_false, Vc, Vd, Va, Vb, Ve, Option.bind_some, Bool.not_true, Bool.not_false, Bool.false_eq_true, Bool.true_eq_false, beq_self_eq_true, bne_self_eq_false, Int.toNat_natCast]
    refine ih ((low + high) / 2 + 1) high k (by omega) (by omega) h2 (by omega) h4 (.inr ?_) (by omega)
    rw [Int.add_sub_cancel]; omega
  ·exact fin low high k h0 h1 h2 h4 h5 e
theorem Qdl {u : Int} (hu : 0 ≤ u ∧ u ≤ 200000) : ∀ (n : Nat) (t : Int) (k : Nat), t = n → t ≤ lastT u → HN u t = HN u (lastT u) → n < k →
  ∃ v, Qad.l3 NN k u t (HN u (lastT u)) = some (v, HN u (lastT u)) ∧ TopP u v := by
 have hl := Vet hu
 intro n
 induction n with
 | zero =>
  intro t k ht h2 h4 hk
  obtain ⟨k, rfl⟩ : ∃ j, k = j + 1 := ⟨k - 1, by omega⟩
  have e : ¬ 0 < t := by omega
  refine ⟨t, ?_, by omega, h2, h4, .inl (by omega)⟩
  simp only [Qad.l3, Qad.g3, e, QbB hu (show 0 ≤ t ∧ t ≤ 60000 by omega), h4, Int.lt_irrefl, and_self, and_true, true_and, decide_true, decide_false, if_true, if_false, Vc, Vd, Va, Vb, Ve, Option.bind_some, Bool.not_true, Bool.not_false, Bool.false_eq_true, Bool.true_eq_false, beq_self_eq_true, bne_self_eq_false, Int.toNat_natCast]
 | succ n ih =>
  intro t k ht h2 h4 hk
  obtain ⟨k, rfl⟩ : ∃ j, k = j + 1 := ⟨k - 1, by omega⟩
  have e : 0 < t := by omega
  have w := w64 (n := t - 1) (by omega) (by omega)
  simp only [Qad.l3, Qad.g3, e, w, QbB hu (show 0 ≤ t ∧ t ≤ 60000 by omega), QbB hu (show 0 ≤ t - 1 ∧ t - 1 ≤ 60000 by omega), h4, Int.lt_irrefl, and_self, and_true, true_and, decide_true, decide_false, if_true, if_false, Vc, Vd, Va, Vb, Ve, Option.bind_some, Bool.not_true, Bool.not_false, Bool.false_eq_true, Bool.true_eq_false, beq_self_eq_true, bne_self_eq_false, Int.toNat_natCast]
  by_cases q : HN u (t - 1) = HN u (lastT u)
  ·have q' : (HN u (t - 1) == HN u (lastT u)) = true := by simpa using q
   simp only [q', and_self, and_true, true_and, decide_true, decide_false, if_true, if_false, Vc, Vd, Va, Vb, Ve, Option.bind_some, Bool.not_true, Bool.not_false, Bool.false_eq_true, Bool.true_eq_false, beq_self_eq_true, bne_self_eq_false, Int.toNat_natCast]
   exact ih (t - 1) k (by omega) (by omega) q (by omega)
  ·have q' : (HN u (t - 1) == HN u (lastT u)) = false := by simpa using q
   simp only [q', and_self, and_true, true_and, decide_true, decide_false, if_true, if_false, Vc, Vd, Va, Vb, Ve, Option.bind_some, Bool.not_true, Bool.not_false, Bool.false_eq_true, Bool.true_eq_false, beq_self_eq_true, bne_self_eq_false, Int.toNat_natCast]
   exact ⟨t, rfl, by omega, h2, h4, .inr q⟩
noncomputable def topR (u : Int) : Int × Int × Int := (Qba.f u).getD (0, 0, 0)
theorem Vg0 (u : Int) : Qbk.f u = some (topR u) ∧ Qba.f u = some (topR u) ∧ (0 ≤ (topR u).1 ∧ (topR u).1 ≤ 1000000000) ∧ 0 ≤ (topR u).2.1 ∧ (topR u).2.1 ≤ 1000000000 := by
 have key : ∃ v, Qbk.f u = some v ∧ Qba.f u = some v ∧ (0 ≤ v.1 ∧ v.1 ≤ 1000000000) ∧ 0 ≤ v.2.1 ∧ v.2.1 ≤ 1000000000 := by
  unfold Qbk.f Qbk.fn Qbk.top Qbd.f Qbd.fn Qbd.top Qba.f Qba.fn Qba.top Qbm.f Qbm.fn Qbm.top
  rw [Qbr, Qbr, Qbr, Qbq]
  cases hu : inB u 0 200000
  ·exact ⟨(0, 0, 2), rfl, rfl, by simp, by simp⟩
  have hu' := inB_iff.1 hu
  have hl := Vet hu'
  have e1 : inB 0 (-50000) 50000 = true := rfl
  have e2 : inB 0 0 60000 = true := rfl
  have e : ((0 : Int) != 0) = false := rfl
  simp only [e1, e2, e, and_self, and_true, true_and, decide_true, decide_false, if_true, if_false, Vc, Vd, Va, Vb, Ve, Option.bind_some, Bool.not_true, Bool.not_false, Bool.false_eq_true, Bool.true_eq_false, beq_self_eq_true, bne_self_eq_false, Int.toNat_natCast]
  have td : Int.tdiv (1000 * u) 9810 = lastT u := Int.tdiv_eq_ediv_of_nonneg (by omega)
  have w1 := w64 (n := 1000 * u) (by omega) (by omega)
  have w2 := w64 (n := lastT u) (by omega) (by omega)
  have w3 := w64 (n := lastT u + 1) (by omega) (by omega)
  have a1 := Qb9 hu' (show 0 ≤ lastT u ∧ lastT u ≤ 60000 by omega)
  have a2 := Qb9 hu' (show 0 ≤ lastT u + 1 ∧ lastT u + 1 ≤ 60000 by omega)
  have a3 := QbB hu' (show 0 ≤ lastT u ∧ lastT u ≤ 60000 by omega)
  have a4 := QbB hu' (show 0 ≤ lastT u + 1 ∧ lastT u + 1 ≤ 60000 by omega)
  have hb := Vd6 hu' (show 0 ≤ lastT u ∧ lastT u ≤ 60000 by omega)
  have hb1 := Vd6 hu' (show 0 ≤ lastT u + 1 ∧ lastT u + 1 ≤ 60000 by omega)
  have hz : 0 ≤ HN u (lastT u) := by
   have h0 := HN_le (u := u) (Int.le_refl 0) hl.1 (Int.le_refl _)
   have : HN u 0 = 0 := by unfold HN numN; simp
   omega
  have ht1 : HN u (lastT u) ≤ 1000000000 := by unfold HN numN; omega
  have ht2 : HN u (lastT u + 1) ≤ 1000000000 := by unfold HN numN; omega
  unfold Qad.f Qad.fn Qad.top Qak.f Qak.fn Qak.top
  rw [w1, td, w2, w3, a1, a2, a3, a4]
  simp only [Option.bind_some]
  by_cases q : HN u (lastT u) < HN u (lastT u + 1)
  ·refine ⟨(lastT u + 1, HN u (lastT u + 1), 0), ?_, ?_, by simp only; omega, by simp only; omega⟩
   ·obtain ⟨k, hk⟩ : ∃ j, NN = j + 1 := ⟨NN - 1, by have := NNb; omega⟩
    have q2 : HN u (lastT u + 1) > HN u (lastT u) := q
    rw [show Qad.l3 NN NN = Qad.l3 NN (k + 1) by rw [← hk]]
    simp only [q2, if_true, Qad.l3, Qad.g3, a3, q, w3, and_self, and_true, true_and, decide_true, decide_false, if_true, if_false, Vc, Vd, Va, Vb, Ve, Option.bind_some, Bool.not_true, Bool.not_false, Bool.false_eq_true, Bool.true_eq_false, beq_self_eq_true, bne_self_eq_false, Int.toNat_natCast]
    by_cases h0 : 0 < lastT u
    ·have w4 := w64 (n := lastT u - 1) (by omega) (by omega)
     have a5 := QbB hu' (show 0 ≤ lastT u - 1 ∧ lastT u - 1 ≤ 60000 by omega)
     have hm := HN_le (u := u) (show 0 ≤ lastT u - 1 by omega) (show lastT u - 1 ≤ lastT u by omega) (Int.le_refl _)
     have q' : (HN u (lastT u - 1) == HN u (lastT u + 1)) = false := by
      have : HN u (lastT u - 1) ≠ HN u (lastT u + 1) := by omega
      simpa using this
     simp only [h0, w4, a5, q', and_self, and_true, true_and, decide_true, decide_false, if_true, if_false, Vc, Vd, Va, Vb, Ve, Option.bind_some, Bool.not_true, Bool.not_false, Bool.false_eq_true, Bool.true_eq_false, beq_self_eq_true, bne_self_eq_false, Int.toNat_natCast]
    ·simp only [h0, and_self, and_true, true_and, decide_true, decide_false, if_true, if_false, Vc, Vd, Va, Vb, Ve, Option.bind_some, Bool.not_true, Bool.not_false, Bool.false_eq_true, Bool.true_eq_false, beq_self_eq_true, bne_self_eq_false, Int.toNat_natCast]
   ·simp only [q, and_self, and_true, true_and, decide_true, decide_false, if_true, if_false, Vc, Vd, Va, Vb, Ve, Option.bind_some, Bool.not_true, Bool.not_false, Bool.false_eq_true, Bool.true_eq_false, beq_self_eq_true, bne_self_eq_false, Int.toNat_natCast]
  ·obtain ⟨x, hx, px⟩ := Qdl hu' (lastT u).toNat (lastT u) NN (by omega) (Int.le_refl _) rfl (NN_lt (by omega))
   obtain ⟨y, hy, py⟩ := Qdk hu' (lastT u).toNat 0 (lastT u) NN (by omega) hl.1 (Int.le_refl _) (by omega) rfl (.inl rfl) (NN_lt (by omega))
   have hxy := Vjo px py
   subst hxy
   have q2 : ¬ HN u (lastT u + 1) > HN u (lastT u) := q
   refine ⟨(x, HN u (lastT u), 0), ?_, ?_, ⟨px.1, by have := px.2.1; simp only; omega⟩, hz, ht1⟩
   ·simp only [q2, if_false]
    rw [hx]; rfl
   ·simp only [q, and_self, and_true, true_and, decide_true, decide_false, if_true, if_false, Vc, Vd, Va, Vb, Ve, Option.bind_some, Bool.not_true, Bool.not_false, Bool.false_eq_true, Bool.true_eq_false, beq_self_eq_true, bne_self_eq_false, Int.toNat_natCast]
    rw [hy]; rfl
 obtain ⟨v, h1, h2, h3⟩ := key
 have : topR u = v := by unfold topR; rw [h2]; rfl
 rw [this]
 exact ⟨h1, h2, h3⟩
end Go.Pl

namespace Go.Pl
open Go.Ev
set_option linter.unusedVariables false
set_option linter.unusedSimpArgs false
theorem Vg1 {α : Type} (P : α → Bool) : ∀ (xs : List α) (i : Nat) (y : Nat × α), VS P i xs = some y → y.1 < i + xs.length := by
 intro xs
 induction xs with
 | nil => intro i y h; cases h
 | cons a r ih =>
  intro i y h
  simp only [VS] at h
  split at h
  ·rw [← Option.some.inj h]; simp
  ·have := ih (i + 1) y h
   simp only [List.length_cons]; omega
def idxW (ws : List ByteArray) (w : ByteArray) : Int := (VS (fun x : ByteArray => decide (x = w)) 0 ws).elim (-1) (fun x => (x.1 : Int))
theorem Vgw (ws : List ByteArray) (w : ByteArray) : -1 ≤ idxW ws w ∧ idxW ws w < (ws.length : Int) := by
 unfold idxW
 cases hf : VS (fun x : ByteArray => decide (x = w)) 0 ws with
 | none => simp only [Option.elim_none]; omega
 | some y =>
  have h2 := Vg1 _ ws 0 y hf
  simp only [Option.elim_some]; omega
theorem Qb7 (ws : List ByteArray) (w : ByteArray) (h : ws.length ≤ 1000000) : QD.f ws w = some (idxW ws w) := by
 have := VcC (E := fun _ : ByteArray => True) (fun x => decide (x = w)) (fun i _ => some (i : Int)) (fun _ => some (-1)) (fun k v i => QD.l2 NN k w v v.length i) ?_ ?_ ws (fun _ _ => trivial) (by omega) NN (NN_lt (by omega))
 ·unfold QD.f QD.fn QD.top idxW
  refine Eq.trans this ?_
  cases VS (fun x : ByteArray => decide (x = w)) 0 ws <;> rfl
 ·intro k p
  simp [QD.l2, QD.g2]
 ·intro k p a r _ c0 c1 c2 cw
  simp only [QD.l2, QD.g2, c0, c1, cw, and_self, and_true, true_and, decide_true, decide_false, if_true, if_false, Vc, Vd, Va, Vb, Ve, Option.bind_some, Bool.not_true, Bool.not_false, Bool.false_eq_true, Bool.true_eq_false, beq_self_eq_true, bne_self_eq_false, Int.toNat_natCast, V3]
theorem Qca (ws : List ByteArray) (w : ByteArray) (h : ws.length ≤ 1000000) : QV.f ws w = some (idxW ws w) := by
 have := VcC (E := fun _ : ByteArray => True) (fun x => decide (x = w)) (fun i _ => some (i : Int)) (fun _ => some (-1)) (fun k v i => QV.l2 NN k v w i) ?_ ?_ ws (fun _ _ => trivial) (by omega) NN (NN_lt (by omega))
 ·unfold QV.f QV.fn QV.top idxW
  refine Eq.trans this ?_
  cases VS (fun x : ByteArray => decide (x = w)) 0 ws <;> rfl
 ·intro k p
  simp [QV.l2, QV.g2]
 ·intro k p a r _ c0 c1 c2 cw
  simp only [QV.l2, QV.g2, c0, c1, cw, and_self, and_true, true_and, decide_true, decide_false, if_true, if_false, Vc, Vd, Va, Vb, Ve, Option.bind_some, Bool.not_true, Bool.not_false, Bool.false_eq_true, Bool.true_eq_false, beq_self_eq_true, bne_self_eq_false, Int.toNat_natCast, V3]
theorem Vg2 : ∃ ws : List ByteArray, QaI.f = some ws ∧ QaP.f = some ws ∧ ws.length ≤ 100 := ⟨_, rfl, rfl, by decide⟩
def sttW (c : Ctl) : ByteArray := if c.2.2.2.2.1 = true then ⟨#[115, 116, 111, 112, 112, 101, 100]⟩ else if c.2.2.2.1 = true then ⟨#[104, 101, 108, 100]⟩ else if c.2.2.1 = true then ⟨#[97, 114, 109, 101, 100]⟩ else ⟨#[111, 102, 102]⟩
theorem VhT (c : Ctl) : (sttW c).size ≤ 100 := by
 obtain ⟨a, b, r, h, s, n⟩ := c
 cases s <;> cases h <;> cases r <;> exact Nat.le_of_ble_eq_true rfl
theorem QcF (c : Ctl) : QaJ.f c = some (sttW c) := by
 obtain ⟨a, b, r, h, s, n⟩ := c
 cases s <;> cases h <;> cases r <;> rfl
theorem QcW (d : Dsk) (t : Int) (h : d.2.1.length ≤ 1000000) : QaY.f d t = some (sttW (caR d.2.1 t).1, (caR d.2.1 t).2) := by
 unfold QaY.f QaY.fn QaY.top
 rw [(Vbk d.2.1 t h).1, Option.bind_some]
 generalize caR d.2.1 t = q
 obtain ⟨⟨a, b, r, h, s, n⟩, e⟩ := q
 cases s <;> cases h <;> cases r <;> rfl
def zonF (z : List ByteArray) (m : Mov) : List ByteArray := insW m.2.1 z
def zonL (ms : List Mov) : List ByteArray := ms.foldl zonF []
structure ZI (p : List Mov) (z : List ByteArray) : Prop where
 srt : SrtW z
 len : z.length ≤ p.length
 wrd : ∀ w ∈ z, wordB w = true
theorem VfI : ZI [] [] := ⟨List.Pairwise.nil, by simp, by simp⟩
theorem Veu {p : List Mov} {z : List ByteArray} {m : Mov} (h : ZI p z) (hm : movB m = true) : ZI (p ++ [m]) (zonF z m) := by
 refine ⟨VfF h.srt, ?_, fun w hw => ?_⟩
 ·have := VfG m.2.1 z
  have := h.len
  unfold zonF
  rw [List.length_append, List.length_singleton]; omega
 ·rcases mem_insW.1 hw with rfl | hw
  ·exact (Vaa hm).2.1
  ·exact h.wrd w hw
def firV (d : Dsk) (t : Int) : ByteArray × Int := if inB t 0 10000000 = true then ((if firT d.2.1 d.1 (zonL d.1) t < 0 then ⟨#[109, 105, 115, 115, 101, 100]⟩ else decB (firT d.2.1 d.1 (zonL d.1) t)), 0) else (⟨#[]⟩, 1)
theorem Vev (l : List Sig) (ms : List Mov) (zs : List ByteArray) {t : Int} (h : 0 ≤ t ∧ t ≤ 10000000) : -1 ≤ firT l ms zs t ∧ firT l ms zs t ≤ 100000 := by
 have := VcJ h
 unfold firT
 split <;> omega
theorem VfJ {ms : List Mov} (h : Vy ms = true) : ZI ms (zonL ms) := by
 obtain ⟨m1, m2, m3⟩ := VK h
 have key : ∀ (r p : List Mov) (z : List ByteArray), (∀ m ∈ r, movB m = true) → ZI p z → ZI (p ++ r) (r.foldl zonF z) := by
  intro r
  induction r with
  | nil => intro p z _ h; rwa [List.append_nil]
  | cons m r ih =>
   intro p z hr hz
   have := ih (p ++ [m]) (zonF z m) (fun x hx => hr x (by simp [hx])) (Veu hz (hr m (by simp)))
   rwa [Vn] at this
 have := key ms [] [] m3 VfI
 rwa [List.nil_append] at this
theorem ViB {d : Dsk} (h1 : Vy d.1 = true) (h2 : sigsB d.2.1 = true) (t : Int) : firR [t] d.2.1 d.1 (zonL d.1) = if inB t 0 10000000 = true then ([firT d.2.1 d.1 (zonL d.1) t], 0) else ([], 1) := by
 have z := VfJ h1
 have hm := (VK h1).1
 have hz : VaH (zonL d.1) = true := by
  unfold VaH
  rw [Bool.and_eq_true, decide_eq_true_eq, List.all_eq_true]
  exact ⟨by have := z.len; omega, z.wrd⟩
 unfold firR firOk
 rw [h1, h2, hz]
 simp
theorem Qdf {d : Dsk} (h1 : Vy d.1 = true) (h2 : sigsB d.2.1 = true) (t : Int) (c : ByteArray × List ByteArray × List Int) (hc : c.2.2 = [t]) : ∀ (r p : List Mov) (z : List ByteArray) (k : Nat), d.1 = p ++ r → ZI p z → r.foldl zonF z = zonL d.1 → r.length < k →
  Qe.l24 NN k d.1 d.1.length p.length d c z [] [] [] = some (d, firV d t) := by
 obtain ⟨m1, m2, m3⟩ := VK h1
 have hs1 := (Vaf h2).1
 intro r
 induction r with
 | nil =>
  intro p z k hp hz hf hk
  obtain ⟨k, rfl⟩ : ∃ j, k = j + 1 := ⟨k - 1, by omega⟩
  have c1 : ¬ (p.length : Int) < (d.1.length : Int) := by rw [hp]; simp
  simp only [List.foldl_nil] at hf
  subst hf
  have zz := VfJ h1
  have g0 : ([t] : List Int).getD (0 : Int).toNat 0 = t := rfl
  have l1 : (0 : Int) < (([t] : List Int).length : Int) := by simp
  simp only [Qe.l24, Qe.g24, c1, hc, l1, g0, Int.le_refl, and_self, and_true, true_and, decide_true, decide_false, if_true, if_false, Vc, Vd, Va, Vb, Ve, Option.bind_some, Bool.not_true, Bool.not_false, Bool.false_eq_true, Bool.true_eq_false, beq_self_eq_true, bne_self_eq_false, Int.toNat_natCast]
  rw [(Vds [t] d.2.1 d.1 (zonL d.1) (by simp) (by omega) (by omega) (fun m hm => Nat.le_trans (Vah (Vaa (m3 m hm)).2.1).2 (by omega)) (by have := zz.len; omega) (fun w hw => Nat.le_trans (Vah (zz.wrd w hw)).2 (by omega))).1, ViB h1 h2, Option.bind_some]
  unfold firV
  by_cases ht : inB t 0 10000000 = true
  ·have hb := Vev d.2.1 d.1 (zonL d.1) (inB_iff.1 ht)
   rw [if_pos ht, if_pos ht]
   generalize firT d.2.1 d.1 (zonL d.1) t = x at *
   have g1 : ([x] : List Int).getD (0 : Int).toNat 0 = x := rfl
   have l2 : (0 : Int) < (([x] : List Int).length : Int) := by simp
   have e0 : ((0 : Int) != 0) = false := rfl
   simp only [e0, l2, g1, Int.le_refl, and_self, and_true, true_and, decide_true, decide_false, if_true, if_false, Vc, Vd, Va, Vb, Ve, Option.bind_some, Bool.not_true, Bool.not_false, Bool.false_eq_true, Bool.true_eq_false, beq_self_eq_true, bne_self_eq_false, Int.toNat_natCast]
   by_cases hx : x < 0
   ·simp only [hx, and_self, and_true, true_and, decide_true, decide_false, if_true, if_false, Vc, Vd, Va, Vb, Ve, Option.bind_some, Bool.not_true, Bool.not_false, Bool.false_eq_true, Bool.true_eq_false, beq_self_eq_true, bne_self_eq_false, Int.toNat_natCast]
   ·simp only [hx, and_self, and_true, true_and, decide_true, decide_false, if_true, if_false, Vc, Vd, Va, Vb, Ve, Option.bind_some, Bool.not_true, Bool.not_false, Bool.false_eq_true, Bool.true_eq_false, beq_self_eq_true, bne_self_eq_false, Int.toNat_natCast]
    rw [QbS (by omega) (by omega)]; rfl
  ·rw [if_neg ht, if_neg ht]; rfl
 | cons m r ih =>
  intro p z k hp hz hf hk
  simp only [List.length_cons] at hk
  obtain ⟨k, rfl⟩ : ∃ j, k = j + 1 := ⟨k - 1, by omega⟩
  have hpl : p.length ≤ 40 := by rw [hp] at m1; simp at m1; omega
  have c0 : (0 : Int) ≤ (p.length : Int) := by omega
  have c1 : (p.length : Int) < (d.1.length : Int) := by rw [hp]; simp; omega
  have cw := w64 (n := (p.length : Int) + 1) (by omega) (by omega)
  have g : ∀ w, d.1.getD p.length w = m := fun w => by rw [hp]; exact Va p r m w
  have hm := m3 m (by rw [hp]; simp)
  have i := ih (p ++ [m]) (zonF z m) k (by rw [hp, Vn]) (Veu hz hm) (by simpa using hf) (by omega)
  rw [Vo] at i
  simp only [Qe.l24, Qe.g24, c0, c1, cw, g, and_self, and_true, true_and, decide_true, decide_false, if_true, if_false, Vc, Vd, Va, Vb, Ve, Option.bind_some, Bool.not_true, Bool.not_false, Bool.false_eq_true, Bool.true_eq_false, beq_self_eq_true, bne_self_eq_false, Int.toNat_natCast]
  rw [Qcq z m.2.1 hz.srt (by have := hz.len; omega), Option.bind_some]
  exact i
theorem Qc7 {d : Dsk} (h1 : Vy d.1 = true) (h2 : sigsB d.2.1 = true) (t : Int) (ht : inB t 0 10000000 = true) : ∀ (r p : List Mov) (z : List ByteArray) (k : Nat), d.1 = p ++ r → ZI p z → r.foldl zonF z = zonL d.1 → r.length < k →
  Q7.l5 NN k t p.length d z = some (firV d t) := by
 obtain ⟨m1, m2, m3⟩ := VK h1
 intro r
 induction r with
 | nil =>
  intro p z k hp hz hf hk
  obtain ⟨k, rfl⟩ : ∃ j, k = j + 1 := ⟨k - 1, by omega⟩
  have c1 : ¬ (p.length : Int) < (d.1.length : Int) := by rw [hp]; simp
  simp only [List.foldl_nil] at hf
  subst hf
  have zz := VfJ h1
  have hb := Vev d.2.1 d.1 (zonL d.1) (inB_iff.1 ht)
  simp only [Q7.l5, Q7.g5, c1, and_self, and_true, true_and, decide_true, decide_false, if_true, if_false, Vc, Vd, Va, Vb, Ve, Option.bind_some, Bool.not_true, Bool.not_false, Bool.false_eq_true, Bool.true_eq_false, beq_self_eq_true, bne_self_eq_false, Int.toNat_natCast]
  rw [Qci h2 h1 (zonL d.1) (by have := zz.len; omega) [t] (by simp) (fun x hx => by rw [List.mem_singleton.1 hx]; exact inB_iff.1 ht), Option.bind_some]
  unfold firV
  rw [if_pos ht, List.map_singleton]
  generalize firT d.2.1 d.1 (zonL d.1) t = x at *
  have g1 : ([x] : List Int).getD (0 : Int).toNat 0 = x := rfl
  have l2 : (0 : Int) < (([x] : List Int).length : Int) := by simp
  simp only [l2, g1, Int.le_refl, and_self, and_true, true_and, decide_true, decide_false, if_true, if_false, Vc, Vd, Va, Vb, Ve, Option.bind_some, Bool.not_true, Bool.not_false, Bool.false_eq_true, Bool.true_eq_false, beq_self_eq_true, bne_self_eq_false, Int.toNat_natCast]
  by_cases hx : x < 0
  ·simp only [hx, and_self, and_true, true_and, decide_true, decide_false, if_true, if_false, Vc, Vd, Va, Vb, Ve, Option.bind_some, Bool.not_true, Bool.not_false, Bool.false_eq_true, Bool.true_eq_false, beq_self_eq_true, bne_self_eq_false, Int.toNat_natCast]
  ·simp only [hx, and_self, and_true, true_and, decide_true, decide_false, if_true, if_false, Vc, Vd, Va, Vb, Ve, Option.bind_some, Bool.not_true, Bool.not_false, Bool.false_eq_true, Bool.true_eq_false, beq_self_eq_true, bne_self_eq_false, Int.toNat_natCast]
   rw [Qbt (by omega) (by omega)]; rfl
 | cons m r ih =>
  intro p z k hp hz hf hk
  simp only [List.length_cons] at hk
  obtain ⟨k, rfl⟩ : ∃ j, k = j + 1 := ⟨k - 1, by omega⟩
  have hpl : p.length ≤ 40 := by rw [hp] at m1; simp at m1; omega
  have c0 : (0 : Int) ≤ (p.length : Int) := by omega
  have c1 : (p.length : Int) < (d.1.length : Int) := by rw [hp]; simp; omega
  have cw := w64 (n := (p.length : Int) + 1) (by omega) (by omega)
  have g : ∀ w, d.1.getD p.length w = m := fun w => by rw [hp]; exact Va p r m w
  have hm := m3 m (by rw [hp]; simp)
  have i := ih (p ++ [m]) (zonF z m) k (by rw [hp, Vn]) (Veu hz hm) (by simpa using hf) (by omega)
  rw [Vo] at i
  simp only [Q7.l5, Q7.g5, c0, c1, cw, g, and_self, and_true, true_and, decide_true, decide_false, if_true, if_false, Vc, Vd, Va, Vb, Ve, Option.bind_some, Bool.not_true, Bool.not_false, Bool.false_eq_true, Bool.true_eq_false, beq_self_eq_true, bne_self_eq_false, Int.toNat_natCast]
  rw [Qce z m.2.1 (by have := hz.len; omega), Option.bind_some]
  exact i
theorem Qc8 {d : Dsk} (h1 : Vy d.1 = true) (h2 : sigsB d.2.1 = true) (t : Int) : Q7.f d t = some (firV d t) := by
 obtain ⟨m1, m2, m3⟩ := VK h1
 unfold Q7.f Q7.fn Q7.top
 rw [QbI, Option.bind_some]
 by_cases ht : inB t 0 10000000 = true
 ·rw [ht]
  exact Qc7 h1 h2 t ht d.1 [] [] NN rfl VfI rfl (NN_lt (by omega))
 ·have ht' : inB t 0 10000000 = false := by simpa using ht
  unfold firV
  rw [ht']; rfl
theorem Vjp (d : Dsk) (t : Int) : ((firV d t).2 = 0 ∨ (firV d t).2 = 1) ∧ (firV d t).1.size ≤ 100 := by
 unfold firV
 split
 ·rename_i h
  have hb := Vev d.2.1 d.1 (zonL d.1) (inB_iff.1 h)
  refine ⟨.inl rfl, ?_⟩
  split
  ·decide
  ·exact Nat.le_trans (Vbd (by omega) (by omega)) (by omega)
 ·exact ⟨.inr rfl, by decide⟩
theorem Vg3 (sep : ByteArray) (hs : sep.size ≤ 1) : ∀ (xs : List ByteArray) (i : Nat) (st : ByteArray), (∀ w ∈ xs, w.size ≤ 16) → (foldi (joinF sep) i st xs).size ≤ st.size + 17 * xs.length := by
 intro xs
 induction xs with
 | nil => intro i st _; simp [foldi]
 | cons w r ih =>
  intro i st h
  have hw := h w (by simp)
  have i1 := ih (i + 1) (joinF sep i st w) (fun x hx => h x (by simp [hx]))
  have h2 : (joinF sep i st w).size ≤ st.size + 17 := by
   unfold joinF
   split <;> simp only [ByteArray.size_append] <;> omega
  simp only [foldi, List.length_cons]
  omega
end Go.Pl

namespace Go.Pl
open Go.Ev
set_option linter.unusedVariables false
set_option linter.unusedSimpArgs false
noncomputable def cmdW : List ByteArray → Option (List ByteArray × List Int)
 | [] => none
 | w0 :: ws => match shpL w0 with
  | some l => if ws.length = l.length then prs l ws else none
  | none => none
def wErr : ByteArray := ⟨#[101, 114, 114, 111, 114, 32]⟩
def wOk : ByteArray := ⟨#[111, 107]⟩
def errT (e : Int) : ByteArray := wErr ++ decB e
def finR (d d' : Dsk) (o : ByteArray) (e : Int) : Dsk × ByteArray := if e = 0 then (d', o) else (d, errT e)
theorem VhU : wErr.size = 6 := by decide
theorem VeN {e : Int} (h : 0 ≤ e ∧ e ≤ 20) : (errT e).size ≤ 26 := by
 have := Vbd (n := e) (by omega) (by omega)
 have := VhU
 unfold errT
 rw [ByteArray.size_append]; omega
theorem VcX {e : Int} (h : 0 ≤ e ∧ e ≤ 20) : (⟨#[101, 114, 114, 111, 114, 32]⟩ : ByteArray).size + (decB e).size ≤ 9223372036854775807 := by
 have := Vbd (n := e) (by omega) (by omega)
 have h2 : (⟨#[101, 114, 114, 111, 114, 32]⟩ : ByteArray).size = 6 := by decide
 omega
theorem VfK {d d' : Dsk} {o : ByteArray} {e : Int} (he : 0 ≤ e ∧ e ≤ 20) : (if (e != 0) = true then (Qf.f e).bind fun r4 => if (⟨#[101, 114, 114, 111, 114, 32]⟩ : ByteArray).size + r4.size ≤ 9223372036854775807 then some (d, (⟨#[101, 114, 114, 111, 114, 32]⟩ : ByteArray) ++ r4) else none else some (d', o)) = some (finR d d' o e) := by
 unfold finR
 by_cases h : e = 0
 ·subst h; rfl
 ·rw [if_pos (by simpa using h), if_neg h, Qbt (by omega) (by omega), Option.bind_some, if_pos (VcX he)]; rfl
theorem Vm {α β : Type} {x : Option α} {v : α} {f : α → Option β} {r : Option β} (h : x = some v) (h2 : f v = r) : x.bind f = r := by subst h; exact h2
theorem Vby {d d' : Dsk} {line w0 : ByteArray} {ws : List ByteArray} {n : List Int} {e : Int} (hp : Qs.f line = some (w0 :: ws, (n, true))) (hw : w0 = Vaz ∨ w0 = Vaj ∨ w0 = wBook ∨ w0 = VaA) (h : Qam.f d (w0 :: ws) n = some (d', e)) (he : 0 ≤ e ∧ e ≤ 20) : QF.f d line = some (finR d d' wOk e) := by
 have hr := VfK (d := d) (d' := d') (o := wOk) he
 have c0 : (0 : Int) ≤ 0 ∧ (0 : Int) < ((w0 :: ws).length : Int) := ⟨by omega, by simp⟩
 have g0 : (w0 :: ws).getD (0 : Int).toNat ByteArray.empty = w0 := rfl
 unfold QF.f QF.fn QF.top
 rw [hp, Option.bind_some]
 simp only [Bool.not_true, Bool.false_eq_true, if_false]
 rw [if_pos c0]
 simp only [g0]
 rcases hw with rfl | rfl | rfl | rfl
 ·rw [if_pos (by decide +kernel), if_pos (by decide +kernel), h]; exact hr
 ·rw [if_neg (by decide +kernel), if_pos (by decide +kernel), if_pos (by decide +kernel), h]; exact hr
 ·rw [if_neg (by decide +kernel), if_neg (by decide +kernel), if_pos (by decide +kernel), if_pos (by decide +kernel), h]; exact hr
 ·rw [if_neg (by decide +kernel), if_neg (by decide +kernel), if_neg (by decide +kernel), if_pos (by decide +kernel), h]; exact hr
theorem VaC {d : Dsk} {line w0 : ByteArray} {ws : List ByteArray} {n : List Int} {o : ByteArray} {e : Int} (hp : Qs.f line = some (w0 :: ws, (n, true))) (hw : w0 = Vbe ∨ w0 = Vbf ∨ w0 = wFire ∨ w0 = wTop ∨ w0 = wTime ∨ w0 = wLeft ∨ w0 = wOpen ∨ w0 = wNeed) (h : Qah.f d (w0 :: ws) n = some (o, e)) (he : 0 ≤ e ∧ e ≤ 20) : QF.f d line = some (finR d d o e) := by
 have hr := VfK (d := d) (d' := d) (o := o) he
 have c0 : (0 : Int) ≤ 0 ∧ (0 : Int) < ((w0 :: ws).length : Int) := ⟨by omega, by simp⟩
 have g0 : (w0 :: ws).getD (0 : Int).toNat ByteArray.empty = w0 := rfl
 unfold QF.f QF.fn QF.top
 rw [hp, Option.bind_some]
 simp only [Bool.not_true, Bool.false_eq_true, if_false]
 rw [if_pos c0]
 simp only [g0]
 rcases hw with rfl | rfl | rfl | rfl | rfl | rfl | rfl | rfl <;>
  (rw [if_neg (by decide +kernel), if_neg (by decide +kernel), if_neg (by decide +kernel), if_neg (by decide +kernel), h]; exact hr)
theorem gd0 {α : Type} (a : α) (l : List α) (z : α) : (a :: l).getD (0 : Int).toNat z = a := rfl
theorem gd1 {α : Type} (a b : α) (l : List α) (z : α) : (a :: b :: l).getD (1 : Int).toNat z = b := rfl
theorem gd2 {α : Type} (a b c : α) (l : List α) (z : α) : (a :: b :: c :: l).getD (2 : Int).toNat z = c := rfl
theorem ln0 {α : Type} (a : α) (l : List α) : ((0 : Int) ≤ 0 ∧ (0 : Int) < ((a :: l).length : Int)) = True := eq_true ⟨by omega, by simp⟩
theorem ln1 {α : Type} (a b : α) (l : List α) : ((0 : Int) ≤ 1 ∧ (1 : Int) < ((a :: b :: l).length : Int)) = True := eq_true ⟨by omega, by simp; omega⟩
theorem ln2 {α : Type} (a b c : α) (l : List α) : ((0 : Int) ≤ 2 ∧ (2 : Int) < ((a :: b :: c :: l).length : Int)) = True := eq_true ⟨by omega, by simp; omega⟩
def Exe (d : Dsk) (line : ByteArray) (c : ByteArray × List ByteArray × List Int) : Prop :=
 ∃ (d' : Dsk) (o : ByteArray) (e : Int), Qe.f d c = some (d', o, e) ∧ QF.f d line = some (finR d d' o e) ∧ (e = 0 → deskB d' = true) ∧ (0 ≤ e ∧ e ≤ 20) ∧ o.size ≤ 10000
theorem desk_iff {d : Dsk} : deskB d = true ↔ Vy d.1 = true ∧ sigsB d.2.1 = true ∧ Vw d.2.2 = true := by
 unfold deskB; simp only [Bool.and_eq_true]
theorem Vdv {xs : List Mov} (h : Vy xs = true) : xs.length ≤ 1000000 ∧ ∀ m ∈ xs, Sz m.2.1 := by
 obtain ⟨m1, m2, m3⟩ := VK h
 exact ⟨by omega, fun m hm => Nat.le_trans (Vah (Vaa (m3 m hm)).2.1).2 (by omega)⟩
theorem VbQ {xs : List Bkg} (h : Vw xs = true) : Lm Vs xs := by
 have hv := VN h
 refine ⟨by omega, fun b hb => ?_⟩
 have h1 := VaT (hv.1 b hb)
 have h2 := hv.1 b hb
 unfold valB at h2
 simp only [Bool.and_eq_true] at h2
 exact ⟨wf64.2 (by omega), Nat.le_trans (Vah h2.1.2).2 (by omega), wf64.2 (by omega)⟩
theorem VhV {d : Dsk} (hd : deskB d = true) {line w1 w2 w3 : ByteArray} {a b : Int} (hz : w1.size ≤ 1000000) (hp : Qs.f line = some ([Vaz, w1, w2, w3], ([a, b], true))) : Exe d line (Vaz, ([w1], [a, b])) := by
 obtain ⟨h1, h2, h3⟩ := desk_iff.1 hd
 obtain ⟨s1, s2⟩ := Vdv h1
 obtain ⟨b1, b2⟩ := VcI d.1 (a, (w1, b)) s1 s2 (Nat.le_trans hz (by omega))
 have hc : ((amR d.1 (a, (w1, b))).2 = 0 → Vy (amR d.1 (a, (w1, b))).1 = true) ∧ 0 ≤ (amR d.1 (a, (w1, b))).2 ∧ (amR d.1 (a, (w1, b))).2 ≤ 20 := by
  unfold amR
  repeat' split
  all_goals simp_all
 refine ⟨((amR d.1 (a, (w1, b))).1, d.2), wOk, (amR d.1 (a, (w1, b))).2, ?_, ?_, fun h => desk_iff.2 ⟨hc.1 h, h2, h3⟩, hc.2, by decide⟩
 ·unfold Qe.f Qe.fn Qe.top
  simp only [gd0, gd1, gd2, ln0, ln1, ln2, if_true]
  rw [if_pos (by decide +kernel)]
  exact Vm (b2) rfl
 ·have hs : Qam.f d [Vaz, w1, w2, w3] [a, b] = some (if (amR d.1 (a, (w1, b))).2 = 0 then ((amR d.1 (a, (w1, b))).1, d.2) else d, (amR d.1 (a, (w1, b))).2) := by
   unfold Qam.f Qam.fn Qam.top
   simp only [gd0, gd1, gd2, ln0, ln1, ln2, if_true]
   rw [if_pos (by decide +kernel)]
   refine Vm (b1) ?_
   try dsimp only
   by_cases h : (amR d.1 (a, (w1, b))).2 = 0
   ·rw [if_pos (by simpa using h), if_pos h]
   ·rw [if_neg (by simpa using h), if_neg h]
  rw [Vby hp (.inl rfl) hs hc.2]
  unfold finR
  by_cases h : (amR d.1 (a, (w1, b))).2 = 0
  ·rw [if_pos h, if_pos h, if_pos h]
  ·rw [if_neg h, if_neg h]
theorem ViC {d : Dsk} (hd : deskB d = true) {line w1 w2 : ByteArray} {a : Int} (hz : w1.size ≤ 1000000) (hp : Qs.f line = some ([Vbe, w1, w2], ([a], true))) : Exe d line (Vbe, ([w1], [a])) := by
 obtain ⟨h1, h2, h3⟩ := desk_iff.1 hd
 obtain ⟨s1, s2⟩ := Vdv h1
 obtain ⟨b1, b2⟩ := VfH d.1 w1 a s1 s2 (Nat.le_trans hz (by omega))
 have hc : 0 ≤ (icR d.1 w1 a).2 ∧ (icR d.1 w1 a).2 ≤ 20 := by
  unfold icR
  repeat' split
  all_goals simp
 refine ⟨d, (if (icR d.1 w1 a).1 = true then ⟨#[121, 101, 115]⟩ else ⟨#[110, 111]⟩), (icR d.1 w1 a).2, ?_, ?_, fun _ => hd, hc, by split <;> decide⟩
 ·unfold Qe.f Qe.fn Qe.top
  simp only [gd0, gd1, gd2, ln0, ln1, ln2, if_true]
  rw [if_neg (by decide +kernel), if_pos (by decide +kernel)]
  refine Vm (b2) ?_
  try dsimp only
  cases (icR d.1 w1 a).1 <;> rfl
 ·refine VaC hp (.inl rfl) ?_ hc
  unfold Qah.f Qah.fn Qah.top
  simp only [gd0, gd1, gd2, ln0, ln1, ln2, if_true]
  rw [if_pos (by decide +kernel)]
  refine Vm (b1) ?_
  try dsimp only
  cases (icR d.1 w1 a).1 <;> rfl
theorem VhW {d : Dsk} (hd : deskB d = true) {line w1 w2 : ByteArray} {a : Int} (hp : Qs.f line = some ([Vaj, w1, w2], ([a], true))) : Exe d line (Vaj, ([w1], [a])) := by
 obtain ⟨h1, h2, h3⟩ := desk_iff.1 hd
 have hs1 := (Vaf h2).1
 obtain ⟨ws, q1, q2, q3⟩ := Vg2
 have hb := Vgw ws w1
 obtain ⟨b1, b2⟩ := Veq d.2.1 (a, idxW ws w1) (by omega)
 have hc : ((asR d.2.1 (a, idxW ws w1)).2 = 0 → sigsB (asR d.2.1 (a, idxW ws w1)).1 = true) ∧ 0 ≤ (asR d.2.1 (a, idxW ws w1)).2 ∧ (asR d.2.1 (a, idxW ws w1)).2 ≤ 20 := by
  unfold asR fin5
  repeat' split
  all_goals simp_all
 by_cases hi : idxW ws w1 < 0
 ·refine ⟨d, ⟨#[]⟩, 6, ?_, ?_, fun h => absurd h (by decide), by decide, by decide⟩
  ·unfold Qe.f Qe.fn Qe.top
   simp only [gd0, gd1, gd2, ln0, ln1, ln2, if_true]
   rw [if_neg (by decide +kernel), if_neg (by decide +kernel), if_pos (by decide +kernel), q1, Option.bind_some]
   refine Vm ((Qb7 ws w1 (by omega))) ?_
   try dsimp only
   rw [if_pos (decide_eq_true hi)]
  ·have hs : Qam.f d [Vaj, w1, w2] [a] = some (d, 6) := by
    unfold Qam.f Qam.fn Qam.top
    simp only [gd0, gd1, gd2, ln0, ln1, ln2, if_true]
    rw [if_neg (by decide +kernel), if_pos (by decide +kernel), q2, Option.bind_some]
    refine Vm ((Qca ws w1 (by omega))) ?_
    try dsimp only
    rw [if_pos (decide_eq_true hi)]
   rw [Vby hp (.inr (.inl rfl)) hs (by decide)]
   unfold finR
   rw [if_neg (by decide), if_neg (by decide)]
 ·refine ⟨(d.1, ((asR d.2.1 (a, idxW ws w1)).1, d.2.2)), wOk, (asR d.2.1 (a, idxW ws w1)).2, ?_, ?_, fun h => desk_iff.2 ⟨h1, hc.1 h, h3⟩, hc.2, by decide⟩
  ·unfold Qe.f Qe.fn Qe.top
   simp only [gd0, gd1, gd2, ln0, ln1, ln2, if_true]
   rw [if_neg (by decide +kernel), if_neg (by decide +kernel), if_pos (by decide +kernel), q1, Option.bind_some]
   refine Vm ((Qb7 ws w1 (by omega))) ?_
   try dsimp only
   rw [if_neg (by simpa using hi)]
   exact Vm (b2) rfl
  ·have hs : Qam.f d [Vaj, w1, w2] [a] = some (if (asR d.2.1 (a, idxW ws w1)).2 = 0 then (d.1, ((asR d.2.1 (a, idxW ws w1)).1, d.2.2)) else d, (asR d.2.1 (a, idxW ws w1)).2) := by
    unfold Qam.f Qam.fn Qam.top
    simp only [gd0, gd1, gd2, ln0, ln1, ln2, if_true]
    rw [if_neg (by decide +kernel), if_pos (by decide +kernel), q2, Option.bind_some]
    refine Vm ((Qca ws w1 (by omega))) ?_
    try dsimp only
    rw [if_neg (by simpa using hi)]
    refine Vm (b1) ?_
    try dsimp only
    by_cases h : (asR d.2.1 (a, idxW ws w1)).2 = 0
    ·rw [if_pos (by simpa using h), if_pos h]
    ·rw [if_neg (by simpa using h), if_neg h]
   rw [Vby hp (.inr (.inl rfl)) hs hc.2]
   unfold finR
   by_cases h : (asR d.2.1 (a, idxW ws w1)).2 = 0
   ·rw [if_pos h, if_pos h, if_pos h]
   ·rw [if_neg h, if_neg h]
theorem ViD {d : Dsk} (hd : deskB d = true) {line w1 : ByteArray} {a : Int} (hp : Qs.f line = some ([Vbf, w1], ([a], true))) : Exe d line (Vbf, ([], [a])) := by
 obtain ⟨h1, h2, h3⟩ := desk_iff.1 hd
 have hs1 := (Vaf h2).1
 obtain ⟨b1, b2⟩ := Vbk d.2.1 a (by omega)
 have hc : 0 ≤ (caR d.2.1 a).2 ∧ (caR d.2.1 a).2 ≤ 20 := by
  unfold caR
  repeat' split
  all_goals simp
 refine ⟨d, sttW (caR d.2.1 a).1, (caR d.2.1 a).2, ?_, ?_, fun _ => hd, hc, Nat.le_trans (VhT _) (by omega)⟩
 ·unfold Qe.f Qe.fn Qe.top
  simp only [gd0, gd1, gd2, ln0, ln1, ln2, if_true]
  rw [if_neg (by decide +kernel), if_neg (by decide +kernel), if_neg (by decide +kernel), if_pos (by decide +kernel)]
  refine Vm (b2) ?_
  try dsimp only
  rw [QcF]; rfl
 ·refine VaC hp (.inr (.inl rfl)) ?_ hc
  unfold Qah.f Qah.fn Qah.top
  simp only [gd0, gd1, gd2, ln0, ln1, ln2, if_true]
  rw [if_neg (by decide +kernel), if_pos (by decide +kernel)]
  exact Vm ((QcW d a (by omega))) rfl
theorem Vjq {d : Dsk} (hd : deskB d = true) {line w1 : ByteArray} {a : Int} (hp : Qs.f line = some ([wFire, w1], ([a], true))) : Exe d line (wFire, ([], [a])) := by
 obtain ⟨h1, h2, h3⟩ := desk_iff.1 hd
 have hv := Vjp d a
 have hc : 0 ≤ (firV d a).2 ∧ (firV d a).2 ≤ 20 := by rcases hv.1 with h | h <;> omega
 refine ⟨d, (firV d a).1, (firV d a).2, ?_, ?_, fun _ => hd, hc, by omega⟩
 ·unfold Qe.f Qe.fn Qe.top
  simp only [gd0, gd1, gd2, ln0, ln1, ln2, if_true]
  rw [if_neg (by decide +kernel), if_neg (by decide +kernel), if_neg (by decide +kernel), if_neg (by decide +kernel), if_pos (by decide +kernel)]
  exact Qdf h1 h2 a (wFire, ([], [a])) rfl d.1 [] [] NN rfl VfI rfl (NN_lt (by have := (VK h1).1; omega))
 ·refine VaC hp (.inr (.inr (.inl rfl))) ?_ hc
  unfold Qah.f Qah.fn Qah.top
  simp only [gd0, gd1, gd2, ln0, ln1, ln2, if_true]
  rw [if_neg (by decide +kernel), if_neg (by decide +kernel), if_pos (by decide +kernel)]
  exact Vm ((Qc8 h1 h2 a)) rfl
end Go.Pl

namespace Go.Pl
open Go.Ev
set_option linter.unusedVariables false
set_option linter.unusedSimpArgs false
theorem VX {n : Int} (h0 : 0 ≤ n) (h : n ≤ 1000000000000000) : Qg.f n = some (decB n) ∧ Qf.f n = some (decB n) ∧ (decB n).size ≤ 20 := ⟨QbS (by omega) (by omega), Qbt h0 (by omega), Vbd (by omega) (by omega)⟩
def bookW : List ByteArray := [(⟨#[105, 110]⟩ : ByteArray), (⟨#[102, 105, 114, 101, 100]⟩ : ByteArray), (⟨#[114, 101, 116, 117, 114, 110, 101, 100]⟩ : ByteArray), (⟨#[100, 101, 115, 116, 114, 111, 121, 101, 100]⟩ : ByteArray)]
theorem Vjr {d : Dsk} (hd : deskB d = true) {line w1 w2 w3 : ByteArray} {a : Int} (hz : w2.size ≤ 1000000) (ha : -10000000000000 ≤ a ∧ a ≤ 10000000000000) (hp : Qs.f line = some ([wBook, w1, w2, w3], ([a], true))) : Exe d line (wBook, ([w1, w2], [a])) := by
 obtain ⟨h1, h2, h3⟩ := desk_iff.1 hd
 have hl := (VN h3).2
 have hb := Vgw bookW w1
 have hbl : bookW.length = 4 := rfl
 have p1 := Qb7 bookW w1 (by rw [hbl]; omega)
 have p2 := Qca bookW w1 (by rw [hbl]; omega)
 by_cases hi : idxW bookW w1 < 0
 ·refine ⟨d, ⟨#[]⟩, 6, ?_, ?_, fun h => absurd h (by decide), by decide, by decide⟩
  ·unfold Qe.f Qe.fn Qe.top
   simp only [gd0, gd1, gd2, ln0, ln1, ln2, if_true]
   rw [if_neg (by decide +kernel), if_neg (by decide +kernel), if_neg (by decide +kernel), if_neg (by decide +kernel), if_neg (by decide +kernel), if_pos (by decide +kernel)]
   refine Vm p1 ?_
   try dsimp only
   rw [if_pos (decide_eq_true hi)]
  ·have hs : Qam.f d [wBook, w1, w2, w3] [a] = some (d, 6) := by
    unfold Qam.f Qam.fn Qam.top
    simp only [gd0, gd1, gd2, ln0, ln1, ln2, if_true]
    rw [if_neg (by decide +kernel), if_neg (by decide +kernel), if_pos (by decide +kernel)]
    refine Vm p2 ?_
    try dsimp only
    rw [if_pos (decide_eq_true hi)]
   rw [Vby hp (.inr (.inr (.inl rfl))) hs (by decide)]
   unfold finR
   rw [if_neg (by decide), if_neg (by decide)]
 ·have hok : Vs (idxW bookW w1, (w2, a)) := ⟨wf64.2 (by simp only; omega), hz, wf64.2 (by simp only; omega)⟩
  have hlm := VbQ h3
  have b1 := Qcd d.2.2 (idxW bookW w1, (w2, a)) hlm hok
  have b2 := Qcy d.2.2 (idxW bookW w1, (w2, a)) hlm hok
  have hc : ((bookR d.2.2 (idxW bookW w1, (w2, a))).2 = 0 → Vw (bookR d.2.2 (idxW bookW w1, (w2, a))).1 = true) ∧ 0 ≤ (bookR d.2.2 (idxW bookW w1, (w2, a))).2 ∧ (bookR d.2.2 (idxW bookW w1, (w2, a))).2 ≤ 20 := by
   unfold bookR
   repeat' split
   all_goals simp_all
  generalize bookR d.2.2 (idxW bookW w1, (w2, a)) = R at *
  refine ⟨(d.1, (d.2.1, R.1)), wOk, R.2, ?_, ?_, fun h => desk_iff.2 ⟨h1, h2, hc.1 h⟩, hc.2, by decide⟩
  ·unfold Qe.f Qe.fn Qe.top
   simp only [gd0, gd1, gd2, ln0, ln1, ln2, if_true]
   rw [if_neg (by decide +kernel), if_neg (by decide +kernel), if_neg (by decide +kernel), if_neg (by decide +kernel), if_neg (by decide +kernel), if_pos (by decide +kernel)]
   refine Vm p1 ?_
   try dsimp only
   rw [if_neg (by simpa using hi)]
   exact Vm b2 rfl
  ·have hs : Qam.f d [wBook, w1, w2, w3] [a] = some (if R.2 = 0 then (d.1, (d.2.1, R.1)) else d, R.2) := by
    unfold Qam.f Qam.fn Qam.top
    simp only [gd0, gd1, gd2, ln0, ln1, ln2, if_true]
    rw [if_neg (by decide +kernel), if_neg (by decide +kernel), if_pos (by decide +kernel)]
    refine Vm p2 ?_
    try dsimp only
    rw [if_neg (by simpa using hi)]
    refine Vm b1 ?_
    try dsimp only
    by_cases h : R.2 = 0
    ·rw [if_pos (by simpa using h), if_pos h]
    ·rw [if_neg (by simpa using h), if_neg h]
   rw [Vby hp (.inr (.inr (.inl rfl))) hs hc.2]
   unfold finR
   by_cases h : R.2 = 0
   ·rw [if_pos h, if_pos h, if_pos h]
   ·rw [if_neg h, if_neg h]
theorem VhX {d : Dsk} (hd : deskB d = true) {line w1 : ByteArray} {a : Int} (hp : Qs.f line = some ([VaA, w1], ([a], true))) : Exe d line (VaA, ([], [a])) := by
 obtain ⟨h1, h2, h3⟩ := desk_iff.1 hd
 obtain ⟨b1, b2⟩ := Ves d.2.2 a (VbQ h3)
 have hc : ((stlR d.2.2 a).2 = 0 → Vw (stlR d.2.2 a).1 = true) ∧ 0 ≤ (stlR d.2.2 a).2 ∧ (stlR d.2.2 a).2 ≤ 20 := by
  unfold stlR limS
  repeat' split
  all_goals simp_all
 generalize stlR d.2.2 a = R at *
 refine ⟨(d.1, (d.2.1, R.1)), wOk, R.2, ?_, ?_, fun h => desk_iff.2 ⟨h1, h2, hc.1 h⟩, hc.2, by decide⟩
 ·unfold Qe.f Qe.fn Qe.top
  simp only [gd0, gd1, gd2, ln0, ln1, ln2, if_true]
  rw [if_neg (by decide +kernel), if_neg (by decide +kernel), if_neg (by decide +kernel), if_neg (by decide +kernel), if_neg (by decide +kernel), if_neg (by decide +kernel), if_neg (by decide +kernel), if_neg (by decide +kernel), if_pos (by decide +kernel)]
  exact Vm b2 rfl
 ·have hs : Qam.f d [VaA, w1] [a] = some (if R.2 = 0 then (d.1, (d.2.1, R.1)) else d, R.2) := by
   unfold Qam.f Qam.fn Qam.top
   simp only [gd0, gd1, gd2, ln0, ln1, ln2, if_true]
   rw [if_neg (by decide +kernel), if_neg (by decide +kernel), if_neg (by decide +kernel)]
   refine Vm b1 ?_
   try dsimp only
   by_cases h : R.2 = 0
   ·rw [if_pos (by simpa using h), if_pos h]
   ·rw [if_neg (by simpa using h), if_neg h]
  rw [Vby hp (.inr (.inr (.inr rfl))) hs hc.2]
  unfold finR
  by_cases h : R.2 = 0
  ·rw [if_pos h, if_pos h, if_pos h]
  ·rw [if_neg h, if_neg h]
theorem Vjs {d : Dsk} (hd : deskB d = true) {line w1 : ByteArray} (hz : w1.size ≤ 1000000) (hp : Qs.f line = some ([wLeft, w1], ([], true))) : Exe d line (wLeft, ([w1], [])) := by
 obtain ⟨h1, h2, h3⟩ := desk_iff.1 hd
 obtain ⟨b1, b2⟩ := Vd4 d.2.2 w1 (VbQ h3) hz
 have hv := VN h3
 have hle := VbN w1 d.2.2 hv.1
 have h0 := (Vjk d.2.2 w1 h3).1
 have hc : (0 ≤ (leftR d.2.2 w1).1 ∧ (leftR d.2.2 w1).1 ≤ 1000000) ∧ 0 ≤ (leftR d.2.2 w1).2 ∧ (leftR d.2.2 w1).2 ≤ 20 := by
  unfold leftR
  split <;> simp only <;> omega
 generalize leftR d.2.2 w1 = R at *
 obtain ⟨d1, d2, d3⟩ := VX (n := R.1) hc.1.1 (by omega)
 refine ⟨d, decB R.1, R.2, ?_, ?_, fun _ => hd, hc.2, by omega⟩
 ·unfold Qe.f Qe.fn Qe.top
  simp only [gd0, gd1, gd2, ln0, ln1, ln2, if_true]
  rw [if_neg (by decide +kernel), if_neg (by decide +kernel), if_neg (by decide +kernel), if_neg (by decide +kernel), if_neg (by decide +kernel), if_neg (by decide +kernel), if_pos (by decide +kernel)]
  exact Vm b2 (Vm d1 rfl)
 ·refine VaC hp (.inr (.inr (.inr (.inr (.inr (.inl rfl)))))) ?_ hc.2
  unfold Qah.f Qah.fn Qah.top
  simp only [gd0, gd1, gd2, ln0, ln1, ln2, if_true]
  rw [if_neg (by decide +kernel), if_neg (by decide +kernel), if_neg (by decide +kernel), if_pos (by decide +kernel)]
  exact Vm b1 (Vm d2 rfl)
theorem lf0 {α : Type} : ((0 : Int) ≤ 0 ∧ (0 : Int) < (([] : List α).length : Int)) = False := eq_false (fun h => by simp at h)
theorem lf1 {α : Type} : ((0 : Int) ≤ 1 ∧ (1 : Int) < (([] : List α).length : Int)) = False := eq_false (fun h => by simp at h)
theorem lf2 {α : Type} (a : α) : ((0 : Int) ≤ 1 ∧ (1 : Int) < (([a] : List α).length : Int)) = False := eq_false (fun h => by simp at h)
theorem Vjt {d : Dsk} (hd : deskB d = true) {line : ByteArray} (hp : Qs.f line = some ([wOpen], ([], true))) : Exe d line (wOpen, ([], [])) := by
 obtain ⟨h1, h2, h3⟩ := desk_iff.1 hd
 have hv := VN h3
 obtain ⟨o1, b2, b1⟩ := VbP d.2.2 hv.1 (by omega)
 have hw : ∀ w ∈ openL d.2.2, w.size ≤ 16 := fun w hw => by
  obtain ⟨⟨b, hb, e⟩, _⟩ := (o1.mem w).1 hw
  have := hv.1 b hb
  unfold valB at this
  simp only [Bool.and_eq_true] at this
  rw [← e]; exact (Vah this.1.2).2
 have hln := o1.len
 generalize openL d.2.2 = L at *
 by_cases hL : L = []
 ·subst hL
  refine ⟨d, ⟨#[45]⟩, 0, ?_, ?_, fun _ => hd, by decide, by decide⟩
  ·unfold Qe.f Qe.fn Qe.top
   simp only [gd0, gd1, gd2, ln0, ln1, ln2, lf0, lf1, lf2, if_true, if_false]
   rw [if_neg (by decide +kernel), if_neg (by decide +kernel), if_neg (by decide +kernel), if_neg (by decide +kernel), if_neg (by decide +kernel), if_neg (by decide +kernel), if_neg (by decide +kernel), if_pos (by decide +kernel)]
   exact Vm b2 rfl
  ·refine VaC hp (.inr (.inr (.inr (.inr (.inr (.inr (.inl rfl))))))) ?_ (by decide)
   unfold Qah.f Qah.fn Qah.top
   simp only [gd0, gd1, gd2, ln0, ln1, ln2, lf0, lf1, lf2, if_true, if_false]
   rw [if_neg (by decide +kernel), if_neg (by decide +kernel), if_neg (by decide +kernel), if_neg (by decide +kernel), if_pos (by decide +kernel)]
   exact Vm b1 rfl
 ·have hne : ((L.length : Int) == 0) = false := by
   rw [len0]; simpa using hL
  have hcs : (⟨#[44]⟩ : ByteArray).size = 1 := by decide
  have j1 := QcJ L (⟨#[44]⟩ : ByteArray) (fun s hs => by have := hw s hs; omega) (by omega) (by omega)
  have j2 := QcK L (⟨#[44]⟩ : ByteArray) (fun s hs => by have := hw s hs; omega) (by omega) (by omega)
  have hsz : (joinB (⟨#[44]⟩ : ByteArray) L).size ≤ 10000 := by
   have := Vg3 (⟨#[44]⟩ : ByteArray) (by omega) L 0 (⟨#[]⟩ : ByteArray) hw
   have e0 : (⟨#[]⟩ : ByteArray).size = 0 := by decide
   unfold joinB; omega
  refine ⟨d, joinB (⟨#[44]⟩ : ByteArray) L, 0, ?_, ?_, fun _ => hd, by decide, hsz⟩
  ·unfold Qe.f Qe.fn Qe.top
   simp only [gd0, gd1, gd2, ln0, ln1, ln2, lf0, lf1, lf2, if_true, if_false]
   rw [if_neg (by decide +kernel), if_neg (by decide +kernel), if_neg (by decide +kernel), if_neg (by decide +kernel), if_neg (by decide +kernel), if_neg (by decide +kernel), if_neg (by decide +kernel), if_pos (by decide +kernel)]
   refine Vm b2 ?_
   try dsimp only
   rw [hne, if_neg (by simp)]
   exact Vm j1.1 rfl
  ·refine VaC hp (.inr (.inr (.inr (.inr (.inr (.inr (.inl rfl))))))) ?_ (by decide)
   unfold Qah.f Qah.fn Qah.top
   simp only [gd0, gd1, gd2, ln0, ln1, ln2, lf0, lf1, lf2, if_true, if_false]
   rw [if_neg (by decide +kernel), if_neg (by decide +kernel), if_neg (by decide +kernel), if_neg (by decide +kernel), if_pos (by decide +kernel)]
   refine Vm b1 ?_
   try dsimp only
   rw [hne, if_neg (by simp)]
   exact Vm j2.1 rfl
theorem VjK {d : Dsk} (hd : deskB d = true) {line w1 : ByteArray} {a : Int} (hp : Qs.f line = some ([wTop, w1], ([a], true))) : Exe d line (wTop, ([], [a])) := by
 obtain ⟨b1, b2, b3, b4, b5⟩ := Vg0 a
 have hc : 0 ≤ (topR a).2.2 ∧ (topR a).2.2 ≤ 20 := by
  have : (topR a).2.2 = 0 ∨ (topR a).2.2 = 2 := by
   have h := b2
   unfold Qba.f Qba.fn Qba.top Qbm.f Qbm.fn Qbm.top at h
   rw [Qbq] at h
   cases hu : inB a 0 200000
   ·rw [hu] at h
    have := Option.some.inj h
    rw [← this]; exact .inr rfl
   ·rw [hu] at h
    simp only [Option.bind_some, Bool.not_true, Bool.false_eq_true, if_false] at h
    cases ht : Qak.f a with
    | none => rw [ht] at h; cases h
    | some y =>
     rw [ht] at h
     have := Option.some.inj h
     rw [← this]; exact .inl rfl
  omega
 obtain ⟨d1, d2, d3⟩ := VX (n := (topR a).1) b3.1 (by omega)
 obtain ⟨f1, f2, f3⟩ := VX (n := (topR a).2.1) b4 (by omega)
 have e1 : (⟨#[32]⟩ : ByteArray).size = 1 := by decide
 generalize topR a = R at *
 have q1 : (decB R.1).size + (⟨#[32]⟩ : ByteArray).size ≤ 9223372036854775807 := by omega
 have q2 : (decB R.1 ++ (⟨#[32]⟩ : ByteArray)).size + (decB R.2.1).size ≤ 9223372036854775807 := by rw [ByteArray.size_append]; omega
 refine ⟨d, (decB R.1 ++ (⟨#[32]⟩ : ByteArray)) ++ decB R.2.1, R.2.2, ?_, ?_, fun _ => hd, hc, by rw [ByteArray.size_append, ByteArray.size_append]; omega⟩
 ·unfold Qe.f Qe.fn Qe.top
  simp only [gd0, gd1, gd2, ln0, ln1, ln2, if_true]
  rw [if_neg (by decide +kernel), if_neg (by decide +kernel), if_neg (by decide +kernel), if_neg (by decide +kernel), if_neg (by decide +kernel), if_neg (by decide +kernel), if_neg (by decide +kernel), if_neg (by decide +kernel), if_neg (by decide +kernel), if_pos (by decide +kernel)]
  refine Vm b2 (Vm d1 ?_)
  try dsimp only
  rw [if_pos q1]
  refine Vm f1 ?_
  try dsimp only
  rw [if_pos q2]
 ·refine VaC hp (.inr (.inr (.inr (.inl rfl)))) ?_ hc
  unfold Qah.f Qah.fn Qah.top
  simp only [gd0, gd1, gd2, ln0, ln1, ln2, if_true]
  rw [if_neg (by decide +kernel), if_neg (by decide +kernel), if_neg (by decide +kernel), if_neg (by decide +kernel), if_neg (by decide +kernel), if_pos (by decide +kernel)]
  refine Vm b1 (Vm d2 ?_)
  try dsimp only
  rw [if_pos q1]
  refine Vm f2 ?_
  try dsimp only
  rw [if_pos q2]
theorem Vju {d : Dsk} (hd : deskB d = true) {line w1 w2 : ByteArray} {a b : Int} (hp : Qs.f line = some ([wNeed, w1, w2], ([a, b], true))) : Exe d line (wNeed, ([], [a, b])) := by
 obtain ⟨b1, b2, b3, b4⟩ := VcK a b
 have hc : 0 ≤ (sepR a b).2 ∧ (sepR a b).2 ≤ 20 := by
  have : (sepR a b).2 = 0 ∨ (sepR a b).2 = 2 := by
   have h := b2
   unfold Qai.f Qai.fn Qai.top QaN.f QaN.fn QaN.top QaM.f QaM.fn QaM.top at h
   rw [Qbq, Qbq] at h
   cases hu : inB a 0 500
   ·rw [hu] at h
    have := Option.some.inj h
    rw [← this]; exact .inr rfl
   ·cases hv : inB b 0 100000000
    ·rw [hu, hv] at h
     have := Option.some.inj h
     rw [← this]; exact .inr rfl
    ·rw [hu, hv] at h
     simp only [Option.bind_some, Bool.not_true, Bool.false_eq_true, if_false, if_true] at h
     cases ht : Qy.f a b with
     | none => rw [ht] at h; cases h
     | some y =>
      rw [ht] at h
      have := Option.some.inj h
      rw [← this]; exact .inl rfl
  omega
 obtain ⟨d1, d2, d3⟩ := VX (n := (sepR a b).1) b3 (by omega)
 generalize sepR a b = R at *
 refine ⟨d, decB R.1, R.2, ?_, ?_, fun _ => hd, hc, by omega⟩
 ·unfold Qe.f Qe.fn Qe.top
  simp only [gd0, gd1, gd2, ln0, ln1, ln2, if_true]
  rw [if_neg (by decide +kernel), if_neg (by decide +kernel), if_neg (by decide +kernel), if_neg (by decide +kernel), if_neg (by decide +kernel), if_neg (by decide +kernel), if_neg (by decide +kernel), if_neg (by decide +kernel), if_neg (by decide +kernel), if_neg (by decide +kernel), if_pos (by decide +kernel)]
  exact Vm b2 (Vm d1 rfl)
 ·refine VaC hp (.inr (.inr (.inr (.inr (.inr (.inr (.inr rfl))))))) ?_ hc
  unfold Qah.f Qah.fn Qah.top
  simp only [gd0, gd1, gd2, ln0, ln1, ln2, if_true]
  rw [if_neg (by decide +kernel), if_neg (by decide +kernel), if_neg (by decide +kernel), if_neg (by decide +kernel), if_neg (by decide +kernel), if_neg (by decide +kernel), if_pos (by decide +kernel)]
  exact Vm b1 (Vm d2 rfl)
theorem Vjv {d : Dsk} (hd : deskB d = true) {line w1 : ByteArray} {a : Int} (hp : Qs.f line = some ([wTime, w1], ([a], true))) : Exe d line (wTime, ([], [a])) := by
 obtain ⟨b1, b2, b3⟩ := VeX a
 have hc : 0 ≤ (ttR a).2 ∧ (ttR a).2 ≤ 20 := by
  have : (ttR a).2 = 0 ∨ (ttR a).2 = 2 := by
   have h := b2
   unfold QaB.f QaB.fn QaB.top at h
   rw [Qb3] at h
   cases hu : inB a 0 10000000
   ·rw [hu] at h
    have := Option.some.inj h
    rw [← this]; exact .inr rfl
   ·rw [hu] at h
    simp only [Option.bind_some, Bool.not_true, Bool.false_eq_true, if_false] at h
    cases ht : QaU.f a with
    | none => rw [ht] at h; cases h
    | some y =>
     rw [ht] at h
     have := Option.some.inj h
     rw [← this]; exact .inl rfl
  omega
 generalize ttR a = R at *
 refine ⟨d, R.1, R.2, ?_, ?_, fun _ => hd, hc, by omega⟩
 ·unfold Qe.f Qe.fn Qe.top
  simp only [gd0, gd1, gd2, ln0, ln1, ln2, if_true]
  rw [if_neg (by decide +kernel), if_neg (by decide +kernel), if_neg (by decide +kernel), if_neg (by decide +kernel), if_neg (by decide +kernel), if_neg (by decide +kernel), if_neg (by decide +kernel), if_neg (by decide +kernel), if_neg (by decide +kernel), if_neg (by decide +kernel), if_neg (by decide +kernel)]
  exact Vm b2 rfl
 ·refine VaC hp (.inr (.inr (.inr (.inr (.inl rfl))))) ?_ hc
  unfold Qah.f Qah.fn Qah.top
  simp only [gd0, gd1, gd2, ln0, ln1, ln2, if_true]
  rw [if_neg (by decide +kernel), if_neg (by decide +kernel), if_neg (by decide +kernel), if_neg (by decide +kernel), if_neg (by decide +kernel), if_neg (by decide +kernel), if_neg (by decide +kernel)]
  exact Vm b1 rfl
end Go.Pl

namespace Go.Pl
open Go.Ev
set_option linter.unusedVariables false
noncomputable section
def QbY.top (p : ByteArray) : Option YAG :=
 (QS.f p).bind fun r1 =>
 some (r1.1, r1.2.2)
def QbY.fn (n : Nat) (p : ByteArray) : Option YAG := QbY.top p
def QbY.f (p : ByteArray) : Option YAG := QbY.fn NN p
end
end Go.Pl

namespace Go.Pl
open Go.Ev
set_option linter.unusedVariables false
noncomputable section
def QbZ.top (p : ByteArray) : Option YAG :=
 (Qa4.f p).bind fun r1 =>
 if (!r1) = true then
 some ([], 3)
 else
 (QaF.f p).bind fun r2 =>
 (QN.f r2).bind fun r3 =>
 some (r3.2, 0)
def QbZ.fn (n : Nat) (p : ByteArray) : Option YAG := QbZ.top p
def QbZ.f (p : ByteArray) : Option YAG := QbZ.fn NN p
end
end Go.Pl

namespace Go.Pl
open Go.Ev
set_option linter.unusedVariables false
set_option linter.unusedSimpArgs false
def spW (line : ByteArray) : List ByteArray := (Vp 32 (bl line)).map ob
theorem ViE (line : ByteArray) : ∃ w0 ws, spW line = w0 :: ws := by
 unfold spW
 cases h : Vp 32 (bl line) with
 | nil => exact absurd h (Vae _ _)
 | cons a r => exact ⟨ob a, r.map ob, rfl⟩
theorem Vdw (line : ByteArray) : ∀ w ∈ spW line, w.size ≤ line.size := by
 intro w hw
 obtain ⟨x, hx, rfl⟩ := List.mem_map.1 hw
 rw [Vk, ← VI]
 exact Vdc 32 (bl line) x hx
theorem Vgx (line : ByteArray) : (spW line).length ≤ line.size + 1 := by
 unfold spW
 rw [List.length_map, ← VI]
 exact Vbj _ _
theorem VcL {w0 : ByteArray} (ws : List ByteArray) (h : shpL w0 = none) : cmdW (w0 :: ws) = none := by simp only [cmdW, h]
theorem VO {w0 : ByteArray} {l : List UInt8} (ws : List ByteArray) (h : shpL w0 = some l) : cmdW (w0 :: ws) = if ws.length = l.length then prs l ws else none := by simp only [cmdW, h]
theorem QcG {line w0 : ByteArray} {ws : List ByteArray} (h : line.size ≤ 1000000) (hw : spW line = w0 :: ws) : QA.f line = some (Vbg w0 [] [] (cmdW (w0 :: ws))) := by
 have hs := Vdw line
 have hl := Vgx line
 rw [hw] at hs hl
 simp only [List.length_cons] at hl
 unfold QA.f QA.fn QA.top
 have e := Qck line 32 h
 rw [show (((32 : UInt8).toNat : Int)) = 32 from rfl, show (Vp 32 (bl line)).map ob = spW line from rfl, hw] at e
 rw [e, Option.bind_some]
 simp only [ln0, gd0, if_true]
 cases hsh : shpL w0 with
 | none =>
  rw [VcL ws hsh, (Vd2 hsh).1]
  rfl
 | some l =>
  obtain ⟨s1, s2, s3, s4⟩ := Vd1 hsh
  have w := w64 (n := (l.length : Int) + 1) (by omega) (by omega)
  rw [VO ws hsh, s1, Option.bind_some]
  simp only [and_self, and_true, true_and, decide_true, decide_false, if_true, if_false, Vc, Vd, Va, Vb, Ve, Option.bind_some, Bool.not_true, Bool.not_false, Bool.false_eq_true, Bool.true_eq_false, beq_self_eq_true, bne_self_eq_false, Int.toNat_natCast, Vk, w]
  by_cases hlen : ws.length = l.length
  ·have e1 : (((w0 :: ws).length : Int) != (l.length : Int) + 1) = false := by simp [hlen]
   rw [e1, if_neg (by simp), if_pos hlen]
   have := Qdg ByteArray.empty w0 w0 [] [] l [] ws [] [] [] NN rfl hlen (by simp; omega) (by simp) (by simp) s3 (fun x hx => by have := hs x (by simp [hx]); omega) (NN_lt (by omega))
   exact this
  ·have e1 : (((w0 :: ws).length : Int) != (l.length : Int) + 1) = true := by
    have : ¬ ((ws.length : Int) + 1 = (l.length : Int) + 1) := by omega
    simpa using this
   rw [e1, if_pos rfl, if_neg hlen]
   rfl
theorem QcX {line w0 : ByteArray} {ws : List ByteArray} (h : line.size ≤ 1000000) (hw : spW line = w0 :: ws) : Qs.f line = some (VbJ (w0 :: ws) [] (cmdW (w0 :: ws))) := by
 have hs := Vdw line
 have hl := Vgx line
 rw [hw] at hs hl
 simp only [List.length_cons] at hl
 unfold Qs.f Qs.fn Qs.top
 have e := Qcg line 32 h
 rw [show (((32 : UInt8).toNat : Int)) = 32 from rfl, show (Vp 32 (bl line)).map ob = spW line from rfl, hw] at e
 rw [e, Option.bind_some]
 simp only [ln0, gd0, if_true]
 cases hsh : shpL w0 with
 | none =>
  have e45 : ((⟨#[45]⟩ : ByteArray).toList == (⟨#[45]⟩ : ByteArray).toList) = true := by decide +kernel
  rw [VcL ws hsh, (Vd2 hsh).2, Option.bind_some, e45]
  rfl
 | some l =>
  obtain ⟨s1, s2, s3, s4⟩ := Vd1 hsh
  have w := w64 (n := (l.length : Int) + 1) (by omega) (by omega)
  have hne : ((ob (l.map upK)).toList == (⟨#[45]⟩ : ByteArray).toList) = false := by
   rw [V3, decide_eq_false_iff_not]
   intro he
   have he2 : l.map upK = [45] := by
    have := congrArg bl he
    rwa [bl_ob] at this
   cases l with
   | nil => cases he2
   | cons c r =>
    have h45 : upK c = 45 := by
     rw [List.map_cons] at he2
     exact (List.cons.inj he2).1
    rcases s3 c (by simp) with rfl | rfl | rfl <;> exact absurd h45 (by decide)
  rw [VO ws hsh, s2, Option.bind_some, hne]
  simp only [and_self, and_true, true_and, decide_true, decide_false, if_true, if_false, Vc, Vd, Va, Vb, Ve, Option.bind_some, Bool.not_true, Bool.not_false, Bool.false_eq_true, Bool.true_eq_false, beq_self_eq_true, bne_self_eq_false, Int.toNat_natCast, Vk, List.length_map, w]
  by_cases hlen : ws.length = l.length
  ·have e1 : (((w0 :: ws).length : Int) != (l.length : Int) + 1) = false := by simp [hlen]
   rw [e1, if_neg (by simp), if_pos hlen]
   have := Qdh w0 l [] ws [] [] NN rfl hlen (by simp; omega) (by simp) s3 (fun x hx => by have := hs x (by simp [hx]); omega) (NN_lt (by omega))
   exact this
  ·have e1 : (((w0 :: ws).length : Int) != (l.length : Int) + 1) = true := by
    have : ¬ ((ws.length : Int) + 1 = (l.length : Int) + 1) := by omega
    simpa using this
   rw [e1, if_pos rfl, if_neg hlen]
   rfl
theorem ViF {d : Dsk} (hd : deskB d = true) {line w0 : ByteArray} {ws t : List ByteArray} {n : List Int} (hz : ∀ w ∈ ws, w.size ≤ 1000000) (hc : cmdW (w0 :: ws) = some (t, n)) (hp : Qs.f line = some (w0 :: ws, (n, true))) : Exe d line (w0, (t, n)) := by
 rcases VbV w0 with (rfl | rfl | rfl | rfl | rfl | rfl | rfl | rfl | rfl | rfl | rfl | rfl) | ⟨h1, _⟩
 case inr => rw [VcL ws h1] at hc; cases hc
 ·-- people
  have hs : shpL Vaz = some [116, 105, 106] := by decide +kernel
  rw [VO ws hs] at hc
  match ws, hz, hp, hc with
  | [w1, w2, w3], hz, hp, hc =>
   simp only [List.length_cons, List.length_nil, if_true, prs] at hc
   cases n0 : numI w2 with
   | none => simp [n0] at hc
   | some a =>
    cases n1 : numJ w3 with
    | none => simp [n0, n1] at hc
    | some b =>
     simp [n0, n1] at hc
     obtain ⟨rfl, rfl⟩ := hc
     exact VhV hd (hz w1 (by simp)) hp
  | [], _, _, hc => simp at hc
  | [_], _, _, hc => simp at hc
  | [_, _], _, _, hc => simp at hc
  | _ :: _ :: _ :: _ :: _, _, _, hc => simp at hc
 ·-- clear
  have hs : shpL Vbe = some [116, 105] := by decide +kernel
  rw [VO ws hs] at hc
  match ws, hz, hp, hc with
  | [w1, w2], hz, hp, hc =>
   simp only [List.length_cons, List.length_nil, if_true, prs] at hc
   cases n0 : numI w2 with
   | none => simp [n0] at hc
   | some a =>
    simp [n0] at hc
    obtain ⟨rfl, rfl⟩ := hc
    exact ViC hd (hz w1 (by simp)) hp
  | [], _, _, hc => simp at hc
  | [_], _, _, hc => simp at hc
  | _ :: _ :: _ :: _, _, _, hc => simp at hc
 ·-- signal
  have hs : shpL Vaj = some [116, 105] := by decide +kernel
  rw [VO ws hs] at hc
  match ws, hz, hp, hc with
  | [w1, w2], hz, hp, hc =>
   simp only [List.length_cons, List.length_nil, if_true, prs] at hc
   cases n0 : numI w2 with
   | none => simp [n0] at hc
   | some a =>
    simp [n0] at hc
    obtain ⟨rfl, rfl⟩ := hc
    exact VhW hd hp
  | [], _, _, hc => simp at hc
  | [_], _, _, hc => simp at hc
  | _ :: _ :: _ :: _, _, _, hc => simp at hc
 ·-- state
  have hs : shpL Vbf = some [105] := by decide +kernel
  rw [VO ws hs] at hc
  match ws, hz, hp, hc with
  | [w1], hz, hp, hc =>
   simp only [List.length_cons, List.length_nil, if_true, prs] at hc
   cases n0 : numI w1 with
   | none => simp [n0] at hc
   | some a =>
    simp [n0] at hc
    obtain ⟨rfl, rfl⟩ := hc
    exact ViD hd hp
  | [], _, _, hc => simp at hc
  | _ :: _ :: _, _, _, hc => simp at hc
 ·-- fire
  have hs : shpL wFire = some [105] := by decide +kernel
  rw [VO ws hs] at hc
  match ws, hz, hp, hc with
  | [w1], hz, hp, hc =>
   simp only [List.length_cons, List.length_nil, if_true, prs] at hc
   cases n0 : numI w1 with
   | none => simp [n0] at hc
   | some a =>
    simp [n0] at hc
    obtain ⟨rfl, rfl⟩ := hc
    exact Vjq hd hp
  | [], _, _, hc => simp at hc
  | _ :: _ :: _, _, _, hc => simp at hc
 ·-- settle
  have hs : shpL VaA = some [105] := by decide +kernel
  rw [VO ws hs] at hc
  match ws, hz, hp, hc with
  | [w1], hz, hp, hc =>
   simp only [List.length_cons, List.length_nil, if_true, prs] at hc
   cases n0 : numI w1 with
   | none => simp [n0] at hc
   | some a =>
    simp [n0] at hc
    obtain ⟨rfl, rfl⟩ := hc
    exact VhX hd hp
  | [], _, _, hc => simp at hc
  | _ :: _ :: _, _, _, hc => simp at hc
 ·-- top
  have hs : shpL wTop = some [105] := by decide +kernel
  rw [VO ws hs] at hc
  match ws, hz, hp, hc with
  | [w1], hz, hp, hc =>
   simp only [List.length_cons, List.length_nil, if_true, prs] at hc
   cases n0 : numI w1 with
   | none => simp [n0] at hc
   | some a =>
    simp [n0] at hc
    obtain ⟨rfl, rfl⟩ := hc
    exact VjK hd hp
  | [], _, _, hc => simp at hc
  | _ :: _ :: _, _, _, hc => simp at hc
 ·-- time
  have hs : shpL wTime = some [105] := by decide +kernel
  rw [VO ws hs] at hc
  match ws, hz, hp, hc with
  | [w1], hz, hp, hc =>
   simp only [List.length_cons, List.length_nil, if_true, prs] at hc
   cases n0 : numI w1 with
   | none => simp [n0] at hc
   | some a =>
    simp [n0] at hc
    obtain ⟨rfl, rfl⟩ := hc
    exact Vjv hd hp
  | [], _, _, hc => simp at hc
  | _ :: _ :: _, _, _, hc => simp at hc
 ·-- book
  have hs : shpL wBook = some [116, 116, 105] := by decide +kernel
  rw [VO ws hs] at hc
  match ws, hz, hp, hc with
  | [w1, w2, w3], hz, hp, hc =>
   simp only [List.length_cons, List.length_nil, if_true, prs] at hc
   cases n0 : numI w3 with
   | none => simp [n0] at hc
   | some a =>
    simp [n0] at hc
    obtain ⟨rfl, rfl⟩ := hc
    exact Vjr hd (hz w2 (by simp)) (by have := Vgm n0; omega) hp
  | [], _, _, hc => simp at hc
  | [_], _, _, hc => simp at hc
  | [_, _], _, _, hc => simp at hc
  | _ :: _ :: _ :: _ :: _, _, _, hc => simp at hc
 ·-- left
  have hs : shpL wLeft = some [116] := by decide +kernel
  rw [VO ws hs] at hc
  match ws, hz, hp, hc with
  | [w1], hz, hp, hc =>
   simp only [List.length_cons, List.length_nil, if_true, prs] at hc
   simp [] at hc
   obtain ⟨rfl, rfl⟩ := hc
   exact Vjs hd (hz w1 (by simp)) hp
  | [], _, _, hc => simp at hc
  | _ :: _ :: _, _, _, hc => simp at hc
 ·-- open
  have hs : shpL wOpen = some [] := by decide +kernel
  rw [VO ws hs] at hc
  match ws, hz, hp, hc with
  | [], hz, hp, hc =>
   simp only [List.length_cons, List.length_nil, if_true, prs] at hc
   simp at hc
   obtain ⟨rfl, rfl⟩ := hc
   exact Vjt hd hp
  | _ :: _, _, _, hc => simp at hc
 ·-- need
  have hs : shpL wNeed = some [105, 105] := by decide +kernel
  rw [VO ws hs] at hc
  match ws, hz, hp, hc with
  | [w1, w2], hz, hp, hc =>
   simp only [List.length_cons, List.length_nil, if_true, prs] at hc
   cases n0 : numI w1 with
   | none => simp [n0] at hc
   | some a =>
    cases n1 : numI w2 with
    | none => simp [n0, n1] at hc
    | some b =>
     simp [n0, n1] at hc
     obtain ⟨rfl, rfl⟩ := hc
     exact Vju hd hp
  | [], _, _, hc => simp at hc
  | [_], _, _, hc => simp at hc
  | _ :: _ :: _ :: _, _, _, hc => simp at hc
end Go.Pl

namespace Go.Pl
open Go.Ev
set_option linter.unusedVariables false
set_option linter.unusedSimpArgs false
noncomputable def lnR (d : Dsk) (line : ByteArray) : Dsk × ByteArray := (QF.f d line).getD (d, ByteArray.empty)
theorem Vew {d : Dsk} (hd : deskB d = true) {line : ByteArray} (h : line.size ≤ 1000000) :
    QF.f d line = some (lnR d line) ∧ deskB (lnR d line).1 = true ∧ (lnR d line).2.size ≤ 10000 ∧
    ((cmdW (spW line) = none ∧ QA.f line = some ((ByteArray.empty, ([], [])), false) ∧ lnR d line = (d, errT 6)) ∨
     (∃ w0 t n d' o e, QA.f line = some ((w0, (t, n)), true) ∧ Qe.f d (w0, (t, n)) = some (d', o, e) ∧ (0 ≤ e ∧ e ≤ 20) ∧ lnR d line = finR d d' o e)) := by
  obtain ⟨w0, ws, hw⟩ := ViE line
  have hs := Vdw line
  rw [hw] at hs
  have p1 := QcG h hw
  have p2 := QcX h hw
  cases hc : cmdW (w0 :: ws) with
  | none =>
    rw [hc] at p1 p2
    have e1 : QF.f d line = some (d, errT 6) := by
      unfold QF.f QF.fn QF.top
      refine Vm p2 ?_
      dsimp only [VbJ]
      rw [if_pos (show (!false) = true from rfl), (VX (n := 6) (by omega) (by omega)).2.1, Option.bind_some, if_pos (VcX (e := 6) (by omega))]; rfl
    have e2 : lnR d line = (d, errT 6) := by unfold lnR; rw [e1]; rfl
    rw [e2]
    have := VeN (e := 6) (by omega)
    exact ⟨e1, hd, by simp only; omega, .inl ⟨by rw [hw]; exact hc, p1, rfl⟩⟩
  | some y =>
    obtain ⟨t, n⟩ := y
    rw [hc] at p1 p2
    simp only [Vbg, VbJ, List.nil_append] at p1 p2
    obtain ⟨d', o, e, x1, x2, x3, x4, x5⟩ := ViF hd (fun w hw => by have := hs w (by simp [hw]); omega) hc p2
    have e2 : lnR d line = finR d d' o e := by unfold lnR; rw [x2]; rfl
    rw [e2]
    have he := VeN x4
    refine ⟨x2, ?_, ?_, .inr ⟨w0, t, n, d', o, e, p1, x1, x4, rfl⟩⟩
    · unfold finR
      split
      · rename_i h0; exact x3 h0
      · exact hd
    · unfold finR
      split
      · exact x5
      · simp only; omega
noncomputable def runF (st : List ByteArray × Dsk) (line : ByteArray) : List ByteArray × Dsk := (st.1 ++ [(lnR st.2 line).2], (lnR st.2 line).1)
noncomputable def runL (ls : List ByteArray) : List ByteArray × Dsk := ls.foldl runF ([], ([], ([], [])))
structure RI (p : List ByteArray) (st : List ByteArray × Dsk) : Prop where
 ok : deskB st.2 = true
 len : st.1.length = p.length
 sz : ∀ o ∈ st.1, o.size ≤ 10000
theorem VhY : RI [] ([], ([], ([], []))) := ⟨rfl, rfl, by simp⟩
theorem Vgy {p : List ByteArray} {st : List ByteArray × Dsk} {line : ByteArray} (h : RI p st) (hs : line.size ≤ 1000000) : RI (p ++ [line]) (runF st line) := by
 obtain ⟨a, b, c, _⟩ := Vew h.ok hs
 refine ⟨b, ?_, fun o ho => ?_⟩
 ·have := h.len
  unfold runF
  simp only [List.length_append, List.length_singleton]; omega
 ·unfold runF at ho
  rcases List.mem_append.1 ho with ho | ho
  ·exact h.sz o ho
  ·rw [List.mem_singleton.1 ho]; exact c
theorem Vgz {n : Nat} (h : n ≤ 1000000) (st : List ByteArray) (x : ByteArray) (hl : st.length = n) : st.length + [x].length < room 16 := by rw [VdZ]; simp; omega
theorem QcY (ls : List ByteArray) (hl : ls.length ≤ 1000) (hs : ∀ l ∈ ls, l.size ≤ 1000000) : RI ls (runL ls) ∧ QS.l11 NN NN ls ls.length 0 [] ([], ([], [])) [] [] [] = some ((runL ls).1, ((runL ls).2, 0)) := by
 have := (VT (E := fun l : ByteArray => l.size ≤ 1000000) RI (fun _ => runF) (fun st => some (st.1, (st.2, (0 : Int)))) (fun k i st => QS.l11 NN k ls ls.length i st.1 st.2 [] [] []) ls ?_ ?_ ([], ([], ([], []))) hs VhY (by omega) NN (NN_lt (by omega)))
 ·rw [VY] at this
  exact this
 ·intro k st _
  simp only [QS.l11, QS.g11, Int.lt_irrefl, and_self, and_true, true_and, decide_true, decide_false, if_true, if_false, Vc, Vd, Va, Vb, Ve, Option.bind_some, Bool.not_true, Bool.not_false, Bool.false_eq_true, Bool.true_eq_false, beq_self_eq_true, bne_self_eq_false, Int.toNat_natCast]
 ·intro k p line r st hx hln hI c0 c1 c2 cw g
  have hpl : p.length ≤ 1000 := by rw [hx] at hl; simp at hl; omega
  refine ⟨Vgy hI hln, ?_⟩
  obtain ⟨_, _, _, q⟩ := Vew hI.ok hln
  have r16 := fun x => Vgz (n := p.length) (by omega) st.1 x hI.len
  simp only [QS.l11, QS.g11, c0, c1, cw, g, and_self, and_true, true_and, decide_true, decide_false, if_true, if_false, Vc, Vd, Va, Vb, Ve, Option.bind_some, Bool.not_true, Bool.not_false, Bool.false_eq_true, Bool.true_eq_false, beq_self_eq_true, bne_self_eq_false, Int.toNat_natCast]
  unfold runF
  rcases q with ⟨_, q1, q2⟩ | ⟨w0, t, n, d', o, e, q1, q2, q3, q4⟩
  ·rw [q1, q2]
   simp only [and_self, and_true, true_and, decide_true, decide_false, if_true, if_false, Vc, Vd, Va, Vb, Ve, Option.bind_some, Bool.not_true, Bool.not_false, Bool.false_eq_true, Bool.true_eq_false, beq_self_eq_true, bne_self_eq_false, Int.toNat_natCast]
   rw [(VX (n := 6) (by omega) (by omega)).1, Option.bind_some, if_pos (VcX (e := 6) (by omega)), if_pos (r16 _)]
   rfl
  ·rw [q1, q4]
   simp only [and_self, and_true, true_and, decide_true, decide_false, if_true, if_false, Vc, Vd, Va, Vb, Ve, Option.bind_some, Bool.not_true, Bool.not_false, Bool.false_eq_true, Bool.true_eq_false, beq_self_eq_true, bne_self_eq_false, Int.toNat_natCast]
   rw [q2, Option.bind_some]
   unfold finR
   by_cases he : e = 0
   ·subst he
    have e0 : ((0 : Int) != 0) = false := rfl
    simp only [e0, and_self, and_true, true_and, decide_true, decide_false, if_true, if_false, Vc, Vd, Va, Vb, Ve, Option.bind_some, Bool.not_true, Bool.not_false, Bool.false_eq_true, Bool.true_eq_false, beq_self_eq_true, bne_self_eq_false, Int.toNat_natCast]
    rw [if_pos (r16 _)]
   ·have e0 : (e != 0) = true := by simpa using he
    simp only [e0, he, and_self, and_true, true_and, decide_true, decide_false, if_true, if_false, Vc, Vd, Va, Vb, Ve, Option.bind_some, Bool.not_true, Bool.not_false, Bool.false_eq_true, Bool.true_eq_false, beq_self_eq_true, bne_self_eq_false, Int.toNat_natCast]
    rw [(VX (n := e) (by omega) (by omega)).1, Option.bind_some, if_pos (VcX q3), if_pos (r16 _)]
    rfl
theorem Qdm (ls : List ByteArray) (hl : ls.length ≤ 1000) (hs : ∀ l ∈ ls, l.size ≤ 1000000) : QN.f ls = some ((runL ls).2, (runL ls).1) := by
 have := (VT (E := fun l : ByteArray => l.size ≤ 1000000) RI (fun _ => runF) (fun st => some (st.2, st.1)) (fun k i st => QN.l4 NN k ls i st.2 st.1 [] [] []) ls ?_ ?_ ([], ([], ([], []))) hs VhY (by omega) NN (NN_lt (by omega))).2
 ·rw [VY] at this
  exact this
 ·intro k st _
  simp only [QN.l4, QN.g4, Int.lt_irrefl, and_self, and_true, true_and, decide_true, decide_false, if_true, if_false, Vc, Vd, Va, Vb, Ve, Option.bind_some, Bool.not_true, Bool.not_false, Bool.false_eq_true, Bool.true_eq_false, beq_self_eq_true, bne_self_eq_false, Int.toNat_natCast]
 ·intro k p line r st hx hln hI c0 c1 c2 cw g
  have hpl : p.length ≤ 1000 := by rw [hx] at hl; simp at hl; omega
  refine ⟨Vgy hI hln, ?_⟩
  obtain ⟨q, _, _, _⟩ := Vew hI.ok hln
  have r16 := fun x => Vgz (n := p.length) (by omega) st.1 x hI.len
  simp only [QN.l4, QN.g4, c0, c1, cw, g, and_self, and_true, true_and, decide_true, decide_false, if_true, if_false, Vc, Vd, Va, Vb, Ve, Option.bind_some, Bool.not_true, Bool.not_false, Bool.false_eq_true, Bool.true_eq_false, beq_self_eq_true, bne_self_eq_false, Int.toNat_natCast]
  rw [q, Option.bind_some, if_pos (r16 _)]
  rfl
def lnsT (text : ByteArray) : List ByteArray :=
 if ((Vp 10 (bl text)).map ob).getD (((Vp 10 (bl text)).map ob).length - 1) ByteArray.empty = (⟨#[]⟩ : ByteArray) then ((Vp 10 (bl text)).map ob).take (((Vp 10 (bl text)).map ob).length - 1) else (Vp 10 (bl text)).map ob
theorem VcM (text : ByteArray) : ∀ l ∈ lnsT text, l.size ≤ text.size := by
 intro l hl
 have : l ∈ (Vp 10 (bl text)).map ob := by
  unfold lnsT at hl
  split at hl
  ·exact List.mem_of_mem_take hl
  ·exact hl
 obtain ⟨x, hx, rfl⟩ := List.mem_map.1 this
 rw [Vk, ← VI]
 exact Vdc 10 (bl text) x hx
def fitT (text : ByteArray) : Bool := decide (text.size ≤ 1500) && decide ((lnsT text).length ≤ 40)
noncomputable def conR (text : ByteArray) : (List ByteArray × Dsk) × Int := if fitT text = true then (runL (lnsT text), 0) else (([], ([], ([], []))), 3)
theorem Qcj (text : ByteArray) (h : text.size ≤ 1000000) : QaF.f text = some (lnsT text) := by
 unfold QaF.f QaF.fn QaF.top lnsT
 have e := Qcg text 10 h
 rw [show (((10 : UInt8).toNat : Int)) = 10 from rfl] at e
 rw [e, Option.bind_some]
 have hn : (Vp 10 (bl text)).map ob ≠ [] := by
  intro q
  exact Vae 10 (bl text) (List.map_eq_nil_iff.1 q)
 have hle : ((Vp 10 (bl text)).map ob).length ≤ 2000000 := by
  have := Vbj 10 (bl text)
  rw [VI] at this
  rw [List.length_map]; omega
 have hp := List.length_pos_iff.2 hn
 generalize (Vp 10 (bl text)).map ob = r at *
 have w := w64 (n := (r.length : Int) - 1) (by omega) (by omega)
 have e1 : ((r.length : Int) - 1).toNat = r.length - 1 := by omega
 rw [w, e1, V3, if_pos ⟨by omega, by omega⟩]
 by_cases hq : r.getD (r.length - 1) ByteArray.empty = (⟨#[]⟩ : ByteArray)
 ·rw [if_pos (decide_eq_true hq), if_pos hq, if_pos ⟨by omega, by omega⟩]
 ·rw [if_neg (by simpa using hq), if_neg hq]
theorem QcZ (text : ByteArray) (h : text.size ≤ 1000000) : QS.f text = some ((conR text).1.1, ((conR text).1.2, (conR text).2)) := by
 unfold QS.f QS.fn QS.top conR fitT
 by_cases h15 : (1500 : Int) < (text.size : Int)
 ·have : ¬ text.size ≤ 1500 := by omega
  simp [h15, this]
 have h15' : text.size ≤ 1500 := by omega
 have hsz := VcM text
 have hrun := fun hl => QcY (lnsT text) hl (fun l hl => by have := hsz l hl; omega)
 simp only [h15, h15', and_self, and_true, true_and, decide_true, decide_false, if_true, if_false, Vc, Vd, Va, Vb, Ve, Option.bind_some, Bool.not_true, Bool.not_false, Bool.false_eq_true, Bool.true_eq_false, beq_self_eq_true, bne_self_eq_false, Int.toNat_natCast, Bool.true_and]
 have e := Qck text 10 h
 rw [show (((10 : UInt8).toNat : Int)) = 10 from rfl] at e
 rw [e, Option.bind_some]
 have hn : (Vp 10 (bl text)).map ob ≠ [] := by
  intro q
  exact Vae 10 (bl text) (List.map_eq_nil_iff.1 q)
 have hle : ((Vp 10 (bl text)).map ob).length ≤ 2000000 := by
  have := Vbj 10 (bl text)
  rw [VI] at this
  rw [List.length_map]; omega
 have hp := List.length_pos_iff.2 hn
 unfold lnsT at hrun ⊢
 generalize (Vp 10 (bl text)).map ob = r at *
 have w := w64 (n := (r.length : Int) - 1) (by omega) (by omega)
 have e1 : ((r.length : Int) - 1).toNat = r.length - 1 := by omega
 rw [w, e1, V3, if_pos ⟨by omega, by omega⟩]
 by_cases hq : r.getD (r.length - 1) ByteArray.empty = (⟨#[]⟩ : ByteArray)
 ·rw [if_pos hq] at hrun ⊢
  rw [if_pos (decide_eq_true hq), if_pos ⟨by omega, by omega⟩]
  by_cases h40 : (40 : Int) < ((r.take (r.length - 1)).length : Int)
  ·have h40' : ¬ (r.take (r.length - 1)).length ≤ 40 := by omega
   rw [if_pos (decide_eq_true h40), if_neg (by simpa using h40')]
  ·have h40' : (r.take (r.length - 1)).length ≤ 40 := by omega
   rw [if_neg (by simpa using h40), if_pos (decide_eq_true h40')]
   exact (hrun (by omega)).2
 ·rw [if_neg hq] at hrun ⊢
  rw [if_neg (by simpa using hq)]
  by_cases h40 : (40 : Int) < (r.length : Int)
  ·have h40' : ¬ r.length ≤ 40 := by omega
   rw [if_pos (decide_eq_true h40), if_neg (by simpa using h40')]
  ·have h40' : r.length ≤ 40 := by omega
   rw [if_neg (by simpa using h40), if_pos (decide_eq_true h40')]
   exact (hrun (by omega)).2
theorem Qc9 (text : ByteArray) (h : text.size ≤ 1000000) : Qa4.f text = some (fitT text) := by
 unfold Qa4.f Qa4.fn Qa4.top fitT
 rw [Qcj text h]
 have e1 : decide ((text.size : Int) ≤ 1500) = decide (text.size ≤ 1500) := by congr 1; exact propext (by omega)
 have e2 : decide (((lnsT text).length : Int) ≤ 40) = decide ((lnsT text).length ≤ 40) := by congr 1; exact propext (by omega)
 rw [e1]
 simp only [Option.bind_some, e2]
 cases decide (text.size ≤ 1500) <;> rfl
theorem VhZ (text : ByteArray) (h : text.size ≤ 1000000) : Lm Sm (conR text).1.1 ∧ deskB (conR text).1.2 = true := by
 unfold conR
 by_cases hf : fitT text = true
 ·rw [if_pos hf]
  unfold fitT at hf
  simp only [Bool.and_eq_true, decide_eq_true_eq] at hf
  have hsz := VcM text
  obtain ⟨a, _⟩ := QcY (lnsT text) (by omega) (fun l hl => by have := hsz l hl; omega)
  refine ⟨⟨by rw [a.len]; omega, fun o ho => Nat.le_trans (a.sz o ho) (by omega)⟩, a.ok⟩
 ·rw [if_neg hf]
  exact ⟨⟨by simp, by simp⟩, rfl⟩
theorem Vb8 (text : ByteArray) (h : text.size ≤ 1000000) : QaC.f text = some ((conR text).1.2, (conR text).2) ∧ QaK.f text = some ((conR text).1.2, (conR text).2) := by
 refine ⟨?_, ?_⟩
 ·unfold QaC.f QaC.fn QaC.top
  rw [Qc9 text h, Option.bind_some]
  unfold conR
  by_cases hf : fitT text = true
  ·have hf' := hf
   unfold fitT at hf'
   simp only [Bool.and_eq_true, decide_eq_true_eq] at hf'
   have hsz := VcM text
   rw [if_pos hf, hf, if_neg (by simp), Qcj text h, Option.bind_some, Qdm (lnsT text) (by omega) (fun l hl => by have := hsz l hl; omega)]
   rfl
  ·have hf' : fitT text = false := by simpa using hf
   rw [if_neg hf, hf', if_pos (by simp)]
 ·unfold QaK.f QaK.fn QaK.top
  rw [QcZ text h]; rfl
end Go.Pl

namespace Go.Pl
open Go.Ev
set_option linter.unusedVariables false
set_option linter.unusedSimpArgs false
theorem Vh0 {s : List Int × Int × Int} (hs : SrcOk s) (t : ByteArray) (ht : t.size ≤ 1000000) : ∃ u s', Qao.f s t = some (u, s') ∧ SrcOk s' ∧ u.size ≤ t.size + 1 := by
 unfold Qao.f Qao.fn Qao.top
 rw [w64 (n := (t.size : Int) + 1) (by omega) (by omega)]
 obtain ⟨k, s1, e1, o1, k0, k1⟩ := VG hs ((t.size : Int) + 1) (by omega)
 obtain ⟨x, s2, e2, o2, x0, x1⟩ := VG o1 8 (by omega)
 obtain ⟨y, s3, e3, o3, y0, y1⟩ := VG o2 8 (by omega)
 have hk : k ≤ (t.size : Int) := by omega
 have z1 : ∀ a b : Nat, (t.extract a b).size ≤ b - a := fun a b => by rw [ByteArray.size_extract]; omega
 have za := z1 0 k.toNat
 have zb := z1 k.toNat t.size
 simp only [e1, e2, Option.bind_some, k0, hk, and_self, if_true]
 by_cases hx0 : x = 0
 ·subst hx0
  simp only [beq_self_eq_true, if_true]
  exact ⟨_, _, rfl, o2, by omega⟩
 ·have b0 : (x == 0) = false := by rw [beq_eq_false_iff_ne]; exact hx0
  simp only [b0, Bool.false_eq_true, if_false]
  by_cases hx1 : x = 1
  ·subst hx1
   simp only [beq_self_eq_true, if_true, e3, Option.bind_some]
   have hy : y < 8 := by omega
   have hlit : ∀ i : Nat, (([(⟨#[48]⟩ : ByteArray), (⟨#[35]⟩ : ByteArray), (⟨#[46]⟩ : ByteArray), (⟨#[47]⟩ : ByteArray), (⟨#[32]⟩ : ByteArray), (⟨#[97]⟩ : ByteArray), (⟨#[45]⟩ : ByteArray), (⟨#[10]⟩ : ByteArray)]).getD i ByteArray.empty).size ≤ 1 := by
    intro i
    match i with
    | 0 | 1 | 2 | 3 | 4 | 5 | 6 | 7 => exact Nat.le_refl 1
    | n + 8 => exact Nat.zero_le 1
   have hl := hlit y.toNat
   rw [if_pos ⟨y0, by simp only [List.length_cons, List.length_nil]; omega⟩, if_pos (by omega), if_pos (by rw [ByteArray.size_append]; omega)]
   exact ⟨_, _, rfl, o3, by rw [ByteArray.size_append, ByteArray.size_append]; omega⟩
  ·have b1 : (x == 1) = false := by rw [beq_eq_false_iff_ne]; exact hx1
   simp only [b1, Bool.false_eq_true, if_false]
   by_cases hx2 : x = 2
   ·subst hx2
    simp only [beq_self_eq_true, if_true, decide_eq_true_eq]
    by_cases hlt : k < (t.size : Int)
    ·have w1 := w64 (n := k + 1) (by omega) (by omega)
     have zc := z1 (k + 1).toNat t.size
     simp only [hlt, if_true, w1]
     rw [if_pos ⟨by omega, by omega⟩, if_pos (by omega)]
     exact ⟨_, _, rfl, o2, by rw [ByteArray.size_append]; omega⟩
    ·simp only [hlt, if_false]
     exact ⟨_, _, rfl, o2, by omega⟩
   ·have b2 : (x == 2) = false := by rw [beq_eq_false_iff_ne]; exact hx2
    simp only [b2, Bool.false_eq_true, if_false]
    exact ⟨_, _, rfl, o2, by omega⟩
end Go.Pl

namespace Go.Pl
open Go.Ev
set_option linter.unusedVariables false
noncomputable section
def QbL.top (p : List Int) : Option ByteArray :=
 (QW.f p).bind fun r1 =>
 (Qn.f r1).bind fun r2 =>
 some r2.1
def QbL.fn (n : Nat) (p : List Int) : Option ByteArray := QbL.top p
def QbL.f (p : List Int) : Option ByteArray := QbL.fn NN p
end
end Go.Pl

namespace Go.Pl
open Go.Ev
set_option linter.unusedVariables false
noncomputable section
def QbF.top (p : List Int) : Option ByteArray :=
 (QW.f p).bind fun r1 =>
 (Qc.f r1).bind fun r2 =>
 (Qd.f r2.2 2).bind fun r3 =>
 if ((r3.1 : Int) == 0) = true then
 (Qao.f r3.2 r2.1).bind fun r4 =>
 some r4.1
 else
 some r2.1
def QbF.fn (n : Nat) (p : List Int) : Option ByteArray := QbF.top p
def QbF.f (p : List Int) : Option ByteArray := QbF.fn NN p
end
end Go.Pl

namespace Go.Pl
open Go.Ev
set_option linter.unusedVariables false
set_option linter.unusedSimpArgs false
abbrev Src := List Int × Int × Int
def DOk {α : Type} (P : α → Prop) (x : Option (α × Src)) : Prop := ∃ a s, x = some (a, s) ∧ SrcOk s ∧ P a
section
variable {α : Type} {P : α → Prop}
theorem VH {a : α} {s : Src} (hs : SrcOk s) (h : P a) : DOk P (some (a, s)) := ⟨a, s, rfl, hs, h⟩
theorem VA {s : Src} {n : Int} {F : Int × Src → Option (α × Src)} (hs : SrcOk s) (hn : n ≤ 1000000000000000) (h : ∀ x s', SrcOk s' → 0 ≤ x → (x < n ∨ x = 0) → DOk P (F (x, s'))) : DOk P ((Qd.f s n).bind F) := by
 obtain ⟨x, s', e, o, x0, x1⟩ := VG hs n hn
 rw [e]; exact h x s' o x0 x1
theorem VaI {s : Src} {xs : List Int} {F : Int × Src → Option (α × Src)} (hs : SrcOk s) (h1 : 1 ≤ xs.length) (h2 : xs.length ≤ 1000) (h : ∀ x s', SrcOk s' → x ∈ xs → DOk P (F (x, s'))) : DOk P ((Qae.f s xs).bind F) := by
 obtain ⟨x, s', e, o, x0⟩ := Vgt hs xs h1 h2
 rw [e]; exact h x s' o x0
theorem d_dec {n : Int} {F : ByteArray → Option (α × Src)} (h0 : 0 ≤ n) (h1 : n ≤ 1000000000000000) (h : (decB n).size ≤ 20 → DOk P (F (decB n))) : DOk P ((Qf.f n).bind F) := by
 obtain ⟨_, e, d⟩ := VX h0 h1
 rw [e]; exact h d
theorem d_if {c : Prop} {i : Decidable c} {A B : Option (α × Src)} (hc : c) (h : DOk P A) : DOk P (@ite _ c i A B) := by rw [if_pos hc]; exact h
theorem d_ite {c : Prop} {i : Decidable c} {A B : Option (α × Src)} (h1 : c → DOk P A) (h2 : ¬ c → DOk P B) : DOk P (@ite _ c i A B) := by
 by_cases hc : c
 ·rw [if_pos hc]; exact h1 hc
 ·rw [if_neg hc]; exact h2 hc
theorem Vb9 {β : Type} {Q : β → Prop} {x : Option (β × Src)} {F : β × Src → Option (α × Src)} (hx : DOk Q x) (h : ∀ b s', SrcOk s' → Q b → DOk P (F (b, s'))) : DOk P (x.bind F) := by
 obtain ⟨b, s', e, o, q⟩ := hx
 rw [e]; exact h b s' o q
end
def S20 (u : ByteArray) : Prop := u.size ≤ 20
def S200 (u : ByteArray) : Prop := u.size ≤ 200
theorem getB3 {xs : List ByteArray} {i : Int} (h0 : 0 ≤ i) (h1 : i < (xs.length : Int)) : xs.getD i.toNat ByteArray.empty ∈ xs := by
 rw [List.getD_eq_getElem?_getD, List.getElem?_eq_getElem (by omega)]; exact List.getElem_mem _
theorem Vex {s : Src} (hs : SrcOk s) : DOk S20 (QaH.f s) := by
 unfold QaH.f QaH.fn QaH.top
 refine VA hs (by omega) fun x s' o x0 x1 => ?_
 have hx : x < (([(⟨#[98, 97, 110, 107]⟩ : ByteArray), (⟨#[102, 105, 101, 108, 100]⟩ : ByteArray), (⟨#[114, 105, 118, 101, 114]⟩ : ByteArray)] : List ByteArray).length : Int) := by simp only [List.length_cons, List.length_nil]; omega
 refine d_if ⟨x0, hx⟩ (VH o ?_)
 have hm := getB3 x0 hx
 revert hm
 generalize List.getD _ x.toNat ByteArray.empty = c
 intro hm
 simp only [List.mem_cons, List.not_mem_nil, or_false] at hm
 unfold S20
 rcases hm with h | h | h <;> (rw [h]; exact Nat.le_of_ble_eq_true rfl)
theorem Vh1 {n : Int} (h0 : -1000000000000000 ≤ n) (h1 : n ≤ 1000000000000000) : ∃ u, QaL.f n = some u ∧ u.size ≤ 21 := by
 unfold QaL.f QaL.fn QaL.top
 by_cases h : n < 0
 ·obtain ⟨_, e, d⟩ := VX (n := 0 - n) (by omega) (by omega)
  have w := w64 (n := 0 - n) (by omega) (by omega)
  have l1 : (⟨#[45]⟩ : ByteArray).size = 1 := by decide
  rw [if_pos (decide_eq_true h), w, e, Option.bind_some, if_pos (by omega)]
  exact ⟨_, rfl, by rw [ByteArray.size_append]; omega⟩
 ·obtain ⟨_, e, d⟩ := VX (n := n) (by omega) (by omega)
  rw [if_neg (by simpa using h), e]
  exact ⟨_, rfl, by omega⟩
theorem Vjw : ∃ ws : List ByteArray, QaP.f = some ws ∧ ws.length = 10 ∧ ∀ w ∈ ws, w.size ≤ 20 := by
 refine ⟨_, rfl, rfl, ?_⟩
 intro w hw
 simp only [List.mem_cons, List.not_mem_nil, or_false] at hw
 rcases hw with h | h | h | h | h | h | h | h | h | h <;> (rw [h]; exact Nat.le_of_ble_eq_true rfl)
theorem bnd {a b : Nat} (h : a + b ≤ 1000) : a + b ≤ 9223372036854775807 := by omega
theorem z1 : (⟨#[32]⟩ : ByteArray).size = 1 := by decide
theorem VfL {nm cnt : ByteArray} (hn : nm.size ≤ 20) (hc : cnt.size ≤ 20) (v : Int) (b : Bool) {s : Src} (hs : SrcOk s) : DOk S200 (Qc.l1000016 NN NN nm cnt v b s) := by
 rw [Qc.c1000016 nn0]
 unfold Qc.g1000016
 refine d_ite (fun _ => ?_) fun _ => ?_
 ·obtain ⟨ws, e0, l0, m0⟩ := Vjw
  rw [e0, Option.bind_some]
  refine VaI hs (by simp) (by simp) fun x s1 o1 hx => ?_
  have hx2 : 0 ≤ x ∧ x < (ws.length : Int) := by
   rw [l0]
   simp only [List.mem_cons, List.not_mem_nil, or_false] at hx
   omega
  refine d_if hx2 ?_
  have hw := m0 _ (getB3 hx2.1 hx2.2)
  simp only
  generalize ws.getD x.toNat ByteArray.empty = w at hw
  obtain ⟨y, s2, e2, o2, y0, y1⟩ := VG o1 9 (by omega)
  have w1 := w64 (n := 3 + y) (by omega) (by omega)
  obtain ⟨_, e3, d3⟩ := VX (n := 3 + y) (by omega) (by omega)
  have lA : (⟨#[115, 105, 103, 110, 97, 108, 32]⟩ : ByteArray).size = 7 := by decide
  generalize (⟨#[115, 105, 103, 110, 97, 108, 32]⟩ : ByteArray) = A at lA
  have lB := z1
  generalize (⟨#[32]⟩ : ByteArray) = B at lB
  have q1 : A.size + w.size ≤ 9223372036854775807 := bnd (by omega)
  have q2 : (A ++ w).size + B.size ≤ 9223372036854775807 := bnd (by rw [ByteArray.size_append]; omega)
  have q3 : ((A ++ w) ++ B).size + (decB (3 + y)).size ≤ 9223372036854775807 := bnd (by rw [ByteArray.size_append, ByteArray.size_append]; omega)
  simp only [e2, w1, e3, q1, q2, q3, if_true, Option.bind_some, Vt]
  refine VH o2 ?_
  unfold S200
  rw [ByteArray.size_append, ByteArray.size_append, ByteArray.size_append]; omega
 refine d_ite (fun _ => ?_) fun _ => ?_
 ·obtain ⟨x, s1, e1, o1, x0, x1⟩ := VG hs 2 (by omega)
  obtain ⟨y, s2, e2, o2, y0, y1⟩ := VG o1 12 (by omega)
  obtain ⟨_, e3, d3⟩ := VX (n := y) (by omega) (by omega)
  have hx : 0 ≤ x ∧ x < (([(⟨#[115, 116, 97, 116, 101, 32]⟩ : ByteArray), (⟨#[102, 105, 114, 101, 32]⟩ : ByteArray)] : List ByteArray).length : Int) := ⟨x0, by simp only [List.length_cons, List.length_nil]; omega⟩
  have hw : (([(⟨#[115, 116, 97, 116, 101, 32]⟩ : ByteArray), (⟨#[102, 105, 114, 101, 32]⟩ : ByteArray)] : List ByteArray).getD x.toNat ByteArray.empty).size ≤ 20 := by
   have hm := getB3 hx.1 hx.2
   revert hm
   generalize List.getD _ x.toNat ByteArray.empty = c
   intro hm
   simp only [List.mem_cons, List.not_mem_nil, or_false] at hm
   rcases hm with h | h <;> (rw [h]; exact Nat.le_of_ble_eq_true rfl)
  have q1 : (([(⟨#[115, 116, 97, 116, 101, 32]⟩ : ByteArray), (⟨#[102, 105, 114, 101, 32]⟩ : ByteArray)] : List ByteArray).getD x.toNat ByteArray.empty).size + (decB y).size ≤ 9223372036854775807 := bnd (by omega)
  simp only [e1, e2, e3, q1, hx, and_self, if_true, Option.bind_some, Vt]
  refine VH o2 ?_
  unfold S200
  rw [ByteArray.size_append]; omega
 refine d_ite (fun _ => ?_) fun _ => ?_
 ·have lA : (⟨#[102, 105, 114, 101, 32]⟩ : ByteArray).size = 5 := by decide
  refine VA hs (by omega) fun x s1 o1 x0 x1 => ?_
  refine d_dec x0 (by simp only; omega) fun d => ?_
  refine d_if (bnd (by simp only at d ⊢; omega)) (VH o1 ?_)
  unfold S200
  simp only at d ⊢
  rw [ByteArray.size_append]; omega
 refine d_ite (fun _ => ?_) fun _ => ?_
 ·have lA : (⟨#[98, 111, 111, 107, 32, 105, 110, 32]⟩ : ByteArray).size = 8 := by decide
  have lB := z1
  refine d_if (bnd (by omega)) (d_if (bnd (by rw [ByteArray.size_append]; omega)) (d_if (bnd (by rw [ByteArray.size_append, ByteArray.size_append]; omega)) (VH hs ?_)))
  unfold S200
  rw [ByteArray.size_append, ByteArray.size_append, ByteArray.size_append]; omega
 refine d_ite (fun _ => ?_) fun _ => ?_
 ·have lA : (⟨#[98, 111, 111, 107, 32]⟩ : ByteArray).size = 5 := by decide
  have lB := z1
  refine VA hs (by omega) fun x s1 o1 x0 x1 => ?_
  have hx : 0 ≤ x ∧ x < (([(⟨#[102, 105, 114, 101, 100]⟩ : ByteArray), (⟨#[114, 101, 116, 117, 114, 110, 101, 100]⟩ : ByteArray), (⟨#[100, 101, 115, 116, 114, 111, 121, 101, 100]⟩ : ByteArray)] : List ByteArray).length : Int) := ⟨x0, by simp only [List.length_cons, List.length_nil]; omega⟩
  refine d_if hx ?_
  have hw : (([(⟨#[102, 105, 114, 101, 100]⟩ : ByteArray), (⟨#[114, 101, 116, 117, 114, 110, 101, 100]⟩ : ByteArray), (⟨#[100, 101, 115, 116, 114, 111, 121, 101, 100]⟩ : ByteArray)] : List ByteArray).getD x.toNat ByteArray.empty).size ≤ 20 := by
   have hm := getB3 hx.1 hx.2
   revert hm
   generalize List.getD _ x.toNat ByteArray.empty = c
   intro hm
   simp only [List.mem_cons, List.not_mem_nil, or_false] at hm
   rcases hm with h | h | h <;> (rw [h]; exact Nat.le_of_ble_eq_true rfl)
  simp only
  generalize List.getD _ x.toNat ByteArray.empty = w at hw
  refine d_if (bnd (by omega)) (d_if (bnd (by rw [ByteArray.size_append]; omega)) (d_if (bnd (by rw [ByteArray.size_append, ByteArray.size_append]; omega)) (d_if (bnd (by rw [ByteArray.size_append, ByteArray.size_append, ByteArray.size_append]; omega)) (d_if (bnd (by rw [ByteArray.size_append, ByteArray.size_append, ByteArray.size_append, ByteArray.size_append]; omega)) (VH o1 ?_)))))
  unfold S200
  rw [ByteArray.size_append, ByteArray.size_append, ByteArray.size_append, ByteArray.size_append, ByteArray.size_append]; omega
 refine d_ite (fun _ => ?_) fun _ => ?_
 ·have lA : (⟨#[108, 101, 102, 116, 32]⟩ : ByteArray).size = 5 := by decide
  have lC : (⟨#[111, 112, 101, 110]⟩ : ByteArray).size = 4 := by decide
  refine d_if (bnd (by omega)) ?_
  refine VA hs (by omega) fun x s1 o1 x0 x1 => ?_
  generalize (⟨#[108, 101, 102, 116, 32]⟩ : ByteArray) = A at lA
  generalize (⟨#[111, 112, 101, 110]⟩ : ByteArray) = C at lC
  have hx : 0 ≤ x ∧ x < (([A ++ nm, C] : List ByteArray).length : Int) := ⟨x0, by simp only [List.length_cons, List.length_nil]; omega⟩
  refine d_if hx (VH o1 ?_)
  have hm := getB3 hx.1 hx.2
  simp only
  revert hm
  generalize List.getD _ x.toNat ByteArray.empty = c
  intro hm
  simp only [List.mem_cons, List.not_mem_nil, or_false] at hm
  unfold S200
  rcases hm with h | h
  ·rw [h, ByteArray.size_append]; omega
  ·rw [h]; omega
 refine d_ite (fun _ => ?_) fun _ => ?_
 ·have lA : (⟨#[115, 101, 116, 116, 108, 101, 32]⟩ : ByteArray).size = 7 := by decide
  have lC : (⟨#[110, 101, 101, 100, 32, 49, 50, 32]⟩ : ByteArray).size = 8 := by decide
  generalize (⟨#[115, 101, 116, 116, 108, 101, 32]⟩ : ByteArray) = A at lA
  generalize (⟨#[110, 101, 101, 100, 32, 49, 50, 32]⟩ : ByteArray) = C at lC
  refine VA hs (by omega) fun x s1 o1 x0 x1 => ?_
  refine d_dec x0 (by simp only; omega) fun d1 => ?_
  refine d_if (bnd (by simp only at d1 ⊢; omega)) ?_
  refine VA o1 (by omega) fun y s2 o2 y0 y1 => ?_
  refine d_dec y0 (by simp only; omega) fun d2 => ?_
  refine d_if (bnd (by simp only at d2 ⊢; omega)) ?_
  refine VA o2 (by omega) fun z s3 o3 z0 z1 => ?_
  simp only at d1 d2 ⊢
  generalize decB x = D1 at d1
  generalize decB y = D2 at d2
  have hz : 0 ≤ z ∧ z < (([A ++ D1, C ++ D2] : List ByteArray).length : Int) := ⟨z0, by simp only [List.length_cons, List.length_nil]; omega⟩
  refine d_if hz (VH o3 ?_)
  have hm := getB3 hz.1 hz.2
  revert hm
  generalize List.getD _ z.toNat ByteArray.empty = c
  intro hm
  simp only [List.mem_cons, List.not_mem_nil, or_false] at hm
  unfold S200
  rcases hm with h | h
  ·rw [h, ByteArray.size_append]; omega
  ·rw [h, ByteArray.size_append]; omega
 obtain ⟨x, s1, e1, o1, x0, x1⟩ := VG hs 2 (by omega)
 obtain ⟨y, s2, e2, o2, y0, y1⟩ := VG o1 90000 (by omega)
 obtain ⟨_, e3, d3⟩ := VX (n := y) (by omega) (by omega)
 have hx : 0 ≤ x ∧ x < (([(⟨#[116, 111, 112, 32]⟩ : ByteArray), (⟨#[116, 105, 109, 101, 32]⟩ : ByteArray)] : List ByteArray).length : Int) := ⟨x0, by simp only [List.length_cons, List.length_nil]; omega⟩
 have hw : (([(⟨#[116, 111, 112, 32]⟩ : ByteArray), (⟨#[116, 105, 109, 101, 32]⟩ : ByteArray)] : List ByteArray).getD x.toNat ByteArray.empty).size ≤ 20 := by
  have hm := getB3 hx.1 hx.2
  revert hm
  generalize List.getD _ x.toNat ByteArray.empty = c
  intro hm
  simp only [List.mem_cons, List.not_mem_nil, or_false] at hm
  rcases hm with h | h <;> (rw [h]; exact Nat.le_of_ble_eq_true rfl)
 have q1 : (([(⟨#[116, 111, 112, 32]⟩ : ByteArray), (⟨#[116, 105, 109, 101, 32]⟩ : ByteArray)] : List ByteArray).getD x.toNat ByteArray.empty).size + (decB y).size ≤ 9223372036854775807 := bnd (by omega)
 simp only [e1, e2, e3, q1, hx, and_self, if_true, Option.bind_some, Vt]
 refine VH o2 ?_
 unfold S200
 rw [ByteArray.size_append]; omega
end Go.Pl

namespace Go.Pl
open Go.Ev
set_option linter.unusedVariables false
set_option linter.unusedSimpArgs false
theorem VgA {z nm cnt : ByteArray} (hz : z.size ≤ 20) (hn : nm.size ≤ 20) (hc : cnt.size ≤ 20) (v : Int) (b : Bool) {s : Src} (hs : SrcOk s) : DOk S200 (Qc.l1000007 NN NN z nm cnt v b s) := by
 rw [Qc.c1000007 nn0]
 unfold Qc.g1000007
 have lB := z1
 refine d_ite (fun _ => ?_) fun _ => ?_
 ·have lA : (⟨#[112, 101, 111, 112, 108, 101, 32]⟩ : ByteArray).size = 7 := by decide
  generalize (⟨#[112, 101, 111, 112, 108, 101, 32]⟩ : ByteArray) = A at lA
  generalize (⟨#[32]⟩ : ByteArray) = B at lB
  refine d_if (bnd (by omega)) (d_if (bnd (by rw [ByteArray.size_append]; omega)) ?_)
  refine VA hs (by omega) fun x s1 o1 x0 x1 => ?_
  have w := w64 (n := 1000 * x) (by omega) (by omega)
  simp only [w]
  refine d_dec (by omega) (by omega) fun d1 => ?_
  generalize decB (1000 * x) = D at d1
  refine d_if (bnd (by rw [ByteArray.size_append, ByteArray.size_append]; omega)) (d_if (bnd (by rw [ByteArray.size_append, ByteArray.size_append, ByteArray.size_append]; omega)) ?_)
  refine VaI o1 (by simp) (by simp) fun y s2 o2 hy => ?_
  have hy2 : -10 ≤ y ∧ y ≤ 10 := by
   simp only [List.mem_cons, List.not_mem_nil, or_false] at hy
   omega
  obtain ⟨u, e, du⟩ := Vh1 (n := y) (by omega) (by omega)
  simp only [e, Option.bind_some]
  refine d_if (bnd (by rw [ByteArray.size_append, ByteArray.size_append, ByteArray.size_append, ByteArray.size_append]; omega)) (VH o2 ?_)
  unfold S200
  rw [ByteArray.size_append, ByteArray.size_append, ByteArray.size_append, ByteArray.size_append, ByteArray.size_append]; omega
 refine d_ite (fun _ => ?_) fun _ => ?_
 ·have lA : (⟨#[99, 108, 101, 97, 114, 32]⟩ : ByteArray).size = 6 := by decide
  generalize (⟨#[99, 108, 101, 97, 114, 32]⟩ : ByteArray) = A at lA
  generalize (⟨#[32]⟩ : ByteArray) = B at lB
  refine d_if (bnd (by omega)) (d_if (bnd (by rw [ByteArray.size_append]; omega)) ?_)
  refine VA hs (by omega) fun x s1 o1 x0 x1 => ?_
  have w := w64 (n := 1000 * x) (by omega) (by omega)
  simp only [w]
  refine d_dec (by omega) (by omega) fun d1 => ?_
  generalize decB (1000 * x) = D at d1
  refine d_if (bnd (by rw [ByteArray.size_append, ByteArray.size_append]; omega)) (VH o1 ?_)
  unfold S200
  rw [ByteArray.size_append, ByteArray.size_append, ByteArray.size_append]; omega
 refine d_ite (fun _ => ?_) fun _ => ?_
 ·have lA : (⟨#[115, 105, 103, 110, 97, 108, 32, 107, 101, 121, 97, 32]⟩ : ByteArray).size = 12 := by decide
  refine VA hs (by omega) fun x s1 o1 x0 x1 => ?_
  refine d_dec x0 (by simp only; omega) fun d => ?_
  refine d_if (bnd (by simp only at d ⊢; omega)) (VH o1 ?_)
  unfold S200
  simp only at d ⊢
  rw [ByteArray.size_append]; omega
 refine d_ite (fun _ => ?_) fun _ => ?_
 ·have lA : (⟨#[115, 105, 103, 110, 97, 108, 32, 107, 101, 121, 98, 32]⟩ : ByteArray).size = 12 := by decide
  refine VA hs (by omega) fun x s1 o1 x0 x1 => ?_
  refine d_dec x0 (by simp only; omega) fun d => ?_
  refine d_if (bnd (by simp only at d ⊢; omega)) (VH o1 ?_)
  unfold S200
  simp only at d ⊢
  rw [ByteArray.size_append]; omega
 exact d_ite (fun _ => VfL hn hc _ _ hs) fun _ => VfL hn hc _ _ hs
theorem Vh2 : ∀ c ∈ names6, c.size ≤ 20 := by
 intro c hc
 unfold names6 at hc
 simp only [List.mem_cons, List.not_mem_nil, or_false] at hc
 rcases hc with h | h | h | h | h | h <;> (rw [h]; exact Nat.le_of_ble_eq_true rfl)
theorem Vg4 {s : Src} (hs : SrcOk s) : DOk S200 (Qc.f s) := by
 unfold Qc.f Qc.fn Qc.top
 refine Vb9 (Vex hs) fun z s1 o1 hz => ?_
 rw [Vgv, Option.bind_some]
 refine VA o1 (by omega) fun x s2 o2 x0 x1 => ?_
 have hx : 0 ≤ x ∧ x < (names6.length : Int) := ⟨x0, by rw [Vck]; omega⟩
 refine d_if hx ?_
 have hn := Vh2 _ (getB3 hx.1 hx.2)
 refine VA o2 (by omega) fun y s3 o3 y0 y1 => ?_
 have w := w64 (n := 1 + y) (by omega) (by omega)
 simp only [w]
 refine d_dec (by omega) (by omega) fun d1 => ?_
 refine VA o3 (by omega) fun v s4 o4 v0 v1 => ?_
 exact d_ite (fun _ => VgA hz hn d1 _ _ o4) fun _ => VgA hz hn d1 _ _ o4
def S9k (u : ByteArray) : Prop := u.size ≤ 900000
theorem Vgb (t : ByteArray) (w : Src) (hw : SrcOk w) : ∀ (n : Nat) (i : Int) (u : ByteArray) (k : Nat), i + n = 36 → 0 ≤ i → n < k → u.size + 5 * n ≤ 900000 → DOk S9k (Qn.l12 NN k u i w) := by
 intro n
 induction n with
 | zero =>
  intro i u k hi _ hk hu
  obtain ⟨k, rfl⟩ : ∃ j, k = j + 1 := ⟨k - 1, by omega⟩
  have c : ¬ i < 36 := by omega
  simp only [Qn.l12, Qn.g12, c, and_self, and_true, true_and, decide_true, decide_false, if_true, if_false, Vc, Vd, Va, Vb, Ve, Option.bind_some, Bool.not_true, Bool.not_false, Bool.false_eq_true, Bool.true_eq_false, beq_self_eq_true, bne_self_eq_false, Int.toNat_natCast]
  exact VH hw (by unfold S9k; omega)
 | succ n ih =>
  intro i u k hi h0 hk hu
  obtain ⟨k, rfl⟩ : ∃ j, k = j + 1 := ⟨k - 1, by omega⟩
  have c : i < 36 := by omega
  have l : (⟨#[111, 112, 101, 110, 10]⟩ : ByteArray).size = 5 := by decide
  have cw := w64 (n := i + 1) (by omega) (by omega)
  have q : u.size + (⟨#[111, 112, 101, 110, 10]⟩ : ByteArray).size ≤ 9223372036854775807 := by omega
  simp only [Qn.l12, Qn.g12, c, q, cw, and_self, and_true, true_and, decide_true, decide_false, if_true, if_false, Vc, Vd, Va, Vb, Ve, Option.bind_some, Bool.not_true, Bool.not_false, Bool.false_eq_true, Bool.true_eq_false, beq_self_eq_true, bne_self_eq_false, Int.toNat_natCast]
  exact ih (i + 1) _ k (by omega) (by omega) (by omega) (by rw [ByteArray.size_append]; omega)
theorem Vg5 : ∀ (n : Nat) (u : ByteArray) (k : Nat) (s : Src), SrcOk s → n ≤ 20 → n < k → u.size + 300 * n ≤ 800000 → DOk S9k (Qn.l3 NN k u n s) := by
 intro n
 induction n with
 | zero =>
  intro u k s hs _ hk hu
  obtain ⟨k, rfl⟩ : ∃ j, k = j + 1 := ⟨k - 1, by omega⟩
  have c : ¬ (0 : Int) < ((0 : Nat) : Int) := by omega
  have l : (⟨#[111, 112, 101, 110]⟩ : ByteArray).size = 4 := by decide
  have q : u.size + (⟨#[111, 112, 101, 110]⟩ : ByteArray).size ≤ 9223372036854775807 := by omega
  simp only [Qn.l3, Qn.g3, c, and_self, and_true, true_and, decide_true, decide_false, if_true, if_false, Vc, Vd, Va, Vb, Ve, Option.bind_some, Bool.not_true, Bool.not_false, Bool.false_eq_true, Bool.true_eq_false, beq_self_eq_true, bne_self_eq_false, Int.toNat_natCast]
  refine VA hs (by omega) fun x s1 o1 x0 x1 => ?_
  refine d_ite (fun _ => Vgb u s1 o1 36 0 u NN (by omega) (by omega) (NN_lt (by omega)) (by omega)) fun _ => ?_
  refine d_ite (fun _ => d_if q (VH o1 ?_)) fun _ => VH o1 ?_
  ·unfold S9k; rw [ByteArray.size_append]; omega
  ·unfold S9k; omega
 | succ n ih =>
  intro u k s hs hn hk hu
  obtain ⟨k, rfl⟩ : ∃ j, k = j + 1 := ⟨k - 1, by omega⟩
  have c : (0 : Int) < ((n + 1 : Nat) : Int) := by omega
  have l : (⟨#[10]⟩ : ByteArray).size = 1 := by decide
  have w : IntKind.i64.wrap (((n + 1 : Nat) : Int) - 1) = (n : Int) := by rw [w64 (by omega) (by omega)]; omega
  simp only [Qn.l3, Qn.g3, c, w, and_self, and_true, true_and, decide_true, decide_false, if_true, if_false, Vc, Vd, Va, Vb, Ve, Option.bind_some, Bool.not_true, Bool.not_false, Bool.false_eq_true, Bool.true_eq_false, beq_self_eq_true, bne_self_eq_false, Int.toNat_natCast]
  refine Vb9 (Vg4 hs) fun line s1 o1 hl => ?_
  have hl' : line.size ≤ 200 := hl
  refine VA o1 (by omega) fun x s2 o2 x0 x1 => ?_
  refine d_ite (fun _ => ?_) fun _ => ?_
  ·obtain ⟨v, s3, e, o3, hv⟩ := Vh0 o2 line (by omega)
   simp only [e, Option.bind_some]
   refine d_if (by omega) (d_if (by rw [ByteArray.size_append]; omega) ?_)
   exact ih _ k s3 o3 (by omega) (by omega) (by rw [ByteArray.size_append, ByteArray.size_append]; omega)
  ·refine d_if (by simp only; omega) (d_if (by simp only [ByteArray.size_append]; omega) ?_)
   exact ih _ k s2 o2 (by omega) (by omega) (by simp only [ByteArray.size_append]; omega)
theorem Vd7 {s : Src} (hs : SrcOk s) : DOk S9k (Qn.f s) := by
 unfold Qn.f Qn.fn Qn.top
 refine VA hs (by omega) fun x s1 o1 x0 x1 => ?_
 have e : x = ((x.toNat : Nat) : Int) := by omega
 have z : (⟨#[]⟩ : ByteArray).size = 0 := by decide
 simp only
 rw [e]
 exact Vg5 x.toNat _ NN s1 o1 (by omega) (NN_lt (by omega)) (by omega)
theorem Vdx {code : List Int} (h : Vd5 code) : ∃ u, Qat.f code = some u ∧ u.size ≤ 900000 := by
 obtain ⟨s, e, o⟩ := Vgu h
 obtain ⟨u, s1, e1, o1, hu⟩ := Vd7 o
 unfold Qat.f Qat.fn Qat.top
 rw [e, Option.bind_some, e1]
 exact ⟨u, rfl, hu⟩
end Go.Pl

namespace Go.Pl
open Go.Ev
set_option linter.unusedVariables false
set_option linter.unusedSimpArgs false
theorem Vey (a : List Mov) (hl : a.length ≤ 140737488355328) : QK.f a a = some true := by
 unfold QK.f QK.fn QK.top
 simp only [bne_self_eq_false, Bool.false_eq_true, if_false]
 refine Vdn (E := fun _ => True) (fun k a b i => QK.l4 NN k a b i) a (fun _ _ => trivial) ?_ ?_ NN (NN_lt (by omega))
 ·intro k p x r hx ha
  subst ha
  have hm := Vz p r x
  have c1 : (p.length : Int) < ((p ++ x :: r).length : Int) := by omega
  have c0 : (0 : Int) ≤ (p.length : Int) := by omega
  have cw := w64 (n := (p.length : Int) + 1) (by omega) (by omega)
  simp only [QK.l4, QK.g4, c0, c1, cw, and_self, and_true, true_and, decide_true, decide_false, if_true, if_false, Vc, Vd, Va, Vb, Ve, Option.bind_some, Bool.not_true, Bool.not_false, Bool.false_eq_true, Bool.true_eq_false, beq_self_eq_true, bne_self_eq_false, Int.toNat_natCast]
  simp
 ·intro k
  simp [QK.l4, QK.g4]
theorem Vdy (a : List Sig) (hl : a.length ≤ 140737488355328) : Qw.f a a = some true := by
 unfold Qw.f Qw.fn Qw.top
 simp only [bne_self_eq_false, Bool.false_eq_true, if_false]
 refine Vdn (E := fun _ => True) (fun k a b i => Qw.l4 NN k a b i) a (fun _ _ => trivial) ?_ ?_ NN (NN_lt (by omega))
 ·intro k p x r hx ha
  subst ha
  have hm := Vz p r x
  have c1 : (p.length : Int) < ((p ++ x :: r).length : Int) := by omega
  have c0 : (0 : Int) ≤ (p.length : Int) := by omega
  have cw := w64 (n := (p.length : Int) + 1) (by omega) (by omega)
  simp only [Qw.l4, Qw.g4, c0, c1, cw, and_self, and_true, true_and, decide_true, decide_false, if_true, if_false, Vc, Vd, Va, Vb, Ve, Option.bind_some, Bool.not_true, Bool.not_false, Bool.false_eq_true, Bool.true_eq_false, beq_self_eq_true, bne_self_eq_false, Int.toNat_natCast]
  try simp
 ·intro k
  simp [Qw.l4, Qw.g4]
def MvP (xs : List Mov) : Prop := Vy xs = true
theorem mv_ok {xs : List Mov} (h : Vy xs = true) : Lm Vd3 xs := by
 obtain ⟨m1, m2, m3⟩ := VK h
 refine ⟨by omega, fun m hm => ?_⟩
 obtain ⟨a, b, c⟩ := Vaa (m3 m hm)
 exact ⟨wf64.2 (by omega), Nat.le_trans (Vah b).2 (by omega), wf64.2 (by omega)⟩
theorem ViG {xs : List Mov} {m : Mov} (h : (amR xs m).2 = 0) : Vy (amR xs m).1 = true := by
 unfold amR at h ⊢
 repeat' split
 all_goals simp_all
theorem ViH : ∀ (n : Nat) (t : Int) (s : Src) (out : List Mov) (k : Nat), n < k → n ≤ 20 → SrcOk s → Vy out = true → 0 ≤ t → t + 100000 * n ≤ 100000000 → DOk MvP (Q2.l4 NN k t n s out) := by
 intro n
 induction n with
 | zero =>
  intro t s out k hk _ hs hb _ _
  obtain ⟨k, rfl⟩ : ∃ j, k = j + 1 := ⟨k - 1, by omega⟩
  have c : ¬ (0 : Int) < ((0 : Nat) : Int) := by omega
  simp only [Q2.l4, Q2.g4, c, and_self, and_true, true_and, decide_true, decide_false, if_true, if_false, Vc, Vd, Va, Vb, Ve, Option.bind_some, Bool.not_true, Bool.not_false, Bool.false_eq_true, Bool.true_eq_false, beq_self_eq_true, bne_self_eq_false, Int.toNat_natCast]
  exact VH hs hb
 | succ n ih =>
  intro t s out k hk hn hs hb h0 ht
  obtain ⟨k, rfl⟩ : ∃ j, k = j + 1 := ⟨k - 1, by omega⟩
  have c : (0 : Int) < ((n + 1 : Nat) : Int) := by omega
  have w : IntKind.i64.wrap (((n + 1 : Nat) : Int) - 1) = (n : Int) := by rw [w64 (by omega) (by omega)]; omega
  obtain ⟨m1, m2, m3⟩ := VK hb
  obtain ⟨z1, z2⟩ := Vdv hb
  simp only [Q2.l4, Q2.g4, c, w, and_self, and_true, true_and, decide_true, decide_false, if_true, if_false, Vc, Vd, Va, Vb, Ve, Option.bind_some, Bool.not_true, Bool.not_false, Bool.false_eq_true, Bool.true_eq_false, beq_self_eq_true, bne_self_eq_false, Int.toNat_natCast]
  refine Vb9 (Vex hs) fun z s1 o1 hz => ?_
  refine VA o1 (by omega) fun x s2 o2 x0 x1 => ?_
  have hp := Qb6 out [] z m3 (by omega)
  rw [List.append_nil] at hp
  have hbd := Vi7 z out 0 m3
  have hps : peopS out z = out.foldl (addP z) 0 := rfl
  rw [← hps] at hbd
  simp only [hp, Option.bind_some]
  have tail : ∀ (s' : Src) (o' : List Mov), SrcOk s' → Vy o' = true → DOk MvP ((Qd.f s' 20000).bind fun r9 => (Qd.f r9.2 60000).bind fun r10 => (Qae.f r10.2 ([0, r9.1, r10.1])).bind fun r11 => Q2.l4 NN k (IntKind.i64.wrap (t + r11.1)) n r11.2 o') := by
   intro s' o' hs' hb'
   refine VA hs' (by omega) fun a s3 o3 a0 a1 => ?_
   refine VA o3 (by omega) fun b s4 o4 b0 b1 => ?_
   refine VaI o4 (by simp) (by simp) fun q s5 o5 hq => ?_
   have hq2 : 0 ≤ q ∧ q ≤ 100000 := by
    simp only [List.mem_cons, List.not_mem_nil, or_false] at hq
    omega
   simp only
   rw [w64 (n := t + q) (by omega) (by omega)]
   exact ih (t + q) s5 o' k (by omega) (by omega) o5 hb' (by omega) (by omega)
  have add : ∀ (m : Mov) (s' : Src), Sz m.2.1 → SrcOk s' → DOk MvP ((Qal.f out m).bind fun r8 => if ((r8.2 : Int) == 0) = true then ((Qd.f s' 20000).bind fun r9 => (Qd.f r9.2 60000).bind fun r10 => (Qae.f r10.2 ([0, r9.1, r10.1])).bind fun r11 => Q2.l4 NN k (IntKind.i64.wrap (t + r11.1)) n r11.2 r8.1) else ((Qd.f s' 20000).bind fun r12 => (Qd.f r12.2 60000).bind fun r13 => (Qae.f r13.2 ([0, r12.1, r13.1])).bind fun r14 => Q2.l4 NN k (IntKind.i64.wrap (t + r14.1)) n r14.2 out)) := by
   intro m s' hm hs'
   rw [(VcI out m z1 z2 hm).1, Option.bind_some]
   refine d_ite (fun h => ?_) fun _ => tail s' out hs' hb
   exact tail s' _ hs' (ViG (by simpa using h))
  have hzz : Sz z := Nat.le_trans hz (by omega)
  refine d_ite (fun _ => ?_) fun _ => add (t, (z, IntKind.i64.wrap (1 + x))) s2 hzz o2
  refine VA o2 (by omega) fun y s3 o3 y0 y1 => ?_
  refine d_ite (fun _ => ?_) fun _ => add (t, (z, IntKind.i64.wrap (1 + x))) s3 hzz o3
  refine VaI o3 (by simp) (by simp) fun q s4 o4 hq => ?_
  exact add (t, (z, IntKind.i64.wrap (0 - q))) s4 hzz o4
theorem Vh3 {s : Src} (hs : SrcOk s) : DOk MvP (Q2.f s) := by
 unfold Q2.f Q2.fn Q2.top
 refine VA hs (by omega) fun t s1 o1 t0 t1 => ?_
 refine VA o1 (by omega) fun n s2 o2 n0 n1 => ?_
 have e : n = ((n.toNat : Nat) : Int) := by omega
 simp only
 rw [e]
 exact ViH n.toNat t s2 [] NN (NN_lt (by omega)) (by omega) o2 rfl t0 (by omega)
def LMv (xs : List Mov) : Prop := Lm Vd3 xs
theorem ViI : ∀ (d k : Nat) (s : Src) (out : List Mov), out.length + d = 42 → d < k → SrcOk s → Lm Vd3 out → DOk LMv (Q8.l6 NN k s out) := by
 intro d
 induction d with
 | zero =>
  intro k s out hd hk hs hl
  obtain ⟨k, rfl⟩ : ∃ j, k = j + 1 := ⟨k - 1, by omega⟩
  simp only [Q8.l6, Q8.g6]
  refine VA hs (by omega) fun x s1 o1 x0 x1 => ?_
  have w := w64 (n := 40 + x) (by omega) (by omega)
  have c : ¬ (out.length : Int) < 40 + x := by omega
  simp only [w, c, and_self, and_true, true_and, decide_true, decide_false, if_true, if_false, Vc, Vd, Va, Vb, Ve, Option.bind_some, Bool.not_true, Bool.not_false, Bool.false_eq_true, Bool.true_eq_false, beq_self_eq_true, bne_self_eq_false, Int.toNat_natCast]
  exact VH o1 hl
 | succ d ih =>
  intro k s out hd hk hs hl
  obtain ⟨k, rfl⟩ : ∃ j, k = j + 1 := ⟨k - 1, by omega⟩
  simp only [Q8.l6, Q8.g6]
  refine VA hs (by omega) fun x s1 o1 x0 x1 => ?_
  refine d_ite (fun _ => d_if (VcW (by simp; omega)) ?_) fun _ => VH o1 hl
  refine ih k s1 _ (by simp; omega) (by omega) o1 ⟨by simp; omega, fun m hm => ?_⟩
  rcases List.mem_append.1 hm with hm | hm
  ·exact hl.2 m hm
  ·rw [List.mem_singleton.1 hm]
   exact ⟨wf64.2 (by simp only; omega), (show (⟨#[102, 105, 101, 108, 100]⟩ : ByteArray).size ≤ 1000000 by decide), wf64.2 (by simp only; omega)⟩
theorem Vh4 {s : Src} (hs : SrcOk s) : DOk LMv (Q8.f s) := by
 unfold Q8.f Q8.fn Q8.top
 refine Vb9 (Vh3 hs) fun out s1 o1 hb => ?_
 have hm := (VK hb).1
 have hl := mv_ok hb
 refine VA o1 (by omega) fun x s2 o2 x0 x1 => ?_
 refine d_ite (fun _ => ?_) fun _ => ?_
 ·refine VaI o2 (by simp) (by simp) fun t s3 o3 ht => ?_
  refine Vb9 (Vex o3) fun z s4 o4 hz => ?_
  refine VaI o4 (by simp) (by simp) fun q s5 o5 hq => ?_
  have ht2 : 0 ≤ t ∧ t ≤ 10000001 := by simp only [List.mem_cons, List.not_mem_nil, or_false] at ht; omega
  have hq2 : -1 ≤ q ∧ q ≤ 1001 := by simp only [List.mem_cons, List.not_mem_nil, or_false] at hq; omega
  refine d_if (VcW (by simp; omega)) (VH o5 ⟨by simp; omega, fun m hm => ?_⟩)
  rcases List.mem_append.1 hm with hm | hm
  ·exact hl.2 m hm
  ·rw [List.mem_singleton.1 hm]
   exact ⟨wf64.2 (by simp only; omega), Nat.le_trans hz (by omega), wf64.2 (by simp only; omega)⟩
 ·refine d_ite (fun _ => ?_) fun _ => VH o2 hl
  exact ViI (42 - out.length) NN s2 out (by omega) (NN_lt (by omega)) o2 hl
def LSg (n : Nat) (xs : List Sig) : Prop := xs.length ≤ n ∧ ∀ m ∈ xs, Vci m
theorem mkS {a b : Int} (h1 : -1000000000 ≤ a ∧ a ≤ 1000000000) (h2 : -1000000000 ≤ b ∧ b ≤ 1000000000) : Vci (a, b) := ⟨wf64.2 (by simp only; omega), wf64.2 (by simp only; omega)⟩
theorem VcY {xs : List Sig} {n : Nat} {y : Sig} (h : LSg n xs) (hy : Vci y) : LSg (n + 1) (xs ++ [y]) := by
 refine ⟨by simp; exact h.1, fun m hm => ?_⟩
 rcases List.mem_append.1 hm with hm | hm
 ·exact h.2 m hm
 ·rw [List.mem_singleton.1 hm]; exact hy
theorem sg_le {xs : List Sig} {n m : Nat} (h : LSg n xs) (hn : n ≤ m) : LSg m xs := ⟨Nat.le_trans h.1 hn, h.2⟩
theorem VfM : ∀ (n : Nat) (t : Int) (s : Src) (out : List Sig) (k : Nat), n < k → n ≤ 20 → SrcOk s → LSg (23 - n) out → 0 ≤ t → t + 10 * n ≤ 10000 → DOk (LSg 23) (Q9.l7 NN k t n s out) := by
 intro n
 induction n with
 | zero =>
  intro t s out k hk _ hs hb _ _
  obtain ⟨k, rfl⟩ : ∃ j, k = j + 1 := ⟨k - 1, by omega⟩
  have c : ¬ (0 : Int) < ((0 : Nat) : Int) := by omega
  simp only [Q9.l7, Q9.g7, c, and_self, and_true, true_and, decide_true, decide_false, if_true, if_false, Vc, Vd, Va, Vb, Ve, Option.bind_some, Bool.not_true, Bool.not_false, Bool.false_eq_true, Bool.true_eq_false, beq_self_eq_true, bne_self_eq_false, Int.toNat_natCast]
  exact VH hs hb
 | succ n ih =>
  intro t s out k hk hn hs hb h0 ht
  obtain ⟨k, rfl⟩ : ∃ j, k = j + 1 := ⟨k - 1, by omega⟩
  have c : (0 : Int) < ((n + 1 : Nat) : Int) := by omega
  have w : IntKind.i64.wrap (((n + 1 : Nat) : Int) - 1) = (n : Int) := by rw [w64 (by omega) (by omega)]; omega
  simp only [Q9.l7, Q9.g7, c, w, and_self, and_true, true_and, decide_true, decide_false, if_true, if_false, Vc, Vd, Va, Vb, Ve, Option.bind_some, Bool.not_true, Bool.not_false, Bool.false_eq_true, Bool.true_eq_false, beq_self_eq_true, bne_self_eq_false, Int.toNat_natCast]
  refine VaI hs (by simp) (by simp) fun a s1 o1 ha => ?_
  refine VaI o1 (by simp) (by simp) fun b s2 o2 hb2 => ?_
  have ha2 : 0 ≤ a ∧ a ≤ 4 := by simp only [List.mem_cons, List.not_mem_nil, or_false] at ha; omega
  have hb3 : 0 ≤ b ∧ b ≤ 9 := by simp only [List.mem_cons, List.not_mem_nil, or_false] at hb2; omega
  have hl := hb.1
  simp only
  rw [w64 (n := t + a) (by omega) (by omega)]
  refine d_if (Vbx (by simp; omega)) ?_
  exact ih (t + a) s2 _ k (by omega) (by omega) o2 (sg_le (VcY hb (mkS (by omega) (by omega))) (by omega)) (by omega) (by omega)
theorem Vh5 {s : Src} (hs : SrcOk s) : DOk (LSg 23) (Q9.f s) := by
 unfold Q9.f Q9.fn Q9.top
 refine VA hs (by omega) fun t s1 o1 t0 t1 => ?_
 refine VA o1 (by omega) fun q s2 o2 q0 q1 => ?_
 have w := w64 (n := t + 1) (by omega) (by omega)
 simp only [w]
 refine d_ite (fun _ => d_if (Vbx (by simp)) ?_) fun _ => ?_
 ·refine VA o2 (by omega) fun n s3 o3 n0 n1 => ?_
  have e : n = ((n.toNat : Nat) : Int) := by omega
  simp only
  rw [e]
  refine VfM n.toNat (t + 1) s3 _ NN (NN_lt (by omega)) (by omega) o3 ⟨by simp; omega, fun m hm => ?_⟩ (by omega) (by omega)
  simp only [List.nil_append, List.mem_cons, List.not_mem_nil, or_false] at hm
  rcases hm with h | h | h <;> (rw [h]; exact mkS (by omega) (by omega))
 ·refine VA o2 (by omega) fun n s3 o3 n0 n1 => ?_
  have e : n = ((n.toNat : Nat) : Int) := by omega
  simp only
  rw [e]
  exact VfM n.toNat t s3 [] NN (NN_lt (by omega)) (by omega) o3 ⟨by simp, by simp⟩ (by omega) (by omega)
theorem ViJ : ∀ (d k : Nat) (s : Src) (out : List Sig), out.length + d = 42 → d < k → SrcOk s → LSg 42 out → DOk (LSg 43) (Qaa.l8 NN k s out) := by
 intro d
 induction d with
 | zero =>
  intro k s out hd hk hs hl
  obtain ⟨k, rfl⟩ : ∃ j, k = j + 1 := ⟨k - 1, by omega⟩
  simp only [Qaa.l8, Qaa.g8]
  refine VA hs (by omega) fun x s1 o1 x0 x1 => ?_
  have w := w64 (n := 40 + x) (by omega) (by omega)
  have c : ¬ (out.length : Int) < 40 + x := by omega
  simp only [w, c, and_self, and_true, true_and, decide_true, decide_false, if_true, if_false, Vc, Vd, Va, Vb, Ve, Option.bind_some, Bool.not_true, Bool.not_false, Bool.false_eq_true, Bool.true_eq_false, beq_self_eq_true, bne_self_eq_false, Int.toNat_natCast]
  exact VH o1 (sg_le hl (by omega))
 | succ d ih =>
  intro k s out hd hk hs hl
  obtain ⟨k, rfl⟩ : ∃ j, k = j + 1 := ⟨k - 1, by omega⟩
  simp only [Qaa.l8, Qaa.g8]
  refine VA hs (by omega) fun x s1 o1 x0 x1 => ?_
  refine d_ite (fun _ => d_if (Vbx (by simp; omega)) ?_) fun _ => VH o1 (sg_le hl (by omega))
  have := VcY hl (mkS (a := 300) (b := 7) (by omega) (by omega))
  exact ih k s1 _ (by simp; omega) (by omega) o1 ⟨by simp; omega, this.2⟩
theorem Vh6 {s : Src} (hs : SrcOk s) : DOk (LSg 43) (Qaa.f s) := by
 unfold Qaa.f Qaa.fn Qaa.top
 refine Vb9 (Vh5 hs) fun out s1 o1 hl => ?_
 have hll := hl.1
 refine VA o1 (by omega) fun x s2 o2 x0 x1 => ?_
 refine d_ite (fun _ => ?_) fun _ => ?_
 ·refine VaI o2 (by simp) (by simp) fun b s3 o3 hb => ?_
  have hb3 : -1 ≤ b ∧ b ≤ 10 := by simp only [List.mem_cons, List.not_mem_nil, or_false] at hb; omega
  exact d_if (Vbx (by simp; omega)) (VH o3 (sg_le (VcY hl (mkS (by omega) (by omega))) (by omega)))
 refine d_ite (fun _ => ?_) fun _ => ?_
 ·refine VaI o2 (by simp) (by simp) fun b s3 o3 hb => ?_
  have hb3 : 0 ≤ b ∧ b ≤ 100001 := by simp only [List.mem_cons, List.not_mem_nil, or_false] at hb; omega
  exact d_if (Vbx (by simp; omega)) (VH o3 (sg_le (VcY hl (mkS (by omega) (by omega))) (by omega)))
 refine d_ite (fun _ => ?_) fun _ => VH o2 (sg_le hl (by omega))
 exact ViJ (42 - out.length) NN s2 out (by omega) (NN_lt (by omega)) o2 (sg_le hl (by omega))
theorem VgB {d : Dsk} (h : deskB d = true) : VfA d := by
 obtain ⟨h1, h2, h3⟩ := desk_iff.1 h
 obtain ⟨s1, s2, s3⟩ := Vaf h2
 refine ⟨mv_ok h1, ⟨by omega, fun m hm => ?_⟩, VbQ h3⟩
 have := s3 m hm
 exact ⟨wf64.2 (by omega), wf64.2 (by omega)⟩
theorem VeY {code : List Int} (h : Vd5 code) : ∃ d, QaE.f code = some d ∧ VfA d := by
 obtain ⟨s, e, o⟩ := Vgu h
 obtain ⟨u, s1, e1, o1, hu⟩ := Vd7 o
 have hu' : u.size ≤ 900000 := hu
 obtain ⟨a1, a2⟩ := Vb8 u (by omega)
 have hd := VgB (VhZ u (by omega)).2
 generalize (conR u).1.2 = d at a1 hd
 obtain ⟨x, s2, e2, o2, x0, x1⟩ := VG o1 12 (by omega)
 obtain ⟨q1, t1, f1, p1, g1⟩ := Vh4 o2
 obtain ⟨q2, t2, f2, p2, g2⟩ := Vh6 o2
 obtain ⟨q3, t3, f3, p3, g3⟩ := VhN o2
 unfold QaE.f QaE.fn QaE.top
 rw [e, Option.bind_some, e1, Option.bind_some, a1, Option.bind_some, e2, Option.bind_some]
 simp only
 split
 ·rw [f1]; exact ⟨_, rfl, g1, hd.2⟩
 split
 ·rw [f2]; exact ⟨_, rfl, hd.1, ⟨by have := g2.1; simp only; omega, g2.2⟩, hd.2.2⟩
 split
 ·rw [f3]; exact ⟨_, rfl, hd.1, hd.2.1, g3⟩
 ·exact ⟨_, rfl, hd⟩
end Go.Pl

namespace Go.Pl
open Go.Ev
set_option linter.unusedVariables false
set_option linter.unusedSimpArgs false
theorem FnDesks_true (code : List Int) (hyp : Ls (Rg .u8) code) : Qbh.f code = some true := by
 unfold Qbh.f Qbh.fn Qbh.top
 rw [big_f, Option.bind_some]
 by_cases hb : (4096 : Int) < (code.length : Int)
 ·rw [if_pos (decide_eq_true hb)]
 rw [if_neg (by simpa using hb)]
 have hc := Vjh hyp hb
 obtain ⟨t, e1, ht⟩ := Vdx hc
 obtain ⟨x, e2, hx⟩ := VeY hc
 obtain ⟨a1, a2⟩ := Vb8 t (by omega)
 obtain ⟨i1, i2⟩ := Vdd x hx
 have hd := (VhZ t (by omega)).2
 have hok := VgB hd
 rw [e1, Option.bind_some, a2, Option.bind_some, a1, Option.bind_some, e2, Option.bind_some]
 generalize (conR t).1.2 = d at hd hok
 generalize (conR t).2 = e
 simp only
 rw [if_pos (show (e != e) = false by simp), Vey d.1 (by have := hok.1.1; omega), Option.bind_some, if_pos (by simp), Vdy d.2.1 (by have := hok.2.1.1; omega), Option.bind_some, if_pos (by simp), Vc1 d.2.2 (by have := hok.2.2.1; omega), Option.bind_some, if_pos (by simp), i2, Option.bind_some, i1, Option.bind_some, if_neg (by simp)]
 split
 ·rw [(Vdd d hok).2, hd]; rfl
 ·rfl
end Go.Pl
