/- Part 4 of what the law FnExactDeskAfter stands on: an evaluator of the model's code, proved sound; the functions as plain texts; their contracts. -/
import Derived.Test.YtijddinlmamclaaGreatEvExactDeskAfter3
namespace Go.Pl
open Go.Ev
set_option linter.unusedVariables false
set_option linter.unusedSimpArgs false
def inB (n lo hi : Int) : Bool := decide (lo ≤ n) && decide (n ≤ hi)
theorem inB_iff {n lo hi : Int} : inB n lo hi = true ↔ lo ≤ n ∧ n ≤ hi := by unfold inB; simp
theorem Qbh (n lo hi : Int) : Qaf.f n lo hi = some (inB n lo hi) := by
 unfold Qaf.f Qaf.fn Qaf.top inB
 by_cases h : lo ≤ n <;> simp [h]
theorem Qbi (n lo hi : Int) : Qaj.f n lo hi = some (inB n lo hi) := by
 unfold Qaj.f Qaj.fn Qaj.top inB
 by_cases h : lo ≤ n <;> simp [h]
def letB (c : UInt8) : Bool := !(decide ((c.toNat : Int) < 97)) && !(decide (122 < (c.toNat : Int)))
def wordB (s : ByteArray) : Bool := decide (1 ≤ s.size) && decide (s.size ≤ 16) && (bl s).all letB
theorem wordB_size {s : ByteArray} (h : wordB s = true) : 1 ≤ s.size ∧ s.size ≤ 16 := by
 unfold wordB at h; simp at h; exact h.1
theorem Qcg (s : ByteArray) (h : s.size ≤ 140737488355328) : QR.l4 NN NN s 0 = if (bl s).all letB = true then some true else some false := by
 refine all_loop_str letB (fun s => some true) (fun k s i => QR.l4 NN k s i) ?_ ?_ s h NN (NN_lt (by omega))
 ·intro k p
  show QR.g4 _ (ob p) p.length = _
  simp [QR.g4, ob_size, Qbi]
 ·intro k p a r c0 c1 cw
  show QR.g4 (QR.l4 NN k) (ob (p ++ a :: r)) p.length = _
  simp only [QR.g4, c0, c1, cw, and_self, and_true, true_and, decide_true, decide_false, if_true, if_false, mid_get, mid_set, mid_getn, mid_setn, bt_mid, Option.bind_some, Bool.not_true, Bool.not_false, Bool.false_eq_true, Bool.true_eq_false, beq_self_eq_true, bne_self_eq_false, Int.toNat_natCast]
  unfold letB
  by_cases h1 : (a.toNat : Int) < 97 <;> by_cases h2 : (122 : Int) < (a.toNat : Int) <;> simp [h1, h2]
theorem Qch (s : ByteArray) (h : s.size ≤ 140737488355328) : QW.l2 NN NN s 0 = if (bl s).all letB = true then some (inB s.size 1 16) else some false := by
 refine all_loop_str letB (fun s => some (inB s.size 1 16)) (fun k s i => QW.l2 NN k s i) ?_ ?_ s h NN (NN_lt (by omega))
 ·intro k p
  show QW.g2 _ (ob p) p.length = _
  simp [QW.g2, ob_size, Qbi]
 ·intro k p a r c0 c1 cw
  show QW.g2 (QW.l2 NN k) (ob (p ++ a :: r)) p.length = _
  simp only [QW.g2, c0, c1, cw, and_self, and_true, true_and, decide_true, decide_false, if_true, if_false, mid_get, mid_set, mid_getn, mid_setn, bt_mid, Option.bind_some, Bool.not_true, Bool.not_false, Bool.false_eq_true, Bool.true_eq_false, beq_self_eq_true, bne_self_eq_false, Int.toNat_natCast]
  unfold letB
  by_cases h1 : (a.toNat : Int) < 97 <;> by_cases h2 : (122 : Int) < (a.toNat : Int) <;> simp [h1, h2]
theorem Qbu (s : ByteArray) (h : s.size ≤ 140737488355328) : QR.f s = some (wordB s) := by
 unfold QR.f QR.fn QR.top
 rw [Qcg s h]
 unfold wordB
 by_cases h1 : (s.size : Int) < 1
 ·have : ¬ 1 ≤ s.size := by omega
  simp [h1, this]
 ·have e1 : 1 ≤ s.size := by omega
  by_cases h2 : (16 : Int) < s.size
  ·have : ¬ s.size ≤ 16 := by omega
   simp [h1, h2, this]
  ·have : s.size ≤ 16 := by omega
   cases h3 : (bl s).all letB <;> simp [h1, h2, this, h3, e1]
theorem Qbv (s : ByteArray) (h : s.size ≤ 140737488355328) : QW.f s = some (wordB s) := by
 unfold QW.f QW.fn QW.top
 rw [Qch s h]
 unfold wordB inB
 have e1 : decide ((1 : Int) ≤ s.size) = decide (1 ≤ s.size) := by congr 1; simp; omega
 have e2 : decide ((s.size : Int) ≤ 16) = decide (s.size ≤ 16) := by congr 1; simp; omega
 rw [e1, e2]
 cases h3 : (bl s).all letB <;> simp
end Go.Pl

namespace Go.Pl
open Go.Ev
set_option linter.unusedVariables false
set_option linter.unusedSimpArgs false
abbrev Mov := Int × ByteArray × Int
def movB (m : Mov) : Bool := inB m.1 0 10000000 && wordB m.2.1 && inB m.2.2 (-1000) 1000 && !decide (m.2.2 = 0)
theorem movB_iff {m : Mov} (h : movB m = true) : (0 ≤ m.1 ∧ m.1 ≤ 10000000) ∧ wordB m.2.1 = true ∧ (-1000 ≤ m.2.2 ∧ m.2.2 ≤ 1000) := by
 unfold movB at h
 simp only [Bool.and_eq_true, inB_iff] at h
 exact ⟨h.1.1.1, h.1.1.2, h.1.2⟩
theorem QbA (t : Int) : QaN.f t = some (inB t 0 10000000) := by
 unfold QaN.f QaN.fn QaN.top
 rw [Qbh]; rfl
theorem QbY (t : Int) : QaY.f t = some (inB t 0 100000) := by
 unfold QaY.f QaY.fn QaY.top
 rw [Qbh]; rfl
theorem Qbo (t : Int) : Qam.f t = some (inB t 0 10000000) := by
 unfold Qam.f Qam.fn Qam.top
 rw [Qbi]; rfl
def addP (z : ByteArray) (s : Int) (m : Mov) : Int := if m.2.1 = z then s + m.2.2 else s
def peopS (xs : List Mov) (z : ByteArray) : Int := xs.foldl (addP z) 0
theorem Qcs (xs : List Mov) (z : ByteArray) (t : Int) (h : ∀ m ∈ xs, movB m = true) (ht : ∀ m ∈ xs, m.1 ≤ t) (hl : xs.length ≤ 1000000) : QD.f xs z t = some (peopS xs z) := by
 have := (fold_fix (E := fun m : Mov => movB m = true ∧ m.1 ≤ t) (fun p st => -(1000 * (p.length : Int)) ≤ st ∧ st ≤ 1000 * (p.length : Int)) (fun _ => addP z) (fun st => some st) (fun k i st => QD.l3 NN k z t st xs xs.length i) xs ?_ ?_ 0 (fun m hm => ⟨h m hm, ht m hm⟩) (by simp) (by omega) NN (NN_lt (by omega))).2
 ·rw [foldi_foldl] at this
  exact this
 ·intro k st _
  simp [QD.l3, QD.g3]
 ·intro k p m r st hx hm hI c0 c1 c2 cw g
  have hb := movB_iff hm.1
  have hp : p.length ≤ 1000000 := by omega
  have w1 := w64 (n := st + m.2.2) (by omega) (by omega)
  have q := hm.2
  refine ⟨by unfold addP; rw [List.length_append, List.length_singleton]; split <;> omega, ?_⟩
  simp only [QD.l3, QD.g3, c0, c1, cw, and_self, and_true, true_and, decide_true, decide_false, if_true, if_false, mid_get, mid_set, mid_getn, mid_setn, bt_mid, Option.bind_some, Bool.not_true, Bool.not_false, Bool.false_eq_true, Bool.true_eq_false, beq_self_eq_true, bne_self_eq_false, Int.toNat_natCast, g, ba_beq, q, w1]
  unfold addP
  by_cases e : m.2.1 = z <;> simp [e]
theorem QbH (xs rest : List Mov) (z : ByteArray) (h : ∀ m ∈ xs, movB m = true) (hl : xs.length ≤ 1000000) : QC.f (xs ++ rest) z xs.length = some (peopS xs z) := by
 have := (fold_fix (E := fun m : Mov => movB m = true) (fun p st => -(1000 * (p.length : Int)) ≤ st ∧ st ≤ 1000 * (p.length : Int)) (fun _ => addP z) (fun st => some st) (fun k i st => QC.l3 NN k (xs ++ rest) z xs.length st i) xs ?_ ?_ 0 h (by simp) (by omega) NN (NN_lt (by omega))).2
 ·rw [foldi_foldl] at this
  exact this
 ·intro k st _
  simp [QC.l3, QC.g3]
 ·intro k p m r st hx hm hI c0 c1 c2 cw g
  have hb := movB_iff hm
  have hp : p.length ≤ 1000000 := by omega
  have w1 := w64 (n := st + m.2.2) (by omega) (by omega)
  have c3 : (p.length : Int) < ((xs ++ rest).length : Int) := by simp; omega
  have g2 : ∀ w, (xs ++ rest).getD p.length w = m := fun w => by rw [hx, List.append_assoc, List.cons_append, mid_getn]
  refine ⟨by unfold addP; rw [List.length_append, List.length_singleton]; split <;> omega, ?_⟩
  simp only [QC.l3, QC.g3, c0, c1, c3, cw, and_self, and_true, true_and, decide_true, decide_false, if_true, if_false, mid_get, mid_set, mid_getn, mid_setn, bt_mid, Option.bind_some, Bool.not_true, Bool.not_false, Bool.false_eq_true, Bool.true_eq_false, beq_self_eq_true, bne_self_eq_false, Int.toNat_natCast, g2, ba_beq, w1]
  unfold addP
  by_cases e : m.2.1 = z <;> simp [e]
def prevM (p : List Mov) (t : Int) : Bool := match p.getLast? with | none => true | some y => !decide (t < y.1)
def movF (p : List Mov) : List Mov → Bool
 | [] => true
 | m :: r => movB m && (prevM p m.1 && (!decide (peopS (p ++ [m]) m.2.1 < 0) && movF (p ++ [m]) r))
def movesB (xs : List Mov) : Bool := decide (xs.length ≤ 40) && movF [] xs
structure MvI (p : List Mov) : Prop where
 ok : ∀ m ∈ p, movB m = true
 le : ∀ m ∈ p, ∀ y, p.getLast? = some y → m.1 ≤ y.1
theorem mvi_snoc {p : List Mov} {m : Mov} (h : MvI p) (hm : movB m = true) (hp : prevM p m.1 = true) : MvI (p ++ [m]) ∧ ∀ x ∈ p ++ [m], x.1 ≤ m.1 := by
 have key : ∀ x ∈ p ++ [m], x.1 ≤ m.1 := fun x hx => by
  rcases List.mem_append.1 hx with h1 | h1
  ·unfold prevM at hp
   cases e : p.getLast? with
   | none => rw [List.getLast?_eq_none_iff.1 e] at h1; cases h1
   | some y =>
    rw [e] at hp
    simp only [Bool.not_eq_true', decide_eq_false_iff_not] at hp
    have := h.le x h1 y e
    omega
  ·rw [List.mem_singleton.1 h1]; omega
 refine ⟨⟨fun x hx => ?_, fun x hx y hy => ?_⟩, key⟩
 ·rcases List.mem_append.1 hx with h1 | h1
  ·exact h.ok x h1
  ·rw [List.mem_singleton.1 h1]; exact hm
 ·rw [List.getLast?_append] at hy
  simp at hy
  rw [← hy]; exact key x hx
theorem last_cases {α : Type} (p : List α) : p = [] ∨ ∃ q y, p = q ++ [y] := by
 rcases List.eq_nil_or_concat p with h | ⟨q, y, h⟩
 ·exact .inl h
 ·exact .inr ⟨q, y, by rw [h]; simp⟩
theorem last_snoc {α : Type} (q : List α) (y : α) : (q ++ [y]).getLast? = some y := by simp
theorem Qct : ∀ (r p : List Mov) (k : Nat), MvI p → (∀ m ∈ r, Sz m.2.1) → p.length + r.length ≤ 1000000 → r.length < k → QA.l4 NN k (p ++ r) (p ++ r) (p ++ r).length p.length = some (movF p r) := by
 intro r
 induction r with
 | nil =>
  intro p k _ _ _ hk
  obtain ⟨k, rfl⟩ : ∃ j, k = j + 1 := ⟨k - 1, by omega⟩
  simp [QA.l4, QA.g4, movF]
 | cons m r ih =>
  intro p k hI hs hb hk
  simp only [List.length_cons] at hb hk
  obtain ⟨k, rfl⟩ : ∃ j, k = j + 1 := ⟨k - 1, by omega⟩
  have hl := mid_len p r m
  have c0 : (0 : Int) ≤ (p.length : Int) := by omega
  have c1 : (p.length : Int) < ((p ++ m :: r).length : Int) := by omega
  have cw := w64 (n := (p.length : Int) + 1) (by omega) (by omega)
  have c3 : (0 : Int) ≤ (p.length : Int) + 1 := by omega
  have c4 : (p.length : Int) + 1 ≤ ((p ++ m :: r).length : Int) := by omega
  have t1 : ((p.length : Int) + 1).toNat = (p ++ [m]).length := by simp
  have htk : (p ++ m :: r).take (p ++ [m]).length = p ++ [m] := by rw [← mid_snoc p r m, List.take_left]
  simp only [QA.l4, QA.g4, c0, c1, c3, c4, cw, t1, htk, and_self, and_true, true_and, decide_true, decide_false, if_true, if_false, mid_get, mid_set, mid_getn, mid_setn, bt_mid, Option.bind_some, Bool.not_true, Bool.not_false, Bool.false_eq_true, Bool.true_eq_false, beq_self_eq_true, bne_self_eq_false, Int.toNat_natCast, QbA, Qbu _ (hs m (by simp)), Qbh]
  by_cases hm : movB m = true
  rotate_left
  ·have e : movF p (m :: r) = false := by simp only [movF]; cases q : movB m; rfl; exact absurd q hm
   rw [e]
   unfold movB at hm
   simp only [Bool.and_eq_true, Bool.not_eq_true', decide_eq_false_iff_not, not_and] at hm
   by_cases h1 : inB m.1 0 10000000 = true
   ·by_cases h2 : wordB m.2.1 = true
    ·by_cases h3 : inB m.2.2 (-1000) 1000 = true
     ·have h4 : m.2.2 = 0 := by have := hm ⟨⟨h1, h2⟩, h3⟩; omega
      simp [h1, h2, h3, h4]
     ·simp [h1, h2, h3]
    ·simp [h1, h2]
   ·simp [h1]
  have hm' := hm
  unfold movB at hm'
  simp only [Bool.and_eq_true, Bool.not_eq_true', decide_eq_false_iff_not] at hm'
  obtain ⟨⟨⟨h1, h2⟩, h3⟩, h4⟩ := hm'
  have h4' : (m.2.2 == 0) = false := by simpa using h4
  simp only [h1, h2, h3, h4', and_self, and_true, true_and, decide_true, decide_false, if_true, if_false, mid_get, mid_set, mid_getn, mid_setn, bt_mid, Option.bind_some, Bool.not_true, Bool.not_false, Bool.false_eq_true, Bool.true_eq_false, beq_self_eq_true, bne_self_eq_false, Int.toNat_natCast]
  have fin : prevM p m.1 = true → ((QD.f (p ++ [m]) m.2.1 m.1).bind fun r4 => if (decide (r4 < 0)) = true then some false else QA.l4 NN k (p ++ m :: r) (p ++ m :: r) (p ++ m :: r).length ((p.length : Int) + 1)) = some (movF p (m :: r)) := fun hp => by
   obtain ⟨q1, q2⟩ := mvi_snoc hI hm hp
   rw [Qcs _ _ _ q1.ok q2 (by simp; omega)]
   have := ih (p ++ [m]) k q1 (fun x hx => hs x (by simp [hx])) (by simp; omega) (by omega)
   rw [mid_snoc, snoc_len] at this
   simp only [movF, hm, hp, Bool.true_and, Option.bind_some, this]
   by_cases e : peopS (p ++ [m]) m.2.1 < 0 <;> simp [e]
  rcases last_cases p with hp | ⟨q, y, hp⟩
  ·have n1 : ¬ (0 : Int) < (p.length : Int) := by rw [hp]; simp
   simp only [n1, and_self, and_true, true_and, decide_true, decide_false, if_true, if_false, mid_get, mid_set, mid_getn, mid_setn, bt_mid, Option.bind_some, Bool.not_true, Bool.not_false, Bool.false_eq_true, Bool.true_eq_false, beq_self_eq_true, bne_self_eq_false, Int.toNat_natCast]
   exact fin (by rw [hp]; rfl)
  ·have hpl : (p.length : Int) - 1 = (q.length : Int) := by rw [hp]; simp
   have n1 : (0 : Int) < (p.length : Int) := by rw [hp]; simp
   have w1 := w64 (n := (q.length : Int)) (by omega) (by omega)
   have q0 : (0 : Int) ≤ (q.length : Int) := by omega
   have q1 : (q.length : Int) < ((p ++ m :: r).length : Int) := by omega
   have g2 : ∀ z, (p ++ m :: r).getD q.length z = y := fun z => by rw [hp, List.append_assoc, List.singleton_append, mid_getn]
   simp only [n1, hpl, w1, q0, q1, g2, and_self, and_true, true_and, decide_true, decide_false, if_true, if_false, mid_get, mid_set, mid_getn, mid_setn, bt_mid, Option.bind_some, Bool.not_true, Bool.not_false, Bool.false_eq_true, Bool.true_eq_false, beq_self_eq_true, bne_self_eq_false, Int.toNat_natCast]
   have hpr : prevM p m.1 = !decide (m.1 < y.1) := by unfold prevM; rw [hp, last_snoc]
   by_cases e : m.1 < y.1
   ·have : movF p (m :: r) = false := by simp [movF, hpr, e]
    simp [e, this]
   ·simp only [e, and_self, and_true, true_and, decide_true, decide_false, if_true, if_false, mid_get, mid_set, mid_getn, mid_setn, bt_mid, Option.bind_some, Bool.not_true, Bool.not_false, Bool.false_eq_true, Bool.true_eq_false, beq_self_eq_true, bne_self_eq_false, Int.toNat_natCast]
    exact fin (by rw [hpr]; simp [e])
theorem Qcu : ∀ (r p : List Mov) (k : Nat), MvI p → (∀ m ∈ r, Sz m.2.1) → p.length + r.length ≤ 1000000 → r.length < k → QE.l2 NN k (p ++ r) p.length = some (movF p r && decide ((p ++ r).length ≤ 40)) := by
 intro r
 induction r with
 | nil =>
  intro p k _ _ _ hk
  obtain ⟨k, rfl⟩ : ∃ j, k = j + 1 := ⟨k - 1, by omega⟩
  have e : decide ((p.length : Int) ≤ 40) = decide (p.length ≤ 40) := by congr 1; exact propext (by omega)
  simp [QE.l2, QE.g2, movF, e]
 | cons m r ih =>
  intro p k hI hs hb hk
  simp only [List.length_cons] at hb hk
  obtain ⟨k, rfl⟩ : ∃ j, k = j + 1 := ⟨k - 1, by omega⟩
  have hl := mid_len p r m
  have c0 : (0 : Int) ≤ (p.length : Int) := by omega
  have c1 : (p.length : Int) < ((p ++ m :: r).length : Int) := by omega
  have cw := w64 (n := (p.length : Int) + 1) (by omega) (by omega)
  simp only [QE.l2, QE.g2, c0, c1, cw, and_self, and_true, true_and, decide_true, decide_false, if_true, if_false, mid_get, mid_set, mid_getn, mid_setn, bt_mid, Option.bind_some, Bool.not_true, Bool.not_false, Bool.false_eq_true, Bool.true_eq_false, beq_self_eq_true, bne_self_eq_false, Int.toNat_natCast, Qbo, Qbv _ (hs m (by simp)), Qbi]
  by_cases hm : movB m = true
  rotate_left
  ·have e : movF p (m :: r) = false := by simp only [movF]; cases q : movB m; rfl; exact absurd q hm
   rw [e]
   unfold movB at hm
   simp only [Bool.and_eq_true, Bool.not_eq_true', decide_eq_false_iff_not, not_and] at hm
   by_cases h1 : inB m.1 0 10000000 = true
   ·by_cases h2 : wordB m.2.1 = true
    ·by_cases h3 : inB m.2.2 (-1000) 1000 = true
     ·have h4 : m.2.2 = 0 := by have := hm ⟨⟨h1, h2⟩, h3⟩; omega
      simp [h1, h2, h3, h4]
     ·simp [h1, h2, h3]
    ·simp [h1, h2]
   ·simp [h1]
  have hm' := hm
  unfold movB at hm'
  simp only [Bool.and_eq_true, Bool.not_eq_true', decide_eq_false_iff_not] at hm'
  obtain ⟨⟨⟨h1, h2⟩, h3⟩, h4⟩ := hm'
  have h4' : (m.2.2 == 0) = false := by simpa using h4
  simp only [h1, h2, h3, h4', and_self, and_true, true_and, decide_true, decide_false, if_true, if_false, mid_get, mid_set, mid_getn, mid_setn, bt_mid, Option.bind_some, Bool.not_true, Bool.not_false, Bool.false_eq_true, Bool.true_eq_false, beq_self_eq_true, bne_self_eq_false, Int.toNat_natCast]
  have fin : prevM p m.1 = true → ((QC.f (p ++ m :: r) m.2.1 ((p.length : Int) + 1)).bind fun r4 => if (decide (r4 < 0)) = true then some false else QE.l2 NN k (p ++ m :: r) ((p.length : Int) + 1)) = some (movF p (m :: r) && decide ((p ++ m :: r).length ≤ 40)) := fun hp => by
   obtain ⟨q1, q2⟩ := mvi_snoc hI hm hp
   have hpe := QbH (p ++ [m]) r m.2.1 q1.ok (by simp; omega)
   rw [mid_snoc, snoc_len] at hpe
   rw [hpe]
   have := ih (p ++ [m]) k q1 (fun x hx => hs x (by simp [hx])) (by simp; omega) (by omega)
   rw [mid_snoc, snoc_len] at this
   simp only [movF, hm, hp, Bool.true_and, Option.bind_some, this]
   by_cases e : peopS (p ++ [m]) m.2.1 < 0 <;> simp [e]
  rcases last_cases p with hp | ⟨q, y, hp⟩
  ·have n1 : ¬ (0 : Int) < (p.length : Int) := by rw [hp]; simp
   simp only [n1, and_self, and_true, true_and, decide_true, decide_false, if_true, if_false, mid_get, mid_set, mid_getn, mid_setn, bt_mid, Option.bind_some, Bool.not_true, Bool.not_false, Bool.false_eq_true, Bool.true_eq_false, beq_self_eq_true, bne_self_eq_false, Int.toNat_natCast]
   exact fin (by rw [hp]; rfl)
  ·have hpl : (p.length : Int) - 1 = (q.length : Int) := by rw [hp]; simp
   have n1 : (0 : Int) < (p.length : Int) := by rw [hp]; simp
   have w1 := w64 (n := (q.length : Int)) (by omega) (by omega)
   have q0 : (0 : Int) ≤ (q.length : Int) := by omega
   have q1 : (q.length : Int) < ((p ++ m :: r).length : Int) := by omega
   have g2 : ∀ z, (p ++ m :: r).getD q.length z = y := fun z => by rw [hp, List.append_assoc, List.singleton_append, mid_getn]
   simp only [n1, hpl, w1, q0, q1, g2, and_self, and_true, true_and, decide_true, decide_false, if_true, if_false, mid_get, mid_set, mid_getn, mid_setn, bt_mid, Option.bind_some, Bool.not_true, Bool.not_false, Bool.false_eq_true, Bool.true_eq_false, beq_self_eq_true, bne_self_eq_false, Int.toNat_natCast]
   have hpr : prevM p m.1 = !decide (m.1 < y.1) := by unfold prevM; rw [hp, last_snoc]
   by_cases e : m.1 < y.1
   ·have : movF p (m :: r) = false := by simp [movF, hpr, e]
    simp [e, this]
   ·simp only [e, and_self, and_true, true_and, decide_true, decide_false, if_true, if_false, mid_get, mid_set, mid_getn, mid_setn, bt_mid, Option.bind_some, Bool.not_true, Bool.not_false, Bool.false_eq_true, Bool.true_eq_false, beq_self_eq_true, bne_self_eq_false, Int.toNat_natCast]
    exact fin (by rw [hpr]; simp [e])
theorem mvi_nil : MvI [] := ⟨by simp, by simp⟩
theorem Qby (xs : List Mov) (hl : xs.length ≤ 1000000) (hs : ∀ m ∈ xs, Sz m.2.1) : QA.f xs = some (movesB xs) := by
 unfold QA.f QA.fn QA.top movesB
 have := Qct xs [] NN mvi_nil hs (by simpa using hl) (NN_lt (by omega))
 rw [List.nil_append] at this
 by_cases h8 : (40 : Int) < (xs.length : Int)
 ·have : ¬ xs.length ≤ 40 := by omega
  simp [h8, this]
 ·have e8 : xs.length ≤ 40 := by omega
  simp only [h8, e8, and_self, and_true, true_and, decide_true, decide_false, if_true, if_false, mid_get, mid_set, mid_getn, mid_setn, bt_mid, Option.bind_some, Bool.not_true, Bool.not_false, Bool.false_eq_true, Bool.true_eq_false, beq_self_eq_true, bne_self_eq_false, Int.toNat_natCast, Bool.true_and]
  exact this
theorem Qbz (xs : List Mov) (hl : xs.length ≤ 1000000) (hs : ∀ m ∈ xs, Sz m.2.1) : QE.f xs = some (movesB xs) := by
 unfold QE.f QE.fn QE.top movesB
 have := Qcu xs [] NN mvi_nil hs (by simpa using hl) (NN_lt (by omega))
 rw [List.nil_append] at this
 rw [Bool.and_comm]
 exact this
end Go.Pl

namespace Go.Pl
open Go.Ev
set_option linter.unusedVariables false
set_option linter.unusedSimpArgs false
def valB (b : Int × ByteArray × Int) : Bool := inB b.1 0 3 && wordB b.2.1 && inB b.2.2 1 1000
def addL (a : ByteArray) (s : Int) (b : Int × ByteArray × Int) : Int := if b.2.1 = a then (if b.1 = 0 then s + b.2.2 else s - b.2.2) else s
def leftOf (xs : List (Int × ByteArray × Int)) (a : ByteArray) : Int := xs.foldl (addL a) 0
theorem leftOf_snoc (p : List (Int × ByteArray × Int)) (b : Int × ByteArray × Int) (a : ByteArray) : leftOf (p ++ [b]) a = addL a (leftOf p a) b := by
 unfold leftOf; rw [List.foldl_append]; rfl
theorem valB_count {b : Int × ByteArray × Int} (h : valB b = true) : 1 ≤ b.2.2 ∧ b.2.2 ≤ 1000 ∧ 0 ≤ b.1 ∧ b.1 ≤ 3 := by
 unfold valB at h
 simp only [Bool.and_eq_true, inB_iff] at h
 omega
theorem leftOf_le (a : ByteArray) (xs : List (Int × ByteArray × Int)) (h : ∀ b ∈ xs, valB b = true) : -(1000 * (xs.length : Int)) ≤ leftOf xs a ∧ leftOf xs a ≤ 1000 * (xs.length : Int) := by
 have key : ∀ (ys : List (Int × ByteArray × Int)) (s : Int), (∀ b ∈ ys, valB b = true) → s - 1000 * (ys.length : Int) ≤ ys.foldl (addL a) s ∧ ys.foldl (addL a) s ≤ s + 1000 * (ys.length : Int) := by
  intro ys
  induction ys with
  | nil => intro s _; simp
  | cons b r ih =>
   intro s hb
   have h1 := ih (addL a s b) (fun x hx => hb x (by simp [hx]))
   have h2 := valB_count (hb b (by simp))
   simp only [List.foldl_cons, List.length_cons]
   have : s - 1000 ≤ addL a s b ∧ addL a s b ≤ s + 1000 := by
    unfold addL; split <;> (try split) <;> omega
   omega
 have := key xs 0 h
 unfold leftOf; omega
theorem QbP (xs rest : List (Int × ByteArray × Int)) (a : ByteArray) (h : ∀ b ∈ xs, valB b = true) (hl : xs.length ≤ 1000000) : QS.f (xs ++ rest) a xs.length = some (leftOf xs a) := by
 have := (fold_fix (E := fun b => valB b = true) (fun p s => (∀ b ∈ p, valB b = true) ∧ s = leftOf p a) (fun _ => addL a) some (fun k i s => QS.l3 NN k (xs ++ rest) a xs.length s i) xs ?_ ?_ 0 h ⟨by simp, rfl⟩ (by omega) NN (NN_lt (by omega))).2
 ·rw [foldi_foldl] at this
  exact this
 ·intro k st _
  simp [QS.l3, QS.g3]
 ·intro k p b r st hx hb hI c0 c1 c2 cw g
  obtain ⟨h1, rfl⟩ := hI
  have h2 : ∀ x ∈ p ++ [b], valB x = true := fun x hx => by
   rcases List.mem_append.1 hx with h | h
   ·exact h1 x h
   ·rw [List.mem_singleton.1 h]; exact hb
  refine ⟨⟨h2, (leftOf_snoc p b a).symm⟩, ?_⟩
  have c3 : (p.length : Int) < ((xs ++ rest).length : Int) := by rw [List.length_append]; omega
  have g' : ∀ z, (xs ++ rest).getD p.length z = b := fun z => by rw [hx]; simp
  have bd := leftOf_le a (p ++ [b]) h2
  rw [leftOf_snoc] at bd
  have hpl : p.length ≤ 1000000 := by omega
  simp only [List.length_append, List.length_cons, List.length_nil] at bd
  simp only [QS.l3, QS.g3, c0, c1, c3, cw, and_self, and_true, true_and, decide_true, decide_false, if_true, if_false, mid_get, mid_set, mid_getn, mid_setn, bt_mid, Option.bind_some, Bool.not_true, Bool.not_false, Bool.false_eq_true, Bool.true_eq_false, beq_self_eq_true, bne_self_eq_false, Int.toNat_natCast, g', ba_beq]
  unfold addL at bd ⊢
  by_cases ha : b.2.1 = a
  ·by_cases hz : b.1 = 0
   ·have e := w64 (n := leftOf p a + b.2.2) (by simp only [ha, hz, if_true] at bd; omega) (by simp only [ha, hz, if_true] at bd; omega)
    simp [ha, hz, e]
   ·have e := w64 (n := leftOf p a - b.2.2) (by simp only [ha, hz, if_true, if_false] at bd; omega) (by simp only [ha, hz, if_true, if_false] at bd; omega)
    simp [ha, hz, e]
  ·simp [ha]
def addT (a : ByteArray) (s : List Int) (b : Int × ByteArray × Int) : List Int := if b.2.1 = a then s.set b.1.toNat (s.getD b.1.toNat 0 + b.2.2) else s
def totL (xs : List (Int × ByteArray × Int)) (a : ByteArray) : List Int := xs.foldl (addT a) [0, 0, 0, 0]
theorem totL_snoc (p : List (Int × ByteArray × Int)) (b : Int × ByteArray × Int) (a : ByteArray) : totL (p ++ [b]) a = addT a (totL p a) b := by
 unfold totL; rw [List.foldl_append]; rfl
theorem totL_shape (a : ByteArray) (xs : List (Int × ByteArray × Int)) (h : ∀ b ∈ xs, valB b = true) : ∃ t0 t1 t2 t3, totL xs a = [t0, t1, t2, t3] ∧ t0 - t1 - t2 - t3 = leftOf xs a ∧ 0 ≤ t0 ∧ 0 ≤ t1 ∧ 0 ≤ t2 ∧ 0 ≤ t3 ∧ t0 + t1 + t2 + t3 ≤ 1000 * (xs.length : Int) := by
 have key : ∀ (n : Nat) (xs : List (Int × ByteArray × Int)), xs.length = n → (∀ b ∈ xs, valB b = true) → ∃ t0 t1 t2 t3, totL xs a = [t0, t1, t2, t3] ∧ t0 - t1 - t2 - t3 = leftOf xs a ∧ 0 ≤ t0 ∧ 0 ≤ t1 ∧ 0 ≤ t2 ∧ 0 ≤ t3 ∧ t0 + t1 + t2 + t3 ≤ 1000 * (xs.length : Int) := by
  intro n
  induction n with
  | zero => intro xs hn _; obtain rfl := List.length_eq_zero_iff.1 hn; exact ⟨0, 0, 0, 0, rfl, rfl, by omega, by omega, by omega, by omega, by simp⟩
  | succ n ih =>
   intro xs hn hb
   rcases List.eq_nil_or_concat xs with rfl | ⟨p, b, rfl⟩
   ·simp at hn
   simp only [List.concat_eq_append] at hn hb ⊢
   obtain ⟨t0, t1, t2, t3, e1, e2, e3, e4, e5, e6, e7⟩ := ih p (by simpa using hn) (fun x hx => hb x (by simp [hx]))
   have hv := valB_count (hb b (by simp))
   rw [totL_snoc, leftOf_snoc, e1]
   simp only [List.length_append, List.length_cons, List.length_nil]
   unfold addT addL
   by_cases ha : b.2.1 = a
   ·simp only [ha, if_true]
    obtain h | h | h | h : b.1 = 0 ∨ b.1 = 1 ∨ b.1 = 2 ∨ b.1 = 3 := by omega
    ·exact ⟨t0 + b.2.2, t1, t2, t3, by simp [h], by simp [h]; omega, by omega, by omega, by omega, by omega, by omega⟩
    ·exact ⟨t0, t1 + b.2.2, t2, t3, by simp [h], by simp [h]; omega, by omega, by omega, by omega, by omega, by omega⟩
    ·exact ⟨t0, t1, t2 + b.2.2, t3, by simp [h], by simp [h]; omega, by omega, by omega, by omega, by omega, by omega⟩
    ·exact ⟨t0, t1, t2, t3 + b.2.2, by simp [h], by simp [h]; omega, by omega, by omega, by omega, by omega, by omega⟩
   ·simp only [ha, if_false]
    exact ⟨t0, t1, t2, t3, rfl, by omega, by omega, by omega, by omega, by omega, by omega⟩
 exact key _ xs rfl h
theorem Qcv (xs : List (Int × ByteArray × Int)) (a : ByteArray) (h : ∀ b ∈ xs, valB b = true) (hl : xs.length ≤ 1000000) : QU.f xs a = some (totL xs a) := by
 have := (fold_fix (E := fun b => valB b = true) (fun p s => (∀ b ∈ p, valB b = true) ∧ s = totL p a) (fun _ => addT a) some (fun k i s => QU.l3 NN k a xs xs.length i s) xs ?_ ?_ [0, 0, 0, 0] h ⟨by simp, rfl⟩ (by omega) NN (NN_lt (by omega))).2
 ·rw [foldi_foldl] at this
  unfold QU.f QU.fn QU.top
  rw [if_pos (by rw [room8]; omega)]
  exact this
 ·intro k st _
  simp [QU.l3, QU.g3]
 ·intro k p b r st hx hb hI c0 c1 c2 cw g
  obtain ⟨h1, rfl⟩ := hI
  have h2 : ∀ x ∈ p ++ [b], valB x = true := fun x hx => by
   rcases List.mem_append.1 hx with h | h
   ·exact h1 x h
   ·rw [List.mem_singleton.1 h]; exact hb
  refine ⟨⟨h2, (totL_snoc p b a).symm⟩, ?_⟩
  obtain ⟨t0, t1, t2, t3, e1, e2, e3, e4, e5, e6, e7⟩ := totL_shape a p h1
  have hpl : p.length ≤ 1000000 := by omega
  have hv := valB_count hb
  simp only [QU.l3, QU.g3, c0, c1, cw, and_self, and_true, true_and, decide_true, decide_false, if_true, if_false, mid_get, mid_set, mid_getn, mid_setn, bt_mid, Option.bind_some, Bool.not_true, Bool.not_false, Bool.false_eq_true, Bool.true_eq_false, beq_self_eq_true, bne_self_eq_false, Int.toNat_natCast, g, ba_beq]
  unfold addT
  by_cases ha : b.2.1 = a
  ·have k1 : b.1 < ((totL p a).length : Int) := by rw [e1]; simp; omega
   have k2 : 0 ≤ (totL p a).getD b.1.toNat 0 ∧ (totL p a).getD b.1.toNat 0 ≤ 1000000000 := by
    rw [e1]
    obtain h | h | h | h : b.1 = 0 ∨ b.1 = 1 ∨ b.1 = 2 ∨ b.1 = 3 := by omega
    all_goals (rw [h]; simp; omega)
   have e := w64 (n := (totL p a).getD b.1.toNat 0 + b.2.2) (by omega) (by omega)
   simp only [ha, decide_true, if_true, hv.2.2.1, k1, and_self, e]
  ·simp [ha]
theorem Qbq (xs : List (Int × ByteArray × Int)) (a : ByteArray) (h : ∀ b ∈ xs, valB b = true) (hl : xs.length ≤ 1000000) : Qai.f xs a = some (leftOf xs a) := by
 unfold Qai.f Qai.fn Qai.top
 rw [Qcv xs a h hl]
 obtain ⟨t0, t1, t2, t3, e1, e2, e3, e4, e5, e6, e7⟩ := totL_shape a xs h
 have w1 := w64 (n := t0 - t1) (by omega) (by omega)
 have w2 := w64 (n := t0 - t1 - t2) (by omega) (by omega)
 have w3 := w64 (n := t0 - t1 - t2 - t3) (by omega) (by omega)
 have w4 : IntKind.i64.wrap (leftOf xs a) = leftOf xs a := by rw [← e2]; exact w3
 rw [e1]
 simp [w1, w2, w3, e2, w4]
def okFrom (p : List (Int × ByteArray × Int)) : List (Int × ByteArray × Int) → Bool
 | [] => true
 | b :: r => valB b && decide (0 ≤ leftOf (p ++ [b]) b.2.1) && okFrom (p ++ [b]) r
def booksB (xs : List (Int × ByteArray × Int)) : Bool := decide (xs.length ≤ 60) && okFrom [] xs
theorem okFrom_val : ∀ (r p : List (Int × ByteArray × Int)), okFrom p r = true → ∀ b ∈ r, valB b = true := by
 intro r
 induction r with
 | nil => intro p _ b hb; cases hb
 | cons x r ih =>
  intro p h b hb
  simp only [okFrom, Bool.and_eq_true] at h
  rcases List.mem_cons.1 hb with rfl | hb
  ·exact h.1.1
  ·exact ih _ h.2 b hb
theorem booksB_val {xs : List (Int × ByteArray × Int)} (h : booksB xs = true) : (∀ b ∈ xs, valB b = true) ∧ xs.length ≤ 60 := by
 unfold booksB at h
 simp only [Bool.and_eq_true, decide_eq_true_eq] at h
 exact ⟨okFrom_val _ _ h.2, h.1⟩
theorem val_snoc {p : List (Int × ByteArray × Int)} {b : Int × ByteArray × Int} (h1 : ∀ x ∈ p, valB x = true) (hb : valB b = true) : ∀ x ∈ p ++ [b], valB x = true := fun x hx => by
 rcases List.mem_append.1 hx with h | h
 ·exact h1 x h
 ·rw [List.mem_singleton.1 h]; exact hb
theorem QbQ : ∀ (r p : List (Int × ByteArray × Int)) (k : Nat), (∀ b ∈ p, valB b = true) → (∀ b ∈ r, Sz b.2.1) → p.length + r.length ≤ 1000000 → r.length < k →
  Qh.l2 NN k (p ++ r) p.length = some (okFrom p r && decide ((p ++ r).length ≤ 60)) := by
 intro r
 induction r with
 | nil =>
  intro p k _ _ _ hk
  obtain ⟨k, rfl⟩ : ∃ j, k = j + 1 := ⟨k - 1, by omega⟩
  simp [Qh.l2, Qh.g2, okFrom]
  omega
 | cons b r ih =>
  intro p k hp hr hb hk
  simp only [List.length_cons] at hk hb
  obtain ⟨k, rfl⟩ : ∃ j, k = j + 1 := ⟨k - 1, by omega⟩
  have hm := mid_len p r b
  have c0 : (0 : Int) ≤ (p.length : Int) := by omega
  have c1 : (p.length : Int) < ((p ++ b :: r).length : Int) := by omega
  have cw := w64 (n := (p.length : Int) + 1) (by omega) (by omega)
  simp only [Qh.l2, Qh.g2, c0, c1, cw, and_self, and_true, true_and, decide_true, decide_false, if_true, if_false, mid_get, mid_set, mid_getn, mid_setn, bt_mid, Option.bind_some, Bool.not_true, Bool.not_false, Bool.false_eq_true, Bool.true_eq_false, beq_self_eq_true, bne_self_eq_false, Int.toNat_natCast, Qbi, Qbv _ (hr b (by simp))]
  have hv : valB b = (inB b.1 0 3 && wordB b.2.1 && inB b.2.2 1 1000) := rfl
  simp only [okFrom]
  cases h1 : inB b.1 0 3
  ·simp [hv, h1]
  cases h2 : wordB b.2.1
  ·simp [hv, h2]
  cases h3 : inB b.2.2 1 1000
  ·simp [hv, h3]
  have hvt : valB b = true := by rw [hv, h1, h2, h3]; rfl
  have hl := QbP (p ++ [b]) r b.2.1 (val_snoc hp hvt) (by simp; omega)
  rw [mid_snoc, snoc_len] at hl
  have := ih (p ++ [b]) k (val_snoc hp hvt) (fun x hx => hr x (by simp [hx])) (by simp; omega) (by omega)
  rw [mid_snoc, snoc_len] at this
  simp only [hl, this, hvt, and_self, and_true, true_and, decide_true, decide_false, if_true, if_false, mid_get, mid_set, mid_getn, mid_setn, bt_mid, Option.bind_some, Bool.not_true, Bool.not_false, Bool.false_eq_true, Bool.true_eq_false, beq_self_eq_true, bne_self_eq_false, Int.toNat_natCast, decide_eq_true_eq]
  by_cases hn : leftOf (p ++ [b]) b.2.1 < 0
  ·have : ¬ 0 ≤ leftOf (p ++ [b]) b.2.1 := by omega
   simp [hn, this]
  ·have h4 : 0 ≤ leftOf (p ++ [b]) b.2.1 := by omega
   simp [hn, h4]
theorem Qbm (xs : List (Int × ByteArray × Int)) (h : Lm OkBooking xs) : Qh.f xs = some (booksB xs) := by
 have := QbQ xs [] NN (by simp) (fun b hb => Nat.le_trans (h.2 b hb).2.1 (by omega)) (by simpa using h.1) (NN_lt (by have := h.1; omega))
 unfold Qh.f Qh.fn Qh.top booksB
 rw [Bool.and_comm]
 simpa using this
theorem QbR : ∀ (r p : List (Int × ByteArray × Int)) (k : Nat), (∀ b ∈ p, valB b = true) → (∀ b ∈ r, Sz b.2.1) → p.length + r.length ≤ 1000000 → r.length < k →
  Qj.l4 NN k (p ++ r) (p ++ r) (p ++ r).length p.length = some (okFrom p r) := by
 intro r
 induction r with
 | nil =>
  intro p k _ _ _ hk
  obtain ⟨k, rfl⟩ : ∃ j, k = j + 1 := ⟨k - 1, by omega⟩
  simp [Qj.l4, Qj.g4, okFrom]
 | cons b r ih =>
  intro p k hp hr hb hk
  simp only [List.length_cons] at hk hb
  obtain ⟨k, rfl⟩ : ∃ j, k = j + 1 := ⟨k - 1, by omega⟩
  have hm := mid_len p r b
  have c0 : (0 : Int) ≤ (p.length : Int) := by omega
  have c1 : (p.length : Int) < ((p ++ b :: r).length : Int) := by omega
  have cw := w64 (n := (p.length : Int) + 1) (by omega) (by omega)
  have c2 : (0 : Int) ≤ (p.length : Int) + 1 := by omega
  have c3 : (p.length : Int) + 1 ≤ ((p ++ b :: r).length : Int) := by omega
  have ct : (p ++ b :: r).take ((p.length : Int) + 1).toNat = p ++ [b] := by
   rw [show ((p.length : Int) + 1).toNat = (p ++ [b]).length by simp, show p ++ b :: r = (p ++ [b]) ++ r by simp, List.take_left' rfl]
  simp only [Qj.l4, Qj.g4, c0, c1, c2, c3, cw, ct, and_self, and_true, true_and, decide_true, decide_false, if_true, if_false, mid_get, mid_set, mid_getn, mid_setn, bt_mid, Option.bind_some, Bool.not_true, Bool.not_false, Bool.false_eq_true, Bool.true_eq_false, beq_self_eq_true, bne_self_eq_false, Int.toNat_natCast, Qbh, Qbu _ (hr b (by simp))]
  have hv : valB b = (inB b.1 0 3 && wordB b.2.1 && inB b.2.2 1 1000) := rfl
  simp only [okFrom]
  cases h1 : inB b.1 0 3
  ·simp [hv, h1]
  cases h2 : wordB b.2.1
  ·simp [hv, h2]
  cases h3 : inB b.2.2 1 1000
  ·simp [hv, h3]
  have hvt : valB b = true := by rw [hv, h1, h2, h3]; rfl
  have hl := Qbq (p ++ [b]) b.2.1 (val_snoc hp hvt) (by simp; omega)
  have := ih (p ++ [b]) k (val_snoc hp hvt) (fun x hx => hr x (by simp [hx])) (by simp; omega) (by omega)
  rw [mid_snoc, snoc_len] at this
  simp only [hl, this, hvt, and_self, and_true, true_and, decide_true, decide_false, if_true, if_false, mid_get, mid_set, mid_getn, mid_setn, bt_mid, Option.bind_some, Bool.not_true, Bool.not_false, Bool.false_eq_true, Bool.true_eq_false, beq_self_eq_true, bne_self_eq_false, Int.toNat_natCast, decide_eq_true_eq]
  by_cases hn : leftOf (p ++ [b]) b.2.1 < 0
  ·have : ¬ 0 ≤ leftOf (p ++ [b]) b.2.1 := by omega
   simp [hn, this]
  ·have h4 : 0 ≤ leftOf (p ++ [b]) b.2.1 := by omega
   simp [hn, h4]
theorem Qbn (xs : List (Int × ByteArray × Int)) (h : Lm OkBooking xs) : Qj.f xs = some (booksB xs) := by
 have := QbR xs [] NN (by simp) (fun b hb => Nat.le_trans (h.2 b hb).2.1 (by omega)) (by simpa using h.1) (NN_lt (by have := h.1; omega))
 unfold Qj.f Qj.fn Qj.top booksB
 simp only [List.nil_append, List.length_nil] at this
 by_cases h1 : (60 : Int) < xs.length
 ·have h2 : ¬ xs.length ≤ 60 := by omega
  simp [h1, h2]
 ·have h2 : xs.length ≤ 60 := by omega
  simp only [h1, h2, decide_false, Bool.false_eq_true, if_false, decide_true, Bool.true_and]
  exact this
end Go.Pl

namespace Go.Pl
open Go.Ev
set_option linter.unusedVariables false
noncomputable section
end
end Go.Pl

namespace Go.Pl
open Go.Ev
set_option linter.unusedVariables false
noncomputable section
end
end Go.Pl

namespace Go.Pl
open Go.Ev
set_option linter.unusedVariables false
set_option linter.unusedSimpArgs false
theorem l32Left_all (xs : List (Int × ByteArray × Int)) (a : ByteArray) (h : ∀ b ∈ xs, valB b = true) (hl : xs.length ≤ 1000000) : QS.f xs a xs.length = some (leftOf xs a) := by
 have := QbP xs [] a h hl
 rwa [List.append_nil] at this
def leftR (xs : List (Int × ByteArray × Int)) (a : ByteArray) : Int × Int := if booksB xs = true ∧ wordB a = true then (leftOf xs a, 0) else (0, 1)
theorem PiecesLeft_both (xs : List (Int × ByteArray × Int)) (a : ByteArray) (h : Lm OkBooking xs) (ha : Sm a) : Qaw.f xs a = some (leftR xs a) ∧ Qas.f xs a = some (leftR xs a) := by
 unfold leftR
 refine ⟨?_, ?_⟩
 ·unfold Qaw.f Qaw.fn Qaw.top
  rw [Qbm xs h, Qbv a (Nat.le_trans ha (by omega))]
  cases hb : booksB xs
  ·rfl
  cases hw : wordB a
  ·rfl
  have hv := booksB_val hb
  simp only [and_self, and_true, true_and, decide_true, decide_false, if_true, if_false, mid_get, mid_set, mid_getn, mid_setn, bt_mid, Option.bind_some, Bool.not_true, Bool.not_false, Bool.false_eq_true, Bool.true_eq_false, beq_self_eq_true, bne_self_eq_false, Int.toNat_natCast]
  rw [l32Left_all xs a hv.1 (by omega)]; rfl
 ·unfold Qas.f Qas.fn Qas.top
  rw [Qbn xs h, Qbu a (Nat.le_trans ha (by omega))]
  cases hb : booksB xs
  ·rfl
  cases hw : wordB a
  ·rfl
  have hv := booksB_val hb
  simp only [and_self, and_true, true_and, decide_true, decide_false, if_true, if_false, mid_get, mid_set, mid_getn, mid_setn, bt_mid, Option.bind_some, Bool.not_true, Bool.not_false, Bool.false_eq_true, Bool.true_eq_false, beq_self_eq_true, bne_self_eq_false, Int.toNat_natCast]
  rw [Qbq xs a hv.1 (by omega)]; rfl
def mostF (xs : List (Int × ByteArray × Int)) (a : ByteArray) (i : Nat) (st : Int) : Int := if leftOf (xs.take (i + 1)) a > st then leftOf (xs.take (i + 1)) a else st
def mostL (xs : List (Int × ByteArray × Int)) (a : ByteArray) : Int := foldi (fun i st (_ : Int × ByteArray × Int) => mostF xs a i st) 0 0 xs
end Go.Pl

namespace Go.Pl
open Go.Ev
set_option linter.unusedVariables false
noncomputable section
end
end Go.Pl

namespace Go.Pl
open Go.Ev
set_option linter.unusedVariables false
noncomputable section
end
end Go.Pl

namespace Go.Pl
open Go.Ev
set_option linter.unusedVariables false
set_option linter.unusedSimpArgs false
abbrev Sig := Int × Int
def sigB (m : Sig) : Bool := inB m.1 0 100000 && inB m.2 0 9 && !decide (m.2 = 8)
def prevS (p : List Sig) (t : Int) : Bool := match p.getLast? with | none => true | some y => !decide (t < y.1)
def sigF (p : List Sig) : List Sig → Bool
 | [] => true
 | m :: r => sigB m && (prevS p m.1 && sigF (p ++ [m]) r)
def sigsB (xs : List Sig) : Bool := decide (xs.length ≤ 40) && sigF [] xs
theorem Qb7 : ∀ (r p : List Sig) (k : Nat), p.length + r.length ≤ 1000000 → r.length < k → Qk.l4 NN k (p ++ r) (p ++ r) (p ++ r).length p.length = some (sigF p r) := by
 intro r
 induction r with
 | nil =>
  intro p k _ hk
  obtain ⟨k, rfl⟩ : ∃ j, k = j + 1 := ⟨k - 1, by omega⟩
  have e : decide ((p.length : Int) ≤ 40) = decide (p.length ≤ 40) := by congr 1; exact propext (by omega)
  simp [Qk.l4, Qk.g4, sigF, e]
 | cons m r ih =>
  intro p k hb hk
  simp only [List.length_cons] at hb hk
  obtain ⟨k, rfl⟩ : ∃ j, k = j + 1 := ⟨k - 1, by omega⟩
  have hl := mid_len p r m
  have c0 : (0 : Int) ≤ (p.length : Int) := by omega
  have c1 : (p.length : Int) < ((p ++ m :: r).length : Int) := by omega
  have cw := w64 (n := (p.length : Int) + 1) (by omega) (by omega)
  have i1 := ih (p ++ [m]) k (by simp; omega) (by omega)
  rw [mid_snoc, snoc_len] at i1
  simp only [Qk.l4, Qk.g4, c0, c1, cw, and_self, and_true, true_and, decide_true, decide_false, if_true, if_false, mid_get, mid_set, mid_getn, mid_setn, bt_mid, Option.bind_some, Bool.not_true, Bool.not_false, Bool.false_eq_true, Bool.true_eq_false, beq_self_eq_true, bne_self_eq_false, Int.toNat_natCast, QbY, Qbh]
  by_cases hm : sigB m = true
  rotate_left
  ·have e : sigF p (m :: r) = false := by simp only [sigF]; cases q : sigB m; rfl; exact absurd q hm
   rw [e]
   unfold sigB at hm
   simp only [Bool.and_eq_true, Bool.not_eq_true', decide_eq_false_iff_not, not_and] at hm
   by_cases h1 : inB m.1 0 100000 = true
   ·by_cases h3 : inB m.2 0 9 = true
    ·have h4 : m.2 = 8 := by have := hm ⟨h1, h3⟩; omega
     simp [h1, h3, h4]
    ·simp [h1, h3]
   ·simp [h1]
  have hm' := hm
  unfold sigB at hm'
  simp only [Bool.and_eq_true, Bool.not_eq_true', decide_eq_false_iff_not] at hm'
  obtain ⟨⟨h1, h3⟩, h4⟩ := hm'
  have h4' : (m.2 == 8) = false := by simpa using h4
  simp only [h1, h3, h4', and_self, and_true, true_and, decide_true, decide_false, if_true, if_false, mid_get, mid_set, mid_getn, mid_setn, bt_mid, Option.bind_some, Bool.not_true, Bool.not_false, Bool.false_eq_true, Bool.true_eq_false, beq_self_eq_true, bne_self_eq_false, Int.toNat_natCast]
  rcases last_cases p with hp | ⟨q, y, hp⟩
  ·have n1 : ¬ (0 : Int) < (p.length : Int) := by rw [hp]; simp
   have hpr : prevS p m.1 = true := by rw [hp]; rfl
   simp only [n1, and_self, and_true, true_and, decide_true, decide_false, if_true, if_false, mid_get, mid_set, mid_getn, mid_setn, bt_mid, Option.bind_some, Bool.not_true, Bool.not_false, Bool.false_eq_true, Bool.true_eq_false, beq_self_eq_true, bne_self_eq_false, Int.toNat_natCast, i1, sigF, hm, hpr, Bool.true_and]
  ·have hpl : (p.length : Int) - 1 = (q.length : Int) := by rw [hp]; simp
   have n1 : (0 : Int) < (p.length : Int) := by rw [hp]; simp
   have w1 := w64 (n := (q.length : Int)) (by omega) (by omega)
   have q0 : (0 : Int) ≤ (q.length : Int) := by omega
   have q1 : (q.length : Int) < ((p ++ m :: r).length : Int) := by omega
   have g2 : ∀ z, (p ++ m :: r).getD q.length z = y := fun z => by rw [hp, List.append_assoc, List.singleton_append, mid_getn]
   have hpr : prevS p m.1 = !decide (m.1 < y.1) := by unfold prevS; rw [hp, last_snoc]
   simp only [n1, hpl, w1, q0, q1, g2, and_self, and_true, true_and, decide_true, decide_false, if_true, if_false, mid_get, mid_set, mid_getn, mid_setn, bt_mid, Option.bind_some, Bool.not_true, Bool.not_false, Bool.false_eq_true, Bool.true_eq_false, beq_self_eq_true, bne_self_eq_false, Int.toNat_natCast, i1, sigF, hm, hpr, Bool.true_and]
   by_cases e : m.1 < y.1 <;> simp [e]
theorem Qb8 : ∀ (r p : List Sig) (k : Nat), p.length + r.length ≤ 1000000 → r.length < k → Qm.l2 NN k (p ++ r) p.length = some (sigF p r && decide ((p ++ r).length ≤ 40)) := by
 intro r
 induction r with
 | nil =>
  intro p k _ hk
  obtain ⟨k, rfl⟩ : ∃ j, k = j + 1 := ⟨k - 1, by omega⟩
  have e : decide ((p.length : Int) ≤ 40) = decide (p.length ≤ 40) := by congr 1; exact propext (by omega)
  simp [Qm.l2, Qm.g2, sigF, e]
 | cons m r ih =>
  intro p k hb hk
  simp only [List.length_cons] at hb hk
  obtain ⟨k, rfl⟩ : ∃ j, k = j + 1 := ⟨k - 1, by omega⟩
  have hl := mid_len p r m
  have c0 : (0 : Int) ≤ (p.length : Int) := by omega
  have c1 : (p.length : Int) < ((p ++ m :: r).length : Int) := by omega
  have cw := w64 (n := (p.length : Int) + 1) (by omega) (by omega)
  have i1 := ih (p ++ [m]) k (by simp; omega) (by omega)
  rw [mid_snoc, snoc_len] at i1
  simp only [Qm.l2, Qm.g2, c0, c1, cw, and_self, and_true, true_and, decide_true, decide_false, if_true, if_false, mid_get, mid_set, mid_getn, mid_setn, bt_mid, Option.bind_some, Bool.not_true, Bool.not_false, Bool.false_eq_true, Bool.true_eq_false, beq_self_eq_true, bne_self_eq_false, Int.toNat_natCast, Qbi]
  by_cases hm : sigB m = true
  rotate_left
  ·have e : sigF p (m :: r) = false := by simp only [sigF]; cases q : sigB m; rfl; exact absurd q hm
   rw [e]
   unfold sigB at hm
   simp only [Bool.and_eq_true, Bool.not_eq_true', decide_eq_false_iff_not, not_and] at hm
   by_cases h1 : inB m.1 0 100000 = true
   ·by_cases h3 : inB m.2 0 9 = true
    ·have h4 : m.2 = 8 := by have := hm ⟨h1, h3⟩; omega
     simp [h1, h3, h4]
    ·simp [h1, h3]
   ·simp [h1]
  have hm' := hm
  unfold sigB at hm'
  simp only [Bool.and_eq_true, Bool.not_eq_true', decide_eq_false_iff_not] at hm'
  obtain ⟨⟨h1, h3⟩, h4⟩ := hm'
  have h4' : (m.2 == 8) = false := by simpa using h4
  simp only [h1, h3, h4', and_self, and_true, true_and, decide_true, decide_false, if_true, if_false, mid_get, mid_set, mid_getn, mid_setn, bt_mid, Option.bind_some, Bool.not_true, Bool.not_false, Bool.false_eq_true, Bool.true_eq_false, beq_self_eq_true, bne_self_eq_false, Int.toNat_natCast]
  rcases last_cases p with hp | ⟨q, y, hp⟩
  ·have n1 : ¬ (0 : Int) < (p.length : Int) := by rw [hp]; simp
   have hpr : prevS p m.1 = true := by rw [hp]; rfl
   simp only [n1, and_self, and_true, true_and, decide_true, decide_false, if_true, if_false, mid_get, mid_set, mid_getn, mid_setn, bt_mid, Option.bind_some, Bool.not_true, Bool.not_false, Bool.false_eq_true, Bool.true_eq_false, beq_self_eq_true, bne_self_eq_false, Int.toNat_natCast, i1, sigF, hm, hpr, Bool.true_and]
  ·have hpl : (p.length : Int) - 1 = (q.length : Int) := by rw [hp]; simp
   have n1 : (0 : Int) < (p.length : Int) := by rw [hp]; simp
   have w1 := w64 (n := (q.length : Int)) (by omega) (by omega)
   have q0 : (0 : Int) ≤ (q.length : Int) := by omega
   have q1 : (q.length : Int) < ((p ++ m :: r).length : Int) := by omega
   have g2 : ∀ z, (p ++ m :: r).getD q.length z = y := fun z => by rw [hp, List.append_assoc, List.singleton_append, mid_getn]
   have hpr : prevS p m.1 = !decide (m.1 < y.1) := by unfold prevS; rw [hp, last_snoc]
   simp only [n1, hpl, w1, q0, q1, g2, and_self, and_true, true_and, decide_true, decide_false, if_true, if_false, mid_get, mid_set, mid_getn, mid_setn, bt_mid, Option.bind_some, Bool.not_true, Bool.not_false, Bool.false_eq_true, Bool.true_eq_false, beq_self_eq_true, bne_self_eq_false, Int.toNat_natCast, i1, sigF, hm, hpr, Bool.true_and]
   by_cases e : m.1 < y.1 <;> simp [e]
theorem Qbr (xs : List Sig) (hl : xs.length ≤ 1000000) : Qk.f xs = some (sigsB xs) := by
 unfold Qk.f Qk.fn Qk.top sigsB
 have := Qb7 xs [] NN (by simpa using hl) (NN_lt (by omega))
 rw [List.nil_append] at this
 by_cases h8 : (40 : Int) < (xs.length : Int)
 ·have : ¬ xs.length ≤ 40 := by omega
  simp [h8, this]
 ·have e8 : xs.length ≤ 40 := by omega
  simp only [h8, e8, and_self, and_true, true_and, decide_true, decide_false, if_true, if_false, mid_get, mid_set, mid_getn, mid_setn, bt_mid, Option.bind_some, Bool.not_true, Bool.not_false, Bool.false_eq_true, Bool.true_eq_false, beq_self_eq_true, bne_self_eq_false, Int.toNat_natCast, Bool.true_and]
  exact this
theorem Qbs (xs : List Sig) (hl : xs.length ≤ 1000000) : Qm.f xs = some (sigsB xs) := by
 unfold Qm.f Qm.fn Qm.top sigsB
 have := Qb8 xs [] NN (by simpa using hl) (NN_lt (by omega))
 rw [List.nil_append] at this
 rw [Bool.and_comm]
 exact this
abbrev Dsk := List Mov × List Sig × List (Int × ByteArray × Int)
def deskB (d : Dsk) : Bool := movesB d.1 && (sigsB d.2.1 && booksB d.2.2)
end Go.Pl

namespace Go.Pl
open Go.Ev
set_option linter.unusedVariables false
set_option linter.unusedSimpArgs false
abbrev Ctl := Bool × Bool × Bool × Bool × Bool × Int
def giveC : Ctl → Int → Option Ctl
 | (a, b, r, h, s, d), i =>
  if i = 0 then some (if a = true then (false, b, false, false, s, d) else (true, b, r, h, s, d))
  else if i = 1 then some (if b = true then (a, false, false, false, s, d) else (a, true, r, h, s, d))
  else if i = 2 then (if (a && b && !s) = true then some (a, b, true, false, s, 0) else none)
  else if i = 3 then some (a, b, false, false, s, d)
  else if i = 4 then (if (r && !h) = true then some (a, b, r, true, s, d) else none)
  else if i = 5 then (if h = true then some (a, b, r, false, s, d) else none)
  else if i = 6 then some (a, b, false, false, true, d)
  else if i = 7 then some (a, b, r, h, s, 0)
  else if i = 8 then some (if 3 < d + 1 then (a, b, false, false, s, 4) else (a, b, r, h, s, d + 1))
  else (if (s && !a && !b) = true then some (a, b, r, h, false, d) else none)
def tkC : Ctl → Ctl
 | (a, b, r, h, s, d) => if 3 < d + 1 then (a, b, false, false, s, 4) else (a, b, r, h, s, d + 1)
theorem give_tk (c : Ctl) : giveC c 8 = some (tkC c) := rfl
def giveB (c : Ctl) (i : Int) : Ctl := (giveC c i).getD c
def DeadOk (c : Ctl) : Prop := 0 ≤ c.2.2.2.2.2 ∧ c.2.2.2.2.2 ≤ 4
def mayC (c : Ctl) : Bool := c.2.2.1 && !c.2.2.2.1
theorem tk_dead {c : Ctl} (h : DeadOk c) : DeadOk (tkC c) := by
 obtain ⟨a, b, r, e, s, d⟩ := c
 unfold DeadOk at h ⊢
 simp only at h
 simp only [tkC]
 by_cases h3 : 3 < d + 1
 ·rw [if_pos h3]; simp
 ·rw [if_neg h3]; simp only; omega
theorem give_dead {c : Ctl} (h : DeadOk c) (i : Int) : DeadOk (giveB c i) := by
 obtain ⟨a, b, r, e, s, d⟩ := c
 unfold DeadOk at h ⊢
 simp only at h
 unfold giveB giveC
 simp only
 repeat' split
 all_goals simp only [Option.getD_some, Option.getD_none]
 all_goals omega
def tkN : Nat → Ctl → Ctl
 | 0, c => c
 | n + 1, c => tkN n (tkC c)
theorem tkN_add : ∀ (m n : Nat) (c : Ctl), tkN (m + n) c = tkN n (tkN m c) := by
 intro m
 induction m with
 | zero => intro n c; rw [Nat.zero_add]; rfl
 | succ m ih => intro n c; rw [Nat.succ_add]; exact ih n (tkC c)
theorem tkN_dead : ∀ (n : Nat) {c : Ctl}, DeadOk c → DeadOk (tkN n c) := by
 intro n
 induction n with
 | zero => intro c h; exact h
 | succ n ih => intro c h; exact ih (tk_dead h)
theorem tk4 {a b r e s : Bool} {d : Int} (h0 : 0 ≤ d) (h1 : d ≤ 4) : tkN 4 (a, b, r, e, s, d) = (a, b, false, false, s, 4) := by
 have : d = 0 ∨ d = 1 ∨ d = 2 ∨ d = 3 ∨ d = 4 := by omega
 rcases this with rfl | rfl | rfl | rfl | rfl <;> rfl
theorem tk_off (a b s : Bool) : ∀ n : Nat, tkN n (a, b, false, false, s, 4) = (a, b, false, false, s, 4) := by
 intro n
 induction n with
 | zero => rfl
 | succ n ih => exact ih
theorem tkN_min {c : Ctl} (h : DeadOk c) (n : Nat) : tkN (min n 5) c = tkN n c := by
 by_cases hn : n ≤ 5
 ·rw [Nat.min_eq_left hn]
 ·obtain ⟨a, b, r, e, s, d⟩ := c
  rw [Nat.min_eq_right (by omega), show n = 4 + (n - 4) by omega, tkN_add, tk4 h.1 h.2, tk_off, show (5 : Nat) = 4 + 1 from rfl, tkN_add, tk4 h.1 h.2, tk_off]
def SrtF : Int → List Sig → Prop
 | _, [] => True
 | t, x :: r => t ≤ x.1 ∧ SrtF x.1 r
def atR : List Sig → Ctl → Int → Int → Ctl
 | [], c, now, t => tkN (t - now).toNat c
 | x :: r, c, now, t => if x.1 ≤ t then atR r (giveB (tkN (x.1 - now).toNat c) x.2) x.1 t else tkN (t - now).toNat c
theorem atR_step {l : List Sig} {T t : Int} (c : Ctl) (h : SrtF (T + 1) l) (ht : T + 1 ≤ t) : atR l c T t = atR l (tkC c) (T + 1) t := by
 have key : ∀ u : Int, T + 1 ≤ u → tkN (u - T).toNat c = tkN (u - (T + 1)).toNat (tkC c) := by
  intro u hu
  rw [show (u - T).toNat = (u - (T + 1)).toNat + 1 by omega]; rfl
 cases l with
 | nil => exact key t ht
 | cons x r => simp only [atR]; rw [key t ht, key x.1 h.1]
theorem atR_give (T i : Int) (r : List Sig) (c : Ctl) {t : Int} (ht : T ≤ t) : atR ((T, i) :: r) c T t = atR r (giveB c i) T t := by
 simp only [atR, ht, if_true]
 rw [show (T - T).toNat = 0 by omega]; rfl
theorem atR_now {l : List Sig} {T : Int} (c : Ctl) (h : SrtF (T + 1) l) : atR l c T T = c := by
 have h0 : (T - T).toNat = 0 := by omega
 cases l with
 | nil => simp only [atR, h0]; rfl
 | cons x r =>
  have : ¬ x.1 ≤ T := by have := h.1; omega
  simp only [atR, this, if_false, h0]; rfl
def ctlAt (l : List Sig) (t : Int) : Ctl := atR l (false, false, false, false, false, 0) 0 t
theorem sigF_srt : ∀ {r p : List Sig} {t : Int}, sigF p r = true → (∀ y, p.getLast? = some y → t ≤ y.1) → (p = [] → ∀ y r', r = y :: r' → t ≤ y.1) → SrtF t r := by
 intro r
 induction r with
 | nil => intro p t _ _ _; trivial
 | cons x r ih =>
  intro p t h hp hn
  simp only [sigF, Bool.and_eq_true] at h
  have hx : t ≤ x.1 := by
   rcases last_cases p with e | ⟨q, y, e⟩
   ·exact hn e x r rfl
   ·have h1 := h.2.1
    unfold prevS at h1
    rw [e, last_snoc] at h1
    simp only [Bool.not_eq_true', decide_eq_false_iff_not] at h1
    have := hp y (by rw [e, last_snoc])
    omega
  refine ⟨hx, ih h.2.2 (fun y hy => ?_) (fun e => absurd e (by simp))⟩
  rw [last_snoc] at hy
  rw [← Option.some.inj hy]; omega
theorem sigF_mem : ∀ {r p : List Sig}, sigF p r = true → ∀ m ∈ r, sigB m = true := by
 intro r
 induction r with
 | nil => intro p _ m hm; cases hm
 | cons x r ih =>
  intro p h m hm
  simp only [sigF, Bool.and_eq_true] at h
  rcases List.mem_cons.1 hm with rfl | hm
  ·exact h.1
  ·exact ih h.2.2 m hm
theorem sigsB_iff {l : List Sig} (h : sigsB l = true) : l.length ≤ 40 ∧ SrtF 0 l ∧ ∀ m ∈ l, (0 ≤ m.1 ∧ m.1 ≤ 100000) ∧ (0 ≤ m.2 ∧ m.2 ≤ 9) ∧ m.2 ≠ 8 := by
 unfold sigsB at h
 simp only [Bool.and_eq_true, decide_eq_true_eq] at h
 have hm := sigF_mem h.2
 have hk : ∀ m ∈ l, (0 ≤ m.1 ∧ m.1 ≤ 100000) ∧ (0 ≤ m.2 ∧ m.2 ≤ 9) ∧ m.2 ≠ 8 := fun m h1 => by
  have := hm m h1
  unfold sigB at this
  simp only [Bool.and_eq_true, inB_iff, Bool.not_eq_true', decide_eq_false_iff_not] at this
  exact ⟨this.1.1, this.1.2, this.2⟩
 refine ⟨h.1, sigF_srt h.2 (fun y hy => by simp at hy) (fun _ y r' e => ?_), hk⟩
 exact (hk y (by rw [e]; simp)).1.1
def addZ (z : ByteArray) (t s : Int) (m : Mov) : Int := if m.2.1 = z ∧ m.1 ≤ t then s + m.2.2 else s
def peopT (xs : List Mov) (z : ByteArray) (t : Int) : Int := xs.foldl (addZ z t) 0
def nearB (z : ByteArray) (t : Int) (m : Mov) : Bool := decide (m.2.1 = z) && (decide (m.1 ≤ t) && decide (t - m.1 < 30000))
def clrB (xs : List Mov) (z : ByteArray) (t : Int) : Bool := xs.all (fun m => !nearB z t m) && decide (peopT xs z t = 0)
def upN (t : Int) : List Mov → Nat
 | [] => 0
 | m :: r => if m.1 ≤ t then upN t r + 1 else 0
theorem upN_le (t : Int) : ∀ xs : List Mov, upN t xs ≤ xs.length := by
 intro xs
 induction xs with
 | nil => simp [upN]
 | cons m r ih => simp only [upN, List.length_cons]; split <;> omega
def SrtM (xs : List Mov) : Prop := xs.Pairwise fun a b => a.1 ≤ b.1
theorem upN_split (t : Int) : ∀ (xs : List Mov), SrtM xs → (∀ m ∈ xs.take (upN t xs), m.1 ≤ t) ∧ ∀ m ∈ xs.drop (upN t xs), t < m.1 := by
 intro xs
 induction xs with
 | nil => intro _; simp
 | cons m r ih =>
  intro h
  have h' := List.pairwise_cons.1 h
  have i := ih h'.2
  by_cases hm : m.1 ≤ t
  ·simp only [upN, hm, if_true, List.take_succ_cons, List.drop_succ_cons]
   refine ⟨fun x hx => ?_, i.2⟩
   rcases List.mem_cons.1 hx with rfl | hx
   ·exact hm
   ·exact i.1 x hx
  ·simp only [upN, hm, if_false, List.take_zero, List.drop_zero]
   refine ⟨by simp, fun x hx => ?_⟩
   rcases List.mem_cons.1 hx with rfl | hx
   ·omega
   ·have := h'.1 x hx; omega
theorem addZ_in (z : ByteArray) (t : Int) : ∀ (xs : List Mov) (s : Int), (∀ m ∈ xs, m.1 ≤ t) → xs.foldl (addZ z t) s = xs.foldl (addP z) s := by
 intro xs
 induction xs with
 | nil => intro s _; rfl
 | cons m r ih =>
  intro s h
  have := h m (by simp)
  simp only [List.foldl_cons]
  rw [show addZ z t s m = addP z s m by unfold addZ addP; simp [this]]
  exact ih _ (fun x hx => h x (by simp [hx]))
theorem addZ_out (z : ByteArray) (t : Int) : ∀ (xs : List Mov) (s : Int), (∀ m ∈ xs, t < m.1) → xs.foldl (addZ z t) s = s := by
 intro xs
 induction xs with
 | nil => intro s _; rfl
 | cons m r ih =>
  intro s h
  have := h m (by simp)
  have n : ¬ m.1 ≤ t := by omega
  simp only [List.foldl_cons]
  rw [show addZ z t s m = s by unfold addZ; simp [n]]
  exact ih _ (fun x hx => h x (by simp [hx]))
theorem peopT_up {xs : List Mov} (h : SrtM xs) (z : ByteArray) (t : Int) : peopT xs z t = peopS (xs.take (upN t xs)) z := by
 obtain ⟨h1, h2⟩ := upN_split t xs h
 unfold peopT peopS
 conv => lhs; rw [← List.take_append_drop (upN t xs) xs]
 rw [List.foldl_append, addZ_in z t _ _ h1, addZ_out z t _ _ h2]
theorem near_up {xs : List Mov} (h : SrtM xs) (z : ByteArray) (t : Int) : xs.all (fun m => !nearB z t m) = (xs.take (upN t xs)).all (fun m => !(decide (m.2.1 = z) && decide (t < m.1 + 30000))) := by
 obtain ⟨h1, h2⟩ := upN_split t xs h
 conv => lhs; rw [← List.take_append_drop (upN t xs) xs]
 rw [List.all_append]
 have e2 : (xs.drop (upN t xs)).all (fun m => !nearB z t m) = true := by
  rw [List.all_eq_true]
  intro m hm
  have n : ¬ m.1 ≤ t := by have := h2 m hm; omega
  simp [nearB, n]
 rw [e2, Bool.and_true, Bool.eq_iff_iff, List.all_eq_true, List.all_eq_true]
 refine forall_congr' fun m => forall_congr' fun hm => ?_
 have a1 := h1 m hm
 have e : decide (t - m.1 < 30000) = decide (t < m.1 + 30000) := by congr 1; exact propext (by omega)
 unfold nearB
 rw [e, decide_eq_true a1, Bool.true_and]
theorem movF_srt : ∀ {r p : List Mov}, MvI p → SrtM p → movF p r = true → SrtM (p ++ r) ∧ ∀ m ∈ r, movB m = true := by
 intro r
 induction r with
 | nil => intro p _ hs _; rw [List.append_nil]; exact ⟨hs, fun m hm => by cases hm⟩
 | cons m r ih =>
  intro p hI hs h
  simp only [movF, Bool.and_eq_true] at h
  obtain ⟨j1, j2⟩ := mvi_snoc hI h.1 h.2.1
  have hs' : SrtM (p ++ [m]) := by
   unfold SrtM
   rw [List.pairwise_append]
   refine ⟨hs, by simp, fun a ha b hb => ?_⟩
   rw [List.mem_singleton.1 hb]; exact j2 a (by simp [ha])
  have i := ih j1 hs' h.2.2.2
  rw [List.append_assoc, List.singleton_append] at i
  refine ⟨i.1, fun x hx => ?_⟩
  rcases List.mem_cons.1 hx with rfl | hx
  ·exact h.1
  ·exact i.2 x hx
theorem movesB_iff {xs : List Mov} (h : movesB xs = true) : xs.length ≤ 40 ∧ SrtM xs ∧ ∀ m ∈ xs, movB m = true := by
 unfold movesB at h
 simp only [Bool.and_eq_true, decide_eq_true_eq] at h
 have := movF_srt mvi_nil (by simp [SrtM]) h.2
 rw [List.nil_append] at this
 exact ⟨h.1, this⟩
end Go.Pl

namespace Go.Pl
open Go.Ev
set_option linter.unusedVariables false
set_option linter.unusedSimpArgs false
theorem Qbp (c : Ctl) (i : Int) (h : DeadOk c) (h0 : 0 ≤ i ∧ i ≤ 9) : Qap.f c i = some (match giveC c i with | some y => (y, 0) | none => ((false, false, false, false, false, 0), 5)) := by
 obtain ⟨a, b, r, e, s, d⟩ := c
 have hd : 0 ≤ d ∧ d ≤ 4 := h
 have w := w64 (n := d + 1) (by omega) (by omega)
 have hi : i = 0 ∨ i = 1 ∨ i = 2 ∨ i = 3 ∨ i = 4 ∨ i = 5 ∨ i = 6 ∨ i = 7 ∨ i = 8 ∨ i = 9 := by omega
 unfold Qap.f Qap.fn Qap.top Qbd.f Qbd.fn Qbd.top giveC
 rcases hi with rfl | rfl | rfl | rfl | rfl | rfl | rfl | rfl | rfl | rfl
 case inr.inr.inr.inr.inr.inr.inr.inr.inl =>
  simp only [w]
  by_cases h3 : 3 < d + 1
  ·have h4 : d + 1 = 4 ∨ d + 1 = 5 := by omega
   rcases h4 with h4 | h4 <;> simp [h4]
  ·have h4 : ¬ 4 < d + 1 := by omega
   simp [h3, h4]
 all_goals cases a <;> cases b <;> cases r <;> cases e <;> cases s <;> rfl
theorem QbS (c : Ctl) (i : Int) (h : DeadOk c) (h0 : 0 ≤ i ∧ i ≤ 9) : ∃ y : Ctl × Bool, QaJ.f c i = some y ∧ y.2 = (giveC c i).isSome ∧ y.1 = giveB c i := by
 obtain ⟨a, b, r, e, s, d⟩ := c
 have hd : 0 ≤ d ∧ d ≤ 4 := h
 have w := w64 (n := d + 1) (by omega) (by omega)
 have hi : i = 0 ∨ i = 1 ∨ i = 2 ∨ i = 3 ∨ i = 4 ∨ i = 5 ∨ i = 6 ∨ i = 7 ∨ i = 8 ∨ i = 9 := by omega
 unfold QaJ.f QaJ.fn QaJ.top Qa1.f Qa1.fn Qa1.top giveB giveC
 rcases hi with rfl | rfl | rfl | rfl | rfl | rfl | rfl | rfl | rfl | rfl
 case inr.inr.inr.inr.inr.inr.inr.inr.inl =>
  simp only [w]
  have hd5 : d = 0 ∨ d = 1 ∨ d = 2 ∨ d = 3 ∨ d = 4 := by omega
  rcases hd5 with rfl | rfl | rfl | rfl | rfl <;> exact ⟨_, rfl, rfl, rfl⟩
 all_goals cases a <;> cases b <;> cases r <;> cases e <;> cases s <;> exact ⟨_, rfl, rfl, rfl⟩
theorem QcI (c : Ctl) : Qbb.f c = some (mayC c) := by
 obtain ⟨a, b, r, e, s, d⟩ := c
 cases r <;> rfl
theorem Qcw (a1 a2 a3 a4 a5 : Bool) (a6 : Int) : ∀ (n : Nat) (c : Ctl) (k : Nat), DeadOk c → n ≤ 1000 → n < k → QJ.l2 NN k n c a1 a2 a3 a4 a5 a6 = some (tkN n c) := by
 intro n
 induction n with
 | zero =>
  intro c k _ _ hk
  obtain ⟨k, rfl⟩ : ∃ j, k = j + 1 := ⟨k - 1, by omega⟩
  simp [QJ.l2, QJ.g2, tkN]
 | succ n ih =>
  intro c k hc hn hk
  obtain ⟨k, rfl⟩ : ∃ j, k = j + 1 := ⟨k - 1, by omega⟩
  obtain ⟨y, e1, e2, e3⟩ := QbS c 8 hc (by omega)
  have c0 : (0 : Int) < ((n + 1 : Nat) : Int) := by omega
  have w := w64 (n := ((n + 1 : Nat) : Int) - 1) (by omega) (by omega)
  have e4 : giveB c 8 = tkC c := rfl
  rw [e4] at e3
  simp only [QJ.l2, QJ.g2, c0, w, e1, e3, and_self, and_true, true_and, decide_true, decide_false, if_true, if_false, mid_get, mid_set, mid_getn, mid_setn, bt_mid, Option.bind_some, Bool.not_true, Bool.not_false, Bool.false_eq_true, Bool.true_eq_false, beq_self_eq_true, bne_self_eq_false, Int.toNat_natCast]
  rw [show ((n + 1 : Nat) : Int) - 1 = (n : Int) by omega]
  exact ih _ k (tk_dead hc) (by omega) (by omega)
theorem QbC (c : Ctl) {n : Int} (hc : DeadOk c) (h0 : 0 ≤ n) : QJ.f c n = some (tkN n.toNat c) := by
 unfold QJ.f QJ.fn QJ.top
 have e : (if 5 < n then 5 else n) = ((min n.toNat 5 : Nat) : Int) := by split <;> omega
 rw [e, Qcw _ _ _ _ _ _ _ _ _ hc (by omega) (NN_lt (by omega)), tkN_min hc]
theorem QcU (t : Int) (ht : 0 ≤ t ∧ t ≤ 1000000) (a1 a2 a3 a4 a5 : Bool) (a6 : Int) : ∀ (r p : List Sig) (now : Int) (c : Ctl) (ref : List Int) (k : Nat), p.length + r.length ≤ 1000000 → r.length < k → DeadOk c → 0 ≤ now → now ≤ t → SrtF now r → (∀ m ∈ r, (0 ≤ m.1 ∧ m.1 ≤ 100000) ∧ (0 ≤ m.2 ∧ m.2 ≤ 9)) → ref.length ≤ p.length →
  ∃ q, QQ.l4 NN k (p ++ r) t now p.length a1 a2 a3 a4 a5 a6 c ref = some (atR r c now t, q) := by
 intro r
 induction r with
 | nil =>
  intro p now c ref k _ hk hc hn hnt _ _ _
  obtain ⟨k, rfl⟩ : ∃ j, k = j + 1 := ⟨k - 1, by omega⟩
  have w := w64 (n := t - now) (by omega) (by omega)
  refine ⟨ref, ?_⟩
  simp only [List.append_nil, QQ.l4, QQ.g4, Int.lt_irrefl, w, and_self, and_true, true_and, decide_true, decide_false, if_true, if_false, mid_get, mid_set, mid_getn, mid_setn, bt_mid, Option.bind_some, Bool.not_true, Bool.not_false, Bool.false_eq_true, Bool.true_eq_false, beq_self_eq_true, bne_self_eq_false, Int.toNat_natCast]
  rw [QbC c hc (by omega)]; rfl
 | cons m r ih =>
  intro p now c ref k hl hk hc hn hnt hs hm hr
  simp only [List.length_cons] at hl hk
  obtain ⟨k, rfl⟩ : ∃ j, k = j + 1 := ⟨k - 1, by omega⟩
  have hmm := hm m (by simp)
  have hln := mid_len p r m
  have c0 : (0 : Int) ≤ (p.length : Int) := by omega
  have c1 : (p.length : Int) < ((p ++ m :: r).length : Int) := by omega
  have cw := w64 (n := (p.length : Int) + 1) (by omega) (by omega)
  have w := w64 (n := t - now) (by omega) (by omega)
  have w2 := w64 (n := m.1 - now) (by omega) (by omega)
  have hs1 := hs.1
  by_cases h : m.1 ≤ t
  ·have hd := tkN_dead (m.1 - now).toNat hc
   obtain ⟨y, e1, e2, e3⟩ := QbS (tkN (m.1 - now).toNat c) m.2 hd hmm.2
   have st : ∀ ref' : List Int, ref'.length ≤ (p ++ [m]).length → ∃ q, QQ.l4 NN k (p ++ m :: r) t m.1 ((p.length : Int) + 1) a1 a2 a3 a4 a5 a6 (giveB (tkN (m.1 - now).toNat c) m.2) ref' = some (atR r (giveB (tkN (m.1 - now).toNat c) m.2) m.1 t, q) := by
    intro ref' hr'
    have i := ih (p ++ [m]) m.1 (giveB (tkN (m.1 - now).toNat c) m.2) ref' k (by simp; omega) (by omega) (give_dead hd _) (by omega) h hs.2 (fun x hx => hm x (by simp [hx])) hr'
    rwa [mid_snoc, snoc_len] at i
   simp only [QQ.l4, QQ.g4, c0, c1, cw, w2, h, and_self, and_true, true_and, decide_true, decide_false, if_true, if_false, mid_get, mid_set, mid_getn, mid_setn, bt_mid, Option.bind_some, Bool.not_true, Bool.not_false, Bool.false_eq_true, Bool.true_eq_false, beq_self_eq_true, bne_self_eq_false, Int.toNat_natCast, atR]
   rw [QbC c hc (by omega)]
   simp only [Option.bind_some, e1]
   by_cases hy : y.2 = true
   ·rw [if_pos hy, e3]
    exact st ref (by simp; omega)
   ·rw [if_neg hy]
    have hg : giveB (tkN (m.1 - now).toNat c) m.2 = tkN (m.1 - now).toNat c := by
     unfold giveB
     rw [e2] at hy
     cases hq : giveC (tkN (m.1 - now).toNat c) m.2 with
     | none => rfl
     | some z => rw [hq] at hy; simp at hy
    have i := st (ref ++ [(p.length : Int)]) (by simp; omega)
    rw [hg] at i ⊢
    rw [if_pos (by rw [room8]; simp; omega)]
    exact i
  ·refine ⟨ref, ?_⟩
   simp only [QQ.l4, QQ.g4, c0, c1, w, h, and_self, and_true, true_and, decide_true, decide_false, if_true, if_false, mid_get, mid_set, mid_getn, mid_setn, bt_mid, Option.bind_some, Bool.not_true, Bool.not_false, Bool.false_eq_true, Bool.true_eq_false, beq_self_eq_true, bne_self_eq_false, Int.toNat_natCast, atR]
   rw [QbC c hc (by omega)]; rfl
theorem ctl0_dead : DeadOk ((false, false, false, false, false, 0) : Ctl) := by simp [DeadOk]
theorem Qb3 {l : List Sig} (h : sigsB l = true) {t : Int} (ht : 0 ≤ t ∧ t ≤ 1000000) : ∃ q, QQ.f l t = some (ctlAt l t, q) := by
 obtain ⟨h1, h2, h3⟩ := sigsB_iff h
 have := QcU t ht false false false false false 0 l [] 0 (false, false, false, false, false, 0) [] NN (by simp; omega) (NN_lt (by omega)) ctl0_dead (by omega) ht.1 h2 (fun m hm => ⟨(h3 m hm).1, (h3 m hm).2.1⟩) (by simp)
 exact this
theorem Qcx (xs : List Mov) (z : ByteArray) (t : Int) (h : ∀ m ∈ xs, movB m = true) (hl : xs.length ≤ 1000000) : QD.f xs z t = some (peopT xs z t) := by
 have := (fold_fix (E := fun m : Mov => movB m = true) (fun p st => -(1000 * (p.length : Int)) ≤ st ∧ st ≤ 1000 * (p.length : Int)) (fun _ => addZ z t) (fun st => some st) (fun k i st => QD.l3 NN k z t st xs xs.length i) xs ?_ ?_ 0 h (by simp) (by omega) NN (NN_lt (by omega))).2
 ·rw [foldi_foldl] at this
  exact this
 ·intro k st _
  simp [QD.l3, QD.g3]
 ·intro k p m r st hx hm hI c0 c1 c2 cw g
  have hb := movB_iff hm
  have hp : p.length ≤ 1000000 := by omega
  have w1 := w64 (n := st + m.2.2) (by omega) (by omega)
  refine ⟨by unfold addZ; rw [List.length_append, List.length_singleton]; split <;> omega, ?_⟩
  simp only [QD.l3, QD.g3, c0, c1, cw, and_self, and_true, true_and, decide_true, decide_false, if_true, if_false, mid_get, mid_set, mid_getn, mid_setn, bt_mid, Option.bind_some, Bool.not_true, Bool.not_false, Bool.false_eq_true, Bool.true_eq_false, beq_self_eq_true, bne_self_eq_false, Int.toNat_natCast, g, ba_beq, w1]
  unfold addZ
  by_cases e : m.2.1 = z <;> by_cases q : m.1 ≤ t <;> simp [e, q]
theorem QbT (xs : List Mov) (z : ByteArray) {t : Int} (ht : 0 ≤ t ∧ t ≤ 1000000000) (h : ∀ m ∈ xs, movB m = true) (hl : xs.length ≤ 1000000) : QY.f xs z t = some (clrB xs z t) := by
 have := all_loop (E := fun m : Mov => movB m = true) (fun m => !nearB z t m) (fun v => some (decide (peopT xs z t = 0))) (fun k v i => QY.l2 NN k xs z t v v.length i) ?_ ?_ xs h (by omega) NN (NN_lt (by omega))
 ·unfold QY.f QY.fn QY.top clrB
  rw [this]
  cases xs.all (fun m => !nearB z t m) <;> rfl
 ·intro k p
  simp only [QY.l2, QY.g2, Int.lt_irrefl, and_self, and_true, true_and, decide_true, decide_false, if_true, if_false, mid_get, mid_set, mid_getn, mid_setn, bt_mid, Option.bind_some, Bool.not_true, Bool.not_false, Bool.false_eq_true, Bool.true_eq_false, beq_self_eq_true, bne_self_eq_false, Int.toNat_natCast]
  rw [Qcx xs z t h hl]
  rfl
 ·intro k p m r hm c0 c1 cw
  have hb := movB_iff hm
  have w1 := w64 (n := t - m.1) (by omega) (by omega)
  simp only [QY.l2, QY.g2, c0, c1, cw, and_self, and_true, true_and, decide_true, decide_false, if_true, if_false, mid_get, mid_set, mid_getn, mid_setn, bt_mid, Option.bind_some, Bool.not_true, Bool.not_false, Bool.false_eq_true, Bool.true_eq_false, beq_self_eq_true, bne_self_eq_false, Int.toNat_natCast, w1, ba_beq, nearB]
  by_cases e : m.2.1 = z <;> by_cases q : m.1 ≤ t <;> by_cases q2 : t - m.1 < 30000 <;> simp [e, q, q2]
theorem Qb4 (xs : List Mov) (zs : List ByteArray) {t : Int} (ht : 0 ≤ t ∧ t ≤ 1000000000) (h : ∀ m ∈ xs, movB m = true) (hl : xs.length ≤ 1000000) (hz : zs.length ≤ 1000000) : Qs.f xs zs t = some (zs.all (clrB xs · t)) := by
 have := all_loop (E := fun _ : ByteArray => True) (clrB xs · t) (fun v => some true) (fun k v i => Qs.l2 NN k xs t v v.length i) ?_ ?_ zs (fun _ _ => trivial) (by omega) NN (NN_lt (by omega))
 ·unfold Qs.f Qs.fn Qs.top
  rw [this]
  cases zs.all (clrB xs · t) <;> rfl
 ·intro k p
  simp [Qs.l2, Qs.g2]
 ·intro k p z r _ c0 c1 cw
  simp only [Qs.l2, Qs.g2, c0, c1, cw, and_self, and_true, true_and, decide_true, decide_false, if_true, if_false, mid_get, mid_set, mid_getn, mid_setn, bt_mid, Option.bind_some, Bool.not_true, Bool.not_false, Bool.false_eq_true, Bool.true_eq_false, beq_self_eq_true, bne_self_eq_false, Int.toNat_natCast]
  rw [QbT xs z ht h hl]
  cases clrB xs z t <;> rfl
theorem QcJ (t : Int) : ∀ (r p : List Mov) (k : Nat), p.length + r.length ≤ 1000000 → r.length < k → Q2.l2 NN k (p ++ r) t p.length = some ((p.length + upN t r : Nat) : Int) := by
 intro r
 induction r with
 | nil =>
  intro p k _ hk
  obtain ⟨k, rfl⟩ : ∃ j, k = j + 1 := ⟨k - 1, by omega⟩
  simp [Q2.l2, Q2.g2, upN]
 | cons m r ih =>
  intro p k hl hk
  simp only [List.length_cons] at hl hk
  obtain ⟨k, rfl⟩ : ∃ j, k = j + 1 := ⟨k - 1, by omega⟩
  have hln := mid_len p r m
  have c0 : (0 : Int) ≤ (p.length : Int) := by omega
  have c1 : (p.length : Int) < ((p ++ m :: r).length : Int) := by omega
  have cw := w64 (n := (p.length : Int) + 1) (by omega) (by omega)
  have i := ih (p ++ [m]) k (by simp; omega) (by omega)
  rw [mid_snoc, snoc_len] at i
  by_cases h : m.1 ≤ t
  ·simp only [Q2.l2, Q2.g2, c0, c1, cw, h, and_self, and_true, true_and, decide_true, decide_false, if_true, if_false, mid_get, mid_set, mid_getn, mid_setn, bt_mid, Option.bind_some, Bool.not_true, Bool.not_false, Bool.false_eq_true, Bool.true_eq_false, beq_self_eq_true, bne_self_eq_false, Int.toNat_natCast, i, upN]
   congr 1
   simp only [List.length_append, List.length_singleton]; omega
  ·simp only [Q2.l2, Q2.g2, c0, c1, cw, h, and_self, and_true, true_and, decide_true, decide_false, if_true, if_false, mid_get, mid_set, mid_getn, mid_setn, bt_mid, Option.bind_some, Bool.not_true, Bool.not_false, Bool.false_eq_true, Bool.true_eq_false, beq_self_eq_true, bne_self_eq_false, Int.toNat_natCast, upN]
   rfl
theorem QcK (xs : List Mov) (t : Int) (hl : xs.length ≤ 1000000) : Q2.f xs t = some (upN t xs : Int) := by
 have := QcJ t xs [] NN (by simpa using hl) (NN_lt (by omega))
 rw [List.nil_append] at this
 unfold Q2.f Q2.fn Q2.top
 refine this.trans ?_
 simp
theorem Qcy (z : ByteArray) (t : Int) (ht : 0 ≤ t ∧ t ≤ 1000000000) (rest : List Mov) (n : Nat) (v : Int) : ∀ (r p : List Mov) (k : Nat), p.length + r.length = n → (∀ m ∈ r, movB m = true) → QC.f (p ++ (r ++ rest)) z n = some v → n ≤ 1000000 → r.length < k → QO.l3 NN k (p ++ (r ++ rest)) z t n p.length = if r.all (fun m => !(decide (m.2.1 = z) && decide (t < m.1 + 30000))) = true then some (decide (v = 0)) else some false := by
 intro r
 induction r with
 | nil =>
  intro p k hn _ hv _ hk
  obtain ⟨k, rfl⟩ : ∃ j, k = j + 1 := ⟨k - 1, by omega⟩
  have c1 : ¬ (p.length : Int) < (n : Int) := by simp at hn; omega
  rw [List.nil_append] at hv ⊢
  simp only [QO.l3, QO.g3, c1, and_self, and_true, true_and, decide_true, decide_false, if_true, if_false, mid_get, mid_set, mid_getn, mid_setn, bt_mid, Option.bind_some, Bool.not_true, Bool.not_false, Bool.false_eq_true, Bool.true_eq_false, beq_self_eq_true, bne_self_eq_false, Int.toNat_natCast, hv, List.all_nil]
  rfl
 | cons m r ih =>
  intro p k hn hm hv hl hk
  simp only [List.length_cons] at hn hk
  obtain ⟨k, rfl⟩ : ∃ j, k = j + 1 := ⟨k - 1, by omega⟩
  rw [List.cons_append] at hv ⊢
  have hln := mid_len p (r ++ rest) m
  have hb := movB_iff (hm m (by simp))
  have c0 : (0 : Int) ≤ (p.length : Int) := by omega
  have c1 : (p.length : Int) < ((p ++ m :: (r ++ rest)).length : Int) := by omega
  have c2 : (p.length : Int) < (n : Int) := by omega
  have cw := w64 (n := (p.length : Int) + 1) (by omega) (by omega)
  have w1 := w64 (n := m.1 + 30000) (by omega) (by omega)
  have i := ih (p ++ [m]) k (by simp; omega) (fun x hx => hm x (by simp [hx])) (by rw [mid_snoc]; exact hv) hl (by omega)
  rw [mid_snoc, snoc_len] at i
  simp only [QO.l3, QO.g3, c0, c1, c2, cw, and_self, and_true, true_and, decide_true, decide_false, if_true, if_false, mid_get, mid_set, mid_getn, mid_setn, bt_mid, Option.bind_some, Bool.not_true, Bool.not_false, Bool.false_eq_true, Bool.true_eq_false, beq_self_eq_true, bne_self_eq_false, Int.toNat_natCast, w1, ba_beq, List.all_cons]
  by_cases e : m.2.1 = z
  ·by_cases q : t < m.1 + 30000
   ·simp [e, q]
   ·simp only [e, q, and_self, and_true, true_and, decide_true, decide_false, if_true, if_false, mid_get, mid_set, mid_getn, mid_setn, bt_mid, Option.bind_some, Bool.not_true, Bool.not_false, Bool.false_eq_true, Bool.true_eq_false, beq_self_eq_true, bne_self_eq_false, Int.toNat_natCast, Bool.and_false]
    exact i
  ·simp only [e, and_self, and_true, true_and, decide_true, decide_false, if_true, if_false, mid_get, mid_set, mid_getn, mid_setn, bt_mid, Option.bind_some, Bool.not_true, Bool.not_false, Bool.false_eq_true, Bool.true_eq_false, beq_self_eq_true, bne_self_eq_false, Int.toNat_natCast, Bool.false_and]
   exact i
theorem QbL (xs : List Mov) (z : ByteArray) {t : Int} (ht : 0 ≤ t ∧ t ≤ 1000000000) (hs : SrtM xs) (h : ∀ m ∈ xs, movB m = true) (hl : xs.length ≤ 1000000) : QO.f xs z t = some (clrB xs z t) := by
 have hu := upN_le t xs
 have hpl : (xs.take (upN t xs)).length = upN t xs := by rw [List.length_take]; omega
 have hin : ∀ m ∈ xs.take (upN t xs), movB m = true := fun m hm => h m (List.mem_of_mem_take hm)
 have hsp := QbH (xs.take (upN t xs)) (xs.drop (upN t xs)) z hin (by omega)
 rw [List.take_append_drop, hpl, ← peopT_up hs] at hsp
 have := Qcy z t ht (xs.drop (upN t xs)) (upN t xs) (peopT xs z t) (xs.take (upN t xs)) [] NN (by rw [hpl]; simp) hin (by rw [List.nil_append, List.take_append_drop]; exact hsp) (by omega) (NN_lt (by omega))
 rw [List.nil_append, List.take_append_drop] at this
 unfold QO.f QO.fn QO.top clrB
 rw [QcK xs t hl, Option.bind_some, near_up hs]
 refine this.trans ?_
 cases (xs.take (upN t xs)).all (fun m => !(decide (m.2.1 = z) && decide (t < m.1 + 30000))) <;> rfl
end Go.Pl

namespace Go.Pl
open Go.Ev
set_option linter.unusedVariables false
set_option linter.unusedSimpArgs false
def ltW (a b : ByteArray) : Bool := Op.bytesLess a.toList b.toList
theorem lessL_trans : ∀ (x y z : List UInt8), Op.bytesLess x y = true → Op.bytesLess y z = true → Op.bytesLess x z = true := by
 intro x
 induction x with
 | nil =>
  intro y z h1 h2
  cases z with
  | nil => cases y <;> simp [Op.bytesLess] at h2
  | cons c z => rfl
 | cons a x ih =>
  intro y z h1 h2
  cases y with
  | nil => simp [Op.bytesLess] at h1
  | cons b y =>
   cases z with
   | nil => simp [Op.bytesLess] at h2
   | cons c z =>
    simp only [Op.bytesLess, Bool.or_eq_true, Bool.and_eq_true, decide_eq_true_eq, beq_iff_eq, UInt8.lt_iff_toNat_lt] at h1 h2 ⊢
    rcases h1 with h1 | ⟨rfl, h1⟩
    ·rcases h2 with h2 | ⟨rfl, h2⟩
     ·left; omega
     ·left; exact h1
    ·rcases h2 with h2 | ⟨rfl, h2⟩
     ·left; exact h2
     ·right; exact ⟨rfl, ih y z h1 h2⟩
theorem lessL_irr : ∀ (x : List UInt8), Op.bytesLess x x = false := by
 intro x
 induction x with
 | nil => rfl
 | cons a x ih => simp [Op.bytesLess, ih]
theorem lessL_tot : ∀ (x y : List UInt8), Op.bytesLess x y = true ∨ x = y ∨ Op.bytesLess y x = true := by
 intro x
 induction x with
 | nil => intro y; cases y; exact .inr (.inl rfl); exact .inl rfl
 | cons a x ih =>
  intro y
  cases y with
  | nil => exact .inr (.inr rfl)
  | cons b y =>
   simp only [Op.bytesLess, Bool.or_eq_true, Bool.and_eq_true, decide_eq_true_eq, beq_iff_eq, UInt8.lt_iff_toNat_lt, List.cons.injEq]
   by_cases h : a = b
   ·subst h
    rcases ih y with h | h | h
    ·exact .inl (.inr ⟨rfl, h⟩)
    ·exact .inr (.inl ⟨rfl, h⟩)
    ·exact .inr (.inr (.inr ⟨rfl, h⟩))
   ·have h' : a.toNat ≠ b.toNat := fun e => h (UInt8.toNat_inj.1 e)
    rcases Nat.lt_or_gt_of_ne h' with h | h
    ·exact .inl (.inl h)
    ·exact .inr (.inr (.inl h))
theorem ltW_trans {a b c : ByteArray} (h1 : ltW a b = true) (h2 : ltW b c = true) : ltW a c = true := lessL_trans _ _ _ h1 h2
theorem ltW_irr (a : ByteArray) : ltW a a = false := lessL_irr _
theorem ltW_ne {a b : ByteArray} (h : ltW a b = true) : a ≠ b := fun e => by subst e; rw [ltW_irr] at h; cases h
theorem ltW_asym {a b : ByteArray} (h : ltW a b = true) : ltW b a = false := by
 cases h2 : ltW b a
 ·rfl
 ·exact absurd (ltW_trans h h2) (by rw [ltW_irr]; simp)
theorem ltW_tot (a b : ByteArray) : ltW a b = true ∨ a = b ∨ ltW b a = true := by
 rcases lessL_tot a.toList b.toList with h | h | h
 ·exact .inl h
 ·exact .inr (.inl (ba_toList.1 h))
 ·exact .inr (.inr h)
theorem ltW_not {a b : ByteArray} (h1 : ltW a b = false) (h2 : a ≠ b) : ltW b a = true := by
 rcases ltW_tot a b with h | h | h
 ·rw [h1] at h; cases h
 ·exact absurd h h2
 ·exact h
end Go.Pl

namespace Go.Pl
open Go.Ev
set_option linter.unusedVariables false
set_option linter.unusedSimpArgs false
def SrtW (xs : List ByteArray) : Prop := xs.Pairwise fun a b => ltW a b = true
def insW (w : ByteArray) : List ByteArray → List ByteArray
 | [] => [w]
 | a :: r => if ltW a w = true then a :: insW w r else if a = w then a :: r else w :: a :: r
theorem insW_mid {w : ByteArray} {r : List ByteArray} : ∀ {p : List ByteArray}, (∀ x ∈ p, ltW x w = true) → insW w (p ++ r) = p ++ insW w r := by
 intro p
 induction p with
 | nil => intro _; rfl
 | cons a p ih => intro h; simp only [List.cons_append, insW, h a (by simp), if_true]; rw [ih fun x hx => h x (by simp [hx])]
theorem insW_up {w : ByteArray} {r : List ByteArray} (h : ∀ x ∈ r, ltW w x = true) : insW w r = w :: r := by
 cases r with
 | nil => rfl
 | cons a r =>
  have h1 := h a (by simp)
  simp only [insW, ltW_asym h1, Bool.false_eq_true, if_false]
  rw [if_neg fun e => ltW_ne h1 e.symm]
theorem insW_here {w : ByteArray} {r : List ByteArray} : insW w (w :: r) = w :: r := by simp [insW, ltW_irr]
theorem mem_insW {w x : ByteArray} : ∀ {xs : List ByteArray}, x ∈ insW w xs ↔ x = w ∨ x ∈ xs := by
 intro xs
 induction xs with
 | nil => simp [insW]
 | cons a r ih =>
  simp only [insW]
  split
  ·simp only [List.mem_cons, ih]
   constructor
   ·rintro (h | h | h) <;> simp [h]
   ·rintro (h | h | h) <;> simp [h]
  ·split
   ·rename_i h; subst h; simp
   ·simp
theorem insW_srt {w : ByteArray} : ∀ {xs : List ByteArray}, SrtW xs → SrtW (insW w xs) := by
 intro xs
 induction xs with
 | nil => intro _; exact List.pairwise_singleton _ _
 | cons a r ih =>
  intro hs
  obtain ⟨h1, h2⟩ := List.pairwise_cons.1 hs
  simp only [insW]
  split
  ·rename_i h
   refine List.pairwise_cons.2 ⟨fun x hx => ?_, ih h2⟩
   rcases mem_insW.1 hx with rfl | hx
   ·exact h
   ·exact h1 x hx
  ·rename_i h
   split
   ·exact hs
   ·rename_i he
    have hlt : ltW w a = true := ltW_not (by simpa using h) he
    refine List.pairwise_cons.2 ⟨fun x hx => ?_, hs⟩
    rcases List.mem_cons.1 hx with rfl | hx
    ·exact hlt
    ·exact ltW_trans hlt (h1 x hx)
theorem insW_len (w : ByteArray) : ∀ (xs : List ByteArray), (insW w xs).length ≤ xs.length + 1 := by
 intro xs
 induction xs with
 | nil => simp [insW]
 | cons a r ih =>
  simp only [insW]
  split
  ·simp only [List.length_cons]; omega
  ·split <;> simp
theorem room16n {n : Nat} (h : n ≤ 2000000) : n < room 16 := by rw [room16]; omega
def hitW (w : ByteArray) (xs : List ByteArray) (i : Nat) (a : ByteArray) : List ByteArray := if a = w then xs else xs.take i ++ w :: xs.drop i
theorem insW_first (w : ByteArray) : ∀ (r p : List ByteArray), p ++ insW w r = (firstOf (fun a => !ltW a w) p.length r).elim (p ++ r ++ [w]) (fun x => hitW w (p ++ r) x.1 x.2) := by
 intro r
 induction r with
 | nil => intro p; simp [insW, firstOf]
 | cons l r ih =>
  intro p
  have := ih (p ++ [l])
  simp only [insW, firstOf]
  by_cases h : ltW l w = true
  ·simp only [h, if_true, Bool.not_true, Bool.false_eq_true, if_false]
   simp only [List.length_append, List.length_singleton, List.append_assoc, List.singleton_append] at this ⊢
   exact this
  ·simp only [Bool.not_eq_true] at h
   simp only [h, Bool.false_eq_true, if_false, Bool.not_false, if_true, Option.elim, hitW]
   by_cases h2 : l = w <;> simp [h2]
theorem QbI (xs : List ByteArray) (w : ByteArray) (h : xs.length ≤ 1000000) : Qi.f xs w = some (insW w xs) := by
 have := find_loop (E := fun _ => True) (fun a => !ltW a w) (fun i a => some (hitW w xs i a)) (fun p => some (p ++ [w])) (fun k p i => if p = xs then Qi.l2 NN k w i p else (firstOf (fun a => !ltW a w) i.toNat (p.drop i.toNat)).elim (some (p ++ [w])) (fun x => some (hitW w xs x.1 x.2))) ?_ ?_ xs (fun _ _ => trivial) (by omega) NN (NN_lt (by omega))
 ·rw [if_pos rfl] at this
  unfold Qi.f Qi.fn Qi.top
  rw [this]
  have h2 := insW_first w xs []
  simp only [List.nil_append, List.length_nil] at h2
  rw [h2]
  cases firstOf (fun a => !ltW a w) 0 xs <;> rfl
 ·intro k p
  by_cases hp : p = xs
  ·subst hp
   rw [if_pos rfl]
   have q0 : (0 : Int) ≤ (p.length : Int) := by omega
   simp only [Qi.l2, Qi.g2, Int.lt_irrefl, and_self, and_true, true_and, decide_true, decide_false, if_true, if_false, mid_get, mid_set, mid_getn, mid_setn, bt_mid, Option.bind_some, Bool.not_true, Bool.not_false, Bool.false_eq_true, Bool.true_eq_false, beq_self_eq_true, bne_self_eq_false, Int.toNat_natCast, Int.le_refl, q0, List.take_length, List.drop_length, List.nil_append, List.append_nil]
   rw [if_pos (room16n (by simp; omega)), if_pos (room16n (by simp; omega)), if_pos (room16n (by simp; omega))]
  ·rw [if_neg hp]; simp [firstOf]
 ·intro k p l r _ c0 c1 c2 cw
  by_cases hp : p ++ l :: r = xs
  ·rw [if_pos hp, if_pos hp, hp]
   have c1' : (p.length : Int) < (xs.length : Int) := by rw [← hp]; exact c1
   have g : ∀ z, xs.getD p.length z = l := fun z => by rw [← hp, mid_getn]
   have c3 : (p.length : Int) ≤ (xs.length : Int) := by omega
   simp only [Qi.l2, Qi.g2, c0, c1', c3, cw, and_self, and_true, true_and, decide_true, decide_false, if_true, if_false, mid_get, mid_set, mid_getn, mid_setn, bt_mid, Option.bind_some, Bool.not_true, Bool.not_false, Bool.false_eq_true, Bool.true_eq_false, beq_self_eq_true, bne_self_eq_false, Int.toNat_natCast, g]
   rw [show Op.bytesLess l.toList w.toList = ltW l w from rfl, ba_beq]
   cases h1 : ltW l w
   ·simp only [Bool.false_eq_true, if_false, Bool.not_false, if_true, hitW, decide_eq_true_eq]
    by_cases h2 : l = w
    ·simp only [h2, if_true]
    ·simp only [h2, if_false, List.nil_append]
     rw [if_pos (room16n (by simp; omega)), if_pos (room16n (by simp; omega)), if_pos (room16n (by simp; omega))]
     simp
   ·simp
  ·rw [if_neg hp, if_neg hp]
   have t1 : ((p.length : Int) + 1).toNat = p.length + 1 := by omega
   rw [t1, Int.toNat_natCast, List.drop_left, show p ++ l :: r = (p ++ [l]) ++ r by simp, show p.length + 1 = (p ++ [l]).length by simp, List.drop_left]
   simp only [firstOf]
   by_cases h1 : ltW l w = true
   ·simp only [h1, Bool.not_true, Bool.false_eq_true, if_false, List.length_append, List.length_singleton]
   ·simp only [Bool.not_eq_true] at h1
    simp only [h1, Bool.not_false, if_true, Option.elim]
theorem copy_ins {α : Type} (q s : List α) (e w : α) : (copyL (q ++ s ++ [e]) (q.length + 1) q.length).set q.length w = q ++ w :: s := by
 unfold copyL
 have e1 : (q ++ s ++ [e]).drop q.length = s ++ [e] := by rw [List.append_assoc, List.drop_left]
 have e2 : (q ++ s ++ [e]).length - (q.length + 1) = s.length := by simp; omega
 have e3 : q.length + 1 + min ((q ++ s ++ [e]).length - q.length) ((q ++ s ++ [e]).length - (q.length + 1)) = (q ++ s ++ [e]).length := by simp; omega
 have e4 : ∃ h, (q ++ s ++ [e]).take (q.length + 1) = q ++ [h] := by
  cases s with
  | nil => exact ⟨e, by rw [List.append_nil, List.take_of_length_le (by simp)]⟩
  | cons y s =>
   refine ⟨y, ?_⟩
   rw [show q ++ y :: s ++ [e] = (q ++ [y]) ++ (s ++ [e]) by simp, show q.length + 1 = (q ++ [y]).length by simp, List.take_left]
 obtain ⟨h, e4⟩ := e4
 rw [e3, e2, e1, e4, List.drop_length, List.take_left]
 simp
theorem copy_len2 {α : Type} (q s : List α) (e : α) : (copyL (q ++ s ++ [e]) (q.length + 1) q.length).length = q.length + s.length + 1 := by
 have := congrArg List.length (copy_ins q s e e)
 simp only [List.length_set, List.length_append, List.length_cons] at this
 omega
theorem putWord_l (w : ByteArray) : ∀ (n : Nat) (q s : List ByteArray) (k : Nat), q.length = n → SrtW (q ++ s) → (∀ y ∈ s, ltW w y = true) → (q ++ s).length ≤ 1000000 → n < k →
  Q4.l2 NN k w (n : Int) (q ++ s) = some (insW w (q ++ s)) := by
 intro n
 induction n with
 | zero =>
  intro q s k hq hs hu hl hk
  obtain ⟨k, rfl⟩ : ∃ j, k = j + 1 := ⟨k - 1, by omega⟩
  obtain rfl := List.eq_nil_of_length_eq_zero hq
  simp only [List.nil_append] at hl ⊢
  have w1 := w64 (n := ((0 : Nat) : Int) + 1) (by omega) (by omega)
  have hc := copy_ins [] s ⟨#[]⟩ w
  have hcl := copy_len2 [] s (⟨#[]⟩ : ByteArray)
  simp only [List.nil_append, List.length_nil, Nat.zero_add] at hc hcl
  have n1 : ¬ (0 : Int) < ((0 : Nat) : Int) := by omega
  have n2 : (0 : Int) ≤ ((0 : Nat) : Int) := by omega
  have n3 : (0 : Int) ≤ ((0 : Nat) : Int) + 1 := by omega
  have n4 : ((0 : Nat) : Int) + 1 ≤ ((s ++ [(⟨#[]⟩ : ByteArray)]).length : Int) := by simp; omega
  have n5 : ((0 : Nat) : Int) ≤ ((s ++ [(⟨#[]⟩ : ByteArray)]).length : Int) := by omega
  have n6 : ((0 : Nat) : Int) < ((copyL (s ++ [(⟨#[]⟩ : ByteArray)]) 1 0).length : Int) := by rw [hcl]; omega
  have t1 : (((0 : Nat) : Int) + 1).toNat = 1 := rfl
  have hr := room16n (n := s.length + [(⟨#[]⟩ : ByteArray)].length) (by simp; omega)
  simp only [Q4.l2, Q4.g2, n1, n2, n3, n4, n5, n6, w1, t1, hr, and_self, and_true, true_and, decide_true, decide_false, if_true, if_false, mid_get, mid_set, mid_getn, mid_setn, bt_mid, Option.bind_some, Bool.not_true, Bool.not_false, Bool.false_eq_true, Bool.true_eq_false, beq_self_eq_true, bne_self_eq_false, Int.toNat_natCast]
  rw [hc, insW_up hu]
 | succ n ih =>
  intro q s k hq hs hu hl hk
  obtain ⟨k, rfl⟩ : ∃ j, k = j + 1 := ⟨k - 1, by omega⟩
  obtain ⟨q', x, rfl⟩ : ∃ q' x, q = q' ++ [x] := by
   rcases List.eq_nil_or_concat q with h | ⟨q', x, h⟩
   ·rw [h] at hq; simp at hq
   ·exact ⟨q', x, by rw [h]; simp⟩
  have hq' : q'.length = n := by simpa using hq
  have hll : q'.length + s.length + 1 ≤ 1000000 := by simpa [Nat.add_assoc, Nat.add_comm, Nat.add_left_comm] using hl
  have w1 := w64 (n := ((n + 1 : Nat) : Int) - 1) (by omega) (by omega)
  have w2 := w64 (n := ((n + 1 : Nat) : Int) + 1) (by omega) (by omega)
  have n1 : (0 : Int) < ((n + 1 : Nat) : Int) := by omega
  have n2 : (0 : Int) ≤ ((n + 1 : Nat) : Int) - 1 := by omega
  have n3 : ((n + 1 : Nat) : Int) - 1 < ((q' ++ [x] ++ s).length : Int) := by simp; omega
  have t1 : (((n + 1 : Nat) : Int) - 1).toNat = q'.length := by omega
  have g : ∀ z, (q' ++ [x] ++ s).getD q'.length z = x := fun z => by rw [List.append_assoc, List.singleton_append, mid_getn]
  have e1 : ((n + 1 : Nat) : Int) - 1 = (n : Int) := by omega
  simp only [Q4.l2, Q4.g2, n1, n2, n3, w1, t1, g, and_self, and_true, true_and, decide_true, decide_false, if_true, if_false, mid_get, mid_set, mid_getn, mid_setn, bt_mid, Option.bind_some, Bool.not_true, Bool.not_false, Bool.false_eq_true, Bool.true_eq_false, beq_self_eq_true, bne_self_eq_false, Int.toNat_natCast]
  rw [show Op.bytesLess x.toList w.toList = ltW x w from rfl, ba_beq]
  have hs' : SrtW (q' ++ x :: s) := by simpa using hs
  obtain ⟨p1, p2, p3⟩ := List.pairwise_append.1 hs'
  have hbelow : ∀ y ∈ q', ltW y x = true := fun y hy => p3 y hy x (by simp)
  rcases ltW_tot x w with h | h | h
  ·have hne := ltW_ne h
   simp only [h, hne, decide_false, Bool.or_false, Bool.not_true, Bool.false_eq_true, if_false]
   have hc := copy_ins (q' ++ [x]) s ⟨#[]⟩ w
   have hcl := copy_len2 (q' ++ [x]) s (⟨#[]⟩ : ByteArray)
   have hqn : (q' ++ [x]).length = n + 1 := by simp [hq']
   rw [hqn] at hc hcl
   have n4 : (0 : Int) ≤ ((n + 1 : Nat) : Int) + 1 := by omega
   have n5 : ((n + 1 : Nat) : Int) + 1 ≤ ((q' ++ [x] ++ s ++ [(⟨#[]⟩ : ByteArray)]).length : Int) := by simp; omega
   have n6 : (0 : Int) ≤ ((n + 1 : Nat) : Int) := by omega
   have n7 : ((n + 1 : Nat) : Int) ≤ ((q' ++ [x] ++ s ++ [(⟨#[]⟩ : ByteArray)]).length : Int) := by omega
   have t2 : (((n + 1 : Nat) : Int) + 1).toNat = n + 1 + 1 := by omega
   have t3 : ((n + 1 : Nat) : Int).toNat = n + 1 := by omega
   have n8 : ((n + 1 : Nat) : Int) < ((copyL (q' ++ [x] ++ s ++ [(⟨#[]⟩ : ByteArray)]) (n + 1 + 1) (n + 1)).length : Int) := by rw [hcl]; omega
   have hr := room16n (n := (q' ++ [x] ++ s).length + [(⟨#[]⟩ : ByteArray)].length) (by simp; omega)
   simp only [n4, n5, n6, n7, n8, w2, t2, t3, hr, and_self, if_true]
   rw [hc, insW_mid (p := q' ++ [x]) (r := s) (fun y hy => ?_), insW_up hu]
   rcases List.mem_append.1 hy with hy | hy
   ·exact ltW_trans (hbelow y hy) h
   ·rw [List.mem_singleton.1 hy]; exact h
  ·subst h
   simp only [decide_true, Bool.or_true, Bool.not_true, Bool.false_eq_true, if_false, if_true]
   rw [show q' ++ [x] ++ s = q' ++ x :: s by simp, insW_mid hbelow, insW_here]
  ·have hne : ¬ x = w := fun e => ltW_ne h e.symm
   simp only [ltW_asym h, hne, decide_false, Bool.or_false, Bool.not_false, if_true]
   rw [e1, show q' ++ [x] ++ s = q' ++ (x :: s) by simp]
   refine ih q' (x :: s) k hq' hs' (fun y hy => ?_) (by simpa [Nat.add_assoc] using hl) (by omega)
   rcases List.mem_cons.1 hy with rfl | hy
   ·exact h
   ·exact hu y hy
theorem QbU (xs : List ByteArray) (w : ByteArray) (hs : SrtW xs) (h : xs.length ≤ 1000000) : Q4.f xs w = some (insW w xs) := by
 have := putWord_l w xs.length xs [] NN rfl (by simpa using hs) (by simp) (by simpa using h) (NN_lt (by omega))
 rw [List.append_nil] at this
 exact this
end Go.Pl

namespace Go.Pl
open Go.Ev
set_option linter.unusedVariables false
set_option linter.unusedSimpArgs false
theorem room32m {n : Nat} (h : n ≤ 2000000) : n < room 32 := by rw [room32]; omega
def amR (xs : List Mov) (m : Mov) : List Mov × Int := if movesB xs = true then (if xs.length = 40 then ([], 3) else if movesB (xs ++ [m]) = true then (xs ++ [m], 0) else ([], 5)) else ([], 1)
theorem AddMove_both (xs : List Mov) (m : Mov) (h1 : xs.length ≤ 1000000) (h2 : ∀ m ∈ xs, Sz m.2.1) (h3 : Sz m.2.1) : Qan.f xs m = some (amR xs m) ∧ Qak.f xs m = some (amR xs m) := by
 have hz : ∀ y ∈ xs ++ [m], Sz y.2.1 := fun y hy => by
  rcases List.mem_append.1 hy with h | h
  ·exact h2 y h
  ·rw [List.mem_singleton.1 h]; exact h3
 unfold Qan.f Qan.fn Qan.top Qak.f Qak.fn Qak.top amR
 rw [Qbz xs h1 h2, Qby xs h1 h2]
 cases hb : movesB xs
 ·exact ⟨rfl, rfl⟩
 have hl := (movesB_iff hb).1
 simp only [and_self, and_true, true_and, decide_true, decide_false, if_true, if_false, mid_get, mid_set, mid_getn, mid_setn, bt_mid, Option.bind_some, Bool.not_true, Bool.not_false, Bool.false_eq_true, Bool.true_eq_false, beq_self_eq_true, bne_self_eq_false, Int.toNat_natCast]
 by_cases h40 : xs.length = 40
 ·have e : ((xs.length : Int) == 40) = true := by rw [h40]; rfl
  simp [e, h40]
 have e : ((xs.length : Int) == 40) = false := by simpa using (show ¬ (xs.length : Int) = 40 by omega)
 have r1 : ([] : List Mov).length + xs.length < room 32 := room32m (by simp; omega)
 have r2 : (([] : List Mov) ++ xs).length + [m].length < room 32 := room32m (by simp; omega)
 have r3 : (xs ++ [m]).length ≤ 1000000 := by simp; omega
 rw [List.nil_append] at r2
 simp only [List.nil_append, e, h40, r1, r2, and_self, and_true, true_and, decide_true, decide_false, if_true, if_false, mid_get, mid_set, mid_getn, mid_setn, bt_mid, Option.bind_some, Bool.not_true, Bool.not_false, Bool.false_eq_true, Bool.true_eq_false, beq_self_eq_true, bne_self_eq_false, Int.toNat_natCast]
 rw [Qbz _ r3 hz, Qby _ r3 hz]
 cases movesB (xs ++ [m]) <;> exact ⟨rfl, rfl⟩
def icR (xs : List Mov) (z : ByteArray) (t : Int) : Bool × Int := if movesB xs = true then (if wordB z = true then (if inB t 0 10000000 = true then (clrB xs z t, 0) else (false, 2)) else (false, 1)) else (false, 1)
theorem IsClear_both (xs : List Mov) (z : ByteArray) (t : Int) (h1 : xs.length ≤ 1000000) (h2 : ∀ m ∈ xs, Sz m.2.1) (h3 : Sz z) : QaZ.f xs z t = some (icR xs z t) ∧ QaS.f xs z t = some (icR xs z t) := by
 unfold QaZ.f QaZ.fn QaZ.top Qa4.f Qa4.fn Qa4.top QaS.f QaS.fn QaS.top QaG.f QaG.fn QaG.top icR
 rw [Qbz xs h1 h2, Qby xs h1 h2, Qbv z h3, Qbu z h3, Qbo, QbA]
 cases hb : movesB xs
 ·exact ⟨rfl, rfl⟩
 cases hw : wordB z
 ·exact ⟨rfl, rfl⟩
 cases ht : inB t 0 10000000
 ·exact ⟨rfl, rfl⟩
 obtain ⟨m1, m2, m3⟩ := movesB_iff hb
 have ht' := inB_iff.1 ht
 have e : ((0 : Int) != 0) = false := rfl
 simp only [e, and_self, and_true, true_and, decide_true, decide_false, if_true, if_false, mid_get, mid_set, mid_getn, mid_setn, bt_mid, Option.bind_some, Bool.not_true, Bool.not_false, Bool.false_eq_true, Bool.true_eq_false, beq_self_eq_true, bne_self_eq_false, Int.toNat_natCast]
 rw [QbL xs z (by omega) m2 m3 h1, QbT xs z (by omega) m3 h1]
 exact ⟨rfl, rfl⟩
def insRv (x : Sig) : List Sig → List Sig → List Sig
 | [], q => x :: q
 | y :: p, q => if x.1 < y.1 then insRv x p (y :: q) else (y :: p).reverse ++ x :: q
def insS (xs : List Sig) (x : Sig) : List Sig := insRv x xs.reverse []
def fin5 (xs : List Sig) : List Sig × Int := if sigsB xs = true then (xs, 0) else ([], 5)
def asR (xs : List Sig) (x : Sig) : List Sig × Int := if sigsB xs = true then (if xs.length = 40 then ([], 3) else fin5 (insS xs x)) else ([], 1)
theorem QcQ (xs : List Sig) (h : xs.length ≤ 1000000) : ((Qk.f xs).bind fun r => if (!r) = true then some ([], 5) else some (xs, 0)) = some (fin5 xs) := by
 rw [Qbr xs h]
 unfold fin5
 cases sigsB xs <;> rfl
theorem QcR (xs : List Sig) (h : xs.length ≤ 1000000) : ((Qm.f xs).bind fun r => if (!r) = true then some ([], 5) else some (xs, 0)) = some (fin5 xs) := by
 rw [Qbs xs h]
 unfold fin5
 cases sigsB xs <;> rfl
theorem Qci (x : Sig) : ∀ (p q : List Sig) (k : Nat), p.length + q.length ≤ 100000 → p.length < k → Qf.l7 NN k p.length (p.reverse ++ x :: q) = some (fin5 (insRv x p q)) := by
 intro p
 induction p with
 | nil =>
  intro q k hl hk
  obtain ⟨k, rfl⟩ : ∃ j, k = j + 1 := ⟨k - 1, by omega⟩
  have n0 : ¬ (0 : Int) < (([] : List Sig).length : Int) := by simp
  simp only [Qf.l7, Qf.g7, n0, and_self, and_true, true_and, decide_true, decide_false, if_true, if_false, mid_get, mid_set, mid_getn, mid_setn, bt_mid, Option.bind_some, Bool.not_true, Bool.not_false, Bool.false_eq_true, Bool.true_eq_false, beq_self_eq_true, bne_self_eq_false, Int.toNat_natCast, List.reverse_nil, List.nil_append, insRv]
  exact QcQ _ (by simp at hl ⊢; omega)
 | cons y p ih =>
  intro q k hl hk
  simp only [List.length_cons] at hl hk
  obtain ⟨k, rfl⟩ : ∃ j, k = j + 1 := ⟨k - 1, by omega⟩
  have hr : (y :: p).reverse ++ x :: q = p.reverse ++ y :: x :: q := by simp
  have hpl : p.reverse.length = p.length := List.length_reverse
  have hc : ((y :: p).length : Int) = (p.length : Int) + 1 := by simp
  have w := w64 (n := (p.length : Int) + 1 - 1) (by omega) (by omega)
  rw [Int.add_sub_cancel] at w
  have c0 : (0 : Int) < (p.length : Int) + 1 := by omega
  have c1 : (0 : Int) ≤ (p.length : Int) := by omega
  have c1' : (0 : Int) ≤ (p.length : Int) + 1 := by omega
  have hlen : ((p.reverse ++ y :: x :: q).length : Int) = (p.length : Int) + q.length + 2 := by simp; omega
  have c2 : (p.length : Int) < ((p.reverse ++ y :: x :: q).length : Int) := by omega
  have c3 : (p.length : Int) + 1 < ((p.reverse ++ y :: x :: q).length : Int) := by omega
  have g1 : ∀ z, (p.reverse ++ y :: x :: q).getD p.length z = y := fun z => by
   have := mid_getn p.reverse (x :: q) y z
   rwa [hpl] at this
  have g2 : ∀ z, (p.reverse ++ y :: x :: q).getD ((p.length : Int) + 1).toNat z = x := fun z => by
   have := mid_getn (p.reverse ++ [y]) q x z
   rw [mid_snoc] at this
   rw [show ((p.length : Int) + 1).toNat = (p.reverse ++ [y]).length by simp]
   exact this
  have s1 : (p.reverse ++ y :: x :: q).set p.length x = p.reverse ++ x :: x :: q := by
   have := mid_setn p.reverse (x :: q) y x
   rwa [hpl] at this
  have s2 : (p.reverse ++ x :: x :: q).set ((p.length : Int) + 1).toNat y = p.reverse ++ x :: y :: q := by
   have := mid_setn (p.reverse ++ [x]) q x y
   rw [mid_snoc, mid_snoc] at this
   rw [show ((p.length : Int) + 1).toNat = (p.reverse ++ [x]).length by simp]
   exact this
  have c4 : (p.length : Int) + 1 < ((p.reverse ++ x :: x :: q).length : Int) := by simp; omega
  rw [hr, hc]
  simp only [Qf.l7, Qf.g7, c0, Int.add_sub_cancel, w, c1, c1', c2, c3, g1, g2, s1, c4, s2, and_self, and_true, true_and, decide_true, decide_false, if_true, if_false, mid_get, mid_set, mid_getn, mid_setn, bt_mid, Option.bind_some, Bool.not_true, Bool.not_false, Bool.false_eq_true, Bool.true_eq_false, beq_self_eq_true, bne_self_eq_false, Int.toNat_natCast, insRv]
  by_cases h : x.1 < y.1
  ·simp only [h, and_self, and_true, true_and, decide_true, decide_false, if_true, if_false, mid_get, mid_set, mid_getn, mid_setn, bt_mid, Option.bind_some, Bool.not_true, Bool.not_false, Bool.false_eq_true, Bool.true_eq_false, beq_self_eq_true, bne_self_eq_false, Int.toNat_natCast]
   exact ih (y :: q) k (by simp; omega) (by omega)
  ·simp only [h, and_self, and_true, true_and, decide_true, decide_false, if_true, if_false, mid_get, mid_set, mid_getn, mid_setn, bt_mid, Option.bind_some, Bool.not_true, Bool.not_false, Bool.false_eq_true, Bool.true_eq_false, beq_self_eq_true, bne_self_eq_false, Int.toNat_natCast]
   rw [← hr]
   exact QcQ _ (by simp; omega)
theorem Qcj (x : Sig) : ∀ (p q : List Sig) (k : Nat), p.length + q.length ≤ 100000 → p.length < k → Qg.l6 NN k (p.reverse ++ q) p.length x = some (fin5 (insRv x p q)) := by
 intro p
 induction p with
 | nil =>
  intro q k hl hk
  obtain ⟨k, rfl⟩ : ∃ j, k = j + 1 := ⟨k - 1, by omega⟩
  simp only [List.length_nil] at hl
  show Qg.l6 NN (k + 1) q 0 x = some (fin5 (x :: q))
  have n2 : (0 : Int) ≤ (q.length : Int) := by omega
  have r1 : ([] : List Sig).length + [x].length < room 16 := room16n (by simp)
  have r2 : [x].length + q.length < room 16 := room16n (by simp; omega)
  have r0 : ([] : List Sig).length + ([] : List Sig).length < room 16 := room16n (by simp)
  simp only [Qg.l6, Qg.g6, Int.lt_irrefl, Int.le_refl, n2, and_self, and_true, true_and, decide_true, decide_false, if_true, if_false, mid_get, mid_set, mid_getn, mid_setn, bt_mid, Option.bind_some, Bool.not_true, Bool.not_false, Bool.false_eq_true, Bool.true_eq_false, beq_self_eq_true, bne_self_eq_false, Int.toNat_natCast, Int.toNat_zero, List.take_zero, List.drop_zero, List.nil_append, r0, r1, r2]
  exact QcR _ (by simp; omega)
 | cons y p ih =>
  intro q k hl hk
  simp only [List.length_cons] at hl hk
  obtain ⟨k, rfl⟩ : ∃ j, k = j + 1 := ⟨k - 1, by omega⟩
  have hr : (y :: p).reverse ++ q = p.reverse ++ y :: q := by simp
  have hpl : p.reverse.length = p.length := List.length_reverse
  have hc : ((y :: p).length : Int) = (p.length : Int) + 1 := by simp
  have w := w64 (n := (p.length : Int) + 1 - 1) (by omega) (by omega)
  rw [Int.add_sub_cancel] at w
  have c0 : (0 : Int) < (p.length : Int) + 1 := by omega
  have c1 : (0 : Int) ≤ (p.length : Int) := by omega
  have c1' : (0 : Int) ≤ (p.length : Int) + 1 := by omega
  have hlen : ((p.reverse ++ y :: q).length : Int) = (p.length : Int) + q.length + 1 := by simp; omega
  have c2 : (p.length : Int) < ((p.reverse ++ y :: q).length : Int) := by omega
  have c3 : (p.length : Int) + 1 ≤ ((p.reverse ++ y :: q).length : Int) := by omega
  have g1 : ∀ z, (p.reverse ++ y :: q).getD p.length z = y := fun z => by
   have := mid_getn p.reverse q y z
   rwa [hpl] at this
  have tk : (p.reverse ++ y :: q).take ((p.length : Int) + 1).toNat = p.reverse ++ [y] := by
   have t := List.take_left (l₁ := p.reverse ++ [y]) (l₂ := q)
   rw [mid_snoc] at t
   rw [show ((p.length : Int) + 1).toNat = (p.reverse ++ [y]).length by simp]
   exact t
  have dr : (p.reverse ++ y :: q).drop ((p.length : Int) + 1).toNat = q := by
   have t := List.drop_left (l₁ := p.reverse ++ [y]) (l₂ := q)
   rw [mid_snoc] at t
   rw [show ((p.length : Int) + 1).toNat = (p.reverse ++ [y]).length by simp]
   exact t
  rw [hr, hc]
  simp only [Qg.l6, Qg.g6, c0, Int.add_sub_cancel, w, c1, c1', c2, c3, g1, and_self, and_true, true_and, decide_true, decide_false, if_true, if_false, mid_get, mid_set, mid_getn, mid_setn, bt_mid, Option.bind_some, Bool.not_true, Bool.not_false, Bool.false_eq_true, Bool.true_eq_false, beq_self_eq_true, bne_self_eq_false, Int.toNat_natCast, insRv]
  by_cases h : x.1 < y.1
  ·simp only [h, and_self, and_true, true_and, decide_true, decide_false, if_true, if_false, mid_get, mid_set, mid_getn, mid_setn, bt_mid, Option.bind_some, Bool.not_true, Bool.not_false, Bool.false_eq_true, Bool.true_eq_false, beq_self_eq_true, bne_self_eq_false, Int.toNat_natCast]
   have := ih (y :: q) k (by simp; omega) (by omega)
   exact this
  ·have r1 : ([] : List Sig).length + (p.reverse ++ [y]).length < room 16 := room16n (by simp; omega)
   have r2 : (p.reverse ++ [y]).length + [x].length < room 16 := room16n (by simp; omega)
   have r3 : ((p.reverse ++ [y]) ++ [x]).length + q.length < room 16 := room16n (by simp; omega)
   simp only [h, tk, dr, r1, r2, r3, List.nil_append, and_self, and_true, true_and, decide_true, decide_false, if_true, if_false, mid_get, mid_set, mid_getn, mid_setn, bt_mid, Option.bind_some, Bool.not_true, Bool.not_false, Bool.false_eq_true, Bool.true_eq_false, beq_self_eq_true, bne_self_eq_false, Int.toNat_natCast]
   have e : (y :: p).reverse ++ x :: q = (p.reverse ++ [y]) ++ [x] ++ q := by simp
   rw [e]
   exact QcR _ (by simp; omega)
theorem AddSignal_both (xs : List Sig) (x : Sig) (h : xs.length ≤ 1000000) : Qg.f xs x = some (asR xs x) ∧ Qf.f xs x = some (asR xs x) := by
 unfold Qg.f Qg.fn Qg.top Qf.f Qf.fn Qf.top asR
 rw [Qbs xs h, Qbr xs h]
 cases hb : sigsB xs
 ·exact ⟨rfl, rfl⟩
 have hl := (sigsB_iff hb).1
 simp only [and_self, and_true, true_and, decide_true, decide_false, if_true, if_false, mid_get, mid_set, mid_getn, mid_setn, bt_mid, Option.bind_some, Bool.not_true, Bool.not_false, Bool.false_eq_true, Bool.true_eq_false, beq_self_eq_true, bne_self_eq_false, Int.toNat_natCast]
 by_cases h40 : xs.length = 40
 ·have e : ((xs.length : Int) == 40) = true := by rw [h40]; rfl
  simp [e, h40]
 have e : ((xs.length : Int) == 40) = false := by simpa using (show ¬ (xs.length : Int) = 40 by omega)
 have r1 : ([] : List Sig).length + xs.length < room 16 := room16n (by simp; omega)
 have r2 : xs.length + [x].length < room 16 := room16n (by simp; omega)
 have a1 := Qcj x xs.reverse [] NN (by simp; omega) (NN_lt (by simp; omega))
 have a2 := Qci x xs.reverse [] NN (by simp; omega) (NN_lt (by simp; omega))
 simp only [List.reverse_reverse, List.append_nil, List.length_reverse] at a1 a2
 have w : IntKind.i64.wrap (((xs ++ [x]).length : Int) - 1) = (xs.length : Int) := by
  rw [show ((xs ++ [x]).length : Int) - 1 = (xs.length : Int) by simp]
  exact w64 (by omega) (by omega)
 refine ⟨?_, ?_⟩
 ·simp only [e, h40, and_self, and_true, true_and, decide_true, decide_false, if_true, if_false, mid_get, mid_set, mid_getn, mid_setn, bt_mid, Option.bind_some, Bool.not_true, Bool.not_false, Bool.false_eq_true, Bool.true_eq_false, beq_self_eq_true, bne_self_eq_false, Int.toNat_natCast]
  exact a1
 ·simp only [e, h40, List.nil_append, r1, r2, w, and_self, and_true, true_and, decide_true, decide_false, if_true, if_false, mid_get, mid_set, mid_getn, mid_setn, bt_mid, Option.bind_some, Bool.not_true, Bool.not_false, Bool.false_eq_true, Bool.true_eq_false, beq_self_eq_true, bne_self_eq_false, Int.toNat_natCast]
  exact a2
end Go.Pl

namespace Go.Pl
open Go.Ev
set_option linter.unusedVariables false
set_option linter.unusedSimpArgs false
def tkT (t : Int) : Int := Int.tdiv t 100
theorem tkT_bd {t : Int} (h : 0 ≤ t ∧ t ≤ 10000000) : 0 ≤ tkT t ∧ tkT t ≤ 100000 := by
 unfold tkT
 rw [Int.tdiv_eq_ediv_of_nonneg h.1]; omega
def firT (l : List Sig) (ms : List Mov) (zs : List ByteArray) (t : Int) : Int := if (mayC (ctlAt l (tkT t)) && zs.all (clrB ms · (tkT t * 100))) = true then tkT t else -1
def firF (l : List Sig) (ms : List Mov) (zs : List ByteArray) (T t : Int) : Int := if tkT t < T then firT l ms zs t else -1
abbrev LF := List Int → List Mov → List ByteArray → Int → List Int → List Sig → Int → Int → Ctl → List Int → Option (List Int)
theorem nn0 : 0 < NN := NN_lt (by omega)
theorem fired_begin (L10 : LF) (times : List Int) (ms : List Mov) (zs : List ByteArray) (last : Int) (o1 : List Int) (b1 : List Sig) (b2 b3 : Int) (b4 : Ctl) (b5 : List Int) (out : List Int) (T : Int) : ∀ (r p : List Sig) (c : Ctl) (ref : List Int) (k : Nat), p.length + r.length ≤ 1000000 → r.length < k → DeadOk c → SrtF T r → (∀ m ∈ r, 0 ≤ m.2 ∧ m.2 ≤ 9) → ref.length ≤ p.length →
    ∃ (p' r' : List Sig) (c' : Ctl) (ref' : List Int), p' ++ r' = p ++ r ∧ SrtF (T + 1) r' ∧ DeadOk c' ∧ ref'.length ≤ p'.length ∧ (∀ t, T ≤ t → atR r' c' T t = atR r c T t) ∧ (∀ m ∈ r', 0 ≤ m.2 ∧ m.2 ≤ 9) ∧
      Qb.l120000001 NN L10 k times ms zs last o1 b1 b2 b3 b4 b5 out (p ++ r) p.length T c ref = Qb.l1000012 NN L10 NN times ms zs last out (p ++ r) p'.length T c' ref' := by
  intro r
  induction r with
  | nil =>
    intro p c ref k _ hk hc _ _ hr
    obtain ⟨k, rfl⟩ : ∃ j, k = j + 1 := ⟨k - 1, by omega⟩
    refine ⟨p, [], c, ref, rfl, trivial, hc, hr, fun _ _ => rfl, by simp, ?_⟩
    simp only [List.append_nil, Qb.l120000001, Qb.g120000001, Int.lt_irrefl, and_self, and_true, true_and, decide_true, decide_false, if_true, if_false, mid_get, mid_set, mid_getn, mid_setn, bt_mid, Option.bind_some, Bool.not_true, Bool.not_false, Bool.false_eq_true, Bool.true_eq_false, beq_self_eq_true, bne_self_eq_false, Int.toNat_natCast]
  | cons m r ih =>
    intro p c ref k hl hk hc hs hm hr
    simp only [List.length_cons] at hl hk
    obtain ⟨k, rfl⟩ : ∃ j, k = j + 1 := ⟨k - 1, by omega⟩
    have hln := mid_len p r m
    have c0 : (0 : Int) ≤ (p.length : Int) := by omega
    have c1 : (p.length : Int) < ((p ++ m :: r).length : Int) := by omega
    have cw := w64 (n := (p.length : Int) + 1) (by omega) (by omega)
    have hs1 := hs.1
    by_cases h : m.1 = T
    · have st : ∀ (c1 : Ctl) (ref1 : List Int), c1 = giveB c m.2 → ref1.length ≤ p.length + 1 → ∃ (p' r' : List Sig) (c' : Ctl) (ref' : List Int), p' ++ r' = p ++ m :: r ∧ SrtF (T + 1) r' ∧ DeadOk c' ∧ ref'.length ≤ p'.length ∧ (∀ t, T ≤ t → atR r' c' T t = atR (m :: r) c T t) ∧ (∀ m ∈ r', 0 ≤ m.2 ∧ m.2 ≤ 9) ∧
          Qb.l120000001 NN L10 k times ms zs last o1 b1 b2 b3 b4 b5 out (p ++ m :: r) ((p.length : Int) + 1) T c1 ref1 = Qb.l1000012 NN L10 NN times ms zs last out (p ++ m :: r) p'.length T c' ref' := by
        intro c1 ref1 e1 hr1
        have i := ih (p ++ [m]) c1 ref1 k (by simp; omega) (by omega) (by rw [e1]; exact give_dead hc _) (by rw [← h]; exact hs.2) (fun x hx => hm x (by simp [hx])) (by simp; omega)
        rw [mid_snoc, snoc_len] at i
        obtain ⟨p', r', c', ref', i1, i2, i3, i4, i5, i6, i7⟩ := i
        refine ⟨p', r', c', ref', i1, i2, i3, i4, fun t ht => ?_, i6, i7⟩
        rw [i5 t ht, e1, show m = (T, m.2) by rw [← h], atR_give T m.2 r c ht]
      have hg := Qbp c m.2 hc (hm m (by simp))
      have e0 : (m.1 == T) = true := by rw [h]; simp
      simp only [Qb.l120000001, Qb.g120000001, c0, c1, cw, e0, hg, and_self, and_true, true_and, decide_true, decide_false, if_true, if_false, mid_get, mid_set, mid_getn, mid_setn, bt_mid, Option.bind_some, Bool.not_true, Bool.not_false, Bool.false_eq_true, Bool.true_eq_false, beq_self_eq_true, bne_self_eq_false, Int.toNat_natCast]
      cases hq : giveC c m.2 with
      | some y =>
        simp only [and_self, and_true, true_and, decide_true, decide_false, if_true, if_false, mid_get, mid_set, mid_getn, mid_setn, bt_mid, Option.bind_some, Bool.not_true, Bool.not_false, Bool.false_eq_true, Bool.true_eq_false, beq_self_eq_true, bne_self_eq_false, Int.toNat_natCast]
        exact st y ref (by unfold giveB; rw [hq]; rfl) (by omega)
      | none =>
        have n5 : ((5 : Int) == 0) = false := rfl
        have hro : ref.length + [(p.length : Int)].length < room 8 := by rw [room8]; simp; omega
        simp only [n5, hro, and_self, and_true, true_and, decide_true, decide_false, if_true, if_false, mid_get, mid_set, mid_getn, mid_setn, bt_mid, Option.bind_some, Bool.not_true, Bool.not_false, Bool.false_eq_true, Bool.true_eq_false, beq_self_eq_true, bne_self_eq_false, Int.toNat_natCast]
        exact st c (ref ++ [(p.length : Int)]) (by unfold giveB; rw [hq]; rfl) (by simp; omega)
    · have e0 : (m.1 == T) = false := by simpa using h
      refine ⟨p, m :: r, c, ref, rfl, ⟨by omega, hs.2⟩, hc, hr, fun _ _ => rfl, hm, ?_⟩
      simp only [Qb.l120000001, Qb.g120000001, c0, c1, e0, and_self, and_true, true_and, decide_true, decide_false, if_true, if_false, mid_get, mid_set, mid_getn, mid_setn, bt_mid, Option.bind_some, Bool.not_true, Bool.not_false, Bool.false_eq_true, Bool.true_eq_false, beq_self_eq_true, bne_self_eq_false, Int.toNat_natCast]
theorem fired_fill (L10 : LF) (l : List Sig) (ms : List Mov) (zs : List ByteArray) (hms : ∀ m ∈ ms, movB m = true) (hml : ms.length ≤ 1000000) (hzl : zs.length ≤ 1000000) (last : Int) (T : Int) (hT : 0 ≤ T ∧ T ≤ 1000000) (hmay : mayC (ctlAt l T) = true) (ls : List Sig) (nx : Int) (c : Ctl) (ref : List Int) : ∀ (r p : List Int) (k : Nat), p.length + r.length ≤ 1000000 → r.length < k → (∀ t ∈ r, 0 ≤ t ∧ t ≤ 10000000) →
  Qb.l14 NN L10 k (p ++ r) ms zs last (p ++ r) (p ++ r).length p.length (p.map (firF l ms zs (T + 1)) ++ r.map (firF l ms zs T)) ls nx T c ref = Qb.l1000019 NN L10 NN (p ++ r) ms zs last ((p ++ r).map (firF l ms zs (T + 1))) ls nx T c ref := by
 intro r
 induction r with
 | nil =>
  intro p k _ hk _
  obtain ⟨k, rfl⟩ : ∃ j, k = j + 1 := ⟨k - 1, by omega⟩
  simp only [List.append_nil, List.map_nil, Qb.l14, Qb.g14, Int.lt_irrefl, and_self, and_true, true_and, decide_true, decide_false, if_true, if_false, mid_get, mid_set, mid_getn, mid_setn, bt_mid, Option.bind_some, Bool.not_true, Bool.not_false, Bool.false_eq_true, Bool.true_eq_false, beq_self_eq_true, bne_self_eq_false, Int.toNat_natCast]
 | cons t r ih =>
  intro p k hl hk ht
  simp only [List.length_cons] at hl hk
  obtain ⟨k, rfl⟩ : ∃ j, k = j + 1 := ⟨k - 1, by omega⟩
  have hln := mid_len p r t
  have htt := ht t (by simp)
  have hb := tkT_bd htt
  have c0 : (0 : Int) ≤ (p.length : Int) := by omega
  have c1 : (p.length : Int) < ((p ++ t :: r).length : Int) := by omega
  have cw := w64 (n := (p.length : Int) + 1) (by omega) (by omega)
  have w1 := w64 (n := Int.tdiv t 100) (by unfold tkT at hb; omega) (by unfold tkT at hb; omega)
  have w2 := w64 (n := T * 100) (by omega) (by omega)
  have i := ih (p ++ [t]) k (by simp; omega) (by omega) (fun x hx => ht x (by simp [hx]))
  rw [mid_snoc, snoc_len] at i
  have cl : (p.length : Int) < ((p.map (firF l ms zs (T + 1)) ++ firF l ms zs T t :: r.map (firF l ms zs T)).length : Int) := by
   rw [mid_len, List.length_map]; omega
  have hpm : ((p.map (firF l ms zs (T + 1))).length : Int) = (p.length : Int) := by rw [List.length_map]
  rw [List.map_append, List.map_singleton, mid_snoc] at i
  simp only [List.map_cons]
  by_cases h : tkT t = T
  ·have e0 : (Int.tdiv t 100 == T) = true := by unfold tkT at h; rw [h]; simp
   simp only [Qb.l14, Qb.g14, c0, c1, cw, w1, w2, e0, and_self, and_true, true_and, decide_true, decide_false, if_true, if_false, mid_get, mid_set, mid_getn, mid_setn, bt_mid, Option.bind_some, Bool.not_true, Bool.not_false, Bool.false_eq_true, Bool.true_eq_false, beq_self_eq_true, bne_self_eq_false, Int.toNat_natCast]
   rw [Qb4 ms zs (by omega) hms hml hzl, Option.bind_some]
   have eF : firF l ms zs (T + 1) t = if zs.all (clrB ms · (T * 100)) = true then T else -1 := by
    unfold firF firT
    rw [h, if_pos (by omega), hmay, Bool.true_and]
   have eN : firF l ms zs T t = -1 := by unfold firF; rw [if_neg (by omega)]
   rw [eF] at i
   by_cases ha : zs.all (clrB ms · (T * 100)) = true
   ·rw [if_pos ha] at i
    rw [if_pos ha, if_pos cl]
    have es : (p.map (firF l ms zs (T + 1)) ++ firF l ms zs T t :: r.map (firF l ms zs T)).set p.length T = p.map (firF l ms zs (T + 1)) ++ T :: r.map (firF l ms zs T) := by
     have := mid_setn (p.map (firF l ms zs (T + 1))) (r.map (firF l ms zs T)) (firF l ms zs T t) T
     rwa [List.length_map] at this
    rw [es]
    exact i
   ·rw [if_neg ha] at i
    rw [if_neg ha, eN]
    exact i
  ·have e0 : (Int.tdiv t 100 == T) = false := by unfold tkT at h; simpa using h
   have eF : firF l ms zs (T + 1) t = firF l ms zs T t := by
    unfold firF
    by_cases q : tkT t < T
    ·rw [if_pos q, if_pos (by omega)]
    ·rw [if_neg q, if_neg (by omega)]
   rw [eF] at i
   simp only [Qb.l14, Qb.g14, c0, c1, cw, w1, e0, and_self, and_true, true_and, decide_true, decide_false, if_true, if_false, mid_get, mid_set, mid_getn, mid_setn, bt_mid, Option.bind_some, Bool.not_true, Bool.not_false, Bool.false_eq_true, Bool.true_eq_false, beq_self_eq_true, bne_self_eq_false, Int.toNat_natCast]
   exact i
theorem fired_main (l : List Sig) (ms : List Mov) (zs : List ByteArray) (hms : ∀ m ∈ ms, movB m = true) (hml : ms.length ≤ 1000000) (hzl : zs.length ≤ 1000000) (hll : l.length ≤ 1000000) (last : Int) (hlast : last ≤ 100000) (times : List Int) (htl : times.length ≤ 1000000) (ht : ∀ t ∈ times, (0 ≤ t ∧ t ≤ 10000000) ∧ tkT t ≤ last) : ∀ (n : Nat) (T : Int) (p r : List Sig) (c : Ctl) (ref : List Int) (k : Nat), 0 ≤ T → T + n = last + 1 → n < k → l = p ++ r → SrtF T r → DeadOk c → ref.length ≤ p.length → (∀ m ∈ r, 0 ≤ m.2 ∧ m.2 ≤ 9) → (∀ t, T ≤ t → atR r c T t = ctlAt l t) →
  Qb.l10 NN k times ms zs last (times.map (firF l ms zs T)) l p.length T c ref = some (times.map (firT l ms zs)) := by
 intro n
 induction n with
 | zero =>
  intro T p r c ref k _ hT hk _ _ _ _ _ _
  obtain ⟨k, rfl⟩ : ∃ j, k = j + 1 := ⟨k - 1, by omega⟩
  have c1 : ¬ T ≤ last := by omega
  simp only [Qb.l10, Qb.g10, c1, and_self, and_true, true_and, decide_true, decide_false, if_true, if_false, mid_get, mid_set, mid_getn, mid_setn, bt_mid, Option.bind_some, Bool.not_true, Bool.not_false, Bool.false_eq_true, Bool.true_eq_false, beq_self_eq_true, bne_self_eq_false, Int.toNat_natCast]
  congr 1
  refine List.map_congr_left fun t h => ?_
  have := (ht t h).2
  unfold firF
  rw [if_pos (by omega)]
 | succ n ih =>
  intro T p r c ref k h0 hT hk hl hs hc hr hm hat
  obtain ⟨k, rfl⟩ : ∃ j, k = j + 1 := ⟨k - 1, by omega⟩
  have c1 : T ≤ last := by omega
  have hll2 := hll
  rw [hl, List.length_append] at hll2
  simp only [Qb.l10, Qb.g10, c1, and_self, and_true, true_and, decide_true, decide_false, if_true, if_false, mid_get, mid_set, mid_getn, mid_setn, bt_mid, Option.bind_some, Bool.not_true, Bool.not_false, Bool.false_eq_true, Bool.true_eq_false, beq_self_eq_true, bne_self_eq_false, Int.toNat_natCast]
  rw [Qb.c1000011 nn0]
  unfold Qb.g1000011
  obtain ⟨p', r', c', ref', b1, b2, b3, b4, b5, b6, b7⟩ := fired_begin (Qb.l10 NN k) times ms zs last (times.map (firF l ms zs T)) l p.length T c ref (times.map (firF l ms zs T)) T r p c ref NN hll2 (NN_lt (by omega)) hc hs hm hr
  rw [← hl] at b7 b1
  rw [b7, Qb.c1000012 nn0]
  unfold Qb.g1000012
  rw [QcI, Option.bind_some]
  have hcT : c' = ctlAt l T := by
   rw [← hat T (Int.le_refl T), ← b5 T (Int.le_refl T), atR_now c' b2]
  have w1 := w64 (n := T + 1) (by omega) (by omega)
  have hend : Qb.l1000019 NN (Qb.l10 NN k) NN times ms zs last (times.map (firF l ms zs (T + 1))) l p'.length T c' ref' = some (times.map (firT l ms zs)) := by
   rw [Qb.c1000019 nn0]
   unfold Qb.g1000019
   rw [Qbp c' 8 b3 (by omega), give_tk]
   simp only [Option.bind_some, w1]
   exact ih (T + 1) p' r' (tkC c') ref' k (by omega) (by omega) (by omega) b1.symm b2 (tk_dead b3) b4 b6 (fun t h => by rw [← atR_step c' b2 h, b5 t (by omega), hat t (by omega)])
  by_cases hmay : mayC c' = true
  ·rw [if_pos hmay]
   have := fired_fill (Qb.l10 NN k) l ms zs hms hml hzl last T (by omega) (by rw [← hcT]; exact hmay) l p'.length c' ref' times [] NN (by simpa using htl) (NN_lt (by omega)) (fun t h => (ht t h).1)
   rw [List.nil_append, List.map_nil, List.nil_append] at this
   refine Eq.trans this ?_
   exact hend
  ·rw [if_neg hmay]
   have e : times.map (firF l ms zs T) = times.map (firF l ms zs (T + 1)) := by
    refine List.map_congr_left fun t h => ?_
    unfold firF
    by_cases q : tkT t < T
    ·rw [if_pos q, if_pos (by omega)]
    ·rw [if_neg q]
     by_cases q2 : tkT t < T + 1
     ·have e3 : tkT t = T := by omega
      rw [if_pos q2]
      unfold firT
      rw [e3, ← hcT]
      simp [hmay]
     ·rw [if_neg q2]
   rw [e]
   exact hend
theorem fired_first (l : List Sig) (ms : List Mov) (zs : List ByteArray) : ∀ (r p : List Int) (last : Int) (k : Nat), p.length + r.length ≤ 1000000 → r.length < k → (∀ t ∈ p, (0 ≤ t ∧ t ≤ 10000000) ∧ tkT t ≤ last) → (∀ t ∈ r, 0 ≤ t ∧ t ≤ 10000000) → 0 ≤ last → last ≤ 100000 →
  ∃ last', 0 ≤ last' ∧ last' ≤ 100000 ∧ (∀ t ∈ p ++ r, (0 ≤ t ∧ t ≤ 10000000) ∧ tkT t ≤ last') ∧ Qb.l4 NN k (p ++ r) l ms zs last (p ++ r) (p ++ r).length p.length (p.map (fun _ => (-1 : Int)) ++ r.map (fun _ => (0 : Int))) = Qb.l10 NN NN (p ++ r) ms zs last' ((p ++ r).map (fun _ => (-1 : Int))) l 0 0 (false, false, false, false, false, 0) [] := by
 intro r
 induction r with
 | nil =>
  intro p last k _ hk hp _ h0 h1
  obtain ⟨k, rfl⟩ : ∃ j, k = j + 1 := ⟨k - 1, by omega⟩
  refine ⟨last, h0, h1, by simpa using hp, ?_⟩
  simp only [List.append_nil, List.map_nil, Qb.l4, Qb.g4, Int.lt_irrefl, and_self, and_true, true_and, decide_true, decide_false, if_true, if_false, mid_get, mid_set, mid_getn, mid_setn, bt_mid, Option.bind_some, Bool.not_true, Bool.not_false, Bool.false_eq_true, Bool.true_eq_false, beq_self_eq_true, bne_self_eq_false, Int.toNat_natCast]
 | cons t r ih =>
  intro p last k hl hk hp hr h0 h1
  simp only [List.length_cons] at hl hk
  obtain ⟨k, rfl⟩ : ∃ j, k = j + 1 := ⟨k - 1, by omega⟩
  have hln := mid_len p r t
  have htt := hr t (by simp)
  have hb := tkT_bd htt
  have c0 : (0 : Int) ≤ (p.length : Int) := by omega
  have c1 : (p.length : Int) < ((p ++ t :: r).length : Int) := by omega
  have cw := w64 (n := (p.length : Int) + 1) (by omega) (by omega)
  have w1 := w64 (n := Int.tdiv t 100) (by unfold tkT at hb; omega) (by unfold tkT at hb; omega)
  have cl : (p.length : Int) < ((p.map (fun _ => (-1 : Int)) ++ (0 : Int) :: r.map (fun _ => (0 : Int))).length : Int) := by
   rw [mid_len, List.length_map]; omega
  have es : (p.map (fun _ => (-1 : Int)) ++ (0 : Int) :: r.map (fun _ => (0 : Int))).set p.length (-1) = p.map (fun _ => (-1 : Int)) ++ (-1 : Int) :: r.map (fun _ => (0 : Int)) := by
   have := mid_setn (p.map (fun _ => (-1 : Int))) (r.map (fun _ => (0 : Int))) (0 : Int) (-1)
   rwa [List.length_map] at this
  have i := ih (p ++ [t]) (if Int.tdiv t 100 > last then Int.tdiv t 100 else last) k (by simp; omega) (by omega) (fun x hx => by
   rcases List.mem_append.1 hx with h | h
   ·have := hp x h
    refine ⟨this.1, ?_⟩
    split <;> omega
   ·rw [List.mem_singleton.1 h]
    refine ⟨htt, ?_⟩
    unfold tkT
    split <;> omega) (fun x hx => hr x (by simp [hx])) (by unfold tkT at hb; split <;> omega) (by unfold tkT at hb; split <;> omega)
  rw [mid_snoc, snoc_len, List.map_append, List.map_singleton, mid_snoc] at i
  simp only [List.map_cons, Qb.l4, Qb.g4, c0, c1, cw, w1, cl, and_self, and_true, true_and, decide_true, decide_false, if_true, if_false, mid_get, mid_set, mid_getn, mid_setn, bt_mid, Option.bind_some, Bool.not_true, Bool.not_false, Bool.false_eq_true, Bool.true_eq_false, beq_self_eq_true, bne_self_eq_false, Int.toNat_natCast, es]
  exact i
theorem Qb9 {l : List Sig} (hl : sigsB l = true) {ms : List Mov} (hm : movesB ms = true) (zs : List ByteArray) (hz : zs.length ≤ 1000000) (times : List Int) (htl : times.length ≤ 1000000) (ht : ∀ t ∈ times, 0 ≤ t ∧ t ≤ 10000000) : Qb.f times l ms zs = some (times.map (firT l ms zs)) := by
 obtain ⟨h1, h2, h3⟩ := sigsB_iff hl
 obtain ⟨m1, m2, m3⟩ := movesB_iff hm
 obtain ⟨last, l1, l2, l3, l4⟩ := fired_first l ms zs times [] 0 NN (by simpa using htl) (NN_lt (by omega)) (by simp) ht (by omega) (by omega)
 rw [List.nil_append] at l3
 simp only [List.nil_append, List.map_nil, List.length_nil] at l4
 have hr : (times.length : Int) < room 8 := by rw [room8]; omega
 unfold Qb.f Qb.fn Qb.top
 rw [if_pos ⟨by omega, hr, rfl⟩, Int.toNat_natCast, ← List.map_const']
 refine Eq.trans l4 ?_
 have := fired_main l ms zs m3 (by omega) hz (by omega) last l2 times htl l3 (last + 1).toNat 0 [] l (false, false, false, false, false, 0) [] NN (by omega) (by omega) (NN_lt (by omega)) rfl h2 ctl0_dead (by simp) (fun m h => (h3 m h).2.1) (fun t _ => rfl)
 refine Eq.trans ?_ this
 congr 1
 refine List.map_congr_left fun t h => ?_
 have := tkT_bd (ht t h)
 unfold firF
 rw [if_neg (by omega)]
end Go.Pl

namespace Go.Pl
open Go.Ev
set_option linter.unusedVariables false
noncomputable section
end
end Go.Pl

namespace Go.Pl
open Go.Ev
set_option linter.unusedVariables false
noncomputable section
end
end Go.Pl

namespace Go.Pl
open Go.Ev
set_option linter.unusedVariables false
noncomputable section
end
end Go.Pl

namespace Go.Pl
open Go.Ev
set_option linter.unusedVariables false
noncomputable section
end
end Go.Pl

namespace Go.Pl
open Go.Ev
set_option linter.unusedVariables false
noncomputable section
end
end Go.Pl

namespace Go.Pl
open Go.Ev
set_option linter.unusedVariables false
set_option linter.unusedSimpArgs false
theorem Qck (xs : List Int) (lo hi : Int) (h : xs.length ≤ 140737488355328) : QI.f xs lo hi = some (xs.all (inB · lo hi)) := by
 have := all_loop (E := fun _ => True) (inB · lo hi) (fun _ => some true) (fun k xs i => QI.l2 NN k lo hi xs xs.length i) ?_ ?_ xs (fun _ _ => trivial) h NN (NN_lt (by omega))
 ·unfold QI.f QI.fn QI.top
  refine this.trans ?_
  cases xs.all (inB · lo hi) <;> simp
 ·intro k p
  simp [QI.l2, QI.g2]
 ·intro k p a r _ c0 c1 cw
  simp only [QI.l2, QI.g2, c0, c1, cw, and_self, and_true, true_and, decide_true, decide_false, if_true, if_false, mid_get, mid_set, mid_getn, mid_setn, bt_mid, Option.bind_some, Bool.not_true, Bool.not_false, Bool.false_eq_true, Bool.true_eq_false, beq_self_eq_true, bne_self_eq_false, Int.toNat_natCast, Qbh]
  cases inB a lo hi <;> simp
end Go.Pl

namespace Go.Pl
open Go.Ev
set_option linter.unusedVariables false
noncomputable section
def Qbg.g2 (L2 : List ByteArray → Int → Option Bool) (p : List ByteArray) (i3 : Int) : Option Bool :=
 if (decide ((i3 : Int) < (p.length : Int))) = true then
 if (0 : Int) ≤ i3 ∧ (i3 : Int) < p.length then
 (QW.f (p.getD (i3 : Int).toNat ByteArray.empty)).bind fun r1 =>
 if (!r1) = true then
 some false
 else
 L2 p (IntKind.i64.wrap (i3 + 1))
 else
 none
 else
 some true
def Qbg.l2 (n : Nat) : Nat → List ByteArray → Int → Option Bool
 | 0 => fun _ _ => none
 | k + 1 => Qbg.g2 (Qbg.l2 n k)
def Qbg.top (I2 : List ByteArray → Int → Option Bool) (p : List ByteArray) : Option Bool :=
 I2 p 0
def Qbg.fn (n : Nat) (p : List ByteArray) : Option Bool := Qbg.top (Qbg.l2 n n) p
def Qbg.f (p : List ByteArray) : Option Bool := Qbg.fn NN p
end
end Go.Pl

namespace Go.Pl
open Go.Ev
set_option linter.unusedVariables false
noncomputable section
def Qbf.g2 (L2 : List Int → YE → YD → List ByteArray → Int → Option Int) (p : List Int) (s : List YC) (r : List YA) (q : List ByteArray) (i9 : Int) : Option Int :=
 if (decide ((i9 : Int) < (p.length : Int))) = true then
 if (0 : Int) ≤ i9 ∧ (i9 : Int) < p.length then
 (Qam.f (p.getD (i9 : Int).toNat 0)).bind fun r1 =>
 if (!r1) = true then
 some 1
 else
 L2 p s r q (IntKind.i64.wrap (i9 + 1))
 else
 none
 else if (decide ((20 : Int) < (p.length : Int))) = false then
 (Qm.f s).bind fun r2 =>
 if (!r2) = false then
 (QE.f r).bind fun r3 =>
 if (!r3) = false then
 (Qbg.f q).bind fun r4 =>
 if (!r4) = false then
 if (decide ((60 : Int) < (q.length : Int))) = true then
 some 1
 else
 some 0
 else
 some 1
 else
 some 1
 else
 some 1
 else
 some 1
def Qbf.l2 (n : Nat) : Nat → List Int → YE → YD → List ByteArray → Int → Option Int
 | 0 => fun _ _ _ _ _ => none
 | k + 1 => Qbf.g2 (Qbf.l2 n k)
def Qbf.top (I2 : List Int → YE → YD → List ByteArray → Int → Option Int) (p : List Int) (s : List YC) (r : List YA) (q : List ByteArray) : Option Int :=
 I2 p s r q 0
def Qbf.fn (n : Nat) (p : List Int) (s : List YC) (r : List YA) (q : List ByteArray) : Option Int := Qbf.top (Qbf.l2 n n) p s r q
def Qbf.f (p : List Int) (s : List YC) (r : List YA) (q : List ByteArray) : Option Int := Qbf.fn NN p s r q
end
end Go.Pl

namespace Go.Pl
open Go.Ev
set_option linter.unusedVariables false
noncomputable section
def Qbj.top (p : List Int) (s : List YC) (q : List YA) (r : List ByteArray) : Option (List Int × Int) :=
 (Qbf.f p s q r).bind fun r1 =>
 if ((r1 : Int) != 0) = true then
 some ([], r1)
 else
 (Qe.f p s q r).bind fun r2 =>
 some (r2, 0)
def Qbj.fn (n : Nat) (p : List Int) (s : List YC) (q : List YA) (r : List ByteArray) : Option (List Int × Int) := Qbj.top p s q r
def Qbj.f (p : List Int) (s : List YC) (q : List YA) (r : List ByteArray) : Option (List Int × Int) := Qbj.fn NN p s q r
end
end Go.Pl

namespace Go.Pl
open Go.Ev
set_option linter.unusedVariables false
set_option linter.unusedSimpArgs false
theorem QcS (times : List Int) (l : List Sig) (ms : List Mov) (zs : List ByteArray) (L3 : List Int → List Sig → List Mov → List ByteArray → Int → List Int → Option (List Int)) (hs : SrtM ms) (hms : ∀ m ∈ ms, movB m = true) (hml : ms.length ≤ 1000000) (i T : Int) (hT : 0 ≤ T ∧ T ≤ 1000000) (out : List Int) (ho : out.length ≤ 1000000) : ∀ (r p : List ByteArray) (b : Bool) (k : Nat), zs = p ++ r → p.length + r.length ≤ 1000000 → r.length < k →
  Qe.l9 NN L3 k times l ms zs i T b p.length out = L3 times l ms zs (IntKind.i64.wrap (i + 1)) (out ++ [if (b && r.all (clrB ms · (T * 100))) = true then T else -1]) := by
 intro r
 induction r with
 | nil =>
  intro p b k hz hl hk
  obtain ⟨k, rfl⟩ : ∃ j, k = j + 1 := ⟨k - 1, by omega⟩
  rw [List.append_nil] at hz
  have c1 : ¬ (p.length : Int) < (zs.length : Int) := by rw [hz]; omega
  have h1 : ∀ x : Int, out.length + [x].length < room 8 := fun x => by rw [room8]; simp; omega
  simp only [Qe.l9, Qe.g9, c1, h1, and_self, and_true, true_and, decide_true, decide_false, if_true, if_false, mid_get, mid_set, mid_getn, mid_setn, bt_mid, Option.bind_some, Bool.not_true, Bool.not_false, Bool.false_eq_true, Bool.true_eq_false, beq_self_eq_true, bne_self_eq_false, Int.toNat_natCast, List.all_nil, Bool.and_true]
  cases b <;> rfl
 | cons z r ih =>
  intro p b k hz hl hk
  simp only [List.length_cons] at hl hk
  obtain ⟨k, rfl⟩ : ∃ j, k = j + 1 := ⟨k - 1, by omega⟩
  have c0 : (0 : Int) ≤ (p.length : Int) := by omega
  have c1 : (p.length : Int) < (zs.length : Int) := by rw [hz]; simp; omega
  have cw := w64 (n := (p.length : Int) + 1) (by omega) (by omega)
  have w2 := w64 (n := T * 100) (by omega) (by omega)
  have g : ∀ w, zs.getD p.length w = z := fun w => by rw [hz]; exact mid_getn p r z w
  have i1 := fun b => ih (p ++ [z]) b k (by rw [hz, mid_snoc]) (by simp; omega) (by omega)
  simp only [snoc_len] at i1
  rw [List.all_cons]
  simp only [Qe.l9, Qe.g9, c0, c1, cw, w2, and_self, and_true, true_and, decide_true, decide_false, if_true, if_false, mid_get, mid_set, mid_getn, mid_setn, bt_mid, Option.bind_some, Bool.not_true, Bool.not_false, Bool.false_eq_true, Bool.true_eq_false, beq_self_eq_true, bne_self_eq_false, Int.toNat_natCast, g]
  cases b
  ·simp only [and_self, and_true, true_and, decide_true, decide_false, if_true, if_false, mid_get, mid_set, mid_getn, mid_setn, bt_mid, Option.bind_some, Bool.not_true, Bool.not_false, Bool.false_eq_true, Bool.true_eq_false, beq_self_eq_true, bne_self_eq_false, Int.toNat_natCast, Bool.false_and]
   have := i1 false
   simp only [Bool.false_and, Bool.false_eq_true, if_false] at this
   exact this
  ·simp only [and_self, and_true, true_and, decide_true, decide_false, if_true, if_false, mid_get, mid_set, mid_getn, mid_setn, bt_mid, Option.bind_some, Bool.not_true, Bool.not_false, Bool.false_eq_true, Bool.true_eq_false, beq_self_eq_true, bne_self_eq_false, Int.toNat_natCast]
   rw [QbL ms z (by omega) hs hms hml, Option.bind_some, i1, Bool.true_and]
theorem QbM {l : List Sig} (hl : sigsB l = true) {ms : List Mov} (hm : movesB ms = true) (zs : List ByteArray) (hz : zs.length ≤ 1000000) (times : List Int) (htl : times.length ≤ 1000000) (ht : ∀ t ∈ times, 0 ≤ t ∧ t ≤ 10000000) : Qe.f times l ms zs = some (times.map (firT l ms zs)) := by
 obtain ⟨m1, m2, m3⟩ := movesB_iff hm
 have := (fold_fix (E := fun t : Int => 0 ≤ t ∧ t ≤ 10000000) (fun p (st : List Int) => st = p.map (firT l ms zs)) (fun _ st t => st ++ [firT l ms zs t]) (fun st => some st) (fun k i st => Qe.l3 NN k times l ms zs i st) times ?_ ?_ [] ht rfl (by omega) NN (NN_lt (by omega)))
 ·unfold Qe.f Qe.fn Qe.top
  rw [this.2, this.1]
 ·intro k st _
  simp [Qe.l3, Qe.g3]
 ·intro k p t r st hx htt hI c0 c1 c2 cw g
  have hb := tkT_bd htt
  have hpl : p.length ≤ 1000000 := by rw [hx] at htl; simp at htl; omega
  have w1 := w64 (n := Int.tdiv t 100) (by unfold tkT at hb; omega) (by unfold tkT at hb; omega)
  refine ⟨by rw [hI]; simp, ?_⟩
  obtain ⟨q, hq⟩ := Qb3 hl (t := tkT t) (by omega)
  have hb' : 0 ≤ Int.tdiv t 100 ∧ Int.tdiv t 100 ≤ 100000 := hb
  have e1 : tkT t = Int.tdiv t 100 := rfl
  rw [e1] at hq
  simp only [Qe.l3, Qe.g3, c0, c1, and_self, and_true, true_and, decide_true, decide_false, if_true, if_false, mid_get, mid_set, mid_getn, mid_setn, bt_mid, Option.bind_some, Bool.not_true, Bool.not_false, Bool.false_eq_true, Bool.true_eq_false, beq_self_eq_true, bne_self_eq_false, Int.toNat_natCast, g, w1, hq]
  have key := fun b => QcS times l ms zs (Qe.l3 NN k) m2 m3 (by omega) (p.length : Int) (Int.tdiv t 100) (by omega) st (by rw [hI, List.length_map]; omega) zs [] b NN rfl (by simpa using hz) (NN_lt (by omega))
  simp only [List.length_nil] at key
  have eF : firT l ms zs t = if (mayC (ctlAt l (Int.tdiv t 100)) && zs.all (clrB ms · (Int.tdiv t 100 * 100))) = true then Int.tdiv t 100 else -1 := rfl
  rw [eF]
  unfold mayC
  generalize ctlAt l (Int.tdiv t 100) = c at *
  obtain ⟨a, b, r2, e, s, d⟩ := c
  cases r2
  ·simp only [and_self, and_true, true_and, decide_true, decide_false, if_true, if_false, mid_get, mid_set, mid_getn, mid_setn, bt_mid, Option.bind_some, Bool.not_true, Bool.not_false, Bool.false_eq_true, Bool.true_eq_false, beq_self_eq_true, bne_self_eq_false, Int.toNat_natCast, Bool.false_and]
   refine (key false).trans ?_
   rw [cw]
   simp
  ·simp only [and_self, and_true, true_and, decide_true, decide_false, if_true, if_false, mid_get, mid_set, mid_getn, mid_setn, bt_mid, Option.bind_some, Bool.not_true, Bool.not_false, Bool.false_eq_true, Bool.true_eq_false, beq_self_eq_true, bne_self_eq_false, Int.toNat_natCast]
   refine (key (!e)).trans ?_
   rw [cw, Bool.true_and]
def zonesB (zs : List ByteArray) : Bool := decide (zs.length ≤ 60) && zs.all wordB
theorem Qcz (zs : List ByteArray) (hl : zs.length ≤ 1000000) (hz : ∀ z ∈ zs, Sz z) : QV.f zs = some (zonesB zs) := by
 have := all_loop (E := fun z : ByteArray => Sz z) wordB (fun v => some true) (fun k v i => QV.l4 NN k v v.length i) ?_ ?_ zs hz (by omega) NN (NN_lt (by omega))
 ·unfold QV.f QV.fn QV.top zonesB
  by_cases h : (60 : Int) < (zs.length : Int)
  ·have : ¬ zs.length ≤ 60 := by omega
   simp [h, this]
  ·have h2 : zs.length ≤ 60 := by omega
   simp only [h, h2, and_self, and_true, true_and, decide_true, decide_false, if_true, if_false, mid_get, mid_set, mid_getn, mid_setn, bt_mid, Option.bind_some, Bool.not_true, Bool.not_false, Bool.false_eq_true, Bool.true_eq_false, beq_self_eq_true, bne_self_eq_false, Int.toNat_natCast]
   rw [this]
   cases zs.all wordB <;> rfl
 ·intro k p
  simp [QV.l4, QV.g4]
 ·intro k p z r hz c0 c1 cw
  simp only [QV.l4, QV.g4, c0, c1, cw, and_self, and_true, true_and, decide_true, decide_false, if_true, if_false, mid_get, mid_set, mid_getn, mid_setn, bt_mid, Option.bind_some, Bool.not_true, Bool.not_false, Bool.false_eq_true, Bool.true_eq_false, beq_self_eq_true, bne_self_eq_false, Int.toNat_natCast]
  rw [Qbu z hz]
  cases wordB z <;> rfl
theorem QcT (zs : List ByteArray) (hl : zs.length ≤ 1000000) (hz : ∀ z ∈ zs, Sz z) : Qbg.f zs = some (zs.all wordB) := by
 have := all_loop (E := fun z : ByteArray => Sz z) wordB (fun v => some true) (fun k v i => Qbg.l2 NN k v i) ?_ ?_ zs hz (by omega) NN (NN_lt (by omega))
 ·unfold Qbg.f Qbg.fn Qbg.top
  rw [this]
  cases zs.all wordB <;> rfl
 ·intro k p
  simp [Qbg.l2, Qbg.g2]
 ·intro k p z r hz c0 c1 cw
  simp only [Qbg.l2, Qbg.g2, c0, c1, cw, and_self, and_true, true_and, decide_true, decide_false, if_true, if_false, mid_get, mid_set, mid_getn, mid_setn, bt_mid, Option.bind_some, Bool.not_true, Bool.not_false, Bool.false_eq_true, Bool.true_eq_false, beq_self_eq_true, bne_self_eq_false, Int.toNat_natCast]
  rw [Qbv z hz]
  cases wordB z <;> rfl
def firOk (times : List Int) (l : List Sig) (ms : List Mov) (zs : List ByteArray) : Bool := decide (times.length ≤ 20) && times.all (inB · 0 10000000) && sigsB l && movesB ms && zonesB zs
def firR (times : List Int) (l : List Sig) (ms : List Mov) (zs : List ByteArray) : List Int × Int := if firOk times l ms zs = true then (times.map (firT l ms zs), 0) else ([], 1)
theorem QcA (times : List Int) (l : List Sig) (ms : List Mov) (zs : List ByteArray) (h1 : times.length ≤ 1000000) (h2 : l.length ≤ 1000000) (h3 : ms.length ≤ 1000000) (h3z : ∀ m ∈ ms, Sz m.2.1) (h4 : zs.length ≤ 1000000) (h4z : ∀ z ∈ zs, Sz z) : QaO.f times l ms zs = some (firOk times l ms zs) := by
 unfold QaO.f QaO.fn QaO.top Qav.f Qav.fn Qav.top firOk
 rw [Qck times 0 10000000 (by omega), Qbr l h2, Qby ms h3 h3z, Qcz zs h4 h4z]
 have e : decide ((times.length : Int) ≤ 20) = decide (times.length ≤ 20) := by congr 1; exact propext (by omega)
 rw [e]
 cases decide (times.length ≤ 20) <;> cases times.all (inB · 0 10000000) <;> cases sigsB l <;> cases movesB ms <;> cases zonesB zs <;> rfl
theorem QcB (times : List Int) (l : List Sig) (ms : List Mov) (zs : List ByteArray) (h1 : times.length ≤ 1000000) (h2 : l.length ≤ 1000000) (h3 : ms.length ≤ 1000000) (h3z : ∀ m ∈ ms, Sz m.2.1) (h4 : zs.length ≤ 1000000) (h4z : ∀ z ∈ zs, Sz z) : Qbf.f times l ms zs = some (if firOk times l ms zs = true then 0 else 1) := by
 have key : ∀ (r p : List Int) (k : Nat), p.length + r.length ≤ 1000000 → r.length < k → Qbf.l2 NN k (p ++ r) l ms zs p.length = some (if (r.all (inB · 0 10000000) && (decide ((p ++ r).length ≤ 20) && sigsB l && movesB ms && zonesB zs)) = true then 0 else 1) := by
  intro r
  induction r with
  | nil =>
   intro p k _ hk
   obtain ⟨k, rfl⟩ : ∃ j, k = j + 1 := ⟨k - 1, by omega⟩
   simp only [List.append_nil, Qbf.l2, Qbf.g2, Int.lt_irrefl, and_self, and_true, true_and, decide_true, decide_false, if_true, if_false, mid_get, mid_set, mid_getn, mid_setn, bt_mid, Option.bind_some, Bool.not_true, Bool.not_false, Bool.false_eq_true, Bool.true_eq_false, beq_self_eq_true, bne_self_eq_false, Int.toNat_natCast, List.all_nil, zonesB]
   rw [Qbs l h2, Qbz ms h3 h3z, QcT zs h4 h4z]
   have e : decide ((20 : Int) < (p.length : Int)) = !decide (p.length ≤ 20) := by rw [← decide_not]; congr 1; exact propext (by omega)
   have e2 : decide ((60 : Int) < (zs.length : Int)) = !decide (zs.length ≤ 60) := by rw [← decide_not]; congr 1; exact propext (by omega)
   rw [e, e2]
   cases decide (p.length ≤ 20) <;> cases sigsB l <;> cases movesB ms <;> cases zs.all wordB <;> cases decide (zs.length ≤ 60) <;> rfl
  | cons t r ih =>
   intro p k hl hk
   simp only [List.length_cons] at hl hk
   obtain ⟨k, rfl⟩ : ∃ j, k = j + 1 := ⟨k - 1, by omega⟩
   have hln := mid_len p r t
   have c0 : (0 : Int) ≤ (p.length : Int) := by omega
   have c1 : (p.length : Int) < ((p ++ t :: r).length : Int) := by omega
   have cw := w64 (n := (p.length : Int) + 1) (by omega) (by omega)
   have i := ih (p ++ [t]) k (by simp; omega) (by omega)
   rw [mid_snoc, snoc_len] at i
   rw [List.all_cons]
   simp only [Qbf.l2, Qbf.g2, c0, c1, cw, and_self, and_true, true_and, decide_true, decide_false, if_true, if_false, mid_get, mid_set, mid_getn, mid_setn, bt_mid, Option.bind_some, Bool.not_true, Bool.not_false, Bool.false_eq_true, Bool.true_eq_false, beq_self_eq_true, bne_self_eq_false, Int.toNat_natCast, Qbo]
   cases inB t 0 10000000
   ·simp
   ·simp only [and_self, and_true, true_and, decide_true, decide_false, if_true, if_false, mid_get, mid_set, mid_getn, mid_setn, bt_mid, Option.bind_some, Bool.not_true, Bool.not_false, Bool.false_eq_true, Bool.true_eq_false, beq_self_eq_true, bne_self_eq_false, Int.toNat_natCast]
    exact i
 have := key times [] NN (by simpa using h1) (NN_lt (by omega))
 rw [List.nil_append] at this
 unfold Qbf.f Qbf.fn Qbf.top
 refine Eq.trans this ?_
 have e : (times.all (inB · 0 10000000) && (decide (times.length ≤ 20) && sigsB l && movesB ms && zonesB zs)) = firOk times l ms zs := by
  unfold firOk
  cases decide (times.length ≤ 20) <;> cases times.all (inB · 0 10000000) <;> cases sigsB l <;> cases movesB ms <;> cases zonesB zs <;> rfl
 rw [e]
theorem FiredSafely_both (times : List Int) (l : List Sig) (ms : List Mov) (zs : List ByteArray) (h1 : times.length ≤ 1000000) (h2 : l.length ≤ 1000000) (h3 : ms.length ≤ 1000000) (h3z : ∀ m ∈ ms, Sz m.2.1) (h4 : zs.length ≤ 1000000) (h4z : ∀ z ∈ zs, Sz z) : Qar.f times l ms zs = some (firR times l ms zs) ∧ Qbj.f times l ms zs = some (firR times l ms zs) := by
 unfold Qar.f Qar.fn Qar.top Qbj.f Qbj.fn Qbj.top firR
 rw [QcA times l ms zs h1 h2 h3 h3z h4 h4z, QcB times l ms zs h1 h2 h3 h3z h4 h4z]
 by_cases h : firOk times l ms zs = true
 ·have h' := h
  unfold firOk at h'
  simp only [Bool.and_eq_true, decide_eq_true_eq, List.all_eq_true, inB_iff] at h'
  rw [h]
  simp only [and_self, and_true, true_and, decide_true, decide_false, if_true, if_false, mid_get, mid_set, mid_getn, mid_setn, bt_mid, Option.bind_some, Bool.not_true, Bool.not_false, Bool.false_eq_true, Bool.true_eq_false, beq_self_eq_true, bne_self_eq_false, Int.toNat_natCast]
  rw [Qb9 h'.1.1.2 h'.1.2 zs h4 times h1 (fun t ht => h'.1.1.1.2 t ht), QbM h'.1.1.2 h'.1.2 zs h4 times h1 (fun t ht => h'.1.1.1.2 t ht)]
  exact ⟨rfl, rfl⟩
 ·have h' : firOk times l ms zs = false := by simpa using h
  rw [h']
  exact ⟨rfl, rfl⟩
end Go.Pl

namespace Go.Pl
open Go.Ev
set_option linter.unusedVariables false
set_option linter.unusedSimpArgs false
abbrev LC := Int → Bool → Bool → Bool → Bool → Bool → Int → List Sig → Int → Int → Ctl → List Int → Option (Ctl × Int)
theorem ca_beg1 (L7 : LC) (tick : Int) (v1 v2 v3 v4 v5 : Bool) (v6 : Int) (b1 : List Sig) (b2 b3 : Int) (b4 : Ctl) (b5 : List Int) (u1 u2 u3 u4 u5 : Bool) (u6 : Int) (T : Int) : ∀ (r p : List Sig) (c : Ctl) (ref : List Int) (k : Nat), p.length + r.length ≤ 1000000 → r.length < k → DeadOk c → SrtF T r → (∀ m ∈ r, 0 ≤ m.2 ∧ m.2 ≤ 9) → ref.length ≤ p.length →
    ∃ (p' r' : List Sig) (c' : Ctl) (ref' : List Int), p' ++ r' = p ++ r ∧ SrtF (T + 1) r' ∧ DeadOk c' ∧ ref'.length ≤ p'.length ∧ (∀ t, T ≤ t → atR r' c' T t = atR r c T t) ∧ (∀ m ∈ r', 0 ≤ m.2 ∧ m.2 ≤ 9) ∧
      Qa.l100000001 NN L7 k tick v1 v2 v3 v4 v5 v6 b1 b2 b3 b4 b5 u1 u2 u3 u4 u5 u6 (p ++ r) p.length T c ref = L7 tick u1 u2 u3 u4 u5 u6 (p ++ r) p'.length T c' ref' := by
  intro r
  induction r with
  | nil =>
    intro p c ref k _ hk hc _ _ hr
    obtain ⟨k, rfl⟩ : ∃ j, k = j + 1 := ⟨k - 1, by omega⟩
    refine ⟨p, [], c, ref, rfl, trivial, hc, hr, fun _ _ => rfl, by simp, ?_⟩
    simp only [List.append_nil, Qa.l100000001, Qa.g100000001, Int.lt_irrefl, and_self, and_true, true_and, decide_true, decide_false, if_true, if_false, mid_get, mid_set, mid_getn, mid_setn, bt_mid, Option.bind_some, Bool.not_true, Bool.not_false, Bool.false_eq_true, Bool.true_eq_false, beq_self_eq_true, bne_self_eq_false, Int.toNat_natCast]
  | cons m r ih =>
    intro p c ref k hl hk hc hs hm hr
    simp only [List.length_cons] at hl hk
    obtain ⟨k, rfl⟩ : ∃ j, k = j + 1 := ⟨k - 1, by omega⟩
    have hln := mid_len p r m
    have c0 : (0 : Int) ≤ (p.length : Int) := by omega
    have c1 : (p.length : Int) < ((p ++ m :: r).length : Int) := by omega
    have cw := w64 (n := (p.length : Int) + 1) (by omega) (by omega)
    have hs1 := hs.1
    by_cases h : m.1 = T
    · have st : ∀ (c1 : Ctl) (ref1 : List Int), c1 = giveB c m.2 → ref1.length ≤ p.length + 1 → ∃ (p' r' : List Sig) (c' : Ctl) (ref' : List Int), p' ++ r' = p ++ m :: r ∧ SrtF (T + 1) r' ∧ DeadOk c' ∧ ref'.length ≤ p'.length ∧ (∀ t, T ≤ t → atR r' c' T t = atR (m :: r) c T t) ∧ (∀ m ∈ r', 0 ≤ m.2 ∧ m.2 ≤ 9) ∧
          Qa.l100000001 NN L7 k tick v1 v2 v3 v4 v5 v6 b1 b2 b3 b4 b5 u1 u2 u3 u4 u5 u6 (p ++ m :: r) ((p.length : Int) + 1) T c1 ref1 = L7 tick u1 u2 u3 u4 u5 u6 (p ++ m :: r) p'.length T c' ref' := by
        intro c1 ref1 e1 hr1
        have i := ih (p ++ [m]) c1 ref1 k (by simp; omega) (by omega) (by rw [e1]; exact give_dead hc _) (by rw [← h]; exact hs.2) (fun x hx => hm x (by simp [hx])) (by simp; omega)
        rw [mid_snoc, snoc_len] at i
        obtain ⟨p', r', c', ref', i1, i2, i3, i4, i5, i6, i7⟩ := i
        refine ⟨p', r', c', ref', i1, i2, i3, i4, fun t ht => ?_, i6, i7⟩
        rw [i5 t ht, e1, show m = (T, m.2) by rw [← h], atR_give T m.2 r c ht]
      have hg := Qbp c m.2 hc (hm m (by simp))
      have e0 : (m.1 == T) = true := by rw [h]; simp
      simp only [Qa.l100000001, Qa.g100000001, c0, c1, cw, e0, hg, and_self, and_true, true_and, decide_true, decide_false, if_true, if_false, mid_get, mid_set, mid_getn, mid_setn, bt_mid, Option.bind_some, Bool.not_true, Bool.not_false, Bool.false_eq_true, Bool.true_eq_false, beq_self_eq_true, bne_self_eq_false, Int.toNat_natCast]
      cases hq : giveC c m.2 with
      | some y =>
        simp only [and_self, and_true, true_and, decide_true, decide_false, if_true, if_false, mid_get, mid_set, mid_getn, mid_setn, bt_mid, Option.bind_some, Bool.not_true, Bool.not_false, Bool.false_eq_true, Bool.true_eq_false, beq_self_eq_true, bne_self_eq_false, Int.toNat_natCast]
        exact st y ref (by unfold giveB; rw [hq]; rfl) (by omega)
      | none =>
        have n5 : ((5 : Int) == 0) = false := rfl
        have hro : ref.length + [(p.length : Int)].length < room 8 := by rw [room8]; simp; omega
        simp only [n5, hro, and_self, and_true, true_and, decide_true, decide_false, if_true, if_false, mid_get, mid_set, mid_getn, mid_setn, bt_mid, Option.bind_some, Bool.not_true, Bool.not_false, Bool.false_eq_true, Bool.true_eq_false, beq_self_eq_true, bne_self_eq_false, Int.toNat_natCast]
        exact st c (ref ++ [(p.length : Int)]) (by unfold giveB; rw [hq]; rfl) (by simp; omega)
    · have e0 : (m.1 == T) = false := by simpa using h
      refine ⟨p, m :: r, c, ref, rfl, ⟨by omega, hs.2⟩, hc, hr, fun _ _ => rfl, hm, ?_⟩
      simp only [Qa.l100000001, Qa.g100000001, c0, c1, e0, and_self, and_true, true_and, decide_true, decide_false, if_true, if_false, mid_get, mid_set, mid_getn, mid_setn, bt_mid, Option.bind_some, Bool.not_true, Bool.not_false, Bool.false_eq_true, Bool.true_eq_false, beq_self_eq_true, bne_self_eq_false, Int.toNat_natCast]
theorem ca_beg0 (tick : Int) (v1 v2 v3 v4 v5 : Bool) (v6 : Int) (b1 : List Sig) (b2 b3 : Int) (x1 x2 x3 x4 x5 : Bool) (x6 : Int) (b5 : List Int) (u1 u2 u3 u4 u5 : Bool) (u6 : Int) (T : Int) : ∀ (r p : List Sig) (c : Ctl) (ref : List Int) (k : Nat), p.length + r.length ≤ 1000000 → r.length < k → DeadOk c → SrtF T r → (∀ m ∈ r, 0 ≤ m.2 ∧ m.2 ≤ 9) → ref.length ≤ p.length →
    ∃ (p' r' : List Sig) (c' : Ctl) (ref' : List Int), p' ++ r' = p ++ r ∧ SrtF (T + 1) r' ∧ DeadOk c' ∧ ref'.length ≤ p'.length ∧ (∀ t, T ≤ t → atR r' c' T t = atR r c T t) ∧ (∀ m ∈ r', 0 ≤ m.2 ∧ m.2 ≤ 9) ∧
      Qa.l70000001 NN k tick v1 v2 v3 v4 v5 v6 b1 b2 b3 x1 x2 x3 x4 x5 x6 b5 u1 u2 u3 u4 u5 u6 (p ++ r) p.length T c ref = Qa.l1000007 NN NN tick u1 u2 u3 u4 u5 u6 (p ++ r) p'.length T c' ref' := by
  intro r
  induction r with
  | nil =>
    intro p c ref k _ hk hc _ _ hr
    obtain ⟨k, rfl⟩ : ∃ j, k = j + 1 := ⟨k - 1, by omega⟩
    refine ⟨p, [], c, ref, rfl, trivial, hc, hr, fun _ _ => rfl, by simp, ?_⟩
    simp only [List.append_nil, Qa.l70000001, Qa.g70000001, Int.lt_irrefl, and_self, and_true, true_and, decide_true, decide_false, if_true, if_false, mid_get, mid_set, mid_getn, mid_setn, bt_mid, Option.bind_some, Bool.not_true, Bool.not_false, Bool.false_eq_true, Bool.true_eq_false, beq_self_eq_true, bne_self_eq_false, Int.toNat_natCast]
  | cons m r ih =>
    intro p c ref k hl hk hc hs hm hr
    simp only [List.length_cons] at hl hk
    obtain ⟨k, rfl⟩ : ∃ j, k = j + 1 := ⟨k - 1, by omega⟩
    have hln := mid_len p r m
    have c0 : (0 : Int) ≤ (p.length : Int) := by omega
    have c1 : (p.length : Int) < ((p ++ m :: r).length : Int) := by omega
    have cw := w64 (n := (p.length : Int) + 1) (by omega) (by omega)
    have hs1 := hs.1
    by_cases h : m.1 = T
    · have st : ∀ (c1 : Ctl) (ref1 : List Int), c1 = giveB c m.2 → ref1.length ≤ p.length + 1 → ∃ (p' r' : List Sig) (c' : Ctl) (ref' : List Int), p' ++ r' = p ++ m :: r ∧ SrtF (T + 1) r' ∧ DeadOk c' ∧ ref'.length ≤ p'.length ∧ (∀ t, T ≤ t → atR r' c' T t = atR (m :: r) c T t) ∧ (∀ m ∈ r', 0 ≤ m.2 ∧ m.2 ≤ 9) ∧
          Qa.l70000001 NN k tick v1 v2 v3 v4 v5 v6 b1 b2 b3 x1 x2 x3 x4 x5 x6 b5 u1 u2 u3 u4 u5 u6 (p ++ m :: r) ((p.length : Int) + 1) T c1 ref1 = Qa.l1000007 NN NN tick u1 u2 u3 u4 u5 u6 (p ++ m :: r) p'.length T c' ref' := by
        intro c1 ref1 e1 hr1
        have i := ih (p ++ [m]) c1 ref1 k (by simp; omega) (by omega) (by rw [e1]; exact give_dead hc _) (by rw [← h]; exact hs.2) (fun x hx => hm x (by simp [hx])) (by simp; omega)
        rw [mid_snoc, snoc_len] at i
        obtain ⟨p', r', c', ref', i1, i2, i3, i4, i5, i6, i7⟩ := i
        refine ⟨p', r', c', ref', i1, i2, i3, i4, fun t ht => ?_, i6, i7⟩
        rw [i5 t ht, e1, show m = (T, m.2) by rw [← h], atR_give T m.2 r c ht]
      have hg := Qbp c m.2 hc (hm m (by simp))
      have e0 : (m.1 == T) = true := by rw [h]; simp
      simp only [Qa.l70000001, Qa.g70000001, c0, c1, cw, e0, hg, and_self, and_true, true_and, decide_true, decide_false, if_true, if_false, mid_get, mid_set, mid_getn, mid_setn, bt_mid, Option.bind_some, Bool.not_true, Bool.not_false, Bool.false_eq_true, Bool.true_eq_false, beq_self_eq_true, bne_self_eq_false, Int.toNat_natCast]
      cases hq : giveC c m.2 with
      | some y =>
        simp only [and_self, and_true, true_and, decide_true, decide_false, if_true, if_false, mid_get, mid_set, mid_getn, mid_setn, bt_mid, Option.bind_some, Bool.not_true, Bool.not_false, Bool.false_eq_true, Bool.true_eq_false, beq_self_eq_true, bne_self_eq_false, Int.toNat_natCast]
        exact st y ref (by unfold giveB; rw [hq]; rfl) (by omega)
      | none =>
        have n5 : ((5 : Int) == 0) = false := rfl
        have hro : ref.length + [(p.length : Int)].length < room 8 := by rw [room8]; simp; omega
        simp only [n5, hro, and_self, and_true, true_and, decide_true, decide_false, if_true, if_false, mid_get, mid_set, mid_getn, mid_setn, bt_mid, Option.bind_some, Bool.not_true, Bool.not_false, Bool.false_eq_true, Bool.true_eq_false, beq_self_eq_true, bne_self_eq_false, Int.toNat_natCast]
        exact st c (ref ++ [(p.length : Int)]) (by unfold giveB; rw [hq]; rfl) (by simp; omega)
    · have e0 : (m.1 == T) = false := by simpa using h
      refine ⟨p, m :: r, c, ref, rfl, ⟨by omega, hs.2⟩, hc, hr, fun _ _ => rfl, hm, ?_⟩
      simp only [Qa.l70000001, Qa.g70000001, c0, c1, e0, and_self, and_true, true_and, decide_true, decide_false, if_true, if_false, mid_get, mid_set, mid_getn, mid_setn, bt_mid, Option.bind_some, Bool.not_true, Bool.not_false, Bool.false_eq_true, Bool.true_eq_false, beq_self_eq_true, bne_self_eq_false, Int.toNat_natCast]
theorem ca_main (l : List Sig) (hll : l.length ≤ 1000000) (tick : Int) (ht : tick ≤ 1000000) (v1 v2 v3 v4 v5 : Bool) (v6 : Int) : ∀ (n : Nat) (T : Int) (p r : List Sig) (c : Ctl) (ref : List Int) (k : Nat), 0 ≤ T → T + n = tick → n < k → l = p ++ r → SrtF (T + 1) r → DeadOk c → ref.length ≤ p.length → (∀ m ∈ r, 0 ≤ m.2 ∧ m.2 ≤ 9) → (∀ t, T ≤ t → atR r c T t = ctlAt l t) →
  Qa.l7 NN k tick v1 v2 v3 v4 v5 v6 l p.length T c ref = some (ctlAt l tick, 0) := by
 intro n
 induction n with
 | zero =>
  intro T p r c ref k _ hT hk _ hs _ _ _ hat
  obtain ⟨k, rfl⟩ : ∃ j, k = j + 1 := ⟨k - 1, by omega⟩
  have c1 : ¬ T < tick := by omega
  have hTt : T = tick := by omega
  simp only [Qa.l7, Qa.g7, c1, and_self, and_true, true_and, decide_true, decide_false, if_true, if_false, mid_get, mid_set, mid_getn, mid_setn, bt_mid, Option.bind_some, Bool.not_true, Bool.not_false, Bool.false_eq_true, Bool.true_eq_false, beq_self_eq_true, bne_self_eq_false, Int.toNat_natCast]
  rw [← hTt, ← hat T (Int.le_refl T), atR_now c hs]
 | succ n ih =>
  intro T p r c ref k h0 hT hk hl hs hc hr hm hat
  obtain ⟨k, rfl⟩ : ∃ j, k = j + 1 := ⟨k - 1, by omega⟩
  have c1 : T < tick := by omega
  have hll2 := hll
  rw [hl, List.length_append] at hll2
  have w1 := w64 (n := T + 1) (by omega) (by omega)
  simp only [Qa.l7, Qa.g7, c1, and_self, and_true, true_and, decide_true, decide_false, if_true, if_false, mid_get, mid_set, mid_getn, mid_setn, bt_mid, Option.bind_some, Bool.not_true, Bool.not_false, Bool.false_eq_true, Bool.true_eq_false, beq_self_eq_true, bne_self_eq_false, Int.toNat_natCast]
  rw [Qa.c1000008 nn0]
  unfold Qa.g1000008
  rw [Qbp c 8 hc (by omega), give_tk]
  simp only [Option.bind_some, w1]
  rw [Qa.c1000009 nn0]
  unfold Qa.g1000009
  obtain ⟨p', r', c', ref', b1, b2, b3, b4, b5, b6, b7⟩ := ca_beg1 (Qa.l7 NN k) tick v1 v2 v3 v4 v5 v6 l p.length (T + 1) (tkC c) ref v1 v2 v3 v4 v5 v6 (T + 1) r p (tkC c) ref NN hll2 (NN_lt (by omega)) (tk_dead hc) hs hm hr
  rw [← hl] at b7 b1
  refine Eq.trans b7 ?_
  exact ih (T + 1) p' r' c' ref' k (by omega) (by omega) (by omega) b1.symm b2 b3 b4 b6 (fun t h => by rw [b5 t h, ← atR_step c hs h, hat t (by omega)])
def caR (l : List Sig) (tick : Int) : Ctl × Int := if sigsB l = true then (if inB tick 0 100000 = true then (ctlAt l tick, 0) else ((false, false, false, false, false, 0), 2)) else ((false, false, false, false, false, 0), 1)
theorem ControllerAt_both (l : List Sig) (tick : Int) (hl : l.length ≤ 1000000) : Qaq.f l tick = some (caR l tick) ∧ Qa.f l tick = some (caR l tick) := by
 unfold Qaq.f Qaq.fn Qaq.top Qa7.f Qa7.fn Qa7.top Qa.f Qa.fn Qa.top caR
 rw [Qbs l hl, Qbr l hl, Qbi, QbY]
 cases hb : sigsB l
 ·exact ⟨rfl, rfl⟩
 cases ht : inB tick 0 100000
 ·exact ⟨rfl, rfl⟩
 have ht' := inB_iff.1 ht
 obtain ⟨h1, h2, h3⟩ := sigsB_iff hb
 have e : ((0 : Int) != 0) = false := rfl
 refine ⟨?_, ?_⟩
 ·obtain ⟨q, hq⟩ := Qb3 hb (t := tick) (by omega)
  simp only [e, and_self, and_true, true_and, decide_true, decide_false, if_true, if_false, mid_get, mid_set, mid_getn, mid_setn, bt_mid, Option.bind_some, Bool.not_true, Bool.not_false, Bool.false_eq_true, Bool.true_eq_false, beq_self_eq_true, bne_self_eq_false, Int.toNat_natCast, hq]
 ·simp only [and_self, and_true, true_and, decide_true, decide_false, if_true, if_false, mid_get, mid_set, mid_getn, mid_setn, bt_mid, Option.bind_some, Bool.not_true, Bool.not_false, Bool.false_eq_true, Bool.true_eq_false, beq_self_eq_true, bne_self_eq_false, Int.toNat_natCast]
  rw [Qa.c1000006 nn0]
  unfold Qa.g1000006
  obtain ⟨p', r', c', ref', b1, b2, b3, b4, b5, b6, b7⟩ := ca_beg0 tick false false false false false 0 l 0 0 false false false false false 0 [] false false false false false 0 0 l [] (false, false, false, false, false, 0) [] NN (by simpa using hl) (NN_lt (by omega)) ctl0_dead h2 (fun m h => (h3 m h).2.1) (by simp)
  rw [List.nil_append] at b7 b1
  refine Eq.trans b7 ?_
  rw [Qa.c1000007 nn0]
  unfold Qa.g1000007
  exact ca_main l hl tick (by omega) _ _ _ _ _ _ tick.toNat 0 p' r' c' ref' NN (by omega) (by omega) (NN_lt (by omega)) b1.symm b2 b3 b4 b6 (fun t h => b5 t h)
end Go.Pl

namespace Go.Pl
open Go.Ev
set_option linter.unusedVariables false
set_option linter.unusedSimpArgs false
theorem ok_snoc {α : Type} {Q : α → Prop} {xs : List α} {b : α} (h : Lm Q xs) (hb : Q b) (hl : xs.length < 1000000) : Lm Q (xs ++ [b]) :=
 ⟨by simp; omega, fun x hx => by
  rcases List.mem_append.1 hx with h1 | h1
  ·exact h.2 x h1
  ·rw [List.mem_singleton.1 h1]; exact hb⟩
def bookR (xs : List (Int × ByteArray × Int)) (b : Int × ByteArray × Int) : List (Int × ByteArray × Int) × Int :=
 if booksB xs = true then (if xs.length = 60 then ([], 3) else if booksB (xs ++ [b]) = true then (xs ++ [b], 0) else ([], 5)) else ([], 1)
theorem Qca (xs : List (Int × ByteArray × Int)) (b : Int × ByteArray × Int) (h : Lm OkBooking xs) (hb : OkBooking b) : Q9.f xs b = some (bookR xs b) := by
 unfold Q9.f Q9.fn Q9.top bookR
 rw [Qbn xs h]
 cases hx : booksB xs
 ·rfl
 have hv := booksB_val hx
 simp only [and_self, and_true, true_and, decide_true, decide_false, if_true, if_false, mid_get, mid_set, mid_getn, mid_setn, bt_mid, Option.bind_some, Bool.not_true, Bool.not_false, Bool.false_eq_true, Bool.true_eq_false, beq_self_eq_true, bne_self_eq_false, Int.toNat_natCast]
 by_cases h60 : xs.length = 60
 ·simp [h60]
 ·have e1 : ((xs.length : Int) == 60) = false := by rw [beq_eq_false_iff_ne]; omega
  have e2 : ([] : List (Int × ByteArray × Int)).length + xs.length < room 32 := by rw [room32]; simp; omega
  have e3 : (([] : List (Int × ByteArray × Int)) ++ xs).length + [b].length < room 32 := by rw [room32]; simp; omega
  simp only [e1, e2, e3, h60, and_self, and_true, true_and, decide_true, decide_false, if_true, if_false, mid_get, mid_set, mid_getn, mid_setn, bt_mid, Option.bind_some, Bool.not_true, Bool.not_false, Bool.false_eq_true, Bool.true_eq_false, beq_self_eq_true, bne_self_eq_false, Int.toNat_natCast]
  rw [List.nil_append, Qbn (xs ++ [b]) (ok_snoc h hb (by omega))]
  cases booksB (xs ++ [b]) <;> rfl
theorem Qcb (xs : List (Int × ByteArray × Int)) (b : Int × ByteArray × Int) (h : Lm OkBooking xs) (hb : OkBooking b) : Qab.f xs b = some (bookR xs b) := by
 unfold Qab.f Qab.fn Qab.top bookR
 rw [Qbm xs h]
 cases hx : booksB xs
 ·rfl
 have hv := booksB_val hx
 simp only [and_self, and_true, true_and, decide_true, decide_false, if_true, if_false, mid_get, mid_set, mid_getn, mid_setn, bt_mid, Option.bind_some, Bool.not_true, Bool.not_false, Bool.false_eq_true, Bool.true_eq_false, beq_self_eq_true, bne_self_eq_false, Int.toNat_natCast]
 by_cases h60 : xs.length = 60
 ·simp [h60]
 ·have e1 : ((xs.length : Int) == 60) = false := by rw [beq_eq_false_iff_ne]; omega
  have e2 : ([] : List (Int × ByteArray × Int)).length + xs.length < room 32 := by rw [room32]; simp; omega
  have e3 : (([] : List (Int × ByteArray × Int)) ++ xs).length + [b].length < room 32 := by rw [room32]; simp; omega
  simp only [e1, e2, e3, h60, and_self, and_true, true_and, decide_true, decide_false, if_true, if_false, mid_get, mid_set, mid_getn, mid_setn, bt_mid, Option.bind_some, Bool.not_true, Bool.not_false, Bool.false_eq_true, Bool.true_eq_false, beq_self_eq_true, bne_self_eq_false, Int.toNat_natCast]
  rw [List.nil_append, Qbm (xs ++ [b]) (ok_snoc h hb (by omega))]
  cases booksB (xs ++ [b]) <;> rfl
end Go.Pl

namespace Go.Pl
open Go.Ev
set_option linter.unusedVariables false
noncomputable section
end
end Go.Pl

namespace Go.Pl
open Go.Ev
set_option linter.unusedVariables false
noncomputable section
end
end Go.Pl

namespace Go.Pl
open Go.Ev
set_option linter.unusedVariables false
noncomputable section
end
end Go.Pl

namespace Go.Pl
open Go.Ev
set_option linter.unusedVariables false
noncomputable section
end
end Go.Pl

namespace Go.Pl
open Go.Ev
set_option linter.unusedVariables false
set_option linter.unusedSimpArgs false
abbrev Bkg := Int × ByteArray × Int
def openF (xs : List Bkg) (st : List ByteArray) (b : Bkg) : List ByteArray := if 0 < leftOf xs b.2.1 then insW b.2.1 st else st
def openL (xs : List Bkg) : List ByteArray := xs.foldl (openF xs) []
structure OI (xs p : List Bkg) (st : List ByteArray) : Prop where
 srt : SrtW st
 len : st.length ≤ p.length
 mem : ∀ w, w ∈ st ↔ (∃ b ∈ p, b.2.1 = w) ∧ 0 < leftOf xs w
theorem oi_step {xs p : List Bkg} {st : List ByteArray} (b : Bkg) (h : OI xs p st) : OI xs (p ++ [b]) (openF xs st b) := by
 unfold openF
 split
 ·rename_i hp
  refine ⟨insW_srt h.srt, by have := insW_len b.2.1 st; have := h.len; simp; omega, fun w => ?_⟩
  rw [mem_insW, h.mem]
  constructor
  ·rintro (rfl | ⟨⟨c, h1, h2⟩, h3⟩)
   ·exact ⟨⟨b, by simp, rfl⟩, hp⟩
   ·exact ⟨⟨c, by simp [h1], h2⟩, h3⟩
  ·rintro ⟨⟨c, h1, h2⟩, h3⟩
   rcases List.mem_append.1 h1 with h1 | h1
   ·exact .inr ⟨⟨c, h1, h2⟩, h3⟩
   ·rw [List.mem_singleton.1 h1] at h2; exact .inl h2.symm
 ·rename_i hp
  refine ⟨h.srt, by have := h.len; simp; omega, fun w => ?_⟩
  rw [h.mem]
  constructor
  ·rintro ⟨⟨c, h1, h2⟩, h3⟩; exact ⟨⟨c, by simp [h1], h2⟩, h3⟩
  ·rintro ⟨⟨c, h1, h2⟩, h3⟩
   rcases List.mem_append.1 h1 with h1 | h1
   ·exact ⟨⟨c, h1, h2⟩, h3⟩
   ·rw [List.mem_singleton.1 h1] at h2; rw [h2] at hp; exact absurd h3 hp
theorem oi_nil (xs : List Bkg) : OI xs [] [] := ⟨List.Pairwise.nil, by simp, fun w => by simp⟩
theorem open_both (xs : List Bkg) (h : ∀ b ∈ xs, valB b = true) (hl : xs.length ≤ 1000000) : OI xs xs (openL xs) ∧ Ql.f xs = some (openL xs) ∧ Q5.f xs = some (openL xs) := by
 have e1 := fold_fix (E := fun _ => True) (fun p st => OI xs p st) (fun _ => openF xs) (fun st => some st) (fun k i st => Ql.l3 NN k xs xs xs.length i st) xs ?_ ?_ [] (fun _ _ => trivial) (oi_nil xs) (by omega) NN (NN_lt (by omega))
 have e2 := fold_fix (E := fun _ => True) (fun p st => OI xs p st) (fun _ => openF xs) (fun st => some st) (fun k i st => Q5.l3 NN k xs i st) xs ?_ ?_ [] (fun _ _ => trivial) (oi_nil xs) (by omega) NN (NN_lt (by omega))
 ·rw [foldi_foldl] at e1 e2
  exact ⟨e1.1, e1.2, e2.2⟩
 ·intro k st _
  simp [Q5.l3, Q5.g3]
 ·intro k p b r st hx _ hI c0 c1 c2 cw g
  refine ⟨oi_step b hI, ?_⟩
  have hpl : p.length ≤ 1000000 := by rw [hx] at hl; simp at hl; omega
  have := hI.len
  simp only [Q5.l3, Q5.g3, c0, c1, cw, and_self, and_true, true_and, decide_true, decide_false, if_true, if_false, mid_get, mid_set, mid_getn, mid_setn, bt_mid, Option.bind_some, Bool.not_true, Bool.not_false, Bool.false_eq_true, Bool.true_eq_false, beq_self_eq_true, bne_self_eq_false, Int.toNat_natCast, g, l32Left_all xs _ h hl, decide_eq_true_eq]
  unfold openF
  split
  ·rw [QbI _ _ (by omega)]; rfl
  ·rfl
 ·intro k st _
  simp [Ql.l3, Ql.g3]
 ·intro k p b r st hx _ hI c0 c1 c2 cw g
  refine ⟨oi_step b hI, ?_⟩
  have hpl : p.length ≤ 1000000 := by rw [hx] at hl; simp at hl; omega
  have := hI.len
  simp only [Ql.l3, Ql.g3, c0, c1, cw, and_self, and_true, true_and, decide_true, decide_false, if_true, if_false, mid_get, mid_set, mid_getn, mid_setn, bt_mid, Option.bind_some, Bool.not_true, Bool.not_false, Bool.false_eq_true, Bool.true_eq_false, beq_self_eq_true, bne_self_eq_false, Int.toNat_natCast, g, Qbq xs _ h hl, decide_eq_true_eq]
  unfold openF
  split
  ·rw [QbU _ _ hI.srt (by omega)]; rfl
  ·rfl
theorem open_sm {xs : List Bkg} (h : ∀ b ∈ xs, valB b = true) (hl : xs.length ≤ 1000000) : ∀ w ∈ openL xs, wordB w = true := by
 intro w hw
 obtain ⟨⟨b, h1, rfl⟩, _⟩ := ((open_both xs h hl).1.mem w).1 hw
 have := h b h1
 unfold valB at this
 simp only [Bool.and_eq_true] at this
 exact this.1.2
theorem word_sm {w : ByteArray} (h : wordB w = true) : Sm w := by have := wordB_size h; unfold Sm; omega
theorem len0 {α : Type} (l : List α) : (((l.length : Int) : Int) == 0) = decide (l = []) := by cases l <;> simp <;> omega
def setlF (xs : List Bkg) (kind : Int) (out : List Bkg) (w : ByteArray) : List Bkg := out ++ [(kind, w, leftOf xs w)]
def setlL (xs : List Bkg) (kind : Int) : List Bkg := (openL xs).foldl (setlF xs kind) xs
def limS (out : List Bkg) : List Bkg × Int := if 60 < out.length then ([], 3) else if booksB out = true then (out, 0) else ([], 5)
def stlR (xs : List Bkg) (kind : Int) : List Bkg × Int := if booksB xs = true then (if inB kind 1 3 = true then limS (setlL xs kind) else ([], 2)) else ([], 1)
theorem room32n {n : Nat} (h : n ≤ 2000000) : n < room 32 := by rw [room32]; omega
structure SI (xs : List Bkg) (p : List ByteArray) (out : List Bkg) : Prop where
 len : out.length = xs.length + p.length
 ok : ∀ b ∈ out, OkBooking b
theorem Settle_l (xs : List Bkg) (kind : Int) (hk : 1 ≤ kind ∧ kind ≤ 3) (hok : ∀ b ∈ xs, OkBooking b) (h : ∀ b ∈ xs, valB b = true) (hl : xs.length ≤ 60) :
  SI xs (openL xs) (setlL xs kind) ∧ QB.l7 NN NN xs kind (openL xs).length 0 xs (openL xs) = some (limS (setlL xs kind)) ∧ QH.l8 NN NN xs kind 0 xs (openL xs) = some (limS (setlL xs kind)) := by
 obtain ⟨oi, _, _⟩ := open_both xs h (by omega)
 have hol := oi.len
 have hos := open_sm h (by omega)
 have step : ∀ (p : List ByteArray) (w : ByteArray) (out : List Bkg), wordB w = true → SI xs p out → SI xs (p ++ [w]) (setlF xs kind out w) := fun p w out hw hI => by
  have hb := leftOf_le w xs h
  refine ⟨by unfold setlF; have := hI.len; simp; omega, fun b hb' => ?_⟩
  unfold setlF at hb'
  rcases List.mem_append.1 hb' with h1 | h1
  ·exact hI.ok b h1
  ·rw [List.mem_singleton.1 h1]; exact ⟨wf64.2 (by simp only; omega), word_sm hw, wf64.2 (by simp only; omega)⟩
 have z0 : SI xs [] xs := ⟨by simp, hok⟩
 have e1 := fold_fix (E := fun w => wordB w = true) (fun p out => SI xs p out) (fun _ => setlF xs kind) (fun out => some (limS out)) (fun k i out => QB.l7 NN k xs kind (openL xs).length i out (openL xs)) (openL xs) ?_ ?_ xs hos z0 (by omega) NN (NN_lt (by omega))
 have e2 := fold_fix (E := fun w => wordB w = true) (fun p out => SI xs p out) (fun _ => setlF xs kind) (fun out => some (limS out)) (fun k i out => QH.l8 NN k xs kind i out (openL xs)) (openL xs) ?_ ?_ xs hos z0 (by omega) NN (NN_lt (by omega))
 ·rw [foldi_foldl] at e1 e2
  exact ⟨e1.1, e1.2, e2.2⟩
 ·intro k out hI
  have := hI.len
  simp only [QH.l8, QH.g8, Int.lt_irrefl, and_self, and_true, true_and, decide_true, decide_false, if_true, if_false, mid_get, mid_set, mid_getn, mid_setn, bt_mid, Option.bind_some, Bool.not_true, Bool.not_false, Bool.false_eq_true, Bool.true_eq_false, beq_self_eq_true, bne_self_eq_false, Int.toNat_natCast]
  unfold QaI.f QaI.fn QaI.top limS
  by_cases h6 : 60 < out.length
  ·have h6' : (60 : Int) < (out.length : Int) := by omega
   simp only [h6, h6', and_self, and_true, true_and, decide_true, decide_false, if_true, if_false, mid_get, mid_set, mid_getn, mid_setn, bt_mid, Option.bind_some, Bool.not_true, Bool.not_false, Bool.false_eq_true, Bool.true_eq_false, beq_self_eq_true, bne_self_eq_false, Int.toNat_natCast]; rfl
  ·have h6' : ¬ (60 : Int) < (out.length : Int) := by omega
   simp only [h6, h6', and_self, and_true, true_and, decide_true, decide_false, if_true, if_false, mid_get, mid_set, mid_getn, mid_setn, bt_mid, Option.bind_some, Bool.not_true, Bool.not_false, Bool.false_eq_true, Bool.true_eq_false, beq_self_eq_true, bne_self_eq_false, Int.toNat_natCast]
   rw [Qbm out ⟨by omega, hI.ok⟩]
   cases booksB out <;> rfl
 ·intro k p w r out hx hw hI c0 c1 c2 cw g
  refine ⟨step p w out hw hI, ?_⟩
  have hpl : p.length ≤ 60 := by have := congrArg List.length hx; simp at this; omega
  have hil := hI.len
  have hr := room32n (n := out.length + [(kind, w, leftOf xs w)].length) (by simp; omega)
  simp only [QH.l8, QH.g8, c0, c1, cw, and_self, and_true, true_and, decide_true, decide_false, if_true, if_false, mid_get, mid_set, mid_getn, mid_setn, bt_mid, Option.bind_some, Bool.not_true, Bool.not_false, Bool.false_eq_true, Bool.true_eq_false, beq_self_eq_true, bne_self_eq_false, Int.toNat_natCast, g, l32Left_all xs _ h (by omega), hr]
  rfl
 ·intro k out hI
  have := hI.len
  simp only [QB.l7, QB.g7, Int.lt_irrefl, and_self, and_true, true_and, decide_true, decide_false, if_true, if_false, mid_get, mid_set, mid_getn, mid_setn, bt_mid, Option.bind_some, Bool.not_true, Bool.not_false, Bool.false_eq_true, Bool.true_eq_false, beq_self_eq_true, bne_self_eq_false, Int.toNat_natCast]
  unfold limS
  by_cases h6 : 60 < out.length
  ·have h6' : (60 : Int) < (out.length : Int) := by omega
   simp only [h6, h6', and_self, and_true, true_and, decide_true, decide_false, if_true, if_false, mid_get, mid_set, mid_getn, mid_setn, bt_mid, Option.bind_some, Bool.not_true, Bool.not_false, Bool.false_eq_true, Bool.true_eq_false, beq_self_eq_true, bne_self_eq_false, Int.toNat_natCast]
  ·have h6' : ¬ (60 : Int) < (out.length : Int) := by omega
   simp only [h6, h6', and_self, and_true, true_and, decide_true, decide_false, if_true, if_false, mid_get, mid_set, mid_getn, mid_setn, bt_mid, Option.bind_some, Bool.not_true, Bool.not_false, Bool.false_eq_true, Bool.true_eq_false, beq_self_eq_true, bne_self_eq_false, Int.toNat_natCast]
   rw [Qbn out ⟨by omega, hI.ok⟩]
   cases booksB out <;> rfl
 ·intro k p w r out hx hw hI c0 c1 c2 cw g
  refine ⟨step p w out hw hI, ?_⟩
  have hpl : p.length ≤ 60 := by have := congrArg List.length hx; simp at this; omega
  have hil := hI.len
  have hr := room32n (n := out.length + [(kind, w, leftOf xs w)].length) (by simp; omega)
  simp only [QB.l7, QB.g7, c0, c1, cw, and_self, and_true, true_and, decide_true, decide_false, if_true, if_false, mid_get, mid_set, mid_getn, mid_setn, bt_mid, Option.bind_some, Bool.not_true, Bool.not_false, Bool.false_eq_true, Bool.true_eq_false, beq_self_eq_true, bne_self_eq_false, Int.toNat_natCast, g, Qbq xs _ h (by omega), hr]
  rfl
theorem SettleAll_both (xs : List Bkg) (kind : Int) (h : Lm OkBooking xs) : QH.f xs kind = some (stlR xs kind) ∧ QB.f xs kind = some (stlR xs kind) := by
 unfold QH.f QH.fn QH.top QB.f QB.fn QB.top stlR
 rw [Qbm xs h, Qbn xs h, Qbi, Qbh]
 cases hx : booksB xs
 ·exact ⟨rfl, rfl⟩
 have hv := booksB_val hx
 cases hk : inB kind 1 3
 ·exact ⟨rfl, rfl⟩
 obtain ⟨_, e1, e2⟩ := open_both xs hv.1 (by omega)
 obtain ⟨_, e3, e4⟩ := Settle_l xs kind (inB_iff.1 hk) h.2 hv.1 hv.2
 have hr := room32n (n := 0 + xs.length) (by omega)
 simp only [Option.bind_some, Bool.not_true, Bool.false_eq_true, if_false, if_true, List.length_nil, List.nil_append, hr, e1, e2, e3, e4, and_self]
end Go.Pl

namespace Go.Pl
open Go.Ev
set_option linter.unusedVariables false
noncomputable section
end
end Go.Pl

namespace Go.Pl
open Go.Ev
set_option linter.unusedVariables false
noncomputable section
end
end Go.Pl

namespace Go.Pl
open Go.Ev
set_option linter.unusedVariables false
set_option linter.unusedSimpArgs false
end Go.Pl

namespace Go.Pl
open Go.Ev
set_option linter.unusedVariables false
noncomputable section
end
end Go.Pl

namespace Go.Pl
open Go.Ev
set_option linter.unusedVariables false
noncomputable section
end
end Go.Pl

namespace Go.Pl
open Go.Ev
set_option linter.unusedVariables false
noncomputable section
end
end Go.Pl

namespace Go.Pl
open Go.Ev
set_option linter.unusedVariables false
noncomputable section
end
end Go.Pl

namespace Go.Pl
open Go.Ev
set_option linter.unusedVariables false
set_option linter.unusedSimpArgs false
end Go.Pl

namespace Go.Pl
open Go.Ev
set_option linter.unusedVariables false
noncomputable section
end
end Go.Pl

namespace Go.Pl
open Go.Ev
set_option linter.unusedVariables false
noncomputable section
end
end Go.Pl

namespace Go.Pl
open Go.Ev
set_option linter.unusedVariables false
set_option linter.unusedSimpArgs false
end Go.Pl

namespace Go.Pl
open Go.Ev
set_option linter.unusedVariables false
noncomputable section
end
end Go.Pl

namespace Go.Pl
open Go.Ev
set_option linter.unusedVariables false
noncomputable section
end
end Go.Pl

namespace Go.Pl
open Go.Ev
set_option linter.unusedVariables false
noncomputable section
end
end Go.Pl

namespace Go.Pl
open Go.Ev
set_option linter.unusedVariables false
noncomputable section
end
end Go.Pl

namespace Go.Pl
open Go.Ev
set_option linter.unusedVariables false
noncomputable section
end
end Go.Pl

namespace Go.Pl
open Go.Ev
set_option linter.unusedVariables false
noncomputable section
end
end Go.Pl

namespace Go.Pl
open Go.Ev
set_option linter.unusedVariables false
noncomputable section
end
end Go.Pl

namespace Go.Pl
open Go.Ev
set_option linter.unusedVariables false
noncomputable section
end
end Go.Pl

namespace Go.Pl
open Go.Ev
set_option linter.unusedVariables false
noncomputable section
end
end Go.Pl

namespace Go.Pl
open Go.Ev
set_option linter.unusedVariables false
set_option linter.unusedSimpArgs false
theorem leftOf_nonneg : ∀ (r p : List (Int × ByteArray × Int)) (a : ByteArray), okFrom p r = true → 0 ≤ leftOf p a → 0 ≤ leftOf (p ++ r) a := by
 intro r
 induction r with
 | nil => intro p a _ h; rwa [List.append_nil]
 | cons b r ih =>
  intro p a h hp
  simp only [okFrom, Bool.and_eq_true, decide_eq_true_eq] at h
  have := ih (p ++ [b]) a h.2 (by
   by_cases ha : b.2.1 = a
   ·rw [← ha]; exact h.1.2
   ·rw [leftOf_snoc]; unfold addL; rw [if_neg ha]; exact hp)
  rwa [List.append_assoc] at this
theorem tot0_mono (a : ByteArray) : ∀ (r p : List (Int × ByteArray × Int)), (∀ b ∈ p ++ r, valB b = true) → (totL p a).getD 0 0 ≤ (totL (p ++ r) a).getD 0 0 := by
 intro r
 induction r with
 | nil => intro p _; rw [List.append_nil]; exact Int.le_refl _
 | cons b r ih =>
  intro p h
  have h1 := ih (p ++ [b]) (by rw [List.append_assoc]; exact h)
  rw [List.append_assoc] at h1
  refine Int.le_trans ?_ h1
  have hv := valB_count (h b (by simp))
  obtain ⟨t0, t1, t2, t3, q1, q2⟩ := totL_shape a p (fun x hx => h x (by simp [hx]))
  rw [totL_snoc, q1]
  unfold addT
  split
  ·obtain h | h | h | h : b.1 = 0 ∨ b.1 = 1 ∨ b.1 = 2 ∨ b.1 = 3 := by omega
   all_goals (rw [h]; simp)
   omega
  ·exact Int.le_refl _
theorem left_tot0 (xs : List (Int × ByteArray × Int)) (a : ByteArray) (h : ∀ b ∈ xs, valB b = true) (n : Nat) : leftOf (xs.take n) a ≤ (totL xs a).getD 0 0 := by
 have h1 := tot0_mono a (xs.drop n) (xs.take n) (by rw [List.take_append_drop]; exact h)
 rw [List.take_append_drop] at h1
 obtain ⟨t0, t1, t2, t3, q1, q2, q3, q4, q5, q6, q7⟩ := totL_shape a (xs.take n) (fun x hx => h x (List.mem_of_mem_take hx))
 rw [q1] at h1
 have : ([t0, t1, t2, t3] : List Int).getD 0 0 = t0 := rfl
 rw [this] at h1
 omega
theorem most_le (xs : List (Int × ByteArray × Int)) (a : ByteArray) (h : ∀ b ∈ xs, valB b = true) (B : Int) (hB : ∀ n, leftOf (xs.take n) a ≤ B) : ∀ (r : List (Int × ByteArray × Int)) (i : Nat) (st : Int), st ≤ B → foldi (fun i st (_ : Int × ByteArray × Int) => mostF xs a i st) i st r ≤ B := by
 intro r
 induction r with
 | nil => intro i st hs; exact hs
 | cons b r ih =>
  intro i st hs
  refine ih (i + 1) _ ?_
  have := hB (i + 1)
  show mostF xs a i st ≤ B
  unfold mostF; split <;> omega
theorem most_ge (xs : List (Int × ByteArray × Int)) (a : ByteArray) : ∀ (r : List (Int × ByteArray × Int)) (i : Nat) (st : Int), st ≤ foldi (fun i st (_ : Int × ByteArray × Int) => mostF xs a i st) i st r ∧ (0 < r.length → leftOf (xs.take (i + r.length)) a ≤ foldi (fun i st (_ : Int × ByteArray × Int) => mostF xs a i st) i st r) := by
 intro r
 induction r with
 | nil => intro i st; exact ⟨Int.le_refl _, fun h => by simp at h⟩
 | cons b r ih =>
  intro i st
  have h1 := ih (i + 1) (mostF xs a i st)
  have h2 : st ≤ mostF xs a i st ∧ leftOf (xs.take (i + 1)) a ≤ mostF xs a i st := by unfold mostF; split <;> omega
  refine ⟨Int.le_trans h2.1 h1.1, fun _ => ?_⟩
  cases r with
  | nil => exact Int.le_trans h2.2 h1.1
  | cons c r =>
   have := h1.2 (by simp)
   rw [show i + (b :: c :: r).length = i + 1 + (c :: r).length by simp only [List.length_cons]; omega]
   exact this
theorem most_bd (xs : List (Int × ByteArray × Int)) (a : ByteArray) (h : booksB xs = true) : 0 ≤ leftOf xs a ∧ leftOf xs a ≤ mostL xs a ∧ mostL xs a ≤ (totL xs a).getD 0 0 := by
 have hv := booksB_val h
 have hok : okFrom [] xs = true := by
  unfold booksB at h
  simp only [Bool.and_eq_true] at h
  exact h.2
 have h0 := leftOf_nonneg xs [] a hok (Int.le_refl 0)
 rw [List.nil_append] at h0
 have ht := left_tot0 xs a hv.1
 refine ⟨h0, ?_, ?_⟩
 ·have := most_ge xs a xs 0 0
  unfold mostL
  cases xs with
  | nil => exact Int.le_refl 0
  | cons b r =>
   have h2 := this.2 (by simp)
   rw [Nat.zero_add, List.take_length] at h2
   exact h2
 ·unfold mostL
  refine most_le xs a hv.1 _ ht xs 0 0 ?_
  have := ht 0
  rw [List.take_zero] at this
  exact this
end Go.Pl

namespace Go.Pl
open Go.Ev
set_option linter.unusedVariables false
set_option linter.unusedSimpArgs false
def dg (n : Nat) : UInt8 := UInt8.ofNat (48 + n)
theorem decB1 {n : Int} (h0 : 0 ≤ n) (h : n < 10) : decB n = ob [dg n.toNat] := by
 obtain ⟨m, rfl⟩ : ∃ m : Nat, n = m := ⟨n.toNat, by omega⟩
 rw [decB_nat, digs_small (by omega)]; rfl
theorem Qbw (d : Int) : ∀ (n : Nat) (L : List UInt8) (k : Nat), (L.length : Int) + n = d → L.length + n ≤ 1000 → n < k → Q7.l2 NN k d (ob L) = some (ob (List.replicate n 48 ++ L)) := by
 intro n
 induction n with
 | zero =>
  intro L k h _ hk
  obtain ⟨k, rfl⟩ : ∃ j, k = j + 1 := ⟨k - 1, by omega⟩
  have e : ¬ (L.length : Int) < d := by omega
  simp [Q7.l2, Q7.g2, ob_size, e]
 | succ n ih =>
  intro L k h h2 hk
  obtain ⟨k, rfl⟩ : ∃ j, k = j + 1 := ⟨k - 1, by omega⟩
  have e : (L.length : Int) < d := by omega
  have c : (⟨#[48]⟩ : ByteArray) = ob [48] := rfl
  have q : ([48] : List UInt8).length + L.length ≤ 9223372036854775807 := by simp; omega
  simp only [Q7.l2, Q7.g2, ob_size, e, c, q, ob_append, and_self, and_true, true_and, decide_true, decide_false, if_true, if_false, mid_get, mid_set, mid_getn, mid_setn, bt_mid, Option.bind_some, Bool.not_true, Bool.not_false, Bool.false_eq_true, Bool.true_eq_false, beq_self_eq_true, bne_self_eq_false, Int.toNat_natCast]
  rw [ih _ k (by simp; omega) (by simp; omega) (by omega)]
  congr 2
  rw [List.replicate_succ']; simp
theorem QcL {n : Int} (h0 : 0 ≤ n) (h : n < 100) : Q7.f n 2 = some (ob [dg (n.toNat / 10), dg (n.toNat % 10)]) := by
 obtain ⟨m, rfl⟩ : ∃ m : Nat, n = m := ⟨n.toNat, by omega⟩
 rw [Int.toNat_natCast]
 unfold Q7.f Q7.fn Q7.top
 rw [Qbt (by omega) (by omega), decB_nat, Option.bind_some]
 by_cases h1 : m < 10
 ·rw [digs_small h1, Qbw 2 1 _ NN (by simp) (by simp) (NN_lt (by omega))]
  have e1 : m / 10 = 0 := by omega
  have e2 : m % 10 = m := by omega
  rw [e1, e2]; rfl
 ·rw [digs_big h1, digs_small (show m / 10 < 10 by omega), Qbw 2 0 _ NN (by simp) (by simp) (NN_lt (by omega))]; rfl
theorem QcM {n : Int} (h0 : 0 ≤ n) (h : n < 1000) : Q7.f n 3 = some (ob [dg (n.toNat / 100), dg (n.toNat / 10 % 10), dg (n.toNat % 10)]) := by
 obtain ⟨m, rfl⟩ : ∃ m : Nat, n = m := ⟨n.toNat, by omega⟩
 rw [Int.toNat_natCast]
 unfold Q7.f Q7.fn Q7.top
 rw [Qbt (by omega) (by omega), decB_nat, Option.bind_some]
 by_cases h1 : m < 10
 ·rw [digs_small h1, Qbw 3 2 _ NN (by simp) (by simp) (NN_lt (by omega))]
  have e1 : m / 10 % 10 = 0 := by omega
  have e2 : m % 10 = m := by omega
  have e3 : m / 100 = 0 := by omega
  rw [e1, e2, e3]; rfl
 ·by_cases h2 : m < 100
  ·rw [digs_big h1, digs_small (show m / 10 < 10 by omega), Qbw 3 1 _ NN (by simp) (by simp) (NN_lt (by omega))]
   have e1 : m / 10 % 10 = m / 10 := by omega
   have e3 : m / 100 = 0 := by omega
   rw [e1, e3]; rfl
  ·rw [digs_big h1, digs_big (show ¬ m / 10 < 10 by omega), digs_small (show m / 10 / 10 < 10 by omega), Qbw 3 0 _ NN (by simp) (by simp) (NN_lt (by omega))]
   have e3 : m / 10 / 10 = m / 100 := by omega
   rw [e3]; rfl
noncomputable def ttR (t : Int) : ByteArray × Int := (Qat.f t).getD (ByteArray.empty, 0)
theorem TimeText_both (t : Int) : QaM.f t = some (ttR t) ∧ Qat.f t = some (ttR t) ∧ (ttR t).1.size ≤ 40 := by
 have key : ∃ v, QaM.f t = some v ∧ Qat.f t = some v ∧ v.1.size ≤ 40 := by
  unfold QaM.f QaM.fn QaM.top Qat.f Qat.fn Qat.top
  rw [Qbo, QbA]
  cases ht : inB t 0 10000000
  ·exact ⟨(⟨#[]⟩, 2), rfl, rfl, by decide⟩
  have ht' := inB_iff.1 ht
  have d1 : Int.tdiv t 60000 = t / 60000 := Int.tdiv_eq_ediv_of_nonneg ht'.1
  have d2 : Int.tdiv t 1000 = t / 1000 := Int.tdiv_eq_ediv_of_nonneg ht'.1
  have m1 : Int.tmod t 1000 = t % 1000 := Int.tmod_eq_emod_of_nonneg ht'.1
  have m2 : Int.tmod (t / 1000) 60 = t / 1000 % 60 := Int.tmod_eq_emod_of_nonneg (by omega)
  have d3 : Int.tdiv (t / 1000 % 60) 10 = t / 1000 % 60 / 10 := Int.tdiv_eq_ediv_of_nonneg (by omega)
  have m3 : Int.tmod (t / 1000 % 60) 10 = t / 1000 % 60 % 10 := Int.tmod_eq_emod_of_nonneg (by omega)
  have d4 : Int.tdiv (t % 1000) 100 = t % 1000 / 100 := Int.tdiv_eq_ediv_of_nonneg (by omega)
  have d5 : Int.tdiv (t % 1000) 10 = t % 1000 / 10 := Int.tdiv_eq_ediv_of_nonneg (by omega)
  have m4 : Int.tmod (t % 1000 / 10) 10 = t % 1000 / 10 % 10 := Int.tmod_eq_emod_of_nonneg (by omega)
  have m5 : Int.tmod (t % 1000) 10 = t % 1000 % 10 := Int.tmod_eq_emod_of_nonneg (by omega)
  have hsz := decB_size (n := t / 60000) (by omega) (by omega)
  have hd : ∃ L, decB (t / 60000) = ob L := ⟨_, rfl⟩
  obtain ⟨L, hL⟩ := hd
  rw [hL, ob_size] at hsz
  have c58 : (⟨#[58]⟩ : ByteArray) = ob [58] := rfl
  have c46 : (⟨#[46]⟩ : ByteArray) = ob [46] := rfl
  have T1 : QaK.f t = some (ob (L ++ [58] ++ [dg ((t / 1000 % 60).toNat / 10), dg ((t / 1000 % 60).toNat % 10)] ++ [46] ++ [dg ((t % 1000).toNat / 100), dg ((t % 1000).toNat / 10 % 10), dg ((t % 1000).toNat % 10)])) := by
   unfold QaK.f QaK.fn QaK.top
   rw [d1, d2, m1, w64 (n := t / 60000) (by omega) (by omega), w64 (n := t / 1000) (by omega) (by omega), m2, Qbt (n := t / 60000) (by omega) (by omega), QcL (n := t / 1000 % 60) (by omega) (by omega), QcM (n := t % 1000) (by omega) (by omega), hL]
   simp only [Option.bind_some, c58, c46, ob_append, ob_size, List.length_append, List.length_cons, List.length_nil]
   rw [if_pos (by omega), if_pos (by omega), if_pos (by omega), if_pos (by omega)]
  have T2 : Qa0.f t = some (ob (L ++ [58] ++ [dg ((t / 1000 % 60).toNat / 10), dg ((t / 1000 % 60).toNat % 10)] ++ [46] ++ [dg ((t % 1000).toNat / 100), dg ((t % 1000).toNat / 10 % 10), dg ((t % 1000).toNat % 10)])) := by
   unfold Qa0.f Qa0.fn Qa0.top
   rw [d1, d2, m1, w64 (n := t / 60000) (by omega) (by omega), w64 (n := t / 1000) (by omega) (by omega), m2, d3, m3, d4, d5, w64 (n := t / 1000 % 60 / 10) (by omega) (by omega), w64 (n := t % 1000 / 100) (by omega) (by omega), w64 (n := t % 1000 / 10) (by omega) (by omega), m4, m5]
   rw [Qbk (n := t / 60000) (by omega) (by omega), Qbk (n := t / 1000 % 60 / 10) (by omega) (by omega), Qbk (n := t / 1000 % 60 % 10) (by omega) (by omega), Qbk (n := t % 1000 / 100) (by omega) (by omega), Qbk (n := t % 1000 / 10 % 10) (by omega) (by omega), Qbk (n := t % 1000 % 10) (by omega) (by omega), hL]
   rw [decB1 (n := t / 1000 % 60 / 10) (by omega) (by omega), decB1 (n := t / 1000 % 60 % 10) (by omega) (by omega), decB1 (n := t % 1000 / 100) (by omega) (by omega), decB1 (n := t % 1000 / 10 % 10) (by omega) (by omega), decB1 (n := t % 1000 % 10) (by omega) (by omega)]
   simp only [Option.bind_some, c58, c46, ob_append, ob_size, List.length_append, List.length_cons, List.length_nil]
   rw [if_pos (by omega), if_pos (by omega), if_pos (by omega), if_pos (by omega), if_pos (by omega), if_pos (by omega), if_pos (by omega)]
   have e1 : (t / 1000 % 60 / 10).toNat = (t / 1000 % 60).toNat / 10 := by omega
   have e2 : (t / 1000 % 60 % 10).toNat = (t / 1000 % 60).toNat % 10 := by omega
   have e3 : (t % 1000 / 100).toNat = (t % 1000).toNat / 100 := by omega
   have e4 : (t % 1000 / 10 % 10).toNat = (t % 1000).toNat / 10 % 10 := by omega
   have e5 : (t % 1000 % 10).toNat = (t % 1000).toNat % 10 := by omega
   rw [e1, e2, e3, e4, e5]
   simp
  simp only [and_self, and_true, true_and, decide_true, decide_false, if_true, if_false, mid_get, mid_set, mid_getn, mid_setn, bt_mid, Option.bind_some, Bool.not_true, Bool.not_false, Bool.false_eq_true, Bool.true_eq_false, beq_self_eq_true, bne_self_eq_false, Int.toNat_natCast, T1, T2]
  refine ⟨_, rfl, rfl, ?_⟩
  simp only [ob_size, List.length_append, List.length_cons, List.length_nil]; omega
 obtain ⟨v, h1, h2, h3⟩ := key
 have : ttR t = v := by unfold ttR; rw [h2]; rfl
 rw [this]
 exact ⟨h1, h2, h3⟩
end Go.Pl

namespace Go.Pl
open Go.Ev
set_option linter.unusedVariables false
set_option linter.unusedSimpArgs false
theorem mul_le2 {a b A B : Int} (ha : 0 ≤ a) (hA : a ≤ A) (hb : 0 ≤ b) (hB : b ≤ B) : 0 ≤ a * b ∧ a * b ≤ A * B :=
 ⟨Int.mul_nonneg ha hb, Int.mul_le_mul hA hB hb (by omega)⟩
def cub (m : Int) : Int := m * m * m
theorem cub_le {a b : Int} (ha : 0 ≤ a) (h : a ≤ b) : cub a ≤ cub b := by
 have h1 := mul_le2 ha h ha h
 exact (mul_le2 h1.1 h1.2 ha h).2
theorem cub_bd {m : Int} (h0 : 0 ≤ m) (h1 : m ≤ 300000) : (0 ≤ m * m ∧ m * m ≤ 90000000000) ∧ 0 ≤ m * m * m ∧ m * m * m ≤ 27000000000000000 := by
 have a := mul_le2 h0 h1 h0 h1
 have b := mul_le2 a.1 a.2 h0 h1
 refine ⟨⟨a.1, by omega⟩, b.1, by omega⟩
def SepP (c h : Int) : Prop := 0 ≤ h ∧ h ≤ 300000 ∧ c ≤ cub h ∧ (h = 0 ∨ cub (h - 1) < c)
theorem sep_one {c h i : Int} (a : SepP c h) (b : SepP c i) : h = i := by
 obtain ⟨a1, a2, a3, a4⟩ := a
 obtain ⟨b1, b2, b3, b4⟩ := b
 rcases Int.lt_trichotomy h i with hlt | heq | hgt
 ·rcases b4 with b4 | b4
  ·omega
  ·have := cub_le a1 (show h ≤ i - 1 by omega); omega
 ·exact heq
 ·rcases a4 with a4 | a4
  ·omega
  ·have := cub_le b1 (show i ≤ h - 1 by omega); omega
theorem half {a b : Int} (h : 0 ≤ a + b) : Int.tdiv (a + b) 2 = (a + b) / 2 := Int.tdiv_eq_ediv_of_nonneg h
theorem QcY (c : Int) : ∀ (n : Nat) (low high : Int) (k : Nat), 0 ≤ low → low ≤ high → high ≤ 300000 → high - low ≤ n → c ≤ cub high → (low = 0 ∨ cub (low - 1) < c) → n < k →
  ∃ h, Qv.l3 NN k c low high = some h ∧ SepP c h := by
 intro n
 induction n with
 | zero =>
  intro low high k h0 h1 h2 h3 h4 h5 hk
  obtain ⟨k, rfl⟩ : ∃ j, k = j + 1 := ⟨k - 1, by omega⟩
  have e : ¬ low < high := by omega
  have e2 : high = low := by omega
  refine ⟨low, by simp [Qv.l3, Qv.g3, e], h0, by omega, by rw [← e2]; exact h4, h5⟩
 | succ n ih =>
  intro low high k h0 h1 h2 h3 h4 h5 hk
  obtain ⟨k, rfl⟩ : ∃ j, k = j + 1 := ⟨k - 1, by omega⟩
  by_cases e : low < high
  ·have w1 := w64 (n := low + high) (by omega) (by omega)
   have w2 := w64 (n := (low + high) / 2) (by omega) (by omega)
   have hb := cub_bd (m := (low + high) / 2) (by omega) (by omega)
   have w3 := w64 (n := (low + high) / 2 * ((low + high) / 2)) (by omega) (by omega)
   have hb2 : 0 ≤ cub ((low + high) / 2) ∧ cub ((low + high) / 2) ≤ 27000000000000000 := hb.2
   have w4 := w64 (n := cub ((low + high) / 2)) (by omega) (by omega)
   have w5 := w64 (n := (low + high) / 2 + 1) (by omega) (by omega)
   have ec : (low + high) / 2 * ((low + high) / 2) * ((low + high) / 2) = cub ((low + high) / 2) := rfl
   simp only [Qv.l3, Qv.g3, e, w1, half (show 0 ≤ low + high by omega), w2, w3, w4, w5, ec, and_self, and_true, true_and, decide_true, decide_false, if_true, if_false, mid_get, mid_set, mid_getn, mid_setn, bt_mid, Option.bind_some, Bool.not_true, Bool.not_false, Bool.false_eq_true, Bool.true_eq_false, beq_self_eq_true, bne_self_eq_false, Int.toNat_natCast]
   by_cases q : c ≤ cub ((low + high) / 2)
   ·simp only [q, and_self, and_true, true_and, decide_true, decide_false, if_true, if_false, mid_get, mid_set, mid_getn, mid_setn, bt_mid, Option.bind_some, Bool.not_true, Bool.not_false, Bool.false_eq_true, Bool.true_eq_false, beq_self_eq_true, bne_self_eq_false, Int.toNat_natCast]
    exact ih low ((low + high) / 2) k h0 (by omega) (by omega) (by omega) q h5 (by omega)
   ·simp only [q, and_self, and_true, true_and, decide_true, decide_false, if_true, if_false, mid_get, mid_set, mid_getn, mid_setn, bt_mid, Option.bind_some, Bool.not_true, Bool.not_false, Bool.false_eq_true, Bool.true_eq_false, beq_self_eq_true, bne_self_eq_false, Int.toNat_natCast]
    refine ih ((low + high) / 2 + 1) high k (by omega) (by omega) h2 (by omega) h4 (.inr ?_) (by omega)
    rw [Int.add_sub_cancel]; omega
  ·have e2 : high = low := by omega
   refine ⟨low, by simp [Qv.l3, Qv.g3, e], h0, by omega, by rw [← e2]; exact h4, h5⟩
theorem QbV {m : Int} (h0 : 0 ≤ m) (h1 : m ≤ 300000) : QaW.f m = some (cub m) := by
 have hb := cub_bd h0 h1
 unfold QaW.f QaW.fn QaW.top cub
 rw [w64 (n := m * m) (by omega) (by omega), w64 (by omega) (by omega)]
theorem QcZ (f g : Int) (hf : 0 ≤ f ∧ f ≤ 500) (hc : 0 ≤ cub f * g ∧ cub f * g ≤ 12500000000000000) : ∀ (n : Nat) (low high : Int) (k : Nat), -1 ≤ low → low < high → high ≤ 300000 → high - low ≤ n → cub f * g ≤ cub high → (low = -1 ∨ cub low < cub f * g) → n < k →
  ∃ h, Q8.l2 NN k f g low high = some h ∧ SepP (cub f * g) h := by
 intro n
 induction n with
 | zero => intro low high k _ _ _ _ _ _ _; omega
 | succ n ih =>
  intro low high k h0 h1 h2 h3 h4 h5 hk
  obtain ⟨k, rfl⟩ : ∃ j, k = j + 1 := ⟨k - 1, by omega⟩
  have w0 := w64 (n := low + 1) (by omega) (by omega)
  by_cases e : low + 1 < high
  ·have w1 := w64 (n := low + high) (by omega) (by omega)
   have w2 := w64 (n := (low + high) / 2) (by omega) (by omega)
   have w3 := w64 (n := cub f * g) (by omega) (by omega)
   simp only [Q8.l2, Q8.g2, e, w0, w1, half (show 0 ≤ low + high by omega), w2, QbV (show 0 ≤ (low + high) / 2 by omega) (by omega), QbV hf.1 (show f ≤ 300000 by omega), w3, and_self, and_true, true_and, decide_true, decide_false, if_true, if_false, mid_get, mid_set, mid_getn, mid_setn, bt_mid, Option.bind_some, Bool.not_true, Bool.not_false, Bool.false_eq_true, Bool.true_eq_false, beq_self_eq_true, bne_self_eq_false, Int.toNat_natCast]
   by_cases q : cub f * g ≤ cub ((low + high) / 2)
   ·simp only [q, and_self, and_true, true_and, decide_true, decide_false, if_true, if_false, mid_get, mid_set, mid_getn, mid_setn, bt_mid, Option.bind_some, Bool.not_true, Bool.not_false, Bool.false_eq_true, Bool.true_eq_false, beq_self_eq_true, bne_self_eq_false, Int.toNat_natCast]
    exact ih low ((low + high) / 2) k h0 (by omega) (by omega) (by omega) q h5 (by omega)
   ·simp only [q, and_self, and_true, true_and, decide_true, decide_false, if_true, if_false, mid_get, mid_set, mid_getn, mid_setn, bt_mid, Option.bind_some, Bool.not_true, Bool.not_false, Bool.false_eq_true, Bool.true_eq_false, beq_self_eq_true, bne_self_eq_false, Int.toNat_natCast]
    exact ih ((low + high) / 2) high k (by omega) (by omega) h2 (by omega) h4 (.inr (by omega)) (by omega)
  ·have e2 : high = low + 1 := by omega
   refine ⟨high, by simp [Q8.l2, Q8.g2, e, w0], by omega, h2, h4, ?_⟩
   rcases h5 with h5 | h5
   ·exact .inl (by omega)
   ·right; rw [e2, Int.add_sub_cancel]; exact h5
noncomputable def sepR (f g : Int) : Int × Int := (Qac.f f g).getD (0, 0)
theorem SeparationFor_both (f g : Int) : Qal.f f g = some (sepR f g) ∧ Qac.f f g = some (sepR f g) ∧ 0 ≤ (sepR f g).1 ∧ (sepR f g).1 ≤ 300000 := by
  have key : ∃ v, Qal.f f g = some v ∧ Qac.f f g = some v ∧ 0 ≤ v.1 ∧ v.1 ≤ 300000 := by
    unfold Qal.f Qal.fn Qal.top Qa5.f Qa5.fn Qa5.top Qac.f Qac.fn Qac.top QaE.f QaE.fn QaE.top QaD.f QaD.fn QaD.top
    rw [Qbi, Qbi, Qbh, Qbh]
    cases hf : inB f 0 500
    · exact ⟨(0, 2), rfl, rfl, by simp, by simp⟩
    cases hg : inB g 0 100000000
    · exact ⟨(0, 2), rfl, rfl, by simp, by simp⟩
    have hf' := inB_iff.1 hf
    have hg' := inB_iff.1 hg
    have e : ((0 : Int) != 0) = false := rfl
    have a := mul_le2 hf'.1 hf'.2 hf'.1 hf'.2
    have b := mul_le2 a.1 a.2 hf'.1 hf'.2
    have c := mul_le2 b.1 b.2 hg'.1 hg'.2
    have ec : f * f * f = cub f := rfl
    rw [ec] at b c
    have w1 := w64 (n := f * f) (by omega) (by omega)
    have w2 := w64 (n := cub f) (by omega) (by omega)
    have w3 := w64 (n := cub f * g) (by omega) (by omega)
    have hi : cub f * g ≤ cub 300000 := by have : cub 300000 = 27000000000000000 := by decide +kernel
                                           omega
    obtain ⟨x, hx, px⟩ := QcZ f g hf' ⟨c.1, by omega⟩ 300001 (-1) 300000 NN (by omega) (by omega) (by omega) (by omega) hi (.inl rfl) (NN_lt (by omega))
    obtain ⟨y, hy, py⟩ := QcY (cub f * g) 300001 0 300000 NN (by omega) (by omega) (by omega) (by omega) hi (.inl rfl) (NN_lt (by omega))
    have hxy := sep_one px py
    subst hxy
    refine ⟨(x, 0), ?_, ?_, px.1, px.2.1⟩
    · simp only [e, and_self, and_true, true_and, decide_true, decide_false, if_true, if_false, mid_get, mid_set, mid_getn, mid_setn, bt_mid, Option.bind_some, Bool.not_true, Bool.not_false, Bool.false_eq_true, Bool.true_eq_false, beq_self_eq_true, bne_self_eq_false, Int.toNat_natCast]
      unfold Q8.f Q8.fn Q8.top
      rw [hx]; rfl
    · simp only [and_self, and_true, true_and, decide_true, decide_false, if_true, if_false, mid_get, mid_set, mid_getn, mid_setn, bt_mid, Option.bind_some, Bool.not_true, Bool.not_false, Bool.false_eq_true, Bool.true_eq_false, beq_self_eq_true, bne_self_eq_false, Int.toNat_natCast]
      unfold Qv.f Qv.fn Qv.top
      rw [w1, ec, w2, w3, hy]; rfl
  obtain ⟨v, h1, h2, h3⟩ := key
  have : sepR f g = v := by unfold sepR; rw [h2]; rfl
  rw [this]
  exact ⟨h1, h2, h3⟩
end Go.Pl

namespace Go.Pl
open Go.Ev
set_option linter.unusedVariables false
set_option linter.unusedSimpArgs false
theorem floor2 (a : Int) (h0 : -9000000000000000000 ≤ a) (h1 : a ≤ 9000000000000000000) : (if decide (Int.tmod a 2000000 < 0) = true then some (IntKind.i64.wrap (IntKind.i64.wrap (Int.tdiv a 2000000) - 1)) else some (IntKind.i64.wrap (Int.tdiv a 2000000))) = some (a / 2000000) := by
 have h := Int.mul_tdiv_add_tmod a 2000000
 have hb : -2000000 < Int.tmod a 2000000 ∧ Int.tmod a 2000000 < 2000000 := ⟨Int.lt_tmod_of_pos a (by omega), Int.tmod_lt_of_pos a (by omega)⟩
 have hs : (0 ≤ a → 0 ≤ Int.tmod a 2000000) := fun h => Int.tmod_nonneg _ h
 generalize Int.tmod a 2000000 = r at *
 generalize Int.tdiv a 2000000 = q at *
 by_cases hr : r < 0
 ·simp only [hr, decide_true, if_true]
  rw [w64 (n := q) (by omega) (by omega), w64 (by omega) (by omega)]
  congr 1; omega
 ·simp only [hr, decide_false, Bool.false_eq_true, if_false]
  rw [w64 (by omega) (by omega)]
  congr 1; omega
def numN (u t : Int) : Int := 2000 * u * t - 9810 * t * t
def HN (u t : Int) : Int := numN u t / 2000000
theorem num_bd {u t : Int} (hu : 0 ≤ u ∧ u ≤ 200000) (ht : 0 ≤ t ∧ t ≤ 60000) : (0 ≤ 2000 * u * t ∧ 2000 * u * t ≤ 24000000000000) ∧ 0 ≤ 9810 * t * t ∧ 9810 * t * t ≤ 35316000000000 := by
 have a := mul_le2 (show 0 ≤ 2000 * u by omega) (show 2000 * u ≤ 400000000 by omega) ht.1 ht.2
 have b := mul_le2 (show 0 ≤ 9810 * t by omega) (show 9810 * t ≤ 588600000 by omega) ht.1 ht.2
 omega
theorem QbD {u t : Int} (hu : 0 ≤ u ∧ u ≤ 200000) (ht : 0 ≤ t ∧ t ≤ 60000) : QaF.f u t = some (HN u t) := by
 have b := num_bd hu ht
 unfold QaF.f QaF.fn QaF.top QaU.f QaU.fn QaU.top
 rw [w64 (n := 2000 * u) (by omega) (by omega), w64 (n := 2000 * u * t) (by omega) (by omega), w64 (n := 9810 * t) (by omega) (by omega), w64 (n := 9810 * t * t) (by omega) (by omega), w64 (by omega) (by omega)]
 have := floor2 (2000 * u * t - 9810 * t * t) (by omega) (by omega)
 rw [if_neg (by omega), if_neg (by omega)]
 exact (congrArg (·.bind fun r1 => some r1) this).trans rfl
theorem Qbl {u t : Int} (hu : 0 ≤ u ∧ u ≤ 200000) (ht : 0 ≤ t ∧ t ≤ 60000) : Qau.f u t = some (HN u t) := by
 have b := num_bd hu ht
 unfold Qau.f Qau.fn Qau.top QaV.f QaV.fn QaV.top
 rw [w64 (n := 2000 * u) (by omega) (by omega), w64 (n := 2000 * u * t) (by omega) (by omega), w64 (n := 9810 * t) (by omega) (by omega), w64 (n := 9810 * t * t) (by omega) (by omega), w64 (n := 2000 * u * t - 9810 * t * t) (by omega) (by omega)]
 have := floor2 (2000 * u * t - 9810 * t * t) (by omega) (by omega)
 rw [if_neg (by decide), if_neg (by omega), if_neg (by omega)]
 exact (congrArg (·.bind fun r1 => some r1) this).trans rfl
def lastT (u : Int) : Int := 1000 * u / 9810
theorem HN_step {u t : Int} (ht : 0 ≤ t) (h : t + 1 ≤ lastT u) : HN u t ≤ HN u (t + 1) := by
 unfold lastT at h
 have e1 : 2000 * u * (t + 1) = 2000 * u * t + 2000 * u := by rw [Int.mul_add, Int.mul_one]
 have e2 : 9810 * (t + 1) * (t + 1) = 9810 * t * t + 19620 * t + 9810 := by
  rw [Int.mul_add, Int.mul_add, Int.mul_one, Int.add_mul]; omega
 unfold HN numN
 rw [e1, e2]
 omega
theorem HN_mono {u : Int} : ∀ (n : Nat) {s : Int}, 0 ≤ s → s + n ≤ lastT u → HN u s ≤ HN u (s + n) := by
 intro n
 induction n with
 | zero => intro s _ _; simp
 | succ n ih =>
  intro s h0 h
  have a := ih (s := s) h0 (by omega)
  have b := HN_step (u := u) (t := s + n) (by omega) (by omega)
  rw [show s + ((n + 1 : Nat) : Int) = s + n + 1 by omega]
  omega
theorem HN_le {u s t : Int} (h0 : 0 ≤ s) (h : s ≤ t) (ht : t ≤ lastT u) : HN u s ≤ HN u t := by
 have := HN_mono (u := u) (t - s).toNat (s := s) h0 (by omega)
 rwa [show s + ((t - s).toNat : Int) = t by omega] at this
def TopP (u v : Int) : Prop := 0 ≤ v ∧ v ≤ lastT u ∧ HN u v = HN u (lastT u) ∧ (v = 0 ∨ HN u (v - 1) ≠ HN u (lastT u))
theorem top_one {u v w : Int} (a : TopP u v) (b : TopP u w) : v = w := by
 obtain ⟨a1, a2, a3, a4⟩ := a
 obtain ⟨b1, b2, b3, b4⟩ := b
 rcases Int.lt_trichotomy v w with h | h | h
 ·have h1 := HN_le a1 (show v ≤ w - 1 by omega) (show w - 1 ≤ lastT u by omega)
  have h2 := HN_le (show 0 ≤ w - 1 by omega) (show w - 1 ≤ lastT u by omega) (Int.le_refl _)
  rcases b4 with b4 | b4 <;> omega
 ·exact h
 ·have h1 := HN_le b1 (show w ≤ v - 1 by omega) (show v - 1 ≤ lastT u by omega)
  have h2 := HN_le (show 0 ≤ v - 1 by omega) (show v - 1 ≤ lastT u by omega) (Int.le_refl _)
  rcases a4 with a4 | a4 <;> omega
theorem last_bd {u : Int} (hu : 0 ≤ u ∧ u ≤ 200000) : 0 ≤ lastT u ∧ lastT u ≤ 20388 := by unfold lastT; omega
theorem Qc0 {u : Int} (hu : 0 ≤ u ∧ u ≤ 200000) : ∀ (n : Nat) (low high : Int) (k : Nat), 0 ≤ low → low ≤ high → high ≤ lastT u → high - low ≤ n → HN u high = HN u (lastT u) → (low = 0 ∨ HN u (low - 1) < HN u (lastT u)) → n < k →
  ∃ v, Qae.l7 NN k u (HN u (lastT u)) low high = some (v, HN u (lastT u)) ∧ TopP u v := by
 intro n
 have hl := last_bd hu
 have fin : ∀ (low high : Int) (k : Nat), 0 ≤ low → low ≤ high → high ≤ lastT u → HN u high = HN u (lastT u) → (low = 0 ∨ HN u (low - 1) < HN u (lastT u)) → ¬ low < high → ∃ v, Qae.l7 NN (k + 1) u (HN u (lastT u)) low high = some (v, HN u (lastT u)) ∧ TopP u v := by
  intro low high k h0 h1 h2 h4 h5 e
  have e2 : high = low := by omega
  refine ⟨low, by simp [Qae.l7, Qae.g7, e], h0, by omega, by rw [← e2]; exact h4, ?_⟩
  rcases h5 with h5 | h5
  ·exact .inl h5
  ·exact .inr (by omega)
 induction n with
 | zero =>
  intro low high k h0 h1 h2 h3 h4 h5 hk
  obtain ⟨k, rfl⟩ : ∃ j, k = j + 1 := ⟨k - 1, by omega⟩
  exact fin low high k h0 h1 h2 h4 h5 (by omega)
 | succ n ih =>
  intro low high k h0 h1 h2 h3 h4 h5 hk
  obtain ⟨k, rfl⟩ : ∃ j, k = j + 1 := ⟨k - 1, by omega⟩
  by_cases e : low < high
  ·have w1 := w64 (n := low + high) (by omega) (by omega)
   have w2 := w64 (n := (low + high) / 2) (by omega) (by omega)
   have w5 := w64 (n := (low + high) / 2 + 1) (by omega) (by omega)
   have hm := HN_le (u := u) (show 0 ≤ (low + high) / 2 by omega) (show (low + high) / 2 ≤ lastT u by omega) (Int.le_refl _)
   simp only [Qae.l7, Qae.g7, e, w1, half (show 0 ≤ low + high by omega), w2, w5, QbD hu (show 0 ≤ (low + high) / 2 ∧ (low + high) / 2 ≤ 60000 by omega), and_self, and_true, true_and, decide_true, decide_false, if_true, if_false, mid_get, mid_set, mid_getn, mid_setn, bt_mid, Option.bind_some, Bool.not_true, Bool.not_false, Bool.false_eq_true, Bool.true_eq_false, beq_self_eq_true, bne_self_eq_false, Int.toNat_natCast]
   by_cases q : HN u (lastT u) ≤ HN u ((low + high) / 2)
   ·simp only [q, and_self, and_true, true_and, decide_true, decide_false, if_true, if_false, mid_get, mid_set, mid_getn, mid_setn, bt_mid, Option.bind_some, Bool.not_true, Bool.not_false, Bool.false_eq_true, Bool.true_eq_false, beq_self_eq_true, bne_self_eq_false, Int.toNat_natCast]
    exact ih low ((low + high) / 2) k h0 (by omega) (by omega) (by omega) (by omega) h5 (by omega)
   ·simp only [q, and_self, and_true, true_and, decide_true, decide_false, if_true, if_false, mid_get, mid_set, mid_getn, mid_setn, bt_mid, Option.bind_some, Bool.not_true, Bool.not_false, Bool.false_eq_true, Bool.true_eq_false, beq_self_eq_true, bne_self_eq_false, Int.toNat_natCast]
    refine ih ((low + high) / 2 + 1) high k (by omega) (by omega) h2 (by omega) h4 (.inr ?_) (by omega)
    rw [Int.add_sub_cancel]; omega
  ·exact fin low high k h0 h1 h2 h4 h5 e
theorem Qc1 {u : Int} (hu : 0 ≤ u ∧ u ≤ 200000) : ∀ (n : Nat) (t : Int) (k : Nat), t = n → t ≤ lastT u → HN u t = HN u (lastT u) → n < k →
  ∃ v, Qaa.l3 NN k u t (HN u (lastT u)) = some (v, HN u (lastT u)) ∧ TopP u v := by
 have hl := last_bd hu
 intro n
 induction n with
 | zero =>
  intro t k ht h2 h4 hk
  obtain ⟨k, rfl⟩ : ∃ j, k = j + 1 := ⟨k - 1, by omega⟩
  have e : ¬ 0 < t := by omega
  refine ⟨t, ?_, by omega, h2, h4, .inl (by omega)⟩
  simp only [Qaa.l3, Qaa.g3, e, Qbl hu (show 0 ≤ t ∧ t ≤ 60000 by omega), h4, Int.lt_irrefl, and_self, and_true, true_and, decide_true, decide_false, if_true, if_false, mid_get, mid_set, mid_getn, mid_setn, bt_mid, Option.bind_some, Bool.not_true, Bool.not_false, Bool.false_eq_true, Bool.true_eq_false, beq_self_eq_true, bne_self_eq_false, Int.toNat_natCast]
 | succ n ih =>
  intro t k ht h2 h4 hk
  obtain ⟨k, rfl⟩ : ∃ j, k = j + 1 := ⟨k - 1, by omega⟩
  have e : 0 < t := by omega
  have w := w64 (n := t - 1) (by omega) (by omega)
  simp only [Qaa.l3, Qaa.g3, e, w, Qbl hu (show 0 ≤ t ∧ t ≤ 60000 by omega), Qbl hu (show 0 ≤ t - 1 ∧ t - 1 ≤ 60000 by omega), h4, Int.lt_irrefl, and_self, and_true, true_and, decide_true, decide_false, if_true, if_false, mid_get, mid_set, mid_getn, mid_setn, bt_mid, Option.bind_some, Bool.not_true, Bool.not_false, Bool.false_eq_true, Bool.true_eq_false, beq_self_eq_true, bne_self_eq_false, Int.toNat_natCast]
  by_cases q : HN u (t - 1) = HN u (lastT u)
  ·have q' : (HN u (t - 1) == HN u (lastT u)) = true := by simpa using q
   simp only [q', and_self, and_true, true_and, decide_true, decide_false, if_true, if_false, mid_get, mid_set, mid_getn, mid_setn, bt_mid, Option.bind_some, Bool.not_true, Bool.not_false, Bool.false_eq_true, Bool.true_eq_false, beq_self_eq_true, bne_self_eq_false, Int.toNat_natCast]
   exact ih (t - 1) k (by omega) (by omega) q (by omega)
  ·have q' : (HN u (t - 1) == HN u (lastT u)) = false := by simpa using q
   simp only [q', and_self, and_true, true_and, decide_true, decide_false, if_true, if_false, mid_get, mid_set, mid_getn, mid_setn, bt_mid, Option.bind_some, Bool.not_true, Bool.not_false, Bool.false_eq_true, Bool.true_eq_false, beq_self_eq_true, bne_self_eq_false, Int.toNat_natCast]
   exact ⟨t, rfl, by omega, h2, h4, .inr q⟩
noncomputable def topR (u : Int) : Int × Int × Int := (QaX.f u).getD (0, 0, 0)
theorem TopOf_both (u : Int) : Qbc.f u = some (topR u) ∧ QaX.f u = some (topR u) ∧ (0 ≤ (topR u).1 ∧ (topR u).1 ≤ 1000000000) ∧ 0 ≤ (topR u).2.1 ∧ (topR u).2.1 ≤ 1000000000 := by
 have key : ∃ v, Qbc.f u = some v ∧ QaX.f u = some v ∧ (0 ≤ v.1 ∧ v.1 ≤ 1000000000) ∧ 0 ≤ v.2.1 ∧ v.2.1 ≤ 1000000000 := by
  unfold Qbc.f Qbc.fn Qbc.top Qa6.f Qa6.fn Qa6.top QaX.f QaX.fn QaX.top Qbe.f Qbe.fn Qbe.top
  rw [Qbi, Qbi, Qbi, Qbh]
  cases hu : inB u 0 200000
  ·exact ⟨(0, 0, 2), rfl, rfl, by simp, by simp⟩
  have hu' := inB_iff.1 hu
  have hl := last_bd hu'
  have e1 : inB 0 (-50000) 50000 = true := rfl
  have e2 : inB 0 0 60000 = true := rfl
  have e : ((0 : Int) != 0) = false := rfl
  simp only [e1, e2, e, and_self, and_true, true_and, decide_true, decide_false, if_true, if_false, mid_get, mid_set, mid_getn, mid_setn, bt_mid, Option.bind_some, Bool.not_true, Bool.not_false, Bool.false_eq_true, Bool.true_eq_false, beq_self_eq_true, bne_self_eq_false, Int.toNat_natCast]
  have td : Int.tdiv (1000 * u) 9810 = lastT u := Int.tdiv_eq_ediv_of_nonneg (by omega)
  have w1 := w64 (n := 1000 * u) (by omega) (by omega)
  have w2 := w64 (n := lastT u) (by omega) (by omega)
  have w3 := w64 (n := lastT u + 1) (by omega) (by omega)
  have a1 := QbD hu' (show 0 ≤ lastT u ∧ lastT u ≤ 60000 by omega)
  have a2 := QbD hu' (show 0 ≤ lastT u + 1 ∧ lastT u + 1 ≤ 60000 by omega)
  have a3 := Qbl hu' (show 0 ≤ lastT u ∧ lastT u ≤ 60000 by omega)
  have a4 := Qbl hu' (show 0 ≤ lastT u + 1 ∧ lastT u + 1 ≤ 60000 by omega)
  have hb := num_bd hu' (show 0 ≤ lastT u ∧ lastT u ≤ 60000 by omega)
  have hb1 := num_bd hu' (show 0 ≤ lastT u + 1 ∧ lastT u + 1 ≤ 60000 by omega)
  have hz : 0 ≤ HN u (lastT u) := by
   have h0 := HN_le (u := u) (Int.le_refl 0) hl.1 (Int.le_refl _)
   have : HN u 0 = 0 := by unfold HN numN; simp
   omega
  have ht1 : HN u (lastT u) ≤ 1000000000 := by unfold HN numN; omega
  have ht2 : HN u (lastT u + 1) ≤ 1000000000 := by unfold HN numN; omega
  unfold Qaa.f Qaa.fn Qaa.top Qae.f Qae.fn Qae.top
  rw [w1, td, w2, w3, a1, a2, a3, a4]
  simp only [Option.bind_some]
  by_cases q : HN u (lastT u) < HN u (lastT u + 1)
  ·refine ⟨(lastT u + 1, HN u (lastT u + 1), 0), ?_, ?_, by simp only; omega, by simp only; omega⟩
   ·obtain ⟨k, hk⟩ : ∃ j, NN = j + 1 := ⟨NN - 1, by have := NNb; omega⟩
    have q2 : HN u (lastT u + 1) > HN u (lastT u) := q
    rw [show Qaa.l3 NN NN = Qaa.l3 NN (k + 1) by rw [← hk]]
    simp only [q2, if_true, Qaa.l3, Qaa.g3, a3, q, w3, and_self, and_true, true_and, decide_true, decide_false, if_true, if_false, mid_get, mid_set, mid_getn, mid_setn, bt_mid, Option.bind_some, Bool.not_true, Bool.not_false, Bool.false_eq_true, Bool.true_eq_false, beq_self_eq_true, bne_self_eq_false, Int.toNat_natCast]
    by_cases h0 : 0 < lastT u
    ·have w4 := w64 (n := lastT u - 1) (by omega) (by omega)
     have a5 := Qbl hu' (show 0 ≤ lastT u - 1 ∧ lastT u - 1 ≤ 60000 by omega)
     have hm := HN_le (u := u) (show 0 ≤ lastT u - 1 by omega) (show lastT u - 1 ≤ lastT u by omega) (Int.le_refl _)
     have q' : (HN u (lastT u - 1) == HN u (lastT u + 1)) = false := by
      have : HN u (lastT u - 1) ≠ HN u (lastT u + 1) := by omega
      simpa using this
     simp only [h0, w4, a5, q', and_self, and_true, true_and, decide_true, decide_false, if_true, if_false, mid_get, mid_set, mid_getn, mid_setn, bt_mid, Option.bind_some, Bool.not_true, Bool.not_false, Bool.false_eq_true, Bool.true_eq_false, beq_self_eq_true, bne_self_eq_false, Int.toNat_natCast]
    ·simp only [h0, and_self, and_true, true_and, decide_true, decide_false, if_true, if_false, mid_get, mid_set, mid_getn, mid_setn, bt_mid, Option.bind_some, Bool.not_true, Bool.not_false, Bool.false_eq_true, Bool.true_eq_false, beq_self_eq_true, bne_self_eq_false, Int.toNat_natCast]
   ·simp only [q, and_self, and_true, true_and, decide_true, decide_false, if_true, if_false, mid_get, mid_set, mid_getn, mid_setn, bt_mid, Option.bind_some, Bool.not_true, Bool.not_false, Bool.false_eq_true, Bool.true_eq_false, beq_self_eq_true, bne_self_eq_false, Int.toNat_natCast]
  ·obtain ⟨x, hx, px⟩ := Qc1 hu' (lastT u).toNat (lastT u) NN (by omega) (Int.le_refl _) rfl (NN_lt (by omega))
   obtain ⟨y, hy, py⟩ := Qc0 hu' (lastT u).toNat 0 (lastT u) NN (by omega) hl.1 (Int.le_refl _) (by omega) rfl (.inl rfl) (NN_lt (by omega))
   have hxy := top_one px py
   subst hxy
   have q2 : ¬ HN u (lastT u + 1) > HN u (lastT u) := q
   refine ⟨(x, HN u (lastT u), 0), ?_, ?_, ⟨px.1, by have := px.2.1; simp only; omega⟩, hz, ht1⟩
   ·simp only [q2, if_false]
    rw [hx]; rfl
   ·simp only [q, and_self, and_true, true_and, decide_true, decide_false, if_true, if_false, mid_get, mid_set, mid_getn, mid_setn, bt_mid, Option.bind_some, Bool.not_true, Bool.not_false, Bool.false_eq_true, Bool.true_eq_false, beq_self_eq_true, bne_self_eq_false, Int.toNat_natCast]
    rw [hy]; rfl
 obtain ⟨v, h1, h2, h3⟩ := key
 have : topR u = v := by unfold topR; rw [h2]; rfl
 rw [this]
 exact ⟨h1, h2, h3⟩
end Go.Pl

namespace Go.Pl
open Go.Ev
set_option linter.unusedVariables false
noncomputable section
def Q3.g24 (L24 : YD → Int → Int → YF → YS → List ByteArray → YD → YE → YD → Option (YF × ByteArray × Int)) (r : List YA) (s : Int) (p : Int) (d2 : YD × YE × List YA) (c3 : ByteArray × List ByteArray × List Int) (q : List ByteArray) (w4 : List YA) (w5 : List YC) (w6 : List YA) : Option (YF × ByteArray × Int) :=
 if (decide ((p : Int) < s)) = true then
 if (0 : Int) ≤ p ∧ (p : Int) < r.length then
 (Q4.f q (((r.getD (p : Int).toNat (0, (ByteArray.empty, 0))).2).1)).bind fun r21 =>
 L24 r s (IntKind.i64.wrap (p + 1)) d2 c3 r21 w4 w5 w6
 else
 none
 else if (0 : Int) ≤ 0 ∧ (0 : Int) < c3.2.2.length then
 (Qar.f ([c3.2.2.getD (0 : Int).toNat 0]) d2.2.1 d2.1 q).bind fun r22 =>
 if ((r22.2 : Int) != 0) = true then
 some (d2, (⟨#[]⟩ : ByteArray), r22.2)
 else if (0 : Int) ≤ 0 ∧ (0 : Int) < r22.1.length then
 if (decide (((r22.1.getD (0 : Int).toNat 0) : Int) < 0)) = true then
 some (d2, (⟨#[109, 105, 115, 115, 101, 100]⟩ : ByteArray), 0)
 else if (0 : Int) ≤ 0 ∧ (0 : Int) < r22.1.length then
 (Qd.f (r22.1.getD (0 : Int).toNat 0)).bind fun r23 =>
 some (d2, r23, 0)
 else
 none
 else
 none
 else
 none
def Q3.l24 (n : Nat) : Nat → YD → Int → Int → YF → YS → List ByteArray → YD → YE → YD → Option (YF × ByteArray × Int)
 | 0 => fun _ _ _ _ _ _ _ _ _ => none
 | k + 1 => Q3.g24 (Q3.l24 n k)
def Q3.top (I24 : YD → Int → Int → YF → YS → List ByteArray → YD → YE → YD → Option (YF × ByteArray × Int)) (d0 : YD × YE × List YA) (c1 : ByteArray × List ByteArray × List Int) : Option (YF × ByteArray × Int) :=
 if (c1.1.toList == (⟨#[112, 101, 111, 112, 108, 101]⟩ : ByteArray).toList) = true then
 if (0 : Int) ≤ 0 ∧ (0 : Int) < c1.2.2.length then
 if (0 : Int) ≤ 0 ∧ (0 : Int) < c1.2.1.length then
 if (0 : Int) ≤ 1 ∧ (1 : Int) < c1.2.2.length then
 (Qak.f d0.1 (c1.2.2.getD (0 : Int).toNat 0, (c1.2.1.getD (0 : Int).toNat ByteArray.empty, c1.2.2.getD (1 : Int).toNat 0))).bind fun r1 =>
 some ((r1.1, d0.2), (⟨#[111, 107]⟩ : ByteArray), r1.2)
 else
 none
 else
 none
 else
 none
 else if (c1.1.toList == (⟨#[99, 108, 101, 97, 114]⟩ : ByteArray).toList) = true then
 if (0 : Int) ≤ 0 ∧ (0 : Int) < c1.2.1.length then
 if (0 : Int) ≤ 0 ∧ (0 : Int) < c1.2.2.length then
 (QaS.f d0.1 (c1.2.1.getD (0 : Int).toNat ByteArray.empty) (c1.2.2.getD (0 : Int).toNat 0)).bind fun r2 =>
 if r2.1 = true then
 some (d0, (⟨#[121, 101, 115]⟩ : ByteArray), r2.2)
 else
 some (d0, (⟨#[110, 111]⟩ : ByteArray), r2.2)
 else
 none
 else
 none
 else if (c1.1.toList == (⟨#[115, 105, 103, 110, 97, 108]⟩ : ByteArray).toList) = true then
 if (0 : Int) ≤ 0 ∧ (0 : Int) < c1.2.1.length then
 (Qay.f).bind fun r3 =>
 (Qz.f r3 (c1.2.1.getD (0 : Int).toNat ByteArray.empty)).bind fun r4 =>
 if (decide ((r4 : Int) < 0)) = true then
 some (d0, (⟨#[]⟩ : ByteArray), 6)
 else if (0 : Int) ≤ 0 ∧ (0 : Int) < c1.2.2.length then
 (Qf.f d0.2.1 (c1.2.2.getD (0 : Int).toNat 0, r4)).bind fun r5 =>
 some ((d0.1, (r5.1, d0.2.2)), (⟨#[111, 107]⟩ : ByteArray), r5.2)
 else
 none
 else
 none
 else if (c1.1.toList == (⟨#[115, 116, 97, 116, 101]⟩ : ByteArray).toList) = true then
 if (0 : Int) ≤ 0 ∧ (0 : Int) < c1.2.2.length then
 (Qa.f d0.2.1 (c1.2.2.getD (0 : Int).toNat 0)).bind fun r6 =>
 (QaH.f r6.1).bind fun r7 =>
 some (d0, r7, r6.2)
 else
 none
 else if (c1.1.toList == (⟨#[102, 105, 114, 101]⟩ : ByteArray).toList) = true then
 I24 d0.1 (d0.1.length : Int) 0 d0 c1 [] [] [] []
 else if (c1.1.toList == (⟨#[98, 111, 111, 107]⟩ : ByteArray).toList) = true then
 if (0 : Int) ≤ 0 ∧ (0 : Int) < c1.2.1.length then
 (Qz.f ([(⟨#[105, 110]⟩ : ByteArray), (⟨#[102, 105, 114, 101, 100]⟩ : ByteArray), (⟨#[114, 101, 116, 117, 114, 110, 101, 100]⟩ : ByteArray), (⟨#[100, 101, 115, 116, 114, 111, 121, 101, 100]⟩ : ByteArray)]) (c1.2.1.getD (0 : Int).toNat ByteArray.empty)).bind fun r8 =>
 if (decide ((r8 : Int) < 0)) = true then
 some (d0, (⟨#[]⟩ : ByteArray), 6)
 else if (0 : Int) ≤ 1 ∧ (1 : Int) < c1.2.1.length then
 if (0 : Int) ≤ 0 ∧ (0 : Int) < c1.2.2.length then
 (Q9.f d0.2.2 (r8, (c1.2.1.getD (1 : Int).toNat ByteArray.empty, c1.2.2.getD (0 : Int).toNat 0))).bind fun r9 =>
 some ((d0.1, (d0.2.1, r9.1)), (⟨#[111, 107]⟩ : ByteArray), r9.2)
 else
 none
 else
 none
 else
 none
 else if (c1.1.toList == (⟨#[108, 101, 102, 116]⟩ : ByteArray).toList) = true then
 if (0 : Int) ≤ 0 ∧ (0 : Int) < c1.2.1.length then
 (Qas.f d0.2.2 (c1.2.1.getD (0 : Int).toNat ByteArray.empty)).bind fun r10 =>
 (Qd.f r10.1).bind fun r11 =>
 some (d0, r11, r10.2)
 else
 none
 else if (c1.1.toList == (⟨#[111, 112, 101, 110]⟩ : ByteArray).toList) = true then
 (Ql.f d0.2.2).bind fun r12 =>
 if (((r12.length : Int) : Int) == 0) = true then
 some (d0, (⟨#[45]⟩ : ByteArray), 0)
 else
 (QX.f r12 (⟨#[44]⟩ : ByteArray)).bind fun r13 =>
 some (d0, r13, 0)
 else if (c1.1.toList == (⟨#[115, 101, 116, 116, 108, 101]⟩ : ByteArray).toList) = true then
 if (0 : Int) ≤ 0 ∧ (0 : Int) < c1.2.2.length then
 (QB.f d0.2.2 (c1.2.2.getD (0 : Int).toNat 0)).bind fun r14 =>
 some ((d0.1, (d0.2.1, r14.1)), (⟨#[111, 107]⟩ : ByteArray), r14.2)
 else
 none
 else if (c1.1.toList == (⟨#[116, 111, 112]⟩ : ByteArray).toList) = true then
 if (0 : Int) ≤ 0 ∧ (0 : Int) < c1.2.2.length then
 (QaX.f (c1.2.2.getD (0 : Int).toNat 0)).bind fun r15 =>
 (Qd.f r15.1).bind fun r16 =>
 if r16.size + (⟨#[32]⟩ : ByteArray).size ≤ 9223372036854775807 then
 (Qd.f r15.2.1).bind fun r17 =>
 if (r16 ++ (⟨#[32]⟩ : ByteArray)).size + r17.size ≤ 9223372036854775807 then
 some (d0, (r16 ++ (⟨#[32]⟩ : ByteArray)) ++ r17, r15.2.2)
 else
 none
 else
 none
 else
 none
 else if (c1.1.toList == (⟨#[110, 101, 101, 100]⟩ : ByteArray).toList) = true then
 if (0 : Int) ≤ 0 ∧ (0 : Int) < c1.2.2.length then
 if (0 : Int) ≤ 1 ∧ (1 : Int) < c1.2.2.length then
 (Qac.f (c1.2.2.getD (0 : Int).toNat 0) (c1.2.2.getD (1 : Int).toNat 0)).bind fun r18 =>
 (Qd.f r18.1).bind fun r19 =>
 some (d0, r19, r18.2)
 else
 none
 else
 none
 else if (0 : Int) ≤ 0 ∧ (0 : Int) < c1.2.2.length then
 (Qat.f (c1.2.2.getD (0 : Int).toNat 0)).bind fun r20 =>
 some (d0, r20.1, r20.2)
 else
 none
def Q3.fn (n : Nat) (d0 : YD × YE × List YA) (c1 : ByteArray × List ByteArray × List Int) : Option (YF × ByteArray × Int) := Q3.top (Q3.l24 n n) d0 c1
def Q3.f (d0 : YD × YE × List YA) (c1 : ByteArray × List ByteArray × List Int) : Option (YF × ByteArray × Int) := Q3.fn NN d0 c1
end
end Go.Pl

namespace Go.Pl
open Go.Ev
set_option linter.unusedVariables false
set_option linter.unusedSimpArgs false
theorem firstOf_lt {α : Type} (P : α → Bool) : ∀ (xs : List α) (i : Nat) (y : Nat × α), firstOf P i xs = some y → y.1 < i + xs.length := by
 intro xs
 induction xs with
 | nil => intro i y h; cases h
 | cons a r ih =>
  intro i y h
  simp only [firstOf] at h
  split at h
  ·rw [← Option.some.inj h]; simp
  ·have := ih (i + 1) y h
   simp only [List.length_cons]; omega
def idxW (ws : List ByteArray) (w : ByteArray) : Int := (firstOf (fun x : ByteArray => decide (x = w)) 0 ws).elim (-1) (fun x => (x.1 : Int))
theorem idxW_bd (ws : List ByteArray) (w : ByteArray) : -1 ≤ idxW ws w ∧ idxW ws w < (ws.length : Int) := by
 unfold idxW
 cases hf : firstOf (fun x : ByteArray => decide (x = w)) 0 ws with
 | none => simp only [Option.elim_none]; omega
 | some y =>
  have h2 := firstOf_lt _ ws 0 y hf
  simp only [Option.elim_some]; omega
theorem QbB (ws : List ByteArray) (w : ByteArray) (h : ws.length ≤ 1000000) : Qz.f ws w = some (idxW ws w) := by
 have := find_loop (E := fun _ : ByteArray => True) (fun x => decide (x = w)) (fun i _ => some (i : Int)) (fun _ => some (-1)) (fun k v i => Qz.l2 NN k w v v.length i) ?_ ?_ ws (fun _ _ => trivial) (by omega) NN (NN_lt (by omega))
 ·unfold Qz.f Qz.fn Qz.top idxW
  refine Eq.trans this ?_
  cases firstOf (fun x : ByteArray => decide (x = w)) 0 ws <;> rfl
 ·intro k p
  simp [Qz.l2, Qz.g2]
 ·intro k p a r _ c0 c1 c2 cw
  simp only [Qz.l2, Qz.g2, c0, c1, cw, and_self, and_true, true_and, decide_true, decide_false, if_true, if_false, mid_get, mid_set, mid_getn, mid_setn, bt_mid, Option.bind_some, Bool.not_true, Bool.not_false, Bool.false_eq_true, Bool.true_eq_false, beq_self_eq_true, bne_self_eq_false, Int.toNat_natCast, ba_beq]
theorem QbE (ws : List ByteArray) (w : ByteArray) (h : ws.length ≤ 1000000) : QT.f ws w = some (idxW ws w) := by
 have := find_loop (E := fun _ : ByteArray => True) (fun x => decide (x = w)) (fun i _ => some (i : Int)) (fun _ => some (-1)) (fun k v i => QT.l2 NN k v w i) ?_ ?_ ws (fun _ _ => trivial) (by omega) NN (NN_lt (by omega))
 ·unfold QT.f QT.fn QT.top idxW
  refine Eq.trans this ?_
  cases firstOf (fun x : ByteArray => decide (x = w)) 0 ws <;> rfl
 ·intro k p
  simp [QT.l2, QT.g2]
 ·intro k p a r _ c0 c1 c2 cw
  simp only [QT.l2, QT.g2, c0, c1, cw, and_self, and_true, true_and, decide_true, decide_false, if_true, if_false, mid_get, mid_set, mid_getn, mid_setn, bt_mid, Option.bind_some, Bool.not_true, Bool.not_false, Bool.false_eq_true, Bool.true_eq_false, beq_self_eq_true, bne_self_eq_false, Int.toNat_natCast, ba_beq]
theorem words_same : ∃ ws : List ByteArray, Qay.f = some ws ∧ Qa3.f = some ws ∧ ws.length ≤ 100 := ⟨_, rfl, rfl, by decide⟩
def sttW (c : Ctl) : ByteArray := if c.2.2.2.2.1 = true then ⟨#[115, 116, 111, 112, 112, 101, 100]⟩ else if c.2.2.2.1 = true then ⟨#[104, 101, 108, 100]⟩ else if c.2.2.1 = true then ⟨#[97, 114, 109, 101, 100]⟩ else ⟨#[111, 102, 102]⟩
theorem sttW_size (c : Ctl) : (sttW c).size ≤ 100 := by
 obtain ⟨a, b, r, h, s, n⟩ := c
 cases s <;> cases h <;> cases r <;> exact Nat.le_of_ble_eq_true rfl
theorem Qcl (c : Ctl) : QaH.f c = some (sttW c) := by
 obtain ⟨a, b, r, h, s, n⟩ := c
 cases s <;> cases h <;> cases r <;> rfl
theorem QcC (d : Dsk) (t : Int) (h : d.2.1.length ≤ 1000000) : QaR.f d t = some (sttW (caR d.2.1 t).1, (caR d.2.1 t).2) := by
 unfold QaR.f QaR.fn QaR.top
 rw [(ControllerAt_both d.2.1 t h).1, Option.bind_some]
 generalize caR d.2.1 t = q
 obtain ⟨⟨a, b, r, h, s, n⟩, e⟩ := q
 cases s <;> cases h <;> cases r <;> rfl
def zonF (z : List ByteArray) (m : Mov) : List ByteArray := insW m.2.1 z
def zonL (ms : List Mov) : List ByteArray := ms.foldl zonF []
structure ZI (p : List Mov) (z : List ByteArray) : Prop where
 srt : SrtW z
 len : z.length ≤ p.length
 wrd : ∀ w ∈ z, wordB w = true
theorem zi_nil : ZI [] [] := ⟨List.Pairwise.nil, by simp, by simp⟩
theorem zi_step {p : List Mov} {z : List ByteArray} {m : Mov} (h : ZI p z) (hm : movB m = true) : ZI (p ++ [m]) (zonF z m) := by
 refine ⟨insW_srt h.srt, ?_, fun w hw => ?_⟩
 ·have := insW_len m.2.1 z
  have := h.len
  unfold zonF
  rw [List.length_append, List.length_singleton]; omega
 ·rcases mem_insW.1 hw with rfl | hw
  ·exact (movB_iff hm).2.1
  ·exact h.wrd w hw
def firV (d : Dsk) (t : Int) : ByteArray × Int := if inB t 0 10000000 = true then ((if firT d.2.1 d.1 (zonL d.1) t < 0 then ⟨#[109, 105, 115, 115, 101, 100]⟩ else decB (firT d.2.1 d.1 (zonL d.1) t)), 0) else (⟨#[]⟩, 1)
theorem firT_bd (l : List Sig) (ms : List Mov) (zs : List ByteArray) {t : Int} (h : 0 ≤ t ∧ t ≤ 10000000) : -1 ≤ firT l ms zs t ∧ firT l ms zs t ≤ 100000 := by
 have := tkT_bd h
 unfold firT
 split <;> omega
theorem zon_ok {ms : List Mov} (h : movesB ms = true) : ZI ms (zonL ms) := by
 obtain ⟨m1, m2, m3⟩ := movesB_iff h
 have key : ∀ (r p : List Mov) (z : List ByteArray), (∀ m ∈ r, movB m = true) → ZI p z → ZI (p ++ r) (r.foldl zonF z) := by
  intro r
  induction r with
  | nil => intro p z _ h; rwa [List.append_nil]
  | cons m r ih =>
   intro p z hr hz
   have := ih (p ++ [m]) (zonF z m) (fun x hx => hr x (by simp [hx])) (zi_step hz (hr m (by simp)))
   rwa [mid_snoc] at this
 have := key ms [] [] m3 zi_nil
 rwa [List.nil_append] at this
theorem firR_one {d : Dsk} (h1 : movesB d.1 = true) (h2 : sigsB d.2.1 = true) (t : Int) : firR [t] d.2.1 d.1 (zonL d.1) = if inB t 0 10000000 = true then ([firT d.2.1 d.1 (zonL d.1) t], 0) else ([], 1) := by
 have z := zon_ok h1
 have hm := (movesB_iff h1).1
 have hz : zonesB (zonL d.1) = true := by
  unfold zonesB
  rw [Bool.and_eq_true, decide_eq_true_eq, List.all_eq_true]
  exact ⟨by have := z.len; omega, z.wrd⟩
 unfold firR firOk
 rw [h1, h2, hz]
 simp
theorem QcV {d : Dsk} (h1 : movesB d.1 = true) (h2 : sigsB d.2.1 = true) (t : Int) (c : ByteArray × List ByteArray × List Int) (hc : c.2.2 = [t]) : ∀ (r p : List Mov) (z : List ByteArray) (k : Nat), d.1 = p ++ r → ZI p z → r.foldl zonF z = zonL d.1 → r.length < k →
  Q3.l24 NN k d.1 d.1.length p.length d c z [] [] [] = some (d, firV d t) := by
 obtain ⟨m1, m2, m3⟩ := movesB_iff h1
 have hs1 := (sigsB_iff h2).1
 intro r
 induction r with
 | nil =>
  intro p z k hp hz hf hk
  obtain ⟨k, rfl⟩ : ∃ j, k = j + 1 := ⟨k - 1, by omega⟩
  have c1 : ¬ (p.length : Int) < (d.1.length : Int) := by rw [hp]; simp
  simp only [List.foldl_nil] at hf
  subst hf
  have zz := zon_ok h1
  have g0 : ([t] : List Int).getD (0 : Int).toNat 0 = t := rfl
  have l1 : (0 : Int) < (([t] : List Int).length : Int) := by simp
  simp only [Q3.l24, Q3.g24, c1, hc, l1, g0, Int.le_refl, and_self, and_true, true_and, decide_true, decide_false, if_true, if_false, mid_get, mid_set, mid_getn, mid_setn, bt_mid, Option.bind_some, Bool.not_true, Bool.not_false, Bool.false_eq_true, Bool.true_eq_false, beq_self_eq_true, bne_self_eq_false, Int.toNat_natCast]
  rw [(FiredSafely_both [t] d.2.1 d.1 (zonL d.1) (by simp) (by omega) (by omega) (fun m hm => Nat.le_trans (wordB_size (movB_iff (m3 m hm)).2.1).2 (by omega)) (by have := zz.len; omega) (fun w hw => Nat.le_trans (wordB_size (zz.wrd w hw)).2 (by omega))).1, firR_one h1 h2, Option.bind_some]
  unfold firV
  by_cases ht : inB t 0 10000000 = true
  ·have hb := firT_bd d.2.1 d.1 (zonL d.1) (inB_iff.1 ht)
   rw [if_pos ht, if_pos ht]
   generalize firT d.2.1 d.1 (zonL d.1) t = x at *
   have g1 : ([x] : List Int).getD (0 : Int).toNat 0 = x := rfl
   have l2 : (0 : Int) < (([x] : List Int).length : Int) := by simp
   have e0 : ((0 : Int) != 0) = false := rfl
   simp only [e0, l2, g1, Int.le_refl, and_self, and_true, true_and, decide_true, decide_false, if_true, if_false, mid_get, mid_set, mid_getn, mid_setn, bt_mid, Option.bind_some, Bool.not_true, Bool.not_false, Bool.false_eq_true, Bool.true_eq_false, beq_self_eq_true, bne_self_eq_false, Int.toNat_natCast]
   by_cases hx : x < 0
   ·simp only [hx, and_self, and_true, true_and, decide_true, decide_false, if_true, if_false, mid_get, mid_set, mid_getn, mid_setn, bt_mid, Option.bind_some, Bool.not_true, Bool.not_false, Bool.false_eq_true, Bool.true_eq_false, beq_self_eq_true, bne_self_eq_false, Int.toNat_natCast]
   ·simp only [hx, and_self, and_true, true_and, decide_true, decide_false, if_true, if_false, mid_get, mid_set, mid_getn, mid_setn, bt_mid, Option.bind_some, Bool.not_true, Bool.not_false, Bool.false_eq_true, Bool.true_eq_false, beq_self_eq_true, bne_self_eq_false, Int.toNat_natCast]
    rw [Qbt (by omega) (by omega)]; rfl
  ·rw [if_neg ht, if_neg ht]; rfl
 | cons m r ih =>
  intro p z k hp hz hf hk
  simp only [List.length_cons] at hk
  obtain ⟨k, rfl⟩ : ∃ j, k = j + 1 := ⟨k - 1, by omega⟩
  have hpl : p.length ≤ 40 := by rw [hp] at m1; simp at m1; omega
  have c0 : (0 : Int) ≤ (p.length : Int) := by omega
  have c1 : (p.length : Int) < (d.1.length : Int) := by rw [hp]; simp; omega
  have cw := w64 (n := (p.length : Int) + 1) (by omega) (by omega)
  have g : ∀ w, d.1.getD p.length w = m := fun w => by rw [hp]; exact mid_getn p r m w
  have hm := m3 m (by rw [hp]; simp)
  have i := ih (p ++ [m]) (zonF z m) k (by rw [hp, mid_snoc]) (zi_step hz hm) (by simpa using hf) (by omega)
  rw [snoc_len] at i
  simp only [Q3.l24, Q3.g24, c0, c1, cw, g, and_self, and_true, true_and, decide_true, decide_false, if_true, if_false, mid_get, mid_set, mid_getn, mid_setn, bt_mid, Option.bind_some, Bool.not_true, Bool.not_false, Bool.false_eq_true, Bool.true_eq_false, beq_self_eq_true, bne_self_eq_false, Int.toNat_natCast]
  rw [QbU z m.2.1 hz.srt (by have := hz.len; omega), Option.bind_some]
  exact i
theorem QcN {d : Dsk} (h1 : movesB d.1 = true) (h2 : sigsB d.2.1 = true) (t : Int) (ht : inB t 0 10000000 = true) : ∀ (r p : List Mov) (z : List ByteArray) (k : Nat), d.1 = p ++ r → ZI p z → r.foldl zonF z = zonL d.1 → r.length < k →
  Q6.l5 NN k t p.length d z = some (firV d t) := by
 obtain ⟨m1, m2, m3⟩ := movesB_iff h1
 intro r
 induction r with
 | nil =>
  intro p z k hp hz hf hk
  obtain ⟨k, rfl⟩ : ∃ j, k = j + 1 := ⟨k - 1, by omega⟩
  have c1 : ¬ (p.length : Int) < (d.1.length : Int) := by rw [hp]; simp
  simp only [List.foldl_nil] at hf
  subst hf
  have zz := zon_ok h1
  have hb := firT_bd d.2.1 d.1 (zonL d.1) (inB_iff.1 ht)
  simp only [Q6.l5, Q6.g5, c1, and_self, and_true, true_and, decide_true, decide_false, if_true, if_false, mid_get, mid_set, mid_getn, mid_setn, bt_mid, Option.bind_some, Bool.not_true, Bool.not_false, Bool.false_eq_true, Bool.true_eq_false, beq_self_eq_true, bne_self_eq_false, Int.toNat_natCast]
  rw [QbM h2 h1 (zonL d.1) (by have := zz.len; omega) [t] (by simp) (fun x hx => by rw [List.mem_singleton.1 hx]; exact inB_iff.1 ht), Option.bind_some]
  unfold firV
  rw [if_pos ht, List.map_singleton]
  generalize firT d.2.1 d.1 (zonL d.1) t = x at *
  have g1 : ([x] : List Int).getD (0 : Int).toNat 0 = x := rfl
  have l2 : (0 : Int) < (([x] : List Int).length : Int) := by simp
  simp only [l2, g1, Int.le_refl, and_self, and_true, true_and, decide_true, decide_false, if_true, if_false, mid_get, mid_set, mid_getn, mid_setn, bt_mid, Option.bind_some, Bool.not_true, Bool.not_false, Bool.false_eq_true, Bool.true_eq_false, beq_self_eq_true, bne_self_eq_false, Int.toNat_natCast]
  by_cases hx : x < 0
  ·simp only [hx, and_self, and_true, true_and, decide_true, decide_false, if_true, if_false, mid_get, mid_set, mid_getn, mid_setn, bt_mid, Option.bind_some, Bool.not_true, Bool.not_false, Bool.false_eq_true, Bool.true_eq_false, beq_self_eq_true, bne_self_eq_false, Int.toNat_natCast]
  ·simp only [hx, and_self, and_true, true_and, decide_true, decide_false, if_true, if_false, mid_get, mid_set, mid_getn, mid_setn, bt_mid, Option.bind_some, Bool.not_true, Bool.not_false, Bool.false_eq_true, Bool.true_eq_false, beq_self_eq_true, bne_self_eq_false, Int.toNat_natCast]
   rw [Qbk (by omega) (by omega)]; rfl
 | cons m r ih =>
  intro p z k hp hz hf hk
  simp only [List.length_cons] at hk
  obtain ⟨k, rfl⟩ : ∃ j, k = j + 1 := ⟨k - 1, by omega⟩
  have hpl : p.length ≤ 40 := by rw [hp] at m1; simp at m1; omega
  have c0 : (0 : Int) ≤ (p.length : Int) := by omega
  have c1 : (p.length : Int) < (d.1.length : Int) := by rw [hp]; simp; omega
  have cw := w64 (n := (p.length : Int) + 1) (by omega) (by omega)
  have g : ∀ w, d.1.getD p.length w = m := fun w => by rw [hp]; exact mid_getn p r m w
  have hm := m3 m (by rw [hp]; simp)
  have i := ih (p ++ [m]) (zonF z m) k (by rw [hp, mid_snoc]) (zi_step hz hm) (by simpa using hf) (by omega)
  rw [snoc_len] at i
  simp only [Q6.l5, Q6.g5, c0, c1, cw, g, and_self, and_true, true_and, decide_true, decide_false, if_true, if_false, mid_get, mid_set, mid_getn, mid_setn, bt_mid, Option.bind_some, Bool.not_true, Bool.not_false, Bool.false_eq_true, Bool.true_eq_false, beq_self_eq_true, bne_self_eq_false, Int.toNat_natCast]
  rw [QbI z m.2.1 (by have := hz.len; omega), Option.bind_some]
  exact i
theorem QcO {d : Dsk} (h1 : movesB d.1 = true) (h2 : sigsB d.2.1 = true) (t : Int) : Q6.f d t = some (firV d t) := by
 obtain ⟨m1, m2, m3⟩ := movesB_iff h1
 unfold Q6.f Q6.fn Q6.top
 rw [Qbo, Option.bind_some]
 by_cases ht : inB t 0 10000000 = true
 ·rw [ht]
  exact QcN h1 h2 t ht d.1 [] [] NN rfl zi_nil rfl (NN_lt (by omega))
 ·have ht' : inB t 0 10000000 = false := by simpa using ht
  unfold firV
  rw [ht']; rfl
theorem firV_bd (d : Dsk) (t : Int) : ((firV d t).2 = 0 ∨ (firV d t).2 = 1) ∧ (firV d t).1.size ≤ 100 := by
 unfold firV
 split
 ·rename_i h
  have hb := firT_bd d.2.1 d.1 (zonL d.1) (inB_iff.1 h)
  refine ⟨.inl rfl, ?_⟩
  split
  ·decide
  ·exact Nat.le_trans (decB_size (by omega) (by omega)) (by omega)
 ·exact ⟨.inr rfl, by decide⟩
theorem joinF_size (sep : ByteArray) (hs : sep.size ≤ 1) : ∀ (xs : List ByteArray) (i : Nat) (st : ByteArray), (∀ w ∈ xs, w.size ≤ 16) → (foldi (joinF sep) i st xs).size ≤ st.size + 17 * xs.length := by
 intro xs
 induction xs with
 | nil => intro i st _; simp [foldi]
 | cons w r ih =>
  intro i st h
  have hw := h w (by simp)
  have i1 := ih (i + 1) (joinF sep i st w) (fun x hx => h x (by simp [hx]))
  have h2 : (joinF sep i st w).size ≤ st.size + 17 := by
   unfold joinF
   split <;> simp only [ByteArray.size_append] <;> omega
  simp only [foldi, List.length_cons]
  omega
end Go.Pl

namespace Go.Pl
open Go.Ev
set_option linter.unusedVariables false
set_option linter.unusedSimpArgs false
noncomputable def cmdW : List ByteArray → Option (List ByteArray × List Int)
 | [] => none
 | w0 :: ws => match shpL w0 with
  | some l => if ws.length = l.length then prs l ws else none
  | none => none
def wErr : ByteArray := ⟨#[101, 114, 114, 111, 114, 32]⟩
def wOk : ByteArray := ⟨#[111, 107]⟩
def errT (e : Int) : ByteArray := wErr ++ decB e
def finR (d d' : Dsk) (o : ByteArray) (e : Int) : Dsk × ByteArray := if e = 0 then (d', o) else (d, errT e)
theorem wErr_size : wErr.size = 6 := by decide
theorem errT_size {e : Int} (h : 0 ≤ e ∧ e ≤ 20) : (errT e).size ≤ 26 := by
 have := decB_size (n := e) (by omega) (by omega)
 have := wErr_size
 unfold errT
 rw [ByteArray.size_append]; omega
theorem err_fit {e : Int} (h : 0 ≤ e ∧ e ≤ 20) : (⟨#[101, 114, 114, 111, 114, 32]⟩ : ByteArray).size + (decB e).size ≤ 9223372036854775807 := by
 have := decB_size (n := e) (by omega) (by omega)
 have h2 : (⟨#[101, 114, 114, 111, 114, 32]⟩ : ByteArray).size = 6 := by decide
 omega
theorem run_tail {d d' : Dsk} {o : ByteArray} {e : Int} (he : 0 ≤ e ∧ e ≤ 20) : (if (e != 0) = true then (Qq.f e).bind fun r4 => if (⟨#[101, 114, 114, 111, 114, 32]⟩ : ByteArray).size + r4.size ≤ 9223372036854775807 then some (d, (⟨#[101, 114, 114, 111, 114, 32]⟩ : ByteArray) ++ r4) else none else some (d', o)) = some (finR d d' o e) := by
 unfold finR
 by_cases h : e = 0
 ·subst h; rfl
 ·rw [if_pos (by simpa using h), if_neg h, Qbk (by omega) (by omega), Option.bind_some, if_pos (err_fit he)]; rfl
theorem bind_eq {α β : Type} {x : Option α} {v : α} {f : α → Option β} {r : Option β} (h : x = some v) (h2 : f v = r) : x.bind f = r := by subst h; exact h2
theorem run_set {d d' : Dsk} {line w0 : ByteArray} {ws : List ByteArray} {n : List Int} {e : Int} (hp : Qn.f line = some (w0 :: ws, (n, true))) (hw : w0 = wPeople ∨ w0 = wSignal ∨ w0 = wBook ∨ w0 = wSettle) (h : Qag.f d (w0 :: ws) n = some (d', e)) (he : 0 ≤ e ∧ e ≤ 20) : QF.f d line = some (finR d d' wOk e) := by
 have hr := run_tail (d := d) (d' := d') (o := wOk) he
 have c0 : (0 : Int) ≤ 0 ∧ (0 : Int) < ((w0 :: ws).length : Int) := ⟨by omega, by simp⟩
 have g0 : (w0 :: ws).getD (0 : Int).toNat ByteArray.empty = w0 := rfl
 unfold QF.f QF.fn QF.top
 rw [hp, Option.bind_some]
 simp only [Bool.not_true, Bool.false_eq_true, if_false]
 rw [if_pos c0]
 simp only [g0]
 rcases hw with rfl | rfl | rfl | rfl
 ·rw [if_pos (by decide +kernel), if_pos (by decide +kernel), h]; exact hr
 ·rw [if_neg (by decide +kernel), if_pos (by decide +kernel), if_pos (by decide +kernel), h]; exact hr
 ·rw [if_neg (by decide +kernel), if_neg (by decide +kernel), if_pos (by decide +kernel), if_pos (by decide +kernel), h]; exact hr
 ·rw [if_neg (by decide +kernel), if_neg (by decide +kernel), if_neg (by decide +kernel), if_pos (by decide +kernel), h]; exact hr
theorem run_ask {d : Dsk} {line w0 : ByteArray} {ws : List ByteArray} {n : List Int} {o : ByteArray} {e : Int} (hp : Qn.f line = some (w0 :: ws, (n, true))) (hw : w0 = wClear ∨ w0 = wState ∨ w0 = wFire ∨ w0 = wTop ∨ w0 = wTime ∨ w0 = wLeft ∨ w0 = wOpen ∨ w0 = wNeed) (h : Qad.f d (w0 :: ws) n = some (o, e)) (he : 0 ≤ e ∧ e ≤ 20) : QF.f d line = some (finR d d o e) := by
 have hr := run_tail (d := d) (d' := d) (o := o) he
 have c0 : (0 : Int) ≤ 0 ∧ (0 : Int) < ((w0 :: ws).length : Int) := ⟨by omega, by simp⟩
 have g0 : (w0 :: ws).getD (0 : Int).toNat ByteArray.empty = w0 := rfl
 unfold QF.f QF.fn QF.top
 rw [hp, Option.bind_some]
 simp only [Bool.not_true, Bool.false_eq_true, if_false]
 rw [if_pos c0]
 simp only [g0]
 rcases hw with rfl | rfl | rfl | rfl | rfl | rfl | rfl | rfl <;>
  (rw [if_neg (by decide +kernel), if_neg (by decide +kernel), if_neg (by decide +kernel), if_neg (by decide +kernel), h]; exact hr)
theorem gd0 {α : Type} (a : α) (l : List α) (z : α) : (a :: l).getD (0 : Int).toNat z = a := rfl
theorem gd1 {α : Type} (a b : α) (l : List α) (z : α) : (a :: b :: l).getD (1 : Int).toNat z = b := rfl
theorem gd2 {α : Type} (a b c : α) (l : List α) (z : α) : (a :: b :: c :: l).getD (2 : Int).toNat z = c := rfl
theorem ln0 {α : Type} (a : α) (l : List α) : ((0 : Int) ≤ 0 ∧ (0 : Int) < ((a :: l).length : Int)) = True := eq_true ⟨by omega, by simp⟩
theorem ln1 {α : Type} (a b : α) (l : List α) : ((0 : Int) ≤ 1 ∧ (1 : Int) < ((a :: b :: l).length : Int)) = True := eq_true ⟨by omega, by simp; omega⟩
theorem ln2 {α : Type} (a b c : α) (l : List α) : ((0 : Int) ≤ 2 ∧ (2 : Int) < ((a :: b :: c :: l).length : Int)) = True := eq_true ⟨by omega, by simp; omega⟩
def Exe (d : Dsk) (line : ByteArray) (c : ByteArray × List ByteArray × List Int) : Prop :=
 ∃ (d' : Dsk) (o : ByteArray) (e : Int), Q3.f d c = some (d', o, e) ∧ QF.f d line = some (finR d d' o e) ∧ (e = 0 → deskB d' = true) ∧ (0 ≤ e ∧ e ≤ 20) ∧ o.size ≤ 10000
theorem desk_iff {d : Dsk} : deskB d = true ↔ movesB d.1 = true ∧ sigsB d.2.1 = true ∧ booksB d.2.2 = true := by
 unfold deskB; simp only [Bool.and_eq_true]
theorem moves_sz {xs : List Mov} (h : movesB xs = true) : xs.length ≤ 1000000 ∧ ∀ m ∈ xs, Sz m.2.1 := by
 obtain ⟨m1, m2, m3⟩ := movesB_iff h
 exact ⟨by omega, fun m hm => Nat.le_trans (wordB_size (movB_iff (m3 m hm)).2.1).2 (by omega)⟩
theorem books_lm' {xs : List Bkg} (h : booksB xs = true) : Lm OkBooking xs := by
 have hv := booksB_val h
 refine ⟨by omega, fun b hb => ?_⟩
 have h1 := valB_count (hv.1 b hb)
 have h2 := hv.1 b hb
 unfold valB at h2
 simp only [Bool.and_eq_true] at h2
 exact ⟨wf64.2 (by omega), Nat.le_trans (wordB_size h2.1.2).2 (by omega), wf64.2 (by omega)⟩
theorem ex_people {d : Dsk} (hd : deskB d = true) {line w1 w2 w3 : ByteArray} {a b : Int} (hz : w1.size ≤ 1000000) (hp : Qn.f line = some ([wPeople, w1, w2, w3], ([a, b], true))) : Exe d line (wPeople, ([w1], [a, b])) := by
 obtain ⟨h1, h2, h3⟩ := desk_iff.1 hd
 obtain ⟨s1, s2⟩ := moves_sz h1
 obtain ⟨b1, b2⟩ := AddMove_both d.1 (a, (w1, b)) s1 s2 (Nat.le_trans hz (by omega))
 have hc : ((amR d.1 (a, (w1, b))).2 = 0 → movesB (amR d.1 (a, (w1, b))).1 = true) ∧ 0 ≤ (amR d.1 (a, (w1, b))).2 ∧ (amR d.1 (a, (w1, b))).2 ≤ 20 := by
  unfold amR
  repeat' split
  all_goals simp_all
 refine ⟨((amR d.1 (a, (w1, b))).1, d.2), wOk, (amR d.1 (a, (w1, b))).2, ?_, ?_, fun h => desk_iff.2 ⟨hc.1 h, h2, h3⟩, hc.2, by decide⟩
 ·unfold Q3.f Q3.fn Q3.top
  simp only [gd0, gd1, gd2, ln0, ln1, ln2, if_true]
  rw [if_pos (by decide +kernel)]
  exact bind_eq (b2) rfl
 ·have hs : Qag.f d [wPeople, w1, w2, w3] [a, b] = some (if (amR d.1 (a, (w1, b))).2 = 0 then ((amR d.1 (a, (w1, b))).1, d.2) else d, (amR d.1 (a, (w1, b))).2) := by
   unfold Qag.f Qag.fn Qag.top
   simp only [gd0, gd1, gd2, ln0, ln1, ln2, if_true]
   rw [if_pos (by decide +kernel)]
   refine bind_eq (b1) ?_
   try dsimp only
   by_cases h : (amR d.1 (a, (w1, b))).2 = 0
   ·rw [if_pos (by simpa using h), if_pos h]
   ·rw [if_neg (by simpa using h), if_neg h]
  rw [run_set hp (.inl rfl) hs hc.2]
  unfold finR
  by_cases h : (amR d.1 (a, (w1, b))).2 = 0
  ·rw [if_pos h, if_pos h, if_pos h]
  ·rw [if_neg h, if_neg h]
theorem ex_clear {d : Dsk} (hd : deskB d = true) {line w1 w2 : ByteArray} {a : Int} (hz : w1.size ≤ 1000000) (hp : Qn.f line = some ([wClear, w1, w2], ([a], true))) : Exe d line (wClear, ([w1], [a])) := by
 obtain ⟨h1, h2, h3⟩ := desk_iff.1 hd
 obtain ⟨s1, s2⟩ := moves_sz h1
 obtain ⟨b1, b2⟩ := IsClear_both d.1 w1 a s1 s2 (Nat.le_trans hz (by omega))
 have hc : 0 ≤ (icR d.1 w1 a).2 ∧ (icR d.1 w1 a).2 ≤ 20 := by
  unfold icR
  repeat' split
  all_goals simp
 refine ⟨d, (if (icR d.1 w1 a).1 = true then ⟨#[121, 101, 115]⟩ else ⟨#[110, 111]⟩), (icR d.1 w1 a).2, ?_, ?_, fun _ => hd, hc, by split <;> decide⟩
 ·unfold Q3.f Q3.fn Q3.top
  simp only [gd0, gd1, gd2, ln0, ln1, ln2, if_true]
  rw [if_neg (by decide +kernel), if_pos (by decide +kernel)]
  refine bind_eq (b2) ?_
  try dsimp only
  cases (icR d.1 w1 a).1 <;> rfl
 ·refine run_ask hp (.inl rfl) ?_ hc
  unfold Qad.f Qad.fn Qad.top
  simp only [gd0, gd1, gd2, ln0, ln1, ln2, if_true]
  rw [if_pos (by decide +kernel)]
  refine bind_eq (b1) ?_
  try dsimp only
  cases (icR d.1 w1 a).1 <;> rfl
theorem ex_signal {d : Dsk} (hd : deskB d = true) {line w1 w2 : ByteArray} {a : Int} (hp : Qn.f line = some ([wSignal, w1, w2], ([a], true))) : Exe d line (wSignal, ([w1], [a])) := by
 obtain ⟨h1, h2, h3⟩ := desk_iff.1 hd
 have hs1 := (sigsB_iff h2).1
 obtain ⟨ws, q1, q2, q3⟩ := words_same
 have hb := idxW_bd ws w1
 obtain ⟨b1, b2⟩ := AddSignal_both d.2.1 (a, idxW ws w1) (by omega)
 have hc : ((asR d.2.1 (a, idxW ws w1)).2 = 0 → sigsB (asR d.2.1 (a, idxW ws w1)).1 = true) ∧ 0 ≤ (asR d.2.1 (a, idxW ws w1)).2 ∧ (asR d.2.1 (a, idxW ws w1)).2 ≤ 20 := by
  unfold asR fin5
  repeat' split
  all_goals simp_all
 by_cases hi : idxW ws w1 < 0
 ·refine ⟨d, ⟨#[]⟩, 6, ?_, ?_, fun h => absurd h (by decide), by decide, by decide⟩
  ·unfold Q3.f Q3.fn Q3.top
   simp only [gd0, gd1, gd2, ln0, ln1, ln2, if_true]
   rw [if_neg (by decide +kernel), if_neg (by decide +kernel), if_pos (by decide +kernel), q1, Option.bind_some]
   refine bind_eq ((QbB ws w1 (by omega))) ?_
   try dsimp only
   rw [if_pos (decide_eq_true hi)]
  ·have hs : Qag.f d [wSignal, w1, w2] [a] = some (d, 6) := by
    unfold Qag.f Qag.fn Qag.top
    simp only [gd0, gd1, gd2, ln0, ln1, ln2, if_true]
    rw [if_neg (by decide +kernel), if_pos (by decide +kernel), q2, Option.bind_some]
    refine bind_eq ((QbE ws w1 (by omega))) ?_
    try dsimp only
    rw [if_pos (decide_eq_true hi)]
   rw [run_set hp (.inr (.inl rfl)) hs (by decide)]
   unfold finR
   rw [if_neg (by decide), if_neg (by decide)]
 ·refine ⟨(d.1, ((asR d.2.1 (a, idxW ws w1)).1, d.2.2)), wOk, (asR d.2.1 (a, idxW ws w1)).2, ?_, ?_, fun h => desk_iff.2 ⟨h1, hc.1 h, h3⟩, hc.2, by decide⟩
  ·unfold Q3.f Q3.fn Q3.top
   simp only [gd0, gd1, gd2, ln0, ln1, ln2, if_true]
   rw [if_neg (by decide +kernel), if_neg (by decide +kernel), if_pos (by decide +kernel), q1, Option.bind_some]
   refine bind_eq ((QbB ws w1 (by omega))) ?_
   try dsimp only
   rw [if_neg (by simpa using hi)]
   exact bind_eq (b2) rfl
  ·have hs : Qag.f d [wSignal, w1, w2] [a] = some (if (asR d.2.1 (a, idxW ws w1)).2 = 0 then (d.1, ((asR d.2.1 (a, idxW ws w1)).1, d.2.2)) else d, (asR d.2.1 (a, idxW ws w1)).2) := by
    unfold Qag.f Qag.fn Qag.top
    simp only [gd0, gd1, gd2, ln0, ln1, ln2, if_true]
    rw [if_neg (by decide +kernel), if_pos (by decide +kernel), q2, Option.bind_some]
    refine bind_eq ((QbE ws w1 (by omega))) ?_
    try dsimp only
    rw [if_neg (by simpa using hi)]
    refine bind_eq (b1) ?_
    try dsimp only
    by_cases h : (asR d.2.1 (a, idxW ws w1)).2 = 0
    ·rw [if_pos (by simpa using h), if_pos h]
    ·rw [if_neg (by simpa using h), if_neg h]
   rw [run_set hp (.inr (.inl rfl)) hs hc.2]
   unfold finR
   by_cases h : (asR d.2.1 (a, idxW ws w1)).2 = 0
   ·rw [if_pos h, if_pos h, if_pos h]
   ·rw [if_neg h, if_neg h]
theorem ex_state {d : Dsk} (hd : deskB d = true) {line w1 : ByteArray} {a : Int} (hp : Qn.f line = some ([wState, w1], ([a], true))) : Exe d line (wState, ([], [a])) := by
 obtain ⟨h1, h2, h3⟩ := desk_iff.1 hd
 have hs1 := (sigsB_iff h2).1
 obtain ⟨b1, b2⟩ := ControllerAt_both d.2.1 a (by omega)
 have hc : 0 ≤ (caR d.2.1 a).2 ∧ (caR d.2.1 a).2 ≤ 20 := by
  unfold caR
  repeat' split
  all_goals simp
 refine ⟨d, sttW (caR d.2.1 a).1, (caR d.2.1 a).2, ?_, ?_, fun _ => hd, hc, Nat.le_trans (sttW_size _) (by omega)⟩
 ·unfold Q3.f Q3.fn Q3.top
  simp only [gd0, gd1, gd2, ln0, ln1, ln2, if_true]
  rw [if_neg (by decide +kernel), if_neg (by decide +kernel), if_neg (by decide +kernel), if_pos (by decide +kernel)]
  refine bind_eq (b2) ?_
  try dsimp only
  rw [Qcl]; rfl
 ·refine run_ask hp (.inr (.inl rfl)) ?_ hc
  unfold Qad.f Qad.fn Qad.top
  simp only [gd0, gd1, gd2, ln0, ln1, ln2, if_true]
  rw [if_neg (by decide +kernel), if_pos (by decide +kernel)]
  exact bind_eq ((QcC d a (by omega))) rfl
theorem ex_fire {d : Dsk} (hd : deskB d = true) {line w1 : ByteArray} {a : Int} (hp : Qn.f line = some ([wFire, w1], ([a], true))) : Exe d line (wFire, ([], [a])) := by
 obtain ⟨h1, h2, h3⟩ := desk_iff.1 hd
 have hv := firV_bd d a
 have hc : 0 ≤ (firV d a).2 ∧ (firV d a).2 ≤ 20 := by rcases hv.1 with h | h <;> omega
 refine ⟨d, (firV d a).1, (firV d a).2, ?_, ?_, fun _ => hd, hc, by omega⟩
 ·unfold Q3.f Q3.fn Q3.top
  simp only [gd0, gd1, gd2, ln0, ln1, ln2, if_true]
  rw [if_neg (by decide +kernel), if_neg (by decide +kernel), if_neg (by decide +kernel), if_neg (by decide +kernel), if_pos (by decide +kernel)]
  exact QcV h1 h2 a (wFire, ([], [a])) rfl d.1 [] [] NN rfl zi_nil rfl (NN_lt (by have := (movesB_iff h1).1; omega))
 ·refine run_ask hp (.inr (.inr (.inl rfl))) ?_ hc
  unfold Qad.f Qad.fn Qad.top
  simp only [gd0, gd1, gd2, ln0, ln1, ln2, if_true]
  rw [if_neg (by decide +kernel), if_neg (by decide +kernel), if_pos (by decide +kernel)]
  exact bind_eq ((QcO h1 h2 a)) rfl
end Go.Pl

namespace Go.Pl
open Go.Ev
set_option linter.unusedVariables false
set_option linter.unusedSimpArgs false
theorem dec_both {n : Int} (h0 : 0 ≤ n) (h : n ≤ 1000000000000000) : Qd.f n = some (decB n) ∧ Qq.f n = some (decB n) ∧ (decB n).size ≤ 20 := ⟨Qbt (by omega) (by omega), Qbk h0 (by omega), decB_size (by omega) (by omega)⟩
def bookW : List ByteArray := [(⟨#[105, 110]⟩ : ByteArray), (⟨#[102, 105, 114, 101, 100]⟩ : ByteArray), (⟨#[114, 101, 116, 117, 114, 110, 101, 100]⟩ : ByteArray), (⟨#[100, 101, 115, 116, 114, 111, 121, 101, 100]⟩ : ByteArray)]
theorem ex_book {d : Dsk} (hd : deskB d = true) {line w1 w2 w3 : ByteArray} {a : Int} (hz : w2.size ≤ 1000000) (ha : -10000000000000 ≤ a ∧ a ≤ 10000000000000) (hp : Qn.f line = some ([wBook, w1, w2, w3], ([a], true))) : Exe d line (wBook, ([w1, w2], [a])) := by
 obtain ⟨h1, h2, h3⟩ := desk_iff.1 hd
 have hl := (booksB_val h3).2
 have hb := idxW_bd bookW w1
 have hbl : bookW.length = 4 := rfl
 have p1 := QbB bookW w1 (by rw [hbl]; omega)
 have p2 := QbE bookW w1 (by rw [hbl]; omega)
 by_cases hi : idxW bookW w1 < 0
 ·refine ⟨d, ⟨#[]⟩, 6, ?_, ?_, fun h => absurd h (by decide), by decide, by decide⟩
  ·unfold Q3.f Q3.fn Q3.top
   simp only [gd0, gd1, gd2, ln0, ln1, ln2, if_true]
   rw [if_neg (by decide +kernel), if_neg (by decide +kernel), if_neg (by decide +kernel), if_neg (by decide +kernel), if_neg (by decide +kernel), if_pos (by decide +kernel)]
   refine bind_eq p1 ?_
   try dsimp only
   rw [if_pos (decide_eq_true hi)]
  ·have hs : Qag.f d [wBook, w1, w2, w3] [a] = some (d, 6) := by
    unfold Qag.f Qag.fn Qag.top
    simp only [gd0, gd1, gd2, ln0, ln1, ln2, if_true]
    rw [if_neg (by decide +kernel), if_neg (by decide +kernel), if_pos (by decide +kernel)]
    refine bind_eq p2 ?_
    try dsimp only
    rw [if_pos (decide_eq_true hi)]
   rw [run_set hp (.inr (.inr (.inl rfl))) hs (by decide)]
   unfold finR
   rw [if_neg (by decide), if_neg (by decide)]
 ·have hok : OkBooking (idxW bookW w1, (w2, a)) := ⟨wf64.2 (by simp only; omega), hz, wf64.2 (by simp only; omega)⟩
  have hlm := books_lm' h3
  have b1 := Qcb d.2.2 (idxW bookW w1, (w2, a)) hlm hok
  have b2 := Qca d.2.2 (idxW bookW w1, (w2, a)) hlm hok
  have hc : ((bookR d.2.2 (idxW bookW w1, (w2, a))).2 = 0 → booksB (bookR d.2.2 (idxW bookW w1, (w2, a))).1 = true) ∧ 0 ≤ (bookR d.2.2 (idxW bookW w1, (w2, a))).2 ∧ (bookR d.2.2 (idxW bookW w1, (w2, a))).2 ≤ 20 := by
   unfold bookR
   repeat' split
   all_goals simp_all
  generalize bookR d.2.2 (idxW bookW w1, (w2, a)) = R at *
  refine ⟨(d.1, (d.2.1, R.1)), wOk, R.2, ?_, ?_, fun h => desk_iff.2 ⟨h1, h2, hc.1 h⟩, hc.2, by decide⟩
  ·unfold Q3.f Q3.fn Q3.top
   simp only [gd0, gd1, gd2, ln0, ln1, ln2, if_true]
   rw [if_neg (by decide +kernel), if_neg (by decide +kernel), if_neg (by decide +kernel), if_neg (by decide +kernel), if_neg (by decide +kernel), if_pos (by decide +kernel)]
   refine bind_eq p1 ?_
   try dsimp only
   rw [if_neg (by simpa using hi)]
   exact bind_eq b2 rfl
  ·have hs : Qag.f d [wBook, w1, w2, w3] [a] = some (if R.2 = 0 then (d.1, (d.2.1, R.1)) else d, R.2) := by
    unfold Qag.f Qag.fn Qag.top
    simp only [gd0, gd1, gd2, ln0, ln1, ln2, if_true]
    rw [if_neg (by decide +kernel), if_neg (by decide +kernel), if_pos (by decide +kernel)]
    refine bind_eq p2 ?_
    try dsimp only
    rw [if_neg (by simpa using hi)]
    refine bind_eq b1 ?_
    try dsimp only
    by_cases h : R.2 = 0
    ·rw [if_pos (by simpa using h), if_pos h]
    ·rw [if_neg (by simpa using h), if_neg h]
   rw [run_set hp (.inr (.inr (.inl rfl))) hs hc.2]
   unfold finR
   by_cases h : R.2 = 0
   ·rw [if_pos h, if_pos h, if_pos h]
   ·rw [if_neg h, if_neg h]
theorem ex_settle {d : Dsk} (hd : deskB d = true) {line w1 : ByteArray} {a : Int} (hp : Qn.f line = some ([wSettle, w1], ([a], true))) : Exe d line (wSettle, ([], [a])) := by
 obtain ⟨h1, h2, h3⟩ := desk_iff.1 hd
 obtain ⟨b1, b2⟩ := SettleAll_both d.2.2 a (books_lm' h3)
 have hc : ((stlR d.2.2 a).2 = 0 → booksB (stlR d.2.2 a).1 = true) ∧ 0 ≤ (stlR d.2.2 a).2 ∧ (stlR d.2.2 a).2 ≤ 20 := by
  unfold stlR limS
  repeat' split
  all_goals simp_all
 generalize stlR d.2.2 a = R at *
 refine ⟨(d.1, (d.2.1, R.1)), wOk, R.2, ?_, ?_, fun h => desk_iff.2 ⟨h1, h2, hc.1 h⟩, hc.2, by decide⟩
 ·unfold Q3.f Q3.fn Q3.top
  simp only [gd0, gd1, gd2, ln0, ln1, ln2, if_true]
  rw [if_neg (by decide +kernel), if_neg (by decide +kernel), if_neg (by decide +kernel), if_neg (by decide +kernel), if_neg (by decide +kernel), if_neg (by decide +kernel), if_neg (by decide +kernel), if_neg (by decide +kernel), if_pos (by decide +kernel)]
  exact bind_eq b2 rfl
 ·have hs : Qag.f d [wSettle, w1] [a] = some (if R.2 = 0 then (d.1, (d.2.1, R.1)) else d, R.2) := by
   unfold Qag.f Qag.fn Qag.top
   simp only [gd0, gd1, gd2, ln0, ln1, ln2, if_true]
   rw [if_neg (by decide +kernel), if_neg (by decide +kernel), if_neg (by decide +kernel)]
   refine bind_eq b1 ?_
   try dsimp only
   by_cases h : R.2 = 0
   ·rw [if_pos (by simpa using h), if_pos h]
   ·rw [if_neg (by simpa using h), if_neg h]
  rw [run_set hp (.inr (.inr (.inr rfl))) hs hc.2]
  unfold finR
  by_cases h : R.2 = 0
  ·rw [if_pos h, if_pos h, if_pos h]
  ·rw [if_neg h, if_neg h]
theorem ex_left {d : Dsk} (hd : deskB d = true) {line w1 : ByteArray} (hz : w1.size ≤ 1000000) (hp : Qn.f line = some ([wLeft, w1], ([], true))) : Exe d line (wLeft, ([w1], [])) := by
 obtain ⟨h1, h2, h3⟩ := desk_iff.1 hd
 obtain ⟨b1, b2⟩ := PiecesLeft_both d.2.2 w1 (books_lm' h3) hz
 have hv := booksB_val h3
 have hle := leftOf_le w1 d.2.2 hv.1
 have h0 := (most_bd d.2.2 w1 h3).1
 have hc : (0 ≤ (leftR d.2.2 w1).1 ∧ (leftR d.2.2 w1).1 ≤ 1000000) ∧ 0 ≤ (leftR d.2.2 w1).2 ∧ (leftR d.2.2 w1).2 ≤ 20 := by
  unfold leftR
  split <;> simp only <;> omega
 generalize leftR d.2.2 w1 = R at *
 obtain ⟨d1, d2, d3⟩ := dec_both (n := R.1) hc.1.1 (by omega)
 refine ⟨d, decB R.1, R.2, ?_, ?_, fun _ => hd, hc.2, by omega⟩
 ·unfold Q3.f Q3.fn Q3.top
  simp only [gd0, gd1, gd2, ln0, ln1, ln2, if_true]
  rw [if_neg (by decide +kernel), if_neg (by decide +kernel), if_neg (by decide +kernel), if_neg (by decide +kernel), if_neg (by decide +kernel), if_neg (by decide +kernel), if_pos (by decide +kernel)]
  exact bind_eq b2 (bind_eq d1 rfl)
 ·refine run_ask hp (.inr (.inr (.inr (.inr (.inr (.inl rfl)))))) ?_ hc.2
  unfold Qad.f Qad.fn Qad.top
  simp only [gd0, gd1, gd2, ln0, ln1, ln2, if_true]
  rw [if_neg (by decide +kernel), if_neg (by decide +kernel), if_neg (by decide +kernel), if_pos (by decide +kernel)]
  exact bind_eq b1 (bind_eq d2 rfl)
theorem lf0 {α : Type} : ((0 : Int) ≤ 0 ∧ (0 : Int) < (([] : List α).length : Int)) = False := eq_false (fun h => by simp at h)
theorem lf1 {α : Type} : ((0 : Int) ≤ 1 ∧ (1 : Int) < (([] : List α).length : Int)) = False := eq_false (fun h => by simp at h)
theorem lf2 {α : Type} (a : α) : ((0 : Int) ≤ 1 ∧ (1 : Int) < (([a] : List α).length : Int)) = False := eq_false (fun h => by simp at h)
theorem ex_open {d : Dsk} (hd : deskB d = true) {line : ByteArray} (hp : Qn.f line = some ([wOpen], ([], true))) : Exe d line (wOpen, ([], [])) := by
 obtain ⟨h1, h2, h3⟩ := desk_iff.1 hd
 have hv := booksB_val h3
 obtain ⟨o1, b2, b1⟩ := open_both d.2.2 hv.1 (by omega)
 have hw : ∀ w ∈ openL d.2.2, w.size ≤ 16 := fun w hw => by
  obtain ⟨⟨b, hb, e⟩, _⟩ := (o1.mem w).1 hw
  have := hv.1 b hb
  unfold valB at this
  simp only [Bool.and_eq_true] at this
  rw [← e]; exact (wordB_size this.1.2).2
 have hln := o1.len
 generalize openL d.2.2 = L at *
 by_cases hL : L = []
 ·subst hL
  refine ⟨d, ⟨#[45]⟩, 0, ?_, ?_, fun _ => hd, by decide, by decide⟩
  ·unfold Q3.f Q3.fn Q3.top
   simp only [gd0, gd1, gd2, ln0, ln1, ln2, lf0, lf1, lf2, if_true, if_false]
   rw [if_neg (by decide +kernel), if_neg (by decide +kernel), if_neg (by decide +kernel), if_neg (by decide +kernel), if_neg (by decide +kernel), if_neg (by decide +kernel), if_neg (by decide +kernel), if_pos (by decide +kernel)]
   exact bind_eq b2 rfl
  ·refine run_ask hp (.inr (.inr (.inr (.inr (.inr (.inr (.inl rfl))))))) ?_ (by decide)
   unfold Qad.f Qad.fn Qad.top
   simp only [gd0, gd1, gd2, ln0, ln1, ln2, lf0, lf1, lf2, if_true, if_false]
   rw [if_neg (by decide +kernel), if_neg (by decide +kernel), if_neg (by decide +kernel), if_neg (by decide +kernel), if_pos (by decide +kernel)]
   exact bind_eq b1 rfl
 ·have hne : ((L.length : Int) == 0) = false := by
   rw [len0]; simpa using hL
  have hcs : (⟨#[44]⟩ : ByteArray).size = 1 := by decide
  have j1 := Qcp L (⟨#[44]⟩ : ByteArray) (fun s hs => by have := hw s hs; omega) (by omega) (by omega)
  have j2 := Qcq L (⟨#[44]⟩ : ByteArray) (fun s hs => by have := hw s hs; omega) (by omega) (by omega)
  have hsz : (joinB (⟨#[44]⟩ : ByteArray) L).size ≤ 10000 := by
   have := joinF_size (⟨#[44]⟩ : ByteArray) (by omega) L 0 (⟨#[]⟩ : ByteArray) hw
   have e0 : (⟨#[]⟩ : ByteArray).size = 0 := by decide
   unfold joinB; omega
  refine ⟨d, joinB (⟨#[44]⟩ : ByteArray) L, 0, ?_, ?_, fun _ => hd, by decide, hsz⟩
  ·unfold Q3.f Q3.fn Q3.top
   simp only [gd0, gd1, gd2, ln0, ln1, ln2, lf0, lf1, lf2, if_true, if_false]
   rw [if_neg (by decide +kernel), if_neg (by decide +kernel), if_neg (by decide +kernel), if_neg (by decide +kernel), if_neg (by decide +kernel), if_neg (by decide +kernel), if_neg (by decide +kernel), if_pos (by decide +kernel)]
   refine bind_eq b2 ?_
   try dsimp only
   rw [hne, if_neg (by simp)]
   exact bind_eq j1.1 rfl
  ·refine run_ask hp (.inr (.inr (.inr (.inr (.inr (.inr (.inl rfl))))))) ?_ (by decide)
   unfold Qad.f Qad.fn Qad.top
   simp only [gd0, gd1, gd2, ln0, ln1, ln2, lf0, lf1, lf2, if_true, if_false]
   rw [if_neg (by decide +kernel), if_neg (by decide +kernel), if_neg (by decide +kernel), if_neg (by decide +kernel), if_pos (by decide +kernel)]
   refine bind_eq b1 ?_
   try dsimp only
   rw [hne, if_neg (by simp)]
   exact bind_eq j2.1 rfl
theorem ex_top {d : Dsk} (hd : deskB d = true) {line w1 : ByteArray} {a : Int} (hp : Qn.f line = some ([wTop, w1], ([a], true))) : Exe d line (wTop, ([], [a])) := by
 obtain ⟨b1, b2, b3, b4, b5⟩ := TopOf_both a
 have hc : 0 ≤ (topR a).2.2 ∧ (topR a).2.2 ≤ 20 := by
  have : (topR a).2.2 = 0 ∨ (topR a).2.2 = 2 := by
   have h := b2
   unfold QaX.f QaX.fn QaX.top Qbe.f Qbe.fn Qbe.top at h
   rw [Qbh] at h
   cases hu : inB a 0 200000
   ·rw [hu] at h
    have := Option.some.inj h
    rw [← this]; exact .inr rfl
   ·rw [hu] at h
    simp only [Option.bind_some, Bool.not_true, Bool.false_eq_true, if_false] at h
    cases ht : Qae.f a with
    | none => rw [ht] at h; cases h
    | some y =>
     rw [ht] at h
     have := Option.some.inj h
     rw [← this]; exact .inl rfl
  omega
 obtain ⟨d1, d2, d3⟩ := dec_both (n := (topR a).1) b3.1 (by omega)
 obtain ⟨f1, f2, f3⟩ := dec_both (n := (topR a).2.1) b4 (by omega)
 have e1 : (⟨#[32]⟩ : ByteArray).size = 1 := by decide
 generalize topR a = R at *
 have q1 : (decB R.1).size + (⟨#[32]⟩ : ByteArray).size ≤ 9223372036854775807 := by omega
 have q2 : (decB R.1 ++ (⟨#[32]⟩ : ByteArray)).size + (decB R.2.1).size ≤ 9223372036854775807 := by rw [ByteArray.size_append]; omega
 refine ⟨d, (decB R.1 ++ (⟨#[32]⟩ : ByteArray)) ++ decB R.2.1, R.2.2, ?_, ?_, fun _ => hd, hc, by rw [ByteArray.size_append, ByteArray.size_append]; omega⟩
 ·unfold Q3.f Q3.fn Q3.top
  simp only [gd0, gd1, gd2, ln0, ln1, ln2, if_true]
  rw [if_neg (by decide +kernel), if_neg (by decide +kernel), if_neg (by decide +kernel), if_neg (by decide +kernel), if_neg (by decide +kernel), if_neg (by decide +kernel), if_neg (by decide +kernel), if_neg (by decide +kernel), if_neg (by decide +kernel), if_pos (by decide +kernel)]
  refine bind_eq b2 (bind_eq d1 ?_)
  try dsimp only
  rw [if_pos q1]
  refine bind_eq f1 ?_
  try dsimp only
  rw [if_pos q2]
 ·refine run_ask hp (.inr (.inr (.inr (.inl rfl)))) ?_ hc
  unfold Qad.f Qad.fn Qad.top
  simp only [gd0, gd1, gd2, ln0, ln1, ln2, if_true]
  rw [if_neg (by decide +kernel), if_neg (by decide +kernel), if_neg (by decide +kernel), if_neg (by decide +kernel), if_neg (by decide +kernel), if_pos (by decide +kernel)]
  refine bind_eq b1 (bind_eq d2 ?_)
  try dsimp only
  rw [if_pos q1]
  refine bind_eq f2 ?_
  try dsimp only
  rw [if_pos q2]
theorem ex_need {d : Dsk} (hd : deskB d = true) {line w1 w2 : ByteArray} {a b : Int} (hp : Qn.f line = some ([wNeed, w1, w2], ([a, b], true))) : Exe d line (wNeed, ([], [a, b])) := by
 obtain ⟨b1, b2, b3, b4⟩ := SeparationFor_both a b
 have hc : 0 ≤ (sepR a b).2 ∧ (sepR a b).2 ≤ 20 := by
  have : (sepR a b).2 = 0 ∨ (sepR a b).2 = 2 := by
   have h := b2
   unfold Qac.f Qac.fn Qac.top QaE.f QaE.fn QaE.top QaD.f QaD.fn QaD.top at h
   rw [Qbh, Qbh] at h
   cases hu : inB a 0 500
   ·rw [hu] at h
    have := Option.some.inj h
    rw [← this]; exact .inr rfl
   ·cases hv : inB b 0 100000000
    ·rw [hu, hv] at h
     have := Option.some.inj h
     rw [← this]; exact .inr rfl
    ·rw [hu, hv] at h
     simp only [Option.bind_some, Bool.not_true, Bool.false_eq_true, if_false, if_true] at h
     cases ht : Qv.f a b with
     | none => rw [ht] at h; cases h
     | some y =>
      rw [ht] at h
      have := Option.some.inj h
      rw [← this]; exact .inl rfl
  omega
 obtain ⟨d1, d2, d3⟩ := dec_both (n := (sepR a b).1) b3 (by omega)
 generalize sepR a b = R at *
 refine ⟨d, decB R.1, R.2, ?_, ?_, fun _ => hd, hc, by omega⟩
 ·unfold Q3.f Q3.fn Q3.top
  simp only [gd0, gd1, gd2, ln0, ln1, ln2, if_true]
  rw [if_neg (by decide +kernel), if_neg (by decide +kernel), if_neg (by decide +kernel), if_neg (by decide +kernel), if_neg (by decide +kernel), if_neg (by decide +kernel), if_neg (by decide +kernel), if_neg (by decide +kernel), if_neg (by decide +kernel), if_neg (by decide +kernel), if_pos (by decide +kernel)]
  exact bind_eq b2 (bind_eq d1 rfl)
 ·refine run_ask hp (.inr (.inr (.inr (.inr (.inr (.inr (.inr rfl))))))) ?_ hc
  unfold Qad.f Qad.fn Qad.top
  simp only [gd0, gd1, gd2, ln0, ln1, ln2, if_true]
  rw [if_neg (by decide +kernel), if_neg (by decide +kernel), if_neg (by decide +kernel), if_neg (by decide +kernel), if_neg (by decide +kernel), if_neg (by decide +kernel), if_pos (by decide +kernel)]
  exact bind_eq b1 (bind_eq d2 rfl)
theorem ex_time {d : Dsk} (hd : deskB d = true) {line w1 : ByteArray} {a : Int} (hp : Qn.f line = some ([wTime, w1], ([a], true))) : Exe d line (wTime, ([], [a])) := by
 obtain ⟨b1, b2, b3⟩ := TimeText_both a
 have hc : 0 ≤ (ttR a).2 ∧ (ttR a).2 ≤ 20 := by
  have : (ttR a).2 = 0 ∨ (ttR a).2 = 2 := by
   have h := b2
   unfold Qat.f Qat.fn Qat.top at h
   rw [QbA] at h
   cases hu : inB a 0 10000000
   ·rw [hu] at h
    have := Option.some.inj h
    rw [← this]; exact .inr rfl
   ·rw [hu] at h
    simp only [Option.bind_some, Bool.not_true, Bool.false_eq_true, if_false] at h
    cases ht : QaK.f a with
    | none => rw [ht] at h; cases h
    | some y =>
     rw [ht] at h
     have := Option.some.inj h
     rw [← this]; exact .inl rfl
  omega
 generalize ttR a = R at *
 refine ⟨d, R.1, R.2, ?_, ?_, fun _ => hd, hc, by omega⟩
 ·unfold Q3.f Q3.fn Q3.top
  simp only [gd0, gd1, gd2, ln0, ln1, ln2, if_true]
  rw [if_neg (by decide +kernel), if_neg (by decide +kernel), if_neg (by decide +kernel), if_neg (by decide +kernel), if_neg (by decide +kernel), if_neg (by decide +kernel), if_neg (by decide +kernel), if_neg (by decide +kernel), if_neg (by decide +kernel), if_neg (by decide +kernel), if_neg (by decide +kernel)]
  exact bind_eq b2 rfl
 ·refine run_ask hp (.inr (.inr (.inr (.inr (.inl rfl))))) ?_ hc
  unfold Qad.f Qad.fn Qad.top
  simp only [gd0, gd1, gd2, ln0, ln1, ln2, if_true]
  rw [if_neg (by decide +kernel), if_neg (by decide +kernel), if_neg (by decide +kernel), if_neg (by decide +kernel), if_neg (by decide +kernel), if_neg (by decide +kernel), if_neg (by decide +kernel)]
  exact bind_eq b1 rfl
end Go.Pl

namespace Go.Pl
open Go.Ev
set_option linter.unusedVariables false
noncomputable section
end
end Go.Pl

namespace Go.Pl
open Go.Ev
set_option linter.unusedVariables false
noncomputable section
end
end Go.Pl

namespace Go.Pl
open Go.Ev
set_option linter.unusedVariables false
set_option linter.unusedSimpArgs false
def spW (line : ByteArray) : List ByteArray := (splitL 32 (bl line)).map ob
theorem spW_cons (line : ByteArray) : ∃ w0 ws, spW line = w0 :: ws := by
 unfold spW
 cases h : splitL 32 (bl line) with
 | nil => exact absurd h (splitL_ne _ _)
 | cons a r => exact ⟨ob a, r.map ob, rfl⟩
theorem spW_size (line : ByteArray) : ∀ w ∈ spW line, w.size ≤ line.size := by
 intro w hw
 obtain ⟨x, hx, rfl⟩ := List.mem_map.1 hw
 rw [ob_size, ← bl_length]
 exact splitL_size 32 (bl line) x hx
theorem spW_len (line : ByteArray) : (spW line).length ≤ line.size + 1 := by
 unfold spW
 rw [List.length_map, ← bl_length]
 exact splitL_length _ _
theorem cmdW_none {w0 : ByteArray} (ws : List ByteArray) (h : shpL w0 = none) : cmdW (w0 :: ws) = none := by simp only [cmdW, h]
theorem cmdW_some {w0 : ByteArray} {l : List UInt8} (ws : List ByteArray) (h : shpL w0 = some l) : cmdW (w0 :: ws) = if ws.length = l.length then prs l ws else none := by simp only [cmdW, h]
theorem Qcm {line w0 : ByteArray} {ws : List ByteArray} (h : line.size ≤ 1000000) (hw : spW line = w0 :: ws) : Qx.f line = some (cmdOut w0 [] [] (cmdW (w0 :: ws))) := by
 have hs := spW_size line
 have hl := spW_len line
 rw [hw] at hs hl
 simp only [List.length_cons] at hl
 unfold Qx.f Qx.fn Qx.top
 have e := QbO line 32 h
 rw [show (((32 : UInt8).toNat : Int)) = 32 from rfl, show (splitL 32 (bl line)).map ob = spW line from rfl, hw] at e
 rw [e, Option.bind_some]
 simp only [ln0, gd0, if_true]
 cases hsh : shpL w0 with
 | none =>
  rw [cmdW_none ws hsh, (shape_none hsh).1]
  rfl
 | some l =>
  obtain ⟨s1, s2, s3, s4⟩ := shape_some hsh
  have w := w64 (n := (l.length : Int) + 1) (by omega) (by omega)
  rw [cmdW_some ws hsh, s1, Option.bind_some]
  simp only [and_self, and_true, true_and, decide_true, decide_false, if_true, if_false, mid_get, mid_set, mid_getn, mid_setn, bt_mid, Option.bind_some, Bool.not_true, Bool.not_false, Bool.false_eq_true, Bool.true_eq_false, beq_self_eq_true, bne_self_eq_false, Int.toNat_natCast, ob_size, w]
  by_cases hlen : ws.length = l.length
  ·have e1 : (((w0 :: ws).length : Int) != (l.length : Int) + 1) = false := by simp [hlen]
   rw [e1, if_neg (by simp), if_pos hlen]
   have := QcW ByteArray.empty w0 w0 [] [] l [] ws [] [] [] NN rfl hlen (by simp; omega) (by simp) (by simp) s3 (fun x hx => by have := hs x (by simp [hx]); omega) (NN_lt (by omega))
   exact this
  ·have e1 : (((w0 :: ws).length : Int) != (l.length : Int) + 1) = true := by
    have : ¬ ((ws.length : Int) + 1 = (l.length : Int) + 1) := by omega
    simpa using this
   rw [e1, if_pos rfl, if_neg hlen]
   rfl
theorem QcD {line w0 : ByteArray} {ws : List ByteArray} (h : line.size ≤ 1000000) (hw : spW line = w0 :: ws) : Qn.f line = some (prsOut (w0 :: ws) [] (cmdW (w0 :: ws))) := by
 have hs := spW_size line
 have hl := spW_len line
 rw [hw] at hs hl
 simp only [List.length_cons] at hl
 unfold Qn.f Qn.fn Qn.top
 have e := QbK line 32 h
 rw [show (((32 : UInt8).toNat : Int)) = 32 from rfl, show (splitL 32 (bl line)).map ob = spW line from rfl, hw] at e
 rw [e, Option.bind_some]
 simp only [ln0, gd0, if_true]
 cases hsh : shpL w0 with
 | none =>
  have e45 : ((⟨#[45]⟩ : ByteArray).toList == (⟨#[45]⟩ : ByteArray).toList) = true := by decide +kernel
  rw [cmdW_none ws hsh, (shape_none hsh).2, Option.bind_some, e45]
  rfl
 | some l =>
  obtain ⟨s1, s2, s3, s4⟩ := shape_some hsh
  have w := w64 (n := (l.length : Int) + 1) (by omega) (by omega)
  have hne : ((ob (l.map upK)).toList == (⟨#[45]⟩ : ByteArray).toList) = false := by
   rw [ba_beq, decide_eq_false_iff_not]
   intro he
   have he2 : l.map upK = [45] := by
    have := congrArg bl he
    rwa [bl_ob] at this
   cases l with
   | nil => cases he2
   | cons c r =>
    have h45 : upK c = 45 := by
     rw [List.map_cons] at he2
     exact (List.cons.inj he2).1
    rcases s3 c (by simp) with rfl | rfl | rfl <;> exact absurd h45 (by decide)
  rw [cmdW_some ws hsh, s2, Option.bind_some, hne]
  simp only [and_self, and_true, true_and, decide_true, decide_false, if_true, if_false, mid_get, mid_set, mid_getn, mid_setn, bt_mid, Option.bind_some, Bool.not_true, Bool.not_false, Bool.false_eq_true, Bool.true_eq_false, beq_self_eq_true, bne_self_eq_false, Int.toNat_natCast, ob_size, List.length_map, w]
  by_cases hlen : ws.length = l.length
  ·have e1 : (((w0 :: ws).length : Int) != (l.length : Int) + 1) = false := by simp [hlen]
   rw [e1, if_neg (by simp), if_pos hlen]
   have := QcX w0 l [] ws [] [] NN rfl hlen (by simp; omega) (by simp) s3 (fun x hx => by have := hs x (by simp [hx]); omega) (NN_lt (by omega))
   exact this
  ·have e1 : (((w0 :: ws).length : Int) != (l.length : Int) + 1) = true := by
    have : ¬ ((ws.length : Int) + 1 = (l.length : Int) + 1) := by omega
    simpa using this
   rw [e1, if_pos rfl, if_neg hlen]
   rfl
theorem exec_all {d : Dsk} (hd : deskB d = true) {line w0 : ByteArray} {ws t : List ByteArray} {n : List Int} (hz : ∀ w ∈ ws, w.size ≤ 1000000) (hc : cmdW (w0 :: ws) = some (t, n)) (hp : Qn.f line = some (w0 :: ws, (n, true))) : Exe d line (w0, (t, n)) := by
 rcases shape_cases w0 with (rfl | rfl | rfl | rfl | rfl | rfl | rfl | rfl | rfl | rfl | rfl | rfl) | ⟨h1, _⟩
 case inr => rw [cmdW_none ws h1] at hc; cases hc
 ·-- people
  have hs : shpL wPeople = some [116, 105, 106] := by decide +kernel
  rw [cmdW_some ws hs] at hc
  match ws, hz, hp, hc with
  | [w1, w2, w3], hz, hp, hc =>
   simp only [List.length_cons, List.length_nil, if_true, prs] at hc
   cases n0 : numI w2 with
   | none => simp [n0] at hc
   | some a =>
    cases n1 : numJ w3 with
    | none => simp [n0, n1] at hc
    | some b =>
     simp [n0, n1] at hc
     obtain ⟨rfl, rfl⟩ := hc
     exact ex_people hd (hz w1 (by simp)) hp
  | [], _, _, hc => simp at hc
  | [_], _, _, hc => simp at hc
  | [_, _], _, _, hc => simp at hc
  | _ :: _ :: _ :: _ :: _, _, _, hc => simp at hc
 ·-- clear
  have hs : shpL wClear = some [116, 105] := by decide +kernel
  rw [cmdW_some ws hs] at hc
  match ws, hz, hp, hc with
  | [w1, w2], hz, hp, hc =>
   simp only [List.length_cons, List.length_nil, if_true, prs] at hc
   cases n0 : numI w2 with
   | none => simp [n0] at hc
   | some a =>
    simp [n0] at hc
    obtain ⟨rfl, rfl⟩ := hc
    exact ex_clear hd (hz w1 (by simp)) hp
  | [], _, _, hc => simp at hc
  | [_], _, _, hc => simp at hc
  | _ :: _ :: _ :: _, _, _, hc => simp at hc
 ·-- signal
  have hs : shpL wSignal = some [116, 105] := by decide +kernel
  rw [cmdW_some ws hs] at hc
  match ws, hz, hp, hc with
  | [w1, w2], hz, hp, hc =>
   simp only [List.length_cons, List.length_nil, if_true, prs] at hc
   cases n0 : numI w2 with
   | none => simp [n0] at hc
   | some a =>
    simp [n0] at hc
    obtain ⟨rfl, rfl⟩ := hc
    exact ex_signal hd hp
  | [], _, _, hc => simp at hc
  | [_], _, _, hc => simp at hc
  | _ :: _ :: _ :: _, _, _, hc => simp at hc
 ·-- state
  have hs : shpL wState = some [105] := by decide +kernel
  rw [cmdW_some ws hs] at hc
  match ws, hz, hp, hc with
  | [w1], hz, hp, hc =>
   simp only [List.length_cons, List.length_nil, if_true, prs] at hc
   cases n0 : numI w1 with
   | none => simp [n0] at hc
   | some a =>
    simp [n0] at hc
    obtain ⟨rfl, rfl⟩ := hc
    exact ex_state hd hp
  | [], _, _, hc => simp at hc
  | _ :: _ :: _, _, _, hc => simp at hc
 ·-- fire
  have hs : shpL wFire = some [105] := by decide +kernel
  rw [cmdW_some ws hs] at hc
  match ws, hz, hp, hc with
  | [w1], hz, hp, hc =>
   simp only [List.length_cons, List.length_nil, if_true, prs] at hc
   cases n0 : numI w1 with
   | none => simp [n0] at hc
   | some a =>
    simp [n0] at hc
    obtain ⟨rfl, rfl⟩ := hc
    exact ex_fire hd hp
  | [], _, _, hc => simp at hc
  | _ :: _ :: _, _, _, hc => simp at hc
 ·-- settle
  have hs : shpL wSettle = some [105] := by decide +kernel
  rw [cmdW_some ws hs] at hc
  match ws, hz, hp, hc with
  | [w1], hz, hp, hc =>
   simp only [List.length_cons, List.length_nil, if_true, prs] at hc
   cases n0 : numI w1 with
   | none => simp [n0] at hc
   | some a =>
    simp [n0] at hc
    obtain ⟨rfl, rfl⟩ := hc
    exact ex_settle hd hp
  | [], _, _, hc => simp at hc
  | _ :: _ :: _, _, _, hc => simp at hc
 ·-- top
  have hs : shpL wTop = some [105] := by decide +kernel
  rw [cmdW_some ws hs] at hc
  match ws, hz, hp, hc with
  | [w1], hz, hp, hc =>
   simp only [List.length_cons, List.length_nil, if_true, prs] at hc
   cases n0 : numI w1 with
   | none => simp [n0] at hc
   | some a =>
    simp [n0] at hc
    obtain ⟨rfl, rfl⟩ := hc
    exact ex_top hd hp
  | [], _, _, hc => simp at hc
  | _ :: _ :: _, _, _, hc => simp at hc
 ·-- time
  have hs : shpL wTime = some [105] := by decide +kernel
  rw [cmdW_some ws hs] at hc
  match ws, hz, hp, hc with
  | [w1], hz, hp, hc =>
   simp only [List.length_cons, List.length_nil, if_true, prs] at hc
   cases n0 : numI w1 with
   | none => simp [n0] at hc
   | some a =>
    simp [n0] at hc
    obtain ⟨rfl, rfl⟩ := hc
    exact ex_time hd hp
  | [], _, _, hc => simp at hc
  | _ :: _ :: _, _, _, hc => simp at hc
 ·-- book
  have hs : shpL wBook = some [116, 116, 105] := by decide +kernel
  rw [cmdW_some ws hs] at hc
  match ws, hz, hp, hc with
  | [w1, w2, w3], hz, hp, hc =>
   simp only [List.length_cons, List.length_nil, if_true, prs] at hc
   cases n0 : numI w3 with
   | none => simp [n0] at hc
   | some a =>
    simp [n0] at hc
    obtain ⟨rfl, rfl⟩ := hc
    exact ex_book hd (hz w2 (by simp)) (by have := numI_bd n0; omega) hp
  | [], _, _, hc => simp at hc
  | [_], _, _, hc => simp at hc
  | [_, _], _, _, hc => simp at hc
  | _ :: _ :: _ :: _ :: _, _, _, hc => simp at hc
 ·-- left
  have hs : shpL wLeft = some [116] := by decide +kernel
  rw [cmdW_some ws hs] at hc
  match ws, hz, hp, hc with
  | [w1], hz, hp, hc =>
   simp only [List.length_cons, List.length_nil, if_true, prs] at hc
   simp [] at hc
   obtain ⟨rfl, rfl⟩ := hc
   exact ex_left hd (hz w1 (by simp)) hp
  | [], _, _, hc => simp at hc
  | _ :: _ :: _, _, _, hc => simp at hc
 ·-- open
  have hs : shpL wOpen = some [] := by decide +kernel
  rw [cmdW_some ws hs] at hc
  match ws, hz, hp, hc with
  | [], hz, hp, hc =>
   simp only [List.length_cons, List.length_nil, if_true, prs] at hc
   simp at hc
   obtain ⟨rfl, rfl⟩ := hc
   exact ex_open hd hp
  | _ :: _, _, _, hc => simp at hc
 ·-- need
  have hs : shpL wNeed = some [105, 105] := by decide +kernel
  rw [cmdW_some ws hs] at hc
  match ws, hz, hp, hc with
  | [w1, w2], hz, hp, hc =>
   simp only [List.length_cons, List.length_nil, if_true, prs] at hc
   cases n0 : numI w1 with
   | none => simp [n0] at hc
   | some a =>
    cases n1 : numI w2 with
    | none => simp [n0, n1] at hc
    | some b =>
     simp [n0, n1] at hc
     obtain ⟨rfl, rfl⟩ := hc
     exact ex_need hd hp
  | [], _, _, hc => simp at hc
  | [_], _, _, hc => simp at hc
  | _ :: _ :: _ :: _, _, _, hc => simp at hc
end Go.Pl

namespace Go.Pl
open Go.Ev
set_option linter.unusedVariables false
set_option linter.unusedSimpArgs false
abbrev RlO : Type := List ByteArray × Dsk × Int
abbrev RlL : Type := List ByteArray → Int → Int → List ByteArray → List Mov → List Sig → List Bkg → List Mov → List Sig → List Bkg → Option RlO
noncomputable def contK (L11 : RlL) (v37 : List ByteArray) (v38 v39 : Int) (out : List ByteArray) (w4 : List Mov) (w5 : List Sig) (w6 : List Bkg) (d : Dsk) (r : Dsk × ByteArray × Int) : Option RlO :=
 if ((r.2.2 : Int) != 0) = true then
  (Qd.f r.2.2).bind fun r5 =>
  if (⟨#[101, 114, 114, 111, 114, 32]⟩ : ByteArray).size + r5.size ≤ 9223372036854775807 then
   if out.length + ([(⟨#[101, 114, 114, 111, 114, 32]⟩ : ByteArray) ++ r5]).length < room 16 then
    L11 v37 v38 (IntKind.i64.wrap (v39 + 1)) (out ++ ([(⟨#[101, 114, 114, 111, 114, 32]⟩ : ByteArray) ++ r5])) w4 w5 w6 d.1 d.2.1 d.2.2
   else none
  else none
 else if out.length + ([r.2.1]).length < room 16 then
  L11 v37 v38 (IntKind.i64.wrap (v39 + 1)) (out ++ ([r.2.1])) w4 w5 w6 r.1.1 r.1.2.1 r.1.2.2
 else none
theorem ite_bind_o {α β : Type} {c : Prop} [Decidable c] (a b : Option α) (f : α → Option β) : (if c then a else b).bind f = if c then a.bind f else b.bind f := by split <;> rfl
theorem bind_assoc_o {α β γ : Type} (a : Option α) (f : α → Option β) (g : β → Option γ) : (a.bind f).bind g = a.bind fun x => (f x).bind g := by cases a <;> rfl
theorem rl_in (L11 : RlL) (v37 : List ByteArray) (v38 v39 : Int) (out : List ByteArray) (a : ByteArray) (w4 : List Mov) (w5 : List Sig) (w6 : List Bkg) (ms : List Mov) (ss : List Sig) (bs : List Bkg) (t : List ByteArray) (ns : List Int) (m : Int) (ca : ByteArray) : ∀ (k : Nat) (i : Int) (zs : List ByteArray) (x1 : List Mov) (x2 : List Sig) (x3 : List Bkg),
  Qc.l170000024 NN L11 k v37 v38 v39 out a w4 w5 w6 ms ss bs t ns m i out a w4 w5 w6 ms ss bs t ns ca zs x1 x2 x3 = (Q3.l24 NN k ms m i (ms, (ss, bs)) (a, (t, ns)) zs x1 x2 x3).bind (contK L11 v37 v38 v39 out w4 w5 w6 (ms, (ss, bs))) := by
 intro k
 induction k with
 | zero => intro i zs x1 x2 x3; rfl
 | succ k ih =>
  intro i zs x1 x2 x3
  simp only [Qc.l170000024, Qc.g170000024, Q3.l24, Q3.g24, ite_bind_o, bind_assoc_o, Option.bind_some, Option.bind_none, ih]
  rfl
theorem rl16 (L11 : RlL) (L16 : _) (v37 : List ByteArray) (v38 v39 : Int) (out : List ByteArray) (a : ByteArray) (w4 : List Mov) (w5 : List Sig) (w6 : List Bkg) (ms : List Mov) (ss : List Sig) (bs : List Bkg) (t : List ByteArray) (ns : List Int) :
  Qc.g1000016 (Qc.l170000024 NN L11 NN) L11 L16 v37 v38 v39 out a w4 w5 w6 ms ss bs t ns = (Q3.f (ms, (ss, bs)) (a, (t, ns))).bind (contK L11 v37 v38 v39 out w4 w5 w6 (ms, (ss, bs))) := by
 unfold Qc.g1000016 Q3.f Q3.fn Q3.top
 simp only [ite_bind_o, bind_assoc_o, Option.bind_some, Option.bind_none, rl_in]
 rfl
end Go.Pl

namespace Go.Pl
open Go.Ev
set_option linter.unusedVariables false
set_option linter.unusedSimpArgs false
noncomputable def lnR (d : Dsk) (line : ByteArray) : Dsk × ByteArray := (QF.f d line).getD (d, ByteArray.empty)
theorem line_ok {d : Dsk} (hd : deskB d = true) {line : ByteArray} (h : line.size ≤ 1000000) :
    QF.f d line = some (lnR d line) ∧ deskB (lnR d line).1 = true ∧ (lnR d line).2.size ≤ 10000 ∧
    ((cmdW (spW line) = none ∧ Qx.f line = some ((ByteArray.empty, ([], [])), false) ∧ lnR d line = (d, errT 6)) ∨
     (∃ w0 t n d' o e, Qx.f line = some ((w0, (t, n)), true) ∧ Q3.f d (w0, (t, n)) = some (d', o, e) ∧ (0 ≤ e ∧ e ≤ 20) ∧ lnR d line = finR d d' o e)) := by
  obtain ⟨w0, ws, hw⟩ := spW_cons line
  have hs := spW_size line
  rw [hw] at hs
  have p1 := Qcm h hw
  have p2 := QcD h hw
  cases hc : cmdW (w0 :: ws) with
  | none =>
    rw [hc] at p1 p2
    have e1 : QF.f d line = some (d, errT 6) := by
      unfold QF.f QF.fn QF.top
      refine bind_eq p2 ?_
      dsimp only [prsOut]
      rw [if_pos (show (!false) = true from rfl), (dec_both (n := 6) (by omega) (by omega)).2.1, Option.bind_some, if_pos (err_fit (e := 6) (by omega))]; rfl
    have e2 : lnR d line = (d, errT 6) := by unfold lnR; rw [e1]; rfl
    rw [e2]
    have := errT_size (e := 6) (by omega)
    exact ⟨e1, hd, by simp only; omega, .inl ⟨by rw [hw]; exact hc, p1, rfl⟩⟩
  | some y =>
    obtain ⟨t, n⟩ := y
    rw [hc] at p1 p2
    simp only [cmdOut, prsOut, List.nil_append] at p1 p2
    obtain ⟨d', o, e, x1, x2, x3, x4, x5⟩ := exec_all hd (fun w hw => by have := hs w (by simp [hw]); omega) hc p2
    have e2 : lnR d line = finR d d' o e := by unfold lnR; rw [x2]; rfl
    rw [e2]
    have he := errT_size x4
    refine ⟨x2, ?_, ?_, .inr ⟨w0, t, n, d', o, e, p1, x1, x4, rfl⟩⟩
    · unfold finR
      split
      · rename_i h0; exact x3 h0
      · exact hd
    · unfold finR
      split
      · exact x5
      · simp only; omega
noncomputable def runF (st : List ByteArray × Dsk) (line : ByteArray) : List ByteArray × Dsk := (st.1 ++ [(lnR st.2 line).2], (lnR st.2 line).1)
noncomputable def runL (ls : List ByteArray) : List ByteArray × Dsk := ls.foldl runF ([], ([], ([], [])))
structure RI (p : List ByteArray) (st : List ByteArray × Dsk) : Prop where
 ok : deskB st.2 = true
 len : st.1.length = p.length
 sz : ∀ o ∈ st.1, o.size ≤ 10000
theorem ri_nil : RI [] ([], ([], ([], []))) := ⟨rfl, rfl, by simp⟩
theorem ri_step {p : List ByteArray} {st : List ByteArray × Dsk} {line : ByteArray} (h : RI p st) (hs : line.size ≤ 1000000) : RI (p ++ [line]) (runF st line) := by
 obtain ⟨a, b, c, _⟩ := line_ok h.ok hs
 refine ⟨b, ?_, fun o ho => ?_⟩
 ·have := h.len
  unfold runF
  simp only [List.length_append, List.length_singleton]; omega
 ·unfold runF at ho
  rcases List.mem_append.1 ho with ho | ho
  ·exact h.sz o ho
  ·rw [List.mem_singleton.1 ho]; exact c
theorem room16s {n : Nat} (h : n ≤ 1000000) (st : List ByteArray) (x : ByteArray) (hl : st.length = n) : st.length + [x].length < room 16 := by rw [room16]; simp; omega
theorem nn0' : 0 < NN := NN_lt (by omega)
theorem QcE (ls : List ByteArray) (hl : ls.length ≤ 1000) (hs : ∀ l ∈ ls, l.size ≤ 1000000) : RI ls (runL ls) ∧ Qc.l11 NN NN ls ls.length 0 [] [] [] [] [] [] [] = some ((runL ls).1, ((runL ls).2, 0)) := by
 have := (fold_fix (E := fun l : ByteArray => l.size ≤ 1000000) RI (fun _ => runF) (fun st => some (st.1, (st.2, (0 : Int)))) (fun k i st => Qc.l11 NN k ls ls.length i st.1 [] [] [] st.2.1 st.2.2.1 st.2.2.2) ls ?_ ?_ ([], ([], ([], []))) hs ri_nil (by omega) NN (NN_lt (by omega)))
 ·rw [foldi_foldl] at this
  exact this
 ·intro k st _
  simp only [Qc.l11, Qc.g11, Int.lt_irrefl, and_self, and_true, true_and, decide_true, decide_false, if_true, if_false, mid_get, mid_set, mid_getn, mid_setn, bt_mid, Option.bind_some, Bool.not_true, Bool.not_false, Bool.false_eq_true, Bool.true_eq_false, beq_self_eq_true, bne_self_eq_false, Int.toNat_natCast]
 ·intro k p line r st hx hln hI c0 c1 c2 cw g
  have hpl : p.length ≤ 1000 := by rw [hx] at hl; simp at hl; omega
  refine ⟨ri_step hI hln, ?_⟩
  obtain ⟨_, _, _, q⟩ := line_ok hI.ok hln
  have r16 := fun x => room16s (n := p.length) (by omega) st.1 x hI.len
  simp only [Qc.l11, Qc.g11, c0, c1, cw, g, and_self, and_true, true_and, decide_true, decide_false, if_true, if_false, mid_get, mid_set, mid_getn, mid_setn, bt_mid, Option.bind_some, Bool.not_true, Bool.not_false, Bool.false_eq_true, Bool.true_eq_false, beq_self_eq_true, bne_self_eq_false, Int.toNat_natCast]
  unfold runF
  rcases q with ⟨_, q1, q2⟩ | ⟨w0, t, n, d', o, e, q1, q2, q3, q4⟩
  ·rw [q1, q2]
   simp only [and_self, and_true, true_and, decide_true, decide_false, if_true, if_false, mid_get, mid_set, mid_getn, mid_setn, bt_mid, Option.bind_some, Bool.not_true, Bool.not_false, Bool.false_eq_true, Bool.true_eq_false, beq_self_eq_true, bne_self_eq_false, Int.toNat_natCast]
   rw [(dec_both (n := 6) (by omega) (by omega)).1, Option.bind_some, if_pos (err_fit (e := 6) (by omega)), if_pos (r16 _)]
   rfl
  ·rw [q1, q4]
   simp only [and_self, and_true, true_and, decide_true, decide_false, if_true, if_false, mid_get, mid_set, mid_getn, mid_setn, bt_mid, Option.bind_some, Bool.not_true, Bool.not_false, Bool.false_eq_true, Bool.true_eq_false, beq_self_eq_true, bne_self_eq_false, Int.toNat_natCast]
   rw [Qc.c1000016 nn0', rl16]
   rw [show ((st.2.1, (st.2.2.1, st.2.2.2)) : Dsk) = st.2 from rfl, q2, Option.bind_some]
   unfold finR contK
   by_cases he : e = 0
   ·subst he
    have e0 : ((0 : Int) != 0) = false := rfl
    simp only [e0, cw, and_self, and_true, true_and, decide_true, decide_false, if_true, if_false, mid_get, mid_set, mid_getn, mid_setn, bt_mid, Option.bind_some, Bool.not_true, Bool.not_false, Bool.false_eq_true, Bool.true_eq_false, beq_self_eq_true, bne_self_eq_false, Int.toNat_natCast]
    rw [if_pos (r16 _)]
   ·have e0 : (e != 0) = true := by simpa using he
    simp only [e0, he, cw, and_self, and_true, true_and, decide_true, decide_false, if_true, if_false, mid_get, mid_set, mid_getn, mid_setn, bt_mid, Option.bind_some, Bool.not_true, Bool.not_false, Bool.false_eq_true, Bool.true_eq_false, beq_self_eq_true, bne_self_eq_false, Int.toNat_natCast]
    rw [(dec_both (n := e) (by omega) (by omega)).1, Option.bind_some, if_pos (err_fit q3), if_pos (r16 _)]
    rfl
theorem Qc2 (ls : List ByteArray) (hl : ls.length ≤ 1000) (hs : ∀ l ∈ ls, l.size ≤ 1000000) : QN.f ls = some ((runL ls).2, (runL ls).1) := by
 have := (fold_fix (E := fun l : ByteArray => l.size ≤ 1000000) RI (fun _ => runF) (fun st => some (st.2, st.1)) (fun k i st => QN.l4 NN k ls i st.2 st.1 [] [] []) ls ?_ ?_ ([], ([], ([], []))) hs ri_nil (by omega) NN (NN_lt (by omega))).2
 ·rw [foldi_foldl] at this
  exact this
 ·intro k st _
  simp only [QN.l4, QN.g4, Int.lt_irrefl, and_self, and_true, true_and, decide_true, decide_false, if_true, if_false, mid_get, mid_set, mid_getn, mid_setn, bt_mid, Option.bind_some, Bool.not_true, Bool.not_false, Bool.false_eq_true, Bool.true_eq_false, beq_self_eq_true, bne_self_eq_false, Int.toNat_natCast]
 ·intro k p line r st hx hln hI c0 c1 c2 cw g
  have hpl : p.length ≤ 1000 := by rw [hx] at hl; simp at hl; omega
  refine ⟨ri_step hI hln, ?_⟩
  obtain ⟨q, _, _, _⟩ := line_ok hI.ok hln
  have r16 := fun x => room16s (n := p.length) (by omega) st.1 x hI.len
  simp only [QN.l4, QN.g4, c0, c1, cw, g, and_self, and_true, true_and, decide_true, decide_false, if_true, if_false, mid_get, mid_set, mid_getn, mid_setn, bt_mid, Option.bind_some, Bool.not_true, Bool.not_false, Bool.false_eq_true, Bool.true_eq_false, beq_self_eq_true, bne_self_eq_false, Int.toNat_natCast]
  rw [q, Option.bind_some, if_pos (r16 _)]
  rfl
def lnsT (text : ByteArray) : List ByteArray :=
 if ((splitL 10 (bl text)).map ob).getD (((splitL 10 (bl text)).map ob).length - 1) ByteArray.empty = (⟨#[]⟩ : ByteArray) then ((splitL 10 (bl text)).map ob).take (((splitL 10 (bl text)).map ob).length - 1) else (splitL 10 (bl text)).map ob
theorem lnsT_size (text : ByteArray) : ∀ l ∈ lnsT text, l.size ≤ text.size := by
 intro l hl
 have : l ∈ (splitL 10 (bl text)).map ob := by
  unfold lnsT at hl
  split at hl
  ·exact List.mem_of_mem_take hl
  ·exact hl
 obtain ⟨x, hx, rfl⟩ := List.mem_map.1 this
 rw [ob_size, ← bl_length]
 exact splitL_size 10 (bl text) x hx
def fitT (text : ByteArray) : Bool := decide (text.size ≤ 1500) && decide ((lnsT text).length ≤ 40)
noncomputable def conR (text : ByteArray) : (List ByteArray × Dsk) × Int := if fitT text = true then (runL (lnsT text), 0) else (([], ([], ([], []))), 3)
theorem QbN (text : ByteArray) (h : text.size ≤ 1000000) : QaB.f text = some (lnsT text) := by
 unfold QaB.f QaB.fn QaB.top lnsT
 have e := QbK text 10 h
 rw [show (((10 : UInt8).toNat : Int)) = 10 from rfl] at e
 rw [e, Option.bind_some]
 have hn : (splitL 10 (bl text)).map ob ≠ [] := by
  intro q
  exact splitL_ne 10 (bl text) (List.map_eq_nil_iff.1 q)
 have hle : ((splitL 10 (bl text)).map ob).length ≤ 2000000 := by
  have := splitL_length 10 (bl text)
  rw [bl_length] at this
  rw [List.length_map]; omega
 have hp := List.length_pos_iff.2 hn
 generalize (splitL 10 (bl text)).map ob = r at *
 have w := w64 (n := (r.length : Int) - 1) (by omega) (by omega)
 have e1 : ((r.length : Int) - 1).toNat = r.length - 1 := by omega
 rw [w, e1, ba_beq, if_pos ⟨by omega, by omega⟩]
 by_cases hq : r.getD (r.length - 1) ByteArray.empty = (⟨#[]⟩ : ByteArray)
 ·rw [if_pos (decide_eq_true hq), if_pos hq, if_pos ⟨by omega, by omega⟩]
 ·rw [if_neg (by simpa using hq), if_neg hq]
theorem QcF (text : ByteArray) (h : text.size ≤ 1000000) : Qc.f text = some ((conR text).1.1, ((conR text).1.2, (conR text).2)) := by
 unfold Qc.f Qc.fn Qc.top conR fitT
 by_cases h15 : (1500 : Int) < (text.size : Int)
 ·have : ¬ text.size ≤ 1500 := by omega
  simp [h15, this]
 have h15' : text.size ≤ 1500 := by omega
 have hsz := lnsT_size text
 have hrun := fun hl => QcE (lnsT text) hl (fun l hl => by have := hsz l hl; omega)
 simp only [h15, h15', and_self, and_true, true_and, decide_true, decide_false, if_true, if_false, mid_get, mid_set, mid_getn, mid_setn, bt_mid, Option.bind_some, Bool.not_true, Bool.not_false, Bool.false_eq_true, Bool.true_eq_false, beq_self_eq_true, bne_self_eq_false, Int.toNat_natCast, Bool.true_and]
 have e := QbO text 10 h
 rw [show (((10 : UInt8).toNat : Int)) = 10 from rfl] at e
 rw [e, Option.bind_some]
 have hn : (splitL 10 (bl text)).map ob ≠ [] := by
  intro q
  exact splitL_ne 10 (bl text) (List.map_eq_nil_iff.1 q)
 have hle : ((splitL 10 (bl text)).map ob).length ≤ 2000000 := by
  have := splitL_length 10 (bl text)
  rw [bl_length] at this
  rw [List.length_map]; omega
 have hp := List.length_pos_iff.2 hn
 unfold lnsT at hrun ⊢
 generalize (splitL 10 (bl text)).map ob = r at *
 have w := w64 (n := (r.length : Int) - 1) (by omega) (by omega)
 have e1 : ((r.length : Int) - 1).toNat = r.length - 1 := by omega
 rw [w, e1, ba_beq, if_pos ⟨by omega, by omega⟩]
 by_cases hq : r.getD (r.length - 1) ByteArray.empty = (⟨#[]⟩ : ByteArray)
 ·rw [if_pos hq] at hrun ⊢
  rw [if_pos (decide_eq_true hq), if_pos ⟨by omega, by omega⟩]
  by_cases h40 : (40 : Int) < ((r.take (r.length - 1)).length : Int)
  ·have h40' : ¬ (r.take (r.length - 1)).length ≤ 40 := by omega
   rw [if_pos (decide_eq_true h40), if_neg (by simpa using h40')]
  ·have h40' : (r.take (r.length - 1)).length ≤ 40 := by omega
   rw [if_neg (by simpa using h40), if_pos (decide_eq_true h40')]
   exact (hrun (by omega)).2
 ·rw [if_neg hq] at hrun ⊢
  rw [if_neg (by simpa using hq)]
  by_cases h40 : (40 : Int) < (r.length : Int)
  ·have h40' : ¬ r.length ≤ 40 := by omega
   rw [if_pos (decide_eq_true h40), if_neg (by simpa using h40')]
  ·have h40' : r.length ≤ 40 := by omega
   rw [if_neg (by simpa using h40), if_pos (decide_eq_true h40')]
   exact (hrun (by omega)).2
theorem QcP (text : ByteArray) (h : text.size ≤ 1000000) : Qa2.f text = some (fitT text) := by
 unfold Qa2.f Qa2.fn Qa2.top fitT
 rw [QbN text h]
 have e1 : decide ((text.size : Int) ≤ 1500) = decide (text.size ≤ 1500) := by congr 1; exact propext (by omega)
 have e2 : decide (((lnsT text).length : Int) ≤ 40) = decide ((lnsT text).length ≤ 40) := by congr 1; exact propext (by omega)
 rw [e1]
 simp only [Option.bind_some, e2]
 cases decide (text.size ≤ 1500) <;> rfl
theorem con_ok (text : ByteArray) (h : text.size ≤ 1000000) : Lm Sm (conR text).1.1 ∧ deskB (conR text).1.2 = true := by
 unfold conR
 by_cases hf : fitT text = true
 ·rw [if_pos hf]
  unfold fitT at hf
  simp only [Bool.and_eq_true, decide_eq_true_eq] at hf
  have hsz := lnsT_size text
  obtain ⟨a, _⟩ := QcE (lnsT text) (by omega) (fun l hl => by have := hsz l hl; omega)
  refine ⟨⟨by rw [a.len]; omega, fun o ho => Nat.le_trans (a.sz o ho) (by omega)⟩, a.ok⟩
 ·rw [if_neg hf]
  exact ⟨⟨by simp, by simp⟩, rfl⟩
theorem DeskAfter_both (text : ByteArray) (h : text.size ≤ 1000000) : QaA.f text = some ((conR text).1.2, (conR text).2) ∧ Qax.f text = some ((conR text).1.2, (conR text).2) := by
 refine ⟨?_, ?_⟩
 ·unfold QaA.f QaA.fn QaA.top
  rw [QcP text h, Option.bind_some]
  unfold conR
  by_cases hf : fitT text = true
  ·have hf' := hf
   unfold fitT at hf'
   simp only [Bool.and_eq_true, decide_eq_true_eq] at hf'
   have hsz := lnsT_size text
   rw [if_pos hf, hf, if_neg (by simp), QbN text h, Option.bind_some, Qc2 (lnsT text) (by omega) (fun l hl => by have := hsz l hl; omega)]
   rfl
  ·have hf' : fitT text = false := by simpa using hf
   rw [if_neg hf, hf', if_pos (by simp)]
 ·unfold Qax.f Qax.fn Qax.top
  rw [QcF text h]; rfl
end Go.Pl

namespace Go.Pl
open Go.Ev
set_option linter.unusedVariables false
noncomputable section
end
end Go.Pl

namespace Go.Pl
open Go.Ev
set_option linter.unusedVariables false
set_option linter.unusedSimpArgs false
end Go.Pl

namespace Go.Pl
open Go.Ev
set_option linter.unusedVariables false
noncomputable section
end
end Go.Pl

namespace Go.Pl
open Go.Ev
set_option linter.unusedVariables false
noncomputable section
end
end Go.Pl

namespace Go.Pl
open Go.Ev
set_option linter.unusedVariables false
noncomputable section
end
end Go.Pl

namespace Go.Pl
open Go.Ev
set_option linter.unusedVariables false
noncomputable section
end
end Go.Pl

namespace Go.Pl
open Go.Ev
set_option linter.unusedVariables false
noncomputable section
end
end Go.Pl

namespace Go.Pl
open Go.Ev
set_option linter.unusedVariables false
noncomputable section
end
end Go.Pl

namespace Go.Pl
open Go.Ev
set_option linter.unusedVariables false
noncomputable section
end
end Go.Pl

namespace Go.Pl
open Go.Ev
set_option linter.unusedVariables false
set_option linter.unusedSimpArgs false
section
variable {α : Type} {P : α → Prop}
end
theorem bnd {a b : Nat} (h : a + b ≤ 1000) : a + b ≤ 9223372036854775807 := by omega
theorem z1 : (⟨#[32]⟩ : ByteArray).size = 1 := by decide
end Go.Pl

namespace Go.Pl
open Go.Ev
set_option linter.unusedVariables false
set_option linter.unusedSimpArgs false
end Go.Pl

namespace Go.Pl
open Go.Ev
set_option linter.unusedVariables false
noncomputable section
end
end Go.Pl

namespace Go.Pl
open Go.Ev
set_option linter.unusedVariables false
noncomputable section
end
end Go.Pl

namespace Go.Pl
open Go.Ev
set_option linter.unusedVariables false
noncomputable section
end
end Go.Pl

namespace Go.Pl
open Go.Ev
set_option linter.unusedVariables false
noncomputable section
end
end Go.Pl

namespace Go.Pl
open Go.Ev
set_option linter.unusedVariables false
noncomputable section
end
end Go.Pl

namespace Go.Pl
open Go.Ev
set_option linter.unusedVariables false
noncomputable section
end
end Go.Pl

namespace Go.Pl
open Go.Ev
set_option linter.unusedVariables false
noncomputable section
end
end Go.Pl
