/- Part 4 of what the law FnExactRunConsole stands on: an evaluator of the model's code, proved sound; the functions as plain texts; their contracts. -/
import Derived.Test.YtijddinlmamclaaGreatChecked
import Derived.Test.YtijddinlmamclaaGreatProg
import Derived.Test.YtijddinlmamclaaGreatRows
import Derived.Below
import Derived.Calls
import Derived.Carry
import Derived.ChangeArms
import Derived.ChangeKeysEq
import Derived.ChangeOld
import Derived.Deep.Quiet
import Derived.KernelRfl
import Derived.Laws.Append
import Derived.Laws.BytesString
import Derived.Laws.MakeOwn
import Derived.Laws.Strings
import Derived.Laws.StructEq
import Derived.OpenShut
import Derived.OrdersHeld
import Derived.ProofKit
import Derived.ShutString
import Derived.SizedLaws
import Derived.Tactics
import Derived.WalkKit
import Derived.WideShapes
import Derived.Test.YtijddinlmamclaaGreatEvExactRunConsole3
namespace Go.Pl
open Go.Ev
set_option linter.unusedVariables false
set_option linter.unusedSimpArgs false
noncomputable def prs : List UInt8 → List ByteArray → Option (List ByteArray × List Int)
  | [], _ => some ([], [])
  | _ :: _, [] => none
  | c :: r, w :: ws => if c = 116 then (match prs r ws with | some y => some (w :: y.1, y.2) | none => none)
      else (match (if c = 105 then numI w else numJ w) with
        | some x => (match prs r ws with | some y => some (y.1, x :: y.2) | none => none)
        | none => none)
theorem room16w {n : Nat} (h : n ≤ 2000000) : n < room 16 := by rw [room16]; omega
theorem room8w {n : Nat} (h : n ≤ 2000000) : n < room 8 := by rw [room8]; omega
def cmdOut (a : ByteArray) (w5 : List ByteArray) (w6 : List Int) : Option (List ByteArray × List Int) → (ByteArray × List ByteArray × List Int) × Bool
  | some y => ((a, (w5 ++ y.1, w6 ++ y.2)), true)
  | none => ((ByteArray.empty, ([], [])), false)
theorem impl_cmd_l (v2a c7a w0 : ByteArray) (w3 : List ByteArray) (w4 : List Int) : ∀ (r p : List UInt8) (wr wp : List ByteArray) (w5 : List ByteArray) (w6 : List Int) (k : Nat), wp.length = p.length → wr.length = r.length → p.length + r.length ≤ 1000 → w5.length ≤ p.length → w6.length ≤ p.length → (∀ c ∈ r, c = 116 ∨ c = 105 ∨ c = 106) → (∀ w ∈ wr, w.size ≤ 1000000) → r.length < k →
    impl_commandOf.l7 NN k (ob (p ++ r)) p.length v2a (w0 :: (wp ++ wr)) c7a w3 w4 w5 w6 = some (cmdOut c7a w5 w6 (prs r wr)) := by
  intro r
  induction r with
  | nil =>
    intro p wr wp w5 w6 k _ _ _ _ _ _ _ hk
    obtain ⟨k, rfl⟩ : ∃ j, k = j + 1 := ⟨k - 1, by omega⟩
    simp [impl_commandOf.l7, impl_commandOf.g7, prs, cmdOut, ob_size]
  | cons c r ih =>
    intro p wr wp w5 w6 k hwp hwr hl h5 h6 hc hz hk
    simp only [List.length_cons] at hl hk hwr
    obtain ⟨k, rfl⟩ : ∃ j, k = j + 1 := ⟨k - 1, by omega⟩
    cases wr with
    | nil => simp at hwr
    | cons w ws =>
      simp only [List.length_cons] at hwr
      have hln := mid_len p r c
      have c0 : (0 : Int) ≤ (p.length : Int) := by omega
      have c1 : (p.length : Int) < ((ob (p ++ c :: r)).size : Int) := by rw [ob_size]; omega
      have cw := w64 (n := (p.length : Int) + 1) (by omega) (by omega)
      have c2 : (0 : Int) ≤ (p.length : Int) + 1 := by omega
      have c3 : (p.length : Int) + 1 < ((w0 :: (wp ++ w :: ws)).length : Int) := by simp; omega
      have g : ∀ z, (w0 :: (wp ++ w :: ws)).getD ((p.length : Int) + 1).toNat z = w := fun z => by
        rw [show ((p.length : Int) + 1).toNat = p.length + 1 by omega, List.getD_cons_succ, ← hwp]
        exact mid_getn wp ws w z
      have hsz := hz w (by simp)
      have i := fun a b ha hb => ih (p ++ [c]) ws (wp ++ [w]) a b k (by simp; omega) (by omega) (by simp; omega) ha hb (fun x hx => hc x (by simp [hx])) (fun x hx => hz x (by simp [hx])) (by omega)
      simp only [mid_snoc, snoc_len] at i
      have e2 : (p ++ [c]).length = p.length + 1 := by simp
      rw [e2] at i
      have r16 : w5.length + [w].length < room 16 := room16w (by simp; omega)
      have r8 : ∀ x : Int, w6.length + [x].length < room 8 := fun x => room8w (by simp; omega)
      rcases hc c (by simp) with rfl | rfl | rfl
      · have e : (((116 : UInt8).toNat : Int) == 116) = true := by decide
        simp only [impl_commandOf.l7, impl_commandOf.g7, c0, c1, cw, c2, c3, g, e, r16, and_self, and_true, true_and, decide_true, decide_false, if_true, if_false, mid_get, mid_set, mid_getn, mid_setn, bt_mid, Option.bind_some, Bool.not_true, Bool.not_false, Bool.false_eq_true, Bool.true_eq_false, beq_self_eq_true, bne_self_eq_false, Int.toNat_natCast, prs]
        rw [i (w5 ++ [w]) w6 (by simp; omega) (by omega)]
        cases prs r ws with
        | none => rfl
        | some y => simp [cmdOut]
      · have e : (((105 : UInt8).toNat : Int) == 116) = false := by decide
        have e' : (((105 : UInt8).toNat : Int) == 105) = true := by decide
        have n1 : ¬ ((105 : UInt8) = 116) := by decide
        have ws1 := w64 (n := (w.size : Int) - 1) (by omega) (by omega)
        simp only [impl_commandOf.l7, impl_commandOf.g7, c0, c1, cw, c2, c3, g, e, e', r8, and_self, and_true, true_and, decide_true, decide_false, if_true, if_false, mid_get, mid_set, mid_getn, mid_setn, bt_mid, Option.bind_some, Bool.not_true, Bool.not_false, Bool.false_eq_true, Bool.true_eq_false, beq_self_eq_true, bne_self_eq_false, Int.toNat_natCast, prs, n1, impl_readDecimal_f w hsz, ws1, numI_eq]
        generalize rdD w = d
        obtain ⟨n, b⟩ := d
        by_cases hn : n < 0
        · have n0 : ¬ (0 : Int) ≤ n := by omega
          simp only [hn, n0, and_self, and_true, true_and, decide_true, decide_false, if_true, if_false, mid_get, mid_set, mid_getn, mid_setn, bt_mid, Option.bind_some, Bool.not_true, Bool.not_false, Bool.false_eq_true, Bool.true_eq_false, beq_self_eq_true, bne_self_eq_false, Int.toNat_natCast, and_false, false_and]
          cases b
          · rfl
          · by_cases hs : (13 : Int) < (w.size : Int) - 1 <;> simp only [hs, and_self, and_true, true_and, decide_true, decide_false, if_true, if_false, mid_get, mid_set, mid_getn, mid_setn, bt_mid, Option.bind_some, Bool.not_true, Bool.not_false, Bool.false_eq_true, Bool.true_eq_false, beq_self_eq_true, bne_self_eq_false, Int.toNat_natCast] <;> rfl
        · have n0 : (0 : Int) ≤ n := by omega
          simp only [hn, n0, and_self, and_true, true_and, decide_true, decide_false, if_true, if_false, mid_get, mid_set, mid_getn, mid_setn, bt_mid, Option.bind_some, Bool.not_true, Bool.not_false, Bool.false_eq_true, Bool.true_eq_false, beq_self_eq_true, bne_self_eq_false, Int.toNat_natCast]
          cases b
          · simp only [and_self, and_true, true_and, decide_true, decide_false, if_true, if_false, mid_get, mid_set, mid_getn, mid_setn, bt_mid, Option.bind_some, Bool.not_true, Bool.not_false, Bool.false_eq_true, Bool.true_eq_false, beq_self_eq_true, bne_self_eq_false, Int.toNat_natCast, false_and]; rfl
          · by_cases hs : (13 : Int) < (w.size : Int)
            · have hs' : ¬ w.size ≤ 13 := by omega
              simp only [hs, hs', and_self, and_true, true_and, decide_true, decide_false, if_true, if_false, mid_get, mid_set, mid_getn, mid_setn, bt_mid, Option.bind_some, Bool.not_true, Bool.not_false, Bool.false_eq_true, Bool.true_eq_false, beq_self_eq_true, bne_self_eq_false, Int.toNat_natCast, and_false]; rfl
            · have hs' : w.size ≤ 13 := by omega
              simp only [hs, hs', and_self, and_true, true_and, decide_true, decide_false, if_true, if_false, mid_get, mid_set, mid_getn, mid_setn, bt_mid, Option.bind_some, Bool.not_true, Bool.not_false, Bool.false_eq_true, Bool.true_eq_false, beq_self_eq_true, bne_self_eq_false, Int.toNat_natCast]
              rw [i w5 (w6 ++ [n]) (by omega) (by simp; omega)]
              cases prs r ws with
              | none => rfl
              | some y => simp [cmdOut]
      · have e : (((106 : UInt8).toNat : Int) == 116) = false := by decide
        have e' : (((106 : UInt8).toNat : Int) == 105) = false := by decide
        have n1 : ¬ ((106 : UInt8) = 116) := by decide
        have n2 : ¬ ((106 : UInt8) = 105) := by decide
        have ws1 := w64 (n := (w.size : Int) - 1) (by omega) (by omega)
        simp only [impl_commandOf.l7, impl_commandOf.g7, c0, c1, cw, c2, c3, g, e, e', r8, and_self, and_true, true_and, decide_true, decide_false, if_true, if_false, mid_get, mid_set, mid_getn, mid_setn, bt_mid, Option.bind_some, Bool.not_true, Bool.not_false, Bool.false_eq_true, Bool.true_eq_false, beq_self_eq_true, bne_self_eq_false, Int.toNat_natCast, prs, n1, n2, impl_readDecimal_f w hsz, ws1, numJ_eq]
        generalize rdD w = d
        obtain ⟨n, b⟩ := d
        by_cases hn : n < 0
        · have n0 : ¬ (0 : Int) ≤ n := by omega
          simp only [hn, n0, and_self, and_true, true_and, decide_true, decide_false, if_true, if_false, mid_get, mid_set, mid_getn, mid_setn, bt_mid, Option.bind_some, Bool.not_true, Bool.not_false, Bool.false_eq_true, Bool.true_eq_false, beq_self_eq_true, bne_self_eq_false, Int.toNat_natCast, false_implies, true_implies]
          cases b
          · simp only [and_self, and_true, true_and, decide_true, decide_false, if_true, if_false, mid_get, mid_set, mid_getn, mid_setn, bt_mid, Option.bind_some, Bool.not_true, Bool.not_false, Bool.false_eq_true, Bool.true_eq_false, beq_self_eq_true, bne_self_eq_false, Int.toNat_natCast, false_and]; rfl
          · by_cases hs : (13 : Int) < (w.size : Int) - 1
            · have hs' : ¬ w.size ≤ 14 := by omega
              simp only [hs, hs', and_self, and_true, true_and, decide_true, decide_false, if_true, if_false, mid_get, mid_set, mid_getn, mid_setn, bt_mid, Option.bind_some, Bool.not_true, Bool.not_false, Bool.false_eq_true, Bool.true_eq_false, beq_self_eq_true, bne_self_eq_false, Int.toNat_natCast, and_false]; rfl
            · have hs' : w.size ≤ 14 := by omega
              simp only [hs, hs', and_self, and_true, true_and, decide_true, decide_false, if_true, if_false, mid_get, mid_set, mid_getn, mid_setn, bt_mid, Option.bind_some, Bool.not_true, Bool.not_false, Bool.false_eq_true, Bool.true_eq_false, beq_self_eq_true, bne_self_eq_false, Int.toNat_natCast]
              rw [i w5 (w6 ++ [n]) (by omega) (by simp; omega)]
              cases prs r ws with
              | none => rfl
              | some y => simp [cmdOut]
        · have n0 : (0 : Int) ≤ n := by omega
          simp only [hn, n0, and_self, and_true, true_and, decide_true, decide_false, if_true, if_false, mid_get, mid_set, mid_getn, mid_setn, bt_mid, Option.bind_some, Bool.not_true, Bool.not_false, Bool.false_eq_true, Bool.true_eq_false, beq_self_eq_true, bne_self_eq_false, Int.toNat_natCast, false_implies, true_implies]
          cases b
          · simp only [and_self, and_true, true_and, decide_true, decide_false, if_true, if_false, mid_get, mid_set, mid_getn, mid_setn, bt_mid, Option.bind_some, Bool.not_true, Bool.not_false, Bool.false_eq_true, Bool.true_eq_false, beq_self_eq_true, bne_self_eq_false, Int.toNat_natCast, false_and]; rfl
          · by_cases hs : (13 : Int) < (w.size : Int)
            · have hs' : ¬ w.size ≤ 13 := by omega
              simp only [hs, hs', and_self, and_true, true_and, decide_true, decide_false, if_true, if_false, mid_get, mid_set, mid_getn, mid_setn, bt_mid, Option.bind_some, Bool.not_true, Bool.not_false, Bool.false_eq_true, Bool.true_eq_false, beq_self_eq_true, bne_self_eq_false, Int.toNat_natCast, and_false]; rfl
            · have hs' : w.size ≤ 13 := by omega
              simp only [hs, hs', and_self, and_true, true_and, decide_true, decide_false, if_true, if_false, mid_get, mid_set, mid_getn, mid_setn, bt_mid, Option.bind_some, Bool.not_true, Bool.not_false, Bool.false_eq_true, Bool.true_eq_false, beq_self_eq_true, bne_self_eq_false, Int.toNat_natCast]
              rw [i w5 (w6 ++ [n]) (by omega) (by simp; omega)]
              cases prs r ws with
              | none => rfl
              | some y => simp [cmdOut]
def prsOut (words : List ByteArray) (n7 : List Int) : Option (List ByteArray × List Int) → List ByteArray × List Int × Bool
  | some y => (words, (n7 ++ y.2, true))
  | none => ([], ([], false))
theorem spec_cmd_l (w0 : ByteArray) : ∀ (r : List UInt8) (p : List UInt8) (wr wp : List ByteArray) (n7 : List Int) (k : Nat), wp.length = p.length → wr.length = r.length → p.length + r.length ≤ 1000 → n7.length ≤ p.length → (∀ c ∈ r, c = 116 ∨ c = 105 ∨ c = 106) → (∀ w ∈ wr, w.size ≤ 1000000) → r.length < k →
    spec_l34Parse.l7 NN k (ob (p ++ r.map upK)) p.length (w0 :: (wp ++ wr)) n7 = some (prsOut (w0 :: (wp ++ wr)) n7 (prs r wr)) := by
  intro r
  induction r with
  | nil =>
    intro p wr wp n7 k _ _ _ _ _ _ hk
    obtain ⟨k, rfl⟩ : ∃ j, k = j + 1 := ⟨k - 1, by omega⟩
    simp [spec_l34Parse.l7, spec_l34Parse.g7, prs, prsOut, ob_size]
  | cons c r ih =>
    intro p wr wp n7 k hwp hwr hl h7 hc hz hk
    simp only [List.length_cons] at hl hk hwr
    obtain ⟨k, rfl⟩ : ∃ j, k = j + 1 := ⟨k - 1, by omega⟩
    cases wr with
    | nil => simp at hwr
    | cons w ws =>
      simp only [List.length_cons] at hwr
      have hln := mid_len p (r.map upK) (upK c)
      have c0 : (0 : Int) ≤ (p.length : Int) := by omega
      have c1 : (p.length : Int) < ((ob (p ++ upK c :: r.map upK)).size : Int) := by rw [ob_size]; omega
      have cw := w64 (n := (p.length : Int) + 1) (by omega) (by omega)
      have c2 : (0 : Int) ≤ (p.length : Int) + 1 := by omega
      have c3 : (p.length : Int) + 1 < ((w0 :: (wp ++ w :: ws)).length : Int) := by simp; omega
      have g : ∀ z, (w0 :: (wp ++ w :: ws)).getD ((p.length : Int) + 1).toNat z = w := fun z => by
        rw [show ((p.length : Int) + 1).toNat = p.length + 1 by omega, List.getD_cons_succ, ← hwp]
        exact mid_getn wp ws w z
      have hsz := hz w (by simp)
      have i := fun a ha => ih (p ++ [upK c]) ws (wp ++ [w]) a k (by simp; omega) (by omega) (by simp; omega) ha (fun x hx => hc x (by simp [hx])) (fun x hx => hz x (by simp [hx])) (by omega)
      simp only [mid_snoc, snoc_len] at i
      have e2 : (p ++ [upK c]).length = p.length + 1 := by simp
      rw [e2] at i
      have r8 : ∀ x : Int, n7.length + [x].length < room 8 := fun x => room8w (by simp; omega)
      rw [List.map_cons]
      rcases hc c (by simp) with rfl | rfl | rfl
      · have e : (((upK 116).toNat : Int) == 73) = false := by decide
        have e' : (((upK 116).toNat : Int) == 74) = false := by decide
        simp only [spec_l34Parse.l7, spec_l34Parse.g7, c0, c1, cw, e, e', and_self, and_true, true_and, decide_true, decide_false, if_true, if_false, mid_get, mid_set, mid_getn, mid_setn, bt_mid, Option.bind_some, Bool.not_true, Bool.not_false, Bool.false_eq_true, Bool.true_eq_false, beq_self_eq_true, bne_self_eq_false, Int.toNat_natCast, prs]
        rw [i n7 (by omega)]
        cases prs r ws <;> rfl
      · have e : (((upK 105).toNat : Int) == 73) = true := by decide
        have n1 : ¬ ((105 : UInt8) = 116) := by decide
        simp only [spec_l34Parse.l7, spec_l34Parse.g7, c0, c1, cw, c2, c3, g, e, r8, and_self, and_true, true_and, decide_true, decide_false, if_true, if_false, mid_get, mid_set, mid_getn, mid_setn, bt_mid, Option.bind_some, Bool.not_true, Bool.not_false, Bool.false_eq_true, Bool.true_eq_false, beq_self_eq_true, bne_self_eq_false, Int.toNat_natCast, prs, n1, spec_l01Value_f w hsz]
        unfold numI
        by_cases hv : (rdV w).2 = true
        · rw [hv]
          simp only [and_self, and_true, true_and, decide_true, decide_false, if_true, if_false, mid_get, mid_set, mid_getn, mid_setn, bt_mid, Option.bind_some, Bool.not_true, Bool.not_false, Bool.false_eq_true, Bool.true_eq_false, beq_self_eq_true, bne_self_eq_false, Int.toNat_natCast]
          rw [i (n7 ++ [(rdV w).1]) (by simp; omega)]
          cases prs r ws with
          | none => rfl
          | some y => simp [prsOut]
        · have hv' : (rdV w).2 = false := by simpa using hv
          rw [hv']
          rfl
      · have e : (((upK 106).toNat : Int) == 73) = false := by decide
        have e' : (((upK 106).toNat : Int) == 74) = true := by decide
        have n1 : ¬ ((106 : UInt8) = 116) := by decide
        have n2 : ¬ ((106 : UInt8) = 105) := by decide
        obtain ⟨n, b, s1, s2⟩ := spec_l01Signed_f w hsz
        simp only [spec_l34Parse.l7, spec_l34Parse.g7, c0, c1, cw, c2, c3, g, e, e', r8, and_self, and_true, true_and, decide_true, decide_false, if_true, if_false, mid_get, mid_set, mid_getn, mid_setn, bt_mid, Option.bind_some, Bool.not_true, Bool.not_false, Bool.false_eq_true, Bool.true_eq_false, beq_self_eq_true, bne_self_eq_false, Int.toNat_natCast, prs, n1, n2, s1, s2]
        cases b
        · rfl
        · simp only [and_self, and_true, true_and, decide_true, decide_false, if_true, if_false, mid_get, mid_set, mid_getn, mid_setn, bt_mid, Option.bind_some, Bool.not_true, Bool.not_false, Bool.false_eq_true, Bool.true_eq_false, beq_self_eq_true, bne_self_eq_false, Int.toNat_natCast]
          rw [i (n7 ++ [n]) (by simp; omega)]
          cases prs r ws with
          | none => rfl
          | some y => simp [prsOut]
end Go.Pl

namespace Go.Pl
open Go.Ev
set_option linter.unusedVariables false
set_option linter.unusedSimpArgs false
def inB (n lo hi : Int) : Bool := decide (lo ≤ n) && decide (n ≤ hi)
theorem inB_iff {n lo hi : Int} : inB n lo hi = true ↔ lo ≤ n ∧ n ≤ hi := by unfold inB; simp
theorem impl_within_f (n lo hi : Int) : impl_within.f n lo hi = some (inB n lo hi) := by
  unfold impl_within.f impl_within.fn impl_within.top inB
  by_cases h : lo ≤ n <;> simp [h]
theorem spec_l01In_f (n lo hi : Int) : spec_l01In.f n lo hi = some (inB n lo hi) := by
  unfold spec_l01In.f spec_l01In.fn spec_l01In.top inB
  by_cases h : lo ≤ n <;> simp [h]
def letB (c : UInt8) : Bool := !(decide ((c.toNat : Int) < 97)) && !(decide (122 < (c.toNat : Int)))
def wordB (s : ByteArray) : Bool := decide (1 ≤ s.size) && decide (s.size ≤ 16) && (bl s).all letB
theorem wordB_size {s : ByteArray} (h : wordB s = true) : 1 ≤ s.size ∧ s.size ≤ 16 := by
  unfold wordB at h; simp at h; exact h.1
theorem impl_IsWord_loop (s : ByteArray) (h : s.size ≤ 140737488355328) : impl_IsWord.l4 NN NN s 0 = if (bl s).all letB = true then some true else some false := by
  refine all_loop_str letB (fun s => some true) (fun k s i => impl_IsWord.l4 NN k s i) ?_ ?_ s h NN (NN_lt (by omega))
  · intro k p
    show impl_IsWord.g4 _ (ob p) p.length = _
    simp [impl_IsWord.g4, ob_size, spec_l01In_f]
  · intro k p a r c0 c1 cw
    show impl_IsWord.g4 (impl_IsWord.l4 NN k) (ob (p ++ a :: r)) p.length = _
    simp only [impl_IsWord.g4, c0, c1, cw, and_self, and_true, true_and, decide_true, decide_false, if_true, if_false, mid_get, mid_set, mid_getn, mid_setn, bt_mid, Option.bind_some, Bool.not_true, Bool.not_false, Bool.false_eq_true, Bool.true_eq_false, beq_self_eq_true, bne_self_eq_false, Int.toNat_natCast]
    unfold letB
    by_cases h1 : (a.toNat : Int) < 97 <;> by_cases h2 : (122 : Int) < (a.toNat : Int) <;> simp [h1, h2]
theorem spec_IsWord_loop (s : ByteArray) (h : s.size ≤ 140737488355328) : spec_IsWord.l2 NN NN s 0 = if (bl s).all letB = true then some (inB s.size 1 16) else some false := by
  refine all_loop_str letB (fun s => some (inB s.size 1 16)) (fun k s i => spec_IsWord.l2 NN k s i) ?_ ?_ s h NN (NN_lt (by omega))
  · intro k p
    show spec_IsWord.g2 _ (ob p) p.length = _
    simp [spec_IsWord.g2, ob_size, spec_l01In_f]
  · intro k p a r c0 c1 cw
    show spec_IsWord.g2 (spec_IsWord.l2 NN k) (ob (p ++ a :: r)) p.length = _
    simp only [spec_IsWord.g2, c0, c1, cw, and_self, and_true, true_and, decide_true, decide_false, if_true, if_false, mid_get, mid_set, mid_getn, mid_setn, bt_mid, Option.bind_some, Bool.not_true, Bool.not_false, Bool.false_eq_true, Bool.true_eq_false, beq_self_eq_true, bne_self_eq_false, Int.toNat_natCast]
    unfold letB
    by_cases h1 : (a.toNat : Int) < 97 <;> by_cases h2 : (122 : Int) < (a.toNat : Int) <;> simp [h1, h2]
theorem impl_IsWord_f (s : ByteArray) (h : s.size ≤ 140737488355328) : impl_IsWord.f s = some (wordB s) := by
  unfold impl_IsWord.f impl_IsWord.fn impl_IsWord.top
  rw [impl_IsWord_loop s h]
  unfold wordB
  by_cases h1 : (s.size : Int) < 1
  · have : ¬ 1 ≤ s.size := by omega
    simp [h1, this]
  · have e1 : 1 ≤ s.size := by omega
    by_cases h2 : (16 : Int) < s.size
    · have : ¬ s.size ≤ 16 := by omega
      simp [h1, h2, this]
    · have : s.size ≤ 16 := by omega
      cases h3 : (bl s).all letB <;> simp [h1, h2, this, h3, e1]
theorem spec_IsWord_f (s : ByteArray) (h : s.size ≤ 140737488355328) : spec_IsWord.f s = some (wordB s) := by
  unfold spec_IsWord.f spec_IsWord.fn spec_IsWord.top
  rw [spec_IsWord_loop s h]
  unfold wordB inB
  have e1 : decide ((1 : Int) ≤ s.size) = decide (1 ≤ s.size) := by congr 1; simp; omega
  have e2 : decide ((s.size : Int) ≤ 16) = decide (s.size ≤ 16) := by congr 1; simp; omega
  rw [e1, e2]
  cases h3 : (bl s).all letB <;> simp
end Go.Pl

namespace Go.Pl
open Go.Ev
set_option linter.unusedVariables false
set_option linter.unusedSimpArgs false
abbrev Mov := Int × ByteArray × Int
def movB (m : Mov) : Bool := inB m.1 0 10000000 && wordB m.2.1 && inB m.2.2 (-1000) 1000 && !decide (m.2.2 = 0)
theorem movB_iff {m : Mov} (h : movB m = true) : (0 ≤ m.1 ∧ m.1 ≤ 10000000) ∧ wordB m.2.1 = true ∧ (-1000 ≤ m.2.2 ∧ m.2.2 ≤ 1000) := by
  unfold movB at h
  simp only [Bool.and_eq_true, inB_iff] at h
  exact ⟨h.1.1.1, h.1.1.2, h.1.2⟩
theorem impl_isTime_f (t : Int) : impl_isTime.f t = some (inB t 0 10000000) := by
  unfold impl_isTime.f impl_isTime.fn impl_isTime.top
  rw [impl_within_f]; rfl
theorem impl_isTick_f (t : Int) : impl_isTick.f t = some (inB t 0 100000) := by
  unfold impl_isTick.f impl_isTick.fn impl_isTick.top
  rw [impl_within_f]; rfl
theorem spec_l01IsTime_f (t : Int) : spec_l01IsTime.f t = some (inB t 0 10000000) := by
  unfold spec_l01IsTime.f spec_l01IsTime.fn spec_l01IsTime.top
  rw [spec_l01In_f]; rfl
def addP (z : ByteArray) (s : Int) (m : Mov) : Int := if m.2.1 = z then s + m.2.2 else s
def peopS (xs : List Mov) (z : ByteArray) : Int := xs.foldl (addP z) 0
theorem impl_peopleIn_f (xs : List Mov) (z : ByteArray) (t : Int) (h : ∀ m ∈ xs, movB m = true) (ht : ∀ m ∈ xs, m.1 ≤ t) (hl : xs.length ≤ 1000000) : impl_peopleIn.f xs z t = some (peopS xs z) := by
  have := (fold_fix (E := fun m : Mov => movB m = true ∧ m.1 ≤ t) (fun p st => -(1000 * (p.length : Int)) ≤ st ∧ st ≤ 1000 * (p.length : Int)) (fun _ => addP z) (fun st => some st) (fun k i st => impl_peopleIn.l3 NN k z t st xs xs.length i) xs ?_ ?_ 0 (fun m hm => ⟨h m hm, ht m hm⟩) (by simp) (by omega) NN (NN_lt (by omega))).2
  · rw [foldi_foldl] at this
    exact this
  · intro k st _
    simp [impl_peopleIn.l3, impl_peopleIn.g3]
  · intro k p m r st hx hm hI c0 c1 c2 cw g
    have hb := movB_iff hm.1
    have hp : p.length ≤ 1000000 := by omega
    have w1 := w64 (n := st + m.2.2) (by omega) (by omega)
    have q := hm.2
    refine ⟨by unfold addP; rw [List.length_append, List.length_singleton]; split <;> omega, ?_⟩
    simp only [impl_peopleIn.l3, impl_peopleIn.g3, c0, c1, cw, and_self, and_true, true_and, decide_true, decide_false, if_true, if_false, mid_get, mid_set, mid_getn, mid_setn, bt_mid, Option.bind_some, Bool.not_true, Bool.not_false, Bool.false_eq_true, Bool.true_eq_false, beq_self_eq_true, bne_self_eq_false, Int.toNat_natCast, g, ba_beq, q, w1]
    unfold addP
    by_cases e : m.2.1 = z <;> simp [e]
theorem spec_l20People_f (xs rest : List Mov) (z : ByteArray) (h : ∀ m ∈ xs, movB m = true) (hl : xs.length ≤ 1000000) : spec_l20People.f (xs ++ rest) z xs.length = some (peopS xs z) := by
  have := (fold_fix (E := fun m : Mov => movB m = true) (fun p st => -(1000 * (p.length : Int)) ≤ st ∧ st ≤ 1000 * (p.length : Int)) (fun _ => addP z) (fun st => some st) (fun k i st => spec_l20People.l3 NN k (xs ++ rest) z xs.length st i) xs ?_ ?_ 0 h (by simp) (by omega) NN (NN_lt (by omega))).2
  · rw [foldi_foldl] at this
    exact this
  · intro k st _
    simp [spec_l20People.l3, spec_l20People.g3]
  · intro k p m r st hx hm hI c0 c1 c2 cw g
    have hb := movB_iff hm
    have hp : p.length ≤ 1000000 := by omega
    have w1 := w64 (n := st + m.2.2) (by omega) (by omega)
    have c3 : (p.length : Int) < ((xs ++ rest).length : Int) := by simp; omega
    have g2 : ∀ w, (xs ++ rest).getD p.length w = m := fun w => by rw [hx, List.append_assoc, List.cons_append, mid_getn]
    refine ⟨by unfold addP; rw [List.length_append, List.length_singleton]; split <;> omega, ?_⟩
    simp only [spec_l20People.l3, spec_l20People.g3, c0, c1, c3, cw, and_self, and_true, true_and, decide_true, decide_false, if_true, if_false, mid_get, mid_set, mid_getn, mid_setn, bt_mid, Option.bind_some, Bool.not_true, Bool.not_false, Bool.false_eq_true, Bool.true_eq_false, beq_self_eq_true, bne_self_eq_false, Int.toNat_natCast, g2, ba_beq, w1]
    unfold addP
    by_cases e : m.2.1 = z <;> simp [e]
def prevM (p : List Mov) (t : Int) : Bool := match p.getLast? with | none => true | some y => !decide (t < y.1)
def movF (p : List Mov) : List Mov → Bool
  | [] => true
  | m :: r => movB m && (prevM p m.1 && (!decide (peopS (p ++ [m]) m.2.1 < 0) && movF (p ++ [m]) r))
def movesB (xs : List Mov) : Bool := decide (xs.length ≤ 40) && movF [] xs
structure MvI (p : List Mov) : Prop where
  ok : ∀ m ∈ p, movB m = true
  le : ∀ m ∈ p, ∀ y, p.getLast? = some y → m.1 ≤ y.1
theorem mvi_snoc {p : List Mov} {m : Mov} (h : MvI p) (hm : movB m = true) (hp : prevM p m.1 = true) : MvI (p ++ [m]) ∧ ∀ x ∈ p ++ [m], x.1 ≤ m.1 := by
  have key : ∀ x ∈ p ++ [m], x.1 ≤ m.1 := fun x hx => by
    rcases List.mem_append.1 hx with h1 | h1
    · unfold prevM at hp
      cases e : p.getLast? with
      | none => rw [List.getLast?_eq_none_iff.1 e] at h1; cases h1
      | some y =>
        rw [e] at hp
        simp only [Bool.not_eq_true', decide_eq_false_iff_not] at hp
        have := h.le x h1 y e
        omega
    · rw [List.mem_singleton.1 h1]; omega
  refine ⟨⟨fun x hx => ?_, fun x hx y hy => ?_⟩, key⟩
  · rcases List.mem_append.1 hx with h1 | h1
    · exact h.ok x h1
    · rw [List.mem_singleton.1 h1]; exact hm
  · rw [List.getLast?_append] at hy
    simp at hy
    rw [← hy]; exact key x hx
theorem last_cases {α : Type} (p : List α) : p = [] ∨ ∃ q y, p = q ++ [y] := by
  rcases List.eq_nil_or_concat p with h | ⟨q, y, h⟩
  · exact .inl h
  · exact .inr ⟨q, y, by rw [h]; simp⟩
theorem last_snoc {α : Type} (q : List α) (y : α) : (q ++ [y]).getLast? = some y := by simp
theorem impl_AreMoves_l : ∀ (r p : List Mov) (k : Nat), MvI p → (∀ m ∈ r, Sz m.2.1) → p.length + r.length ≤ 1000000 → r.length < k → impl_AreMoves.l4 NN k (p ++ r) (p ++ r) (p ++ r).length p.length = some (movF p r) := by
  intro r
  induction r with
  | nil =>
    intro p k _ _ _ hk
    obtain ⟨k, rfl⟩ : ∃ j, k = j + 1 := ⟨k - 1, by omega⟩
    simp [impl_AreMoves.l4, impl_AreMoves.g4, movF]
  | cons m r ih =>
    intro p k hI hs hb hk
    simp only [List.length_cons] at hb hk
    obtain ⟨k, rfl⟩ : ∃ j, k = j + 1 := ⟨k - 1, by omega⟩
    have hl := mid_len p r m
    have c0 : (0 : Int) ≤ (p.length : Int) := by omega
    have c1 : (p.length : Int) < ((p ++ m :: r).length : Int) := by omega
    have cw := w64 (n := (p.length : Int) + 1) (by omega) (by omega)
    have c3 : (0 : Int) ≤ (p.length : Int) + 1 := by omega
    have c4 : (p.length : Int) + 1 ≤ ((p ++ m :: r).length : Int) := by omega
    have t1 : ((p.length : Int) + 1).toNat = (p ++ [m]).length := by simp
    have htk : (p ++ m :: r).take (p ++ [m]).length = p ++ [m] := by rw [← mid_snoc p r m, List.take_left]
    simp only [impl_AreMoves.l4, impl_AreMoves.g4, c0, c1, c3, c4, cw, t1, htk, and_self, and_true, true_and, decide_true, decide_false, if_true, if_false, mid_get, mid_set, mid_getn, mid_setn, bt_mid, Option.bind_some, Bool.not_true, Bool.not_false, Bool.false_eq_true, Bool.true_eq_false, beq_self_eq_true, bne_self_eq_false, Int.toNat_natCast, impl_isTime_f, impl_IsWord_f _ (hs m (by simp)), impl_within_f]
    by_cases hm : movB m = true
    rotate_left
    · have e : movF p (m :: r) = false := by simp only [movF]; cases q : movB m; rfl; exact absurd q hm
      rw [e]
      unfold movB at hm
      simp only [Bool.and_eq_true, Bool.not_eq_true', decide_eq_false_iff_not, not_and] at hm
      by_cases h1 : inB m.1 0 10000000 = true
      · by_cases h2 : wordB m.2.1 = true
        · by_cases h3 : inB m.2.2 (-1000) 1000 = true
          · have h4 : m.2.2 = 0 := by have := hm ⟨⟨h1, h2⟩, h3⟩; omega
            simp [h1, h2, h3, h4]
          · simp [h1, h2, h3]
        · simp [h1, h2]
      · simp [h1]
    have hm' := hm
    unfold movB at hm'
    simp only [Bool.and_eq_true, Bool.not_eq_true', decide_eq_false_iff_not] at hm'
    obtain ⟨⟨⟨h1, h2⟩, h3⟩, h4⟩ := hm'
    have h4' : (m.2.2 == 0) = false := by simpa using h4
    simp only [h1, h2, h3, h4', and_self, and_true, true_and, decide_true, decide_false, if_true, if_false, mid_get, mid_set, mid_getn, mid_setn, bt_mid, Option.bind_some, Bool.not_true, Bool.not_false, Bool.false_eq_true, Bool.true_eq_false, beq_self_eq_true, bne_self_eq_false, Int.toNat_natCast]
    have fin : prevM p m.1 = true → ((impl_peopleIn.f (p ++ [m]) m.2.1 m.1).bind fun r4 => if (decide (r4 < 0)) = true then some false else impl_AreMoves.l4 NN k (p ++ m :: r) (p ++ m :: r) (p ++ m :: r).length ((p.length : Int) + 1)) = some (movF p (m :: r)) := fun hp => by
      obtain ⟨q1, q2⟩ := mvi_snoc hI hm hp
      rw [impl_peopleIn_f _ _ _ q1.ok q2 (by simp; omega)]
      have := ih (p ++ [m]) k q1 (fun x hx => hs x (by simp [hx])) (by simp; omega) (by omega)
      rw [mid_snoc, snoc_len] at this
      simp only [movF, hm, hp, Bool.true_and, Option.bind_some, this]
      by_cases e : peopS (p ++ [m]) m.2.1 < 0 <;> simp [e]
    rcases last_cases p with hp | ⟨q, y, hp⟩
    · have n1 : ¬ (0 : Int) < (p.length : Int) := by rw [hp]; simp
      simp only [n1, and_self, and_true, true_and, decide_true, decide_false, if_true, if_false, mid_get, mid_set, mid_getn, mid_setn, bt_mid, Option.bind_some, Bool.not_true, Bool.not_false, Bool.false_eq_true, Bool.true_eq_false, beq_self_eq_true, bne_self_eq_false, Int.toNat_natCast]
      exact fin (by rw [hp]; rfl)
    · have hpl : (p.length : Int) - 1 = (q.length : Int) := by rw [hp]; simp
      have n1 : (0 : Int) < (p.length : Int) := by rw [hp]; simp
      have w1 := w64 (n := (q.length : Int)) (by omega) (by omega)
      have q0 : (0 : Int) ≤ (q.length : Int) := by omega
      have q1 : (q.length : Int) < ((p ++ m :: r).length : Int) := by omega
      have g2 : ∀ z, (p ++ m :: r).getD q.length z = y := fun z => by rw [hp, List.append_assoc, List.singleton_append, mid_getn]
      simp only [n1, hpl, w1, q0, q1, g2, and_self, and_true, true_and, decide_true, decide_false, if_true, if_false, mid_get, mid_set, mid_getn, mid_setn, bt_mid, Option.bind_some, Bool.not_true, Bool.not_false, Bool.false_eq_true, Bool.true_eq_false, beq_self_eq_true, bne_self_eq_false, Int.toNat_natCast]
      have hpr : prevM p m.1 = !decide (m.1 < y.1) := by unfold prevM; rw [hp, last_snoc]
      by_cases e : m.1 < y.1
      · have : movF p (m :: r) = false := by simp [movF, hpr, e]
        simp [e, this]
      · simp only [e, and_self, and_true, true_and, decide_true, decide_false, if_true, if_false, mid_get, mid_set, mid_getn, mid_setn, bt_mid, Option.bind_some, Bool.not_true, Bool.not_false, Bool.false_eq_true, Bool.true_eq_false, beq_self_eq_true, bne_self_eq_false, Int.toNat_natCast]
        exact fin (by rw [hpr]; simp [e])
theorem spec_AreMoves_l : ∀ (r p : List Mov) (k : Nat), MvI p → (∀ m ∈ r, Sz m.2.1) → p.length + r.length ≤ 1000000 → r.length < k → spec_AreMoves.l2 NN k (p ++ r) p.length = some (movF p r && decide ((p ++ r).length ≤ 40)) := by
  intro r
  induction r with
  | nil =>
    intro p k _ _ _ hk
    obtain ⟨k, rfl⟩ : ∃ j, k = j + 1 := ⟨k - 1, by omega⟩
    have e : decide ((p.length : Int) ≤ 40) = decide (p.length ≤ 40) := by congr 1; exact propext (by omega)
    simp [spec_AreMoves.l2, spec_AreMoves.g2, movF, e]
  | cons m r ih =>
    intro p k hI hs hb hk
    simp only [List.length_cons] at hb hk
    obtain ⟨k, rfl⟩ : ∃ j, k = j + 1 := ⟨k - 1, by omega⟩
    have hl := mid_len p r m
    have c0 : (0 : Int) ≤ (p.length : Int) := by omega
    have c1 : (p.length : Int) < ((p ++ m :: r).length : Int) := by omega
    have cw := w64 (n := (p.length : Int) + 1) (by omega) (by omega)
    simp only [spec_AreMoves.l2, spec_AreMoves.g2, c0, c1, cw, and_self, and_true, true_and, decide_true, decide_false, if_true, if_false, mid_get, mid_set, mid_getn, mid_setn, bt_mid, Option.bind_some, Bool.not_true, Bool.not_false, Bool.false_eq_true, Bool.true_eq_false, beq_self_eq_true, bne_self_eq_false, Int.toNat_natCast, spec_l01IsTime_f, spec_IsWord_f _ (hs m (by simp)), spec_l01In_f]
    by_cases hm : movB m = true
    rotate_left
    · have e : movF p (m :: r) = false := by simp only [movF]; cases q : movB m; rfl; exact absurd q hm
      rw [e]
      unfold movB at hm
      simp only [Bool.and_eq_true, Bool.not_eq_true', decide_eq_false_iff_not, not_and] at hm
      by_cases h1 : inB m.1 0 10000000 = true
      · by_cases h2 : wordB m.2.1 = true
        · by_cases h3 : inB m.2.2 (-1000) 1000 = true
          · have h4 : m.2.2 = 0 := by have := hm ⟨⟨h1, h2⟩, h3⟩; omega
            simp [h1, h2, h3, h4]
          · simp [h1, h2, h3]
        · simp [h1, h2]
      · simp [h1]
    have hm' := hm
    unfold movB at hm'
    simp only [Bool.and_eq_true, Bool.not_eq_true', decide_eq_false_iff_not] at hm'
    obtain ⟨⟨⟨h1, h2⟩, h3⟩, h4⟩ := hm'
    have h4' : (m.2.2 == 0) = false := by simpa using h4
    simp only [h1, h2, h3, h4', and_self, and_true, true_and, decide_true, decide_false, if_true, if_false, mid_get, mid_set, mid_getn, mid_setn, bt_mid, Option.bind_some, Bool.not_true, Bool.not_false, Bool.false_eq_true, Bool.true_eq_false, beq_self_eq_true, bne_self_eq_false, Int.toNat_natCast]
    have fin : prevM p m.1 = true → ((spec_l20People.f (p ++ m :: r) m.2.1 ((p.length : Int) + 1)).bind fun r4 => if (decide (r4 < 0)) = true then some false else spec_AreMoves.l2 NN k (p ++ m :: r) ((p.length : Int) + 1)) = some (movF p (m :: r) && decide ((p ++ m :: r).length ≤ 40)) := fun hp => by
      obtain ⟨q1, q2⟩ := mvi_snoc hI hm hp
      have hpe := spec_l20People_f (p ++ [m]) r m.2.1 q1.ok (by simp; omega)
      rw [mid_snoc, snoc_len] at hpe
      rw [hpe]
      have := ih (p ++ [m]) k q1 (fun x hx => hs x (by simp [hx])) (by simp; omega) (by omega)
      rw [mid_snoc, snoc_len] at this
      simp only [movF, hm, hp, Bool.true_and, Option.bind_some, this]
      by_cases e : peopS (p ++ [m]) m.2.1 < 0 <;> simp [e]
    rcases last_cases p with hp | ⟨q, y, hp⟩
    · have n1 : ¬ (0 : Int) < (p.length : Int) := by rw [hp]; simp
      simp only [n1, and_self, and_true, true_and, decide_true, decide_false, if_true, if_false, mid_get, mid_set, mid_getn, mid_setn, bt_mid, Option.bind_some, Bool.not_true, Bool.not_false, Bool.false_eq_true, Bool.true_eq_false, beq_self_eq_true, bne_self_eq_false, Int.toNat_natCast]
      exact fin (by rw [hp]; rfl)
    · have hpl : (p.length : Int) - 1 = (q.length : Int) := by rw [hp]; simp
      have n1 : (0 : Int) < (p.length : Int) := by rw [hp]; simp
      have w1 := w64 (n := (q.length : Int)) (by omega) (by omega)
      have q0 : (0 : Int) ≤ (q.length : Int) := by omega
      have q1 : (q.length : Int) < ((p ++ m :: r).length : Int) := by omega
      have g2 : ∀ z, (p ++ m :: r).getD q.length z = y := fun z => by rw [hp, List.append_assoc, List.singleton_append, mid_getn]
      simp only [n1, hpl, w1, q0, q1, g2, and_self, and_true, true_and, decide_true, decide_false, if_true, if_false, mid_get, mid_set, mid_getn, mid_setn, bt_mid, Option.bind_some, Bool.not_true, Bool.not_false, Bool.false_eq_true, Bool.true_eq_false, beq_self_eq_true, bne_self_eq_false, Int.toNat_natCast]
      have hpr : prevM p m.1 = !decide (m.1 < y.1) := by unfold prevM; rw [hp, last_snoc]
      by_cases e : m.1 < y.1
      · have : movF p (m :: r) = false := by simp [movF, hpr, e]
        simp [e, this]
      · simp only [e, and_self, and_true, true_and, decide_true, decide_false, if_true, if_false, mid_get, mid_set, mid_getn, mid_setn, bt_mid, Option.bind_some, Bool.not_true, Bool.not_false, Bool.false_eq_true, Bool.true_eq_false, beq_self_eq_true, bne_self_eq_false, Int.toNat_natCast]
        exact fin (by rw [hpr]; simp [e])
theorem mvi_nil : MvI [] := ⟨by simp, by simp⟩
theorem impl_AreMoves_f (xs : List Mov) (hl : xs.length ≤ 1000000) (hs : ∀ m ∈ xs, Sz m.2.1) : impl_AreMoves.f xs = some (movesB xs) := by
  unfold impl_AreMoves.f impl_AreMoves.fn impl_AreMoves.top movesB
  have := impl_AreMoves_l xs [] NN mvi_nil hs (by simpa using hl) (NN_lt (by omega))
  rw [List.nil_append] at this
  by_cases h8 : (40 : Int) < (xs.length : Int)
  · have : ¬ xs.length ≤ 40 := by omega
    simp [h8, this]
  · have e8 : xs.length ≤ 40 := by omega
    simp only [h8, e8, and_self, and_true, true_and, decide_true, decide_false, if_true, if_false, mid_get, mid_set, mid_getn, mid_setn, bt_mid, Option.bind_some, Bool.not_true, Bool.not_false, Bool.false_eq_true, Bool.true_eq_false, beq_self_eq_true, bne_self_eq_false, Int.toNat_natCast, Bool.true_and]
    exact this
theorem spec_AreMoves_f (xs : List Mov) (hl : xs.length ≤ 1000000) (hs : ∀ m ∈ xs, Sz m.2.1) : spec_AreMoves.f xs = some (movesB xs) := by
  unfold spec_AreMoves.f spec_AreMoves.fn spec_AreMoves.top movesB
  have := spec_AreMoves_l xs [] NN mvi_nil hs (by simpa using hl) (NN_lt (by omega))
  rw [List.nil_append] at this
  rw [Bool.and_comm]
  exact this
end Go.Pl

namespace Go.Pl
open Go.Ev
set_option linter.unusedVariables false
set_option linter.unusedSimpArgs false
def valB (b : Int × ByteArray × Int) : Bool := inB b.1 0 3 && wordB b.2.1 && inB b.2.2 1 1000
def addL (a : ByteArray) (s : Int) (b : Int × ByteArray × Int) : Int := if b.2.1 = a then (if b.1 = 0 then s + b.2.2 else s - b.2.2) else s
def leftOf (xs : List (Int × ByteArray × Int)) (a : ByteArray) : Int := xs.foldl (addL a) 0
theorem leftOf_snoc (p : List (Int × ByteArray × Int)) (b : Int × ByteArray × Int) (a : ByteArray) : leftOf (p ++ [b]) a = addL a (leftOf p a) b := by
  unfold leftOf; rw [List.foldl_append]; rfl
theorem valB_count {b : Int × ByteArray × Int} (h : valB b = true) : 1 ≤ b.2.2 ∧ b.2.2 ≤ 1000 ∧ 0 ≤ b.1 ∧ b.1 ≤ 3 := by
  unfold valB at h
  simp only [Bool.and_eq_true, inB_iff] at h
  omega
theorem leftOf_le (a : ByteArray) (xs : List (Int × ByteArray × Int)) (h : ∀ b ∈ xs, valB b = true) : -(1000 * (xs.length : Int)) ≤ leftOf xs a ∧ leftOf xs a ≤ 1000 * (xs.length : Int) := by
  have key : ∀ (ys : List (Int × ByteArray × Int)) (s : Int), (∀ b ∈ ys, valB b = true) → s - 1000 * (ys.length : Int) ≤ ys.foldl (addL a) s ∧ ys.foldl (addL a) s ≤ s + 1000 * (ys.length : Int) := by
    intro ys
    induction ys with
    | nil => intro s _; simp
    | cons b r ih =>
      intro s hb
      have h1 := ih (addL a s b) (fun x hx => hb x (by simp [hx]))
      have h2 := valB_count (hb b (by simp))
      simp only [List.foldl_cons, List.length_cons]
      have : s - 1000 ≤ addL a s b ∧ addL a s b ≤ s + 1000 := by
        unfold addL; split <;> (try split) <;> omega
      omega
  have := key xs 0 h
  unfold leftOf; omega
theorem spec_l32Left_f (xs rest : List (Int × ByteArray × Int)) (a : ByteArray) (h : ∀ b ∈ xs, valB b = true) (hl : xs.length ≤ 1000000) : spec_l32Left.f (xs ++ rest) a xs.length = some (leftOf xs a) := by
  have := (fold_fix (E := fun b => valB b = true) (fun p s => (∀ b ∈ p, valB b = true) ∧ s = leftOf p a) (fun _ => addL a) some (fun k i s => spec_l32Left.l3 NN k (xs ++ rest) a xs.length s i) xs ?_ ?_ 0 h ⟨by simp, rfl⟩ (by omega) NN (NN_lt (by omega))).2
  · rw [foldi_foldl] at this
    exact this
  · intro k st _
    simp [spec_l32Left.l3, spec_l32Left.g3]
  · intro k p b r st hx hb hI c0 c1 c2 cw g
    obtain ⟨h1, rfl⟩ := hI
    have h2 : ∀ x ∈ p ++ [b], valB x = true := fun x hx => by
      rcases List.mem_append.1 hx with h | h
      · exact h1 x h
      · rw [List.mem_singleton.1 h]; exact hb
    refine ⟨⟨h2, (leftOf_snoc p b a).symm⟩, ?_⟩
    have c3 : (p.length : Int) < ((xs ++ rest).length : Int) := by rw [List.length_append]; omega
    have g' : ∀ z, (xs ++ rest).getD p.length z = b := fun z => by rw [hx]; simp
    have bd := leftOf_le a (p ++ [b]) h2
    rw [leftOf_snoc] at bd
    have hpl : p.length ≤ 1000000 := by omega
    simp only [List.length_append, List.length_cons, List.length_nil] at bd
    simp only [spec_l32Left.l3, spec_l32Left.g3, c0, c1, c3, cw, and_self, and_true, true_and, decide_true, decide_false, if_true, if_false, mid_get, mid_set, mid_getn, mid_setn, bt_mid, Option.bind_some, Bool.not_true, Bool.not_false, Bool.false_eq_true, Bool.true_eq_false, beq_self_eq_true, bne_self_eq_false, Int.toNat_natCast, g', ba_beq]
    unfold addL at bd ⊢
    by_cases ha : b.2.1 = a
    · by_cases hz : b.1 = 0
      · have e := w64 (n := leftOf p a + b.2.2) (by simp only [ha, hz, if_true] at bd; omega) (by simp only [ha, hz, if_true] at bd; omega)
        simp [ha, hz, e]
      · have e := w64 (n := leftOf p a - b.2.2) (by simp only [ha, hz, if_true, if_false] at bd; omega) (by simp only [ha, hz, if_true, if_false] at bd; omega)
        simp [ha, hz, e]
    · simp [ha]
def addT (a : ByteArray) (s : List Int) (b : Int × ByteArray × Int) : List Int := if b.2.1 = a then s.set b.1.toNat (s.getD b.1.toNat 0 + b.2.2) else s
def totL (xs : List (Int × ByteArray × Int)) (a : ByteArray) : List Int := xs.foldl (addT a) [0, 0, 0, 0]
theorem totL_snoc (p : List (Int × ByteArray × Int)) (b : Int × ByteArray × Int) (a : ByteArray) : totL (p ++ [b]) a = addT a (totL p a) b := by
  unfold totL; rw [List.foldl_append]; rfl
theorem totL_shape (a : ByteArray) (xs : List (Int × ByteArray × Int)) (h : ∀ b ∈ xs, valB b = true) : ∃ t0 t1 t2 t3, totL xs a = [t0, t1, t2, t3] ∧ t0 - t1 - t2 - t3 = leftOf xs a ∧ 0 ≤ t0 ∧ 0 ≤ t1 ∧ 0 ≤ t2 ∧ 0 ≤ t3 ∧ t0 + t1 + t2 + t3 ≤ 1000 * (xs.length : Int) := by
  have key : ∀ (n : Nat) (xs : List (Int × ByteArray × Int)), xs.length = n → (∀ b ∈ xs, valB b = true) → ∃ t0 t1 t2 t3, totL xs a = [t0, t1, t2, t3] ∧ t0 - t1 - t2 - t3 = leftOf xs a ∧ 0 ≤ t0 ∧ 0 ≤ t1 ∧ 0 ≤ t2 ∧ 0 ≤ t3 ∧ t0 + t1 + t2 + t3 ≤ 1000 * (xs.length : Int) := by
    intro n
    induction n with
    | zero => intro xs hn _; obtain rfl := List.length_eq_zero_iff.1 hn; exact ⟨0, 0, 0, 0, rfl, rfl, by omega, by omega, by omega, by omega, by simp⟩
    | succ n ih =>
      intro xs hn hb
      rcases List.eq_nil_or_concat xs with rfl | ⟨p, b, rfl⟩
      · simp at hn
      simp only [List.concat_eq_append] at hn hb ⊢
      obtain ⟨t0, t1, t2, t3, e1, e2, e3, e4, e5, e6, e7⟩ := ih p (by simpa using hn) (fun x hx => hb x (by simp [hx]))
      have hv := valB_count (hb b (by simp))
      rw [totL_snoc, leftOf_snoc, e1]
      simp only [List.length_append, List.length_cons, List.length_nil]
      unfold addT addL
      by_cases ha : b.2.1 = a
      · simp only [ha, if_true]
        obtain h | h | h | h : b.1 = 0 ∨ b.1 = 1 ∨ b.1 = 2 ∨ b.1 = 3 := by omega
        · exact ⟨t0 + b.2.2, t1, t2, t3, by simp [h], by simp [h]; omega, by omega, by omega, by omega, by omega, by omega⟩
        · exact ⟨t0, t1 + b.2.2, t2, t3, by simp [h], by simp [h]; omega, by omega, by omega, by omega, by omega, by omega⟩
        · exact ⟨t0, t1, t2 + b.2.2, t3, by simp [h], by simp [h]; omega, by omega, by omega, by omega, by omega, by omega⟩
        · exact ⟨t0, t1, t2, t3 + b.2.2, by simp [h], by simp [h]; omega, by omega, by omega, by omega, by omega, by omega⟩
      · simp only [ha, if_false]
        exact ⟨t0, t1, t2, t3, rfl, by omega, by omega, by omega, by omega, by omega, by omega⟩
  exact key _ xs rfl h
theorem impl_totalsOf_f (xs : List (Int × ByteArray × Int)) (a : ByteArray) (h : ∀ b ∈ xs, valB b = true) (hl : xs.length ≤ 1000000) : impl_totalsOf.f xs a = some (totL xs a) := by
  have := (fold_fix (E := fun b => valB b = true) (fun p s => (∀ b ∈ p, valB b = true) ∧ s = totL p a) (fun _ => addT a) some (fun k i s => impl_totalsOf.l3 NN k a xs xs.length i s) xs ?_ ?_ [0, 0, 0, 0] h ⟨by simp, rfl⟩ (by omega) NN (NN_lt (by omega))).2
  · rw [foldi_foldl] at this
    unfold impl_totalsOf.f impl_totalsOf.fn impl_totalsOf.top
    rw [if_pos (by rw [room8]; omega)]
    exact this
  · intro k st _
    simp [impl_totalsOf.l3, impl_totalsOf.g3]
  · intro k p b r st hx hb hI c0 c1 c2 cw g
    obtain ⟨h1, rfl⟩ := hI
    have h2 : ∀ x ∈ p ++ [b], valB x = true := fun x hx => by
      rcases List.mem_append.1 hx with h | h
      · exact h1 x h
      · rw [List.mem_singleton.1 h]; exact hb
    refine ⟨⟨h2, (totL_snoc p b a).symm⟩, ?_⟩
    obtain ⟨t0, t1, t2, t3, e1, e2, e3, e4, e5, e6, e7⟩ := totL_shape a p h1
    have hpl : p.length ≤ 1000000 := by omega
    have hv := valB_count hb
    simp only [impl_totalsOf.l3, impl_totalsOf.g3, c0, c1, cw, and_self, and_true, true_and, decide_true, decide_false, if_true, if_false, mid_get, mid_set, mid_getn, mid_setn, bt_mid, Option.bind_some, Bool.not_true, Bool.not_false, Bool.false_eq_true, Bool.true_eq_false, beq_self_eq_true, bne_self_eq_false, Int.toNat_natCast, g, ba_beq]
    unfold addT
    by_cases ha : b.2.1 = a
    · have k1 : b.1 < ((totL p a).length : Int) := by rw [e1]; simp; omega
      have k2 : 0 ≤ (totL p a).getD b.1.toNat 0 ∧ (totL p a).getD b.1.toNat 0 ≤ 1000000000 := by
        rw [e1]
        obtain h | h | h | h : b.1 = 0 ∨ b.1 = 1 ∨ b.1 = 2 ∨ b.1 = 3 := by omega
        all_goals (rw [h]; simp; omega)
      have e := w64 (n := (totL p a).getD b.1.toNat 0 + b.2.2) (by omega) (by omega)
      simp only [ha, decide_true, if_true, hv.2.2.1, k1, and_self, e]
    · simp [ha]
theorem impl_piecesLeft_f (xs : List (Int × ByteArray × Int)) (a : ByteArray) (h : ∀ b ∈ xs, valB b = true) (hl : xs.length ≤ 1000000) : impl_piecesLeft.f xs a = some (leftOf xs a) := by
  unfold impl_piecesLeft.f impl_piecesLeft.fn impl_piecesLeft.top
  rw [impl_totalsOf_f xs a h hl]
  obtain ⟨t0, t1, t2, t3, e1, e2, e3, e4, e5, e6, e7⟩ := totL_shape a xs h
  have w1 := w64 (n := t0 - t1) (by omega) (by omega)
  have w2 := w64 (n := t0 - t1 - t2) (by omega) (by omega)
  have w3 := w64 (n := t0 - t1 - t2 - t3) (by omega) (by omega)
  have w4 : IntKind.i64.wrap (leftOf xs a) = leftOf xs a := by rw [← e2]; exact w3
  rw [e1]
  simp [w1, w2, w3, e2, w4]
def okFrom (p : List (Int × ByteArray × Int)) : List (Int × ByteArray × Int) → Bool
  | [] => true
  | b :: r => valB b && decide (0 ≤ leftOf (p ++ [b]) b.2.1) && okFrom (p ++ [b]) r
def booksB (xs : List (Int × ByteArray × Int)) : Bool := decide (xs.length ≤ 60) && okFrom [] xs
theorem okFrom_val : ∀ (r p : List (Int × ByteArray × Int)), okFrom p r = true → ∀ b ∈ r, valB b = true := by
  intro r
  induction r with
  | nil => intro p _ b hb; cases hb
  | cons x r ih =>
    intro p h b hb
    simp only [okFrom, Bool.and_eq_true] at h
    rcases List.mem_cons.1 hb with rfl | hb
    · exact h.1.1
    · exact ih _ h.2 b hb
theorem booksB_val {xs : List (Int × ByteArray × Int)} (h : booksB xs = true) : (∀ b ∈ xs, valB b = true) ∧ xs.length ≤ 60 := by
  unfold booksB at h
  simp only [Bool.and_eq_true, decide_eq_true_eq] at h
  exact ⟨okFrom_val _ _ h.2, h.1⟩
theorem val_snoc {p : List (Int × ByteArray × Int)} {b : Int × ByteArray × Int} (h1 : ∀ x ∈ p, valB x = true) (hb : valB b = true) : ∀ x ∈ p ++ [b], valB x = true := fun x hx => by
  rcases List.mem_append.1 hx with h | h
  · exact h1 x h
  · rw [List.mem_singleton.1 h]; exact hb
theorem spec_AreBookings_loop : ∀ (r p : List (Int × ByteArray × Int)) (k : Nat), (∀ b ∈ p, valB b = true) → (∀ b ∈ r, Sz b.2.1) → p.length + r.length ≤ 1000000 → r.length < k →
    spec_AreBookings.l2 NN k (p ++ r) p.length = some (okFrom p r && decide ((p ++ r).length ≤ 60)) := by
  intro r
  induction r with
  | nil =>
    intro p k _ _ _ hk
    obtain ⟨k, rfl⟩ : ∃ j, k = j + 1 := ⟨k - 1, by omega⟩
    simp [spec_AreBookings.l2, spec_AreBookings.g2, okFrom]
    omega
  | cons b r ih =>
    intro p k hp hr hb hk
    simp only [List.length_cons] at hk hb
    obtain ⟨k, rfl⟩ : ∃ j, k = j + 1 := ⟨k - 1, by omega⟩
    have hm := mid_len p r b
    have c0 : (0 : Int) ≤ (p.length : Int) := by omega
    have c1 : (p.length : Int) < ((p ++ b :: r).length : Int) := by omega
    have cw := w64 (n := (p.length : Int) + 1) (by omega) (by omega)
    simp only [spec_AreBookings.l2, spec_AreBookings.g2, c0, c1, cw, and_self, and_true, true_and, decide_true, decide_false, if_true, if_false, mid_get, mid_set, mid_getn, mid_setn, bt_mid, Option.bind_some, Bool.not_true, Bool.not_false, Bool.false_eq_true, Bool.true_eq_false, beq_self_eq_true, bne_self_eq_false, Int.toNat_natCast, spec_l01In_f, spec_IsWord_f _ (hr b (by simp))]
    have hv : valB b = (inB b.1 0 3 && wordB b.2.1 && inB b.2.2 1 1000) := rfl
    simp only [okFrom]
    cases h1 : inB b.1 0 3
    · simp [hv, h1]
    cases h2 : wordB b.2.1
    · simp [hv, h2]
    cases h3 : inB b.2.2 1 1000
    · simp [hv, h3]
    have hvt : valB b = true := by rw [hv, h1, h2, h3]; rfl
    have hl := spec_l32Left_f (p ++ [b]) r b.2.1 (val_snoc hp hvt) (by simp; omega)
    rw [mid_snoc, snoc_len] at hl
    have := ih (p ++ [b]) k (val_snoc hp hvt) (fun x hx => hr x (by simp [hx])) (by simp; omega) (by omega)
    rw [mid_snoc, snoc_len] at this
    simp only [hl, this, hvt, and_self, and_true, true_and, decide_true, decide_false, if_true, if_false, mid_get, mid_set, mid_getn, mid_setn, bt_mid, Option.bind_some, Bool.not_true, Bool.not_false, Bool.false_eq_true, Bool.true_eq_false, beq_self_eq_true, bne_self_eq_false, Int.toNat_natCast, decide_eq_true_eq]
    by_cases hn : leftOf (p ++ [b]) b.2.1 < 0
    · have : ¬ 0 ≤ leftOf (p ++ [b]) b.2.1 := by omega
      simp [hn, this]
    · have h4 : 0 ≤ leftOf (p ++ [b]) b.2.1 := by omega
      simp [hn, h4]
theorem spec_AreBookings_f (xs : List (Int × ByteArray × Int)) (h : Lm OkBooking xs) : spec_AreBookings.f xs = some (booksB xs) := by
  have := spec_AreBookings_loop xs [] NN (by simp) (fun b hb => Nat.le_trans (h.2 b hb).2.1 (by omega)) (by simpa using h.1) (NN_lt (by have := h.1; omega))
  unfold spec_AreBookings.f spec_AreBookings.fn spec_AreBookings.top booksB
  rw [Bool.and_comm]
  simpa using this
theorem impl_AreBookings_loop : ∀ (r p : List (Int × ByteArray × Int)) (k : Nat), (∀ b ∈ p, valB b = true) → (∀ b ∈ r, Sz b.2.1) → p.length + r.length ≤ 1000000 → r.length < k →
    impl_AreBookings.l4 NN k (p ++ r) (p ++ r) (p ++ r).length p.length = some (okFrom p r) := by
  intro r
  induction r with
  | nil =>
    intro p k _ _ _ hk
    obtain ⟨k, rfl⟩ : ∃ j, k = j + 1 := ⟨k - 1, by omega⟩
    simp [impl_AreBookings.l4, impl_AreBookings.g4, okFrom]
  | cons b r ih =>
    intro p k hp hr hb hk
    simp only [List.length_cons] at hk hb
    obtain ⟨k, rfl⟩ : ∃ j, k = j + 1 := ⟨k - 1, by omega⟩
    have hm := mid_len p r b
    have c0 : (0 : Int) ≤ (p.length : Int) := by omega
    have c1 : (p.length : Int) < ((p ++ b :: r).length : Int) := by omega
    have cw := w64 (n := (p.length : Int) + 1) (by omega) (by omega)
    have c2 : (0 : Int) ≤ (p.length : Int) + 1 := by omega
    have c3 : (p.length : Int) + 1 ≤ ((p ++ b :: r).length : Int) := by omega
    have ct : (p ++ b :: r).take ((p.length : Int) + 1).toNat = p ++ [b] := by
      rw [show ((p.length : Int) + 1).toNat = (p ++ [b]).length by simp, show p ++ b :: r = (p ++ [b]) ++ r by simp, List.take_left' rfl]
    simp only [impl_AreBookings.l4, impl_AreBookings.g4, c0, c1, c2, c3, cw, ct, and_self, and_true, true_and, decide_true, decide_false, if_true, if_false, mid_get, mid_set, mid_getn, mid_setn, bt_mid, Option.bind_some, Bool.not_true, Bool.not_false, Bool.false_eq_true, Bool.true_eq_false, beq_self_eq_true, bne_self_eq_false, Int.toNat_natCast, impl_within_f, impl_IsWord_f _ (hr b (by simp))]
    have hv : valB b = (inB b.1 0 3 && wordB b.2.1 && inB b.2.2 1 1000) := rfl
    simp only [okFrom]
    cases h1 : inB b.1 0 3
    · simp [hv, h1]
    cases h2 : wordB b.2.1
    · simp [hv, h2]
    cases h3 : inB b.2.2 1 1000
    · simp [hv, h3]
    have hvt : valB b = true := by rw [hv, h1, h2, h3]; rfl
    have hl := impl_piecesLeft_f (p ++ [b]) b.2.1 (val_snoc hp hvt) (by simp; omega)
    have := ih (p ++ [b]) k (val_snoc hp hvt) (fun x hx => hr x (by simp [hx])) (by simp; omega) (by omega)
    rw [mid_snoc, snoc_len] at this
    simp only [hl, this, hvt, and_self, and_true, true_and, decide_true, decide_false, if_true, if_false, mid_get, mid_set, mid_getn, mid_setn, bt_mid, Option.bind_some, Bool.not_true, Bool.not_false, Bool.false_eq_true, Bool.true_eq_false, beq_self_eq_true, bne_self_eq_false, Int.toNat_natCast, decide_eq_true_eq]
    by_cases hn : leftOf (p ++ [b]) b.2.1 < 0
    · have : ¬ 0 ≤ leftOf (p ++ [b]) b.2.1 := by omega
      simp [hn, this]
    · have h4 : 0 ≤ leftOf (p ++ [b]) b.2.1 := by omega
      simp [hn, h4]
theorem impl_AreBookings_f (xs : List (Int × ByteArray × Int)) (h : Lm OkBooking xs) : impl_AreBookings.f xs = some (booksB xs) := by
  have := impl_AreBookings_loop xs [] NN (by simp) (fun b hb => Nat.le_trans (h.2 b hb).2.1 (by omega)) (by simpa using h.1) (NN_lt (by have := h.1; omega))
  unfold impl_AreBookings.f impl_AreBookings.fn impl_AreBookings.top booksB
  simp only [List.nil_append, List.length_nil] at this
  by_cases h1 : (60 : Int) < xs.length
  · have h2 : ¬ xs.length ≤ 60 := by omega
    simp [h1, h2]
  · have h2 : xs.length ≤ 60 := by omega
    simp only [h1, h2, decide_false, Bool.false_eq_true, if_false, decide_true, Bool.true_and]
    exact this
end Go.Pl

namespace Go.Pl
open Go.Ev
set_option linter.unusedVariables false
noncomputable section
def impl_MostIn.g5 (L5 : YD → ByteArray → Int → Int → Int → Option YC) (q : List YA) (p : ByteArray) (r : Int) (v17 : Int) (v18 : Int) : Option YC :=
 if (decide ((v18 : Int) < v17)) = true then
 if (0 : Int) ≤ (IntKind.i64.wrap (v18 + 1)) ∧ ((IntKind.i64.wrap (v18 + 1)) : Int) ≤ q.length then
 (impl_piecesLeft.f (q.take ((IntKind.i64.wrap (v18 + 1)) : Int).toNat) p).bind fun r3 =>
 L5 q p (if r3 > r then r3 else r) v17 (IntKind.i64.wrap (v18 + 1))
 else
 none
 else
 some (r, 0)
def impl_MostIn.l5 (n : Nat) : Nat → YD → ByteArray → Int → Int → Int → Option YC
 | 0 => fun _ _ _ _ _ => none
 | k + 1 => impl_MostIn.g5 (impl_MostIn.l5 n k)
def impl_MostIn.top (I5 : YD → ByteArray → Int → Int → Int → Option YC) (q : List YA) (p : ByteArray) : Option YC :=
 (impl_AreBookings.f q).bind fun r1 =>
 if (!r1) = false then
 (impl_IsWord.f p).bind fun r2 =>
 if (!r2) = true then
 some (0, 1)
 else
 I5 q p 0 (q.length : Int) 0
 else
 some (0, 1)
def impl_MostIn.fn (n : Nat) (q : List YA) (p : ByteArray) : Option YC := impl_MostIn.top (impl_MostIn.l5 n n) q p
def impl_MostIn.f (q : List YA) (p : ByteArray) : Option YC := impl_MostIn.fn NN q p
end
end Go.Pl

namespace Go.Pl
open Go.Ev
set_option linter.unusedVariables false
noncomputable section
def spec_MostIn.g5 (L5 : YD → ByteArray → Int → Int → Option YC) (q : List YA) (p : ByteArray) (r : Int) (n7 : Int) : Option YC :=
 if (decide ((n7 : Int) ≤ (q.length : Int))) = true then
 (spec_l32Left.f q p n7).bind fun r3 =>
 L5 q p (if r3 > r then r3 else r) (IntKind.i64.wrap (n7 + 1))
 else
 some (r, 0)
def spec_MostIn.l5 (n : Nat) : Nat → YD → ByteArray → Int → Int → Option YC
 | 0 => fun _ _ _ _ => none
 | k + 1 => spec_MostIn.g5 (spec_MostIn.l5 n k)
def spec_MostIn.top (I5 : YD → ByteArray → Int → Int → Option YC) (q : List YA) (p : ByteArray) : Option YC :=
 (spec_AreBookings.f q).bind fun r1 =>
 if (!r1) = false then
 (spec_IsWord.f p).bind fun r2 =>
 if (!r2) = true then
 some (0, 1)
 else
 I5 q p 0 0
 else
 some (0, 1)
def spec_MostIn.fn (n : Nat) (q : List YA) (p : ByteArray) : Option YC := spec_MostIn.top (spec_MostIn.l5 n n) q p
def spec_MostIn.f (q : List YA) (p : ByteArray) : Option YC := spec_MostIn.fn NN q p
end
end Go.Pl

namespace Go.Pl
open Go.Ev
set_option linter.unusedVariables false
set_option linter.unusedSimpArgs false
theorem l32Left_all (xs : List (Int × ByteArray × Int)) (a : ByteArray) (h : ∀ b ∈ xs, valB b = true) (hl : xs.length ≤ 1000000) : spec_l32Left.f xs a xs.length = some (leftOf xs a) := by
  have := spec_l32Left_f xs [] a h hl
  rwa [List.append_nil] at this
def leftR (xs : List (Int × ByteArray × Int)) (a : ByteArray) : Int × Int := if booksB xs = true ∧ wordB a = true then (leftOf xs a, 0) else (0, 1)
theorem PiecesLeft_both (xs : List (Int × ByteArray × Int)) (a : ByteArray) (h : Lm OkBooking xs) (ha : Sm a) : spec_PiecesLeft.f xs a = some (leftR xs a) ∧ impl_PiecesLeft.f xs a = some (leftR xs a) := by
  unfold leftR
  refine ⟨?_, ?_⟩
  · unfold spec_PiecesLeft.f spec_PiecesLeft.fn spec_PiecesLeft.top
    rw [spec_AreBookings_f xs h, spec_IsWord_f a (Nat.le_trans ha (by omega))]
    cases hb : booksB xs
    · rfl
    cases hw : wordB a
    · rfl
    have hv := booksB_val hb
    simp only [and_self, and_true, true_and, decide_true, decide_false, if_true, if_false, mid_get, mid_set, mid_getn, mid_setn, bt_mid, Option.bind_some, Bool.not_true, Bool.not_false, Bool.false_eq_true, Bool.true_eq_false, beq_self_eq_true, bne_self_eq_false, Int.toNat_natCast]
    rw [l32Left_all xs a hv.1 (by omega)]; rfl
  · unfold impl_PiecesLeft.f impl_PiecesLeft.fn impl_PiecesLeft.top
    rw [impl_AreBookings_f xs h, impl_IsWord_f a (Nat.le_trans ha (by omega))]
    cases hb : booksB xs
    · rfl
    cases hw : wordB a
    · rfl
    have hv := booksB_val hb
    simp only [and_self, and_true, true_and, decide_true, decide_false, if_true, if_false, mid_get, mid_set, mid_getn, mid_setn, bt_mid, Option.bind_some, Bool.not_true, Bool.not_false, Bool.false_eq_true, Bool.true_eq_false, beq_self_eq_true, bne_self_eq_false, Int.toNat_natCast]
    rw [impl_piecesLeft_f xs a hv.1 (by omega)]; rfl
def mostF (xs : List (Int × ByteArray × Int)) (a : ByteArray) (i : Nat) (st : Int) : Int := if leftOf (xs.take (i + 1)) a > st then leftOf (xs.take (i + 1)) a else st
def mostL (xs : List (Int × ByteArray × Int)) (a : ByteArray) : Int := foldi (fun i st (_ : Int × ByteArray × Int) => mostF xs a i st) 0 0 xs
end Go.Pl

namespace Go.Pl
open Go.Ev
set_option linter.unusedVariables false
noncomputable section
def impl_IsDesk.top (d0 : YD × YE × List YA) : Option Bool :=
 (impl_AreMoves.f d0.1).bind fun r1 =>
 if r1 = true then
 (impl_AreSignals.f d0.2.1).bind fun r2 =>
 if r2 = true then
 (impl_AreBookings.f d0.2.2).bind fun r3 =>
 some r3
 else
 some false
 else
 some false
def impl_IsDesk.fn (n : Nat) (d0 : YD × YE × List YA) : Option Bool := impl_IsDesk.top d0
def impl_IsDesk.f (d0 : YD × YE × List YA) : Option Bool := impl_IsDesk.fn NN d0
end
end Go.Pl

namespace Go.Pl
open Go.Ev
set_option linter.unusedVariables false
noncomputable section
def spec_IsDesk.top (d0 : YD × YE × List YA) : Option Bool :=
 (spec_AreMoves.f d0.1).bind fun r1 =>
 if r1 = true then
 (spec_AreSignals.f d0.2.1).bind fun r2 =>
 if r2 = true then
 (spec_AreBookings.f d0.2.2).bind fun r3 =>
 some r3
 else
 some false
 else
 some false
def spec_IsDesk.fn (n : Nat) (d0 : YD × YE × List YA) : Option Bool := spec_IsDesk.top d0
def spec_IsDesk.f (d0 : YD × YE × List YA) : Option Bool := spec_IsDesk.fn NN d0
end
end Go.Pl

namespace Go.Pl
open Go.Ev
set_option linter.unusedVariables false
set_option linter.unusedSimpArgs false
abbrev Sig := Int × Int
def sigB (m : Sig) : Bool := inB m.1 0 100000 && inB m.2 0 9 && !decide (m.2 = 8)
def prevS (p : List Sig) (t : Int) : Bool := match p.getLast? with | none => true | some y => !decide (t < y.1)
def sigF (p : List Sig) : List Sig → Bool
  | [] => true
  | m :: r => sigB m && (prevS p m.1 && sigF (p ++ [m]) r)
def sigsB (xs : List Sig) : Bool := decide (xs.length ≤ 40) && sigF [] xs
theorem impl_AreSignals_l : ∀ (r p : List Sig) (k : Nat), p.length + r.length ≤ 1000000 → r.length < k → impl_AreSignals.l4 NN k (p ++ r) (p ++ r) (p ++ r).length p.length = some (sigF p r) := by
  intro r
  induction r with
  | nil =>
    intro p k _ hk
    obtain ⟨k, rfl⟩ : ∃ j, k = j + 1 := ⟨k - 1, by omega⟩
    have e : decide ((p.length : Int) ≤ 40) = decide (p.length ≤ 40) := by congr 1; exact propext (by omega)
    simp [impl_AreSignals.l4, impl_AreSignals.g4, sigF, e]
  | cons m r ih =>
    intro p k hb hk
    simp only [List.length_cons] at hb hk
    obtain ⟨k, rfl⟩ : ∃ j, k = j + 1 := ⟨k - 1, by omega⟩
    have hl := mid_len p r m
    have c0 : (0 : Int) ≤ (p.length : Int) := by omega
    have c1 : (p.length : Int) < ((p ++ m :: r).length : Int) := by omega
    have cw := w64 (n := (p.length : Int) + 1) (by omega) (by omega)
    have i1 := ih (p ++ [m]) k (by simp; omega) (by omega)
    rw [mid_snoc, snoc_len] at i1
    simp only [impl_AreSignals.l4, impl_AreSignals.g4, c0, c1, cw, and_self, and_true, true_and, decide_true, decide_false, if_true, if_false, mid_get, mid_set, mid_getn, mid_setn, bt_mid, Option.bind_some, Bool.not_true, Bool.not_false, Bool.false_eq_true, Bool.true_eq_false, beq_self_eq_true, bne_self_eq_false, Int.toNat_natCast, impl_isTick_f, impl_within_f]
    by_cases hm : sigB m = true
    rotate_left
    · have e : sigF p (m :: r) = false := by simp only [sigF]; cases q : sigB m; rfl; exact absurd q hm
      rw [e]
      unfold sigB at hm
      simp only [Bool.and_eq_true, Bool.not_eq_true', decide_eq_false_iff_not, not_and] at hm
      by_cases h1 : inB m.1 0 100000 = true
      · by_cases h3 : inB m.2 0 9 = true
        · have h4 : m.2 = 8 := by have := hm ⟨h1, h3⟩; omega
          simp [h1, h3, h4]
        · simp [h1, h3]
      · simp [h1]
    have hm' := hm
    unfold sigB at hm'
    simp only [Bool.and_eq_true, Bool.not_eq_true', decide_eq_false_iff_not] at hm'
    obtain ⟨⟨h1, h3⟩, h4⟩ := hm'
    have h4' : (m.2 == 8) = false := by simpa using h4
    simp only [h1, h3, h4', and_self, and_true, true_and, decide_true, decide_false, if_true, if_false, mid_get, mid_set, mid_getn, mid_setn, bt_mid, Option.bind_some, Bool.not_true, Bool.not_false, Bool.false_eq_true, Bool.true_eq_false, beq_self_eq_true, bne_self_eq_false, Int.toNat_natCast]
    rcases last_cases p with hp | ⟨q, y, hp⟩
    · have n1 : ¬ (0 : Int) < (p.length : Int) := by rw [hp]; simp
      have hpr : prevS p m.1 = true := by rw [hp]; rfl
      simp only [n1, and_self, and_true, true_and, decide_true, decide_false, if_true, if_false, mid_get, mid_set, mid_getn, mid_setn, bt_mid, Option.bind_some, Bool.not_true, Bool.not_false, Bool.false_eq_true, Bool.true_eq_false, beq_self_eq_true, bne_self_eq_false, Int.toNat_natCast, i1, sigF, hm, hpr, Bool.true_and]
    · have hpl : (p.length : Int) - 1 = (q.length : Int) := by rw [hp]; simp
      have n1 : (0 : Int) < (p.length : Int) := by rw [hp]; simp
      have w1 := w64 (n := (q.length : Int)) (by omega) (by omega)
      have q0 : (0 : Int) ≤ (q.length : Int) := by omega
      have q1 : (q.length : Int) < ((p ++ m :: r).length : Int) := by omega
      have g2 : ∀ z, (p ++ m :: r).getD q.length z = y := fun z => by rw [hp, List.append_assoc, List.singleton_append, mid_getn]
      have hpr : prevS p m.1 = !decide (m.1 < y.1) := by unfold prevS; rw [hp, last_snoc]
      simp only [n1, hpl, w1, q0, q1, g2, and_self, and_true, true_and, decide_true, decide_false, if_true, if_false, mid_get, mid_set, mid_getn, mid_setn, bt_mid, Option.bind_some, Bool.not_true, Bool.not_false, Bool.false_eq_true, Bool.true_eq_false, beq_self_eq_true, bne_self_eq_false, Int.toNat_natCast, i1, sigF, hm, hpr, Bool.true_and]
      by_cases e : m.1 < y.1 <;> simp [e]
theorem spec_AreSignals_l : ∀ (r p : List Sig) (k : Nat), p.length + r.length ≤ 1000000 → r.length < k → spec_AreSignals.l2 NN k (p ++ r) p.length = some (sigF p r && decide ((p ++ r).length ≤ 40)) := by
  intro r
  induction r with
  | nil =>
    intro p k _ hk
    obtain ⟨k, rfl⟩ : ∃ j, k = j + 1 := ⟨k - 1, by omega⟩
    have e : decide ((p.length : Int) ≤ 40) = decide (p.length ≤ 40) := by congr 1; exact propext (by omega)
    simp [spec_AreSignals.l2, spec_AreSignals.g2, sigF, e]
  | cons m r ih =>
    intro p k hb hk
    simp only [List.length_cons] at hb hk
    obtain ⟨k, rfl⟩ : ∃ j, k = j + 1 := ⟨k - 1, by omega⟩
    have hl := mid_len p r m
    have c0 : (0 : Int) ≤ (p.length : Int) := by omega
    have c1 : (p.length : Int) < ((p ++ m :: r).length : Int) := by omega
    have cw := w64 (n := (p.length : Int) + 1) (by omega) (by omega)
    have i1 := ih (p ++ [m]) k (by simp; omega) (by omega)
    rw [mid_snoc, snoc_len] at i1
    simp only [spec_AreSignals.l2, spec_AreSignals.g2, c0, c1, cw, and_self, and_true, true_and, decide_true, decide_false, if_true, if_false, mid_get, mid_set, mid_getn, mid_setn, bt_mid, Option.bind_some, Bool.not_true, Bool.not_false, Bool.false_eq_true, Bool.true_eq_false, beq_self_eq_true, bne_self_eq_false, Int.toNat_natCast, spec_l01In_f]
    by_cases hm : sigB m = true
    rotate_left
    · have e : sigF p (m :: r) = false := by simp only [sigF]; cases q : sigB m; rfl; exact absurd q hm
      rw [e]
      unfold sigB at hm
      simp only [Bool.and_eq_true, Bool.not_eq_true', decide_eq_false_iff_not, not_and] at hm
      by_cases h1 : inB m.1 0 100000 = true
      · by_cases h3 : inB m.2 0 9 = true
        · have h4 : m.2 = 8 := by have := hm ⟨h1, h3⟩; omega
          simp [h1, h3, h4]
        · simp [h1, h3]
      · simp [h1]
    have hm' := hm
    unfold sigB at hm'
    simp only [Bool.and_eq_true, Bool.not_eq_true', decide_eq_false_iff_not] at hm'
    obtain ⟨⟨h1, h3⟩, h4⟩ := hm'
    have h4' : (m.2 == 8) = false := by simpa using h4
    simp only [h1, h3, h4', and_self, and_true, true_and, decide_true, decide_false, if_true, if_false, mid_get, mid_set, mid_getn, mid_setn, bt_mid, Option.bind_some, Bool.not_true, Bool.not_false, Bool.false_eq_true, Bool.true_eq_false, beq_self_eq_true, bne_self_eq_false, Int.toNat_natCast]
    rcases last_cases p with hp | ⟨q, y, hp⟩
    · have n1 : ¬ (0 : Int) < (p.length : Int) := by rw [hp]; simp
      have hpr : prevS p m.1 = true := by rw [hp]; rfl
      simp only [n1, and_self, and_true, true_and, decide_true, decide_false, if_true, if_false, mid_get, mid_set, mid_getn, mid_setn, bt_mid, Option.bind_some, Bool.not_true, Bool.not_false, Bool.false_eq_true, Bool.true_eq_false, beq_self_eq_true, bne_self_eq_false, Int.toNat_natCast, i1, sigF, hm, hpr, Bool.true_and]
    · have hpl : (p.length : Int) - 1 = (q.length : Int) := by rw [hp]; simp
      have n1 : (0 : Int) < (p.length : Int) := by rw [hp]; simp
      have w1 := w64 (n := (q.length : Int)) (by omega) (by omega)
      have q0 : (0 : Int) ≤ (q.length : Int) := by omega
      have q1 : (q.length : Int) < ((p ++ m :: r).length : Int) := by omega
      have g2 : ∀ z, (p ++ m :: r).getD q.length z = y := fun z => by rw [hp, List.append_assoc, List.singleton_append, mid_getn]
      have hpr : prevS p m.1 = !decide (m.1 < y.1) := by unfold prevS; rw [hp, last_snoc]
      simp only [n1, hpl, w1, q0, q1, g2, and_self, and_true, true_and, decide_true, decide_false, if_true, if_false, mid_get, mid_set, mid_getn, mid_setn, bt_mid, Option.bind_some, Bool.not_true, Bool.not_false, Bool.false_eq_true, Bool.true_eq_false, beq_self_eq_true, bne_self_eq_false, Int.toNat_natCast, i1, sigF, hm, hpr, Bool.true_and]
      by_cases e : m.1 < y.1 <;> simp [e]
theorem impl_AreSignals_f (xs : List Sig) (hl : xs.length ≤ 1000000) : impl_AreSignals.f xs = some (sigsB xs) := by
  unfold impl_AreSignals.f impl_AreSignals.fn impl_AreSignals.top sigsB
  have := impl_AreSignals_l xs [] NN (by simpa using hl) (NN_lt (by omega))
  rw [List.nil_append] at this
  by_cases h8 : (40 : Int) < (xs.length : Int)
  · have : ¬ xs.length ≤ 40 := by omega
    simp [h8, this]
  · have e8 : xs.length ≤ 40 := by omega
    simp only [h8, e8, and_self, and_true, true_and, decide_true, decide_false, if_true, if_false, mid_get, mid_set, mid_getn, mid_setn, bt_mid, Option.bind_some, Bool.not_true, Bool.not_false, Bool.false_eq_true, Bool.true_eq_false, beq_self_eq_true, bne_self_eq_false, Int.toNat_natCast, Bool.true_and]
    exact this
theorem spec_AreSignals_f (xs : List Sig) (hl : xs.length ≤ 1000000) : spec_AreSignals.f xs = some (sigsB xs) := by
  unfold spec_AreSignals.f spec_AreSignals.fn spec_AreSignals.top sigsB
  have := spec_AreSignals_l xs [] NN (by simpa using hl) (NN_lt (by omega))
  rw [List.nil_append] at this
  rw [Bool.and_comm]
  exact this
abbrev Dsk := List Mov × List Sig × List (Int × ByteArray × Int)
def deskB (d : Dsk) : Bool := movesB d.1 && (sigsB d.2.1 && booksB d.2.2)
end Go.Pl

namespace Go.Pl
open Go.Ev
set_option linter.unusedVariables false
set_option linter.unusedSimpArgs false
abbrev Ctl := Bool × Bool × Bool × Bool × Bool × Int
def giveC : Ctl → Int → Option Ctl
  | (a, b, r, h, s, d), i =>
    if i = 0 then some (if a = true then (false, b, false, false, s, d) else (true, b, r, h, s, d))
    else if i = 1 then some (if b = true then (a, false, false, false, s, d) else (a, true, r, h, s, d))
    else if i = 2 then (if (a && b && !s) = true then some (a, b, true, false, s, 0) else none)
    else if i = 3 then some (a, b, false, false, s, d)
    else if i = 4 then (if (r && !h) = true then some (a, b, r, true, s, d) else none)
    else if i = 5 then (if h = true then some (a, b, r, false, s, d) else none)
    else if i = 6 then some (a, b, false, false, true, d)
    else if i = 7 then some (a, b, r, h, s, 0)
    else if i = 8 then some (if 3 < d + 1 then (a, b, false, false, s, 4) else (a, b, r, h, s, d + 1))
    else (if (s && !a && !b) = true then some (a, b, r, h, false, d) else none)
def tkC : Ctl → Ctl
  | (a, b, r, h, s, d) => if 3 < d + 1 then (a, b, false, false, s, 4) else (a, b, r, h, s, d + 1)
theorem give_tk (c : Ctl) : giveC c 8 = some (tkC c) := rfl
def giveB (c : Ctl) (i : Int) : Ctl := (giveC c i).getD c
def DeadOk (c : Ctl) : Prop := 0 ≤ c.2.2.2.2.2 ∧ c.2.2.2.2.2 ≤ 4
def mayC (c : Ctl) : Bool := c.2.2.1 && !c.2.2.2.1
theorem tk_dead {c : Ctl} (h : DeadOk c) : DeadOk (tkC c) := by
  obtain ⟨a, b, r, e, s, d⟩ := c
  unfold DeadOk at h ⊢
  simp only at h
  simp only [tkC]
  by_cases h3 : 3 < d + 1
  · rw [if_pos h3]; simp
  · rw [if_neg h3]; simp only; omega
theorem give_dead {c : Ctl} (h : DeadOk c) (i : Int) : DeadOk (giveB c i) := by
  obtain ⟨a, b, r, e, s, d⟩ := c
  unfold DeadOk at h ⊢
  simp only at h
  unfold giveB giveC
  simp only
  repeat' split
  all_goals simp only [Option.getD_some, Option.getD_none]
  all_goals omega
def tkN : Nat → Ctl → Ctl
  | 0, c => c
  | n + 1, c => tkN n (tkC c)
theorem tkN_add : ∀ (m n : Nat) (c : Ctl), tkN (m + n) c = tkN n (tkN m c) := by
  intro m
  induction m with
  | zero => intro n c; rw [Nat.zero_add]; rfl
  | succ m ih => intro n c; rw [Nat.succ_add]; exact ih n (tkC c)
theorem tkN_dead : ∀ (n : Nat) {c : Ctl}, DeadOk c → DeadOk (tkN n c) := by
  intro n
  induction n with
  | zero => intro c h; exact h
  | succ n ih => intro c h; exact ih (tk_dead h)
theorem tk4 {a b r e s : Bool} {d : Int} (h0 : 0 ≤ d) (h1 : d ≤ 4) : tkN 4 (a, b, r, e, s, d) = (a, b, false, false, s, 4) := by
  have : d = 0 ∨ d = 1 ∨ d = 2 ∨ d = 3 ∨ d = 4 := by omega
  rcases this with rfl | rfl | rfl | rfl | rfl <;> rfl
theorem tk_off (a b s : Bool) : ∀ n : Nat, tkN n (a, b, false, false, s, 4) = (a, b, false, false, s, 4) := by
  intro n
  induction n with
  | zero => rfl
  | succ n ih => exact ih
theorem tkN_min {c : Ctl} (h : DeadOk c) (n : Nat) : tkN (min n 5) c = tkN n c := by
  by_cases hn : n ≤ 5
  · rw [Nat.min_eq_left hn]
  · obtain ⟨a, b, r, e, s, d⟩ := c
    rw [Nat.min_eq_right (by omega), show n = 4 + (n - 4) by omega, tkN_add, tk4 h.1 h.2, tk_off, show (5 : Nat) = 4 + 1 from rfl, tkN_add, tk4 h.1 h.2, tk_off]
def SrtF : Int → List Sig → Prop
  | _, [] => True
  | t, x :: r => t ≤ x.1 ∧ SrtF x.1 r
def atR : List Sig → Ctl → Int → Int → Ctl
  | [], c, now, t => tkN (t - now).toNat c
  | x :: r, c, now, t => if x.1 ≤ t then atR r (giveB (tkN (x.1 - now).toNat c) x.2) x.1 t else tkN (t - now).toNat c
theorem atR_step {l : List Sig} {T t : Int} (c : Ctl) (h : SrtF (T + 1) l) (ht : T + 1 ≤ t) : atR l c T t = atR l (tkC c) (T + 1) t := by
  have key : ∀ u : Int, T + 1 ≤ u → tkN (u - T).toNat c = tkN (u - (T + 1)).toNat (tkC c) := by
    intro u hu
    rw [show (u - T).toNat = (u - (T + 1)).toNat + 1 by omega]; rfl
  cases l with
  | nil => exact key t ht
  | cons x r => simp only [atR]; rw [key t ht, key x.1 h.1]
theorem atR_give (T i : Int) (r : List Sig) (c : Ctl) {t : Int} (ht : T ≤ t) : atR ((T, i) :: r) c T t = atR r (giveB c i) T t := by
  simp only [atR, ht, if_true]
  rw [show (T - T).toNat = 0 by omega]; rfl
theorem atR_now {l : List Sig} {T : Int} (c : Ctl) (h : SrtF (T + 1) l) : atR l c T T = c := by
  have h0 : (T - T).toNat = 0 := by omega
  cases l with
  | nil => simp only [atR, h0]; rfl
  | cons x r =>
    have : ¬ x.1 ≤ T := by have := h.1; omega
    simp only [atR, this, if_false, h0]; rfl
def ctlAt (l : List Sig) (t : Int) : Ctl := atR l (false, false, false, false, false, 0) 0 t
theorem sigF_srt : ∀ {r p : List Sig} {t : Int}, sigF p r = true → (∀ y, p.getLast? = some y → t ≤ y.1) → (p = [] → ∀ y r', r = y :: r' → t ≤ y.1) → SrtF t r := by
  intro r
  induction r with
  | nil => intro p t _ _ _; trivial
  | cons x r ih =>
    intro p t h hp hn
    simp only [sigF, Bool.and_eq_true] at h
    have hx : t ≤ x.1 := by
      rcases last_cases p with e | ⟨q, y, e⟩
      · exact hn e x r rfl
      · have h1 := h.2.1
        unfold prevS at h1
        rw [e, last_snoc] at h1
        simp only [Bool.not_eq_true', decide_eq_false_iff_not] at h1
        have := hp y (by rw [e, last_snoc])
        omega
    refine ⟨hx, ih h.2.2 (fun y hy => ?_) (fun e => absurd e (by simp))⟩
    rw [last_snoc] at hy
    rw [← Option.some.inj hy]; omega
theorem sigF_mem : ∀ {r p : List Sig}, sigF p r = true → ∀ m ∈ r, sigB m = true := by
  intro r
  induction r with
  | nil => intro p _ m hm; cases hm
  | cons x r ih =>
    intro p h m hm
    simp only [sigF, Bool.and_eq_true] at h
    rcases List.mem_cons.1 hm with rfl | hm
    · exact h.1
    · exact ih h.2.2 m hm
theorem sigsB_iff {l : List Sig} (h : sigsB l = true) : l.length ≤ 40 ∧ SrtF 0 l ∧ ∀ m ∈ l, (0 ≤ m.1 ∧ m.1 ≤ 100000) ∧ (0 ≤ m.2 ∧ m.2 ≤ 9) ∧ m.2 ≠ 8 := by
  unfold sigsB at h
  simp only [Bool.and_eq_true, decide_eq_true_eq] at h
  have hm := sigF_mem h.2
  have hk : ∀ m ∈ l, (0 ≤ m.1 ∧ m.1 ≤ 100000) ∧ (0 ≤ m.2 ∧ m.2 ≤ 9) ∧ m.2 ≠ 8 := fun m h1 => by
    have := hm m h1
    unfold sigB at this
    simp only [Bool.and_eq_true, inB_iff, Bool.not_eq_true', decide_eq_false_iff_not] at this
    exact ⟨this.1.1, this.1.2, this.2⟩
  refine ⟨h.1, sigF_srt h.2 (fun y hy => by simp at hy) (fun _ y r' e => ?_), hk⟩
  exact (hk y (by rw [e]; simp)).1.1
def addZ (z : ByteArray) (t s : Int) (m : Mov) : Int := if m.2.1 = z ∧ m.1 ≤ t then s + m.2.2 else s
def peopT (xs : List Mov) (z : ByteArray) (t : Int) : Int := xs.foldl (addZ z t) 0
def nearB (z : ByteArray) (t : Int) (m : Mov) : Bool := decide (m.2.1 = z) && (decide (m.1 ≤ t) && decide (t - m.1 < 30000))
def clrB (xs : List Mov) (z : ByteArray) (t : Int) : Bool := xs.all (fun m => !nearB z t m) && decide (peopT xs z t = 0)
def upN (t : Int) : List Mov → Nat
  | [] => 0
  | m :: r => if m.1 ≤ t then upN t r + 1 else 0
theorem upN_le (t : Int) : ∀ xs : List Mov, upN t xs ≤ xs.length := by
  intro xs
  induction xs with
  | nil => simp [upN]
  | cons m r ih => simp only [upN, List.length_cons]; split <;> omega
def SrtM (xs : List Mov) : Prop := xs.Pairwise fun a b => a.1 ≤ b.1
theorem upN_split (t : Int) : ∀ (xs : List Mov), SrtM xs → (∀ m ∈ xs.take (upN t xs), m.1 ≤ t) ∧ ∀ m ∈ xs.drop (upN t xs), t < m.1 := by
  intro xs
  induction xs with
  | nil => intro _; simp
  | cons m r ih =>
    intro h
    have h' := List.pairwise_cons.1 h
    have i := ih h'.2
    by_cases hm : m.1 ≤ t
    · simp only [upN, hm, if_true, List.take_succ_cons, List.drop_succ_cons]
      refine ⟨fun x hx => ?_, i.2⟩
      rcases List.mem_cons.1 hx with rfl | hx
      · exact hm
      · exact i.1 x hx
    · simp only [upN, hm, if_false, List.take_zero, List.drop_zero]
      refine ⟨by simp, fun x hx => ?_⟩
      rcases List.mem_cons.1 hx with rfl | hx
      · omega
      · have := h'.1 x hx; omega
theorem addZ_in (z : ByteArray) (t : Int) : ∀ (xs : List Mov) (s : Int), (∀ m ∈ xs, m.1 ≤ t) → xs.foldl (addZ z t) s = xs.foldl (addP z) s := by
  intro xs
  induction xs with
  | nil => intro s _; rfl
  | cons m r ih =>
    intro s h
    have := h m (by simp)
    simp only [List.foldl_cons]
    rw [show addZ z t s m = addP z s m by unfold addZ addP; simp [this]]
    exact ih _ (fun x hx => h x (by simp [hx]))
theorem addZ_out (z : ByteArray) (t : Int) : ∀ (xs : List Mov) (s : Int), (∀ m ∈ xs, t < m.1) → xs.foldl (addZ z t) s = s := by
  intro xs
  induction xs with
  | nil => intro s _; rfl
  | cons m r ih =>
    intro s h
    have := h m (by simp)
    have n : ¬ m.1 ≤ t := by omega
    simp only [List.foldl_cons]
    rw [show addZ z t s m = s by unfold addZ; simp [n]]
    exact ih _ (fun x hx => h x (by simp [hx]))
theorem peopT_up {xs : List Mov} (h : SrtM xs) (z : ByteArray) (t : Int) : peopT xs z t = peopS (xs.take (upN t xs)) z := by
  obtain ⟨h1, h2⟩ := upN_split t xs h
  unfold peopT peopS
  conv => lhs; rw [← List.take_append_drop (upN t xs) xs]
  rw [List.foldl_append, addZ_in z t _ _ h1, addZ_out z t _ _ h2]
theorem near_up {xs : List Mov} (h : SrtM xs) (z : ByteArray) (t : Int) : xs.all (fun m => !nearB z t m) = (xs.take (upN t xs)).all (fun m => !(decide (m.2.1 = z) && decide (t < m.1 + 30000))) := by
  obtain ⟨h1, h2⟩ := upN_split t xs h
  conv => lhs; rw [← List.take_append_drop (upN t xs) xs]
  rw [List.all_append]
  have e2 : (xs.drop (upN t xs)).all (fun m => !nearB z t m) = true := by
    rw [List.all_eq_true]
    intro m hm
    have n : ¬ m.1 ≤ t := by have := h2 m hm; omega
    simp [nearB, n]
  rw [e2, Bool.and_true, Bool.eq_iff_iff, List.all_eq_true, List.all_eq_true]
  refine forall_congr' fun m => forall_congr' fun hm => ?_
  have a1 := h1 m hm
  have e : decide (t - m.1 < 30000) = decide (t < m.1 + 30000) := by congr 1; exact propext (by omega)
  unfold nearB
  rw [e, decide_eq_true a1, Bool.true_and]
theorem movF_srt : ∀ {r p : List Mov}, MvI p → SrtM p → movF p r = true → SrtM (p ++ r) ∧ ∀ m ∈ r, movB m = true := by
  intro r
  induction r with
  | nil => intro p _ hs _; rw [List.append_nil]; exact ⟨hs, fun m hm => by cases hm⟩
  | cons m r ih =>
    intro p hI hs h
    simp only [movF, Bool.and_eq_true] at h
    obtain ⟨j1, j2⟩ := mvi_snoc hI h.1 h.2.1
    have hs' : SrtM (p ++ [m]) := by
      unfold SrtM
      rw [List.pairwise_append]
      refine ⟨hs, by simp, fun a ha b hb => ?_⟩
      rw [List.mem_singleton.1 hb]; exact j2 a (by simp [ha])
    have i := ih j1 hs' h.2.2.2
    rw [List.append_assoc, List.singleton_append] at i
    refine ⟨i.1, fun x hx => ?_⟩
    rcases List.mem_cons.1 hx with rfl | hx
    · exact h.1
    · exact i.2 x hx
theorem movesB_iff {xs : List Mov} (h : movesB xs = true) : xs.length ≤ 40 ∧ SrtM xs ∧ ∀ m ∈ xs, movB m = true := by
  unfold movesB at h
  simp only [Bool.and_eq_true, decide_eq_true_eq] at h
  have := movF_srt mvi_nil (by simp [SrtM]) h.2
  rw [List.nil_append] at this
  exact ⟨h.1, this⟩
end Go.Pl

namespace Go.Pl
open Go.Ev
set_option linter.unusedVariables false
set_option linter.unusedSimpArgs false
theorem impl_giveInput_f (c : Ctl) (i : Int) (h : DeadOk c) (h0 : 0 ≤ i ∧ i ≤ 9) : impl_giveInput.f c i = some (match giveC c i with | some y => (y, 0) | none => ((false, false, false, false, false, 0), 5)) := by
  obtain ⟨a, b, r, e, s, d⟩ := c
  have hd : 0 ≤ d ∧ d ≤ 4 := h
  have w := w64 (n := d + 1) (by omega) (by omega)
  have hi : i = 0 ∨ i = 1 ∨ i = 2 ∨ i = 3 ∨ i = 4 ∨ i = 5 ∨ i = 6 ∨ i = 7 ∨ i = 8 ∨ i = 9 := by omega
  unfold impl_giveInput.f impl_giveInput.fn impl_giveInput.top impl_safe.f impl_safe.fn impl_safe.top giveC
  rcases hi with rfl | rfl | rfl | rfl | rfl | rfl | rfl | rfl | rfl | rfl
  case inr.inr.inr.inr.inr.inr.inr.inr.inl =>
    simp only [w]
    by_cases h3 : 3 < d + 1
    · have h4 : d + 1 = 4 ∨ d + 1 = 5 := by omega
      rcases h4 with h4 | h4 <;> simp [h4]
    · have h4 : ¬ 4 < d + 1 := by omega
      simp [h3, h4]
  all_goals cases a <;> cases b <;> cases r <;> cases e <;> cases s <;> rfl
theorem spec_l21Give_f (c : Ctl) (i : Int) (h : DeadOk c) (h0 : 0 ≤ i ∧ i ≤ 9) : ∃ y : Ctl × Bool, spec_l21Give.f c i = some y ∧ y.2 = (giveC c i).isSome ∧ y.1 = giveB c i := by
  obtain ⟨a, b, r, e, s, d⟩ := c
  have hd : 0 ≤ d ∧ d ≤ 4 := h
  have w := w64 (n := d + 1) (by omega) (by omega)
  have hi : i = 0 ∨ i = 1 ∨ i = 2 ∨ i = 3 ∨ i = 4 ∨ i = 5 ∨ i = 6 ∨ i = 7 ∨ i = 8 ∨ i = 9 := by omega
  unfold spec_l21Give.f spec_l21Give.fn spec_l21Give.top spec_l21Off.f spec_l21Off.fn spec_l21Off.top giveB giveC
  rcases hi with rfl | rfl | rfl | rfl | rfl | rfl | rfl | rfl | rfl | rfl
  case inr.inr.inr.inr.inr.inr.inr.inr.inl =>
    simp only [w]
    have hd5 : d = 0 ∨ d = 1 ∨ d = 2 ∨ d = 3 ∨ d = 4 := by omega
    rcases hd5 with rfl | rfl | rfl | rfl | rfl <;> exact ⟨_, rfl, rfl, rfl⟩
  all_goals cases a <;> cases b <;> cases r <;> cases e <;> cases s <;> exact ⟨_, rfl, rfl, rfl⟩
theorem impl_mayFire_f (c : Ctl) : impl_mayFire.f c = some (mayC c) := by
  obtain ⟨a, b, r, e, s, d⟩ := c
  cases r <;> rfl
theorem spec_l22Ticks_l (a1 a2 a3 a4 a5 : Bool) (a6 : Int) : ∀ (n : Nat) (c : Ctl) (k : Nat), DeadOk c → n ≤ 1000 → n < k → spec_l22Ticks.l2 NN k n c a1 a2 a3 a4 a5 a6 = some (tkN n c) := by
  intro n
  induction n with
  | zero =>
    intro c k _ _ hk
    obtain ⟨k, rfl⟩ : ∃ j, k = j + 1 := ⟨k - 1, by omega⟩
    simp [spec_l22Ticks.l2, spec_l22Ticks.g2, tkN]
  | succ n ih =>
    intro c k hc hn hk
    obtain ⟨k, rfl⟩ : ∃ j, k = j + 1 := ⟨k - 1, by omega⟩
    obtain ⟨y, e1, e2, e3⟩ := spec_l21Give_f c 8 hc (by omega)
    have c0 : (0 : Int) < ((n + 1 : Nat) : Int) := by omega
    have w := w64 (n := ((n + 1 : Nat) : Int) - 1) (by omega) (by omega)
    have e4 : giveB c 8 = tkC c := rfl
    rw [e4] at e3
    simp only [spec_l22Ticks.l2, spec_l22Ticks.g2, c0, w, e1, e3, and_self, and_true, true_and, decide_true, decide_false, if_true, if_false, mid_get, mid_set, mid_getn, mid_setn, bt_mid, Option.bind_some, Bool.not_true, Bool.not_false, Bool.false_eq_true, Bool.true_eq_false, beq_self_eq_true, bne_self_eq_false, Int.toNat_natCast]
    rw [show ((n + 1 : Nat) : Int) - 1 = (n : Int) by omega]
    exact ih _ k (tk_dead hc) (by omega) (by omega)
theorem spec_l22Ticks_f (c : Ctl) {n : Int} (hc : DeadOk c) (h0 : 0 ≤ n) : spec_l22Ticks.f c n = some (tkN n.toNat c) := by
  unfold spec_l22Ticks.f spec_l22Ticks.fn spec_l22Ticks.top
  have e : (if 5 < n then 5 else n) = ((min n.toNat 5 : Nat) : Int) := by split <;> omega
  rw [e, spec_l22Ticks_l _ _ _ _ _ _ _ _ _ hc (by omega) (NN_lt (by omega)), tkN_min hc]
theorem spec_l22At_l (t : Int) (ht : 0 ≤ t ∧ t ≤ 1000000) (a1 a2 a3 a4 a5 : Bool) (a6 : Int) : ∀ (r p : List Sig) (now : Int) (c : Ctl) (ref : List Int) (k : Nat), p.length + r.length ≤ 1000000 → r.length < k → DeadOk c → 0 ≤ now → now ≤ t → SrtF now r → (∀ m ∈ r, (0 ≤ m.1 ∧ m.1 ≤ 100000) ∧ (0 ≤ m.2 ∧ m.2 ≤ 9)) → ref.length ≤ p.length →
    ∃ q, spec_l22At.l4 NN k (p ++ r) t now p.length a1 a2 a3 a4 a5 a6 c ref = some (atR r c now t, q) := by
  intro r
  induction r with
  | nil =>
    intro p now c ref k _ hk hc hn hnt _ _ _
    obtain ⟨k, rfl⟩ : ∃ j, k = j + 1 := ⟨k - 1, by omega⟩
    have w := w64 (n := t - now) (by omega) (by omega)
    refine ⟨ref, ?_⟩
    simp only [List.append_nil, spec_l22At.l4, spec_l22At.g4, Int.lt_irrefl, w, and_self, and_true, true_and, decide_true, decide_false, if_true, if_false, mid_get, mid_set, mid_getn, mid_setn, bt_mid, Option.bind_some, Bool.not_true, Bool.not_false, Bool.false_eq_true, Bool.true_eq_false, beq_self_eq_true, bne_self_eq_false, Int.toNat_natCast]
    rw [spec_l22Ticks_f c hc (by omega)]; rfl
  | cons m r ih =>
    intro p now c ref k hl hk hc hn hnt hs hm hr
    simp only [List.length_cons] at hl hk
    obtain ⟨k, rfl⟩ : ∃ j, k = j + 1 := ⟨k - 1, by omega⟩
    have hmm := hm m (by simp)
    have hln := mid_len p r m
    have c0 : (0 : Int) ≤ (p.length : Int) := by omega
    have c1 : (p.length : Int) < ((p ++ m :: r).length : Int) := by omega
    have cw := w64 (n := (p.length : Int) + 1) (by omega) (by omega)
    have w := w64 (n := t - now) (by omega) (by omega)
    have w2 := w64 (n := m.1 - now) (by omega) (by omega)
    have hs1 := hs.1
    by_cases h : m.1 ≤ t
    · have hd := tkN_dead (m.1 - now).toNat hc
      obtain ⟨y, e1, e2, e3⟩ := spec_l21Give_f (tkN (m.1 - now).toNat c) m.2 hd hmm.2
      have st : ∀ ref' : List Int, ref'.length ≤ (p ++ [m]).length → ∃ q, spec_l22At.l4 NN k (p ++ m :: r) t m.1 ((p.length : Int) + 1) a1 a2 a3 a4 a5 a6 (giveB (tkN (m.1 - now).toNat c) m.2) ref' = some (atR r (giveB (tkN (m.1 - now).toNat c) m.2) m.1 t, q) := by
        intro ref' hr'
        have i := ih (p ++ [m]) m.1 (giveB (tkN (m.1 - now).toNat c) m.2) ref' k (by simp; omega) (by omega) (give_dead hd _) (by omega) h hs.2 (fun x hx => hm x (by simp [hx])) hr'
        rwa [mid_snoc, snoc_len] at i
      simp only [spec_l22At.l4, spec_l22At.g4, c0, c1, cw, w2, h, and_self, and_true, true_and, decide_true, decide_false, if_true, if_false, mid_get, mid_set, mid_getn, mid_setn, bt_mid, Option.bind_some, Bool.not_true, Bool.not_false, Bool.false_eq_true, Bool.true_eq_false, beq_self_eq_true, bne_self_eq_false, Int.toNat_natCast, atR]
      rw [spec_l22Ticks_f c hc (by omega)]
      simp only [Option.bind_some, e1]
      by_cases hy : y.2 = true
      · rw [if_pos hy, e3]
        exact st ref (by simp; omega)
      · rw [if_neg hy]
        have hg : giveB (tkN (m.1 - now).toNat c) m.2 = tkN (m.1 - now).toNat c := by
          unfold giveB
          rw [e2] at hy
          cases hq : giveC (tkN (m.1 - now).toNat c) m.2 with
          | none => rfl
          | some z => rw [hq] at hy; simp at hy
        have i := st (ref ++ [(p.length : Int)]) (by simp; omega)
        rw [hg] at i ⊢
        rw [if_pos (by rw [room8]; simp; omega)]
        exact i
    · refine ⟨ref, ?_⟩
      simp only [spec_l22At.l4, spec_l22At.g4, c0, c1, w, h, and_self, and_true, true_and, decide_true, decide_false, if_true, if_false, mid_get, mid_set, mid_getn, mid_setn, bt_mid, Option.bind_some, Bool.not_true, Bool.not_false, Bool.false_eq_true, Bool.true_eq_false, beq_self_eq_true, bne_self_eq_false, Int.toNat_natCast, atR]
      rw [spec_l22Ticks_f c hc (by omega)]; rfl
theorem ctl0_dead : DeadOk ((false, false, false, false, false, 0) : Ctl) := by simp [DeadOk]
theorem spec_l22At_f {l : List Sig} (h : sigsB l = true) {t : Int} (ht : 0 ≤ t ∧ t ≤ 1000000) : ∃ q, spec_l22At.f l t = some (ctlAt l t, q) := by
  obtain ⟨h1, h2, h3⟩ := sigsB_iff h
  have := spec_l22At_l t ht false false false false false 0 l [] 0 (false, false, false, false, false, 0) [] NN (by simp; omega) (NN_lt (by omega)) ctl0_dead (by omega) ht.1 h2 (fun m hm => ⟨(h3 m hm).1, (h3 m hm).2.1⟩) (by simp)
  exact this
theorem impl_peopleIn_t (xs : List Mov) (z : ByteArray) (t : Int) (h : ∀ m ∈ xs, movB m = true) (hl : xs.length ≤ 1000000) : impl_peopleIn.f xs z t = some (peopT xs z t) := by
  have := (fold_fix (E := fun m : Mov => movB m = true) (fun p st => -(1000 * (p.length : Int)) ≤ st ∧ st ≤ 1000 * (p.length : Int)) (fun _ => addZ z t) (fun st => some st) (fun k i st => impl_peopleIn.l3 NN k z t st xs xs.length i) xs ?_ ?_ 0 h (by simp) (by omega) NN (NN_lt (by omega))).2
  · rw [foldi_foldl] at this
    exact this
  · intro k st _
    simp [impl_peopleIn.l3, impl_peopleIn.g3]
  · intro k p m r st hx hm hI c0 c1 c2 cw g
    have hb := movB_iff hm
    have hp : p.length ≤ 1000000 := by omega
    have w1 := w64 (n := st + m.2.2) (by omega) (by omega)
    refine ⟨by unfold addZ; rw [List.length_append, List.length_singleton]; split <;> omega, ?_⟩
    simp only [impl_peopleIn.l3, impl_peopleIn.g3, c0, c1, cw, and_self, and_true, true_and, decide_true, decide_false, if_true, if_false, mid_get, mid_set, mid_getn, mid_setn, bt_mid, Option.bind_some, Bool.not_true, Bool.not_false, Bool.false_eq_true, Bool.true_eq_false, beq_self_eq_true, bne_self_eq_false, Int.toNat_natCast, g, ba_beq, w1]
    unfold addZ
    by_cases e : m.2.1 = z <;> by_cases q : m.1 ≤ t <;> simp [e, q]
theorem impl_isClear_f (xs : List Mov) (z : ByteArray) {t : Int} (ht : 0 ≤ t ∧ t ≤ 1000000000) (h : ∀ m ∈ xs, movB m = true) (hl : xs.length ≤ 1000000) : impl_isClear.f xs z t = some (clrB xs z t) := by
  have := all_loop (E := fun m : Mov => movB m = true) (fun m => !nearB z t m) (fun v => some (decide (peopT xs z t = 0))) (fun k v i => impl_isClear.l2 NN k xs z t v v.length i) ?_ ?_ xs h (by omega) NN (NN_lt (by omega))
  · unfold impl_isClear.f impl_isClear.fn impl_isClear.top clrB
    rw [this]
    cases xs.all (fun m => !nearB z t m) <;> rfl
  · intro k p
    simp only [impl_isClear.l2, impl_isClear.g2, Int.lt_irrefl, and_self, and_true, true_and, decide_true, decide_false, if_true, if_false, mid_get, mid_set, mid_getn, mid_setn, bt_mid, Option.bind_some, Bool.not_true, Bool.not_false, Bool.false_eq_true, Bool.true_eq_false, beq_self_eq_true, bne_self_eq_false, Int.toNat_natCast]
    rw [impl_peopleIn_t xs z t h hl]
    rfl
  · intro k p m r hm c0 c1 cw
    have hb := movB_iff hm
    have w1 := w64 (n := t - m.1) (by omega) (by omega)
    simp only [impl_isClear.l2, impl_isClear.g2, c0, c1, cw, and_self, and_true, true_and, decide_true, decide_false, if_true, if_false, mid_get, mid_set, mid_getn, mid_setn, bt_mid, Option.bind_some, Bool.not_true, Bool.not_false, Bool.false_eq_true, Bool.true_eq_false, beq_self_eq_true, bne_self_eq_false, Int.toNat_natCast, w1, ba_beq, nearB]
    by_cases e : m.2.1 = z <;> by_cases q : m.1 ≤ t <;> by_cases q2 : t - m.1 < 30000 <;> simp [e, q, q2]
theorem impl_areAllClear_f (xs : List Mov) (zs : List ByteArray) {t : Int} (ht : 0 ≤ t ∧ t ≤ 1000000000) (h : ∀ m ∈ xs, movB m = true) (hl : xs.length ≤ 1000000) (hz : zs.length ≤ 1000000) : impl_areAllClear.f xs zs t = some (zs.all (clrB xs · t)) := by
  have := all_loop (E := fun _ : ByteArray => True) (clrB xs · t) (fun v => some true) (fun k v i => impl_areAllClear.l2 NN k xs t v v.length i) ?_ ?_ zs (fun _ _ => trivial) (by omega) NN (NN_lt (by omega))
  · unfold impl_areAllClear.f impl_areAllClear.fn impl_areAllClear.top
    rw [this]
    cases zs.all (clrB xs · t) <;> rfl
  · intro k p
    simp [impl_areAllClear.l2, impl_areAllClear.g2]
  · intro k p z r _ c0 c1 cw
    simp only [impl_areAllClear.l2, impl_areAllClear.g2, c0, c1, cw, and_self, and_true, true_and, decide_true, decide_false, if_true, if_false, mid_get, mid_set, mid_getn, mid_setn, bt_mid, Option.bind_some, Bool.not_true, Bool.not_false, Bool.false_eq_true, Bool.true_eq_false, beq_self_eq_true, bne_self_eq_false, Int.toNat_natCast]
    rw [impl_isClear_f xs z ht h hl]
    cases clrB xs z t <;> rfl
theorem spec_l20Upto_l (t : Int) : ∀ (r p : List Mov) (k : Nat), p.length + r.length ≤ 1000000 → r.length < k → spec_l20Upto.l2 NN k (p ++ r) t p.length = some ((p.length + upN t r : Nat) : Int) := by
  intro r
  induction r with
  | nil =>
    intro p k _ hk
    obtain ⟨k, rfl⟩ : ∃ j, k = j + 1 := ⟨k - 1, by omega⟩
    simp [spec_l20Upto.l2, spec_l20Upto.g2, upN]
  | cons m r ih =>
    intro p k hl hk
    simp only [List.length_cons] at hl hk
    obtain ⟨k, rfl⟩ : ∃ j, k = j + 1 := ⟨k - 1, by omega⟩
    have hln := mid_len p r m
    have c0 : (0 : Int) ≤ (p.length : Int) := by omega
    have c1 : (p.length : Int) < ((p ++ m :: r).length : Int) := by omega
    have cw := w64 (n := (p.length : Int) + 1) (by omega) (by omega)
    have i := ih (p ++ [m]) k (by simp; omega) (by omega)
    rw [mid_snoc, snoc_len] at i
    by_cases h : m.1 ≤ t
    · simp only [spec_l20Upto.l2, spec_l20Upto.g2, c0, c1, cw, h, and_self, and_true, true_and, decide_true, decide_false, if_true, if_false, mid_get, mid_set, mid_getn, mid_setn, bt_mid, Option.bind_some, Bool.not_true, Bool.not_false, Bool.false_eq_true, Bool.true_eq_false, beq_self_eq_true, bne_self_eq_false, Int.toNat_natCast, i, upN]
      congr 1
      simp only [List.length_append, List.length_singleton]; omega
    · simp only [spec_l20Upto.l2, spec_l20Upto.g2, c0, c1, cw, h, and_self, and_true, true_and, decide_true, decide_false, if_true, if_false, mid_get, mid_set, mid_getn, mid_setn, bt_mid, Option.bind_some, Bool.not_true, Bool.not_false, Bool.false_eq_true, Bool.true_eq_false, beq_self_eq_true, bne_self_eq_false, Int.toNat_natCast, upN]
      rfl
theorem spec_l20Upto_f (xs : List Mov) (t : Int) (hl : xs.length ≤ 1000000) : spec_l20Upto.f xs t = some (upN t xs : Int) := by
  have := spec_l20Upto_l t xs [] NN (by simpa using hl) (NN_lt (by omega))
  rw [List.nil_append] at this
  unfold spec_l20Upto.f spec_l20Upto.fn spec_l20Upto.top
  refine this.trans ?_
  simp
theorem spec_l20Clear_l (z : ByteArray) (t : Int) (ht : 0 ≤ t ∧ t ≤ 1000000000) (rest : List Mov) (n : Nat) (v : Int) : ∀ (r p : List Mov) (k : Nat), p.length + r.length = n → (∀ m ∈ r, movB m = true) → spec_l20People.f (p ++ (r ++ rest)) z n = some v → n ≤ 1000000 → r.length < k → spec_l20Clear.l3 NN k (p ++ (r ++ rest)) z t n p.length = if r.all (fun m => !(decide (m.2.1 = z) && decide (t < m.1 + 30000))) = true then some (decide (v = 0)) else some false := by
  intro r
  induction r with
  | nil =>
    intro p k hn _ hv _ hk
    obtain ⟨k, rfl⟩ : ∃ j, k = j + 1 := ⟨k - 1, by omega⟩
    have c1 : ¬ (p.length : Int) < (n : Int) := by simp at hn; omega
    rw [List.nil_append] at hv ⊢
    simp only [spec_l20Clear.l3, spec_l20Clear.g3, c1, and_self, and_true, true_and, decide_true, decide_false, if_true, if_false, mid_get, mid_set, mid_getn, mid_setn, bt_mid, Option.bind_some, Bool.not_true, Bool.not_false, Bool.false_eq_true, Bool.true_eq_false, beq_self_eq_true, bne_self_eq_false, Int.toNat_natCast, hv, List.all_nil]
    rfl
  | cons m r ih =>
    intro p k hn hm hv hl hk
    simp only [List.length_cons] at hn hk
    obtain ⟨k, rfl⟩ : ∃ j, k = j + 1 := ⟨k - 1, by omega⟩
    rw [List.cons_append] at hv ⊢
    have hln := mid_len p (r ++ rest) m
    have hb := movB_iff (hm m (by simp))
    have c0 : (0 : Int) ≤ (p.length : Int) := by omega
    have c1 : (p.length : Int) < ((p ++ m :: (r ++ rest)).length : Int) := by omega
    have c2 : (p.length : Int) < (n : Int) := by omega
    have cw := w64 (n := (p.length : Int) + 1) (by omega) (by omega)
    have w1 := w64 (n := m.1 + 30000) (by omega) (by omega)
    have i := ih (p ++ [m]) k (by simp; omega) (fun x hx => hm x (by simp [hx])) (by rw [mid_snoc]; exact hv) hl (by omega)
    rw [mid_snoc, snoc_len] at i
    simp only [spec_l20Clear.l3, spec_l20Clear.g3, c0, c1, c2, cw, and_self, and_true, true_and, decide_true, decide_false, if_true, if_false, mid_get, mid_set, mid_getn, mid_setn, bt_mid, Option.bind_some, Bool.not_true, Bool.not_false, Bool.false_eq_true, Bool.true_eq_false, beq_self_eq_true, bne_self_eq_false, Int.toNat_natCast, w1, ba_beq, List.all_cons]
    by_cases e : m.2.1 = z
    · by_cases q : t < m.1 + 30000
      · simp [e, q]
      · simp only [e, q, and_self, and_true, true_and, decide_true, decide_false, if_true, if_false, mid_get, mid_set, mid_getn, mid_setn, bt_mid, Option.bind_some, Bool.not_true, Bool.not_false, Bool.false_eq_true, Bool.true_eq_false, beq_self_eq_true, bne_self_eq_false, Int.toNat_natCast, Bool.and_false]
        exact i
    · simp only [e, and_self, and_true, true_and, decide_true, decide_false, if_true, if_false, mid_get, mid_set, mid_getn, mid_setn, bt_mid, Option.bind_some, Bool.not_true, Bool.not_false, Bool.false_eq_true, Bool.true_eq_false, beq_self_eq_true, bne_self_eq_false, Int.toNat_natCast, Bool.false_and]
      exact i
theorem spec_l20Clear_f (xs : List Mov) (z : ByteArray) {t : Int} (ht : 0 ≤ t ∧ t ≤ 1000000000) (hs : SrtM xs) (h : ∀ m ∈ xs, movB m = true) (hl : xs.length ≤ 1000000) : spec_l20Clear.f xs z t = some (clrB xs z t) := by
  have hu := upN_le t xs
  have hpl : (xs.take (upN t xs)).length = upN t xs := by rw [List.length_take]; omega
  have hin : ∀ m ∈ xs.take (upN t xs), movB m = true := fun m hm => h m (List.mem_of_mem_take hm)
  have hsp := spec_l20People_f (xs.take (upN t xs)) (xs.drop (upN t xs)) z hin (by omega)
  rw [List.take_append_drop, hpl, ← peopT_up hs] at hsp
  have := spec_l20Clear_l z t ht (xs.drop (upN t xs)) (upN t xs) (peopT xs z t) (xs.take (upN t xs)) [] NN (by rw [hpl]; simp) hin (by rw [List.nil_append, List.take_append_drop]; exact hsp) (by omega) (NN_lt (by omega))
  rw [List.nil_append, List.take_append_drop] at this
  unfold spec_l20Clear.f spec_l20Clear.fn spec_l20Clear.top clrB
  rw [spec_l20Upto_f xs t hl, Option.bind_some, near_up hs]
  refine this.trans ?_
  cases (xs.take (upN t xs)).all (fun m => !(decide (m.2.1 = z) && decide (t < m.1 + 30000))) <;> rfl
end Go.Pl

namespace Go.Pl
open Go.Ev
set_option linter.unusedVariables false
set_option linter.unusedSimpArgs false
def ltW (a b : ByteArray) : Bool := Op.bytesLess a.toList b.toList
theorem lessL_trans : ∀ (x y z : List UInt8), Op.bytesLess x y = true → Op.bytesLess y z = true → Op.bytesLess x z = true := by
  intro x
  induction x with
  | nil =>
    intro y z h1 h2
    cases z with
    | nil => cases y <;> simp [Op.bytesLess] at h2
    | cons c z => rfl
  | cons a x ih =>
    intro y z h1 h2
    cases y with
    | nil => simp [Op.bytesLess] at h1
    | cons b y =>
      cases z with
      | nil => simp [Op.bytesLess] at h2
      | cons c z =>
        simp only [Op.bytesLess, Bool.or_eq_true, Bool.and_eq_true, decide_eq_true_eq, beq_iff_eq, UInt8.lt_iff_toNat_lt] at h1 h2 ⊢
        rcases h1 with h1 | ⟨rfl, h1⟩
        · rcases h2 with h2 | ⟨rfl, h2⟩
          · left; omega
          · left; exact h1
        · rcases h2 with h2 | ⟨rfl, h2⟩
          · left; exact h2
          · right; exact ⟨rfl, ih y z h1 h2⟩
theorem lessL_irr : ∀ (x : List UInt8), Op.bytesLess x x = false := by
  intro x
  induction x with
  | nil => rfl
  | cons a x ih => simp [Op.bytesLess, ih]
theorem lessL_tot : ∀ (x y : List UInt8), Op.bytesLess x y = true ∨ x = y ∨ Op.bytesLess y x = true := by
  intro x
  induction x with
  | nil => intro y; cases y; exact .inr (.inl rfl); exact .inl rfl
  | cons a x ih =>
    intro y
    cases y with
    | nil => exact .inr (.inr rfl)
    | cons b y =>
      simp only [Op.bytesLess, Bool.or_eq_true, Bool.and_eq_true, decide_eq_true_eq, beq_iff_eq, UInt8.lt_iff_toNat_lt, List.cons.injEq]
      by_cases h : a = b
      · subst h
        rcases ih y with h | h | h
        · exact .inl (.inr ⟨rfl, h⟩)
        · exact .inr (.inl ⟨rfl, h⟩)
        · exact .inr (.inr (.inr ⟨rfl, h⟩))
      · have h' : a.toNat ≠ b.toNat := fun e => h (UInt8.toNat_inj.1 e)
        rcases Nat.lt_or_gt_of_ne h' with h | h
        · exact .inl (.inl h)
        · exact .inr (.inr (.inl h))
theorem ltW_trans {a b c : ByteArray} (h1 : ltW a b = true) (h2 : ltW b c = true) : ltW a c = true := lessL_trans _ _ _ h1 h2
theorem ltW_irr (a : ByteArray) : ltW a a = false := lessL_irr _
theorem ltW_ne {a b : ByteArray} (h : ltW a b = true) : a ≠ b := fun e => by subst e; rw [ltW_irr] at h; cases h
theorem ltW_asym {a b : ByteArray} (h : ltW a b = true) : ltW b a = false := by
  cases h2 : ltW b a
  · rfl
  · exact absurd (ltW_trans h h2) (by rw [ltW_irr]; simp)
theorem ltW_tot (a b : ByteArray) : ltW a b = true ∨ a = b ∨ ltW b a = true := by
  rcases lessL_tot a.toList b.toList with h | h | h
  · exact .inl h
  · exact .inr (.inl (ba_toList.1 h))
  · exact .inr (.inr h)
theorem ltW_not {a b : ByteArray} (h1 : ltW a b = false) (h2 : a ≠ b) : ltW b a = true := by
  rcases ltW_tot a b with h | h | h
  · rw [h1] at h; cases h
  · exact absurd h h2
  · exact h
end Go.Pl

namespace Go.Pl
open Go.Ev
set_option linter.unusedVariables false
set_option linter.unusedSimpArgs false
def SrtW (xs : List ByteArray) : Prop := xs.Pairwise fun a b => ltW a b = true
def insW (w : ByteArray) : List ByteArray → List ByteArray
  | [] => [w]
  | a :: r => if ltW a w = true then a :: insW w r else if a = w then a :: r else w :: a :: r
theorem insW_mid {w : ByteArray} {r : List ByteArray} : ∀ {p : List ByteArray}, (∀ x ∈ p, ltW x w = true) → insW w (p ++ r) = p ++ insW w r := by
  intro p
  induction p with
  | nil => intro _; rfl
  | cons a p ih => intro h; simp only [List.cons_append, insW, h a (by simp), if_true]; rw [ih fun x hx => h x (by simp [hx])]
theorem insW_up {w : ByteArray} {r : List ByteArray} (h : ∀ x ∈ r, ltW w x = true) : insW w r = w :: r := by
  cases r with
  | nil => rfl
  | cons a r =>
    have h1 := h a (by simp)
    simp only [insW, ltW_asym h1, Bool.false_eq_true, if_false]
    rw [if_neg fun e => ltW_ne h1 e.symm]
theorem insW_here {w : ByteArray} {r : List ByteArray} : insW w (w :: r) = w :: r := by simp [insW, ltW_irr]
theorem mem_insW {w x : ByteArray} : ∀ {xs : List ByteArray}, x ∈ insW w xs ↔ x = w ∨ x ∈ xs := by
  intro xs
  induction xs with
  | nil => simp [insW]
  | cons a r ih =>
    simp only [insW]
    split
    · simp only [List.mem_cons, ih]
      constructor
      · rintro (h | h | h) <;> simp [h]
      · rintro (h | h | h) <;> simp [h]
    · split
      · rename_i h; subst h; simp
      · simp
theorem insW_srt {w : ByteArray} : ∀ {xs : List ByteArray}, SrtW xs → SrtW (insW w xs) := by
  intro xs
  induction xs with
  | nil => intro _; exact List.pairwise_singleton _ _
  | cons a r ih =>
    intro hs
    obtain ⟨h1, h2⟩ := List.pairwise_cons.1 hs
    simp only [insW]
    split
    · rename_i h
      refine List.pairwise_cons.2 ⟨fun x hx => ?_, ih h2⟩
      rcases mem_insW.1 hx with rfl | hx
      · exact h
      · exact h1 x hx
    · rename_i h
      split
      · exact hs
      · rename_i he
        have hlt : ltW w a = true := ltW_not (by simpa using h) he
        refine List.pairwise_cons.2 ⟨fun x hx => ?_, hs⟩
        rcases List.mem_cons.1 hx with rfl | hx
        · exact hlt
        · exact ltW_trans hlt (h1 x hx)
theorem insW_len (w : ByteArray) : ∀ (xs : List ByteArray), (insW w xs).length ≤ xs.length + 1 := by
  intro xs
  induction xs with
  | nil => simp [insW]
  | cons a r ih =>
    simp only [insW]
    split
    · simp only [List.length_cons]; omega
    · split <;> simp
theorem room16n {n : Nat} (h : n ≤ 2000000) : n < room 16 := by rw [room16]; omega
def hitW (w : ByteArray) (xs : List ByteArray) (i : Nat) (a : ByteArray) : List ByteArray := if a = w then xs else xs.take i ++ w :: xs.drop i
theorem insW_first (w : ByteArray) : ∀ (r p : List ByteArray), p ++ insW w r = (firstOf (fun a => !ltW a w) p.length r).elim (p ++ r ++ [w]) (fun x => hitW w (p ++ r) x.1 x.2) := by
  intro r
  induction r with
  | nil => intro p; simp [insW, firstOf]
  | cons l r ih =>
    intro p
    have := ih (p ++ [l])
    simp only [insW, firstOf]
    by_cases h : ltW l w = true
    · simp only [h, if_true, Bool.not_true, Bool.false_eq_true, if_false]
      simp only [List.length_append, List.length_singleton, List.append_assoc, List.singleton_append] at this ⊢
      exact this
    · simp only [Bool.not_eq_true] at h
      simp only [h, Bool.false_eq_true, if_false, Bool.not_false, if_true, Option.elim, hitW]
      by_cases h2 : l = w <;> simp [h2]
theorem spec_l20Insert_f (xs : List ByteArray) (w : ByteArray) (h : xs.length ≤ 1000000) : spec_l20Insert.f xs w = some (insW w xs) := by
  have := find_loop (E := fun _ => True) (fun a => !ltW a w) (fun i a => some (hitW w xs i a)) (fun p => some (p ++ [w])) (fun k p i => if p = xs then spec_l20Insert.l2 NN k w i p else (firstOf (fun a => !ltW a w) i.toNat (p.drop i.toNat)).elim (some (p ++ [w])) (fun x => some (hitW w xs x.1 x.2))) ?_ ?_ xs (fun _ _ => trivial) (by omega) NN (NN_lt (by omega))
  · rw [if_pos rfl] at this
    unfold spec_l20Insert.f spec_l20Insert.fn spec_l20Insert.top
    rw [this]
    have h2 := insW_first w xs []
    simp only [List.nil_append, List.length_nil] at h2
    rw [h2]
    cases firstOf (fun a => !ltW a w) 0 xs <;> rfl
  · intro k p
    by_cases hp : p = xs
    · subst hp
      rw [if_pos rfl]
      have q0 : (0 : Int) ≤ (p.length : Int) := by omega
      simp only [spec_l20Insert.l2, spec_l20Insert.g2, Int.lt_irrefl, and_self, and_true, true_and, decide_true, decide_false, if_true, if_false, mid_get, mid_set, mid_getn, mid_setn, bt_mid, Option.bind_some, Bool.not_true, Bool.not_false, Bool.false_eq_true, Bool.true_eq_false, beq_self_eq_true, bne_self_eq_false, Int.toNat_natCast, Int.le_refl, q0, List.take_length, List.drop_length, List.nil_append, List.append_nil]
      rw [if_pos (room16n (by simp; omega)), if_pos (room16n (by simp; omega)), if_pos (room16n (by simp; omega))]
    · rw [if_neg hp]; simp [firstOf]
  · intro k p l r _ c0 c1 c2 cw
    by_cases hp : p ++ l :: r = xs
    · rw [if_pos hp, if_pos hp, hp]
      have c1' : (p.length : Int) < (xs.length : Int) := by rw [← hp]; exact c1
      have g : ∀ z, xs.getD p.length z = l := fun z => by rw [← hp, mid_getn]
      have c3 : (p.length : Int) ≤ (xs.length : Int) := by omega
      simp only [spec_l20Insert.l2, spec_l20Insert.g2, c0, c1', c3, cw, and_self, and_true, true_and, decide_true, decide_false, if_true, if_false, mid_get, mid_set, mid_getn, mid_setn, bt_mid, Option.bind_some, Bool.not_true, Bool.not_false, Bool.false_eq_true, Bool.true_eq_false, beq_self_eq_true, bne_self_eq_false, Int.toNat_natCast, g]
      rw [show Op.bytesLess l.toList w.toList = ltW l w from rfl, ba_beq]
      cases h1 : ltW l w
      · simp only [Bool.false_eq_true, if_false, Bool.not_false, if_true, hitW, decide_eq_true_eq]
        by_cases h2 : l = w
        · simp only [h2, if_true]
        · simp only [h2, if_false, List.nil_append]
          rw [if_pos (room16n (by simp; omega)), if_pos (room16n (by simp; omega)), if_pos (room16n (by simp; omega))]
          simp
      · simp
    · rw [if_neg hp, if_neg hp]
      have t1 : ((p.length : Int) + 1).toNat = p.length + 1 := by omega
      rw [t1, Int.toNat_natCast, List.drop_left, show p ++ l :: r = (p ++ [l]) ++ r by simp, show p.length + 1 = (p ++ [l]).length by simp, List.drop_left]
      simp only [firstOf]
      by_cases h1 : ltW l w = true
      · simp only [h1, Bool.not_true, Bool.false_eq_true, if_false, List.length_append, List.length_singleton]
      · simp only [Bool.not_eq_true] at h1
        simp only [h1, Bool.not_false, if_true, Option.elim]
theorem copy_ins {α : Type} (q s : List α) (e w : α) : (copyL (q ++ s ++ [e]) (q.length + 1) q.length).set q.length w = q ++ w :: s := by
  unfold copyL
  have e1 : (q ++ s ++ [e]).drop q.length = s ++ [e] := by rw [List.append_assoc, List.drop_left]
  have e2 : (q ++ s ++ [e]).length - (q.length + 1) = s.length := by simp; omega
  have e3 : q.length + 1 + min ((q ++ s ++ [e]).length - q.length) ((q ++ s ++ [e]).length - (q.length + 1)) = (q ++ s ++ [e]).length := by simp; omega
  have e4 : ∃ h, (q ++ s ++ [e]).take (q.length + 1) = q ++ [h] := by
    cases s with
    | nil => exact ⟨e, by rw [List.append_nil, List.take_of_length_le (by simp)]⟩
    | cons y s =>
      refine ⟨y, ?_⟩
      rw [show q ++ y :: s ++ [e] = (q ++ [y]) ++ (s ++ [e]) by simp, show q.length + 1 = (q ++ [y]).length by simp, List.take_left]
  obtain ⟨h, e4⟩ := e4
  rw [e3, e2, e1, e4, List.drop_length, List.take_left]
  simp
theorem copy_len2 {α : Type} (q s : List α) (e : α) : (copyL (q ++ s ++ [e]) (q.length + 1) q.length).length = q.length + s.length + 1 := by
  have := congrArg List.length (copy_ins q s e e)
  simp only [List.length_set, List.length_append, List.length_cons] at this
  omega
theorem putWord_l (w : ByteArray) : ∀ (n : Nat) (q s : List ByteArray) (k : Nat), q.length = n → SrtW (q ++ s) → (∀ y ∈ s, ltW w y = true) → (q ++ s).length ≤ 1000000 → n < k →
    impl_putWord.l2 NN k w (n : Int) (q ++ s) = some (insW w (q ++ s)) := by
  intro n
  induction n with
  | zero =>
    intro q s k hq hs hu hl hk
    obtain ⟨k, rfl⟩ : ∃ j, k = j + 1 := ⟨k - 1, by omega⟩
    obtain rfl := List.eq_nil_of_length_eq_zero hq
    simp only [List.nil_append] at hl ⊢
    have w1 := w64 (n := ((0 : Nat) : Int) + 1) (by omega) (by omega)
    have hc := copy_ins [] s ⟨#[]⟩ w
    have hcl := copy_len2 [] s (⟨#[]⟩ : ByteArray)
    simp only [List.nil_append, List.length_nil, Nat.zero_add] at hc hcl
    have n1 : ¬ (0 : Int) < ((0 : Nat) : Int) := by omega
    have n2 : (0 : Int) ≤ ((0 : Nat) : Int) := by omega
    have n3 : (0 : Int) ≤ ((0 : Nat) : Int) + 1 := by omega
    have n4 : ((0 : Nat) : Int) + 1 ≤ ((s ++ [(⟨#[]⟩ : ByteArray)]).length : Int) := by simp; omega
    have n5 : ((0 : Nat) : Int) ≤ ((s ++ [(⟨#[]⟩ : ByteArray)]).length : Int) := by omega
    have n6 : ((0 : Nat) : Int) < ((copyL (s ++ [(⟨#[]⟩ : ByteArray)]) 1 0).length : Int) := by rw [hcl]; omega
    have t1 : (((0 : Nat) : Int) + 1).toNat = 1 := rfl
    have hr := room16n (n := s.length + [(⟨#[]⟩ : ByteArray)].length) (by simp; omega)
    simp only [impl_putWord.l2, impl_putWord.g2, n1, n2, n3, n4, n5, n6, w1, t1, hr, and_self, and_true, true_and, decide_true, decide_false, if_true, if_false, mid_get, mid_set, mid_getn, mid_setn, bt_mid, Option.bind_some, Bool.not_true, Bool.not_false, Bool.false_eq_true, Bool.true_eq_false, beq_self_eq_true, bne_self_eq_false, Int.toNat_natCast]
    rw [hc, insW_up hu]
  | succ n ih =>
    intro q s k hq hs hu hl hk
    obtain ⟨k, rfl⟩ : ∃ j, k = j + 1 := ⟨k - 1, by omega⟩
    obtain ⟨q', x, rfl⟩ : ∃ q' x, q = q' ++ [x] := by
      rcases List.eq_nil_or_concat q with h | ⟨q', x, h⟩
      · rw [h] at hq; simp at hq
      · exact ⟨q', x, by rw [h]; simp⟩
    have hq' : q'.length = n := by simpa using hq
    have hll : q'.length + s.length + 1 ≤ 1000000 := by simpa [Nat.add_assoc, Nat.add_comm, Nat.add_left_comm] using hl
    have w1 := w64 (n := ((n + 1 : Nat) : Int) - 1) (by omega) (by omega)
    have w2 := w64 (n := ((n + 1 : Nat) : Int) + 1) (by omega) (by omega)
    have n1 : (0 : Int) < ((n + 1 : Nat) : Int) := by omega
    have n2 : (0 : Int) ≤ ((n + 1 : Nat) : Int) - 1 := by omega
    have n3 : ((n + 1 : Nat) : Int) - 1 < ((q' ++ [x] ++ s).length : Int) := by simp; omega
    have t1 : (((n + 1 : Nat) : Int) - 1).toNat = q'.length := by omega
    have g : ∀ z, (q' ++ [x] ++ s).getD q'.length z = x := fun z => by rw [List.append_assoc, List.singleton_append, mid_getn]
    have e1 : ((n + 1 : Nat) : Int) - 1 = (n : Int) := by omega
    simp only [impl_putWord.l2, impl_putWord.g2, n1, n2, n3, w1, t1, g, and_self, and_true, true_and, decide_true, decide_false, if_true, if_false, mid_get, mid_set, mid_getn, mid_setn, bt_mid, Option.bind_some, Bool.not_true, Bool.not_false, Bool.false_eq_true, Bool.true_eq_false, beq_self_eq_true, bne_self_eq_false, Int.toNat_natCast]
    rw [show Op.bytesLess x.toList w.toList = ltW x w from rfl, ba_beq]
    have hs' : SrtW (q' ++ x :: s) := by simpa using hs
    obtain ⟨p1, p2, p3⟩ := List.pairwise_append.1 hs'
    have hbelow : ∀ y ∈ q', ltW y x = true := fun y hy => p3 y hy x (by simp)
    rcases ltW_tot x w with h | h | h
    · have hne := ltW_ne h
      simp only [h, hne, decide_false, Bool.or_false, Bool.not_true, Bool.false_eq_true, if_false]
      have hc := copy_ins (q' ++ [x]) s ⟨#[]⟩ w
      have hcl := copy_len2 (q' ++ [x]) s (⟨#[]⟩ : ByteArray)
      have hqn : (q' ++ [x]).length = n + 1 := by simp [hq']
      rw [hqn] at hc hcl
      have n4 : (0 : Int) ≤ ((n + 1 : Nat) : Int) + 1 := by omega
      have n5 : ((n + 1 : Nat) : Int) + 1 ≤ ((q' ++ [x] ++ s ++ [(⟨#[]⟩ : ByteArray)]).length : Int) := by simp; omega
      have n6 : (0 : Int) ≤ ((n + 1 : Nat) : Int) := by omega
      have n7 : ((n + 1 : Nat) : Int) ≤ ((q' ++ [x] ++ s ++ [(⟨#[]⟩ : ByteArray)]).length : Int) := by omega
      have t2 : (((n + 1 : Nat) : Int) + 1).toNat = n + 1 + 1 := by omega
      have t3 : ((n + 1 : Nat) : Int).toNat = n + 1 := by omega
      have n8 : ((n + 1 : Nat) : Int) < ((copyL (q' ++ [x] ++ s ++ [(⟨#[]⟩ : ByteArray)]) (n + 1 + 1) (n + 1)).length : Int) := by rw [hcl]; omega
      have hr := room16n (n := (q' ++ [x] ++ s).length + [(⟨#[]⟩ : ByteArray)].length) (by simp; omega)
      simp only [n4, n5, n6, n7, n8, w2, t2, t3, hr, and_self, if_true]
      rw [hc, insW_mid (p := q' ++ [x]) (r := s) (fun y hy => ?_), insW_up hu]
      rcases List.mem_append.1 hy with hy | hy
      · exact ltW_trans (hbelow y hy) h
      · rw [List.mem_singleton.1 hy]; exact h
    · subst h
      simp only [decide_true, Bool.or_true, Bool.not_true, Bool.false_eq_true, if_false, if_true]
      rw [show q' ++ [x] ++ s = q' ++ x :: s by simp, insW_mid hbelow, insW_here]
    · have hne : ¬ x = w := fun e => ltW_ne h e.symm
      simp only [ltW_asym h, hne, decide_false, Bool.or_false, Bool.not_false, if_true]
      rw [e1, show q' ++ [x] ++ s = q' ++ (x :: s) by simp]
      refine ih q' (x :: s) k hq' hs' (fun y hy => ?_) (by simpa [Nat.add_assoc] using hl) (by omega)
      rcases List.mem_cons.1 hy with rfl | hy
      · exact h
      · exact hu y hy
theorem impl_putWord_f (xs : List ByteArray) (w : ByteArray) (hs : SrtW xs) (h : xs.length ≤ 1000000) : impl_putWord.f xs w = some (insW w xs) := by
  have := putWord_l w xs.length xs [] NN rfl (by simpa using hs) (by simp) (by simpa using h) (NN_lt (by omega))
  rw [List.append_nil] at this
  exact this
end Go.Pl

namespace Go.Pl
open Go.Ev
set_option linter.unusedVariables false
set_option linter.unusedSimpArgs false
theorem room32m {n : Nat} (h : n ≤ 2000000) : n < room 32 := by rw [room32]; omega
def amR (xs : List Mov) (m : Mov) : List Mov × Int := if movesB xs = true then (if xs.length = 40 then ([], 3) else if movesB (xs ++ [m]) = true then (xs ++ [m], 0) else ([], 5)) else ([], 1)
theorem AddMove_both (xs : List Mov) (m : Mov) (h1 : xs.length ≤ 1000000) (h2 : ∀ m ∈ xs, Sz m.2.1) (h3 : Sz m.2.1) : spec_AddMove.f xs m = some (amR xs m) ∧ impl_AddMove.f xs m = some (amR xs m) := by
  have hz : ∀ y ∈ xs ++ [m], Sz y.2.1 := fun y hy => by
    rcases List.mem_append.1 hy with h | h
    · exact h2 y h
    · rw [List.mem_singleton.1 h]; exact h3
  unfold spec_AddMove.f spec_AddMove.fn spec_AddMove.top impl_AddMove.f impl_AddMove.fn impl_AddMove.top amR
  rw [spec_AreMoves_f xs h1 h2, impl_AreMoves_f xs h1 h2]
  cases hb : movesB xs
  · exact ⟨rfl, rfl⟩
  have hl := (movesB_iff hb).1
  simp only [and_self, and_true, true_and, decide_true, decide_false, if_true, if_false, mid_get, mid_set, mid_getn, mid_setn, bt_mid, Option.bind_some, Bool.not_true, Bool.not_false, Bool.false_eq_true, Bool.true_eq_false, beq_self_eq_true, bne_self_eq_false, Int.toNat_natCast]
  by_cases h40 : xs.length = 40
  · have e : ((xs.length : Int) == 40) = true := by rw [h40]; rfl
    simp [e, h40]
  have e : ((xs.length : Int) == 40) = false := by simpa using (show ¬ (xs.length : Int) = 40 by omega)
  have r1 : ([] : List Mov).length + xs.length < room 32 := room32m (by simp; omega)
  have r2 : (([] : List Mov) ++ xs).length + [m].length < room 32 := room32m (by simp; omega)
  have r3 : (xs ++ [m]).length ≤ 1000000 := by simp; omega
  rw [List.nil_append] at r2
  simp only [List.nil_append, e, h40, r1, r2, and_self, and_true, true_and, decide_true, decide_false, if_true, if_false, mid_get, mid_set, mid_getn, mid_setn, bt_mid, Option.bind_some, Bool.not_true, Bool.not_false, Bool.false_eq_true, Bool.true_eq_false, beq_self_eq_true, bne_self_eq_false, Int.toNat_natCast]
  rw [spec_AreMoves_f _ r3 hz, impl_AreMoves_f _ r3 hz]
  cases movesB (xs ++ [m]) <;> exact ⟨rfl, rfl⟩
def icR (xs : List Mov) (z : ByteArray) (t : Int) : Bool × Int := if movesB xs = true then (if wordB z = true then (if inB t 0 10000000 = true then (clrB xs z t, 0) else (false, 2)) else (false, 1)) else (false, 1)
theorem IsClear_both (xs : List Mov) (z : ByteArray) (t : Int) (h1 : xs.length ≤ 1000000) (h2 : ∀ m ∈ xs, Sz m.2.1) (h3 : Sz z) : spec_IsClear.f xs z t = some (icR xs z t) ∧ impl_IsClear.f xs z t = some (icR xs z t) := by
  unfold spec_IsClear.f spec_IsClear.fn spec_IsClear.top spec_l20Code.f spec_l20Code.fn spec_l20Code.top impl_IsClear.f impl_IsClear.fn impl_IsClear.top impl_zoneAsked.f impl_zoneAsked.fn impl_zoneAsked.top icR
  rw [spec_AreMoves_f xs h1 h2, impl_AreMoves_f xs h1 h2, spec_IsWord_f z h3, impl_IsWord_f z h3, spec_l01IsTime_f, impl_isTime_f]
  cases hb : movesB xs
  · exact ⟨rfl, rfl⟩
  cases hw : wordB z
  · exact ⟨rfl, rfl⟩
  cases ht : inB t 0 10000000
  · exact ⟨rfl, rfl⟩
  obtain ⟨m1, m2, m3⟩ := movesB_iff hb
  have ht' := inB_iff.1 ht
  have e : ((0 : Int) != 0) = false := rfl
  simp only [e, and_self, and_true, true_and, decide_true, decide_false, if_true, if_false, mid_get, mid_set, mid_getn, mid_setn, bt_mid, Option.bind_some, Bool.not_true, Bool.not_false, Bool.false_eq_true, Bool.true_eq_false, beq_self_eq_true, bne_self_eq_false, Int.toNat_natCast]
  rw [spec_l20Clear_f xs z (by omega) m2 m3 h1, impl_isClear_f xs z (by omega) m3 h1]
  exact ⟨rfl, rfl⟩
def insRv (x : Sig) : List Sig → List Sig → List Sig
  | [], q => x :: q
  | y :: p, q => if x.1 < y.1 then insRv x p (y :: q) else (y :: p).reverse ++ x :: q
def insS (xs : List Sig) (x : Sig) : List Sig := insRv x xs.reverse []
def fin5 (xs : List Sig) : List Sig × Int := if sigsB xs = true then (xs, 0) else ([], 5)
def asR (xs : List Sig) (x : Sig) : List Sig × Int := if sigsB xs = true then (if xs.length = 40 then ([], 3) else fin5 (insS xs x)) else ([], 1)
theorem impl_fin5 (xs : List Sig) (h : xs.length ≤ 1000000) : ((impl_AreSignals.f xs).bind fun r => if (!r) = true then some ([], 5) else some (xs, 0)) = some (fin5 xs) := by
  rw [impl_AreSignals_f xs h]
  unfold fin5
  cases sigsB xs <;> rfl
theorem spec_fin5 (xs : List Sig) (h : xs.length ≤ 1000000) : ((spec_AreSignals.f xs).bind fun r => if (!r) = true then some ([], 5) else some (xs, 0)) = some (fin5 xs) := by
  rw [spec_AreSignals_f xs h]
  unfold fin5
  cases sigsB xs <;> rfl
theorem impl_AddSignal_l (x : Sig) : ∀ (p q : List Sig) (k : Nat), p.length + q.length ≤ 100000 → p.length < k → impl_AddSignal.l7 NN k p.length (p.reverse ++ x :: q) = some (fin5 (insRv x p q)) := by
  intro p
  induction p with
  | nil =>
    intro q k hl hk
    obtain ⟨k, rfl⟩ : ∃ j, k = j + 1 := ⟨k - 1, by omega⟩
    have n0 : ¬ (0 : Int) < (([] : List Sig).length : Int) := by simp
    simp only [impl_AddSignal.l7, impl_AddSignal.g7, n0, and_self, and_true, true_and, decide_true, decide_false, if_true, if_false, mid_get, mid_set, mid_getn, mid_setn, bt_mid, Option.bind_some, Bool.not_true, Bool.not_false, Bool.false_eq_true, Bool.true_eq_false, beq_self_eq_true, bne_self_eq_false, Int.toNat_natCast, List.reverse_nil, List.nil_append, insRv]
    exact impl_fin5 _ (by simp at hl ⊢; omega)
  | cons y p ih =>
    intro q k hl hk
    simp only [List.length_cons] at hl hk
    obtain ⟨k, rfl⟩ : ∃ j, k = j + 1 := ⟨k - 1, by omega⟩
    have hr : (y :: p).reverse ++ x :: q = p.reverse ++ y :: x :: q := by simp
    have hpl : p.reverse.length = p.length := List.length_reverse
    have hc : ((y :: p).length : Int) = (p.length : Int) + 1 := by simp
    have w := w64 (n := (p.length : Int) + 1 - 1) (by omega) (by omega)
    rw [Int.add_sub_cancel] at w
    have c0 : (0 : Int) < (p.length : Int) + 1 := by omega
    have c1 : (0 : Int) ≤ (p.length : Int) := by omega
    have c1' : (0 : Int) ≤ (p.length : Int) + 1 := by omega
    have hlen : ((p.reverse ++ y :: x :: q).length : Int) = (p.length : Int) + q.length + 2 := by simp; omega
    have c2 : (p.length : Int) < ((p.reverse ++ y :: x :: q).length : Int) := by omega
    have c3 : (p.length : Int) + 1 < ((p.reverse ++ y :: x :: q).length : Int) := by omega
    have g1 : ∀ z, (p.reverse ++ y :: x :: q).getD p.length z = y := fun z => by
      have := mid_getn p.reverse (x :: q) y z
      rwa [hpl] at this
    have g2 : ∀ z, (p.reverse ++ y :: x :: q).getD ((p.length : Int) + 1).toNat z = x := fun z => by
      have := mid_getn (p.reverse ++ [y]) q x z
      rw [mid_snoc] at this
      rw [show ((p.length : Int) + 1).toNat = (p.reverse ++ [y]).length by simp]
      exact this
    have s1 : (p.reverse ++ y :: x :: q).set p.length x = p.reverse ++ x :: x :: q := by
      have := mid_setn p.reverse (x :: q) y x
      rwa [hpl] at this
    have s2 : (p.reverse ++ x :: x :: q).set ((p.length : Int) + 1).toNat y = p.reverse ++ x :: y :: q := by
      have := mid_setn (p.reverse ++ [x]) q x y
      rw [mid_snoc, mid_snoc] at this
      rw [show ((p.length : Int) + 1).toNat = (p.reverse ++ [x]).length by simp]
      exact this
    have c4 : (p.length : Int) + 1 < ((p.reverse ++ x :: x :: q).length : Int) := by simp; omega
    rw [hr, hc]
    simp only [impl_AddSignal.l7, impl_AddSignal.g7, c0, Int.add_sub_cancel, w, c1, c1', c2, c3, g1, g2, s1, c4, s2, and_self, and_true, true_and, decide_true, decide_false, if_true, if_false, mid_get, mid_set, mid_getn, mid_setn, bt_mid, Option.bind_some, Bool.not_true, Bool.not_false, Bool.false_eq_true, Bool.true_eq_false, beq_self_eq_true, bne_self_eq_false, Int.toNat_natCast, insRv]
    by_cases h : x.1 < y.1
    · simp only [h, and_self, and_true, true_and, decide_true, decide_false, if_true, if_false, mid_get, mid_set, mid_getn, mid_setn, bt_mid, Option.bind_some, Bool.not_true, Bool.not_false, Bool.false_eq_true, Bool.true_eq_false, beq_self_eq_true, bne_self_eq_false, Int.toNat_natCast]
      exact ih (y :: q) k (by simp; omega) (by omega)
    · simp only [h, and_self, and_true, true_and, decide_true, decide_false, if_true, if_false, mid_get, mid_set, mid_getn, mid_setn, bt_mid, Option.bind_some, Bool.not_true, Bool.not_false, Bool.false_eq_true, Bool.true_eq_false, beq_self_eq_true, bne_self_eq_false, Int.toNat_natCast]
      rw [← hr]
      exact impl_fin5 _ (by simp; omega)
theorem spec_AddSignal_l (x : Sig) : ∀ (p q : List Sig) (k : Nat), p.length + q.length ≤ 100000 → p.length < k → spec_AddSignal.l6 NN k (p.reverse ++ q) p.length x = some (fin5 (insRv x p q)) := by
  intro p
  induction p with
  | nil =>
    intro q k hl hk
    obtain ⟨k, rfl⟩ : ∃ j, k = j + 1 := ⟨k - 1, by omega⟩
    simp only [List.length_nil] at hl
    show spec_AddSignal.l6 NN (k + 1) q 0 x = some (fin5 (x :: q))
    have n2 : (0 : Int) ≤ (q.length : Int) := by omega
    have r1 : ([] : List Sig).length + [x].length < room 16 := room16n (by simp)
    have r2 : [x].length + q.length < room 16 := room16n (by simp; omega)
    have r0 : ([] : List Sig).length + ([] : List Sig).length < room 16 := room16n (by simp)
    simp only [spec_AddSignal.l6, spec_AddSignal.g6, Int.lt_irrefl, Int.le_refl, n2, and_self, and_true, true_and, decide_true, decide_false, if_true, if_false, mid_get, mid_set, mid_getn, mid_setn, bt_mid, Option.bind_some, Bool.not_true, Bool.not_false, Bool.false_eq_true, Bool.true_eq_false, beq_self_eq_true, bne_self_eq_false, Int.toNat_natCast, Int.toNat_zero, List.take_zero, List.drop_zero, List.nil_append, r0, r1, r2]
    exact spec_fin5 _ (by simp; omega)
  | cons y p ih =>
    intro q k hl hk
    simp only [List.length_cons] at hl hk
    obtain ⟨k, rfl⟩ : ∃ j, k = j + 1 := ⟨k - 1, by omega⟩
    have hr : (y :: p).reverse ++ q = p.reverse ++ y :: q := by simp
    have hpl : p.reverse.length = p.length := List.length_reverse
    have hc : ((y :: p).length : Int) = (p.length : Int) + 1 := by simp
    have w := w64 (n := (p.length : Int) + 1 - 1) (by omega) (by omega)
    rw [Int.add_sub_cancel] at w
    have c0 : (0 : Int) < (p.length : Int) + 1 := by omega
    have c1 : (0 : Int) ≤ (p.length : Int) := by omega
    have c1' : (0 : Int) ≤ (p.length : Int) + 1 := by omega
    have hlen : ((p.reverse ++ y :: q).length : Int) = (p.length : Int) + q.length + 1 := by simp; omega
    have c2 : (p.length : Int) < ((p.reverse ++ y :: q).length : Int) := by omega
    have c3 : (p.length : Int) + 1 ≤ ((p.reverse ++ y :: q).length : Int) := by omega
    have g1 : ∀ z, (p.reverse ++ y :: q).getD p.length z = y := fun z => by
      have := mid_getn p.reverse q y z
      rwa [hpl] at this
    have tk : (p.reverse ++ y :: q).take ((p.length : Int) + 1).toNat = p.reverse ++ [y] := by
      have t := List.take_left (l₁ := p.reverse ++ [y]) (l₂ := q)
      rw [mid_snoc] at t
      rw [show ((p.length : Int) + 1).toNat = (p.reverse ++ [y]).length by simp]
      exact t
    have dr : (p.reverse ++ y :: q).drop ((p.length : Int) + 1).toNat = q := by
      have t := List.drop_left (l₁ := p.reverse ++ [y]) (l₂ := q)
      rw [mid_snoc] at t
      rw [show ((p.length : Int) + 1).toNat = (p.reverse ++ [y]).length by simp]
      exact t
    rw [hr, hc]
    simp only [spec_AddSignal.l6, spec_AddSignal.g6, c0, Int.add_sub_cancel, w, c1, c1', c2, c3, g1, and_self, and_true, true_and, decide_true, decide_false, if_true, if_false, mid_get, mid_set, mid_getn, mid_setn, bt_mid, Option.bind_some, Bool.not_true, Bool.not_false, Bool.false_eq_true, Bool.true_eq_false, beq_self_eq_true, bne_self_eq_false, Int.toNat_natCast, insRv]
    by_cases h : x.1 < y.1
    · simp only [h, and_self, and_true, true_and, decide_true, decide_false, if_true, if_false, mid_get, mid_set, mid_getn, mid_setn, bt_mid, Option.bind_some, Bool.not_true, Bool.not_false, Bool.false_eq_true, Bool.true_eq_false, beq_self_eq_true, bne_self_eq_false, Int.toNat_natCast]
      have := ih (y :: q) k (by simp; omega) (by omega)
      exact this
    · have r1 : ([] : List Sig).length + (p.reverse ++ [y]).length < room 16 := room16n (by simp; omega)
      have r2 : (p.reverse ++ [y]).length + [x].length < room 16 := room16n (by simp; omega)
      have r3 : ((p.reverse ++ [y]) ++ [x]).length + q.length < room 16 := room16n (by simp; omega)
      simp only [h, tk, dr, r1, r2, r3, List.nil_append, and_self, and_true, true_and, decide_true, decide_false, if_true, if_false, mid_get, mid_set, mid_getn, mid_setn, bt_mid, Option.bind_some, Bool.not_true, Bool.not_false, Bool.false_eq_true, Bool.true_eq_false, beq_self_eq_true, bne_self_eq_false, Int.toNat_natCast]
      have e : (y :: p).reverse ++ x :: q = (p.reverse ++ [y]) ++ [x] ++ q := by simp
      rw [e]
      exact spec_fin5 _ (by simp; omega)
theorem AddSignal_both (xs : List Sig) (x : Sig) (h : xs.length ≤ 1000000) : spec_AddSignal.f xs x = some (asR xs x) ∧ impl_AddSignal.f xs x = some (asR xs x) := by
  unfold spec_AddSignal.f spec_AddSignal.fn spec_AddSignal.top impl_AddSignal.f impl_AddSignal.fn impl_AddSignal.top asR
  rw [spec_AreSignals_f xs h, impl_AreSignals_f xs h]
  cases hb : sigsB xs
  · exact ⟨rfl, rfl⟩
  have hl := (sigsB_iff hb).1
  simp only [and_self, and_true, true_and, decide_true, decide_false, if_true, if_false, mid_get, mid_set, mid_getn, mid_setn, bt_mid, Option.bind_some, Bool.not_true, Bool.not_false, Bool.false_eq_true, Bool.true_eq_false, beq_self_eq_true, bne_self_eq_false, Int.toNat_natCast]
  by_cases h40 : xs.length = 40
  · have e : ((xs.length : Int) == 40) = true := by rw [h40]; rfl
    simp [e, h40]
  have e : ((xs.length : Int) == 40) = false := by simpa using (show ¬ (xs.length : Int) = 40 by omega)
  have r1 : ([] : List Sig).length + xs.length < room 16 := room16n (by simp; omega)
  have r2 : xs.length + [x].length < room 16 := room16n (by simp; omega)
  have a1 := spec_AddSignal_l x xs.reverse [] NN (by simp; omega) (NN_lt (by simp; omega))
  have a2 := impl_AddSignal_l x xs.reverse [] NN (by simp; omega) (NN_lt (by simp; omega))
  simp only [List.reverse_reverse, List.append_nil, List.length_reverse] at a1 a2
  have w : IntKind.i64.wrap (((xs ++ [x]).length : Int) - 1) = (xs.length : Int) := by
    rw [show ((xs ++ [x]).length : Int) - 1 = (xs.length : Int) by simp]
    exact w64 (by omega) (by omega)
  refine ⟨?_, ?_⟩
  · simp only [e, h40, and_self, and_true, true_and, decide_true, decide_false, if_true, if_false, mid_get, mid_set, mid_getn, mid_setn, bt_mid, Option.bind_some, Bool.not_true, Bool.not_false, Bool.false_eq_true, Bool.true_eq_false, beq_self_eq_true, bne_self_eq_false, Int.toNat_natCast]
    exact a1
  · simp only [e, h40, List.nil_append, r1, r2, w, and_self, and_true, true_and, decide_true, decide_false, if_true, if_false, mid_get, mid_set, mid_getn, mid_setn, bt_mid, Option.bind_some, Bool.not_true, Bool.not_false, Bool.false_eq_true, Bool.true_eq_false, beq_self_eq_true, bne_self_eq_false, Int.toNat_natCast]
    exact a2
end Go.Pl

namespace Go.Pl
open Go.Ev
set_option linter.unusedVariables false
set_option linter.unusedSimpArgs false
def tkT (t : Int) : Int := Int.tdiv t 100
theorem tkT_bd {t : Int} (h : 0 ≤ t ∧ t ≤ 10000000) : 0 ≤ tkT t ∧ tkT t ≤ 100000 := by
  unfold tkT
  rw [Int.tdiv_eq_ediv_of_nonneg h.1]; omega
def firT (l : List Sig) (ms : List Mov) (zs : List ByteArray) (t : Int) : Int := if (mayC (ctlAt l (tkT t)) && zs.all (clrB ms · (tkT t * 100))) = true then tkT t else -1
def firF (l : List Sig) (ms : List Mov) (zs : List ByteArray) (T t : Int) : Int := if tkT t < T then firT l ms zs t else -1
abbrev LF := List Int → List Mov → List ByteArray → Int → List Int → List Sig → Int → Int → Ctl → List Int → Option (List Int)
theorem nn0 : 0 < NN := NN_lt (by omega)
theorem fired_begin (L10 : LF) (times : List Int) (ms : List Mov) (zs : List ByteArray) (last : Int) (o1 : List Int) (b1 : List Sig) (b2 b3 : Int) (b4 : Ctl) (b5 : List Int) (out : List Int) (T : Int) : ∀ (r p : List Sig) (c : Ctl) (ref : List Int) (k : Nat), p.length + r.length ≤ 1000000 → r.length < k → DeadOk c → SrtF T r → (∀ m ∈ r, 0 ≤ m.2 ∧ m.2 ≤ 9) → ref.length ≤ p.length →
    ∃ (p' r' : List Sig) (c' : Ctl) (ref' : List Int), p' ++ r' = p ++ r ∧ SrtF (T + 1) r' ∧ DeadOk c' ∧ ref'.length ≤ p'.length ∧ (∀ t, T ≤ t → atR r' c' T t = atR r c T t) ∧ (∀ m ∈ r', 0 ≤ m.2 ∧ m.2 ≤ 9) ∧
      impl_firedTicks.l120000001 NN L10 k times ms zs last o1 b1 b2 b3 b4 b5 out (p ++ r) p.length T c ref = impl_firedTicks.l1000012 NN L10 NN times ms zs last out (p ++ r) p'.length T c' ref' := by
  intro r
  induction r with
  | nil =>
    intro p c ref k _ hk hc _ _ hr
    obtain ⟨k, rfl⟩ : ∃ j, k = j + 1 := ⟨k - 1, by omega⟩
    refine ⟨p, [], c, ref, rfl, trivial, hc, hr, fun _ _ => rfl, by simp, ?_⟩
    simp only [List.append_nil, impl_firedTicks.l120000001, impl_firedTicks.g120000001, Int.lt_irrefl, and_self, and_true, true_and, decide_true, decide_false, if_true, if_false, mid_get, mid_set, mid_getn, mid_setn, bt_mid, Option.bind_some, Bool.not_true, Bool.not_false, Bool.false_eq_true, Bool.true_eq_false, beq_self_eq_true, bne_self_eq_false, Int.toNat_natCast]
  | cons m r ih =>
    intro p c ref k hl hk hc hs hm hr
    simp only [List.length_cons] at hl hk
    obtain ⟨k, rfl⟩ : ∃ j, k = j + 1 := ⟨k - 1, by omega⟩
    have hln := mid_len p r m
    have c0 : (0 : Int) ≤ (p.length : Int) := by omega
    have c1 : (p.length : Int) < ((p ++ m :: r).length : Int) := by omega
    have cw := w64 (n := (p.length : Int) + 1) (by omega) (by omega)
    have hs1 := hs.1
    by_cases h : m.1 = T
    · have st : ∀ (c1 : Ctl) (ref1 : List Int), c1 = giveB c m.2 → ref1.length ≤ p.length + 1 → ∃ (p' r' : List Sig) (c' : Ctl) (ref' : List Int), p' ++ r' = p ++ m :: r ∧ SrtF (T + 1) r' ∧ DeadOk c' ∧ ref'.length ≤ p'.length ∧ (∀ t, T ≤ t → atR r' c' T t = atR (m :: r) c T t) ∧ (∀ m ∈ r', 0 ≤ m.2 ∧ m.2 ≤ 9) ∧
          impl_firedTicks.l120000001 NN L10 k times ms zs last o1 b1 b2 b3 b4 b5 out (p ++ m :: r) ((p.length : Int) + 1) T c1 ref1 = impl_firedTicks.l1000012 NN L10 NN times ms zs last out (p ++ m :: r) p'.length T c' ref' := by
        intro c1 ref1 e1 hr1
        have i := ih (p ++ [m]) c1 ref1 k (by simp; omega) (by omega) (by rw [e1]; exact give_dead hc _) (by rw [← h]; exact hs.2) (fun x hx => hm x (by simp [hx])) (by simp; omega)
        rw [mid_snoc, snoc_len] at i
        obtain ⟨p', r', c', ref', i1, i2, i3, i4, i5, i6, i7⟩ := i
        refine ⟨p', r', c', ref', i1, i2, i3, i4, fun t ht => ?_, i6, i7⟩
        rw [i5 t ht, e1, show m = (T, m.2) by rw [← h], atR_give T m.2 r c ht]
      have hg := impl_giveInput_f c m.2 hc (hm m (by simp))
      have e0 : (m.1 == T) = true := by rw [h]; simp
      simp only [impl_firedTicks.l120000001, impl_firedTicks.g120000001, c0, c1, cw, e0, hg, and_self, and_true, true_and, decide_true, decide_false, if_true, if_false, mid_get, mid_set, mid_getn, mid_setn, bt_mid, Option.bind_some, Bool.not_true, Bool.not_false, Bool.false_eq_true, Bool.true_eq_false, beq_self_eq_true, bne_self_eq_false, Int.toNat_natCast]
      cases hq : giveC c m.2 with
      | some y =>
        simp only [and_self, and_true, true_and, decide_true, decide_false, if_true, if_false, mid_get, mid_set, mid_getn, mid_setn, bt_mid, Option.bind_some, Bool.not_true, Bool.not_false, Bool.false_eq_true, Bool.true_eq_false, beq_self_eq_true, bne_self_eq_false, Int.toNat_natCast]
        exact st y ref (by unfold giveB; rw [hq]; rfl) (by omega)
      | none =>
        have n5 : ((5 : Int) == 0) = false := rfl
        have hro : ref.length + [(p.length : Int)].length < room 8 := by rw [room8]; simp; omega
        simp only [n5, hro, and_self, and_true, true_and, decide_true, decide_false, if_true, if_false, mid_get, mid_set, mid_getn, mid_setn, bt_mid, Option.bind_some, Bool.not_true, Bool.not_false, Bool.false_eq_true, Bool.true_eq_false, beq_self_eq_true, bne_self_eq_false, Int.toNat_natCast]
        exact st c (ref ++ [(p.length : Int)]) (by unfold giveB; rw [hq]; rfl) (by simp; omega)
    · have e0 : (m.1 == T) = false := by simpa using h
      refine ⟨p, m :: r, c, ref, rfl, ⟨by omega, hs.2⟩, hc, hr, fun _ _ => rfl, hm, ?_⟩
      simp only [impl_firedTicks.l120000001, impl_firedTicks.g120000001, c0, c1, e0, and_self, and_true, true_and, decide_true, decide_false, if_true, if_false, mid_get, mid_set, mid_getn, mid_setn, bt_mid, Option.bind_some, Bool.not_true, Bool.not_false, Bool.false_eq_true, Bool.true_eq_false, beq_self_eq_true, bne_self_eq_false, Int.toNat_natCast]
theorem fired_fill (L10 : LF) (l : List Sig) (ms : List Mov) (zs : List ByteArray) (hms : ∀ m ∈ ms, movB m = true) (hml : ms.length ≤ 1000000) (hzl : zs.length ≤ 1000000) (last : Int) (T : Int) (hT : 0 ≤ T ∧ T ≤ 1000000) (hmay : mayC (ctlAt l T) = true) (ls : List Sig) (nx : Int) (c : Ctl) (ref : List Int) : ∀ (r p : List Int) (k : Nat), p.length + r.length ≤ 1000000 → r.length < k → (∀ t ∈ r, 0 ≤ t ∧ t ≤ 10000000) →
    impl_firedTicks.l14 NN L10 k (p ++ r) ms zs last (p ++ r) (p ++ r).length p.length (p.map (firF l ms zs (T + 1)) ++ r.map (firF l ms zs T)) ls nx T c ref = impl_firedTicks.l1000019 NN L10 NN (p ++ r) ms zs last ((p ++ r).map (firF l ms zs (T + 1))) ls nx T c ref := by
  intro r
  induction r with
  | nil =>
    intro p k _ hk _
    obtain ⟨k, rfl⟩ : ∃ j, k = j + 1 := ⟨k - 1, by omega⟩
    simp only [List.append_nil, List.map_nil, impl_firedTicks.l14, impl_firedTicks.g14, Int.lt_irrefl, and_self, and_true, true_and, decide_true, decide_false, if_true, if_false, mid_get, mid_set, mid_getn, mid_setn, bt_mid, Option.bind_some, Bool.not_true, Bool.not_false, Bool.false_eq_true, Bool.true_eq_false, beq_self_eq_true, bne_self_eq_false, Int.toNat_natCast]
  | cons t r ih =>
    intro p k hl hk ht
    simp only [List.length_cons] at hl hk
    obtain ⟨k, rfl⟩ : ∃ j, k = j + 1 := ⟨k - 1, by omega⟩
    have hln := mid_len p r t
    have htt := ht t (by simp)
    have hb := tkT_bd htt
    have c0 : (0 : Int) ≤ (p.length : Int) := by omega
    have c1 : (p.length : Int) < ((p ++ t :: r).length : Int) := by omega
    have cw := w64 (n := (p.length : Int) + 1) (by omega) (by omega)
    have w1 := w64 (n := Int.tdiv t 100) (by unfold tkT at hb; omega) (by unfold tkT at hb; omega)
    have w2 := w64 (n := T * 100) (by omega) (by omega)
    have i := ih (p ++ [t]) k (by simp; omega) (by omega) (fun x hx => ht x (by simp [hx]))
    rw [mid_snoc, snoc_len] at i
    have cl : (p.length : Int) < ((p.map (firF l ms zs (T + 1)) ++ firF l ms zs T t :: r.map (firF l ms zs T)).length : Int) := by
      rw [mid_len, List.length_map]; omega
    have hpm : ((p.map (firF l ms zs (T + 1))).length : Int) = (p.length : Int) := by rw [List.length_map]
    rw [List.map_append, List.map_singleton, mid_snoc] at i
    simp only [List.map_cons]
    by_cases h : tkT t = T
    · have e0 : (Int.tdiv t 100 == T) = true := by unfold tkT at h; rw [h]; simp
      simp only [impl_firedTicks.l14, impl_firedTicks.g14, c0, c1, cw, w1, w2, e0, and_self, and_true, true_and, decide_true, decide_false, if_true, if_false, mid_get, mid_set, mid_getn, mid_setn, bt_mid, Option.bind_some, Bool.not_true, Bool.not_false, Bool.false_eq_true, Bool.true_eq_false, beq_self_eq_true, bne_self_eq_false, Int.toNat_natCast]
      rw [impl_areAllClear_f ms zs (by omega) hms hml hzl, Option.bind_some]
      have eF : firF l ms zs (T + 1) t = if zs.all (clrB ms · (T * 100)) = true then T else -1 := by
        unfold firF firT
        rw [h, if_pos (by omega), hmay, Bool.true_and]
      have eN : firF l ms zs T t = -1 := by unfold firF; rw [if_neg (by omega)]
      rw [eF] at i
      by_cases ha : zs.all (clrB ms · (T * 100)) = true
      · rw [if_pos ha] at i
        rw [if_pos ha, if_pos cl]
        have es : (p.map (firF l ms zs (T + 1)) ++ firF l ms zs T t :: r.map (firF l ms zs T)).set p.length T = p.map (firF l ms zs (T + 1)) ++ T :: r.map (firF l ms zs T) := by
          have := mid_setn (p.map (firF l ms zs (T + 1))) (r.map (firF l ms zs T)) (firF l ms zs T t) T
          rwa [List.length_map] at this
        rw [es]
        exact i
      · rw [if_neg ha] at i
        rw [if_neg ha, eN]
        exact i
    · have e0 : (Int.tdiv t 100 == T) = false := by unfold tkT at h; simpa using h
      have eF : firF l ms zs (T + 1) t = firF l ms zs T t := by
        unfold firF
        by_cases q : tkT t < T
        · rw [if_pos q, if_pos (by omega)]
        · rw [if_neg q, if_neg (by omega)]
      rw [eF] at i
      simp only [impl_firedTicks.l14, impl_firedTicks.g14, c0, c1, cw, w1, e0, and_self, and_true, true_and, decide_true, decide_false, if_true, if_false, mid_get, mid_set, mid_getn, mid_setn, bt_mid, Option.bind_some, Bool.not_true, Bool.not_false, Bool.false_eq_true, Bool.true_eq_false, beq_self_eq_true, bne_self_eq_false, Int.toNat_natCast]
      exact i
theorem fired_main (l : List Sig) (ms : List Mov) (zs : List ByteArray) (hms : ∀ m ∈ ms, movB m = true) (hml : ms.length ≤ 1000000) (hzl : zs.length ≤ 1000000) (hll : l.length ≤ 1000000) (last : Int) (hlast : last ≤ 100000) (times : List Int) (htl : times.length ≤ 1000000) (ht : ∀ t ∈ times, (0 ≤ t ∧ t ≤ 10000000) ∧ tkT t ≤ last) : ∀ (n : Nat) (T : Int) (p r : List Sig) (c : Ctl) (ref : List Int) (k : Nat), 0 ≤ T → T + n = last + 1 → n < k → l = p ++ r → SrtF T r → DeadOk c → ref.length ≤ p.length → (∀ m ∈ r, 0 ≤ m.2 ∧ m.2 ≤ 9) → (∀ t, T ≤ t → atR r c T t = ctlAt l t) →
    impl_firedTicks.l10 NN k times ms zs last (times.map (firF l ms zs T)) l p.length T c ref = some (times.map (firT l ms zs)) := by
  intro n
  induction n with
  | zero =>
    intro T p r c ref k _ hT hk _ _ _ _ _ _
    obtain ⟨k, rfl⟩ : ∃ j, k = j + 1 := ⟨k - 1, by omega⟩
    have c1 : ¬ T ≤ last := by omega
    simp only [impl_firedTicks.l10, impl_firedTicks.g10, c1, and_self, and_true, true_and, decide_true, decide_false, if_true, if_false, mid_get, mid_set, mid_getn, mid_setn, bt_mid, Option.bind_some, Bool.not_true, Bool.not_false, Bool.false_eq_true, Bool.true_eq_false, beq_self_eq_true, bne_self_eq_false, Int.toNat_natCast]
    congr 1
    refine List.map_congr_left fun t h => ?_
    have := (ht t h).2
    unfold firF
    rw [if_pos (by omega)]
  | succ n ih =>
    intro T p r c ref k h0 hT hk hl hs hc hr hm hat
    obtain ⟨k, rfl⟩ : ∃ j, k = j + 1 := ⟨k - 1, by omega⟩
    have c1 : T ≤ last := by omega
    have hll2 := hll
    rw [hl, List.length_append] at hll2
    simp only [impl_firedTicks.l10, impl_firedTicks.g10, c1, and_self, and_true, true_and, decide_true, decide_false, if_true, if_false, mid_get, mid_set, mid_getn, mid_setn, bt_mid, Option.bind_some, Bool.not_true, Bool.not_false, Bool.false_eq_true, Bool.true_eq_false, beq_self_eq_true, bne_self_eq_false, Int.toNat_natCast]
    rw [impl_firedTicks.c1000011 nn0]
    unfold impl_firedTicks.g1000011
    obtain ⟨p', r', c', ref', b1, b2, b3, b4, b5, b6, b7⟩ := fired_begin (impl_firedTicks.l10 NN k) times ms zs last (times.map (firF l ms zs T)) l p.length T c ref (times.map (firF l ms zs T)) T r p c ref NN hll2 (NN_lt (by omega)) hc hs hm hr
    rw [← hl] at b7 b1
    rw [b7, impl_firedTicks.c1000012 nn0]
    unfold impl_firedTicks.g1000012
    rw [impl_mayFire_f, Option.bind_some]
    have hcT : c' = ctlAt l T := by
      rw [← hat T (Int.le_refl T), ← b5 T (Int.le_refl T), atR_now c' b2]
    have w1 := w64 (n := T + 1) (by omega) (by omega)
    have hend : impl_firedTicks.l1000019 NN (impl_firedTicks.l10 NN k) NN times ms zs last (times.map (firF l ms zs (T + 1))) l p'.length T c' ref' = some (times.map (firT l ms zs)) := by
      rw [impl_firedTicks.c1000019 nn0]
      unfold impl_firedTicks.g1000019
      rw [impl_giveInput_f c' 8 b3 (by omega), give_tk]
      simp only [Option.bind_some, w1]
      exact ih (T + 1) p' r' (tkC c') ref' k (by omega) (by omega) (by omega) b1.symm b2 (tk_dead b3) b4 b6 (fun t h => by rw [← atR_step c' b2 h, b5 t (by omega), hat t (by omega)])
    by_cases hmay : mayC c' = true
    · rw [if_pos hmay]
      have := fired_fill (impl_firedTicks.l10 NN k) l ms zs hms hml hzl last T (by omega) (by rw [← hcT]; exact hmay) l p'.length c' ref' times [] NN (by simpa using htl) (NN_lt (by omega)) (fun t h => (ht t h).1)
      rw [List.nil_append, List.map_nil, List.nil_append] at this
      refine Eq.trans this ?_
      exact hend
    · rw [if_neg hmay]
      have e : times.map (firF l ms zs T) = times.map (firF l ms zs (T + 1)) := by
        refine List.map_congr_left fun t h => ?_
        unfold firF
        by_cases q : tkT t < T
        · rw [if_pos q, if_pos (by omega)]
        · rw [if_neg q]
          by_cases q2 : tkT t < T + 1
          · have e3 : tkT t = T := by omega
            rw [if_pos q2]
            unfold firT
            rw [e3, ← hcT]
            simp [hmay]
          · rw [if_neg q2]
      rw [e]
      exact hend
theorem fired_first (l : List Sig) (ms : List Mov) (zs : List ByteArray) : ∀ (r p : List Int) (last : Int) (k : Nat), p.length + r.length ≤ 1000000 → r.length < k → (∀ t ∈ p, (0 ≤ t ∧ t ≤ 10000000) ∧ tkT t ≤ last) → (∀ t ∈ r, 0 ≤ t ∧ t ≤ 10000000) → 0 ≤ last → last ≤ 100000 →
    ∃ last', 0 ≤ last' ∧ last' ≤ 100000 ∧ (∀ t ∈ p ++ r, (0 ≤ t ∧ t ≤ 10000000) ∧ tkT t ≤ last') ∧ impl_firedTicks.l4 NN k (p ++ r) l ms zs last (p ++ r) (p ++ r).length p.length (p.map (fun _ => (-1 : Int)) ++ r.map (fun _ => (0 : Int))) = impl_firedTicks.l10 NN NN (p ++ r) ms zs last' ((p ++ r).map (fun _ => (-1 : Int))) l 0 0 (false, false, false, false, false, 0) [] := by
  intro r
  induction r with
  | nil =>
    intro p last k _ hk hp _ h0 h1
    obtain ⟨k, rfl⟩ : ∃ j, k = j + 1 := ⟨k - 1, by omega⟩
    refine ⟨last, h0, h1, by simpa using hp, ?_⟩
    simp only [List.append_nil, List.map_nil, impl_firedTicks.l4, impl_firedTicks.g4, Int.lt_irrefl, and_self, and_true, true_and, decide_true, decide_false, if_true, if_false, mid_get, mid_set, mid_getn, mid_setn, bt_mid, Option.bind_some, Bool.not_true, Bool.not_false, Bool.false_eq_true, Bool.true_eq_false, beq_self_eq_true, bne_self_eq_false, Int.toNat_natCast]
  | cons t r ih =>
    intro p last k hl hk hp hr h0 h1
    simp only [List.length_cons] at hl hk
    obtain ⟨k, rfl⟩ : ∃ j, k = j + 1 := ⟨k - 1, by omega⟩
    have hln := mid_len p r t
    have htt := hr t (by simp)
    have hb := tkT_bd htt
    have c0 : (0 : Int) ≤ (p.length : Int) := by omega
    have c1 : (p.length : Int) < ((p ++ t :: r).length : Int) := by omega
    have cw := w64 (n := (p.length : Int) + 1) (by omega) (by omega)
    have w1 := w64 (n := Int.tdiv t 100) (by unfold tkT at hb; omega) (by unfold tkT at hb; omega)
    have cl : (p.length : Int) < ((p.map (fun _ => (-1 : Int)) ++ (0 : Int) :: r.map (fun _ => (0 : Int))).length : Int) := by
      rw [mid_len, List.length_map]; omega
    have es : (p.map (fun _ => (-1 : Int)) ++ (0 : Int) :: r.map (fun _ => (0 : Int))).set p.length (-1) = p.map (fun _ => (-1 : Int)) ++ (-1 : Int) :: r.map (fun _ => (0 : Int)) := by
      have := mid_setn (p.map (fun _ => (-1 : Int))) (r.map (fun _ => (0 : Int))) (0 : Int) (-1)
      rwa [List.length_map] at this
    have i := ih (p ++ [t]) (if Int.tdiv t 100 > last then Int.tdiv t 100 else last) k (by simp; omega) (by omega) (fun x hx => by
      rcases List.mem_append.1 hx with h | h
      · have := hp x h
        refine ⟨this.1, ?_⟩
        split <;> omega
      · rw [List.mem_singleton.1 h]
        refine ⟨htt, ?_⟩
        unfold tkT
        split <;> omega) (fun x hx => hr x (by simp [hx])) (by unfold tkT at hb; split <;> omega) (by unfold tkT at hb; split <;> omega)
    rw [mid_snoc, snoc_len, List.map_append, List.map_singleton, mid_snoc] at i
    simp only [List.map_cons, impl_firedTicks.l4, impl_firedTicks.g4, c0, c1, cw, w1, cl, and_self, and_true, true_and, decide_true, decide_false, if_true, if_false, mid_get, mid_set, mid_getn, mid_setn, bt_mid, Option.bind_some, Bool.not_true, Bool.not_false, Bool.false_eq_true, Bool.true_eq_false, beq_self_eq_true, bne_self_eq_false, Int.toNat_natCast, es]
    exact i
theorem impl_firedTicks_f {l : List Sig} (hl : sigsB l = true) {ms : List Mov} (hm : movesB ms = true) (zs : List ByteArray) (hz : zs.length ≤ 1000000) (times : List Int) (htl : times.length ≤ 1000000) (ht : ∀ t ∈ times, 0 ≤ t ∧ t ≤ 10000000) : impl_firedTicks.f times l ms zs = some (times.map (firT l ms zs)) := by
  obtain ⟨h1, h2, h3⟩ := sigsB_iff hl
  obtain ⟨m1, m2, m3⟩ := movesB_iff hm
  obtain ⟨last, l1, l2, l3, l4⟩ := fired_first l ms zs times [] 0 NN (by simpa using htl) (NN_lt (by omega)) (by simp) ht (by omega) (by omega)
  rw [List.nil_append] at l3
  simp only [List.nil_append, List.map_nil, List.length_nil] at l4
  have hr : (times.length : Int) < room 8 := by rw [room8]; omega
  unfold impl_firedTicks.f impl_firedTicks.fn impl_firedTicks.top
  rw [if_pos ⟨by omega, hr, rfl⟩, Int.toNat_natCast, ← List.map_const']
  refine Eq.trans l4 ?_
  have := fired_main l ms zs m3 (by omega) hz (by omega) last l2 times htl l3 (last + 1).toNat 0 [] l (false, false, false, false, false, 0) [] NN (by omega) (by omega) (NN_lt (by omega)) rfl h2 ctl0_dead (by simp) (fun m h => (h3 m h).2.1) (fun t _ => rfl)
  refine Eq.trans ?_ this
  congr 1
  refine List.map_congr_left fun t h => ?_
  have := tkT_bd (ht t h)
  unfold firF
  rw [if_neg (by omega)]
end Go.Pl

namespace Go.Pl
open Go.Ev
set_option linter.unusedVariables false
noncomputable section
def impl_isDay.top (p : Int) : Option Bool :=
 (impl_within.f p 0 100000).bind fun r1 =>
 some r1
def impl_isDay.fn (n : Nat) (p : Int) : Option Bool := impl_isDay.top p
def impl_isDay.f (p : Int) : Option Bool := impl_isDay.fn NN p
end
end Go.Pl

namespace Go.Pl
open Go.Ev
set_option linter.unusedVariables false
noncomputable section
def impl_isCalibre.top (n0 : Int) : Option Bool :=
 (impl_within.f n0 20 300).bind fun r1 =>
 some r1
def impl_isCalibre.fn (n : Nat) (n0 : Int) : Option Bool := impl_isCalibre.top n0
def impl_isCalibre.f (n0 : Int) : Option Bool := impl_isCalibre.fn NN n0
end
end Go.Pl

namespace Go.Pl
open Go.Ev
set_option linter.unusedVariables false
noncomputable section
def impl_IsPermit.g4 (L4 : Int → (Int × Int × Int × Int × List Int × Int) → Option Bool) (i3 : Int) (p1 : Int × Int × Int × Int × List Int × Int) : Option Bool :=
 if (decide ((i3 : Int) < (p1.2.2.2.2.1.length : Int))) = true then
 if (0 : Int) ≤ (IntKind.i64.wrap (i3 - 1)) ∧ ((IntKind.i64.wrap (i3 - 1)) : Int) < p1.2.2.2.2.1.length then
 if (0 : Int) ≤ i3 ∧ (i3 : Int) < p1.2.2.2.2.1.length then
 if (decide (((p1.2.2.2.2.1.getD (i3 : Int).toNat 0) : Int) ≤ (p1.2.2.2.2.1.getD ((IntKind.i64.wrap (i3 - 1)) : Int).toNat 0))) = true then
 some false
 else
 L4 (IntKind.i64.wrap (i3 + 1)) p1
 else
 none
 else
 none
 else
 some true
def impl_IsPermit.l4 (n : Nat) : Nat → Int → (Int × Int × Int × Int × List Int × Int) → Option Bool
 | 0 => fun _ _ => none
 | k + 1 => impl_IsPermit.g4 (impl_IsPermit.l4 n k)
def impl_IsPermit.top (I4 : Int → (Int × Int × Int × Int × List Int × Int) → Option Bool) (p0 : Int × Int × Int × Int × List Int × Int) : Option Bool :=
 (impl_isDay.f p0.1).bind fun r1 =>
 if (!r1) = false then
 (impl_isDay.f p0.2.1).bind fun r2 =>
 if (!r2) = false then
 if (decide ((p0.2.1 : Int) < p0.1)) = false then
 (impl_within.f p0.2.2.1 0 1000000000).bind fun r3 =>
 if (!r3) = false then
 (impl_isCalibre.f p0.2.2.2.1).bind fun r4 =>
 if (!r4) = false then
 (impl_within.f p0.2.2.2.2.2 0 3).bind fun r5 =>
 if (!r5) = false then
 (impl_allWithin.f p0.2.2.2.2.1 0 3).bind fun r6 =>
 if (!r6) = true then
 some false
 else
 I4 1 p0
 else
 some false
 else
 some false
 else
 some false
 else
 some false
 else
 some false
 else
 some false
def impl_IsPermit.fn (n : Nat) (p0 : Int × Int × Int × Int × List Int × Int) : Option Bool := impl_IsPermit.top (impl_IsPermit.l4 n n) p0
def impl_IsPermit.f (p0 : Int × Int × Int × Int × List Int × Int) : Option Bool := impl_IsPermit.fn NN p0
end
end Go.Pl

namespace Go.Pl
open Go.Ev
set_option linter.unusedVariables false
noncomputable section
def spec_l01Rises.g2 (L2 : List Int → Int → Int → Option Bool) (p : List Int) (n1 : Int) (i5 : Int) : Option Bool :=
 if (decide ((i5 : Int) < (p.length : Int))) = true then
 if (0 : Int) ≤ i5 ∧ (i5 : Int) < p.length then
 (spec_l01In.f (p.getD (i5 : Int).toNat 0) 0 (IntKind.i64.wrap (n1 - 1))).bind fun r1 =>
 if (!r1) = false then
 if (decide ((0 : Int) < i5)) = true then
 if (0 : Int) ≤ i5 ∧ (i5 : Int) < p.length then
 if (0 : Int) ≤ (IntKind.i64.wrap (i5 - 1)) ∧ ((IntKind.i64.wrap (i5 - 1)) : Int) < p.length then
 if (decide (((p.getD (i5 : Int).toNat 0) : Int) ≤ (p.getD ((IntKind.i64.wrap (i5 - 1)) : Int).toNat 0))) = true then
 some false
 else
 L2 p n1 (IntKind.i64.wrap (i5 + 1))
 else
 none
 else
 none
 else
 L2 p n1 (IntKind.i64.wrap (i5 + 1))
 else
 some false
 else
 none
 else
 some true
def spec_l01Rises.l2 (n : Nat) : Nat → List Int → Int → Int → Option Bool
 | 0 => fun _ _ _ => none
 | k + 1 => spec_l01Rises.g2 (spec_l01Rises.l2 n k)
def spec_l01Rises.top (I2 : List Int → Int → Int → Option Bool) (p : List Int) (n1 : Int) : Option Bool :=
 I2 p n1 0
def spec_l01Rises.fn (n : Nat) (p : List Int) (n1 : Int) : Option Bool := spec_l01Rises.top (spec_l01Rises.l2 n n) p n1
def spec_l01Rises.f (p : List Int) (n1 : Int) : Option Bool := spec_l01Rises.fn NN p n1
end
end Go.Pl

namespace Go.Pl
open Go.Ev
set_option linter.unusedVariables false
noncomputable section
def spec_IsPermit.top (p0 : Int × Int × Int × Int × List Int × Int) : Option Bool :=
 (spec_l01In.f p0.1 0 100000).bind fun r1 =>
 if r1 = true then
 (spec_l01In.f p0.2.1 p0.1 100000).bind fun r2 =>
 if r2 = true then
 (spec_l01In.f p0.2.2.1 0 1000000000).bind fun r3 =>
 if r3 = true then
 (spec_l01In.f p0.2.2.2.1 20 300).bind fun r4 =>
 if r4 = true then
 (spec_l01Rises.f p0.2.2.2.2.1 4).bind fun r5 =>
 if r5 = true then
 (spec_l01In.f p0.2.2.2.2.2 0 3).bind fun r6 =>
 some r6
 else
 some false
 else
 some false
 else
 some false
 else
 some false
 else
 some false
def spec_IsPermit.fn (n : Nat) (p0 : Int × Int × Int × Int × List Int × Int) : Option Bool := spec_IsPermit.top p0
def spec_IsPermit.f (p0 : Int × Int × Int × Int × List Int × Int) : Option Bool := spec_IsPermit.fn NN p0
end
end Go.Pl

namespace Go.Pl
open Go.Ev
set_option linter.unusedVariables false
set_option linter.unusedSimpArgs false
theorem impl_allWithin_f (xs : List Int) (lo hi : Int) (h : xs.length ≤ 140737488355328) : impl_allWithin.f xs lo hi = some (xs.all (inB · lo hi)) := by
  have := all_loop (E := fun _ => True) (inB · lo hi) (fun _ => some true) (fun k xs i => impl_allWithin.l2 NN k lo hi xs xs.length i) ?_ ?_ xs (fun _ _ => trivial) h NN (NN_lt (by omega))
  · unfold impl_allWithin.f impl_allWithin.fn impl_allWithin.top
    refine this.trans ?_
    cases xs.all (inB · lo hi) <;> simp
  · intro k p
    simp [impl_allWithin.l2, impl_allWithin.g2]
  · intro k p a r _ c0 c1 cw
    simp only [impl_allWithin.l2, impl_allWithin.g2, c0, c1, cw, and_self, and_true, true_and, decide_true, decide_false, if_true, if_false, mid_get, mid_set, mid_getn, mid_setn, bt_mid, Option.bind_some, Bool.not_true, Bool.not_false, Bool.false_eq_true, Bool.true_eq_false, beq_self_eq_true, bne_self_eq_false, Int.toNat_natCast, impl_within_f]
    cases inB a lo hi <;> simp
end Go.Pl

namespace Go.Pl
open Go.Ev
set_option linter.unusedVariables false
noncomputable section
def spec_l01All.g2 (L2 : List ByteArray → Int → Option Bool) (p : List ByteArray) (i3 : Int) : Option Bool :=
 if (decide ((i3 : Int) < (p.length : Int))) = true then
 if (0 : Int) ≤ i3 ∧ (i3 : Int) < p.length then
 (spec_IsWord.f (p.getD (i3 : Int).toNat ByteArray.empty)).bind fun r1 =>
 if (!r1) = true then
 some false
 else
 L2 p (IntKind.i64.wrap (i3 + 1))
 else
 none
 else
 some true
def spec_l01All.l2 (n : Nat) : Nat → List ByteArray → Int → Option Bool
 | 0 => fun _ _ => none
 | k + 1 => spec_l01All.g2 (spec_l01All.l2 n k)
def spec_l01All.top (I2 : List ByteArray → Int → Option Bool) (p : List ByteArray) : Option Bool :=
 I2 p 0
def spec_l01All.fn (n : Nat) (p : List ByteArray) : Option Bool := spec_l01All.top (spec_l01All.l2 n n) p
def spec_l01All.f (p : List ByteArray) : Option Bool := spec_l01All.fn NN p
end
end Go.Pl

namespace Go.Pl
open Go.Ev
set_option linter.unusedVariables false
noncomputable section
def spec_l22Times.g2 (L2 : List Int → YE → YD → List ByteArray → Int → Option Int) (p : List Int) (s : List YC) (r : List YA) (q : List ByteArray) (i9 : Int) : Option Int :=
 if (decide ((i9 : Int) < (p.length : Int))) = true then
 if (0 : Int) ≤ i9 ∧ (i9 : Int) < p.length then
 (spec_l01IsTime.f (p.getD (i9 : Int).toNat 0)).bind fun r1 =>
 if (!r1) = true then
 some 1
 else
 L2 p s r q (IntKind.i64.wrap (i9 + 1))
 else
 none
 else if (decide ((20 : Int) < (p.length : Int))) = false then
 (spec_AreSignals.f s).bind fun r2 =>
 if (!r2) = false then
 (spec_AreMoves.f r).bind fun r3 =>
 if (!r3) = false then
 (spec_l01All.f q).bind fun r4 =>
 if (!r4) = false then
 if (decide ((60 : Int) < (q.length : Int))) = true then
 some 1
 else
 some 0
 else
 some 1
 else
 some 1
 else
 some 1
 else
 some 1
def spec_l22Times.l2 (n : Nat) : Nat → List Int → YE → YD → List ByteArray → Int → Option Int
 | 0 => fun _ _ _ _ _ => none
 | k + 1 => spec_l22Times.g2 (spec_l22Times.l2 n k)
def spec_l22Times.top (I2 : List Int → YE → YD → List ByteArray → Int → Option Int) (p : List Int) (s : List YC) (r : List YA) (q : List ByteArray) : Option Int :=
 I2 p s r q 0
def spec_l22Times.fn (n : Nat) (p : List Int) (s : List YC) (r : List YA) (q : List ByteArray) : Option Int := spec_l22Times.top (spec_l22Times.l2 n n) p s r q
def spec_l22Times.f (p : List Int) (s : List YC) (r : List YA) (q : List ByteArray) : Option Int := spec_l22Times.fn NN p s r q
end
end Go.Pl

namespace Go.Pl
open Go.Ev
set_option linter.unusedVariables false
noncomputable section
def spec_FiredSafely.top (p : List Int) (s : List YC) (q : List YA) (r : List ByteArray) : Option YAE :=
 (spec_l22Times.f p s q r).bind fun r1 =>
 if ((r1 : Int) != 0) = true then
 some ([], r1)
 else
 (spec_l22Fired.f p s q r).bind fun r2 =>
 some (r2, 0)
def spec_FiredSafely.fn (n : Nat) (p : List Int) (s : List YC) (q : List YA) (r : List ByteArray) : Option YAE := spec_FiredSafely.top p s q r
def spec_FiredSafely.f (p : List Int) (s : List YC) (q : List YA) (r : List ByteArray) : Option YAE := spec_FiredSafely.fn NN p s q r
end
end Go.Pl

namespace Go.Pl
open Go.Ev
set_option linter.unusedVariables false
set_option linter.unusedSimpArgs false
theorem spec_fired_in (times : List Int) (l : List Sig) (ms : List Mov) (zs : List ByteArray) (L3 : List Int → List Sig → List Mov → List ByteArray → Int → List Int → Option (List Int)) (hs : SrtM ms) (hms : ∀ m ∈ ms, movB m = true) (hml : ms.length ≤ 1000000) (i T : Int) (hT : 0 ≤ T ∧ T ≤ 1000000) (out : List Int) (ho : out.length ≤ 1000000) : ∀ (r p : List ByteArray) (b : Bool) (k : Nat), zs = p ++ r → p.length + r.length ≤ 1000000 → r.length < k →
    spec_l22Fired.l9 NN L3 k times l ms zs i T b p.length out = L3 times l ms zs (IntKind.i64.wrap (i + 1)) (out ++ [if (b && r.all (clrB ms · (T * 100))) = true then T else -1]) := by
  intro r
  induction r with
  | nil =>
    intro p b k hz hl hk
    obtain ⟨k, rfl⟩ : ∃ j, k = j + 1 := ⟨k - 1, by omega⟩
    rw [List.append_nil] at hz
    have c1 : ¬ (p.length : Int) < (zs.length : Int) := by rw [hz]; omega
    have h1 : ∀ x : Int, out.length + [x].length < room 8 := fun x => by rw [room8]; simp; omega
    simp only [spec_l22Fired.l9, spec_l22Fired.g9, c1, h1, and_self, and_true, true_and, decide_true, decide_false, if_true, if_false, mid_get, mid_set, mid_getn, mid_setn, bt_mid, Option.bind_some, Bool.not_true, Bool.not_false, Bool.false_eq_true, Bool.true_eq_false, beq_self_eq_true, bne_self_eq_false, Int.toNat_natCast, List.all_nil, Bool.and_true]
    cases b <;> rfl
  | cons z r ih =>
    intro p b k hz hl hk
    simp only [List.length_cons] at hl hk
    obtain ⟨k, rfl⟩ : ∃ j, k = j + 1 := ⟨k - 1, by omega⟩
    have c0 : (0 : Int) ≤ (p.length : Int) := by omega
    have c1 : (p.length : Int) < (zs.length : Int) := by rw [hz]; simp; omega
    have cw := w64 (n := (p.length : Int) + 1) (by omega) (by omega)
    have w2 := w64 (n := T * 100) (by omega) (by omega)
    have g : ∀ w, zs.getD p.length w = z := fun w => by rw [hz]; exact mid_getn p r z w
    have i1 := fun b => ih (p ++ [z]) b k (by rw [hz, mid_snoc]) (by simp; omega) (by omega)
    simp only [snoc_len] at i1
    rw [List.all_cons]
    simp only [spec_l22Fired.l9, spec_l22Fired.g9, c0, c1, cw, w2, and_self, and_true, true_and, decide_true, decide_false, if_true, if_false, mid_get, mid_set, mid_getn, mid_setn, bt_mid, Option.bind_some, Bool.not_true, Bool.not_false, Bool.false_eq_true, Bool.true_eq_false, beq_self_eq_true, bne_self_eq_false, Int.toNat_natCast, g]
    cases b
    · simp only [and_self, and_true, true_and, decide_true, decide_false, if_true, if_false, mid_get, mid_set, mid_getn, mid_setn, bt_mid, Option.bind_some, Bool.not_true, Bool.not_false, Bool.false_eq_true, Bool.true_eq_false, beq_self_eq_true, bne_self_eq_false, Int.toNat_natCast, Bool.false_and]
      have := i1 false
      simp only [Bool.false_and, Bool.false_eq_true, if_false] at this
      exact this
    · simp only [and_self, and_true, true_and, decide_true, decide_false, if_true, if_false, mid_get, mid_set, mid_getn, mid_setn, bt_mid, Option.bind_some, Bool.not_true, Bool.not_false, Bool.false_eq_true, Bool.true_eq_false, beq_self_eq_true, bne_self_eq_false, Int.toNat_natCast]
      rw [spec_l20Clear_f ms z (by omega) hs hms hml, Option.bind_some, i1, Bool.true_and]
theorem spec_l22Fired_f {l : List Sig} (hl : sigsB l = true) {ms : List Mov} (hm : movesB ms = true) (zs : List ByteArray) (hz : zs.length ≤ 1000000) (times : List Int) (htl : times.length ≤ 1000000) (ht : ∀ t ∈ times, 0 ≤ t ∧ t ≤ 10000000) : spec_l22Fired.f times l ms zs = some (times.map (firT l ms zs)) := by
  obtain ⟨m1, m2, m3⟩ := movesB_iff hm
  have := (fold_fix (E := fun t : Int => 0 ≤ t ∧ t ≤ 10000000) (fun p (st : List Int) => st = p.map (firT l ms zs)) (fun _ st t => st ++ [firT l ms zs t]) (fun st => some st) (fun k i st => spec_l22Fired.l3 NN k times l ms zs i st) times ?_ ?_ [] ht rfl (by omega) NN (NN_lt (by omega)))
  · unfold spec_l22Fired.f spec_l22Fired.fn spec_l22Fired.top
    rw [this.2, this.1]
  · intro k st _
    simp [spec_l22Fired.l3, spec_l22Fired.g3]
  · intro k p t r st hx htt hI c0 c1 c2 cw g
    have hb := tkT_bd htt
    have hpl : p.length ≤ 1000000 := by rw [hx] at htl; simp at htl; omega
    have w1 := w64 (n := Int.tdiv t 100) (by unfold tkT at hb; omega) (by unfold tkT at hb; omega)
    refine ⟨by rw [hI]; simp, ?_⟩
    obtain ⟨q, hq⟩ := spec_l22At_f hl (t := tkT t) (by omega)
    have hb' : 0 ≤ Int.tdiv t 100 ∧ Int.tdiv t 100 ≤ 100000 := hb
    have e1 : tkT t = Int.tdiv t 100 := rfl
    rw [e1] at hq
    simp only [spec_l22Fired.l3, spec_l22Fired.g3, c0, c1, and_self, and_true, true_and, decide_true, decide_false, if_true, if_false, mid_get, mid_set, mid_getn, mid_setn, bt_mid, Option.bind_some, Bool.not_true, Bool.not_false, Bool.false_eq_true, Bool.true_eq_false, beq_self_eq_true, bne_self_eq_false, Int.toNat_natCast, g, w1, hq]
    have key := fun b => spec_fired_in times l ms zs (spec_l22Fired.l3 NN k) m2 m3 (by omega) (p.length : Int) (Int.tdiv t 100) (by omega) st (by rw [hI, List.length_map]; omega) zs [] b NN rfl (by simpa using hz) (NN_lt (by omega))
    simp only [List.length_nil] at key
    have eF : firT l ms zs t = if (mayC (ctlAt l (Int.tdiv t 100)) && zs.all (clrB ms · (Int.tdiv t 100 * 100))) = true then Int.tdiv t 100 else -1 := rfl
    rw [eF]
    unfold mayC
    generalize ctlAt l (Int.tdiv t 100) = c at *
    obtain ⟨a, b, r2, e, s, d⟩ := c
    cases r2
    · simp only [and_self, and_true, true_and, decide_true, decide_false, if_true, if_false, mid_get, mid_set, mid_getn, mid_setn, bt_mid, Option.bind_some, Bool.not_true, Bool.not_false, Bool.false_eq_true, Bool.true_eq_false, beq_self_eq_true, bne_self_eq_false, Int.toNat_natCast, Bool.false_and]
      refine (key false).trans ?_
      rw [cw]
      simp
    · simp only [and_self, and_true, true_and, decide_true, decide_false, if_true, if_false, mid_get, mid_set, mid_getn, mid_setn, bt_mid, Option.bind_some, Bool.not_true, Bool.not_false, Bool.false_eq_true, Bool.true_eq_false, beq_self_eq_true, bne_self_eq_false, Int.toNat_natCast]
      refine (key (!e)).trans ?_
      rw [cw, Bool.true_and]
def zonesB (zs : List ByteArray) : Bool := decide (zs.length ≤ 60) && zs.all wordB
theorem impl_areZones_f (zs : List ByteArray) (hl : zs.length ≤ 1000000) (hz : ∀ z ∈ zs, Sz z) : impl_areZones.f zs = some (zonesB zs) := by
  have := all_loop (E := fun z : ByteArray => Sz z) wordB (fun v => some true) (fun k v i => impl_areZones.l4 NN k v v.length i) ?_ ?_ zs hz (by omega) NN (NN_lt (by omega))
  · unfold impl_areZones.f impl_areZones.fn impl_areZones.top zonesB
    by_cases h : (60 : Int) < (zs.length : Int)
    · have : ¬ zs.length ≤ 60 := by omega
      simp [h, this]
    · have h2 : zs.length ≤ 60 := by omega
      simp only [h, h2, and_self, and_true, true_and, decide_true, decide_false, if_true, if_false, mid_get, mid_set, mid_getn, mid_setn, bt_mid, Option.bind_some, Bool.not_true, Bool.not_false, Bool.false_eq_true, Bool.true_eq_false, beq_self_eq_true, bne_self_eq_false, Int.toNat_natCast]
      rw [this]
      cases zs.all wordB <;> rfl
  · intro k p
    simp [impl_areZones.l4, impl_areZones.g4]
  · intro k p z r hz c0 c1 cw
    simp only [impl_areZones.l4, impl_areZones.g4, c0, c1, cw, and_self, and_true, true_and, decide_true, decide_false, if_true, if_false, mid_get, mid_set, mid_getn, mid_setn, bt_mid, Option.bind_some, Bool.not_true, Bool.not_false, Bool.false_eq_true, Bool.true_eq_false, beq_self_eq_true, bne_self_eq_false, Int.toNat_natCast]
    rw [impl_IsWord_f z hz]
    cases wordB z <;> rfl
theorem spec_l01All_f (zs : List ByteArray) (hl : zs.length ≤ 1000000) (hz : ∀ z ∈ zs, Sz z) : spec_l01All.f zs = some (zs.all wordB) := by
  have := all_loop (E := fun z : ByteArray => Sz z) wordB (fun v => some true) (fun k v i => spec_l01All.l2 NN k v i) ?_ ?_ zs hz (by omega) NN (NN_lt (by omega))
  · unfold spec_l01All.f spec_l01All.fn spec_l01All.top
    rw [this]
    cases zs.all wordB <;> rfl
  · intro k p
    simp [spec_l01All.l2, spec_l01All.g2]
  · intro k p z r hz c0 c1 cw
    simp only [spec_l01All.l2, spec_l01All.g2, c0, c1, cw, and_self, and_true, true_and, decide_true, decide_false, if_true, if_false, mid_get, mid_set, mid_getn, mid_setn, bt_mid, Option.bind_some, Bool.not_true, Bool.not_false, Bool.false_eq_true, Bool.true_eq_false, beq_self_eq_true, bne_self_eq_false, Int.toNat_natCast]
    rw [spec_IsWord_f z hz]
    cases wordB z <;> rfl
def firOk (times : List Int) (l : List Sig) (ms : List Mov) (zs : List ByteArray) : Bool := decide (times.length ≤ 20) && times.all (inB · 0 10000000) && sigsB l && movesB ms && zonesB zs
def firR (times : List Int) (l : List Sig) (ms : List Mov) (zs : List ByteArray) : List Int × Int := if firOk times l ms zs = true then (times.map (firT l ms zs), 0) else ([], 1)
theorem impl_areFired_f (times : List Int) (l : List Sig) (ms : List Mov) (zs : List ByteArray) (h1 : times.length ≤ 1000000) (h2 : l.length ≤ 1000000) (h3 : ms.length ≤ 1000000) (h3z : ∀ m ∈ ms, Sz m.2.1) (h4 : zs.length ≤ 1000000) (h4z : ∀ z ∈ zs, Sz z) : impl_areFired.f times l ms zs = some (firOk times l ms zs) := by
  unfold impl_areFired.f impl_areFired.fn impl_areFired.top impl_areCueTimes.f impl_areCueTimes.fn impl_areCueTimes.top firOk
  rw [impl_allWithin_f times 0 10000000 (by omega), impl_AreSignals_f l h2, impl_AreMoves_f ms h3 h3z, impl_areZones_f zs h4 h4z]
  have e : decide ((times.length : Int) ≤ 20) = decide (times.length ≤ 20) := by congr 1; exact propext (by omega)
  rw [e]
  cases decide (times.length ≤ 20) <;> cases times.all (inB · 0 10000000) <;> cases sigsB l <;> cases movesB ms <;> cases zonesB zs <;> rfl
theorem spec_l22Times_f (times : List Int) (l : List Sig) (ms : List Mov) (zs : List ByteArray) (h1 : times.length ≤ 1000000) (h2 : l.length ≤ 1000000) (h3 : ms.length ≤ 1000000) (h3z : ∀ m ∈ ms, Sz m.2.1) (h4 : zs.length ≤ 1000000) (h4z : ∀ z ∈ zs, Sz z) : spec_l22Times.f times l ms zs = some (if firOk times l ms zs = true then 0 else 1) := by
  have key : ∀ (r p : List Int) (k : Nat), p.length + r.length ≤ 1000000 → r.length < k → spec_l22Times.l2 NN k (p ++ r) l ms zs p.length = some (if (r.all (inB · 0 10000000) && (decide ((p ++ r).length ≤ 20) && sigsB l && movesB ms && zonesB zs)) = true then 0 else 1) := by
    intro r
    induction r with
    | nil =>
      intro p k _ hk
      obtain ⟨k, rfl⟩ : ∃ j, k = j + 1 := ⟨k - 1, by omega⟩
      simp only [List.append_nil, spec_l22Times.l2, spec_l22Times.g2, Int.lt_irrefl, and_self, and_true, true_and, decide_true, decide_false, if_true, if_false, mid_get, mid_set, mid_getn, mid_setn, bt_mid, Option.bind_some, Bool.not_true, Bool.not_false, Bool.false_eq_true, Bool.true_eq_false, beq_self_eq_true, bne_self_eq_false, Int.toNat_natCast, List.all_nil, zonesB]
      rw [spec_AreSignals_f l h2, spec_AreMoves_f ms h3 h3z, spec_l01All_f zs h4 h4z]
      have e : decide ((20 : Int) < (p.length : Int)) = !decide (p.length ≤ 20) := by rw [← decide_not]; congr 1; exact propext (by omega)
      have e2 : decide ((60 : Int) < (zs.length : Int)) = !decide (zs.length ≤ 60) := by rw [← decide_not]; congr 1; exact propext (by omega)
      rw [e, e2]
      cases decide (p.length ≤ 20) <;> cases sigsB l <;> cases movesB ms <;> cases zs.all wordB <;> cases decide (zs.length ≤ 60) <;> rfl
    | cons t r ih =>
      intro p k hl hk
      simp only [List.length_cons] at hl hk
      obtain ⟨k, rfl⟩ : ∃ j, k = j + 1 := ⟨k - 1, by omega⟩
      have hln := mid_len p r t
      have c0 : (0 : Int) ≤ (p.length : Int) := by omega
      have c1 : (p.length : Int) < ((p ++ t :: r).length : Int) := by omega
      have cw := w64 (n := (p.length : Int) + 1) (by omega) (by omega)
      have i := ih (p ++ [t]) k (by simp; omega) (by omega)
      rw [mid_snoc, snoc_len] at i
      rw [List.all_cons]
      simp only [spec_l22Times.l2, spec_l22Times.g2, c0, c1, cw, and_self, and_true, true_and, decide_true, decide_false, if_true, if_false, mid_get, mid_set, mid_getn, mid_setn, bt_mid, Option.bind_some, Bool.not_true, Bool.not_false, Bool.false_eq_true, Bool.true_eq_false, beq_self_eq_true, bne_self_eq_false, Int.toNat_natCast, spec_l01IsTime_f]
      cases inB t 0 10000000
      · simp
      · simp only [and_self, and_true, true_and, decide_true, decide_false, if_true, if_false, mid_get, mid_set, mid_getn, mid_setn, bt_mid, Option.bind_some, Bool.not_true, Bool.not_false, Bool.false_eq_true, Bool.true_eq_false, beq_self_eq_true, bne_self_eq_false, Int.toNat_natCast]
        exact i
  have := key times [] NN (by simpa using h1) (NN_lt (by omega))
  rw [List.nil_append] at this
  unfold spec_l22Times.f spec_l22Times.fn spec_l22Times.top
  refine Eq.trans this ?_
  have e : (times.all (inB · 0 10000000) && (decide (times.length ≤ 20) && sigsB l && movesB ms && zonesB zs)) = firOk times l ms zs := by
    unfold firOk
    cases decide (times.length ≤ 20) <;> cases times.all (inB · 0 10000000) <;> cases sigsB l <;> cases movesB ms <;> cases zonesB zs <;> rfl
  rw [e]
theorem FiredSafely_both (times : List Int) (l : List Sig) (ms : List Mov) (zs : List ByteArray) (h1 : times.length ≤ 1000000) (h2 : l.length ≤ 1000000) (h3 : ms.length ≤ 1000000) (h3z : ∀ m ∈ ms, Sz m.2.1) (h4 : zs.length ≤ 1000000) (h4z : ∀ z ∈ zs, Sz z) : impl_FiredSafely.f times l ms zs = some (firR times l ms zs) ∧ spec_FiredSafely.f times l ms zs = some (firR times l ms zs) := by
  unfold impl_FiredSafely.f impl_FiredSafely.fn impl_FiredSafely.top spec_FiredSafely.f spec_FiredSafely.fn spec_FiredSafely.top firR
  rw [impl_areFired_f times l ms zs h1 h2 h3 h3z h4 h4z, spec_l22Times_f times l ms zs h1 h2 h3 h3z h4 h4z]
  by_cases h : firOk times l ms zs = true
  · have h' := h
    unfold firOk at h'
    simp only [Bool.and_eq_true, decide_eq_true_eq, List.all_eq_true, inB_iff] at h'
    rw [h]
    simp only [and_self, and_true, true_and, decide_true, decide_false, if_true, if_false, mid_get, mid_set, mid_getn, mid_setn, bt_mid, Option.bind_some, Bool.not_true, Bool.not_false, Bool.false_eq_true, Bool.true_eq_false, beq_self_eq_true, bne_self_eq_false, Int.toNat_natCast]
    rw [impl_firedTicks_f h'.1.1.2 h'.1.2 zs h4 times h1 (fun t ht => h'.1.1.1.2 t ht), spec_l22Fired_f h'.1.1.2 h'.1.2 zs h4 times h1 (fun t ht => h'.1.1.1.2 t ht)]
    exact ⟨rfl, rfl⟩
  · have h' : firOk times l ms zs = false := by simpa using h
    rw [h']
    exact ⟨rfl, rfl⟩
end Go.Pl

namespace Go.Pl
open Go.Ev
set_option linter.unusedVariables false
set_option linter.unusedSimpArgs false
abbrev LC := Int → Bool → Bool → Bool → Bool → Bool → Int → List Sig → Int → Int → Ctl → List Int → Option (Ctl × Int)
theorem ca_beg1 (L7 : LC) (tick : Int) (v1 v2 v3 v4 v5 : Bool) (v6 : Int) (b1 : List Sig) (b2 b3 : Int) (b4 : Ctl) (b5 : List Int) (u1 u2 u3 u4 u5 : Bool) (u6 : Int) (T : Int) : ∀ (r p : List Sig) (c : Ctl) (ref : List Int) (k : Nat), p.length + r.length ≤ 1000000 → r.length < k → DeadOk c → SrtF T r → (∀ m ∈ r, 0 ≤ m.2 ∧ m.2 ≤ 9) → ref.length ≤ p.length →
    ∃ (p' r' : List Sig) (c' : Ctl) (ref' : List Int), p' ++ r' = p ++ r ∧ SrtF (T + 1) r' ∧ DeadOk c' ∧ ref'.length ≤ p'.length ∧ (∀ t, T ≤ t → atR r' c' T t = atR r c T t) ∧ (∀ m ∈ r', 0 ≤ m.2 ∧ m.2 ≤ 9) ∧
      impl_ControllerAt.l100000001 NN L7 k tick v1 v2 v3 v4 v5 v6 b1 b2 b3 b4 b5 u1 u2 u3 u4 u5 u6 (p ++ r) p.length T c ref = L7 tick u1 u2 u3 u4 u5 u6 (p ++ r) p'.length T c' ref' := by
  intro r
  induction r with
  | nil =>
    intro p c ref k _ hk hc _ _ hr
    obtain ⟨k, rfl⟩ : ∃ j, k = j + 1 := ⟨k - 1, by omega⟩
    refine ⟨p, [], c, ref, rfl, trivial, hc, hr, fun _ _ => rfl, by simp, ?_⟩
    simp only [List.append_nil, impl_ControllerAt.l100000001, impl_ControllerAt.g100000001, Int.lt_irrefl, and_self, and_true, true_and, decide_true, decide_false, if_true, if_false, mid_get, mid_set, mid_getn, mid_setn, bt_mid, Option.bind_some, Bool.not_true, Bool.not_false, Bool.false_eq_true, Bool.true_eq_false, beq_self_eq_true, bne_self_eq_false, Int.toNat_natCast]
  | cons m r ih =>
    intro p c ref k hl hk hc hs hm hr
    simp only [List.length_cons] at hl hk
    obtain ⟨k, rfl⟩ : ∃ j, k = j + 1 := ⟨k - 1, by omega⟩
    have hln := mid_len p r m
    have c0 : (0 : Int) ≤ (p.length : Int) := by omega
    have c1 : (p.length : Int) < ((p ++ m :: r).length : Int) := by omega
    have cw := w64 (n := (p.length : Int) + 1) (by omega) (by omega)
    have hs1 := hs.1
    by_cases h : m.1 = T
    · have st : ∀ (c1 : Ctl) (ref1 : List Int), c1 = giveB c m.2 → ref1.length ≤ p.length + 1 → ∃ (p' r' : List Sig) (c' : Ctl) (ref' : List Int), p' ++ r' = p ++ m :: r ∧ SrtF (T + 1) r' ∧ DeadOk c' ∧ ref'.length ≤ p'.length ∧ (∀ t, T ≤ t → atR r' c' T t = atR (m :: r) c T t) ∧ (∀ m ∈ r', 0 ≤ m.2 ∧ m.2 ≤ 9) ∧
          impl_ControllerAt.l100000001 NN L7 k tick v1 v2 v3 v4 v5 v6 b1 b2 b3 b4 b5 u1 u2 u3 u4 u5 u6 (p ++ m :: r) ((p.length : Int) + 1) T c1 ref1 = L7 tick u1 u2 u3 u4 u5 u6 (p ++ m :: r) p'.length T c' ref' := by
        intro c1 ref1 e1 hr1
        have i := ih (p ++ [m]) c1 ref1 k (by simp; omega) (by omega) (by rw [e1]; exact give_dead hc _) (by rw [← h]; exact hs.2) (fun x hx => hm x (by simp [hx])) (by simp; omega)
        rw [mid_snoc, snoc_len] at i
        obtain ⟨p', r', c', ref', i1, i2, i3, i4, i5, i6, i7⟩ := i
        refine ⟨p', r', c', ref', i1, i2, i3, i4, fun t ht => ?_, i6, i7⟩
        rw [i5 t ht, e1, show m = (T, m.2) by rw [← h], atR_give T m.2 r c ht]
      have hg := impl_giveInput_f c m.2 hc (hm m (by simp))
      have e0 : (m.1 == T) = true := by rw [h]; simp
      simp only [impl_ControllerAt.l100000001, impl_ControllerAt.g100000001, c0, c1, cw, e0, hg, and_self, and_true, true_and, decide_true, decide_false, if_true, if_false, mid_get, mid_set, mid_getn, mid_setn, bt_mid, Option.bind_some, Bool.not_true, Bool.not_false, Bool.false_eq_true, Bool.true_eq_false, beq_self_eq_true, bne_self_eq_false, Int.toNat_natCast]
      cases hq : giveC c m.2 with
      | some y =>
        simp only [and_self, and_true, true_and, decide_true, decide_false, if_true, if_false, mid_get, mid_set, mid_getn, mid_setn, bt_mid, Option.bind_some, Bool.not_true, Bool.not_false, Bool.false_eq_true, Bool.true_eq_false, beq_self_eq_true, bne_self_eq_false, Int.toNat_natCast]
        exact st y ref (by unfold giveB; rw [hq]; rfl) (by omega)
      | none =>
        have n5 : ((5 : Int) == 0) = false := rfl
        have hro : ref.length + [(p.length : Int)].length < room 8 := by rw [room8]; simp; omega
        simp only [n5, hro, and_self, and_true, true_and, decide_true, decide_false, if_true, if_false, mid_get, mid_set, mid_getn, mid_setn, bt_mid, Option.bind_some, Bool.not_true, Bool.not_false, Bool.false_eq_true, Bool.true_eq_false, beq_self_eq_true, bne_self_eq_false, Int.toNat_natCast]
        exact st c (ref ++ [(p.length : Int)]) (by unfold giveB; rw [hq]; rfl) (by simp; omega)
    · have e0 : (m.1 == T) = false := by simpa using h
      refine ⟨p, m :: r, c, ref, rfl, ⟨by omega, hs.2⟩, hc, hr, fun _ _ => rfl, hm, ?_⟩
      simp only [impl_ControllerAt.l100000001, impl_ControllerAt.g100000001, c0, c1, e0, and_self, and_true, true_and, decide_true, decide_false, if_true, if_false, mid_get, mid_set, mid_getn, mid_setn, bt_mid, Option.bind_some, Bool.not_true, Bool.not_false, Bool.false_eq_true, Bool.true_eq_false, beq_self_eq_true, bne_self_eq_false, Int.toNat_natCast]
theorem ca_beg0 (tick : Int) (v1 v2 v3 v4 v5 : Bool) (v6 : Int) (b1 : List Sig) (b2 b3 : Int) (x1 x2 x3 x4 x5 : Bool) (x6 : Int) (b5 : List Int) (u1 u2 u3 u4 u5 : Bool) (u6 : Int) (T : Int) : ∀ (r p : List Sig) (c : Ctl) (ref : List Int) (k : Nat), p.length + r.length ≤ 1000000 → r.length < k → DeadOk c → SrtF T r → (∀ m ∈ r, 0 ≤ m.2 ∧ m.2 ≤ 9) → ref.length ≤ p.length →
    ∃ (p' r' : List Sig) (c' : Ctl) (ref' : List Int), p' ++ r' = p ++ r ∧ SrtF (T + 1) r' ∧ DeadOk c' ∧ ref'.length ≤ p'.length ∧ (∀ t, T ≤ t → atR r' c' T t = atR r c T t) ∧ (∀ m ∈ r', 0 ≤ m.2 ∧ m.2 ≤ 9) ∧
      impl_ControllerAt.l70000001 NN k tick v1 v2 v3 v4 v5 v6 b1 b2 b3 x1 x2 x3 x4 x5 x6 b5 u1 u2 u3 u4 u5 u6 (p ++ r) p.length T c ref = impl_ControllerAt.l1000007 NN NN tick u1 u2 u3 u4 u5 u6 (p ++ r) p'.length T c' ref' := by
  intro r
  induction r with
  | nil =>
    intro p c ref k _ hk hc _ _ hr
    obtain ⟨k, rfl⟩ : ∃ j, k = j + 1 := ⟨k - 1, by omega⟩
    refine ⟨p, [], c, ref, rfl, trivial, hc, hr, fun _ _ => rfl, by simp, ?_⟩
    simp only [List.append_nil, impl_ControllerAt.l70000001, impl_ControllerAt.g70000001, Int.lt_irrefl, and_self, and_true, true_and, decide_true, decide_false, if_true, if_false, mid_get, mid_set, mid_getn, mid_setn, bt_mid, Option.bind_some, Bool.not_true, Bool.not_false, Bool.false_eq_true, Bool.true_eq_false, beq_self_eq_true, bne_self_eq_false, Int.toNat_natCast]
  | cons m r ih =>
    intro p c ref k hl hk hc hs hm hr
    simp only [List.length_cons] at hl hk
    obtain ⟨k, rfl⟩ : ∃ j, k = j + 1 := ⟨k - 1, by omega⟩
    have hln := mid_len p r m
    have c0 : (0 : Int) ≤ (p.length : Int) := by omega
    have c1 : (p.length : Int) < ((p ++ m :: r).length : Int) := by omega
    have cw := w64 (n := (p.length : Int) + 1) (by omega) (by omega)
    have hs1 := hs.1
    by_cases h : m.1 = T
    · have st : ∀ (c1 : Ctl) (ref1 : List Int), c1 = giveB c m.2 → ref1.length ≤ p.length + 1 → ∃ (p' r' : List Sig) (c' : Ctl) (ref' : List Int), p' ++ r' = p ++ m :: r ∧ SrtF (T + 1) r' ∧ DeadOk c' ∧ ref'.length ≤ p'.length ∧ (∀ t, T ≤ t → atR r' c' T t = atR (m :: r) c T t) ∧ (∀ m ∈ r', 0 ≤ m.2 ∧ m.2 ≤ 9) ∧
          impl_ControllerAt.l70000001 NN k tick v1 v2 v3 v4 v5 v6 b1 b2 b3 x1 x2 x3 x4 x5 x6 b5 u1 u2 u3 u4 u5 u6 (p ++ m :: r) ((p.length : Int) + 1) T c1 ref1 = impl_ControllerAt.l1000007 NN NN tick u1 u2 u3 u4 u5 u6 (p ++ m :: r) p'.length T c' ref' := by
        intro c1 ref1 e1 hr1
        have i := ih (p ++ [m]) c1 ref1 k (by simp; omega) (by omega) (by rw [e1]; exact give_dead hc _) (by rw [← h]; exact hs.2) (fun x hx => hm x (by simp [hx])) (by simp; omega)
        rw [mid_snoc, snoc_len] at i
        obtain ⟨p', r', c', ref', i1, i2, i3, i4, i5, i6, i7⟩ := i
        refine ⟨p', r', c', ref', i1, i2, i3, i4, fun t ht => ?_, i6, i7⟩
        rw [i5 t ht, e1, show m = (T, m.2) by rw [← h], atR_give T m.2 r c ht]
      have hg := impl_giveInput_f c m.2 hc (hm m (by simp))
      have e0 : (m.1 == T) = true := by rw [h]; simp
      simp only [impl_ControllerAt.l70000001, impl_ControllerAt.g70000001, c0, c1, cw, e0, hg, and_self, and_true, true_and, decide_true, decide_false, if_true, if_false, mid_get, mid_set, mid_getn, mid_setn, bt_mid, Option.bind_some, Bool.not_true, Bool.not_false, Bool.false_eq_true, Bool.true_eq_false, beq_self_eq_true, bne_self_eq_false, Int.toNat_natCast]
      cases hq : giveC c m.2 with
      | some y =>
        simp only [and_self, and_true, true_and, decide_true, decide_false, if_true, if_false, mid_get, mid_set, mid_getn, mid_setn, bt_mid, Option.bind_some, Bool.not_true, Bool.not_false, Bool.false_eq_true, Bool.true_eq_false, beq_self_eq_true, bne_self_eq_false, Int.toNat_natCast]
        exact st y ref (by unfold giveB; rw [hq]; rfl) (by omega)
      | none =>
        have n5 : ((5 : Int) == 0) = false := rfl
        have hro : ref.length + [(p.length : Int)].length < room 8 := by rw [room8]; simp; omega
        simp only [n5, hro, and_self, and_true, true_and, decide_true, decide_false, if_true, if_false, mid_get, mid_set, mid_getn, mid_setn, bt_mid, Option.bind_some, Bool.not_true, Bool.not_false, Bool.false_eq_true, Bool.true_eq_false, beq_self_eq_true, bne_self_eq_false, Int.toNat_natCast]
        exact st c (ref ++ [(p.length : Int)]) (by unfold giveB; rw [hq]; rfl) (by simp; omega)
    · have e0 : (m.1 == T) = false := by simpa using h
      refine ⟨p, m :: r, c, ref, rfl, ⟨by omega, hs.2⟩, hc, hr, fun _ _ => rfl, hm, ?_⟩
      simp only [impl_ControllerAt.l70000001, impl_ControllerAt.g70000001, c0, c1, e0, and_self, and_true, true_and, decide_true, decide_false, if_true, if_false, mid_get, mid_set, mid_getn, mid_setn, bt_mid, Option.bind_some, Bool.not_true, Bool.not_false, Bool.false_eq_true, Bool.true_eq_false, beq_self_eq_true, bne_self_eq_false, Int.toNat_natCast]
theorem ca_main (l : List Sig) (hll : l.length ≤ 1000000) (tick : Int) (ht : tick ≤ 1000000) (v1 v2 v3 v4 v5 : Bool) (v6 : Int) : ∀ (n : Nat) (T : Int) (p r : List Sig) (c : Ctl) (ref : List Int) (k : Nat), 0 ≤ T → T + n = tick → n < k → l = p ++ r → SrtF (T + 1) r → DeadOk c → ref.length ≤ p.length → (∀ m ∈ r, 0 ≤ m.2 ∧ m.2 ≤ 9) → (∀ t, T ≤ t → atR r c T t = ctlAt l t) →
    impl_ControllerAt.l7 NN k tick v1 v2 v3 v4 v5 v6 l p.length T c ref = some (ctlAt l tick, 0) := by
  intro n
  induction n with
  | zero =>
    intro T p r c ref k _ hT hk _ hs _ _ _ hat
    obtain ⟨k, rfl⟩ : ∃ j, k = j + 1 := ⟨k - 1, by omega⟩
    have c1 : ¬ T < tick := by omega
    have hTt : T = tick := by omega
    simp only [impl_ControllerAt.l7, impl_ControllerAt.g7, c1, and_self, and_true, true_and, decide_true, decide_false, if_true, if_false, mid_get, mid_set, mid_getn, mid_setn, bt_mid, Option.bind_some, Bool.not_true, Bool.not_false, Bool.false_eq_true, Bool.true_eq_false, beq_self_eq_true, bne_self_eq_false, Int.toNat_natCast]
    rw [← hTt, ← hat T (Int.le_refl T), atR_now c hs]
  | succ n ih =>
    intro T p r c ref k h0 hT hk hl hs hc hr hm hat
    obtain ⟨k, rfl⟩ : ∃ j, k = j + 1 := ⟨k - 1, by omega⟩
    have c1 : T < tick := by omega
    have hll2 := hll
    rw [hl, List.length_append] at hll2
    have w1 := w64 (n := T + 1) (by omega) (by omega)
    simp only [impl_ControllerAt.l7, impl_ControllerAt.g7, c1, and_self, and_true, true_and, decide_true, decide_false, if_true, if_false, mid_get, mid_set, mid_getn, mid_setn, bt_mid, Option.bind_some, Bool.not_true, Bool.not_false, Bool.false_eq_true, Bool.true_eq_false, beq_self_eq_true, bne_self_eq_false, Int.toNat_natCast]
    rw [impl_ControllerAt.c1000008 nn0]
    unfold impl_ControllerAt.g1000008
    rw [impl_giveInput_f c 8 hc (by omega), give_tk]
    simp only [Option.bind_some, w1]
    rw [impl_ControllerAt.c1000009 nn0]
    unfold impl_ControllerAt.g1000009
    obtain ⟨p', r', c', ref', b1, b2, b3, b4, b5, b6, b7⟩ := ca_beg1 (impl_ControllerAt.l7 NN k) tick v1 v2 v3 v4 v5 v6 l p.length (T + 1) (tkC c) ref v1 v2 v3 v4 v5 v6 (T + 1) r p (tkC c) ref NN hll2 (NN_lt (by omega)) (tk_dead hc) hs hm hr
    rw [← hl] at b7 b1
    refine Eq.trans b7 ?_
    exact ih (T + 1) p' r' c' ref' k (by omega) (by omega) (by omega) b1.symm b2 b3 b4 b6 (fun t h => by rw [b5 t h, ← atR_step c hs h, hat t (by omega)])
def caR (l : List Sig) (tick : Int) : Ctl × Int := if sigsB l = true then (if inB tick 0 100000 = true then (ctlAt l tick, 0) else ((false, false, false, false, false, 0), 2)) else ((false, false, false, false, false, 0), 1)
theorem ControllerAt_both (l : List Sig) (tick : Int) (hl : l.length ≤ 1000000) : spec_ControllerAt.f l tick = some (caR l tick) ∧ impl_ControllerAt.f l tick = some (caR l tick) := by
  unfold spec_ControllerAt.f spec_ControllerAt.fn spec_ControllerAt.top spec_l22Code.f spec_l22Code.fn spec_l22Code.top impl_ControllerAt.f impl_ControllerAt.fn impl_ControllerAt.top caR
  rw [spec_AreSignals_f l hl, impl_AreSignals_f l hl, spec_l01In_f, impl_isTick_f]
  cases hb : sigsB l
  · exact ⟨rfl, rfl⟩
  cases ht : inB tick 0 100000
  · exact ⟨rfl, rfl⟩
  have ht' := inB_iff.1 ht
  obtain ⟨h1, h2, h3⟩ := sigsB_iff hb
  have e : ((0 : Int) != 0) = false := rfl
  refine ⟨?_, ?_⟩
  · obtain ⟨q, hq⟩ := spec_l22At_f hb (t := tick) (by omega)
    simp only [e, and_self, and_true, true_and, decide_true, decide_false, if_true, if_false, mid_get, mid_set, mid_getn, mid_setn, bt_mid, Option.bind_some, Bool.not_true, Bool.not_false, Bool.false_eq_true, Bool.true_eq_false, beq_self_eq_true, bne_self_eq_false, Int.toNat_natCast, hq]
  · simp only [and_self, and_true, true_and, decide_true, decide_false, if_true, if_false, mid_get, mid_set, mid_getn, mid_setn, bt_mid, Option.bind_some, Bool.not_true, Bool.not_false, Bool.false_eq_true, Bool.true_eq_false, beq_self_eq_true, bne_self_eq_false, Int.toNat_natCast]
    rw [impl_ControllerAt.c1000006 nn0]
    unfold impl_ControllerAt.g1000006
    obtain ⟨p', r', c', ref', b1, b2, b3, b4, b5, b6, b7⟩ := ca_beg0 tick false false false false false 0 l 0 0 false false false false false 0 [] false false false false false 0 0 l [] (false, false, false, false, false, 0) [] NN (by simpa using hl) (NN_lt (by omega)) ctl0_dead h2 (fun m h => (h3 m h).2.1) (by simp)
    rw [List.nil_append] at b7 b1
    refine Eq.trans b7 ?_
    rw [impl_ControllerAt.c1000007 nn0]
    unfold impl_ControllerAt.g1000007
    exact ca_main l hl tick (by omega) _ _ _ _ _ _ tick.toNat 0 p' r' c' ref' NN (by omega) (by omega) (NN_lt (by omega)) b1.symm b2 b3 b4 b6 (fun t h => b5 t h)
end Go.Pl

namespace Go.Pl
open Go.Ev
set_option linter.unusedVariables false
set_option linter.unusedSimpArgs false
theorem ok_snoc {α : Type} {Q : α → Prop} {xs : List α} {b : α} (h : Lm Q xs) (hb : Q b) (hl : xs.length < 1000000) : Lm Q (xs ++ [b]) :=
  ⟨by simp; omega, fun x hx => by
    rcases List.mem_append.1 hx with h1 | h1
    · exact h.2 x h1
    · rw [List.mem_singleton.1 h1]; exact hb⟩
def bookR (xs : List (Int × ByteArray × Int)) (b : Int × ByteArray × Int) : List (Int × ByteArray × Int) × Int :=
  if booksB xs = true then (if xs.length = 60 then ([], 3) else if booksB (xs ++ [b]) = true then (xs ++ [b], 0) else ([], 5)) else ([], 1)
theorem impl_BookPieces_f (xs : List (Int × ByteArray × Int)) (b : Int × ByteArray × Int) (h : Lm OkBooking xs) (hb : OkBooking b) : impl_BookPieces.f xs b = some (bookR xs b) := by
  unfold impl_BookPieces.f impl_BookPieces.fn impl_BookPieces.top bookR
  rw [impl_AreBookings_f xs h]
  cases hx : booksB xs
  · rfl
  have hv := booksB_val hx
  simp only [and_self, and_true, true_and, decide_true, decide_false, if_true, if_false, mid_get, mid_set, mid_getn, mid_setn, bt_mid, Option.bind_some, Bool.not_true, Bool.not_false, Bool.false_eq_true, Bool.true_eq_false, beq_self_eq_true, bne_self_eq_false, Int.toNat_natCast]
  by_cases h60 : xs.length = 60
  · simp [h60]
  · have e1 : ((xs.length : Int) == 60) = false := by rw [beq_eq_false_iff_ne]; omega
    have e2 : ([] : List (Int × ByteArray × Int)).length + xs.length < room 32 := by rw [room32]; simp; omega
    have e3 : (([] : List (Int × ByteArray × Int)) ++ xs).length + [b].length < room 32 := by rw [room32]; simp; omega
    simp only [e1, e2, e3, h60, and_self, and_true, true_and, decide_true, decide_false, if_true, if_false, mid_get, mid_set, mid_getn, mid_setn, bt_mid, Option.bind_some, Bool.not_true, Bool.not_false, Bool.false_eq_true, Bool.true_eq_false, beq_self_eq_true, bne_self_eq_false, Int.toNat_natCast]
    rw [List.nil_append, impl_AreBookings_f (xs ++ [b]) (ok_snoc h hb (by omega))]
    cases booksB (xs ++ [b]) <;> rfl
theorem spec_BookPieces_f (xs : List (Int × ByteArray × Int)) (b : Int × ByteArray × Int) (h : Lm OkBooking xs) (hb : OkBooking b) : spec_BookPieces.f xs b = some (bookR xs b) := by
  unfold spec_BookPieces.f spec_BookPieces.fn spec_BookPieces.top bookR
  rw [spec_AreBookings_f xs h]
  cases hx : booksB xs
  · rfl
  have hv := booksB_val hx
  simp only [and_self, and_true, true_and, decide_true, decide_false, if_true, if_false, mid_get, mid_set, mid_getn, mid_setn, bt_mid, Option.bind_some, Bool.not_true, Bool.not_false, Bool.false_eq_true, Bool.true_eq_false, beq_self_eq_true, bne_self_eq_false, Int.toNat_natCast]
  by_cases h60 : xs.length = 60
  · simp [h60]
  · have e1 : ((xs.length : Int) == 60) = false := by rw [beq_eq_false_iff_ne]; omega
    have e2 : ([] : List (Int × ByteArray × Int)).length + xs.length < room 32 := by rw [room32]; simp; omega
    have e3 : (([] : List (Int × ByteArray × Int)) ++ xs).length + [b].length < room 32 := by rw [room32]; simp; omega
    simp only [e1, e2, e3, h60, and_self, and_true, true_and, decide_true, decide_false, if_true, if_false, mid_get, mid_set, mid_getn, mid_setn, bt_mid, Option.bind_some, Bool.not_true, Bool.not_false, Bool.false_eq_true, Bool.true_eq_false, beq_self_eq_true, bne_self_eq_false, Int.toNat_natCast]
    rw [List.nil_append, spec_AreBookings_f (xs ++ [b]) (ok_snoc h hb (by omega))]
    cases booksB (xs ++ [b]) <;> rfl
end Go.Pl

namespace Go.Pl
open Go.Ev
set_option linter.unusedVariables false
noncomputable section
def impl_IsSettled.top (p : List YA) : Option (Bool × Int) :=
 (impl_AreBookings.f p).bind fun r1 =>
 if (!r1) = true then
 some (false, 1)
 else
 (impl_openArticles.f p).bind fun r2 =>
 some (((r2.length : Int) : Int) == 0, 0)
def impl_IsSettled.fn (n : Nat) (p : List YA) : Option (Bool × Int) := impl_IsSettled.top p
def impl_IsSettled.f (p : List YA) : Option (Bool × Int) := impl_IsSettled.fn NN p
end
end Go.Pl

namespace Go.Pl
open Go.Ev
set_option linter.unusedVariables false
noncomputable section
def spec_IsSettled.top (p : List YA) : Option (Bool × Int) :=
 (spec_AreBookings.f p).bind fun r1 =>
 if (!r1) = true then
 some (false, 1)
 else
 (spec_l32Open.f p).bind fun r2 =>
 some (((r2.length : Int) : Int) == 0, 0)
def spec_IsSettled.fn (n : Nat) (p : List YA) : Option (Bool × Int) := spec_IsSettled.top p
def spec_IsSettled.f (p : List YA) : Option (Bool × Int) := spec_IsSettled.fn NN p
end
end Go.Pl

namespace Go.Pl
open Go.Ev
set_option linter.unusedVariables false
noncomputable section
def impl_OpenArticles.top (p : List YA) : Option YAC :=
 (impl_AreBookings.f p).bind fun r1 =>
 if (!r1) = true then
 some ([], 1)
 else
 (impl_openArticles.f p).bind fun r2 =>
 some (r2, 0)
def impl_OpenArticles.fn (n : Nat) (p : List YA) : Option YAC := impl_OpenArticles.top p
def impl_OpenArticles.f (p : List YA) : Option YAC := impl_OpenArticles.fn NN p
end
end Go.Pl

namespace Go.Pl
open Go.Ev
set_option linter.unusedVariables false
noncomputable section
def spec_OpenArticles.top (p : List YA) : Option YAC :=
 (spec_AreBookings.f p).bind fun r1 =>
 if (!r1) = true then
 some ([], 1)
 else
 (spec_l32Open.f p).bind fun r2 =>
 some (r2, 0)
def spec_OpenArticles.fn (n : Nat) (p : List YA) : Option YAC := spec_OpenArticles.top p
def spec_OpenArticles.f (p : List YA) : Option YAC := spec_OpenArticles.fn NN p
end
end Go.Pl

namespace Go.Pl
open Go.Ev
set_option linter.unusedVariables false
set_option linter.unusedSimpArgs false
abbrev Bkg := Int × ByteArray × Int
def openF (xs : List Bkg) (st : List ByteArray) (b : Bkg) : List ByteArray := if 0 < leftOf xs b.2.1 then insW b.2.1 st else st
def openL (xs : List Bkg) : List ByteArray := xs.foldl (openF xs) []
structure OI (xs p : List Bkg) (st : List ByteArray) : Prop where
  srt : SrtW st
  len : st.length ≤ p.length
  mem : ∀ w, w ∈ st ↔ (∃ b ∈ p, b.2.1 = w) ∧ 0 < leftOf xs w
theorem oi_step {xs p : List Bkg} {st : List ByteArray} (b : Bkg) (h : OI xs p st) : OI xs (p ++ [b]) (openF xs st b) := by
  unfold openF
  split
  · rename_i hp
    refine ⟨insW_srt h.srt, by have := insW_len b.2.1 st; have := h.len; simp; omega, fun w => ?_⟩
    rw [mem_insW, h.mem]
    constructor
    · rintro (rfl | ⟨⟨c, h1, h2⟩, h3⟩)
      · exact ⟨⟨b, by simp, rfl⟩, hp⟩
      · exact ⟨⟨c, by simp [h1], h2⟩, h3⟩
    · rintro ⟨⟨c, h1, h2⟩, h3⟩
      rcases List.mem_append.1 h1 with h1 | h1
      · exact .inr ⟨⟨c, h1, h2⟩, h3⟩
      · rw [List.mem_singleton.1 h1] at h2; exact .inl h2.symm
  · rename_i hp
    refine ⟨h.srt, by have := h.len; simp; omega, fun w => ?_⟩
    rw [h.mem]
    constructor
    · rintro ⟨⟨c, h1, h2⟩, h3⟩; exact ⟨⟨c, by simp [h1], h2⟩, h3⟩
    · rintro ⟨⟨c, h1, h2⟩, h3⟩
      rcases List.mem_append.1 h1 with h1 | h1
      · exact ⟨⟨c, h1, h2⟩, h3⟩
      · rw [List.mem_singleton.1 h1] at h2; rw [h2] at hp; exact absurd h3 hp
theorem oi_nil (xs : List Bkg) : OI xs [] [] := ⟨List.Pairwise.nil, by simp, fun w => by simp⟩
theorem open_both (xs : List Bkg) (h : ∀ b ∈ xs, valB b = true) (hl : xs.length ≤ 1000000) : OI xs xs (openL xs) ∧ impl_openArticles.f xs = some (openL xs) ∧ spec_l32Open.f xs = some (openL xs) := by
  have e1 := fold_fix (E := fun _ => True) (fun p st => OI xs p st) (fun _ => openF xs) (fun st => some st) (fun k i st => impl_openArticles.l3 NN k xs xs xs.length i st) xs ?_ ?_ [] (fun _ _ => trivial) (oi_nil xs) (by omega) NN (NN_lt (by omega))
  have e2 := fold_fix (E := fun _ => True) (fun p st => OI xs p st) (fun _ => openF xs) (fun st => some st) (fun k i st => spec_l32Open.l3 NN k xs i st) xs ?_ ?_ [] (fun _ _ => trivial) (oi_nil xs) (by omega) NN (NN_lt (by omega))
  · rw [foldi_foldl] at e1 e2
    exact ⟨e1.1, e1.2, e2.2⟩
  · intro k st _
    simp [spec_l32Open.l3, spec_l32Open.g3]
  · intro k p b r st hx _ hI c0 c1 c2 cw g
    refine ⟨oi_step b hI, ?_⟩
    have hpl : p.length ≤ 1000000 := by rw [hx] at hl; simp at hl; omega
    have := hI.len
    simp only [spec_l32Open.l3, spec_l32Open.g3, c0, c1, cw, and_self, and_true, true_and, decide_true, decide_false, if_true, if_false, mid_get, mid_set, mid_getn, mid_setn, bt_mid, Option.bind_some, Bool.not_true, Bool.not_false, Bool.false_eq_true, Bool.true_eq_false, beq_self_eq_true, bne_self_eq_false, Int.toNat_natCast, g, l32Left_all xs _ h hl, decide_eq_true_eq]
    unfold openF
    split
    · rw [spec_l20Insert_f _ _ (by omega)]; rfl
    · rfl
  · intro k st _
    simp [impl_openArticles.l3, impl_openArticles.g3]
  · intro k p b r st hx _ hI c0 c1 c2 cw g
    refine ⟨oi_step b hI, ?_⟩
    have hpl : p.length ≤ 1000000 := by rw [hx] at hl; simp at hl; omega
    have := hI.len
    simp only [impl_openArticles.l3, impl_openArticles.g3, c0, c1, cw, and_self, and_true, true_and, decide_true, decide_false, if_true, if_false, mid_get, mid_set, mid_getn, mid_setn, bt_mid, Option.bind_some, Bool.not_true, Bool.not_false, Bool.false_eq_true, Bool.true_eq_false, beq_self_eq_true, bne_self_eq_false, Int.toNat_natCast, g, impl_piecesLeft_f xs _ h hl, decide_eq_true_eq]
    unfold openF
    split
    · rw [impl_putWord_f _ _ hI.srt (by omega)]; rfl
    · rfl
theorem open_sm {xs : List Bkg} (h : ∀ b ∈ xs, valB b = true) (hl : xs.length ≤ 1000000) : ∀ w ∈ openL xs, wordB w = true := by
  intro w hw
  obtain ⟨⟨b, h1, rfl⟩, _⟩ := ((open_both xs h hl).1.mem w).1 hw
  have := h b h1
  unfold valB at this
  simp only [Bool.and_eq_true] at this
  exact this.1.2
theorem word_sm {w : ByteArray} (h : wordB w = true) : Sm w := by have := wordB_size h; unfold Sm; omega
theorem len0 {α : Type} (l : List α) : (((l.length : Int) : Int) == 0) = decide (l = []) := by cases l <;> simp <;> omega
def setlF (xs : List Bkg) (kind : Int) (out : List Bkg) (w : ByteArray) : List Bkg := out ++ [(kind, w, leftOf xs w)]
def setlL (xs : List Bkg) (kind : Int) : List Bkg := (openL xs).foldl (setlF xs kind) xs
def limS (out : List Bkg) : List Bkg × Int := if 60 < out.length then ([], 3) else if booksB out = true then (out, 0) else ([], 5)
def stlR (xs : List Bkg) (kind : Int) : List Bkg × Int := if booksB xs = true then (if inB kind 1 3 = true then limS (setlL xs kind) else ([], 2)) else ([], 1)
theorem room32n {n : Nat} (h : n ≤ 2000000) : n < room 32 := by rw [room32]; omega
structure SI (xs : List Bkg) (p : List ByteArray) (out : List Bkg) : Prop where
  len : out.length = xs.length + p.length
  ok : ∀ b ∈ out, OkBooking b
theorem Settle_l (xs : List Bkg) (kind : Int) (hk : 1 ≤ kind ∧ kind ≤ 3) (hok : ∀ b ∈ xs, OkBooking b) (h : ∀ b ∈ xs, valB b = true) (hl : xs.length ≤ 60) :
    SI xs (openL xs) (setlL xs kind) ∧ impl_SettleAll.l7 NN NN xs kind (openL xs).length 0 xs (openL xs) = some (limS (setlL xs kind)) ∧ spec_SettleAll.l8 NN NN xs kind 0 xs (openL xs) = some (limS (setlL xs kind)) := by
  obtain ⟨oi, _, _⟩ := open_both xs h (by omega)
  have hol := oi.len
  have hos := open_sm h (by omega)
  have step : ∀ (p : List ByteArray) (w : ByteArray) (out : List Bkg), wordB w = true → SI xs p out → SI xs (p ++ [w]) (setlF xs kind out w) := fun p w out hw hI => by
    have hb := leftOf_le w xs h
    refine ⟨by unfold setlF; have := hI.len; simp; omega, fun b hb' => ?_⟩
    unfold setlF at hb'
    rcases List.mem_append.1 hb' with h1 | h1
    · exact hI.ok b h1
    · rw [List.mem_singleton.1 h1]; exact ⟨wf64.2 (by simp only; omega), word_sm hw, wf64.2 (by simp only; omega)⟩
  have z0 : SI xs [] xs := ⟨by simp, hok⟩
  have e1 := fold_fix (E := fun w => wordB w = true) (fun p out => SI xs p out) (fun _ => setlF xs kind) (fun out => some (limS out)) (fun k i out => impl_SettleAll.l7 NN k xs kind (openL xs).length i out (openL xs)) (openL xs) ?_ ?_ xs hos z0 (by omega) NN (NN_lt (by omega))
  have e2 := fold_fix (E := fun w => wordB w = true) (fun p out => SI xs p out) (fun _ => setlF xs kind) (fun out => some (limS out)) (fun k i out => spec_SettleAll.l8 NN k xs kind i out (openL xs)) (openL xs) ?_ ?_ xs hos z0 (by omega) NN (NN_lt (by omega))
  · rw [foldi_foldl] at e1 e2
    exact ⟨e1.1, e1.2, e2.2⟩
  · intro k out hI
    have := hI.len
    simp only [spec_SettleAll.l8, spec_SettleAll.g8, Int.lt_irrefl, and_self, and_true, true_and, decide_true, decide_false, if_true, if_false, mid_get, mid_set, mid_getn, mid_setn, bt_mid, Option.bind_some, Bool.not_true, Bool.not_false, Bool.false_eq_true, Bool.true_eq_false, beq_self_eq_true, bne_self_eq_false, Int.toNat_natCast]
    unfold spec_l32Limits.f spec_l32Limits.fn spec_l32Limits.top limS
    by_cases h6 : 60 < out.length
    · have h6' : (60 : Int) < (out.length : Int) := by omega
      simp only [h6, h6', and_self, and_true, true_and, decide_true, decide_false, if_true, if_false, mid_get, mid_set, mid_getn, mid_setn, bt_mid, Option.bind_some, Bool.not_true, Bool.not_false, Bool.false_eq_true, Bool.true_eq_false, beq_self_eq_true, bne_self_eq_false, Int.toNat_natCast]; rfl
    · have h6' : ¬ (60 : Int) < (out.length : Int) := by omega
      simp only [h6, h6', and_self, and_true, true_and, decide_true, decide_false, if_true, if_false, mid_get, mid_set, mid_getn, mid_setn, bt_mid, Option.bind_some, Bool.not_true, Bool.not_false, Bool.false_eq_true, Bool.true_eq_false, beq_self_eq_true, bne_self_eq_false, Int.toNat_natCast]
      rw [spec_AreBookings_f out ⟨by omega, hI.ok⟩]
      cases booksB out <;> rfl
  · intro k p w r out hx hw hI c0 c1 c2 cw g
    refine ⟨step p w out hw hI, ?_⟩
    have hpl : p.length ≤ 60 := by have := congrArg List.length hx; simp at this; omega
    have hil := hI.len
    have hr := room32n (n := out.length + [(kind, w, leftOf xs w)].length) (by simp; omega)
    simp only [spec_SettleAll.l8, spec_SettleAll.g8, c0, c1, cw, and_self, and_true, true_and, decide_true, decide_false, if_true, if_false, mid_get, mid_set, mid_getn, mid_setn, bt_mid, Option.bind_some, Bool.not_true, Bool.not_false, Bool.false_eq_true, Bool.true_eq_false, beq_self_eq_true, bne_self_eq_false, Int.toNat_natCast, g, l32Left_all xs _ h (by omega), hr]
    rfl
  · intro k out hI
    have := hI.len
    simp only [impl_SettleAll.l7, impl_SettleAll.g7, Int.lt_irrefl, and_self, and_true, true_and, decide_true, decide_false, if_true, if_false, mid_get, mid_set, mid_getn, mid_setn, bt_mid, Option.bind_some, Bool.not_true, Bool.not_false, Bool.false_eq_true, Bool.true_eq_false, beq_self_eq_true, bne_self_eq_false, Int.toNat_natCast]
    unfold limS
    by_cases h6 : 60 < out.length
    · have h6' : (60 : Int) < (out.length : Int) := by omega
      simp only [h6, h6', and_self, and_true, true_and, decide_true, decide_false, if_true, if_false, mid_get, mid_set, mid_getn, mid_setn, bt_mid, Option.bind_some, Bool.not_true, Bool.not_false, Bool.false_eq_true, Bool.true_eq_false, beq_self_eq_true, bne_self_eq_false, Int.toNat_natCast]
    · have h6' : ¬ (60 : Int) < (out.length : Int) := by omega
      simp only [h6, h6', and_self, and_true, true_and, decide_true, decide_false, if_true, if_false, mid_get, mid_set, mid_getn, mid_setn, bt_mid, Option.bind_some, Bool.not_true, Bool.not_false, Bool.false_eq_true, Bool.true_eq_false, beq_self_eq_true, bne_self_eq_false, Int.toNat_natCast]
      rw [impl_AreBookings_f out ⟨by omega, hI.ok⟩]
      cases booksB out <;> rfl
  · intro k p w r out hx hw hI c0 c1 c2 cw g
    refine ⟨step p w out hw hI, ?_⟩
    have hpl : p.length ≤ 60 := by have := congrArg List.length hx; simp at this; omega
    have hil := hI.len
    have hr := room32n (n := out.length + [(kind, w, leftOf xs w)].length) (by simp; omega)
    simp only [impl_SettleAll.l7, impl_SettleAll.g7, c0, c1, cw, and_self, and_true, true_and, decide_true, decide_false, if_true, if_false, mid_get, mid_set, mid_getn, mid_setn, bt_mid, Option.bind_some, Bool.not_true, Bool.not_false, Bool.false_eq_true, Bool.true_eq_false, beq_self_eq_true, bne_self_eq_false, Int.toNat_natCast, g, impl_piecesLeft_f xs _ h (by omega), hr]
    rfl
theorem SettleAll_both (xs : List Bkg) (kind : Int) (h : Lm OkBooking xs) : spec_SettleAll.f xs kind = some (stlR xs kind) ∧ impl_SettleAll.f xs kind = some (stlR xs kind) := by
  unfold spec_SettleAll.f spec_SettleAll.fn spec_SettleAll.top impl_SettleAll.f impl_SettleAll.fn impl_SettleAll.top stlR
  rw [spec_AreBookings_f xs h, impl_AreBookings_f xs h, spec_l01In_f, impl_within_f]
  cases hx : booksB xs
  · exact ⟨rfl, rfl⟩
  have hv := booksB_val hx
  cases hk : inB kind 1 3
  · exact ⟨rfl, rfl⟩
  obtain ⟨_, e1, e2⟩ := open_both xs hv.1 (by omega)
  obtain ⟨_, e3, e4⟩ := Settle_l xs kind (inB_iff.1 hk) h.2 hv.1 hv.2
  have hr := room32n (n := 0 + xs.length) (by omega)
  simp only [Option.bind_some, Bool.not_true, Bool.false_eq_true, if_false, if_true, List.length_nil, List.nil_append, hr, e1, e2, e3, e4, and_self]
end Go.Pl

namespace Go.Pl
open Go.Ev
set_option linter.unusedVariables false
noncomputable section
def impl_TotalsOf.top (q : List YA) (p : ByteArray) : Option YAE :=
 (impl_AreBookings.f q).bind fun r1 =>
 if (!r1) = false then
 (impl_IsWord.f p).bind fun r2 =>
 if (!r2) = true then
 some ([], 1)
 else
 (impl_totalsOf.f q p).bind fun r3 =>
 some (r3, 0)
 else
 some ([], 1)
def impl_TotalsOf.fn (n : Nat) (q : List YA) (p : ByteArray) : Option YAE := impl_TotalsOf.top q p
def impl_TotalsOf.f (q : List YA) (p : ByteArray) : Option YAE := impl_TotalsOf.fn NN q p
end
end Go.Pl

namespace Go.Pl
open Go.Ev
set_option linter.unusedVariables false
noncomputable section
def spec_TotalsOf.g5 (L5 : YD → ByteArray → Int → List Int → Option YAE) (p : List YA) (q : ByteArray) (i7 : Int) (r : List Int) : Option YAE :=
 if (decide ((i7 : Int) < (p.length : Int))) = true then
 if (0 : Int) ≤ i7 ∧ (i7 : Int) < p.length then
 if ((((p.getD (i7 : Int).toNat (0, (ByteArray.empty, 0))).2).1).toList == q.toList) = true then
 if (0 : Int) ≤ i7 ∧ (i7 : Int) < p.length then
 if (0 : Int) ≤ i7 ∧ (i7 : Int) < p.length then
 if (0 : Int) ≤ ((p.getD (i7 : Int).toNat (0, (ByteArray.empty, 0))).1) ∧ (((p.getD (i7 : Int).toNat (0, (ByteArray.empty, 0))).1) : Int) < r.length then
 if (0 : Int) ≤ i7 ∧ (i7 : Int) < p.length then
 if (0 : Int) ≤ ((p.getD (i7 : Int).toNat (0, (ByteArray.empty, 0))).1) ∧ (((p.getD (i7 : Int).toNat (0, (ByteArray.empty, 0))).1) : Int) < r.length then
 L5 p q (IntKind.i64.wrap (i7 + 1)) (r.set (((p.getD (i7 : Int).toNat (0, (ByteArray.empty, 0))).1) : Int).toNat (IntKind.i64.wrap ((r.getD (((p.getD (i7 : Int).toNat (0, (ByteArray.empty, 0))).1) : Int).toNat 0) + (((p.getD (i7 : Int).toNat (0, (ByteArray.empty, 0))).2).2))))
 else
 none
 else
 none
 else
 none
 else
 none
 else
 none
 else
 L5 p q (IntKind.i64.wrap (i7 + 1)) r
 else
 none
 else
 some (r, 0)
def spec_TotalsOf.l5 (n : Nat) : Nat → YD → ByteArray → Int → List Int → Option YAE
 | 0 => fun _ _ _ _ => none
 | k + 1 => spec_TotalsOf.g5 (spec_TotalsOf.l5 n k)
def spec_TotalsOf.top (I5 : YD → ByteArray → Int → List Int → Option YAE) (p : List YA) (q : ByteArray) : Option YAE :=
 (spec_AreBookings.f p).bind fun r1 =>
 if (!r1) = false then
 (spec_IsWord.f q).bind fun r2 =>
 if (!r2) = true then
 some ([], 1)
 else if (0 : Int) ≤ 4 ∧ (4 : Int) < room 8 ∧ (4 : Int) = 4 then
 I5 p q 0 (List.replicate (4 : Int).toNat 0)
 else
 none
 else
 some ([], 1)
def spec_TotalsOf.fn (n : Nat) (p : List YA) (q : ByteArray) : Option YAE := spec_TotalsOf.top (spec_TotalsOf.l5 n n) p q
def spec_TotalsOf.f (p : List YA) (q : ByteArray) : Option YAE := spec_TotalsOf.fn NN p q
end
end Go.Pl

namespace Go.Pl
open Go.Ev
set_option linter.unusedVariables false
set_option linter.unusedSimpArgs false
end Go.Pl

namespace Go.Pl
open Go.Ev
set_option linter.unusedVariables false
noncomputable section
def spec_l01From.g3 (L3 : List Int → Int → List Int → Int → Int → Option YX) (p : List Int) (i4 : Int) (s3a : List Int) (q : Int) (r : Int) : Option YX :=
 if (decide ((i4 : Int) < (p.length : Int))) = true then
 if (decide ((i4 : Int) < 64)) = true then
 if (0 : Int) ≤ i4 ∧ (i4 : Int) < p.length then
 L3 p (IntKind.i64.wrap (i4 + 1)) s3a q (Int.tmod (IntKind.i64.wrap ((IntKind.i64.wrap (r * 83)) + (IntKind.i64.wrap (p.getD (i4 : Int).toNat 0)))) 2147483647)
 else
 none
 else
 some (s3a, (q, r))
 else
 some (s3a, (q, r))
def spec_l01From.l3 (n : Nat) : Nat → List Int → Int → List Int → Int → Int → Option YX
 | 0 => fun _ _ _ _ _ => none
 | k + 1 => spec_l01From.g3 (spec_l01From.l3 n k)
def spec_l01From.top (I3 : List Int → Int → List Int → Int → Int → Option YX) (p : List Int) : Option YX :=
 I3 p 0 p 0 61043
def spec_l01From.fn (n : Nat) (p : List Int) : Option YX := spec_l01From.top (spec_l01From.l3 n n) p
def spec_l01From.f (p : List Int) : Option YX := spec_l01From.fn NN p
end
end Go.Pl

namespace Go.Pl
open Go.Ev
set_option linter.unusedVariables false
noncomputable section
def spec_l01Next.top (s0 : List Int × Int × Int) (n1 : Int) : Option (Int × List Int × Int × Int) :=
 if (decide ((n1 : Int) ≤ 1)) = true then
 some (0, s0)
 else if (decide ((s0.2.1 : Int) < (s0.1.length : Int))) = true then
 if (0 : Int) ≤ s0.2.1 ∧ (s0.2.1 : Int) < s0.1.length then
 if (decide ((n1 : Int) ≤ 256)) = true then
 if (((Int.tmod (IntKind.i64.wrap (s0.2.1 + 1)) 2) : Int) == 0) = true then
 if (0 : Int) ≤ (IntKind.i64.wrap ((IntKind.i64.wrap (s0.2.1 + 1)) - 1)) ∧ ((IntKind.i64.wrap ((IntKind.i64.wrap (s0.2.1 + 1)) - 1)) : Int) < s0.1.length then
 if n1 = 0 then
 none
 else
 some (Int.tmod (IntKind.i64.wrap (s0.1.getD ((IntKind.i64.wrap ((IntKind.i64.wrap (s0.2.1 + 1)) - 1)) : Int).toNat 0)) n1, (s0.1, (IntKind.i64.wrap (s0.2.1 + 1), Int.tmod (IntKind.i64.wrap ((IntKind.i64.wrap (s0.2.2 * 48271)) + 29)) 2147483647)))
 else
 none
 else if n1 = 0 then
 none
 else
 some (Int.tmod (IntKind.i64.wrap ((IntKind.i64.wrap (Int.tdiv (Int.tmod (IntKind.i64.wrap ((IntKind.i64.wrap (s0.2.2 * 48271)) + 29)) 2147483647) 31)) + (IntKind.i64.wrap (s0.1.getD (s0.2.1 : Int).toNat 0)))) n1, (s0.1, (IntKind.i64.wrap (s0.2.1 + 1), Int.tmod (IntKind.i64.wrap ((IntKind.i64.wrap (s0.2.2 * 48271)) + 29)) 2147483647)))
 else if n1 = 0 then
 none
 else
 some (Int.tmod (IntKind.i64.wrap ((IntKind.i64.wrap (Int.tdiv (Int.tmod (IntKind.i64.wrap ((IntKind.i64.wrap (s0.2.2 * 48271)) + 29)) 2147483647) 31)) + (IntKind.i64.wrap (s0.1.getD (s0.2.1 : Int).toNat 0)))) n1, (s0.1, (IntKind.i64.wrap (s0.2.1 + 1), Int.tmod (IntKind.i64.wrap ((IntKind.i64.wrap (s0.2.2 * 48271)) + 29)) 2147483647)))
 else
 none
 else if n1 = 0 then
 none
 else
 some (Int.tmod (IntKind.i64.wrap (Int.tdiv (Int.tmod (IntKind.i64.wrap ((IntKind.i64.wrap (s0.2.2 * 48271)) + 29)) 2147483647) 31)) n1, (s0.1, (s0.2.1, Int.tmod (IntKind.i64.wrap ((IntKind.i64.wrap (s0.2.2 * 48271)) + 29)) 2147483647)))
def spec_l01Next.fn (n : Nat) (s0 : List Int × Int × Int) (n1 : Int) : Option (Int × List Int × Int × Int) := spec_l01Next.top s0 n1
def spec_l01Next.f (s0 : List Int × Int × Int) (n1 : Int) : Option (Int × List Int × Int × Int) := spec_l01Next.fn NN s0 n1
end
end Go.Pl

namespace Go.Pl
open Go.Ev
set_option linter.unusedVariables false
noncomputable section
def spec_l01Pick.top (s0 : List Int × Int × Int) (p : List Int) : Option (Int × List Int × Int × Int) :=
 (spec_l01Next.f s0 (p.length : Int)).bind fun r1 =>
 if (0 : Int) ≤ r1.1 ∧ (r1.1 : Int) < p.length then
 some (p.getD (r1.1 : Int).toNat 0, r1.2)
 else
 none
def spec_l01Pick.fn (n : Nat) (s0 : List Int × Int × Int) (p : List Int) : Option (Int × List Int × Int × Int) := spec_l01Pick.top s0 p
def spec_l01Pick.f (s0 : List Int × Int × Int) (p : List Int) : Option (Int × List Int × Int × Int) := spec_l01Pick.fn NN s0 p
end
end Go.Pl

namespace Go.Pl
open Go.Ev
set_option linter.unusedVariables false
noncomputable section
def laws_big.top (p : List Int) : Option Bool :=
 some (decide ((4096 : Int) < (p.length : Int)))
def laws_big.fn (n : Nat) (p : List Int) : Option Bool := laws_big.top p
def laws_big.f (p : List Int) : Option Bool := laws_big.fn NN p
end
end Go.Pl

namespace Go.Pl
open Go.Ev
set_option linter.unusedVariables false
set_option linter.unusedSimpArgs false
end Go.Pl

namespace Go.Pl
open Go.Ev
set_option linter.unusedVariables false
noncomputable section
def laws_likeInts.g4 (L4 : List Int → List Int → Int → Option Bool) (a0 : List Int) (b1 : List Int) (i5 : Int) : Option Bool :=
 if (decide ((i5 : Int) < (a0.length : Int))) = true then
 if (0 : Int) ≤ i5 ∧ (i5 : Int) < a0.length then
 if (0 : Int) ≤ i5 ∧ (i5 : Int) < b1.length then
 if (((a0.getD (i5 : Int).toNat 0) : Int) != (b1.getD (i5 : Int).toNat 0)) = true then
 some false
 else
 L4 a0 b1 (IntKind.i64.wrap (i5 + 1))
 else
 none
 else
 none
 else
 some true
def laws_likeInts.l4 (n : Nat) : Nat → List Int → List Int → Int → Option Bool
 | 0 => fun _ _ _ => none
 | k + 1 => laws_likeInts.g4 (laws_likeInts.l4 n k)
def laws_likeInts.top (I4 : List Int → List Int → Int → Option Bool) (a0 : List Int) (b1 : List Int) : Option Bool :=
 if (((a0.length : Int) : Int) != (b1.length : Int)) = true then
 some false
 else
 I4 a0 b1 0
def laws_likeInts.fn (n : Nat) (a0 : List Int) (b1 : List Int) : Option Bool := laws_likeInts.top (laws_likeInts.l4 n n) a0 b1
def laws_likeInts.f (a0 : List Int) (b1 : List Int) : Option Bool := laws_likeInts.fn NN a0 b1
end
end Go.Pl

namespace Go.Pl
open Go.Ev
set_option linter.unusedVariables false
noncomputable section
def laws_hasInt.g2 (L2 : List Int → Int → Int → Option Bool) (p : List Int) (x1 : Int) (i5 : Int) : Option Bool :=
 if (decide ((i5 : Int) < (p.length : Int))) = true then
 if (0 : Int) ≤ i5 ∧ (i5 : Int) < p.length then
 if (((p.getD (i5 : Int).toNat 0) : Int) == x1) = true then
 some true
 else
 L2 p x1 (IntKind.i64.wrap (i5 + 1))
 else
 none
 else
 some false
def laws_hasInt.l2 (n : Nat) : Nat → List Int → Int → Int → Option Bool
 | 0 => fun _ _ _ => none
 | k + 1 => laws_hasInt.g2 (laws_hasInt.l2 n k)
def laws_hasInt.top (I2 : List Int → Int → Int → Option Bool) (p : List Int) (x1 : Int) : Option Bool :=
 I2 p x1 0
def laws_hasInt.fn (n : Nat) (p : List Int) (x1 : Int) : Option Bool := laws_hasInt.top (laws_hasInt.l2 n n) p x1
def laws_hasInt.f (p : List Int) (x1 : Int) : Option Bool := laws_hasInt.fn NN p x1
end
end Go.Pl

namespace Go.Pl
open Go.Ev
set_option linter.unusedVariables false
set_option linter.unusedSimpArgs false
end Go.Pl

namespace Go.Pl
open Go.Ev
set_option linter.unusedVariables false
noncomputable section
def spec_l03Names.top  : Option YG :=
 some ([(⟨#[97, 115, 116, 101, 114]⟩ : ByteArray), (⟨#[99, 111, 109, 101, 116]⟩ : ByteArray), (⟨#[100, 97, 104, 108, 105, 97]⟩ : ByteArray), (⟨#[112, 97, 108, 109]⟩ : ByteArray), (⟨#[112, 101, 111, 110, 121]⟩ : ByteArray), (⟨#[119, 105, 108, 108, 111, 119]⟩ : ByteArray)])
def spec_l03Names.fn (n : Nat)  : Option YG := spec_l03Names.top 
def spec_l03Names.f  : Option YG := spec_l03Names.fn NN 
end
end Go.Pl

namespace Go.Pl
open Go.Ev
set_option linter.unusedVariables false
noncomputable section
def spec_l01Good.top (s0 : List Int × Int × Int) : Option YAJ :=
 (spec_l01Next.f s0 12).bind fun r1 =>
 if (0 : Int) ≤ r1.1 ∧ (r1.1 : Int) < ([(⟨#[97, 100, 97]⟩ : ByteArray), (⟨#[98, 114, 117, 110, 111]⟩ : ByteArray), (⟨#[99, 108, 97, 114, 97]⟩ : ByteArray), (⟨#[100, 111, 114, 97]⟩ : ByteArray), (⟨#[101, 109, 105, 108]⟩ : ByteArray), (⟨#[102, 114, 105, 100, 97]⟩ : ByteArray), (⟨#[103, 117, 115, 116, 97, 118]⟩ : ByteArray), (⟨#[104, 97, 110, 110, 97]⟩ : ByteArray), (⟨#[105, 118, 97, 110]⟩ : ByteArray), (⟨#[106, 97, 110, 97]⟩ : ByteArray), (⟨#[107, 97, 114, 108]⟩ : ByteArray), (⟨#[108, 101, 110, 97]⟩ : ByteArray)]).length then
 some (([(⟨#[97, 100, 97]⟩ : ByteArray), (⟨#[98, 114, 117, 110, 111]⟩ : ByteArray), (⟨#[99, 108, 97, 114, 97]⟩ : ByteArray), (⟨#[100, 111, 114, 97]⟩ : ByteArray), (⟨#[101, 109, 105, 108]⟩ : ByteArray), (⟨#[102, 114, 105, 100, 97]⟩ : ByteArray), (⟨#[103, 117, 115, 116, 97, 118]⟩ : ByteArray), (⟨#[104, 97, 110, 110, 97]⟩ : ByteArray), (⟨#[105, 118, 97, 110]⟩ : ByteArray), (⟨#[106, 97, 110, 97]⟩ : ByteArray), (⟨#[107, 97, 114, 108]⟩ : ByteArray), (⟨#[108, 101, 110, 97]⟩ : ByteArray)]).getD (r1.1 : Int).toNat ByteArray.empty, r1.2)
 else
 none
def spec_l01Good.fn (n : Nat) (s0 : List Int × Int × Int) : Option YAJ := spec_l01Good.top s0
def spec_l01Good.f (s0 : List Int × Int × Int) : Option YAJ := spec_l01Good.fn NN s0
end
end Go.Pl

namespace Go.Pl
open Go.Ev
set_option linter.unusedVariables false
noncomputable section
def spec_l01DrawWord.top (s0 : List Int × Int × Int) : Option YAJ :=
 (spec_l01Next.f s0 24).bind fun r1 =>
 if ((r1.1 : Int) == 0) = true then
 (spec_l01Next.f r1.2 6).bind fun r2 =>
 if (0 : Int) ≤ r2.1 ∧ (r2.1 : Int) < ([(⟨#[]⟩ : ByteArray), (⟨#[65, 100, 97]⟩ : ByteArray), (⟨#[97, 49]⟩ : ByteArray), (⟨#[97, 98, 99, 100, 101, 102, 103, 104, 105, 106, 107, 108, 109, 110, 111, 112]⟩ : ByteArray), (⟨#[97, 98, 99, 100, 101, 102, 103, 104, 105, 106, 107, 108, 109, 110, 111, 112, 113]⟩ : ByteArray), (⟨#[97, 32, 98]⟩ : ByteArray)]).length then
 some (([(⟨#[]⟩ : ByteArray), (⟨#[65, 100, 97]⟩ : ByteArray), (⟨#[97, 49]⟩ : ByteArray), (⟨#[97, 98, 99, 100, 101, 102, 103, 104, 105, 106, 107, 108, 109, 110, 111, 112]⟩ : ByteArray), (⟨#[97, 98, 99, 100, 101, 102, 103, 104, 105, 106, 107, 108, 109, 110, 111, 112, 113]⟩ : ByteArray), (⟨#[97, 32, 98]⟩ : ByteArray)]).getD (r2.1 : Int).toNat ByteArray.empty, r2.2)
 else
 none
 else
 (spec_l01Good.f r1.2).bind fun r3 =>
 some (r3.1, r3.2)
def spec_l01DrawWord.fn (n : Nat) (s0 : List Int × Int × Int) : Option YAJ := spec_l01DrawWord.top s0
def spec_l01DrawWord.f (s0 : List Int × Int × Int) : Option YAJ := spec_l01DrawWord.fn NN s0
end
end Go.Pl

namespace Go.Pl
open Go.Ev
set_option linter.unusedVariables false
noncomputable section
def spec_l32Good.g4 (L4 : Int → YX → YD → List ByteArray → Option YQ) (n5 : Int) (s0 : List Int × Int × Int) (q : List YA) (p : List ByteArray) : Option YQ :=
 if (decide ((0 : Int) < n5)) = true then
 (spec_l01Next.f s0 4).bind fun r3 =>
 (spec_l01Next.f r3.2 4).bind fun r4 =>
 if (0 : Int) ≤ r4.1 ∧ (r4.1 : Int) < p.length then
 (spec_l01Next.f r4.2 12).bind fun r5 =>
 (spec_l32Left.f q (p.getD (r4.1 : Int).toNat ByteArray.empty) (q.length : Int)).bind fun r6 =>
 if (decide ((0 : Int) < r3.1)) = true then
 if (decide ((0 : Int) < r6)) = true then
 (spec_l01Next.f r5.2 2).bind fun r7 =>
 if ((r7.1 : Int) == 0) = true then
 if ((r6 : Int) == 0) = true then
 (spec_BookPieces.f q (0, (p.getD (r4.1 : Int).toNat ByteArray.empty, (if r6 < 1000 then r6 else 1000)))).bind fun r8 =>
 if ((r8.2 : Int) == 0) = true then
 L4 (IntKind.i64.wrap (n5 - 1)) r7.2 r8.1 p
 else
 L4 (IntKind.i64.wrap (n5 - 1)) r7.2 q p
 else
 (spec_BookPieces.f q (r3.1, (p.getD (r4.1 : Int).toNat ByteArray.empty, (if r6 < 1000 then r6 else 1000)))).bind fun r9 =>
 if ((r9.2 : Int) == 0) = true then
 L4 (IntKind.i64.wrap (n5 - 1)) r7.2 r9.1 p
 else
 L4 (IntKind.i64.wrap (n5 - 1)) r7.2 q p
 else if ((r6 : Int) == 0) = true then
 (spec_BookPieces.f q (0, (p.getD (r4.1 : Int).toNat ByteArray.empty, IntKind.i64.wrap (1 + r5.1)))).bind fun r10 =>
 if ((r10.2 : Int) == 0) = true then
 L4 (IntKind.i64.wrap (n5 - 1)) r7.2 r10.1 p
 else
 L4 (IntKind.i64.wrap (n5 - 1)) r7.2 q p
 else
 (spec_BookPieces.f q (r3.1, (p.getD (r4.1 : Int).toNat ByteArray.empty, IntKind.i64.wrap (1 + r5.1)))).bind fun r11 =>
 if ((r11.2 : Int) == 0) = true then
 L4 (IntKind.i64.wrap (n5 - 1)) r7.2 r11.1 p
 else
 L4 (IntKind.i64.wrap (n5 - 1)) r7.2 q p
 else if ((r6 : Int) == 0) = true then
 (spec_BookPieces.f q (0, (p.getD (r4.1 : Int).toNat ByteArray.empty, IntKind.i64.wrap (1 + r5.1)))).bind fun r12 =>
 if ((r12.2 : Int) == 0) = true then
 L4 (IntKind.i64.wrap (n5 - 1)) r5.2 r12.1 p
 else
 L4 (IntKind.i64.wrap (n5 - 1)) r5.2 q p
 else
 (spec_BookPieces.f q (r3.1, (p.getD (r4.1 : Int).toNat ByteArray.empty, IntKind.i64.wrap (1 + r5.1)))).bind fun r13 =>
 if ((r13.2 : Int) == 0) = true then
 L4 (IntKind.i64.wrap (n5 - 1)) r5.2 r13.1 p
 else
 L4 (IntKind.i64.wrap (n5 - 1)) r5.2 q p
 else if ((r6 : Int) == 0) = true then
 (spec_BookPieces.f q (0, (p.getD (r4.1 : Int).toNat ByteArray.empty, IntKind.i64.wrap (1 + r5.1)))).bind fun r14 =>
 if ((r14.2 : Int) == 0) = true then
 L4 (IntKind.i64.wrap (n5 - 1)) r5.2 r14.1 p
 else
 L4 (IntKind.i64.wrap (n5 - 1)) r5.2 q p
 else
 (spec_BookPieces.f q (r3.1, (p.getD (r4.1 : Int).toNat ByteArray.empty, IntKind.i64.wrap (1 + r5.1)))).bind fun r15 =>
 if ((r15.2 : Int) == 0) = true then
 L4 (IntKind.i64.wrap (n5 - 1)) r5.2 r15.1 p
 else
 L4 (IntKind.i64.wrap (n5 - 1)) r5.2 q p
 else
 none
 else
 some (q, s0)
def spec_l32Good.l4 (n : Nat) : Nat → Int → YX → YD → List ByteArray → Option YQ
 | 0 => fun _ _ _ _ => none
 | k + 1 => spec_l32Good.g4 (spec_l32Good.l4 n k)
def spec_l32Good.top (I4 : Int → YX → YD → List ByteArray → Option YQ) (s0 : List Int × Int × Int) : Option YQ :=
 (spec_l03Names.f).bind fun r1 =>
 (spec_l01Next.f s0 10).bind fun r2 =>
 I4 r2.1 r2.2 [] r1
def spec_l32Good.fn (n : Nat) (s0 : List Int × Int × Int) : Option YQ := spec_l32Good.top (spec_l32Good.l4 n n) s0
def spec_l32Good.f (s0 : List Int × Int × Int) : Option YQ := spec_l32Good.fn NN s0
end
end Go.Pl

namespace Go.Pl
open Go.Ev
set_option linter.unusedVariables false
noncomputable section
def spec_l32Draw.g6 (L6 : YX → YD → Option YQ) (s0 : List Int × Int × Int) (p : List YA) : Option YQ :=
 (spec_l01Next.f s0 2).bind fun r6 =>
 if (decide (((p.length : Int) : Int) < (IntKind.i64.wrap (60 + r6.1)))) = true then
 if p.length + ([(0, ((⟨#[112, 97, 108, 109]⟩ : ByteArray), 1))]).length < room 32 then
 L6 r6.2 (p ++ ([(0, ((⟨#[112, 97, 108, 109]⟩ : ByteArray), 1))]))
 else
 none
 else
 some (p, r6.2)
def spec_l32Draw.l6 (n : Nat) : Nat → YX → YD → Option YQ
 | 0 => fun _ _ => none
 | k + 1 => spec_l32Draw.g6 (spec_l32Draw.l6 n k)
def spec_l32Draw.top (I6 : YX → YD → Option YQ) (s0 : List Int × Int × Int) : Option YQ :=
 (spec_l32Good.f s0).bind fun r1 =>
 (spec_l01Next.f r1.2 30).bind fun r2 =>
 if ((r2.1 : Int) == 0) = true then
 (spec_l01Next.f r2.2 6).bind fun r3 =>
 (spec_l01DrawWord.f r3.2).bind fun r4 =>
 (spec_l01Pick.f r4.2 ([0, 1, 1000, 1001])).bind fun r5 =>
 if r1.1.length + ([(IntKind.i64.wrap (r3.1 - 1), (r4.1, r5.1))]).length < room 32 then
 some (r1.1 ++ ([(IntKind.i64.wrap (r3.1 - 1), (r4.1, r5.1))]), r5.2)
 else
 none
 else if ((r2.1 : Int) == 1) = true then
 I6 r2.2 r1.1
 else if ((r2.1 : Int) == 2) = true then
 if r1.1.length + ([(0, ((⟨#[97, 115, 116, 101, 114]⟩ : ByteArray), 1000)), (0, ((⟨#[97, 115, 116, 101, 114]⟩ : ByteArray), 700))]).length < room 32 then
 some (r1.1 ++ ([(0, ((⟨#[97, 115, 116, 101, 114]⟩ : ByteArray), 1000)), (0, ((⟨#[97, 115, 116, 101, 114]⟩ : ByteArray), 700))]), r2.2)
 else
 none
 else
 some (r1.1, r2.2)
def spec_l32Draw.fn (n : Nat) (s0 : List Int × Int × Int) : Option YQ := spec_l32Draw.top (spec_l32Draw.l6 n n) s0
def spec_l32Draw.f (s0 : List Int × Int × Int) : Option YQ := spec_l32Draw.fn NN s0
end
end Go.Pl

namespace Go.Pl
open Go.Ev
set_option linter.unusedVariables false
noncomputable section
def spec_DrawBookPieces.top (p : List Int) : Option (YD × Int × ByteArray × Int) :=
 (spec_l01From.f p).bind fun r1 =>
 (spec_l32Draw.f r1).bind fun r2 =>
 (spec_l01Next.f r2.2 4).bind fun r3 =>
 (spec_l03Names.f).bind fun r4 =>
 (spec_l01Next.f r3.2 5).bind fun r5 =>
 if (0 : Int) ≤ r5.1 ∧ (r5.1 : Int) < r4.length then
 (spec_l01Next.f r5.2 12).bind fun r6 =>
 (spec_l01Next.f r6.2 4).bind fun r7 =>
 (spec_l01Pick.f r7.2 ([IntKind.i64.wrap (1 + r6.1), 1, 1000, 1001, IntKind.i64.wrap (1 + r7.1)])).bind fun r8 =>
 some (r2.1, (r3.1, (r4.getD (r5.1 : Int).toNat ByteArray.empty, r8.1)))
 else
 none
def spec_DrawBookPieces.fn (n : Nat) (p : List Int) : Option (YD × Int × ByteArray × Int) := spec_DrawBookPieces.top p
def spec_DrawBookPieces.f (p : List Int) : Option (YD × Int × ByteArray × Int) := spec_DrawBookPieces.fn NN p
end
end Go.Pl

namespace Go.Pl
open Go.Ev
set_option linter.unusedVariables false
noncomputable section
def spec_DrawPiecesLeft.top (p : List Int) : Option (YD × ByteArray) :=
 (spec_l01From.f p).bind fun r1 =>
 (spec_l32Draw.f r1).bind fun r2 =>
 (spec_l01Next.f r2.2 16).bind fun r3 =>
 if ((r3.1 : Int) == 0) = true then
 (spec_l01DrawWord.f r3.2).bind fun r4 =>
 some (r2.1, r4.1)
 else
 (spec_l03Names.f).bind fun r5 =>
 (spec_l01Next.f r3.2 5).bind fun r6 =>
 if (0 : Int) ≤ r6.1 ∧ (r6.1 : Int) < r5.length then
 some (r2.1, r5.getD (r6.1 : Int).toNat ByteArray.empty)
 else
 none
def spec_DrawPiecesLeft.fn (n : Nat) (p : List Int) : Option (YD × ByteArray) := spec_DrawPiecesLeft.top p
def spec_DrawPiecesLeft.f (p : List Int) : Option (YD × ByteArray) := spec_DrawPiecesLeft.fn NN p
end
end Go.Pl

namespace Go.Pl
open Go.Ev
set_option linter.unusedVariables false
noncomputable section
def spec_DrawTotalsOf.top (p : List Int) : Option (YD × ByteArray) :=
 (spec_DrawPiecesLeft.f p).bind fun r1 =>
 some (r1.1, r1.2)
def spec_DrawTotalsOf.fn (n : Nat) (p : List Int) : Option (YD × ByteArray) := spec_DrawTotalsOf.top p
def spec_DrawTotalsOf.f (p : List Int) : Option (YD × ByteArray) := spec_DrawTotalsOf.fn NN p
end
end Go.Pl

namespace Go.Pl
open Go.Ev
set_option linter.unusedVariables false
noncomputable section
def laws_likeBookings.g4 (L4 : YD → YD → Int → Option Bool) (a0 : List YA) (b1 : List YA) (i5 : Int) : Option Bool :=
 if (decide ((i5 : Int) < (a0.length : Int))) = true then
 if (0 : Int) ≤ i5 ∧ (i5 : Int) < a0.length then
 if (0 : Int) ≤ i5 ∧ (i5 : Int) < b1.length then
 if (!(((((a0.getD (i5 : Int).toNat (0, (ByteArray.empty, 0))).1) : Int) == ((b1.getD (i5 : Int).toNat (0, (ByteArray.empty, 0))).1)) && (((((a0.getD (i5 : Int).toNat (0, (ByteArray.empty, 0))).2).1).toList == (((b1.getD (i5 : Int).toNat (0, (ByteArray.empty, 0))).2).1).toList) && (((((a0.getD (i5 : Int).toNat (0, (ByteArray.empty, 0))).2).2) : Int) == (((b1.getD (i5 : Int).toNat (0, (ByteArray.empty, 0))).2).2))))) = true then
 some false
 else
 L4 a0 b1 (IntKind.i64.wrap (i5 + 1))
 else
 none
 else
 none
 else
 some true
def laws_likeBookings.l4 (n : Nat) : Nat → YD → YD → Int → Option Bool
 | 0 => fun _ _ _ => none
 | k + 1 => laws_likeBookings.g4 (laws_likeBookings.l4 n k)
def laws_likeBookings.top (I4 : YD → YD → Int → Option Bool) (a0 : List YA) (b1 : List YA) : Option Bool :=
 if (((a0.length : Int) : Int) != (b1.length : Int)) = true then
 some false
 else
 I4 a0 b1 0
def laws_likeBookings.fn (n : Nat) (a0 : List YA) (b1 : List YA) : Option Bool := laws_likeBookings.top (laws_likeBookings.l4 n n) a0 b1
def laws_likeBookings.f (a0 : List YA) (b1 : List YA) : Option Bool := laws_likeBookings.fn NN a0 b1
end
end Go.Pl

namespace Go.Pl
open Go.Ev
set_option linter.unusedVariables false
set_option linter.unusedSimpArgs false
theorem leftOf_nonneg : ∀ (r p : List (Int × ByteArray × Int)) (a : ByteArray), okFrom p r = true → 0 ≤ leftOf p a → 0 ≤ leftOf (p ++ r) a := by
  intro r
  induction r with
  | nil => intro p a _ h; rwa [List.append_nil]
  | cons b r ih =>
    intro p a h hp
    simp only [okFrom, Bool.and_eq_true, decide_eq_true_eq] at h
    have := ih (p ++ [b]) a h.2 (by
      by_cases ha : b.2.1 = a
      · rw [← ha]; exact h.1.2
      · rw [leftOf_snoc]; unfold addL; rw [if_neg ha]; exact hp)
    rwa [List.append_assoc] at this
theorem tot0_mono (a : ByteArray) : ∀ (r p : List (Int × ByteArray × Int)), (∀ b ∈ p ++ r, valB b = true) → (totL p a).getD 0 0 ≤ (totL (p ++ r) a).getD 0 0 := by
  intro r
  induction r with
  | nil => intro p _; rw [List.append_nil]; exact Int.le_refl _
  | cons b r ih =>
    intro p h
    have h1 := ih (p ++ [b]) (by rw [List.append_assoc]; exact h)
    rw [List.append_assoc] at h1
    refine Int.le_trans ?_ h1
    have hv := valB_count (h b (by simp))
    obtain ⟨t0, t1, t2, t3, q1, q2⟩ := totL_shape a p (fun x hx => h x (by simp [hx]))
    rw [totL_snoc, q1]
    unfold addT
    split
    · obtain h | h | h | h : b.1 = 0 ∨ b.1 = 1 ∨ b.1 = 2 ∨ b.1 = 3 := by omega
      all_goals (rw [h]; simp)
      omega
    · exact Int.le_refl _
theorem left_tot0 (xs : List (Int × ByteArray × Int)) (a : ByteArray) (h : ∀ b ∈ xs, valB b = true) (n : Nat) : leftOf (xs.take n) a ≤ (totL xs a).getD 0 0 := by
  have h1 := tot0_mono a (xs.drop n) (xs.take n) (by rw [List.take_append_drop]; exact h)
  rw [List.take_append_drop] at h1
  obtain ⟨t0, t1, t2, t3, q1, q2, q3, q4, q5, q6, q7⟩ := totL_shape a (xs.take n) (fun x hx => h x (List.mem_of_mem_take hx))
  rw [q1] at h1
  have : ([t0, t1, t2, t3] : List Int).getD 0 0 = t0 := rfl
  rw [this] at h1
  omega
theorem most_le (xs : List (Int × ByteArray × Int)) (a : ByteArray) (h : ∀ b ∈ xs, valB b = true) (B : Int) (hB : ∀ n, leftOf (xs.take n) a ≤ B) : ∀ (r : List (Int × ByteArray × Int)) (i : Nat) (st : Int), st ≤ B → foldi (fun i st (_ : Int × ByteArray × Int) => mostF xs a i st) i st r ≤ B := by
  intro r
  induction r with
  | nil => intro i st hs; exact hs
  | cons b r ih =>
    intro i st hs
    refine ih (i + 1) _ ?_
    have := hB (i + 1)
    show mostF xs a i st ≤ B
    unfold mostF; split <;> omega
theorem most_ge (xs : List (Int × ByteArray × Int)) (a : ByteArray) : ∀ (r : List (Int × ByteArray × Int)) (i : Nat) (st : Int), st ≤ foldi (fun i st (_ : Int × ByteArray × Int) => mostF xs a i st) i st r ∧ (0 < r.length → leftOf (xs.take (i + r.length)) a ≤ foldi (fun i st (_ : Int × ByteArray × Int) => mostF xs a i st) i st r) := by
  intro r
  induction r with
  | nil => intro i st; exact ⟨Int.le_refl _, fun h => by simp at h⟩
  | cons b r ih =>
    intro i st
    have h1 := ih (i + 1) (mostF xs a i st)
    have h2 : st ≤ mostF xs a i st ∧ leftOf (xs.take (i + 1)) a ≤ mostF xs a i st := by unfold mostF; split <;> omega
    refine ⟨Int.le_trans h2.1 h1.1, fun _ => ?_⟩
    cases r with
    | nil => exact Int.le_trans h2.2 h1.1
    | cons c r =>
      have := h1.2 (by simp)
      rw [show i + (b :: c :: r).length = i + 1 + (c :: r).length by simp only [List.length_cons]; omega]
      exact this
theorem most_bd (xs : List (Int × ByteArray × Int)) (a : ByteArray) (h : booksB xs = true) : 0 ≤ leftOf xs a ∧ leftOf xs a ≤ mostL xs a ∧ mostL xs a ≤ (totL xs a).getD 0 0 := by
  have hv := booksB_val h
  have hok : okFrom [] xs = true := by
    unfold booksB at h
    simp only [Bool.and_eq_true] at h
    exact h.2
  have h0 := leftOf_nonneg xs [] a hok (Int.le_refl 0)
  rw [List.nil_append] at h0
  have ht := left_tot0 xs a hv.1
  refine ⟨h0, ?_, ?_⟩
  · have := most_ge xs a xs 0 0
    unfold mostL
    cases xs with
    | nil => exact Int.le_refl 0
    | cons b r =>
      have h2 := this.2 (by simp)
      rw [Nat.zero_add, List.take_length] at h2
      exact h2
  · unfold mostL
    refine most_le xs a hv.1 _ ht xs 0 0 ?_
    have := ht 0
    rw [List.take_zero] at this
    exact this
end Go.Pl

namespace Go.Pl
open Go.Ev
set_option linter.unusedVariables false
set_option linter.unusedSimpArgs false
def dg (n : Nat) : UInt8 := UInt8.ofNat (48 + n)
theorem decB1 {n : Int} (h0 : 0 ≤ n) (h : n < 10) : decB n = ob [dg n.toNat] := by
  obtain ⟨m, rfl⟩ : ∃ m : Nat, n = m := ⟨n.toNat, by omega⟩
  rw [decB_nat, digs_small (by omega)]; rfl
theorem impl_padded_l (d : Int) : ∀ (n : Nat) (L : List UInt8) (k : Nat), (L.length : Int) + n = d → L.length + n ≤ 1000 → n < k → impl_padded.l2 NN k d (ob L) = some (ob (List.replicate n 48 ++ L)) := by
  intro n
  induction n with
  | zero =>
    intro L k h _ hk
    obtain ⟨k, rfl⟩ : ∃ j, k = j + 1 := ⟨k - 1, by omega⟩
    have e : ¬ (L.length : Int) < d := by omega
    simp [impl_padded.l2, impl_padded.g2, ob_size, e]
  | succ n ih =>
    intro L k h h2 hk
    obtain ⟨k, rfl⟩ : ∃ j, k = j + 1 := ⟨k - 1, by omega⟩
    have e : (L.length : Int) < d := by omega
    have c : (⟨#[48]⟩ : ByteArray) = ob [48] := rfl
    have q : ([48] : List UInt8).length + L.length ≤ 9223372036854775807 := by simp; omega
    simp only [impl_padded.l2, impl_padded.g2, ob_size, e, c, q, ob_append, and_self, and_true, true_and, decide_true, decide_false, if_true, if_false, mid_get, mid_set, mid_getn, mid_setn, bt_mid, Option.bind_some, Bool.not_true, Bool.not_false, Bool.false_eq_true, Bool.true_eq_false, beq_self_eq_true, bne_self_eq_false, Int.toNat_natCast]
    rw [ih _ k (by simp; omega) (by simp; omega) (by omega)]
    congr 2
    rw [List.replicate_succ']; simp
theorem impl_padded2_f {n : Int} (h0 : 0 ≤ n) (h : n < 100) : impl_padded.f n 2 = some (ob [dg (n.toNat / 10), dg (n.toNat % 10)]) := by
  obtain ⟨m, rfl⟩ : ∃ m : Nat, n = m := ⟨n.toNat, by omega⟩
  rw [Int.toNat_natCast]
  unfold impl_padded.f impl_padded.fn impl_padded.top
  rw [impl_decimal_f (by omega) (by omega), decB_nat, Option.bind_some]
  by_cases h1 : m < 10
  · rw [digs_small h1, impl_padded_l 2 1 _ NN (by simp) (by simp) (NN_lt (by omega))]
    have e1 : m / 10 = 0 := by omega
    have e2 : m % 10 = m := by omega
    rw [e1, e2]; rfl
  · rw [digs_big h1, digs_small (show m / 10 < 10 by omega), impl_padded_l 2 0 _ NN (by simp) (by simp) (NN_lt (by omega))]; rfl
theorem impl_padded3_f {n : Int} (h0 : 0 ≤ n) (h : n < 1000) : impl_padded.f n 3 = some (ob [dg (n.toNat / 100), dg (n.toNat / 10 % 10), dg (n.toNat % 10)]) := by
  obtain ⟨m, rfl⟩ : ∃ m : Nat, n = m := ⟨n.toNat, by omega⟩
  rw [Int.toNat_natCast]
  unfold impl_padded.f impl_padded.fn impl_padded.top
  rw [impl_decimal_f (by omega) (by omega), decB_nat, Option.bind_some]
  by_cases h1 : m < 10
  · rw [digs_small h1, impl_padded_l 3 2 _ NN (by simp) (by simp) (NN_lt (by omega))]
    have e1 : m / 10 % 10 = 0 := by omega
    have e2 : m % 10 = m := by omega
    have e3 : m / 100 = 0 := by omega
    rw [e1, e2, e3]; rfl
  · by_cases h2 : m < 100
    · rw [digs_big h1, digs_small (show m / 10 < 10 by omega), impl_padded_l 3 1 _ NN (by simp) (by simp) (NN_lt (by omega))]
      have e1 : m / 10 % 10 = m / 10 := by omega
      have e3 : m / 100 = 0 := by omega
      rw [e1, e3]; rfl
    · rw [digs_big h1, digs_big (show ¬ m / 10 < 10 by omega), digs_small (show m / 10 / 10 < 10 by omega), impl_padded_l 3 0 _ NN (by simp) (by simp) (NN_lt (by omega))]
      have e3 : m / 10 / 10 = m / 100 := by omega
      rw [e3]; rfl
noncomputable def ttR (t : Int) : ByteArray × Int := (impl_TimeText.f t).getD (ByteArray.empty, 0)
theorem TimeText_both (t : Int) : spec_TimeText.f t = some (ttR t) ∧ impl_TimeText.f t = some (ttR t) ∧ (ttR t).1.size ≤ 40 := by
  have key : ∃ v, spec_TimeText.f t = some v ∧ impl_TimeText.f t = some v ∧ v.1.size ≤ 40 := by
    unfold spec_TimeText.f spec_TimeText.fn spec_TimeText.top impl_TimeText.f impl_TimeText.fn impl_TimeText.top
    rw [spec_l01IsTime_f, impl_isTime_f]
    cases ht : inB t 0 10000000
    · exact ⟨(⟨#[]⟩, 2), rfl, rfl, by decide⟩
    have ht' := inB_iff.1 ht
    have d1 : Int.tdiv t 60000 = t / 60000 := Int.tdiv_eq_ediv_of_nonneg ht'.1
    have d2 : Int.tdiv t 1000 = t / 1000 := Int.tdiv_eq_ediv_of_nonneg ht'.1
    have m1 : Int.tmod t 1000 = t % 1000 := Int.tmod_eq_emod_of_nonneg ht'.1
    have m2 : Int.tmod (t / 1000) 60 = t / 1000 % 60 := Int.tmod_eq_emod_of_nonneg (by omega)
    have d3 : Int.tdiv (t / 1000 % 60) 10 = t / 1000 % 60 / 10 := Int.tdiv_eq_ediv_of_nonneg (by omega)
    have m3 : Int.tmod (t / 1000 % 60) 10 = t / 1000 % 60 % 10 := Int.tmod_eq_emod_of_nonneg (by omega)
    have d4 : Int.tdiv (t % 1000) 100 = t % 1000 / 100 := Int.tdiv_eq_ediv_of_nonneg (by omega)
    have d5 : Int.tdiv (t % 1000) 10 = t % 1000 / 10 := Int.tdiv_eq_ediv_of_nonneg (by omega)
    have m4 : Int.tmod (t % 1000 / 10) 10 = t % 1000 / 10 % 10 := Int.tmod_eq_emod_of_nonneg (by omega)
    have m5 : Int.tmod (t % 1000) 10 = t % 1000 % 10 := Int.tmod_eq_emod_of_nonneg (by omega)
    have hsz := decB_size (n := t / 60000) (by omega) (by omega)
    have hd : ∃ L, decB (t / 60000) = ob L := ⟨_, rfl⟩
    obtain ⟨L, hL⟩ := hd
    rw [hL, ob_size] at hsz
    have c58 : (⟨#[58]⟩ : ByteArray) = ob [58] := rfl
    have c46 : (⟨#[46]⟩ : ByteArray) = ob [46] := rfl
    have T1 : impl_timeText.f t = some (ob (L ++ [58] ++ [dg ((t / 1000 % 60).toNat / 10), dg ((t / 1000 % 60).toNat % 10)] ++ [46] ++ [dg ((t % 1000).toNat / 100), dg ((t % 1000).toNat / 10 % 10), dg ((t % 1000).toNat % 10)])) := by
      unfold impl_timeText.f impl_timeText.fn impl_timeText.top
      rw [d1, d2, m1, w64 (n := t / 60000) (by omega) (by omega), w64 (n := t / 1000) (by omega) (by omega), m2, impl_decimal_f (n := t / 60000) (by omega) (by omega), impl_padded2_f (n := t / 1000 % 60) (by omega) (by omega), impl_padded3_f (n := t % 1000) (by omega) (by omega), hL]
      simp only [Option.bind_some, c58, c46, ob_append, ob_size, List.length_append, List.length_cons, List.length_nil]
      rw [if_pos (by omega), if_pos (by omega), if_pos (by omega), if_pos (by omega)]
    have T2 : spec_l01Time.f t = some (ob (L ++ [58] ++ [dg ((t / 1000 % 60).toNat / 10), dg ((t / 1000 % 60).toNat % 10)] ++ [46] ++ [dg ((t % 1000).toNat / 100), dg ((t % 1000).toNat / 10 % 10), dg ((t % 1000).toNat % 10)])) := by
      unfold spec_l01Time.f spec_l01Time.fn spec_l01Time.top
      rw [d1, d2, m1, w64 (n := t / 60000) (by omega) (by omega), w64 (n := t / 1000) (by omega) (by omega), m2, d3, m3, d4, d5, w64 (n := t / 1000 % 60 / 10) (by omega) (by omega), w64 (n := t % 1000 / 100) (by omega) (by omega), w64 (n := t % 1000 / 10) (by omega) (by omega), m4, m5]
      rw [spec_l01Dec_f (n := t / 60000) (by omega) (by omega), spec_l01Dec_f (n := t / 1000 % 60 / 10) (by omega) (by omega), spec_l01Dec_f (n := t / 1000 % 60 % 10) (by omega) (by omega), spec_l01Dec_f (n := t % 1000 / 100) (by omega) (by omega), spec_l01Dec_f (n := t % 1000 / 10 % 10) (by omega) (by omega), spec_l01Dec_f (n := t % 1000 % 10) (by omega) (by omega), hL]
      rw [decB1 (n := t / 1000 % 60 / 10) (by omega) (by omega), decB1 (n := t / 1000 % 60 % 10) (by omega) (by omega), decB1 (n := t % 1000 / 100) (by omega) (by omega), decB1 (n := t % 1000 / 10 % 10) (by omega) (by omega), decB1 (n := t % 1000 % 10) (by omega) (by omega)]
      simp only [Option.bind_some, c58, c46, ob_append, ob_size, List.length_append, List.length_cons, List.length_nil]
      rw [if_pos (by omega), if_pos (by omega), if_pos (by omega), if_pos (by omega), if_pos (by omega), if_pos (by omega), if_pos (by omega)]
      have e1 : (t / 1000 % 60 / 10).toNat = (t / 1000 % 60).toNat / 10 := by omega
      have e2 : (t / 1000 % 60 % 10).toNat = (t / 1000 % 60).toNat % 10 := by omega
      have e3 : (t % 1000 / 100).toNat = (t % 1000).toNat / 100 := by omega
      have e4 : (t % 1000 / 10 % 10).toNat = (t % 1000).toNat / 10 % 10 := by omega
      have e5 : (t % 1000 % 10).toNat = (t % 1000).toNat % 10 := by omega
      rw [e1, e2, e3, e4, e5]
      simp
    simp only [and_self, and_true, true_and, decide_true, decide_false, if_true, if_false, mid_get, mid_set, mid_getn, mid_setn, bt_mid, Option.bind_some, Bool.not_true, Bool.not_false, Bool.false_eq_true, Bool.true_eq_false, beq_self_eq_true, bne_self_eq_false, Int.toNat_natCast, T1, T2]
    refine ⟨_, rfl, rfl, ?_⟩
    simp only [ob_size, List.length_append, List.length_cons, List.length_nil]; omega
  obtain ⟨v, h1, h2, h3⟩ := key
  have : ttR t = v := by unfold ttR; rw [h2]; rfl
  rw [this]
  exact ⟨h1, h2, h3⟩
end Go.Pl

namespace Go.Pl
open Go.Ev
set_option linter.unusedVariables false
set_option linter.unusedSimpArgs false
theorem mul_le2 {a b A B : Int} (ha : 0 ≤ a) (hA : a ≤ A) (hb : 0 ≤ b) (hB : b ≤ B) : 0 ≤ a * b ∧ a * b ≤ A * B :=
  ⟨Int.mul_nonneg ha hb, Int.mul_le_mul hA hB hb (by omega)⟩
def cub (m : Int) : Int := m * m * m
theorem cub_le {a b : Int} (ha : 0 ≤ a) (h : a ≤ b) : cub a ≤ cub b := by
  have h1 := mul_le2 ha h ha h
  exact (mul_le2 h1.1 h1.2 ha h).2
theorem cub_bd {m : Int} (h0 : 0 ≤ m) (h1 : m ≤ 300000) : (0 ≤ m * m ∧ m * m ≤ 90000000000) ∧ 0 ≤ m * m * m ∧ m * m * m ≤ 27000000000000000 := by
  have a := mul_le2 h0 h1 h0 h1
  have b := mul_le2 a.1 a.2 h0 h1
  refine ⟨⟨a.1, by omega⟩, b.1, by omega⟩
def SepP (c h : Int) : Prop := 0 ≤ h ∧ h ≤ 300000 ∧ c ≤ cub h ∧ (h = 0 ∨ cub (h - 1) < c)
theorem sep_one {c h i : Int} (a : SepP c h) (b : SepP c i) : h = i := by
  obtain ⟨a1, a2, a3, a4⟩ := a
  obtain ⟨b1, b2, b3, b4⟩ := b
  rcases Int.lt_trichotomy h i with hlt | heq | hgt
  · rcases b4 with b4 | b4
    · omega
    · have := cub_le a1 (show h ≤ i - 1 by omega); omega
  · exact heq
  · rcases a4 with a4 | a4
    · omega
    · have := cub_le b1 (show i ≤ h - 1 by omega); omega
theorem half {a b : Int} (h : 0 ≤ a + b) : Int.tdiv (a + b) 2 = (a + b) / 2 := Int.tdiv_eq_ediv_of_nonneg h
theorem impl_sep_l (c : Int) : ∀ (n : Nat) (low high : Int) (k : Nat), 0 ≤ low → low ≤ high → high ≤ 300000 → high - low ≤ n → c ≤ cub high → (low = 0 ∨ cub (low - 1) < c) → n < k →
    ∃ h, impl_separation.l3 NN k c low high = some h ∧ SepP c h := by
  intro n
  induction n with
  | zero =>
    intro low high k h0 h1 h2 h3 h4 h5 hk
    obtain ⟨k, rfl⟩ : ∃ j, k = j + 1 := ⟨k - 1, by omega⟩
    have e : ¬ low < high := by omega
    have e2 : high = low := by omega
    refine ⟨low, by simp [impl_separation.l3, impl_separation.g3, e], h0, by omega, by rw [← e2]; exact h4, h5⟩
  | succ n ih =>
    intro low high k h0 h1 h2 h3 h4 h5 hk
    obtain ⟨k, rfl⟩ : ∃ j, k = j + 1 := ⟨k - 1, by omega⟩
    by_cases e : low < high
    · have w1 := w64 (n := low + high) (by omega) (by omega)
      have w2 := w64 (n := (low + high) / 2) (by omega) (by omega)
      have hb := cub_bd (m := (low + high) / 2) (by omega) (by omega)
      have w3 := w64 (n := (low + high) / 2 * ((low + high) / 2)) (by omega) (by omega)
      have hb2 : 0 ≤ cub ((low + high) / 2) ∧ cub ((low + high) / 2) ≤ 27000000000000000 := hb.2
      have w4 := w64 (n := cub ((low + high) / 2)) (by omega) (by omega)
      have w5 := w64 (n := (low + high) / 2 + 1) (by omega) (by omega)
      have ec : (low + high) / 2 * ((low + high) / 2) * ((low + high) / 2) = cub ((low + high) / 2) := rfl
      simp only [impl_separation.l3, impl_separation.g3, e, w1, half (show 0 ≤ low + high by omega), w2, w3, w4, w5, ec, and_self, and_true, true_and, decide_true, decide_false, if_true, if_false, mid_get, mid_set, mid_getn, mid_setn, bt_mid, Option.bind_some, Bool.not_true, Bool.not_false, Bool.false_eq_true, Bool.true_eq_false, beq_self_eq_true, bne_self_eq_false, Int.toNat_natCast]
      by_cases q : c ≤ cub ((low + high) / 2)
      · simp only [q, and_self, and_true, true_and, decide_true, decide_false, if_true, if_false, mid_get, mid_set, mid_getn, mid_setn, bt_mid, Option.bind_some, Bool.not_true, Bool.not_false, Bool.false_eq_true, Bool.true_eq_false, beq_self_eq_true, bne_self_eq_false, Int.toNat_natCast]
        exact ih low ((low + high) / 2) k h0 (by omega) (by omega) (by omega) q h5 (by omega)
      · simp only [q, and_self, and_true, true_and, decide_true, decide_false, if_true, if_false, mid_get, mid_set, mid_getn, mid_setn, bt_mid, Option.bind_some, Bool.not_true, Bool.not_false, Bool.false_eq_true, Bool.true_eq_false, beq_self_eq_true, bne_self_eq_false, Int.toNat_natCast]
        refine ih ((low + high) / 2 + 1) high k (by omega) (by omega) h2 (by omega) h4 (.inr ?_) (by omega)
        rw [Int.add_sub_cancel]; omega
    · have e2 : high = low := by omega
      refine ⟨low, by simp [impl_separation.l3, impl_separation.g3, e], h0, by omega, by rw [← e2]; exact h4, h5⟩
theorem spec_l27Cube_f {m : Int} (h0 : 0 ≤ m) (h1 : m ≤ 300000) : spec_l27Cube.f m = some (cub m) := by
  have hb := cub_bd h0 h1
  unfold spec_l27Cube.f spec_l27Cube.fn spec_l27Cube.top cub
  rw [w64 (n := m * m) (by omega) (by omega), w64 (by omega) (by omega)]
theorem spec_sep_l (f g : Int) (hf : 0 ≤ f ∧ f ≤ 500) (hc : 0 ≤ cub f * g ∧ cub f * g ≤ 12500000000000000) : ∀ (n : Nat) (low high : Int) (k : Nat), -1 ≤ low → low < high → high ≤ 300000 → high - low ≤ n → cub f * g ≤ cub high → (low = -1 ∨ cub low < cub f * g) → n < k →
    ∃ h, spec_l27Need.l2 NN k f g low high = some h ∧ SepP (cub f * g) h := by
  intro n
  induction n with
  | zero => intro low high k _ _ _ _ _ _ _; omega
  | succ n ih =>
    intro low high k h0 h1 h2 h3 h4 h5 hk
    obtain ⟨k, rfl⟩ : ∃ j, k = j + 1 := ⟨k - 1, by omega⟩
    have w0 := w64 (n := low + 1) (by omega) (by omega)
    by_cases e : low + 1 < high
    · have w1 := w64 (n := low + high) (by omega) (by omega)
      have w2 := w64 (n := (low + high) / 2) (by omega) (by omega)
      have w3 := w64 (n := cub f * g) (by omega) (by omega)
      simp only [spec_l27Need.l2, spec_l27Need.g2, e, w0, w1, half (show 0 ≤ low + high by omega), w2, spec_l27Cube_f (show 0 ≤ (low + high) / 2 by omega) (by omega), spec_l27Cube_f hf.1 (show f ≤ 300000 by omega), w3, and_self, and_true, true_and, decide_true, decide_false, if_true, if_false, mid_get, mid_set, mid_getn, mid_setn, bt_mid, Option.bind_some, Bool.not_true, Bool.not_false, Bool.false_eq_true, Bool.true_eq_false, beq_self_eq_true, bne_self_eq_false, Int.toNat_natCast]
      by_cases q : cub f * g ≤ cub ((low + high) / 2)
      · simp only [q, and_self, and_true, true_and, decide_true, decide_false, if_true, if_false, mid_get, mid_set, mid_getn, mid_setn, bt_mid, Option.bind_some, Bool.not_true, Bool.not_false, Bool.false_eq_true, Bool.true_eq_false, beq_self_eq_true, bne_self_eq_false, Int.toNat_natCast]
        exact ih low ((low + high) / 2) k h0 (by omega) (by omega) (by omega) q h5 (by omega)
      · simp only [q, and_self, and_true, true_and, decide_true, decide_false, if_true, if_false, mid_get, mid_set, mid_getn, mid_setn, bt_mid, Option.bind_some, Bool.not_true, Bool.not_false, Bool.false_eq_true, Bool.true_eq_false, beq_self_eq_true, bne_self_eq_false, Int.toNat_natCast]
        exact ih ((low + high) / 2) high k (by omega) (by omega) h2 (by omega) h4 (.inr (by omega)) (by omega)
    · have e2 : high = low + 1 := by omega
      refine ⟨high, by simp [spec_l27Need.l2, spec_l27Need.g2, e, w0], by omega, h2, h4, ?_⟩
      rcases h5 with h5 | h5
      · exact .inl (by omega)
      · right; rw [e2, Int.add_sub_cancel]; exact h5
noncomputable def sepR (f g : Int) : Int × Int := (impl_SeparationFor.f f g).getD (0, 0)
theorem SeparationFor_both (f g : Int) : spec_SeparationFor.f f g = some (sepR f g) ∧ impl_SeparationFor.f f g = some (sepR f g) ∧ 0 ≤ (sepR f g).1 ∧ (sepR f g).1 ≤ 300000 := by
  have key : ∃ v, spec_SeparationFor.f f g = some v ∧ impl_SeparationFor.f f g = some v ∧ 0 ≤ v.1 ∧ v.1 ≤ 300000 := by
    unfold spec_SeparationFor.f spec_SeparationFor.fn spec_SeparationFor.top spec_l27Code.f spec_l27Code.fn spec_l27Code.top impl_SeparationFor.f impl_SeparationFor.fn impl_SeparationFor.top impl_isFactor.f impl_isFactor.fn impl_isFactor.top impl_areGrams.f impl_areGrams.fn impl_areGrams.top
    rw [spec_l01In_f, spec_l01In_f, impl_within_f, impl_within_f]
    cases hf : inB f 0 500
    · exact ⟨(0, 2), rfl, rfl, by simp, by simp⟩
    cases hg : inB g 0 100000000
    · exact ⟨(0, 2), rfl, rfl, by simp, by simp⟩
    have hf' := inB_iff.1 hf
    have hg' := inB_iff.1 hg
    have e : ((0 : Int) != 0) = false := rfl
    have a := mul_le2 hf'.1 hf'.2 hf'.1 hf'.2
    have b := mul_le2 a.1 a.2 hf'.1 hf'.2
    have c := mul_le2 b.1 b.2 hg'.1 hg'.2
    have ec : f * f * f = cub f := rfl
    rw [ec] at b c
    have w1 := w64 (n := f * f) (by omega) (by omega)
    have w2 := w64 (n := cub f) (by omega) (by omega)
    have w3 := w64 (n := cub f * g) (by omega) (by omega)
    have hi : cub f * g ≤ cub 300000 := by have : cub 300000 = 27000000000000000 := by decide +kernel
                                           omega
    obtain ⟨x, hx, px⟩ := spec_sep_l f g hf' ⟨c.1, by omega⟩ 300001 (-1) 300000 NN (by omega) (by omega) (by omega) (by omega) hi (.inl rfl) (NN_lt (by omega))
    obtain ⟨y, hy, py⟩ := impl_sep_l (cub f * g) 300001 0 300000 NN (by omega) (by omega) (by omega) (by omega) hi (.inl rfl) (NN_lt (by omega))
    have hxy := sep_one px py
    subst hxy
    refine ⟨(x, 0), ?_, ?_, px.1, px.2.1⟩
    · simp only [e, and_self, and_true, true_and, decide_true, decide_false, if_true, if_false, mid_get, mid_set, mid_getn, mid_setn, bt_mid, Option.bind_some, Bool.not_true, Bool.not_false, Bool.false_eq_true, Bool.true_eq_false, beq_self_eq_true, bne_self_eq_false, Int.toNat_natCast]
      unfold spec_l27Need.f spec_l27Need.fn spec_l27Need.top
      rw [hx]; rfl
    · simp only [and_self, and_true, true_and, decide_true, decide_false, if_true, if_false, mid_get, mid_set, mid_getn, mid_setn, bt_mid, Option.bind_some, Bool.not_true, Bool.not_false, Bool.false_eq_true, Bool.true_eq_false, beq_self_eq_true, bne_self_eq_false, Int.toNat_natCast]
      unfold impl_separation.f impl_separation.fn impl_separation.top
      rw [w1, ec, w2, w3, hy]; rfl
  obtain ⟨v, h1, h2, h3⟩ := key
  have : sepR f g = v := by unfold sepR; rw [h2]; rfl
  rw [this]
  exact ⟨h1, h2, h3⟩
end Go.Pl

namespace Go.Pl
open Go.Ev
set_option linter.unusedVariables false
set_option linter.unusedSimpArgs false
theorem floor2 (a : Int) (h0 : -9000000000000000000 ≤ a) (h1 : a ≤ 9000000000000000000) : (if decide (Int.tmod a 2000000 < 0) = true then some (IntKind.i64.wrap (IntKind.i64.wrap (Int.tdiv a 2000000) - 1)) else some (IntKind.i64.wrap (Int.tdiv a 2000000))) = some (a / 2000000) := by
  have h := Int.mul_tdiv_add_tmod a 2000000
  have hb : -2000000 < Int.tmod a 2000000 ∧ Int.tmod a 2000000 < 2000000 := ⟨Int.lt_tmod_of_pos a (by omega), Int.tmod_lt_of_pos a (by omega)⟩
  have hs : (0 ≤ a → 0 ≤ Int.tmod a 2000000) := fun h => Int.tmod_nonneg _ h
  generalize Int.tmod a 2000000 = r at *
  generalize Int.tdiv a 2000000 = q at *
  by_cases hr : r < 0
  · simp only [hr, decide_true, if_true]
    rw [w64 (n := q) (by omega) (by omega), w64 (by omega) (by omega)]
    congr 1; omega
  · simp only [hr, decide_false, Bool.false_eq_true, if_false]
    rw [w64 (by omega) (by omega)]
    congr 1; omega
def numN (u t : Int) : Int := 2000 * u * t - 9810 * t * t
def HN (u t : Int) : Int := numN u t / 2000000
theorem num_bd {u t : Int} (hu : 0 ≤ u ∧ u ≤ 200000) (ht : 0 ≤ t ∧ t ≤ 60000) : (0 ≤ 2000 * u * t ∧ 2000 * u * t ≤ 24000000000000) ∧ 0 ≤ 9810 * t * t ∧ 9810 * t * t ≤ 35316000000000 := by
  have a := mul_le2 (show 0 ≤ 2000 * u by omega) (show 2000 * u ≤ 400000000 by omega) ht.1 ht.2
  have b := mul_le2 (show 0 ≤ 9810 * t by omega) (show 9810 * t ≤ 588600000 by omega) ht.1 ht.2
  omega
theorem impl_heightAt_f {u t : Int} (hu : 0 ≤ u ∧ u ≤ 200000) (ht : 0 ≤ t ∧ t ≤ 60000) : impl_heightAt.f u t = some (HN u t) := by
  have b := num_bd hu ht
  unfold impl_heightAt.f impl_heightAt.fn impl_heightAt.top impl_floorDiv.f impl_floorDiv.fn impl_floorDiv.top
  rw [w64 (n := 2000 * u) (by omega) (by omega), w64 (n := 2000 * u * t) (by omega) (by omega), w64 (n := 9810 * t) (by omega) (by omega), w64 (n := 9810 * t * t) (by omega) (by omega), w64 (by omega) (by omega)]
  have := floor2 (2000 * u * t - 9810 * t * t) (by omega) (by omega)
  rw [if_neg (by omega), if_neg (by omega)]
  exact (congrArg (·.bind fun r1 => some r1) this).trans rfl
theorem spec_l04Height_f {u t : Int} (hu : 0 ≤ u ∧ u ≤ 200000) (ht : 0 ≤ t ∧ t ≤ 60000) : spec_l04Height.f u t = some (HN u t) := by
  have b := num_bd hu ht
  unfold spec_l04Height.f spec_l04Height.fn spec_l04Height.top spec_l01Floor.f spec_l01Floor.fn spec_l01Floor.top
  rw [w64 (n := 2000 * u) (by omega) (by omega), w64 (n := 2000 * u * t) (by omega) (by omega), w64 (n := 9810 * t) (by omega) (by omega), w64 (n := 9810 * t * t) (by omega) (by omega), w64 (n := 2000 * u * t - 9810 * t * t) (by omega) (by omega)]
  have := floor2 (2000 * u * t - 9810 * t * t) (by omega) (by omega)
  rw [if_neg (by decide), if_neg (by omega), if_neg (by omega)]
  exact (congrArg (·.bind fun r1 => some r1) this).trans rfl
def lastT (u : Int) : Int := 1000 * u / 9810
theorem HN_step {u t : Int} (ht : 0 ≤ t) (h : t + 1 ≤ lastT u) : HN u t ≤ HN u (t + 1) := by
  unfold lastT at h
  have e1 : 2000 * u * (t + 1) = 2000 * u * t + 2000 * u := by rw [Int.mul_add, Int.mul_one]
  have e2 : 9810 * (t + 1) * (t + 1) = 9810 * t * t + 19620 * t + 9810 := by
    rw [Int.mul_add, Int.mul_add, Int.mul_one, Int.add_mul]; omega
  unfold HN numN
  rw [e1, e2]
  omega
theorem HN_mono {u : Int} : ∀ (n : Nat) {s : Int}, 0 ≤ s → s + n ≤ lastT u → HN u s ≤ HN u (s + n) := by
  intro n
  induction n with
  | zero => intro s _ _; simp
  | succ n ih =>
    intro s h0 h
    have a := ih (s := s) h0 (by omega)
    have b := HN_step (u := u) (t := s + n) (by omega) (by omega)
    rw [show s + ((n + 1 : Nat) : Int) = s + n + 1 by omega]
    omega
theorem HN_le {u s t : Int} (h0 : 0 ≤ s) (h : s ≤ t) (ht : t ≤ lastT u) : HN u s ≤ HN u t := by
  have := HN_mono (u := u) (t - s).toNat (s := s) h0 (by omega)
  rwa [show s + ((t - s).toNat : Int) = t by omega] at this
def TopP (u v : Int) : Prop := 0 ≤ v ∧ v ≤ lastT u ∧ HN u v = HN u (lastT u) ∧ (v = 0 ∨ HN u (v - 1) ≠ HN u (lastT u))
theorem top_one {u v w : Int} (a : TopP u v) (b : TopP u w) : v = w := by
  obtain ⟨a1, a2, a3, a4⟩ := a
  obtain ⟨b1, b2, b3, b4⟩ := b
  rcases Int.lt_trichotomy v w with h | h | h
  · have h1 := HN_le a1 (show v ≤ w - 1 by omega) (show w - 1 ≤ lastT u by omega)
    have h2 := HN_le (show 0 ≤ w - 1 by omega) (show w - 1 ≤ lastT u by omega) (Int.le_refl _)
    rcases b4 with b4 | b4 <;> omega
  · exact h
  · have h1 := HN_le b1 (show w ≤ v - 1 by omega) (show v - 1 ≤ lastT u by omega)
    have h2 := HN_le (show 0 ≤ v - 1 by omega) (show v - 1 ≤ lastT u by omega) (Int.le_refl _)
    rcases a4 with a4 | a4 <;> omega
theorem last_bd {u : Int} (hu : 0 ≤ u ∧ u ≤ 200000) : 0 ≤ lastT u ∧ lastT u ≤ 20388 := by unfold lastT; omega
theorem impl_top_l {u : Int} (hu : 0 ≤ u ∧ u ≤ 200000) : ∀ (n : Nat) (low high : Int) (k : Nat), 0 ≤ low → low ≤ high → high ≤ lastT u → high - low ≤ n → HN u high = HN u (lastT u) → (low = 0 ∨ HN u (low - 1) < HN u (lastT u)) → n < k →
    ∃ v, impl_topOf.l7 NN k u (HN u (lastT u)) low high = some (v, HN u (lastT u)) ∧ TopP u v := by
  intro n
  have hl := last_bd hu
  have fin : ∀ (low high : Int) (k : Nat), 0 ≤ low → low ≤ high → high ≤ lastT u → HN u high = HN u (lastT u) → (low = 0 ∨ HN u (low - 1) < HN u (lastT u)) → ¬ low < high → ∃ v, impl_topOf.l7 NN (k + 1) u (HN u (lastT u)) low high = some (v, HN u (lastT u)) ∧ TopP u v := by
    intro low high k h0 h1 h2 h4 h5 e
    have e2 : high = low := by omega
    refine ⟨low, by simp [impl_topOf.l7, impl_topOf.g7, e], h0, by omega, by rw [← e2]; exact h4, ?_⟩
    rcases h5 with h5 | h5
    · exact .inl h5
    · exact .inr (by omega)
  induction n with
  | zero =>
    intro low high k h0 h1 h2 h3 h4 h5 hk
    obtain ⟨k, rfl⟩ : ∃ j, k = j + 1 := ⟨k - 1, by omega⟩
    exact fin low high k h0 h1 h2 h4 h5 (by omega)
  | succ n ih =>
    intro low high k h0 h1 h2 h3 h4 h5 hk
    obtain ⟨k, rfl⟩ : ∃ j, k = j + 1 := ⟨k - 1, by omega⟩
    by_cases e : low < high
    · have w1 := w64 (n := low + high) (by omega) (by omega)
      have w2 := w64 (n := (low + high) / 2) (by omega) (by omega)
      have w5 := w64 (n := (low + high) / 2 + 1) (by omega) (by omega)
      have hm := HN_le (u := u) (show 0 ≤ (low + high) / 2 by omega) (show (low + high) / 2 ≤ lastT u by omega) (Int.le_refl _)
      simp only [impl_topOf.l7, impl_topOf.g7, e, w1, half (show 0 ≤ low + high by omega), w2, w5, impl_heightAt_f hu (show 0 ≤ (low + high) / 2 ∧ (low + high) / 2 ≤ 60000 by omega), and_self, and_true, true_and, decide_true, decide_false, if_true, if_false, mid_get, mid_set, mid_getn, mid_setn, bt_mid, Option.bind_some, Bool.not_true, Bool.not_false, Bool.false_eq_true, Bool.true_eq_false, beq_self_eq_true, bne_self_eq_false, Int.toNat_natCast]
      by_cases q : HN u (lastT u) ≤ HN u ((low + high) / 2)
      · simp only [q, and_self, and_true, true_and, decide_true, decide_false, if_true, if_false, mid_get, mid_set, mid_getn, mid_setn, bt_mid, Option.bind_some, Bool.not_true, Bool.not_false, Bool.false_eq_true, Bool.true_eq_false, beq_self_eq_true, bne_self_eq_false, Int.toNat_natCast]
        exact ih low ((low + high) / 2) k h0 (by omega) (by omega) (by omega) (by omega) h5 (by omega)
      · simp only [q, and_self, and_true, true_and, decide_true, decide_false, if_true, if_false, mid_get, mid_set, mid_getn, mid_setn, bt_mid, Option.bind_some, Bool.not_true, Bool.not_false, Bool.false_eq_true, Bool.true_eq_false, beq_self_eq_true, bne_self_eq_false, Int.toNat_natCast]
        refine ih ((low + high) / 2 + 1) high k (by omega) (by omega) h2 (by omega) h4 (.inr ?_) (by omega)
        rw [Int.add_sub_cancel]; omega
    · exact fin low high k h0 h1 h2 h4 h5 e
theorem spec_top_l {u : Int} (hu : 0 ≤ u ∧ u ≤ 200000) : ∀ (n : Nat) (t : Int) (k : Nat), t = n → t ≤ lastT u → HN u t = HN u (lastT u) → n < k →
    ∃ v, spec_l04Top.l3 NN k u t (HN u (lastT u)) = some (v, HN u (lastT u)) ∧ TopP u v := by
  have hl := last_bd hu
  intro n
  induction n with
  | zero =>
    intro t k ht h2 h4 hk
    obtain ⟨k, rfl⟩ : ∃ j, k = j + 1 := ⟨k - 1, by omega⟩
    have e : ¬ 0 < t := by omega
    refine ⟨t, ?_, by omega, h2, h4, .inl (by omega)⟩
    simp only [spec_l04Top.l3, spec_l04Top.g3, e, spec_l04Height_f hu (show 0 ≤ t ∧ t ≤ 60000 by omega), h4, Int.lt_irrefl, and_self, and_true, true_and, decide_true, decide_false, if_true, if_false, mid_get, mid_set, mid_getn, mid_setn, bt_mid, Option.bind_some, Bool.not_true, Bool.not_false, Bool.false_eq_true, Bool.true_eq_false, beq_self_eq_true, bne_self_eq_false, Int.toNat_natCast]
  | succ n ih =>
    intro t k ht h2 h4 hk
    obtain ⟨k, rfl⟩ : ∃ j, k = j + 1 := ⟨k - 1, by omega⟩
    have e : 0 < t := by omega
    have w := w64 (n := t - 1) (by omega) (by omega)
    simp only [spec_l04Top.l3, spec_l04Top.g3, e, w, spec_l04Height_f hu (show 0 ≤ t ∧ t ≤ 60000 by omega), spec_l04Height_f hu (show 0 ≤ t - 1 ∧ t - 1 ≤ 60000 by omega), h4, Int.lt_irrefl, and_self, and_true, true_and, decide_true, decide_false, if_true, if_false, mid_get, mid_set, mid_getn, mid_setn, bt_mid, Option.bind_some, Bool.not_true, Bool.not_false, Bool.false_eq_true, Bool.true_eq_false, beq_self_eq_true, bne_self_eq_false, Int.toNat_natCast]
    by_cases q : HN u (t - 1) = HN u (lastT u)
    · have q' : (HN u (t - 1) == HN u (lastT u)) = true := by simpa using q
      simp only [q', and_self, and_true, true_and, decide_true, decide_false, if_true, if_false, mid_get, mid_set, mid_getn, mid_setn, bt_mid, Option.bind_some, Bool.not_true, Bool.not_false, Bool.false_eq_true, Bool.true_eq_false, beq_self_eq_true, bne_self_eq_false, Int.toNat_natCast]
      exact ih (t - 1) k (by omega) (by omega) q (by omega)
    · have q' : (HN u (t - 1) == HN u (lastT u)) = false := by simpa using q
      simp only [q', and_self, and_true, true_and, decide_true, decide_false, if_true, if_false, mid_get, mid_set, mid_getn, mid_setn, bt_mid, Option.bind_some, Bool.not_true, Bool.not_false, Bool.false_eq_true, Bool.true_eq_false, beq_self_eq_true, bne_self_eq_false, Int.toNat_natCast]
      exact ⟨t, rfl, by omega, h2, h4, .inr q⟩
noncomputable def topR (u : Int) : Int × Int × Int := (impl_TopOf.f u).getD (0, 0, 0)
theorem TopOf_both (u : Int) : spec_TopOf.f u = some (topR u) ∧ impl_TopOf.f u = some (topR u) ∧ (0 ≤ (topR u).1 ∧ (topR u).1 ≤ 1000000000) ∧ 0 ≤ (topR u).2.1 ∧ (topR u).2.1 ≤ 1000000000 := by
  have key : ∃ v, spec_TopOf.f u = some v ∧ impl_TopOf.f u = some v ∧ (0 ≤ v.1 ∧ v.1 ≤ 1000000000) ∧ 0 ≤ v.2.1 ∧ v.2.1 ≤ 1000000000 := by
    unfold spec_TopOf.f spec_TopOf.fn spec_TopOf.top spec_l04Code.f spec_l04Code.fn spec_l04Code.top impl_TopOf.f impl_TopOf.fn impl_TopOf.top impl_isUp.f impl_isUp.fn impl_isUp.top
    rw [spec_l01In_f, spec_l01In_f, spec_l01In_f, impl_within_f]
    cases hu : inB u 0 200000
    · exact ⟨(0, 0, 2), rfl, rfl, by simp, by simp⟩
    have hu' := inB_iff.1 hu
    have hl := last_bd hu'
    have e1 : inB 0 (-50000) 50000 = true := rfl
    have e2 : inB 0 0 60000 = true := rfl
    have e : ((0 : Int) != 0) = false := rfl
    simp only [e1, e2, e, and_self, and_true, true_and, decide_true, decide_false, if_true, if_false, mid_get, mid_set, mid_getn, mid_setn, bt_mid, Option.bind_some, Bool.not_true, Bool.not_false, Bool.false_eq_true, Bool.true_eq_false, beq_self_eq_true, bne_self_eq_false, Int.toNat_natCast]
    have td : Int.tdiv (1000 * u) 9810 = lastT u := Int.tdiv_eq_ediv_of_nonneg (by omega)
    have w1 := w64 (n := 1000 * u) (by omega) (by omega)
    have w2 := w64 (n := lastT u) (by omega) (by omega)
    have w3 := w64 (n := lastT u + 1) (by omega) (by omega)
    have a1 := impl_heightAt_f hu' (show 0 ≤ lastT u ∧ lastT u ≤ 60000 by omega)
    have a2 := impl_heightAt_f hu' (show 0 ≤ lastT u + 1 ∧ lastT u + 1 ≤ 60000 by omega)
    have a3 := spec_l04Height_f hu' (show 0 ≤ lastT u ∧ lastT u ≤ 60000 by omega)
    have a4 := spec_l04Height_f hu' (show 0 ≤ lastT u + 1 ∧ lastT u + 1 ≤ 60000 by omega)
    have hb := num_bd hu' (show 0 ≤ lastT u ∧ lastT u ≤ 60000 by omega)
    have hb1 := num_bd hu' (show 0 ≤ lastT u + 1 ∧ lastT u + 1 ≤ 60000 by omega)
    have hz : 0 ≤ HN u (lastT u) := by
      have h0 := HN_le (u := u) (Int.le_refl 0) hl.1 (Int.le_refl _)
      have : HN u 0 = 0 := by unfold HN numN; simp
      omega
    have ht1 : HN u (lastT u) ≤ 1000000000 := by unfold HN numN; omega
    have ht2 : HN u (lastT u + 1) ≤ 1000000000 := by unfold HN numN; omega
    unfold spec_l04Top.f spec_l04Top.fn spec_l04Top.top impl_topOf.f impl_topOf.fn impl_topOf.top
    rw [w1, td, w2, w3, a1, a2, a3, a4]
    simp only [Option.bind_some]
    by_cases q : HN u (lastT u) < HN u (lastT u + 1)
    · refine ⟨(lastT u + 1, HN u (lastT u + 1), 0), ?_, ?_, by simp only; omega, by simp only; omega⟩
      · obtain ⟨k, hk⟩ : ∃ j, NN = j + 1 := ⟨NN - 1, by have := NNb; omega⟩
        have q2 : HN u (lastT u + 1) > HN u (lastT u) := q
        rw [show spec_l04Top.l3 NN NN = spec_l04Top.l3 NN (k + 1) by rw [← hk]]
        simp only [q2, if_true, spec_l04Top.l3, spec_l04Top.g3, a3, q, w3, and_self, and_true, true_and, decide_true, decide_false, if_true, if_false, mid_get, mid_set, mid_getn, mid_setn, bt_mid, Option.bind_some, Bool.not_true, Bool.not_false, Bool.false_eq_true, Bool.true_eq_false, beq_self_eq_true, bne_self_eq_false, Int.toNat_natCast]
        by_cases h0 : 0 < lastT u
        · have w4 := w64 (n := lastT u - 1) (by omega) (by omega)
          have a5 := spec_l04Height_f hu' (show 0 ≤ lastT u - 1 ∧ lastT u - 1 ≤ 60000 by omega)
          have hm := HN_le (u := u) (show 0 ≤ lastT u - 1 by omega) (show lastT u - 1 ≤ lastT u by omega) (Int.le_refl _)
          have q' : (HN u (lastT u - 1) == HN u (lastT u + 1)) = false := by
            have : HN u (lastT u - 1) ≠ HN u (lastT u + 1) := by omega
            simpa using this
          simp only [h0, w4, a5, q', and_self, and_true, true_and, decide_true, decide_false, if_true, if_false, mid_get, mid_set, mid_getn, mid_setn, bt_mid, Option.bind_some, Bool.not_true, Bool.not_false, Bool.false_eq_true, Bool.true_eq_false, beq_self_eq_true, bne_self_eq_false, Int.toNat_natCast]
        · simp only [h0, and_self, and_true, true_and, decide_true, decide_false, if_true, if_false, mid_get, mid_set, mid_getn, mid_setn, bt_mid, Option.bind_some, Bool.not_true, Bool.not_false, Bool.false_eq_true, Bool.true_eq_false, beq_self_eq_true, bne_self_eq_false, Int.toNat_natCast]
      · simp only [q, and_self, and_true, true_and, decide_true, decide_false, if_true, if_false, mid_get, mid_set, mid_getn, mid_setn, bt_mid, Option.bind_some, Bool.not_true, Bool.not_false, Bool.false_eq_true, Bool.true_eq_false, beq_self_eq_true, bne_self_eq_false, Int.toNat_natCast]
    · obtain ⟨x, hx, px⟩ := spec_top_l hu' (lastT u).toNat (lastT u) NN (by omega) (Int.le_refl _) rfl (NN_lt (by omega))
      obtain ⟨y, hy, py⟩ := impl_top_l hu' (lastT u).toNat 0 (lastT u) NN (by omega) hl.1 (Int.le_refl _) (by omega) rfl (.inl rfl) (NN_lt (by omega))
      have hxy := top_one px py
      subst hxy
      have q2 : ¬ HN u (lastT u + 1) > HN u (lastT u) := q
      refine ⟨(x, HN u (lastT u), 0), ?_, ?_, ⟨px.1, by have := px.2.1; simp only; omega⟩, hz, ht1⟩
      · simp only [q2, if_false]
        rw [hx]; rfl
      · simp only [q, and_self, and_true, true_and, decide_true, decide_false, if_true, if_false, mid_get, mid_set, mid_getn, mid_setn, bt_mid, Option.bind_some, Bool.not_true, Bool.not_false, Bool.false_eq_true, Bool.true_eq_false, beq_self_eq_true, bne_self_eq_false, Int.toNat_natCast]
        rw [hy]; rfl
  obtain ⟨v, h1, h2, h3⟩ := key
  have : topR u = v := by unfold topR; rw [h2]; rfl
  rw [this]
  exact ⟨h1, h2, h3⟩
end Go.Pl

namespace Go.Pl
open Go.Ev
set_option linter.unusedVariables false
set_option linter.unusedSimpArgs false
theorem firstOf_lt {α : Type} (P : α → Bool) : ∀ (xs : List α) (i : Nat) (y : Nat × α), firstOf P i xs = some y → y.1 < i + xs.length := by
  intro xs
  induction xs with
  | nil => intro i y h; cases h
  | cons a r ih =>
    intro i y h
    simp only [firstOf] at h
    split at h
    · rw [← Option.some.inj h]; simp
    · have := ih (i + 1) y h
      simp only [List.length_cons]; omega
def idxW (ws : List ByteArray) (w : ByteArray) : Int := (firstOf (fun x : ByteArray => decide (x = w)) 0 ws).elim (-1) (fun x => (x.1 : Int))
theorem idxW_bd (ws : List ByteArray) (w : ByteArray) : -1 ≤ idxW ws w ∧ idxW ws w < (ws.length : Int) := by
  unfold idxW
  cases hf : firstOf (fun x : ByteArray => decide (x = w)) 0 ws with
  | none => simp only [Option.elim_none]; omega
  | some y =>
    have h2 := firstOf_lt _ ws 0 y hf
    simp only [Option.elim_some]; omega
theorem impl_wordIndex_f (ws : List ByteArray) (w : ByteArray) (h : ws.length ≤ 1000000) : impl_wordIndex.f ws w = some (idxW ws w) := by
  have := find_loop (E := fun _ : ByteArray => True) (fun x => decide (x = w)) (fun i _ => some (i : Int)) (fun _ => some (-1)) (fun k v i => impl_wordIndex.l2 NN k w v v.length i) ?_ ?_ ws (fun _ _ => trivial) (by omega) NN (NN_lt (by omega))
  · unfold impl_wordIndex.f impl_wordIndex.fn impl_wordIndex.top idxW
    refine Eq.trans this ?_
    cases firstOf (fun x : ByteArray => decide (x = w)) 0 ws <;> rfl
  · intro k p
    simp [impl_wordIndex.l2, impl_wordIndex.g2]
  · intro k p a r _ c0 c1 c2 cw
    simp only [impl_wordIndex.l2, impl_wordIndex.g2, c0, c1, cw, and_self, and_true, true_and, decide_true, decide_false, if_true, if_false, mid_get, mid_set, mid_getn, mid_setn, bt_mid, Option.bind_some, Bool.not_true, Bool.not_false, Bool.false_eq_true, Bool.true_eq_false, beq_self_eq_true, bne_self_eq_false, Int.toNat_natCast, ba_beq]
theorem spec_l34Place_f (ws : List ByteArray) (w : ByteArray) (h : ws.length ≤ 1000000) : spec_l34Place.f ws w = some (idxW ws w) := by
  have := find_loop (E := fun _ : ByteArray => True) (fun x => decide (x = w)) (fun i _ => some (i : Int)) (fun _ => some (-1)) (fun k v i => spec_l34Place.l2 NN k v w i) ?_ ?_ ws (fun _ _ => trivial) (by omega) NN (NN_lt (by omega))
  · unfold spec_l34Place.f spec_l34Place.fn spec_l34Place.top idxW
    refine Eq.trans this ?_
    cases firstOf (fun x : ByteArray => decide (x = w)) 0 ws <;> rfl
  · intro k p
    simp [spec_l34Place.l2, spec_l34Place.g2]
  · intro k p a r _ c0 c1 c2 cw
    simp only [spec_l34Place.l2, spec_l34Place.g2, c0, c1, cw, and_self, and_true, true_and, decide_true, decide_false, if_true, if_false, mid_get, mid_set, mid_getn, mid_setn, bt_mid, Option.bind_some, Bool.not_true, Bool.not_false, Bool.false_eq_true, Bool.true_eq_false, beq_self_eq_true, bne_self_eq_false, Int.toNat_natCast, ba_beq]
theorem words_same : ∃ ws : List ByteArray, impl_inputWords.f = some ws ∧ spec_l21Words.f = some ws ∧ ws.length ≤ 100 := ⟨_, rfl, rfl, by decide⟩
def sttW (c : Ctl) : ByteArray := if c.2.2.2.2.1 = true then ⟨#[115, 116, 111, 112, 112, 101, 100]⟩ else if c.2.2.2.1 = true then ⟨#[104, 101, 108, 100]⟩ else if c.2.2.1 = true then ⟨#[97, 114, 109, 101, 100]⟩ else ⟨#[111, 102, 102]⟩
theorem sttW_size (c : Ctl) : (sttW c).size ≤ 100 := by
  obtain ⟨a, b, r, h, s, n⟩ := c
  cases s <;> cases h <;> cases r <;> exact Nat.le_of_ble_eq_true rfl
theorem impl_stateWord_f (c : Ctl) : impl_stateWord.f c = some (sttW c) := by
  obtain ⟨a, b, r, h, s, n⟩ := c
  cases s <;> cases h <;> cases r <;> rfl
theorem spec_l34State_f (d : Dsk) (t : Int) (h : d.2.1.length ≤ 1000000) : spec_l34State.f d t = some (sttW (caR d.2.1 t).1, (caR d.2.1 t).2) := by
  unfold spec_l34State.f spec_l34State.fn spec_l34State.top
  rw [(ControllerAt_both d.2.1 t h).1, Option.bind_some]
  generalize caR d.2.1 t = q
  obtain ⟨⟨a, b, r, h, s, n⟩, e⟩ := q
  cases s <;> cases h <;> cases r <;> rfl
def zonF (z : List ByteArray) (m : Mov) : List ByteArray := insW m.2.1 z
def zonL (ms : List Mov) : List ByteArray := ms.foldl zonF []
structure ZI (p : List Mov) (z : List ByteArray) : Prop where
  srt : SrtW z
  len : z.length ≤ p.length
  wrd : ∀ w ∈ z, wordB w = true
theorem zi_nil : ZI [] [] := ⟨List.Pairwise.nil, by simp, by simp⟩
theorem zi_step {p : List Mov} {z : List ByteArray} {m : Mov} (h : ZI p z) (hm : movB m = true) : ZI (p ++ [m]) (zonF z m) := by
  refine ⟨insW_srt h.srt, ?_, fun w hw => ?_⟩
  · have := insW_len m.2.1 z
    have := h.len
    unfold zonF
    rw [List.length_append, List.length_singleton]; omega
  · rcases mem_insW.1 hw with rfl | hw
    · exact (movB_iff hm).2.1
    · exact h.wrd w hw
def firV (d : Dsk) (t : Int) : ByteArray × Int := if inB t 0 10000000 = true then ((if firT d.2.1 d.1 (zonL d.1) t < 0 then ⟨#[109, 105, 115, 115, 101, 100]⟩ else decB (firT d.2.1 d.1 (zonL d.1) t)), 0) else (⟨#[]⟩, 1)
theorem firT_bd (l : List Sig) (ms : List Mov) (zs : List ByteArray) {t : Int} (h : 0 ≤ t ∧ t ≤ 10000000) : -1 ≤ firT l ms zs t ∧ firT l ms zs t ≤ 100000 := by
  have := tkT_bd h
  unfold firT
  split <;> omega
theorem zon_ok {ms : List Mov} (h : movesB ms = true) : ZI ms (zonL ms) := by
  obtain ⟨m1, m2, m3⟩ := movesB_iff h
  have key : ∀ (r p : List Mov) (z : List ByteArray), (∀ m ∈ r, movB m = true) → ZI p z → ZI (p ++ r) (r.foldl zonF z) := by
    intro r
    induction r with
    | nil => intro p z _ h; rwa [List.append_nil]
    | cons m r ih =>
      intro p z hr hz
      have := ih (p ++ [m]) (zonF z m) (fun x hx => hr x (by simp [hx])) (zi_step hz (hr m (by simp)))
      rwa [mid_snoc] at this
  have := key ms [] [] m3 zi_nil
  rwa [List.nil_append] at this
theorem firR_one {d : Dsk} (h1 : movesB d.1 = true) (h2 : sigsB d.2.1 = true) (t : Int) : firR [t] d.2.1 d.1 (zonL d.1) = if inB t 0 10000000 = true then ([firT d.2.1 d.1 (zonL d.1) t], 0) else ([], 1) := by
  have z := zon_ok h1
  have hm := (movesB_iff h1).1
  have hz : zonesB (zonL d.1) = true := by
    unfold zonesB
    rw [Bool.and_eq_true, decide_eq_true_eq, List.all_eq_true]
    exact ⟨by have := z.len; omega, z.wrd⟩
  unfold firR firOk
  rw [h1, h2, hz]
  simp
theorem impl_fire_l {d : Dsk} (h1 : movesB d.1 = true) (h2 : sigsB d.2.1 = true) (t : Int) (c : ByteArray × List ByteArray × List Int) (hc : c.2.2 = [t]) : ∀ (r p : List Mov) (z : List ByteArray) (k : Nat), d.1 = p ++ r → ZI p z → r.foldl zonF z = zonL d.1 → r.length < k →
    impl_execute.l24 NN k d.1 d.1.length p.length d c z [] [] [] = some (d, firV d t) := by
  obtain ⟨m1, m2, m3⟩ := movesB_iff h1
  have hs1 := (sigsB_iff h2).1
  intro r
  induction r with
  | nil =>
    intro p z k hp hz hf hk
    obtain ⟨k, rfl⟩ : ∃ j, k = j + 1 := ⟨k - 1, by omega⟩
    have c1 : ¬ (p.length : Int) < (d.1.length : Int) := by rw [hp]; simp
    simp only [List.foldl_nil] at hf
    subst hf
    have zz := zon_ok h1
    have g0 : ([t] : List Int).getD (0 : Int).toNat 0 = t := rfl
    have l1 : (0 : Int) < (([t] : List Int).length : Int) := by simp
    simp only [impl_execute.l24, impl_execute.g24, c1, hc, l1, g0, Int.le_refl, and_self, and_true, true_and, decide_true, decide_false, if_true, if_false, mid_get, mid_set, mid_getn, mid_setn, bt_mid, Option.bind_some, Bool.not_true, Bool.not_false, Bool.false_eq_true, Bool.true_eq_false, beq_self_eq_true, bne_self_eq_false, Int.toNat_natCast]
    rw [(FiredSafely_both [t] d.2.1 d.1 (zonL d.1) (by simp) (by omega) (by omega) (fun m hm => Nat.le_trans (wordB_size (movB_iff (m3 m hm)).2.1).2 (by omega)) (by have := zz.len; omega) (fun w hw => Nat.le_trans (wordB_size (zz.wrd w hw)).2 (by omega))).1, firR_one h1 h2, Option.bind_some]
    unfold firV
    by_cases ht : inB t 0 10000000 = true
    · have hb := firT_bd d.2.1 d.1 (zonL d.1) (inB_iff.1 ht)
      rw [if_pos ht, if_pos ht]
      generalize firT d.2.1 d.1 (zonL d.1) t = x at *
      have g1 : ([x] : List Int).getD (0 : Int).toNat 0 = x := rfl
      have l2 : (0 : Int) < (([x] : List Int).length : Int) := by simp
      have e0 : ((0 : Int) != 0) = false := rfl
      simp only [e0, l2, g1, Int.le_refl, and_self, and_true, true_and, decide_true, decide_false, if_true, if_false, mid_get, mid_set, mid_getn, mid_setn, bt_mid, Option.bind_some, Bool.not_true, Bool.not_false, Bool.false_eq_true, Bool.true_eq_false, beq_self_eq_true, bne_self_eq_false, Int.toNat_natCast]
      by_cases hx : x < 0
      · simp only [hx, and_self, and_true, true_and, decide_true, decide_false, if_true, if_false, mid_get, mid_set, mid_getn, mid_setn, bt_mid, Option.bind_some, Bool.not_true, Bool.not_false, Bool.false_eq_true, Bool.true_eq_false, beq_self_eq_true, bne_self_eq_false, Int.toNat_natCast]
      · simp only [hx, and_self, and_true, true_and, decide_true, decide_false, if_true, if_false, mid_get, mid_set, mid_getn, mid_setn, bt_mid, Option.bind_some, Bool.not_true, Bool.not_false, Bool.false_eq_true, Bool.true_eq_false, beq_self_eq_true, bne_self_eq_false, Int.toNat_natCast]
        rw [impl_decimal_f (by omega) (by omega)]; rfl
    · rw [if_neg ht, if_neg ht]; rfl
  | cons m r ih =>
    intro p z k hp hz hf hk
    simp only [List.length_cons] at hk
    obtain ⟨k, rfl⟩ : ∃ j, k = j + 1 := ⟨k - 1, by omega⟩
    have hpl : p.length ≤ 40 := by rw [hp] at m1; simp at m1; omega
    have c0 : (0 : Int) ≤ (p.length : Int) := by omega
    have c1 : (p.length : Int) < (d.1.length : Int) := by rw [hp]; simp; omega
    have cw := w64 (n := (p.length : Int) + 1) (by omega) (by omega)
    have g : ∀ w, d.1.getD p.length w = m := fun w => by rw [hp]; exact mid_getn p r m w
    have hm := m3 m (by rw [hp]; simp)
    have i := ih (p ++ [m]) (zonF z m) k (by rw [hp, mid_snoc]) (zi_step hz hm) (by simpa using hf) (by omega)
    rw [snoc_len] at i
    simp only [impl_execute.l24, impl_execute.g24, c0, c1, cw, g, and_self, and_true, true_and, decide_true, decide_false, if_true, if_false, mid_get, mid_set, mid_getn, mid_setn, bt_mid, Option.bind_some, Bool.not_true, Bool.not_false, Bool.false_eq_true, Bool.true_eq_false, beq_self_eq_true, bne_self_eq_false, Int.toNat_natCast]
    rw [impl_putWord_f z m.2.1 hz.srt (by have := hz.len; omega), Option.bind_some]
    exact i
theorem spec_l34Fire_l {d : Dsk} (h1 : movesB d.1 = true) (h2 : sigsB d.2.1 = true) (t : Int) (ht : inB t 0 10000000 = true) : ∀ (r p : List Mov) (z : List ByteArray) (k : Nat), d.1 = p ++ r → ZI p z → r.foldl zonF z = zonL d.1 → r.length < k →
    spec_l34Fire.l5 NN k t p.length d z = some (firV d t) := by
  obtain ⟨m1, m2, m3⟩ := movesB_iff h1
  intro r
  induction r with
  | nil =>
    intro p z k hp hz hf hk
    obtain ⟨k, rfl⟩ : ∃ j, k = j + 1 := ⟨k - 1, by omega⟩
    have c1 : ¬ (p.length : Int) < (d.1.length : Int) := by rw [hp]; simp
    simp only [List.foldl_nil] at hf
    subst hf
    have zz := zon_ok h1
    have hb := firT_bd d.2.1 d.1 (zonL d.1) (inB_iff.1 ht)
    simp only [spec_l34Fire.l5, spec_l34Fire.g5, c1, and_self, and_true, true_and, decide_true, decide_false, if_true, if_false, mid_get, mid_set, mid_getn, mid_setn, bt_mid, Option.bind_some, Bool.not_true, Bool.not_false, Bool.false_eq_true, Bool.true_eq_false, beq_self_eq_true, bne_self_eq_false, Int.toNat_natCast]
    rw [spec_l22Fired_f h2 h1 (zonL d.1) (by have := zz.len; omega) [t] (by simp) (fun x hx => by rw [List.mem_singleton.1 hx]; exact inB_iff.1 ht), Option.bind_some]
    unfold firV
    rw [if_pos ht, List.map_singleton]
    generalize firT d.2.1 d.1 (zonL d.1) t = x at *
    have g1 : ([x] : List Int).getD (0 : Int).toNat 0 = x := rfl
    have l2 : (0 : Int) < (([x] : List Int).length : Int) := by simp
    simp only [l2, g1, Int.le_refl, and_self, and_true, true_and, decide_true, decide_false, if_true, if_false, mid_get, mid_set, mid_getn, mid_setn, bt_mid, Option.bind_some, Bool.not_true, Bool.not_false, Bool.false_eq_true, Bool.true_eq_false, beq_self_eq_true, bne_self_eq_false, Int.toNat_natCast]
    by_cases hx : x < 0
    · simp only [hx, and_self, and_true, true_and, decide_true, decide_false, if_true, if_false, mid_get, mid_set, mid_getn, mid_setn, bt_mid, Option.bind_some, Bool.not_true, Bool.not_false, Bool.false_eq_true, Bool.true_eq_false, beq_self_eq_true, bne_self_eq_false, Int.toNat_natCast]
    · simp only [hx, and_self, and_true, true_and, decide_true, decide_false, if_true, if_false, mid_get, mid_set, mid_getn, mid_setn, bt_mid, Option.bind_some, Bool.not_true, Bool.not_false, Bool.false_eq_true, Bool.true_eq_false, beq_self_eq_true, bne_self_eq_false, Int.toNat_natCast]
      rw [spec_l01Dec_f (by omega) (by omega)]; rfl
  | cons m r ih =>
    intro p z k hp hz hf hk
    simp only [List.length_cons] at hk
    obtain ⟨k, rfl⟩ : ∃ j, k = j + 1 := ⟨k - 1, by omega⟩
    have hpl : p.length ≤ 40 := by rw [hp] at m1; simp at m1; omega
    have c0 : (0 : Int) ≤ (p.length : Int) := by omega
    have c1 : (p.length : Int) < (d.1.length : Int) := by rw [hp]; simp; omega
    have cw := w64 (n := (p.length : Int) + 1) (by omega) (by omega)
    have g : ∀ w, d.1.getD p.length w = m := fun w => by rw [hp]; exact mid_getn p r m w
    have hm := m3 m (by rw [hp]; simp)
    have i := ih (p ++ [m]) (zonF z m) k (by rw [hp, mid_snoc]) (zi_step hz hm) (by simpa using hf) (by omega)
    rw [snoc_len] at i
    simp only [spec_l34Fire.l5, spec_l34Fire.g5, c0, c1, cw, g, and_self, and_true, true_and, decide_true, decide_false, if_true, if_false, mid_get, mid_set, mid_getn, mid_setn, bt_mid, Option.bind_some, Bool.not_true, Bool.not_false, Bool.false_eq_true, Bool.true_eq_false, beq_self_eq_true, bne_self_eq_false, Int.toNat_natCast]
    rw [spec_l20Insert_f z m.2.1 (by have := hz.len; omega), Option.bind_some]
    exact i
theorem spec_l34Fire_f {d : Dsk} (h1 : movesB d.1 = true) (h2 : sigsB d.2.1 = true) (t : Int) : spec_l34Fire.f d t = some (firV d t) := by
  obtain ⟨m1, m2, m3⟩ := movesB_iff h1
  unfold spec_l34Fire.f spec_l34Fire.fn spec_l34Fire.top
  rw [spec_l01IsTime_f, Option.bind_some]
  by_cases ht : inB t 0 10000000 = true
  · rw [ht]
    exact spec_l34Fire_l h1 h2 t ht d.1 [] [] NN rfl zi_nil rfl (NN_lt (by omega))
  · have ht' : inB t 0 10000000 = false := by simpa using ht
    unfold firV
    rw [ht']; rfl
theorem firV_bd (d : Dsk) (t : Int) : ((firV d t).2 = 0 ∨ (firV d t).2 = 1) ∧ (firV d t).1.size ≤ 100 := by
  unfold firV
  split
  · rename_i h
    have hb := firT_bd d.2.1 d.1 (zonL d.1) (inB_iff.1 h)
    refine ⟨.inl rfl, ?_⟩
    split
    · decide
    · exact Nat.le_trans (decB_size (by omega) (by omega)) (by omega)
  · exact ⟨.inr rfl, by decide⟩
theorem joinF_size (sep : ByteArray) (hs : sep.size ≤ 1) : ∀ (xs : List ByteArray) (i : Nat) (st : ByteArray), (∀ w ∈ xs, w.size ≤ 16) → (foldi (joinF sep) i st xs).size ≤ st.size + 17 * xs.length := by
  intro xs
  induction xs with
  | nil => intro i st _; simp [foldi]
  | cons w r ih =>
    intro i st h
    have hw := h w (by simp)
    have i1 := ih (i + 1) (joinF sep i st w) (fun x hx => h x (by simp [hx]))
    have h2 : (joinF sep i st w).size ≤ st.size + 17 := by
      unfold joinF
      split <;> simp only [ByteArray.size_append] <;> omega
    simp only [foldi, List.length_cons]
    omega
end Go.Pl
