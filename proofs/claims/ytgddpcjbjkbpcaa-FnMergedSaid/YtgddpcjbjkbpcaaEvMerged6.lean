/- Part 6 of what the law FnMerged stands on: an evaluator of the model's code, proved sound; the functions as plain texts; their contracts. -/
import Derived.Test.YtgddpcjbjkbpcaaChecked
import Derived.Test.YtgddpcjbjkbpcaaProg
import Derived.Test.YtgddpcjbjkbpcaaRows
import Derived.Below
import Derived.Calls
import Derived.Carry
import Derived.ChangeArms
import Derived.ChangeKeysEq
import Derived.ChangeOld
import Derived.Deep.Quiet
import Derived.KernelRfl
import Derived.Laws.Append
import Derived.Laws.BytesString
import Derived.Laws.MakeOwn
import Derived.Laws.Strings
import Derived.Laws.StructEq
import Derived.OpenShut
import Derived.OrdersHeld
import Derived.ProofKit
import Derived.ShutString
import Derived.SizedLaws
import Derived.Tactics
import Derived.WalkKit
import Derived.WideShapes
import Derived.Test.YtgddpcjbjkbpcaaEvMerged5
namespace Go.Pl
open Go.Ev
set_option linter.unusedVariables false
set_option linter.unusedSimpArgs false
def isDig (c : UInt8) : Bool := decide (48 ≤ (c.toNat : Int) ∧ (c.toNat : Int) ≤ 57)
def valL : List UInt8 → Nat → Nat
  | [], a => a
  | c :: r, a => valL r (10 * a + (c.toNat - 48))
theorem head_app {α : Type} {p r : List α} (h : p ≠ []) : (p ++ r).head? = p.head? := by
  cases p with
  | nil => exact absurd rfl h
  | cons => rfl
theorem isDig_iff {c : UInt8} : isDig c = true ↔ 48 ≤ c.toNat ∧ c.toNat ≤ 57 := by unfold isDig; rw [decide_eq_true_eq]; omega
theorem valL_append (l r : List UInt8) (a : Nat) : valL (l ++ r) a = valL r (valL l a) := by
  induction l generalizing a with
  | nil => rfl
  | cons c l ih => simp only [List.cons_append, valL]; exact ih _
theorem valL_lt : ∀ (l : List UInt8) (a : Nat), (∀ c ∈ l, isDig c = true) → valL l a < (a + 1) * 10 ^ l.length := by
  intro l
  induction l with
  | nil => intro a _; simp [valL]
  | cons c r ih =>
    intro a h
    have hc := isDig_iff.1 (h c (by simp))
    have := ih (10 * a + (c.toNat - 48)) (fun x hx => h x (by simp [hx]))
    simp only [valL, List.length_cons]
    have h2 : (10 * a + (c.toNat - 48) + 1) * 10 ^ r.length ≤ ((a + 1) * 10) * 10 ^ r.length := Nat.mul_le_mul_right _ (by omega)
    have h3 : ((a + 1) * 10) * 10 ^ r.length = (a + 1) * 10 ^ (r.length + 1) := by rw [Nat.mul_assoc, ← Nat.pow_succ']
    omega
theorem digs_digits (n : Nat) : ∀ c ∈ digs n, isDig c = true := by
  induction n using Nat.strongRecOn with
  | _ n ih =>
    by_cases h : n < 10
    · rw [digs_small h]
      intro c hc
      rw [List.mem_singleton] at hc
      subst hc
      rw [isDig_iff, UInt8.toNat_ofNat']; omega
    · rw [digs_big h]
      intro c hc
      rcases List.mem_append.1 hc with hc | hc
      · exact ih (n / 10) (by omega) c hc
      · rw [List.mem_singleton] at hc
        subst hc
        rw [isDig_iff, UInt8.toNat_ofNat']; omega
theorem digs_val (n : Nat) : valL (digs n) 0 = n := by
  induction n using Nat.strongRecOn with
  | _ n ih =>
    by_cases h : n < 10
    · rw [digs_small h]; simp only [valL]; rw [UInt8.toNat_ofNat']; omega
    · rw [digs_big h, valL_append, ih (n / 10) (by omega)]
      simp only [valL]; rw [UInt8.toNat_ofNat']; omega
theorem digs_ne (n : Nat) : digs n ≠ [] := by
  by_cases h : n < 10
  · rw [digs_small h]; simp
  · rw [digs_big h]; simp
theorem digs_head {n : Nat} (h : n ≠ 0) : ∀ c, (digs n).head? = some c → c ≠ 48 := by
  induction n using Nat.strongRecOn with
  | _ n ih =>
    by_cases hn : n < 10
    · rw [digs_small hn]
      intro c hc
      simp only [List.head?_cons, Option.some.injEq] at hc
      subst hc
      intro e
      have := congrArg UInt8.toNat e
      rw [UInt8.toNat_ofNat'] at this
      have e2 : (48 : UInt8).toNat = 48 := rfl
      omega
    · rw [digs_big hn]
      intro c hc
      have h1 := digs_ne (n / 10)
      rw [head_app h1] at hc
      exact ih (n / 10) (by omega) (by omega) c hc
/-- a number's text is the only one without superfluous zeros -/
theorem digs_valL : ∀ (l : List UInt8), l ≠ [] → (∀ c ∈ l, isDig c = true) → (l.length = 1 ∨ l.head? ≠ some 48) → digs (valL l 0) = l := by
  have key : ∀ (k : Nat) (l : List UInt8), l.length = k → l ≠ [] → (∀ c ∈ l, isDig c = true) → (l.length = 1 ∨ l.head? ≠ some 48) → digs (valL l 0) = l := by
    intro k
    induction k with
    | zero => intro l hl hne; exact absurd (List.length_eq_zero_iff.1 hl) hne
    | succ k ih =>
      intro l hl hne hd hz
      obtain ⟨p, c, rfl⟩ : ∃ p c, l = p ++ [c] := ⟨l.dropLast, l.getLast hne, (List.dropLast_concat_getLast hne).symm⟩
      have hc := isDig_iff.1 (hd c (by simp))
      have ec : UInt8.ofNat (48 + (c.toNat - 48)) = c := by
        apply UInt8.toNat_inj.1; rw [UInt8.toNat_ofNat']; omega
      simp only [List.length_append, List.length_cons, List.length_nil] at hl
      rw [valL_append]
      simp only [valL]
      by_cases hp : p = []
      · subst hp
        simp only [valL, List.nil_append]
        rw [Nat.mul_zero, Nat.zero_add, digs_small (by omega), ec]
      · have hpl : p.length ≠ 0 := fun e => hp (List.length_eq_zero_iff.1 e)
        have hp0 : p.head? ≠ some 48 := by
          rcases hz with hz | hz
          · rw [List.length_append, List.length_cons, List.length_nil] at hz; omega
          · rw [head_app hp] at hz; exact hz
        have ihp := ih p (by omega) hp (fun x hx => hd x (by simp [hx])) (.inr hp0)
        have hv : valL p 0 ≠ 0 := by
          intro e
          rw [e] at ihp
          rw [digs_small (by omega)] at ihp
          rw [← ihp] at hp0
          exact hp0 rfl
        rw [digs_big (by omega), show (10 * valL p 0 + (c.toNat - 48)) / 10 = valL p 0 by omega, ihp, show (10 * valL p 0 + (c.toNat - 48)) % 10 = c.toNat - 48 by omega, ec]
  intro l
  exact key l.length l rfl

theorem u8_sub48 {c : UInt8} (h : isDig c = true) : IntKind.i64.wrap (IntKind.u8.wrap ((c.toNat : Int) - 48)) = ((c.toNat - 48 : Nat) : Int) := by
  have := isDig_iff.1 h
  rw [w8 (by omega) (by omega), w64 (by omega) (by omega)]; omega
theorem p18 : (10 : Nat) ^ 18 = 1000000000000000000 := by decide
theorem pow_le18 {a : Nat} (h : a ≤ 18) : (10 : Nat) ^ a ≤ 1000000000000000000 := by
  have := Nat.pow_le_pow_right (n := 10) (by omega) h
  rw [p18] at this; exact this
theorem impl_readDecimal_l (s : ByteArray) : ∀ (r p : List UInt8) (a k : Nat), p.length + r.length ≤ 18 → r.length < k → a < 10 ^ p.length →
    impl_readDecimal.l8 NN k s (ob (p ++ r)) (a : Int) (p.length : Int) = if r.all isDig = true then (if (((p ++ r).length : Nat) : Int) < (s.size : Int) then some (-((valL r a : Nat) : Int), true) else some (((valL r a : Nat) : Int), true)) else some (0, false) := by
  intro r
  induction r with
  | nil =>
    intro p a k hb hk ha
    obtain ⟨k, rfl⟩ : ∃ j, k = j + 1 := ⟨k - 1, by omega⟩
    have h18 := pow_le18 (a := p.length) (by simpa using hb)
    rw [List.append_nil]
    have c1 : ¬ (p.length : Int) < (p.length : Int) := by omega
    have cw := w64 (n := 0 - (a : Int)) (by omega) (by omega)
    simp only [impl_readDecimal.l8, impl_readDecimal.g8, ob_size, c1, cw, and_self, and_true, true_and, decide_true, decide_false, if_true, if_false, mid_get, mid_set, mid_getn, mid_setn, bt_mid, Option.bind_some, Bool.not_true, Bool.not_false, Bool.false_eq_true, Bool.true_eq_false, beq_self_eq_true, bne_self_eq_false, Int.toNat_natCast, decide_eq_true_eq, List.all_nil, valL]
    rw [show 0 - (a : Int) = -(a : Int) by omega]
  | cons c r ih =>
    intro p a k hb hk ha
    simp only [List.length_cons] at hb hk
    obtain ⟨k, rfl⟩ : ∃ j, k = j + 1 := ⟨k - 1, by omega⟩
    have h17 : (10 : Nat) ^ p.length ≤ 10 ^ 17 := Nat.pow_le_pow_right (by omega) (by omega)
    have e17 : (10 : Nat) ^ 17 = 100000000000000000 := by decide
    have c0 : (0 : Int) ≤ (p.length : Int) := by omega
    have hm := mid_len p r c
    have c1 : (p.length : Int) < ((ob (p ++ c :: r)).size : Int) := by rw [ob_size]; omega
    have cw := w64 (n := (p.length : Int) + 1) (by omega) (by omega)
    simp only [impl_readDecimal.l8, impl_readDecimal.g8, c0, c1, cw, and_self, and_true, true_and, decide_true, decide_false, if_true, if_false, mid_get, mid_set, mid_getn, mid_setn, bt_mid, Option.bind_some, Bool.not_true, Bool.not_false, Bool.false_eq_true, Bool.true_eq_false, beq_self_eq_true, bne_self_eq_false, Int.toNat_natCast, List.all_cons]
    by_cases hd : isDig c = true
    · have h2 := isDig_iff.1 hd
      have n1 : ¬ (c.toNat : Int) < 48 := by omega
      have n2 : ¬ (57 : Int) < (c.toNat : Int) := by omega
      have e1 := w64 (n := 10 * (a : Int)) (by omega) (by omega)
      have e2 := w64 (n := 10 * (a : Int) + ((c.toNat - 48 : Nat) : Int)) (by omega) (by omega)
      have := ih (p ++ [c]) (10 * a + (c.toNat - 48)) k (by simp; omega) (by omega) (by rw [List.length_append, List.length_singleton, Nat.pow_succ]; omega)
      rw [mid_snoc, snoc_len, show ((10 * a + (c.toNat - 48) : Nat) : Int) = 10 * (a : Int) + ((c.toNat - 48 : Nat) : Int) by omega] at this
      simp only [n1, n2, and_self, and_true, true_and, decide_true, decide_false, if_true, if_false, mid_get, mid_set, mid_getn, mid_setn, bt_mid, Option.bind_some, Bool.not_true, Bool.not_false, Bool.false_eq_true, Bool.true_eq_false, beq_self_eq_true, bne_self_eq_false, Int.toNat_natCast, u8_sub48 hd, e1, e2, hd, this, valL]
      rfl
    · have hd' : isDig c = false := by simpa using hd
      by_cases h1 : (c.toNat : Int) < 48
      · simp [h1, hd']
      · have h3 : (57 : Int) < (c.toNat : Int) := by
          have : ¬ (48 ≤ c.toNat ∧ c.toNat ≤ 57) := fun e => hd (isDig_iff.2 e)
          omega
        simp [h1, h3, hd']
/-- A text's number: its digits, and whether a sign stands ahead. -/
def okDigs (l : List UInt8) (m : Nat) (neg : Bool) : Bool := decide (l ≠ [] ∧ l.length ≤ m ∧ (l.head? ≠ some 48 ∨ (l.length = 1 ∧ neg = false))) && l.all isDig
theorem okDigs_long {l : List UInt8} {m : Nat} {neg : Bool} (h : m < l.length) : okDigs l m neg = false := by
  unfold okDigs
  rw [decide_eq_false (fun h' => by have := h'.2.1; omega), Bool.false_and]
theorem okDigs_short {c : UInt8} {r : List UInt8} {m : Nat} {neg : Bool} (h : (c :: r).length ≤ m) : okDigs (c :: r) m neg = ((decide (c ≠ 48) || (decide (r = []) && !neg)) && (c :: r).all isDig) := by
  unfold okDigs
  congr 1
  rw [Bool.eq_iff_iff]
  simp only [decide_eq_true_eq, Bool.or_eq_true, Bool.and_eq_true, Bool.not_eq_true', List.head?_cons, ne_eq, Option.some.injEq, List.length_cons]
  constructor
  · rintro ⟨_, _, h1 | ⟨h1, h2⟩⟩
    · exact .inl h1
    · exact .inr ⟨List.length_eq_zero_iff.1 (by omega), h2⟩
  · rintro (h1 | ⟨h1, h2⟩)
    · exact ⟨by simp, by simpa using h, .inl h1⟩
    · exact ⟨by simp, by simpa using h, .inr ⟨by rw [h1]; rfl, h2⟩⟩
def rdD (s : ByteArray) : Int × Bool :=
  if (bl s).head? = some 45 then (if okDigs (bl s).tail 18 true then (-((valL (bl s).tail 0 : Nat) : Int), true) else (0, false))
  else (if okDigs (bl s) 18 false then (((valL (bl s) 0 : Nat) : Int), true) else (0, false))
theorem bt0_ob (c : UInt8) (r : List UInt8) : bt (ob (c :: r)) 0 = (c.toNat : Int) := rfl
theorem impl_readDecimal_f (s : ByteArray) (hs : s.size ≤ 1000000) : impl_readDecimal.f s = some (rdD s) := by
  revert hs
  refine ob_all (P := fun s => s.size ≤ 1000000 → impl_readDecimal.f s = some (rdD s)) ?_ s
  intro l hs
  rw [ob_size] at hs
  unfold impl_readDecimal.f impl_readDecimal.fn impl_readDecimal.top rdD
  rw [bl_ob, ob_size]
  cases l with
  | nil => simp [okDigs]
  | cons c r =>
    simp only [List.length_cons] at hs
    have c0 : (0 : Int) < ((c :: r).length : Int) := by simp only [List.length_cons]; omega
    have cz : (((c :: r).length : Int) == 0) = false := by rw [beq_eq_false_iff_ne]; omega
    simp only [c0, cz, bt0_ob, and_self, and_true, true_and, decide_true, decide_false, if_true, if_false, mid_get, mid_set, mid_getn, mid_setn, bt_mid, Option.bind_some, Bool.not_true, Bool.not_false, Bool.false_eq_true, Bool.true_eq_false, beq_self_eq_true, bne_self_eq_false, Int.toNat_natCast, Int.le_refl, List.head?_cons, Option.some.injEq, List.tail_cons]
    by_cases hc : c = 45
    · subst hc
      have e45 : (((45 : UInt8).toNat : Int) == 45) = true := rfl
      have c1 : (1 : Int) ≤ ((45 :: r : List UInt8).length : Int) := by simp only [List.length_cons]; omega
      have ex : (ob (45 :: r)).extract (1 : Int).toNat (45 :: r : List UInt8).length = ob r := by
        rw [ob_extract, List.take_of_length_le (by omega)]; rfl
      simp only [e45, c1, ex, ob_size, and_self, and_true, true_and, decide_true, decide_false, if_true, if_false, mid_get, mid_set, mid_getn, mid_setn, bt_mid, Option.bind_some, Bool.not_true, Bool.not_false, Bool.false_eq_true, Bool.true_eq_false, beq_self_eq_true, bne_self_eq_false, Int.toNat_natCast, show (0 : Int) ≤ 1 from by omega]
      cases r with
      | nil => simp [okDigs]
      | cons d r =>
        have d0 : (0 : Int) < ((d :: r).length : Int) := by simp only [List.length_cons]; omega
        have dz : (((d :: r).length : Int) == 0) = false := by rw [beq_eq_false_iff_ne]; omega
        have d1 : (1 : Int) < ((45 :: d :: r : List UInt8).length : Int) := by simp only [List.length_cons]; omega
        simp only [d0, dz, d1, bt0_ob, and_self, and_true, true_and, decide_true, decide_false, if_true, if_false, mid_get, mid_set, mid_getn, mid_setn, bt_mid, Option.bind_some, Bool.not_true, Bool.not_false, Bool.false_eq_true, Bool.true_eq_false, beq_self_eq_true, bne_self_eq_false, Int.toNat_natCast]
        by_cases h18 : (18 : Int) < ((d :: r).length : Int)
        · simp only [okDigs_long (show 18 < (d :: r).length by omega), h18, and_self, and_true, true_and, decide_true, decide_false, if_true, if_false, mid_get, mid_set, mid_getn, mid_setn, bt_mid, Option.bind_some, Bool.not_true, Bool.not_false, Bool.false_eq_true, Bool.true_eq_false, beq_self_eq_true, bne_self_eq_false, Int.toNat_natCast]
        · have h18' : (d :: r).length ≤ 18 := by omega
          have hl := impl_readDecimal_l (ob (45 :: d :: r)) (d :: r) [] 0 NN (by simpa using h18') (NN_lt (by omega)) (by simp)
          simp only [List.nil_append, List.length_nil, ob_size] at hl
          have d2 : ((d :: r).length : Int) < ((45 :: d :: r : List UInt8).length : Int) := by simp only [List.length_cons]; omega
          rw [show ((0 : Nat) : Int) = 0 from rfl] at hl
          simp only [d2, if_true] at hl
          simp only [okDigs_short h18', h18, hl, and_self, and_true, true_and, decide_true, decide_false, if_true, if_false, mid_get, mid_set, mid_getn, mid_setn, bt_mid, Option.bind_some, Bool.not_true, Bool.not_false, Bool.false_eq_true, Bool.true_eq_false, beq_self_eq_true, bne_self_eq_false, Int.toNat_natCast]
          by_cases hd : d = 48
          · subst hd
            simp
          · have : ((d.toNat : Int) == 48) = false := by rw [beq_eq_false_iff_ne]; intro e; exact hd ((u8_eq (n := 48) (by omega)).mp (by omega))
            simp only [this, and_self, and_true, true_and, decide_true, decide_false, if_true, if_false, mid_get, mid_set, mid_getn, mid_setn, bt_mid, Option.bind_some, Bool.not_true, Bool.not_false, Bool.false_eq_true, Bool.true_eq_false, beq_self_eq_true, bne_self_eq_false, Int.toNat_natCast]
            cases ha : (d :: r).all isDig <;> simp [hd]
    · have e45 : ((c.toNat : Int) == 45) = false := by rw [beq_eq_false_iff_ne]; intro e; exact hc ((u8_eq (n := 45) (by omega)).mp (by omega))
      simp only [e45, hc, and_self, and_true, true_and, decide_true, decide_false, if_true, if_false, mid_get, mid_set, mid_getn, mid_setn, bt_mid, Option.bind_some, Bool.not_true, Bool.not_false, Bool.false_eq_true, Bool.true_eq_false, beq_self_eq_true, bne_self_eq_false, Int.toNat_natCast]
      by_cases h18 : (18 : Int) < ((c :: r).length : Int)
      · simp only [okDigs_long (show 18 < (c :: r).length by omega), h18, and_self, and_true, true_and, decide_true, decide_false, if_true, if_false, mid_get, mid_set, mid_getn, mid_setn, bt_mid, Option.bind_some, Bool.not_true, Bool.not_false, Bool.false_eq_true, Bool.true_eq_false, beq_self_eq_true, bne_self_eq_false, Int.toNat_natCast]
      · have h18' : (c :: r).length ≤ 18 := by omega
        have hl := impl_readDecimal_l (ob (c :: r)) (c :: r) [] 0 NN (by simpa using h18') (NN_lt (by omega)) (by simp)
        simp only [List.nil_append, List.length_nil, ob_size, Int.lt_irrefl, if_false] at hl
        rw [show ((0 : Nat) : Int) = 0 from rfl] at hl
        simp only [okDigs_short h18', h18, hl, and_self, and_true, true_and, decide_true, decide_false, if_true, if_false, mid_get, mid_set, mid_getn, mid_setn, bt_mid, Option.bind_some, Bool.not_true, Bool.not_false, Bool.false_eq_true, Bool.true_eq_false, beq_self_eq_true, bne_self_eq_false, Int.toNat_natCast]
        by_cases hd : c = 48
        · subst hd
          have e48 : (((48 : UInt8).toNat : Int) == 48) = true := rfl
          simp only [e48, and_self, and_true, true_and, decide_true, decide_false, if_true, if_false, mid_get, mid_set, mid_getn, mid_setn, bt_mid, Option.bind_some, Bool.not_true, Bool.not_false, Bool.false_eq_true, Bool.true_eq_false, beq_self_eq_true, bne_self_eq_false, Int.toNat_natCast]
          cases r with
          | nil =>
            simp only [List.length_cons, List.length_nil]
            cases ha : ([48] : List UInt8).all isDig <;> simp
          | cons d r =>
            have h1 : (1 : Int) < ((48 :: d :: r : List UInt8).length : Int) := by simp only [List.length_cons]; omega
            simp only [h1, and_self, and_true, true_and, decide_true, decide_false, if_true, if_false, mid_get, mid_set, mid_getn, mid_setn, bt_mid, Option.bind_some, Bool.not_true, Bool.not_false, Bool.false_eq_true, Bool.true_eq_false, beq_self_eq_true, bne_self_eq_false, Int.toNat_natCast]
            simp
        · have : ((c.toNat : Int) == 48) = false := by rw [beq_eq_false_iff_ne]; intro e; exact hd ((u8_eq (n := 48) (by omega)).mp (by omega))
          simp only [this, and_self, and_true, true_and, decide_true, decide_false, if_true, if_false, mid_get, mid_set, mid_getn, mid_setn, bt_mid, Option.bind_some, Bool.not_true, Bool.not_false, Bool.false_eq_true, Bool.true_eq_false, beq_self_eq_true, bne_self_eq_false, Int.toNat_natCast]
          cases ha : (c :: r).all isDig <;> simp [hd]
theorem spec_l01Value_l : ∀ (r p : List UInt8) (a k : Nat), p.length + r.length ≤ 13 → r.length < k → a < 10 ^ p.length →
    spec_l01Value.l5 NN k (ob (p ++ r)) (a : Int) (p.length : Int) = if r.all isDig = true then some (((valL r a : Nat) : Int), decide (ob (digs (valL r a)) = ob (p ++ r))) else some (0, false) := by
  intro r
  induction r with
  | nil =>
    intro p a k hb hk ha
    obtain ⟨k, rfl⟩ : ∃ j, k = j + 1 := ⟨k - 1, by omega⟩
    have h18 := pow_le18 (a := p.length) (by simp at hb; omega)
    rw [List.append_nil]
    have c1 : ¬ (p.length : Int) < (p.length : Int) := by omega
    simp only [spec_l01Value.l5, spec_l01Value.g5, ob_size, c1, and_self, and_true, true_and, decide_true, decide_false, if_true, if_false, mid_get, mid_set, mid_getn, mid_setn, bt_mid, Option.bind_some, Bool.not_true, Bool.not_false, Bool.false_eq_true, Bool.true_eq_false, beq_self_eq_true, bne_self_eq_false, Int.toNat_natCast, spec_l01Dec_f (show (0 : Int) ≤ (a : Int) by omega) (show (a : Int) ≤ 1000000000000000000 by omega), decB_nat, ba_beq, List.all_nil, valL]
    rfl
  | cons c r ih =>
    intro p a k hb hk ha
    simp only [List.length_cons] at hb hk
    obtain ⟨k, rfl⟩ : ∃ j, k = j + 1 := ⟨k - 1, by omega⟩
    have h17 : (10 : Nat) ^ p.length ≤ 10 ^ 17 := Nat.pow_le_pow_right (by omega) (by omega)
    have e17 : (10 : Nat) ^ 17 = 100000000000000000 := by decide
    have c0 : (0 : Int) ≤ (p.length : Int) := by omega
    have hm := mid_len p r c
    have c1 : (p.length : Int) < ((ob (p ++ c :: r)).size : Int) := by rw [ob_size]; omega
    have cw := w64 (n := (p.length : Int) + 1) (by omega) (by omega)
    simp only [spec_l01Value.l5, spec_l01Value.g5, c0, c1, cw, and_self, and_true, true_and, decide_true, decide_false, if_true, if_false, mid_get, mid_set, mid_getn, mid_setn, bt_mid, Option.bind_some, Bool.not_true, Bool.not_false, Bool.false_eq_true, Bool.true_eq_false, beq_self_eq_true, bne_self_eq_false, Int.toNat_natCast, List.all_cons]
    by_cases hd : isDig c = true
    · have h2 := isDig_iff.1 hd
      have n1 : ¬ (c.toNat : Int) < 48 := by omega
      have n2 : ¬ (57 : Int) < (c.toNat : Int) := by omega
      have e1 := w64 (n := 10 * (a : Int)) (by omega) (by omega)
      have e2 := w64 (n := 10 * (a : Int) + ((c.toNat - 48 : Nat) : Int)) (by omega) (by omega)
      have := ih (p ++ [c]) (10 * a + (c.toNat - 48)) k (by simp; omega) (by omega) (by rw [List.length_append, List.length_singleton, Nat.pow_succ]; omega)
      rw [mid_snoc, snoc_len, show ((10 * a + (c.toNat - 48) : Nat) : Int) = 10 * (a : Int) + ((c.toNat - 48 : Nat) : Int) by omega] at this
      simp only [n1, n2, and_self, and_true, true_and, decide_true, decide_false, if_true, if_false, mid_get, mid_set, mid_getn, mid_setn, bt_mid, Option.bind_some, Bool.not_true, Bool.not_false, Bool.false_eq_true, Bool.true_eq_false, beq_self_eq_true, bne_self_eq_false, Int.toNat_natCast, u8_sub48 hd, e1, e2, hd, this, valL]
      rfl
    · have hd' : isDig c = false := by simpa using hd
      by_cases h1 : (c.toNat : Int) < 48
      · simp [h1, hd']
      · have h3 : (57 : Int) < (c.toNat : Int) := by
          have : ¬ (48 ≤ c.toNat ∧ c.toNat ≤ 57) := fun e => hd (isDig_iff.2 e)
          omega
        simp [h1, h3, hd']
def rdV (s : ByteArray) : Int × Bool := if 1 ≤ s.size ∧ s.size ≤ 13 ∧ (bl s).all isDig = true then (((valL (bl s) 0 : Nat) : Int), decide (digs (valL (bl s) 0) = bl s)) else (0, false)
theorem spec_l01Value_f (s : ByteArray) (hs : s.size ≤ 1000000) : spec_l01Value.f s = some (rdV s) := by
  unfold spec_l01Value.f spec_l01Value.fn spec_l01Value.top rdV
  by_cases h1 : (s.size : Int) < 1
  · have : ¬ 1 ≤ s.size := by omega
    simp [h1, this]
  · by_cases h13 : (13 : Int) < (s.size : Int)
    · have : ¬ s.size ≤ 13 := by omega
      simp [h1, h13, this]
    · have e1 : 1 ≤ s.size := by omega
      have e2 : s.size ≤ 13 := by omega
      have := spec_l01Value_l (bl s) [] 0 NN (by simpa [bl_length] using e2) (by rw [bl_length]; exact NN_lt (by omega)) (by simp)
      simp only [List.nil_append, ob_bl, List.length_nil] at this
      rw [show ((0 : Nat) : Int) = 0 from rfl] at this
      simp only [h1, h13, this, e1, e2, and_self, and_true, true_and, decide_true, decide_false, if_true, if_false, mid_get, mid_set, mid_getn, mid_setn, bt_mid, Option.bind_some, Bool.not_true, Bool.not_false, Bool.false_eq_true, Bool.true_eq_false, beq_self_eq_true, bne_self_eq_false, Int.toNat_natCast]
      have e3 : decide (ob (digs (valL (bl s) 0)) = s) = decide (digs (valL (bl s) 0) = bl s) := by
        congr 1
        exact propext ⟨fun h => by have := congrArg bl h; rwa [bl_ob] at this, fun h => by rw [h, ob_bl]⟩
      cases ha : (bl s).all isDig
      · simp
      · simp only [if_true]
        congr 2
/-- both readers, within a range -/
theorem rdV_rdD {s : ByteArray} (h : (rdV s).2 = true) : rdD s = rdV s := by
  unfold rdV at h ⊢
  split at h
  · rename_i hc
    rw [if_pos hc]
    obtain ⟨h1, h2, h3⟩ := hc
    simp only [decide_eq_true_eq] at h
    have hne : bl s ≠ [] := by intro e; have := bl_length s; rw [e] at this; simp at this; omega
    obtain ⟨c, r, e⟩ : ∃ c r, bl s = c :: r := by
      cases hb : bl s with
      | nil => exact absurd hb hne
      | cons c r => exact ⟨c, r, rfl⟩
    have hd : isDig c = true := by rw [e] at h3; simp at h3; exact h3.1
    have hdi := isDig_iff.1 hd
    have h45 : ¬ (bl s).head? = some 45 := by
      rw [e]; simp only [List.head?_cons, Option.some.injEq]
      intro hc; subst hc
      have : (45 : UInt8).toNat = 45 := rfl
      omega
    have hz : (bl s).head? ≠ some 48 ∨ ((bl s).length = 1 ∧ false = false) := by
      by_cases hv : valL (bl s) 0 = 0
      · right
        rw [hv, digs_small (by omega)] at h
        rw [← h]; exact ⟨rfl, rfl⟩
      · left
        intro hh
        rw [← h] at hh
        exact digs_head hv 48 hh rfl
    have hok : okDigs (bl s) 18 false = true := by
      unfold okDigs
      rw [h3, Bool.and_true]
      exact decide_eq_true ⟨hne, by rw [bl_length]; omega, hz⟩
    unfold rdD
    rw [if_neg h45, if_pos hok, decide_eq_true h]
  · cases h
theorem rdD_rdV {s : ByteArray} (h : (rdD s).2 = true) (h0 : 0 ≤ (rdD s).1) (h1 : (rdD s).1 ≤ 1000000000000) (hn : (rdD s).1 = 0 → (bl s).head? ≠ some 45) : rdV s = rdD s := by
  unfold rdD at h h0 h1 hn ⊢
  split at h
  · rename_i h45
    split at h
    · rename_i hok
      rw [if_pos h45, if_pos hok] at h0 hn
      simp only at h0 hn
      exact absurd h45 (hn (by omega))
    · cases h
  · rename_i h45
    split at h
    · rename_i hok
      rw [if_neg h45, if_pos hok] at h0 h1 hn ⊢
      simp only at h0 h1
      unfold okDigs at hok
      simp only [Bool.and_eq_true, decide_eq_true_eq] at hok
      obtain ⟨⟨k1, k2, k3⟩, k4⟩ := hok
      have hd : ∀ c ∈ bl s, isDig c = true := List.all_eq_true.1 k4
      have hdig : digs (valL (bl s) 0) = bl s := digs_valL _ k1 hd (by
        rcases k3 with k | k
        · exact .inr k
        · exact .inl k.1)
      have hlen : (bl s).length ≤ 13 := by
        rw [← hdig]
        exact (digs_len 12 _ (by have : (10 : Nat) ^ (12 + 1) = 10000000000000 := by decide
                                 omega)).1
      have hl0 : (bl s).length ≠ 0 := fun e => k1 (List.length_eq_zero_iff.1 e)
      rw [bl_length] at hlen hl0
      unfold rdV
      rw [if_pos ⟨by omega, hlen, k4⟩, decide_eq_true hdig]
    · cases h
theorem rdD_neg0 {s : ByteArray} (h : (rdD s).2 = true) (h0 : (rdD s).1 = 0) : (bl s).head? ≠ some 45 := by
  intro h45
  unfold rdD at h h0
  rw [if_pos h45] at h h0
  split at h
  · rename_i hok
    rw [if_pos hok] at h0
    simp only at h0
    unfold okDigs at hok
    simp only [Bool.and_eq_true, decide_eq_true_eq] at hok
    obtain ⟨⟨k1, k2, k3⟩, k4⟩ := hok
    have hdig : digs (valL (bl s).tail 0) = (bl s).tail := digs_valL _ k1 (List.all_eq_true.1 k4) (by
      rcases k3 with k | k
      · exact .inr k
      · exact .inl k.1)
    have hv : valL (bl s).tail 0 = 0 := by omega
    rw [hv, digs_small (by omega)] at hdig
    rcases k3 with k | k
    · rw [← hdig] at k; exact k rfl
    · exact absurd k.2 (by simp)
  · cases h
theorem rd_back {s : ByteArray} (h : (rdD s).2 = true) (h0 : 0 ≤ (rdD s).1) (h1 : (rdD s).1 ≤ 1000000000000) : rdV s = rdD s := rdD_rdV h h0 h1 (rdD_neg0 h)
end Go.Pl

namespace Go.Pl
open Go.Ev
set_option linter.unusedVariables false
noncomputable section
def impl_readLine.g2 (L2 : ByteArray → Int → ByteArray → Int → Option ((ByteArray × Int) × Bool)) (s0 : ByteArray) (i4 : Int) (v2a : ByteArray) (v2b : Int) : Option ((ByteArray × Int) × Bool) :=
  if (decide ((i4 : Int) < (s0.size : Int))) = true then
    if (0 : Int) ≤ i4 ∧ (i4 : Int) < s0.size then
      if (((bt s0 i4) : Int) == 120) = true then
        if (0 : Int) ≤ i4 ∧ (i4 : Int) ≤ s0.size then
          (impl_readDecimal.f (s0.extract 0 (i4 : Int).toNat)).bind fun r1 =>
          if (0 : Int) ≤ (IntKind.i64.wrap (i4 + 1)) ∧ ((IntKind.i64.wrap (i4 + 1)) : Int) ≤ s0.size then
            some ((s0.extract ((IntKind.i64.wrap (i4 + 1)) : Int).toNat s0.size, r1.1), r1.2)
          else
            none
        else
          none
      else
        L2 s0 (IntKind.i64.wrap (i4 + 1)) v2a v2b
    else
      none
  else
    some ((ByteArray.empty, 0), false)
def impl_readLine.l2 (n : Nat) : Nat → ByteArray → Int → ByteArray → Int → Option ((ByteArray × Int) × Bool)
  | 0 => fun _ _ _ _ => none
  | k + 1 => impl_readLine.g2 (impl_readLine.l2 n k)
def impl_readLine.top (I2 : ByteArray → Int → ByteArray → Int → Option ((ByteArray × Int) × Bool)) (s0 : ByteArray) : Option ((ByteArray × Int) × Bool) :=
  I2 s0 0 ByteArray.empty 0
def impl_readLine.fn (n : Nat) (s0 : ByteArray) : Option ((ByteArray × Int) × Bool) := impl_readLine.top (impl_readLine.l2 n n) s0
def impl_readLine.f (s0 : ByteArray) : Option ((ByteArray × Int) × Bool) := impl_readLine.fn NN s0
end
end Go.Pl

namespace Go.Pl
open Go.Ev
set_option linter.unusedVariables false
noncomputable section
def spec_l29Line.g2 (L2 : ByteArray → Int → ByteArray → Int → Option ((ByteArray × Int) × Bool)) (s0 : ByteArray) (at4 : Int) (v2a : ByteArray) (v2b : Int) : Option ((ByteArray × Int) × Bool) :=
  if (decide ((at4 : Int) < (s0.size : Int))) = true then
    if (0 : Int) ≤ at4 ∧ (at4 : Int) < s0.size then
      if (((bt s0 at4) : Int) != 120) = true then
        L2 s0 (IntKind.i64.wrap (at4 + 1)) v2a v2b
      else if ((at4 : Int) == (s0.size : Int)) = true then
        some ((ByteArray.empty, 0), false)
      else if (0 : Int) ≤ at4 ∧ (at4 : Int) ≤ s0.size then
        (spec_l01Value.f (s0.extract 0 (at4 : Int).toNat)).bind fun r1 =>
        if (0 : Int) ≤ (IntKind.i64.wrap (at4 + 1)) ∧ ((IntKind.i64.wrap (at4 + 1)) : Int) ≤ s0.size then
          some ((s0.extract ((IntKind.i64.wrap (at4 + 1)) : Int).toNat s0.size, r1.1), r1.2)
        else
          none
      else
        none
    else
      none
  else if ((at4 : Int) == (s0.size : Int)) = true then
    some ((ByteArray.empty, 0), false)
  else if (0 : Int) ≤ at4 ∧ (at4 : Int) ≤ s0.size then
    (spec_l01Value.f (s0.extract 0 (at4 : Int).toNat)).bind fun r2 =>
    if (0 : Int) ≤ (IntKind.i64.wrap (at4 + 1)) ∧ ((IntKind.i64.wrap (at4 + 1)) : Int) ≤ s0.size then
      some ((s0.extract ((IntKind.i64.wrap (at4 + 1)) : Int).toNat s0.size, r2.1), r2.2)
    else
      none
  else
    none
def spec_l29Line.l2 (n : Nat) : Nat → ByteArray → Int → ByteArray → Int → Option ((ByteArray × Int) × Bool)
  | 0 => fun _ _ _ _ => none
  | k + 1 => spec_l29Line.g2 (spec_l29Line.l2 n k)
def spec_l29Line.top (I2 : ByteArray → Int → ByteArray → Int → Option ((ByteArray × Int) × Bool)) (s0 : ByteArray) : Option ((ByteArray × Int) × Bool) :=
  I2 s0 0 ByteArray.empty 0
def spec_l29Line.fn (n : Nat) (s0 : ByteArray) : Option ((ByteArray × Int) × Bool) := spec_l29Line.top (spec_l29Line.l2 n n) s0
def spec_l29Line.f (s0 : ByteArray) : Option ((ByteArray × Int) × Bool) := spec_l29Line.fn NN s0
end
end Go.Pl

namespace Go.Pl
open Go.Ev
set_option linter.unusedVariables false
noncomputable section
def impl_ReadPaper.g10 (L10 : List ByteArray → Int → Int → ByteArray → Int → ByteArray → Int → (List (ByteArray × Int)) → (List (ByteArray × Int)) → Option ((ByteArray × Int × List (ByteArray × Int)) × Int)) (v44 : List ByteArray) (v45 : Int) (v46 : Int) (v2a : ByteArray) (v2ba : Int) (p8a : ByteArray) (p8ba : Int) (w2 : List (ByteArray × Int)) (w3 : List (ByteArray × Int)) : Option ((ByteArray × Int × List (ByteArray × Int)) × Int) :=
  if (decide ((v46 : Int) < v45)) = true then
    if (0 : Int) ≤ v46 ∧ (v46 : Int) < v44.length then
      (impl_readLine.f (v44.getD (v46 : Int).toNat ByteArray.empty)).bind fun r4 =>
      if (!r4.2) = true then
        some ((ByteArray.empty, (0, [])), 6)
      else if w3.length + ([r4.1]).length < room 24 then
        L10 v44 v45 (IntKind.i64.wrap (v46 + 1)) v2a v2ba p8a p8ba w2 (w3 ++ ([r4.1]))
      else
        none
    else
      none
  else
    (impl_IsPaper.f (p8a, (p8ba, w3))).bind fun r5 =>
    if (!r5) = true then
      some ((ByteArray.empty, (0, [])), 6)
    else
      some ((p8a, (p8ba, w3)), 0)
def impl_ReadPaper.l10 (n : Nat) : Nat → List ByteArray → Int → Int → ByteArray → Int → ByteArray → Int → (List (ByteArray × Int)) → (List (ByteArray × Int)) → Option ((ByteArray × Int × List (ByteArray × Int)) × Int)
  | 0 => fun _ _ _ _ _ _ _ _ _ => none
  | k + 1 => impl_ReadPaper.g10 (impl_ReadPaper.l10 n k)
def impl_ReadPaper.top (I10 : List ByteArray → Int → Int → ByteArray → Int → ByteArray → Int → (List (ByteArray × Int)) → (List (ByteArray × Int)) → Option ((ByteArray × Int × List (ByteArray × Int)) × Int)) (s0 : ByteArray) : Option ((ByteArray × Int × List (ByteArray × Int)) × Int) :=
  (impl_splitAt.f s0 59).bind fun r1 =>
  if (0 : Int) ≤ 0 ∧ (0 : Int) < r1.length then
    (impl_splitAt.f (r1.getD (0 : Int).toNat ByteArray.empty) 32).bind fun r2 =>
    if (((r2.length : Int) : Int) != 2) = false then
      if (decide ((13 : Int) < (r1.length : Int))) = true then
        some ((ByteArray.empty, (0, [])), 6)
      else if (0 : Int) ≤ 1 ∧ (1 : Int) < r2.length then
        (impl_readDecimal.f (r2.getD (1 : Int).toNat ByteArray.empty)).bind fun r3 =>
        if (!r3.2) = true then
          some ((ByteArray.empty, (0, [])), 6)
        else if (0 : Int) ≤ 0 ∧ (0 : Int) < r2.length then
          if (0 : Int) ≤ 1 ∧ (1 : Int) ≤ r1.length then
            I10 (r1.drop (1 : Int).toNat) ((r1.drop (1 : Int).toNat).length : Int) 0 ByteArray.empty 0 (r2.getD (0 : Int).toNat ByteArray.empty) r3.1 [] []
          else
            none
        else
          none
      else
        none
    else
      some ((ByteArray.empty, (0, [])), 6)
  else
    none
def impl_ReadPaper.fn (n : Nat) (s0 : ByteArray) : Option ((ByteArray × Int × List (ByteArray × Int)) × Int) := impl_ReadPaper.top (impl_ReadPaper.l10 n n) s0
def impl_ReadPaper.f (s0 : ByteArray) : Option ((ByteArray × Int × List (ByteArray × Int)) × Int) := impl_ReadPaper.fn NN s0
end
end Go.Pl

namespace Go.Pl
open Go.Ev
set_option linter.unusedVariables false
noncomputable section
def spec_ReadPaper.g8 (L8 : Bool → Int → ByteArray → Int → List ByteArray → ByteArray → Int → (List (ByteArray × Int)) → (List (ByteArray × Int)) → Option ((ByteArray × Int × List (ByteArray × Int)) × Int)) (ok7 : Bool) (i9 : Int) (v2a : ByteArray) (v2ba : Int) (parts4 : List ByteArray) (p8a : ByteArray) (p8ba : Int) (w3 : List (ByteArray × Int)) (w4 : List (ByteArray × Int)) : Option ((ByteArray × Int × List (ByteArray × Int)) × Int) :=
  if (decide ((i9 : Int) < (parts4.length : Int))) = true then
    if (0 : Int) ≤ i9 ∧ (i9 : Int) < parts4.length then
      (spec_l29Line.f (parts4.getD (i9 : Int).toNat ByteArray.empty)).bind fun r4 =>
      if ok7 = true then
        if w4.length + ([r4.1]).length < room 24 then
          L8 r4.2 (IntKind.i64.wrap (i9 + 1)) v2a v2ba parts4 p8a p8ba w3 (w4 ++ ([r4.1]))
        else
          none
      else if w4.length + ([r4.1]).length < room 24 then
        L8 false (IntKind.i64.wrap (i9 + 1)) v2a v2ba parts4 p8a p8ba w3 (w4 ++ ([r4.1]))
      else
        none
    else
      none
  else if (!ok7) = false then
    (spec_IsPaper.f (p8a, (p8ba, w4))).bind fun r5 =>
    if (!r5) = true then
      some ((ByteArray.empty, (0, [])), 6)
    else
      some ((p8a, (p8ba, w4)), 0)
  else
    some ((ByteArray.empty, (0, [])), 6)
def spec_ReadPaper.l8 (n : Nat) : Nat → Bool → Int → ByteArray → Int → List ByteArray → ByteArray → Int → (List (ByteArray × Int)) → (List (ByteArray × Int)) → Option ((ByteArray × Int × List (ByteArray × Int)) × Int)
  | 0 => fun _ _ _ _ _ _ _ _ _ => none
  | k + 1 => spec_ReadPaper.g8 (spec_ReadPaper.l8 n k)
def spec_ReadPaper.top (I8 : Bool → Int → ByteArray → Int → List ByteArray → ByteArray → Int → (List (ByteArray × Int)) → (List (ByteArray × Int)) → Option ((ByteArray × Int × List (ByteArray × Int)) × Int)) (s0 : ByteArray) : Option ((ByteArray × Int × List (ByteArray × Int)) × Int) :=
  (spec_l01Split.f s0 59).bind fun r1 =>
  if (0 : Int) ≤ 0 ∧ (0 : Int) < r1.length then
    (spec_l01Split.f (r1.getD (0 : Int).toNat ByteArray.empty) 32).bind fun r2 =>
    if (((r2.length : Int) : Int) != 2) = true then
      some ((ByteArray.empty, (0, [])), 6)
    else if (0 : Int) ≤ 1 ∧ (1 : Int) < r2.length then
      (spec_l01Value.f (r2.getD (1 : Int).toNat ByteArray.empty)).bind fun r3 =>
      if (0 : Int) ≤ 0 ∧ (0 : Int) < r2.length then
        I8 r3.2 1 ByteArray.empty 0 r1 (r2.getD (0 : Int).toNat ByteArray.empty) r3.1 [] []
      else
        none
    else
      none
  else
    none
def spec_ReadPaper.fn (n : Nat) (s0 : ByteArray) : Option ((ByteArray × Int × List (ByteArray × Int)) × Int) := spec_ReadPaper.top (spec_ReadPaper.l8 n n) s0
def spec_ReadPaper.f (s0 : ByteArray) : Option ((ByteArray × Int × List (ByteArray × Int)) × Int) := spec_ReadPaper.fn NN s0
end
end Go.Pl

namespace Go.Pl
open Go.Ev
set_option linter.unusedVariables false
set_option linter.unusedSimpArgs false
/-- a line's text: up to the first x a number, then a word -/
def cutX : List UInt8 → Option (List UInt8 × List UInt8)
  | [] => none
  | c :: r => if c = 120 then some ([], r) else (cutX r).map fun x => (c :: x.1, x.2)
def lineR (rd : ByteArray → Int × Bool) (s : ByteArray) : (ByteArray × Int) × Bool := match cutX (bl s) with
  | none => ((ByteArray.empty, 0), false)
  | some (a, b) => ((ob b, (rd (ob a)).1), (rd (ob a)).2)
theorem cutX_app (p : List UInt8) (h : (120 : UInt8) ∉ p) : ∀ r, cutX (p ++ r) = (cutX r).map fun x => (p ++ x.1, x.2) := by
  induction p with
  | nil => intro r; cases h2 : cutX r <;> simp [h2]
  | cons c p ih =>
    intro r
    simp only [List.mem_cons, not_or] at h
    simp only [List.cons_append, cutX]
    rw [if_neg (fun e => h.1 e.symm), ih h.2]
    cases cutX r <;> rfl
theorem ext_pre (p r : List UInt8) : (ob (p ++ r)).extract 0 p.length = ob p := by rw [ob_extract, List.take_left' rfl]; rfl
theorem ext_suf (p r : List UInt8) (c : UInt8) : (ob (p ++ c :: r)).extract (p.length + 1) (ob (p ++ c :: r)).size = ob r := by
  rw [ob_extract, ob_size, List.take_of_length_le (by omega), show p ++ c :: r = (p ++ [c]) ++ r by simp, show p.length + 1 = (p ++ [c]).length by simp, List.drop_left' rfl]
theorem u8_120 {a : UInt8} (h : a ≠ 120) : ¬ ((a.toNat : Int) = 120) := fun e => h ((u8_eq (n := 120) (by omega)).mp (by omega))
theorem impl_readLine_l (v : ByteArray) (d : Int) : ∀ (r p : List UInt8) (k : Nat), p.length + r.length ≤ 1000000 → r.length < k → (120 : UInt8) ∉ p → impl_readLine.l2 NN k (ob (p ++ r)) p.length v d = some (lineR rdD (ob (p ++ r))) := by
  intro r
  induction r with
  | nil =>
    intro p k _ hk hp
    obtain ⟨k, rfl⟩ : ∃ j, k = j + 1 := ⟨k - 1, by omega⟩
    have e : cutX (p ++ []) = none := by rw [cutX_app p hp]; rfl
    unfold lineR
    rw [bl_ob, e]
    simp [impl_readLine.l2, impl_readLine.g2, ob_size]
  | cons c r ih =>
    intro p k hb hk hp
    simp only [List.length_cons] at hb hk
    obtain ⟨k, rfl⟩ : ∃ j, k = j + 1 := ⟨k - 1, by omega⟩
    have hm := mid_len p r c
    have c0 : (0 : Int) ≤ (p.length : Int) := by omega
    have c1 : (p.length : Int) < ((ob (p ++ c :: r)).size : Int) := by rw [ob_size]; omega
    have c2 : (p.length : Int) ≤ ((ob (p ++ c :: r)).size : Int) := by omega
    have c3 : (0 : Int) ≤ (p.length : Int) + 1 := by omega
    have c4 : (p.length : Int) + 1 ≤ ((ob (p ++ c :: r)).size : Int) := by omega
    have e5 : ((p.length : Int) + 1).toNat = p.length + 1 := by omega
    have cw := w64 (n := (p.length : Int) + 1) (by omega) (by omega)
    by_cases hc : c = 120
    · subst hc
      have e : cutX (p ++ 120 :: r) = some (p, r) := by rw [cutX_app p hp]; simp [cutX]
      have e120 : (((120 : UInt8).toNat : Int) == 120) = true := rfl
      unfold lineR
      rw [bl_ob, e]
      simp only [impl_readLine.l2, impl_readLine.g2, c0, c1, c2, c3, c4, cw, and_self, and_true, true_and, decide_true, decide_false, if_true, if_false, mid_get, mid_set, mid_getn, mid_setn, bt_mid, Option.bind_some, Bool.not_true, Bool.not_false, Bool.false_eq_true, Bool.true_eq_false, beq_self_eq_true, bne_self_eq_false, Int.toNat_natCast, e120, ext_pre, e5, ext_suf, impl_readDecimal_f (ob p) (by rw [ob_size]; omega)]
    · have e120 : ((c.toNat : Int) == 120) = false := by rw [beq_eq_false_iff_ne]; exact u8_120 hc
      have := ih (p ++ [c]) k (by simp; omega) (by omega) (by simp [hp]; exact fun e => hc e.symm)
      rw [mid_snoc, snoc_len] at this
      simp only [impl_readLine.l2, impl_readLine.g2, c0, c1, cw, and_self, and_true, true_and, decide_true, decide_false, if_true, if_false, mid_get, mid_set, mid_getn, mid_setn, bt_mid, Option.bind_some, Bool.not_true, Bool.not_false, Bool.false_eq_true, Bool.true_eq_false, beq_self_eq_true, bne_self_eq_false, Int.toNat_natCast, e120, this]
theorem spec_l29Line_l (v : ByteArray) (d : Int) : ∀ (r p : List UInt8) (k : Nat), p.length + r.length ≤ 1000000 → r.length < k → (120 : UInt8) ∉ p → spec_l29Line.l2 NN k (ob (p ++ r)) p.length v d = some (lineR rdV (ob (p ++ r))) := by
  intro r
  induction r with
  | nil =>
    intro p k _ hk hp
    obtain ⟨k, rfl⟩ : ∃ j, k = j + 1 := ⟨k - 1, by omega⟩
    have e : cutX (p ++ []) = none := by rw [cutX_app p hp]; rfl
    unfold lineR
    rw [bl_ob, e]
    simp [spec_l29Line.l2, spec_l29Line.g2, ob_size]
  | cons c r ih =>
    intro p k hb hk hp
    simp only [List.length_cons] at hb hk
    obtain ⟨k, rfl⟩ : ∃ j, k = j + 1 := ⟨k - 1, by omega⟩
    have hm := mid_len p r c
    have c0 : (0 : Int) ≤ (p.length : Int) := by omega
    have c1 : (p.length : Int) < ((ob (p ++ c :: r)).size : Int) := by rw [ob_size]; omega
    have c2 : (p.length : Int) ≤ ((ob (p ++ c :: r)).size : Int) := by omega
    have c3 : (0 : Int) ≤ (p.length : Int) + 1 := by omega
    have c4 : (p.length : Int) + 1 ≤ ((ob (p ++ c :: r)).size : Int) := by omega
    have c5 : ((p.length : Int) == ((ob (p ++ c :: r)).size : Int)) = false := by rw [beq_eq_false_iff_ne]; omega
    have e5 : ((p.length : Int) + 1).toNat = p.length + 1 := by omega
    have cw := w64 (n := (p.length : Int) + 1) (by omega) (by omega)
    by_cases hc : c = 120
    · subst hc
      have e : cutX (p ++ 120 :: r) = some (p, r) := by rw [cutX_app p hp]; simp [cutX]
      have e120 : (((120 : UInt8).toNat : Int) != 120) = false := rfl
      unfold lineR
      rw [bl_ob, e]
      simp only [spec_l29Line.l2, spec_l29Line.g2, c0, c1, c2, c3, c4, c5, cw, and_self, and_true, true_and, decide_true, decide_false, if_true, if_false, mid_get, mid_set, mid_getn, mid_setn, bt_mid, Option.bind_some, Bool.not_true, Bool.not_false, Bool.false_eq_true, Bool.true_eq_false, beq_self_eq_true, bne_self_eq_false, Int.toNat_natCast, e120, ext_pre, e5, ext_suf, spec_l01Value_f (ob p) (by rw [ob_size]; omega)]
    · have e120 : ((c.toNat : Int) != 120) = true := by rw [bne_iff_ne]; exact u8_120 hc
      have := ih (p ++ [c]) k (by simp; omega) (by omega) (by simp [hp]; exact fun e => hc e.symm)
      rw [mid_snoc, snoc_len] at this
      simp only [spec_l29Line.l2, spec_l29Line.g2, c0, c1, cw, and_self, and_true, true_and, decide_true, decide_false, if_true, if_false, mid_get, mid_set, mid_getn, mid_setn, bt_mid, Option.bind_some, Bool.not_true, Bool.not_false, Bool.false_eq_true, Bool.true_eq_false, beq_self_eq_true, bne_self_eq_false, Int.toNat_natCast, e120, this]
theorem impl_readLine_f (s : ByteArray) (h : s.size ≤ 1000000) : impl_readLine.f s = some (lineR rdD s) := by
  have := impl_readLine_l ByteArray.empty 0 (bl s) [] NN (by simp [bl_length]; exact h) (by rw [bl_length]; exact NN_lt (by omega)) (by simp)
  rw [List.nil_append, ob_bl] at this
  exact this
theorem spec_l29Line_f (s : ByteArray) (h : s.size ≤ 1000000) : spec_l29Line.f s = some (lineR rdV s) := by
  have := spec_l29Line_l ByteArray.empty 0 (bl s) [] NN (by simp [bl_length]; exact h) (by rw [bl_length]; exact NN_lt (by omega)) (by simp)
  rw [List.nil_append, ob_bl] at this
  exact this
theorem lineR_rg (rd : ByteArray → Int × Bool) (hrd : ∀ s, Rg .i64 (rd s).1) (s : ByteArray) (h : s.size ≤ 1000000) : OkLine (lineR rd s).1 := by
  have key : ∀ (l a b : List UInt8), cutX l = some (a, b) → b.length ≤ l.length := by
    intro l
    induction l with
    | nil => intro a b h; cases h
    | cons c r ih =>
      intro a b h
      simp only [cutX] at h
      split at h
      · cases h; simp
      · cases hx : cutX r with
        | none => rw [hx] at h; cases h
        | some x => rw [hx] at h; simp at h; have := ih x.1 x.2 hx; rw [h.2] at this; simp; omega
  unfold lineR
  cases hx : cutX (bl s) with
  | none => exact ⟨by show (0 : Nat) ≤ _; omega, wf64.2 (by simp only; omega)⟩
  | some x =>
    obtain ⟨a, b⟩ := x
    have := key _ _ _ hx
    rw [bl_length] at this
    exact ⟨by unfold Sm; rw [ob_size]; omega, hrd _⟩
theorem rdD_rg (s : ByteArray) : Rg .i64 (rdD s).1 := by
  have h0 : Rg .i64 0 := rfl
  have key : ∀ (l : List UInt8) (b : Bool), okDigs l 18 b = true → valL l 0 < 1000000000000000000 := fun l b h => by
    unfold okDigs at h
    simp only [Bool.and_eq_true, decide_eq_true_eq] at h
    have := valL_lt l 0 (List.all_eq_true.1 h.2)
    have h2 := pow_le18 h.1.2.1
    omega
  unfold rdD
  split
  · split
    · rename_i h; have := key _ _ h; exact wf64.2 (by simp only; omega)
    · exact h0
  · split
    · rename_i h; have := key _ _ h; exact wf64.2 (by simp only; omega)
    · exact h0
theorem rdV_rg (s : ByteArray) : Rg .i64 (rdV s).1 := by
  unfold rdV
  split
  · rename_i h
    have h1 := valL_lt (bl s) 0 (List.all_eq_true.1 h.2.2)
    have h2 := pow_le18 (a := (bl s).length) (by rw [bl_length]; omega)
    exact wf64.2 (by simp only; omega)
  · exact rfl
/-- lines read one by one, up to the first that fails -/
def linesR (rd : ByteArray → Int × Bool) : List ByteArray → Option (List (ByteArray × Int))
  | [] => some []
  | s :: r => if (lineR rd s).2 = true then (linesR rd r).map ((lineR rd s).1 :: ·) else none
theorem impl_ReadPaper_l (a : ByteArray) (b : Int) (v : ByteArray) (d : Int) (w2 : List (ByteArray × Int)) (hv : Sm v) (hd : Rg .i64 d) : ∀ (r p : List ByteArray) (out : List (ByteArray × Int)) (k : Nat), p.length + r.length ≤ 100000 → r.length < k → (∀ s ∈ r, s.size ≤ 1000000) → out.length ≤ p.length → (∀ l ∈ out, OkLine l) →
    impl_ReadPaper.l10 NN k (p ++ r) (p ++ r).length p.length a b v d w2 out = some ((linesR rdD r).elim ((ByteArray.empty, 0, []), 6) (fun ls => if paperB (v, d, out ++ ls) = true then ((v, d, out ++ ls), 0) else ((ByteArray.empty, 0, []), 6))) := by
  intro r
  induction r with
  | nil =>
    intro p out k _ hk _ ho hok
    obtain ⟨k, rfl⟩ : ∃ j, k = j + 1 := ⟨k - 1, by omega⟩
    have c1 : ¬ (p.length : Int) < (p.length : Int) := by omega
    have hp : OkPaper (v, d, out) := ⟨hv, hd, by simp only; simp at *; omega, hok⟩
    rw [List.append_nil]
    simp only [impl_ReadPaper.l10, impl_ReadPaper.g10, c1, and_self, and_true, true_and, decide_true, decide_false, if_true, if_false, mid_get, mid_set, mid_getn, mid_setn, bt_mid, Option.bind_some, Bool.not_true, Bool.not_false, Bool.false_eq_true, Bool.true_eq_false, beq_self_eq_true, bne_self_eq_false, Int.toNat_natCast, impl_IsPaper_f _ hp, linesR, Option.elim, List.append_nil]
    cases paperB (v, d, out) <;> rfl
  | cons s r ih =>
    intro p out k hb hk hs ho hok
    simp only [List.length_cons] at hb hk
    obtain ⟨k, rfl⟩ : ∃ j, k = j + 1 := ⟨k - 1, by omega⟩
    have hm := mid_len p r s
    have c0 : (0 : Int) ≤ (p.length : Int) := by omega
    have c1 : (p.length : Int) < ((p ++ s :: r).length : Int) := by omega
    have cw := w64 (n := (p.length : Int) + 1) (by omega) (by omega)
    simp only [impl_ReadPaper.l10, impl_ReadPaper.g10, c0, c1, cw, and_self, and_true, true_and, decide_true, decide_false, if_true, if_false, mid_get, mid_set, mid_getn, mid_setn, bt_mid, Option.bind_some, Bool.not_true, Bool.not_false, Bool.false_eq_true, Bool.true_eq_false, beq_self_eq_true, bne_self_eq_false, Int.toNat_natCast, impl_readLine_f s (hs s (by simp)), linesR]
    cases h2 : (lineR rdD s).2
    · rfl
    · have := ih (p ++ [s]) (out ++ [(lineR rdD s).1]) k (by simp; omega) (by omega) (fun x hx => hs x (by simp [hx])) (by simp; omega) (fun l hl => by
        rcases List.mem_append.1 hl with h | h
        · exact hok l h
        · rw [List.mem_singleton.1 h]; exact lineR_rg rdD rdD_rg s (hs s (by simp)))
      rw [mid_snoc, snoc_len] at this
      simp only [and_self, and_true, true_and, decide_true, decide_false, if_true, if_false, mid_get, mid_set, mid_getn, mid_setn, bt_mid, Option.bind_some, Bool.not_true, Bool.not_false, Bool.false_eq_true, Bool.true_eq_false, beq_self_eq_true, bne_self_eq_false, Int.toNat_natCast]
      rw [if_pos (room24' out _ (by omega)), this]
      cases linesR rdD r <;> simp
theorem spec_ReadPaper_l (a : ByteArray) (b : Int) (v : ByteArray) (d : Int) (w3 : List (ByteArray × Int)) (hv : Sm v) (hd : Rg .i64 d) : ∀ (r p : List ByteArray) (out : List (ByteArray × Int)) (ok : Bool) (k : Nat), p.length + r.length ≤ 1000001 → r.length < k → (∀ s ∈ r, s.size ≤ 1000000) → out.length + 1 ≤ p.length → (∀ l ∈ out, OkLine l) →
    ∃ x, spec_ReadPaper.l8 NN k ok p.length a b (p ++ r) v d w3 out = some x ∧ x = if ok = true then ((linesR rdV r).elim ((ByteArray.empty, 0, []), 6) (fun ls => if paperB (v, d, out ++ ls) = true then ((v, d, out ++ ls), 0) else ((ByteArray.empty, 0, []), 6))) else ((ByteArray.empty, 0, []), 6) := by
  intro r
  induction r with
  | nil =>
    intro p out ok k hb hk _ ho hok
    obtain ⟨k, rfl⟩ : ∃ j, k = j + 1 := ⟨k - 1, by omega⟩
    have c1 : ¬ (p.length : Int) < (p.length : Int) := by omega
    simp only [List.length_nil, Nat.add_zero] at hb
    have hp : OkPaper (v, d, out) := ⟨hv, hd, by simp only; omega, hok⟩
    rw [List.append_nil]
    simp only [spec_ReadPaper.l8, spec_ReadPaper.g8, c1, and_self, and_true, true_and, decide_true, decide_false, if_true, if_false, mid_get, mid_set, mid_getn, mid_setn, bt_mid, Option.bind_some, Bool.not_true, Bool.not_false, Bool.false_eq_true, Bool.true_eq_false, beq_self_eq_true, bne_self_eq_false, Int.toNat_natCast, spec_IsPaper_f _ hp, linesR, Option.elim, List.append_nil]
    cases ok
    · exact ⟨_, rfl, rfl⟩
    · cases paperB (v, d, out) <;> exact ⟨_, rfl, rfl⟩
  | cons s r ih =>
    intro p out ok k hb hk hs ho hok
    simp only [List.length_cons] at hb hk
    obtain ⟨k, rfl⟩ : ∃ j, k = j + 1 := ⟨k - 1, by omega⟩
    have hm := mid_len p r s
    have c0 : (0 : Int) ≤ (p.length : Int) := by omega
    have c1 : (p.length : Int) < ((p ++ s :: r).length : Int) := by omega
    have cw := w64 (n := (p.length : Int) + 1) (by omega) (by omega)
    have key := fun ok' => ih (p ++ [s]) (out ++ [(lineR rdV s).1]) ok' k (by simp; omega) (by omega) (fun x hx => hs x (by simp [hx])) (by simp; omega) (fun l hl => by
        rcases List.mem_append.1 hl with h | h
        · exact hok l h
        · rw [List.mem_singleton.1 h]; exact lineR_rg rdV rdV_rg s (hs s (by simp)))
    simp only [mid_snoc, snoc_len] at key
    have hroom := room24' out (lineR rdV s).1 (by omega)
    simp only [spec_ReadPaper.l8, spec_ReadPaper.g8, c0, c1, cw, and_self, and_true, true_and, decide_true, decide_false, if_true, if_false, mid_get, mid_set, mid_getn, mid_setn, bt_mid, Option.bind_some, Bool.not_true, Bool.not_false, Bool.false_eq_true, Bool.true_eq_false, beq_self_eq_true, bne_self_eq_false, Int.toNat_natCast, spec_l29Line_f s (hs s (by simp)), linesR, hroom]
    cases ok
    · obtain ⟨x, h1, h2⟩ := key false
      exact ⟨x, h1, by rw [h2]; rfl⟩
    · obtain ⟨x, h1, h2⟩ := key (lineR rdV s).2
      refine ⟨x, h1, ?_⟩
      rw [h2]
      cases (lineR rdV s).2
      · rfl
      · simp only [if_true]
        cases linesR rdV r <;> simp
/-- both readers of lines agree on lines that stand -/
theorem linesR_same : ∀ (r : List ByteArray) (ls : List (ByteArray × Int)), (∀ l ∈ ls, lineOk l = true) → (linesR rdD r = some ls ↔ linesR rdV r = some ls) := by
  intro r
  induction r with
  | nil => intro ls _; exact Iff.rfl
  | cons s r ih =>
    intro ls hok
    have hone : ∀ x, lineOk x = true → ((lineR rdD s = (x, true)) ↔ (lineR rdV s = (x, true))) := fun x hx => by
      have hx2 := lineOk_iff.1 hx
      unfold lineR
      cases hc : cutX (bl s) with
      | none => exact Iff.rfl
      | some y =>
        obtain ⟨a, b⟩ := y
        simp only
        constructor
        · intro h
          have h1 : (rdD (ob a)).2 = true := congrArg Prod.snd h
          have h2 : (rdD (ob a)).1 = x.2 := congrArg (fun z => z.1.2) h
          rw [rd_back h1 (by omega) (by omega)]; exact h
        · intro h
          have h1 : (rdV (ob a)).2 = true := congrArg Prod.snd h
          rw [rdV_rdD h1]; exact h
    have hpair : ∀ (y : (ByteArray × Int) × Bool), y.2 = true → y = (y.1, true) := fun y h => Prod.ext rfl h
    simp only [linesR]
    constructor
    · intro h
      split at h
      · rename_i h1
        cases hr : linesR rdD r with
        | none => rw [hr] at h; cases h
        | some ms =>
          rw [hr] at h
          simp only [Option.map_some, Option.some.injEq] at h
          subst h
          have e1 := (hone _ (hok _ (by simp))).1 (hpair _ h1)
          have e2 := (ih ms (fun l hl => hok l (by simp [hl]))).1 hr
          rw [e1, e2]; rfl
      · cases h
    · intro h
      split at h
      · rename_i h1
        cases hr : linesR rdV r with
        | none => rw [hr] at h; cases h
        | some ms =>
          rw [hr] at h
          simp only [Option.map_some, Option.some.injEq] at h
          subst h
          have e1 := (hone _ (hok _ (by simp))).2 (hpair _ h1)
          have e2 := (ih ms (fun l hl => hok l (by simp [hl]))).2 hr
          rw [e1, e2]; rfl
      · cases h
theorem linesR_len (rd : ByteArray → Int × Bool) : ∀ (r : List ByteArray) (ls : List (ByteArray × Int)), linesR rd r = some ls → ls.length = r.length := by
  intro r
  induction r with
  | nil => intro ls h; cases h; rfl
  | cons s r ih =>
    intro ls h
    simp only [linesR] at h
    split at h
    · cases hr : linesR rd r with
      | none => rw [hr] at h; cases h
      | some ms => rw [hr] at h; simp at h; rw [← h]; simp [ih ms hr]
    · cases h
def badP : (ByteArray × Int × List (ByteArray × Int)) × Int := ((ByteArray.empty, 0, []), 6)
/-- what a text's paper is, with one reader of numbers or the other -/
def readP (rd : ByteArray → Int × Bool) (s : ByteArray) : (ByteArray × Int × List (ByteArray × Int)) × Int := match splitL 59 (bl s) with
  | [] => badP
  | x :: xs => match splitL 32 x with
    | [a, b] => if (rd (ob b)).2 = true then (linesR rd (xs.map ob)).elim badP (fun ls => if paperB (ob a, (rd (ob b)).1, ls) = true then ((ob a, (rd (ob b)).1, ls), 0) else badP) else badP
    | _ => badP
theorem paperB_lines {p : ByteArray × Int × List (ByteArray × Int)} (h : paperB p = true) : ∀ l ∈ p.2.2, lineOk l = true := (linesB_ok (paperB_iff h).2.2).2
theorem readP_same (s : ByteArray) : readP rdD s = readP rdV s := by
  have hcases : ∀ rd s, readP rd s = badP ∨ ∃ x xs a b ls, splitL 59 (bl s) = x :: xs ∧ splitL 32 x = [a, b] ∧ (rd (ob b)).2 = true ∧ linesR rd (xs.map ob) = some ls ∧ paperB (ob a, (rd (ob b)).1, ls) = true ∧ readP rd s = ((ob a, (rd (ob b)).1, ls), 0) := by
    intro rd s
    unfold readP
    cases h1 : splitL 59 (bl s) with
    | nil => exact .inl rfl
    | cons x xs =>
      simp only
      split
      · rename_i a b h2
        split
        · rename_i h3
          cases h4 : linesR rd (xs.map ob) with
          | none => exact .inl rfl
          | some ls =>
            simp only [Option.elim]
            split
            · rename_i h5; exact .inr ⟨x, xs, a, b, ls, rfl, h2, h3, h4, h5, rfl⟩
            · exact .inl rfl
        · exact .inl rfl
      · exact .inl rfl
  have hback : ∀ (rd : ByteArray → Int × Bool) (x : List UInt8) (xs : List (List UInt8)) (a b : List UInt8) ls, splitL 59 (bl s) = x :: xs → splitL 32 x = [a, b] → (rd (ob b)).2 = true → linesR rd (xs.map ob) = some ls → paperB (ob a, (rd (ob b)).1, ls) = true → readP rd s = ((ob a, (rd (ob b)).1, ls), 0) := by
    intro rd x xs a b ls h1 h2 h3 h4 h5
    unfold readP
    rw [h1]
    simp only [h2, h3, h4, h5, if_true, Option.elim]
  rcases hcases rdV s with hv | ⟨x, xs, a, b, ls, h1, h2, h3, h4, h5, h6⟩
  · rcases hcases rdD s with hd | ⟨x, xs, a, b, ls, h1, h2, h3, h4, h5, h6⟩
    · rw [hv, hd]
    · have hp := paperB_iff h5
      simp only at hp
      have e : rdV (ob b) = rdD (ob b) := rd_back h3 (by omega) (by omega)
      have := hback rdV x xs a b ls h1 h2 (by rw [e]; exact h3) ((linesR_same _ _ (paperB_lines h5)).1 h4) (by rw [e]; exact h5)
      rw [this, h6, e]
  · have e : rdD (ob b) = rdV (ob b) := rdV_rdD h3
    have := hback rdD x xs a b ls h1 h2 (by rw [e]; exact h3) ((linesR_same _ _ (paperB_lines h5)).2 h4) (by rw [e]; exact h5)
    rw [this, h6, e]
theorem splitL_len1 (b : UInt8) (l : List UInt8) : (splitL b l).length ≤ l.length + 1 := splitL_length b l
theorem impl_ReadPaper_f (s : ByteArray) (h : s.size ≤ 1000000) : impl_ReadPaper.f s = some (readP rdD s) := by
  unfold impl_ReadPaper.f impl_ReadPaper.fn impl_ReadPaper.top readP
  rw [show (59 : Int) = ((59 : UInt8).toNat : Int) from rfl, impl_splitAt_f s 59 h]
  have hsz := splitL_size 59 (bl s)
  rw [bl_length] at hsz
  cases h1 : splitL 59 (bl s) with
  | nil => exact absurd h1 (splitL_ne _ _)
  | cons x xs =>
    rw [h1] at hsz
    have hx := hsz x (by simp)
    have c0 : (0 : Int) < ((x :: xs).map ob).length := by simp only [List.length_map, List.length_cons]; omega
    simp only [and_self, and_true, true_and, decide_true, decide_false, if_true, if_false, mid_get, mid_set, mid_getn, mid_setn, bt_mid, Option.bind_some, Bool.not_true, Bool.not_false, Bool.false_eq_true, Bool.true_eq_false, beq_self_eq_true, bne_self_eq_false, Int.toNat_natCast, Int.le_refl, c0, List.map_cons, Int.toNat_zero, List.getD_cons_zero]
    rw [show (32 : Int) = ((32 : UInt8).toNat : Int) from rfl, impl_splitAt_f (ob x) 32 (by rw [ob_size]; omega), bl_ob]
    have hsz2 := splitL_size 32 x
    have c0' : (0 : Int) < (((xs.map ob).length + 1 : Nat) : Int) := by omega
    match h2 : splitL 32 x with
    | [] => exact absurd h2 (splitL_ne _ _)
    | [a] => simp [badP]
    | [a, b] =>
      rw [h2] at hsz2
      have hb := hsz2 b (by simp)
      have ha := hsz2 a (by simp)
      simp only [Option.bind_some, List.map_cons, List.map_nil, List.length_cons, List.length_nil]
      simp only [show (((0 + 1 + 1 : Nat) : Int) != 2) = false from rfl, and_self, and_true, true_and, decide_true, decide_false, if_true, if_false, mid_get, mid_set, mid_getn, mid_setn, bt_mid, Option.bind_some, Bool.not_true, Bool.not_false, Bool.false_eq_true, Bool.true_eq_false, beq_self_eq_true, bne_self_eq_false, Int.toNat_natCast, c0']
      by_cases h13 : (13 : Int) < ((xs.map ob).length + 1 : Nat)
      · simp only [h13, and_self, and_true, true_and, decide_true, decide_false, if_true, if_false, mid_get, mid_set, mid_getn, mid_setn, bt_mid, Option.bind_some, Bool.not_true, Bool.not_false, Bool.false_eq_true, Bool.true_eq_false, beq_self_eq_true, bne_self_eq_false, Int.toNat_natCast]
        cases hr : (rdD (ob b)).2
        · simp [badP]
        · simp only [if_true]
          cases hls : linesR rdD (xs.map ob) with
          | none => rfl
          | some ls =>
            simp only [Option.elim]
            have hlen := linesR_len _ _ _ hls
            rw [if_neg (fun hp => by
              have := (linesB_ok (paperB_iff hp).2.2).1
              simp only at this
              omega)]; rfl
      · have d1 : (1 : Int) < ((0 + 1 + 1 : Nat) : Int) := by omega
        have d2 : (1 : Int) ≤ (((xs.map ob).length + 1 : Nat) : Int) := by omega
        have d3 : (0 : Int) < ((0 + 1 + 1 : Nat) : Int) := by omega
        simp only [h13, d1, d2, d3, and_self, and_true, true_and, decide_true, decide_false, if_true, if_false, mid_get, mid_set, mid_getn, mid_setn, bt_mid, Option.bind_some, Bool.not_true, Bool.not_false, Bool.false_eq_true, Bool.true_eq_false, beq_self_eq_true, bne_self_eq_false, Int.toNat_natCast, Int.le_refl, show (0 : Int) ≤ 1 from by omega, show (1 : Int).toNat = 1 from rfl, List.getD_cons_succ, List.getD_cons_zero, Int.toNat_zero, List.drop_succ_cons, List.drop_zero]
        rw [impl_readDecimal_f (ob b) (by rw [ob_size]; omega)]
        simp only [Option.bind_some]
        cases hr : (rdD (ob b)).2
        · rfl
        · have := impl_ReadPaper_l ByteArray.empty 0 (ob a) (rdD (ob b)).1 [] (by unfold Sm; rw [ob_size]; omega) (rdD_rg _) (xs.map ob) [] [] NN (by simp only [List.length_nil]; omega) (NN_lt (by omega)) (fun s hs => by
            obtain ⟨y, hy, rfl⟩ := List.mem_map.1 hs
            rw [ob_size]; have := hsz y (by simp [hy]); omega) (by simp) (by simp)
          simp only [List.nil_append, List.length_nil] at this
          simp only [and_self, and_true, true_and, decide_true, decide_false, if_true, if_false, mid_get, mid_set, mid_getn, mid_setn, bt_mid, Option.bind_some, Bool.not_true, Bool.not_false, Bool.false_eq_true, Bool.true_eq_false, beq_self_eq_true, bne_self_eq_false, Int.toNat_natCast]
          rw [show ((0 : Nat) : Int) = 0 from rfl] at this
          exact this
    | a :: b :: c :: r =>
      have : ((((a :: b :: c :: r).map ob).length : Int) != 2) = true := by rw [bne_iff_ne]; simp; omega
      have c9 : (0 : Int) < ((ob x :: List.map ob xs).length : Int) := c0
      simp only [Option.bind_some, this, c9, and_self, and_true, true_and, decide_true, decide_false, if_true, if_false, mid_get, mid_set, mid_getn, mid_setn, bt_mid, Option.bind_some, Bool.not_true, Bool.not_false, Bool.false_eq_true, Bool.true_eq_false, beq_self_eq_true, bne_self_eq_false, Int.toNat_natCast]
      rfl
theorem spec_ReadPaper_f (s : ByteArray) (h : s.size ≤ 1000000) : spec_ReadPaper.f s = some (readP rdV s) := by
  unfold spec_ReadPaper.f spec_ReadPaper.fn spec_ReadPaper.top readP
  rw [show (59 : Int) = ((59 : UInt8).toNat : Int) from rfl, spec_l01Split_f s 59 h]
  have hsz := splitL_size 59 (bl s)
  have hlen := splitL_length 59 (bl s)
  rw [bl_length] at hsz hlen
  cases h1 : splitL 59 (bl s) with
  | nil => exact absurd h1 (splitL_ne _ _)
  | cons x xs =>
    rw [h1] at hsz hlen
    simp only [List.length_cons] at hlen
    have hx := hsz x (by simp)
    have c0 : (0 : Int) < ((x :: xs).map ob).length := by simp only [List.length_map, List.length_cons]; omega
    simp only [and_self, and_true, true_and, decide_true, decide_false, if_true, if_false, mid_get, mid_set, mid_getn, mid_setn, bt_mid, Option.bind_some, Bool.not_true, Bool.not_false, Bool.false_eq_true, Bool.true_eq_false, beq_self_eq_true, bne_self_eq_false, Int.toNat_natCast, Int.le_refl, c0, List.map_cons, Int.toNat_zero, List.getD_cons_zero]
    rw [show (32 : Int) = ((32 : UInt8).toNat : Int) from rfl, spec_l01Split_f (ob x) 32 (by rw [ob_size]; omega), bl_ob]
    have hsz2 := splitL_size 32 x
    have c0' : (0 : Int) < (((xs.map ob).length + 1 : Nat) : Int) := by omega
    match h2 : splitL 32 x with
    | [] => exact absurd h2 (splitL_ne _ _)
    | [a] => simp [badP]
    | [a, b] =>
      rw [h2] at hsz2
      have hb := hsz2 b (by simp)
      have ha := hsz2 a (by simp)
      simp only [Option.bind_some, List.map_cons, List.map_nil, List.length_cons, List.length_nil]
      have d1 : (1 : Int) < ((0 + 1 + 1 : Nat) : Int) := by omega
      have d3 : (0 : Int) < ((0 + 1 + 1 : Nat) : Int) := by omega
      simp only [show (((0 + 1 + 1 : Nat) : Int) != 2) = false from rfl, c0', d1, d3, and_self, and_true, true_and, decide_true, decide_false, if_true, if_false, mid_get, mid_set, mid_getn, mid_setn, bt_mid, Option.bind_some, Bool.not_true, Bool.not_false, Bool.false_eq_true, Bool.true_eq_false, beq_self_eq_true, bne_self_eq_false, Int.toNat_natCast, Int.le_refl, show (0 : Int) ≤ 1 from by omega, show (1 : Int).toNat = 1 from rfl, List.getD_cons_succ, List.getD_cons_zero, Int.toNat_zero]
      rw [spec_l01Value_f (ob b) (by rw [ob_size]; omega)]
      simp only [Option.bind_some]
      obtain ⟨y, e1, e2⟩ := spec_ReadPaper_l ByteArray.empty 0 (ob a) (rdV (ob b)).1 [] (by unfold Sm; rw [ob_size]; omega) (rdV_rg _) (xs.map ob) [ob x] [] (rdV (ob b)).2 NN (by simp only [List.length_cons, List.length_nil, List.length_map]; omega) (NN_lt (by simp; omega)) (fun s hs => by
            obtain ⟨y, hy, rfl⟩ := List.mem_map.1 hs
            rw [ob_size]; have := hsz y (by simp [hy]); omega) (by simp) (by simp)
      simp only [List.nil_append, List.cons_append, List.length_cons, List.length_nil] at e1 e2
      rw [show ((0 + 1 : Nat) : Int) = 1 from rfl] at e1
      rw [e1, e2]; rfl
    | a :: b :: c :: r =>
      have : ((((a :: b :: c :: r).map ob).length : Int) != 2) = true := by rw [bne_iff_ne]; simp; omega
      have c9 : (0 : Int) < ((ob x :: List.map ob xs).length : Int) := c0
      simp only [Option.bind_some, this, c9, and_self, and_true, true_and, decide_true, decide_false, if_true, if_false, mid_get, mid_set, mid_getn, mid_setn, bt_mid, Option.bind_some, Bool.not_true, Bool.not_false, Bool.false_eq_true, Bool.true_eq_false, beq_self_eq_true, bne_self_eq_false, Int.toNat_natCast]
      rfl
theorem readP_ok (s : ByteArray) (h : s.size ≤ 1000000) : OkPaper (readP rdV s).1 := by
  have hb : OkPaper badP.1 := ⟨by show (0 : Nat) ≤ _; omega, rfl, by simp [badP], by simp [badP]⟩
  unfold readP
  split
  · exact hb
  · split
    · split
      · cases linesR rdV _ with
        | none => exact hb
        | some ls =>
          simp only [Option.elim]
          split
          · rename_i hp
            have hp2 := paperB_iff hp
            simp only at hp2
            have hw := wordB_size hp2.1
            have hl := linesB_ok hp2.2.2
            exact ⟨by show ByteArray.size _ ≤ 1000000; simp only; omega, wf64.2 (by simp only; omega), lines_ok (by simp only; omega) hl.2⟩
          · exact hb
      · exact hb
    · exact hb
theorem ReadPaper_core (s : ByteArray) (h : Sm s) : ∃ w, spec_ReadPaper.f s = some w ∧ impl_ReadPaper.f s = some w ∧ OkPaper w.1 :=
  ⟨readP rdV s, spec_ReadPaper_f s h, by rw [impl_ReadPaper_f s h, readP_same], readP_ok s h⟩
end Go.Pl

namespace Go.Pl
open Go.Ev
set_option linter.unusedVariables false
noncomputable section
def impl_paperText.g3 (L3 : ByteArray → (List (ByteArray × Int)) → Int → Int → Option ByteArray) (out3 : ByteArray) (v14 : List (ByteArray × Int)) (v15 : Int) (v16 : Int) : Option ByteArray :=
  if (decide ((v16 : Int) < v15)) = true then
    if (0 : Int) ≤ v16 ∧ (v16 : Int) < v14.length then
      (impl_decimal.f ((v14.getD (v16 : Int).toNat (ByteArray.empty, 0)).2)).bind fun r2 =>
      if (⟨#[59]⟩ : ByteArray).size + r2.size ≤ 9223372036854775807 then
        if ((⟨#[59]⟩ : ByteArray) ++ r2).size + (⟨#[120]⟩ : ByteArray).size ≤ 9223372036854775807 then
          if (((⟨#[59]⟩ : ByteArray) ++ r2) ++ (⟨#[120]⟩ : ByteArray)).size + ((v14.getD (v16 : Int).toNat (ByteArray.empty, 0)).1).size ≤ 9223372036854775807 then
            if out3.size + ((((⟨#[59]⟩ : ByteArray) ++ r2) ++ (⟨#[120]⟩ : ByteArray)) ++ ((v14.getD (v16 : Int).toNat (ByteArray.empty, 0)).1)).size ≤ 9223372036854775807 then
              L3 (out3 ++ ((((⟨#[59]⟩ : ByteArray) ++ r2) ++ (⟨#[120]⟩ : ByteArray)) ++ ((v14.getD (v16 : Int).toNat (ByteArray.empty, 0)).1))) v14 v15 (IntKind.i64.wrap (v16 + 1))
            else
              none
          else
            none
        else
          none
      else
        none
    else
      none
  else
    some out3
def impl_paperText.l3 (n : Nat) : Nat → ByteArray → (List (ByteArray × Int)) → Int → Int → Option ByteArray
  | 0 => fun _ _ _ _ => none
  | k + 1 => impl_paperText.g3 (impl_paperText.l3 n k)
def impl_paperText.top (I3 : ByteArray → (List (ByteArray × Int)) → Int → Int → Option ByteArray) (p0 : ByteArray × Int × List (ByteArray × Int)) : Option ByteArray :=
  if p0.1.size + (⟨#[32]⟩ : ByteArray).size ≤ 9223372036854775807 then
    (impl_decimal.f p0.2.1).bind fun r1 =>
    if (p0.1 ++ (⟨#[32]⟩ : ByteArray)).size + r1.size ≤ 9223372036854775807 then
      I3 ((p0.1 ++ (⟨#[32]⟩ : ByteArray)) ++ r1) p0.2.2 (p0.2.2.length : Int) 0
    else
      none
  else
    none
def impl_paperText.fn (n : Nat) (p0 : ByteArray × Int × List (ByteArray × Int)) : Option ByteArray := impl_paperText.top (impl_paperText.l3 n n) p0
def impl_paperText.f (p0 : ByteArray × Int × List (ByteArray × Int)) : Option ByteArray := impl_paperText.fn NN p0
end
end Go.Pl

namespace Go.Pl
open Go.Ev
set_option linter.unusedVariables false
noncomputable section
def spec_l29Text.g3 (L3 : ByteArray → Int → (ByteArray × Int × List (ByteArray × Int)) → Option ByteArray) (out3 : ByteArray) (i4 : Int) (p1 : ByteArray × Int × List (ByteArray × Int)) : Option ByteArray :=
  if (decide ((i4 : Int) < (p1.2.2.length : Int))) = true then
    if out3.size + (⟨#[59]⟩ : ByteArray).size ≤ 9223372036854775807 then
      if (0 : Int) ≤ i4 ∧ (i4 : Int) < p1.2.2.length then
        if (0 : Int) ≤ i4 ∧ (i4 : Int) < p1.2.2.length then
          (spec_l01Dec.f ((p1.2.2.getD (i4 : Int).toNat (ByteArray.empty, 0)).2)).bind fun r2 =>
          if (out3 ++ (⟨#[59]⟩ : ByteArray)).size + r2.size ≤ 9223372036854775807 then
            if ((out3 ++ (⟨#[59]⟩ : ByteArray)) ++ r2).size + (⟨#[120]⟩ : ByteArray).size ≤ 9223372036854775807 then
              if (((out3 ++ (⟨#[59]⟩ : ByteArray)) ++ r2) ++ (⟨#[120]⟩ : ByteArray)).size + ((p1.2.2.getD (i4 : Int).toNat (ByteArray.empty, 0)).1).size ≤ 9223372036854775807 then
                L3 ((((out3 ++ (⟨#[59]⟩ : ByteArray)) ++ r2) ++ (⟨#[120]⟩ : ByteArray)) ++ ((p1.2.2.getD (i4 : Int).toNat (ByteArray.empty, 0)).1)) (IntKind.i64.wrap (i4 + 1)) p1
              else
                none
            else
              none
          else
            none
        else
          none
      else
        none
    else
      none
  else
    some out3
def spec_l29Text.l3 (n : Nat) : Nat → ByteArray → Int → (ByteArray × Int × List (ByteArray × Int)) → Option ByteArray
  | 0 => fun _ _ _ => none
  | k + 1 => spec_l29Text.g3 (spec_l29Text.l3 n k)
def spec_l29Text.top (I3 : ByteArray → Int → (ByteArray × Int × List (ByteArray × Int)) → Option ByteArray) (p0 : ByteArray × Int × List (ByteArray × Int)) : Option ByteArray :=
  if p0.1.size + (⟨#[32]⟩ : ByteArray).size ≤ 9223372036854775807 then
    (spec_l01Dec.f p0.2.1).bind fun r1 =>
    if (p0.1 ++ (⟨#[32]⟩ : ByteArray)).size + r1.size ≤ 9223372036854775807 then
      I3 ((p0.1 ++ (⟨#[32]⟩ : ByteArray)) ++ r1) 0 p0
    else
      none
  else
    none
def spec_l29Text.fn (n : Nat) (p0 : ByteArray × Int × List (ByteArray × Int)) : Option ByteArray := spec_l29Text.top (spec_l29Text.l3 n n) p0
def spec_l29Text.f (p0 : ByteArray × Int × List (ByteArray × Int)) : Option ByteArray := spec_l29Text.fn NN p0
end
end Go.Pl

namespace Go.Pl
open Go.Ev
set_option linter.unusedVariables false
noncomputable section
def impl_PaperText.top (p0 : ByteArray × Int × List (ByteArray × Int)) : Option (ByteArray × Int) :=
  (impl_IsPaper.f p0).bind fun r1 =>
  if (!r1) = true then
    some ((⟨#[]⟩ : ByteArray), 1)
  else
    (impl_paperText.f p0).bind fun r2 =>
    some (r2, 0)
def impl_PaperText.fn (n : Nat) (p0 : ByteArray × Int × List (ByteArray × Int)) : Option (ByteArray × Int) := impl_PaperText.top p0
def impl_PaperText.f (p0 : ByteArray × Int × List (ByteArray × Int)) : Option (ByteArray × Int) := impl_PaperText.fn NN p0
end
end Go.Pl

namespace Go.Pl
open Go.Ev
set_option linter.unusedVariables false
noncomputable section
def spec_PaperText.top (p0 : ByteArray × Int × List (ByteArray × Int)) : Option (ByteArray × Int) :=
  (spec_IsPaper.f p0).bind fun r1 =>
  if (!r1) = true then
    some ((⟨#[]⟩ : ByteArray), 1)
  else
    (spec_l29Text.f p0).bind fun r2 =>
    some (r2, 0)
def spec_PaperText.fn (n : Nat) (p0 : ByteArray × Int × List (ByteArray × Int)) : Option (ByteArray × Int) := spec_PaperText.top p0
def spec_PaperText.f (p0 : ByteArray × Int × List (ByteArray × Int)) : Option (ByteArray × Int) := spec_PaperText.fn NN p0
end
end Go.Pl

namespace Go.Pl
open Go.Ev
set_option linter.unusedVariables false
set_option linter.unusedSimpArgs false
def lnT (l : ByteArray × Int) : List UInt8 := digs l.2.toNat ++ 120 :: bl l.1
def hdT (p : ByteArray × Int × List (ByteArray × Int)) : List UInt8 := bl p.1 ++ 32 :: digs p.2.1.toNat
def lnF (st : ByteArray) (l : ByteArray × Int) : ByteArray := st ++ ob (59 :: lnT l)
def txT (p : ByteArray × Int × List (ByteArray × Int)) : ByteArray := p.2.2.foldl lnF (ob (hdT p))
theorem joinL_flat (b : UInt8) : ∀ (xs : List (List UInt8)) (x : List UInt8), joinL [b] (x :: xs) = x ++ xs.flatMap (fun r => b :: r) := by
  intro xs
  induction xs with
  | nil => intro x; simp [joinL]
  | cons y ys ih => intro x; rw [joinL_cons [b] x (by simp), ih]; simp
theorem txT_bl (p : ByteArray × Int × List (ByteArray × Int)) : bl (txT p) = joinL [59] (hdT p :: p.2.2.map lnT) := by
  have key : ∀ (ls : List (ByteArray × Int)) (st : ByteArray), bl (ls.foldl lnF st) = bl st ++ (ls.map lnT).flatMap (fun r => 59 :: r) := by
    intro ls
    induction ls with
    | nil => intro st; simp
    | cons l ls ih => intro st; rw [List.foldl_cons, ih]; unfold lnF; rw [bl_append, bl_ob]; simp
  unfold txT
  rw [key, bl_ob, joinL_flat]
/-- a paper of which the text is small -/
def TxOk (p : ByteArray × Int × List (ByteArray × Int)) : Prop := p.1.size ≤ 1000 ∧ (0 ≤ p.2.1 ∧ p.2.1 ≤ 1000000) ∧ p.2.2.length ≤ 100 ∧ ∀ l ∈ p.2.2, l.1.size ≤ 1000 ∧ 0 ≤ l.2 ∧ l.2 ≤ 1000000
theorem digs_sz {n : Int} (h0 : 0 ≤ n) (h1 : n ≤ 1000000) : (decB n).size ≤ 20 := decB_size (by omega) (by omega)
theorem dec_nn {n : Int} (h0 : 0 ≤ n) : decB n = ob (digs n.toNat) := by unfold decB; rw [if_neg (by omega)]
theorem impl_dec' {n : Int} (h0 : 0 ≤ n) (h : n ≤ 1000000) : impl_decimal.f n = some (decB n) := impl_decimal_f (by omega) (by omega)
theorem spec_dec' {n : Int} (h0 : 0 ≤ n) (h : n ≤ 1000000) : spec_l01Dec.f n = some (decB n) := spec_l01Dec_f (by omega) (by omega)
noncomputable def impl_text_call (k : Nat) (p : ByteArray × Int × List (ByteArray × Int)) (i : Int) (st : ByteArray) := impl_paperText.l3 NN k st p.2.2 p.2.2.length i
noncomputable def spec_text_call (k : Nat) (p : ByteArray × Int × List (ByteArray × Int)) (i : Int) (st : ByteArray) := spec_l29Text.l3 NN k st i p
theorem impl_paperText_f (p : ByteArray × Int × List (ByteArray × Int)) (h : TxOk p) : impl_paperText.f p = some (txT p) ∧ (txT p).size ≤ 1000000 := by
  obtain ⟨v, d, ls⟩ := p
  obtain ⟨h1, h2, h3, h4⟩ := h
  simp only at h1 h2 h3 h4
  have z1 : (⟨#[32]⟩ : ByteArray).size = 1 := rfl
  have z2 : (⟨#[59]⟩ : ByteArray).size = 1 := rfl
  have z3 : (⟨#[120]⟩ : ByteArray).size = 1 := rfl
  have hd := digs_sz h2.1 h2.2
  have hst : (v ++ (⟨#[32]⟩ : ByteArray)) ++ decB d = ob (hdT (v, d, ls)) := by
    rw [dec_nn h2.1]
    apply bl_inj
    unfold hdT
    simp [bl_append, bl_lit, bl_ob]
  have hsz : (ob (hdT (v, d, ls))).size ≤ 1100 := by rw [← hst, ByteArray.size_append, ByteArray.size_append, z1]; omega
  have := fold_fix (E := fun l : ByteArray × Int => l.1.size ≤ 1000 ∧ 0 ≤ l.2 ∧ l.2 ≤ 1000000) (fun p st => st.size ≤ 2000 * (p.length + 1)) (fun _ => lnF) some (fun k i st => impl_text_call k (v, d, ls) i st) ls ?_ ?_ (ob (hdT (v, d, ls))) h4 (by simp only [List.length_nil]; omega) (by omega) NN (NN_lt (by omega))
  · rw [foldi_foldl] at this
    refine ⟨?_, ?_⟩
    · unfold impl_paperText.f impl_paperText.fn impl_paperText.top
      simp only [impl_dec' h2.1 h2.2, Option.bind_some]
      rw [if_pos (by omega), if_pos (by rw [ByteArray.size_append]; omega), hst]
      exact this.2
    · have h5 := this.1
      show (ls.foldl lnF (ob (hdT (v, d, ls)))).size ≤ 1000000
      omega
  · intro k st _
    simp [impl_text_call, impl_paperText.l3, impl_paperText.g3]
  · intro k q l r st hls hle hI c0 c1 c2 cw g
    have hld := digs_sz hle.2.1 hle.2.2
    have hq : q.length ≤ 100 := by omega
    have e : lnF st l = st ++ (((⟨#[59]⟩ : ByteArray) ++ decB l.2) ++ (⟨#[120]⟩ : ByteArray) ++ l.1) := by
      rw [dec_nn hle.2.1]
      apply bl_inj
      unfold lnF lnT
      simp [bl_append, bl_lit, bl_ob]
    have e2 : lnF st l = ((st ++ (⟨#[59]⟩ : ByteArray)) ++ decB l.2) ++ (⟨#[120]⟩ : ByteArray) ++ l.1 := by
      rw [e]
      apply bl_inj
      simp [bl_append]
    refine ⟨?_, ?_⟩
    · rw [e]
      simp only [ByteArray.size_append, z2, z3, List.length_append, List.length_singleton]
      omega
    · simp only [impl_text_call, impl_paperText.l3, impl_paperText.g3, c0, c1, cw, g, and_self, and_true, true_and, decide_true, decide_false, if_true, if_false, mid_get, mid_set, mid_getn, mid_setn, bt_mid, Option.bind_some, Bool.not_true, Bool.not_false, Bool.false_eq_true, Bool.true_eq_false, beq_self_eq_true, bne_self_eq_false, Int.toNat_natCast, impl_dec' hle.2.1 hle.2.2]
      have q1 : (⟨#[59]⟩ : ByteArray).size + (decB l.2).size ≤ 9223372036854775807 := by omega
      have q2 : ((⟨#[59]⟩ : ByteArray) ++ decB l.2).size + (⟨#[120]⟩ : ByteArray).size ≤ 9223372036854775807 := by rw [ByteArray.size_append]; omega
      have q3 : (((⟨#[59]⟩ : ByteArray) ++ decB l.2) ++ (⟨#[120]⟩ : ByteArray)).size + l.1.size ≤ 9223372036854775807 := by simp only [ByteArray.size_append]; omega
      have q4 : st.size + ((((⟨#[59]⟩ : ByteArray) ++ decB l.2) ++ (⟨#[120]⟩ : ByteArray)) ++ l.1).size ≤ 9223372036854775807 := by simp only [ByteArray.size_append]; omega
      have p1 : st.size + (⟨#[59]⟩ : ByteArray).size ≤ 9223372036854775807 := by omega
      have p2 : (st ++ (⟨#[59]⟩ : ByteArray)).size + (decB l.2).size ≤ 9223372036854775807 := by rw [ByteArray.size_append]; omega
      have p3 : ((st ++ (⟨#[59]⟩ : ByteArray)) ++ decB l.2).size + (⟨#[120]⟩ : ByteArray).size ≤ 9223372036854775807 := by simp only [ByteArray.size_append]; omega
      have p4 : (((st ++ (⟨#[59]⟩ : ByteArray)) ++ decB l.2) ++ (⟨#[120]⟩ : ByteArray)).size + l.1.size ≤ 9223372036854775807 := by simp only [ByteArray.size_append]; omega
      first
        | (rw [e]; simp only [q1, q2, q3, q4, if_true])
        | (rw [e2]; simp only [p1, p2, p3, p4, if_true])
theorem spec_l29Text_f (p : ByteArray × Int × List (ByteArray × Int)) (h : TxOk p) : spec_l29Text.f p = some (txT p) ∧ (txT p).size ≤ 1000000 := by
  obtain ⟨v, d, ls⟩ := p
  obtain ⟨h1, h2, h3, h4⟩ := h
  simp only at h1 h2 h3 h4
  have z1 : (⟨#[32]⟩ : ByteArray).size = 1 := rfl
  have z2 : (⟨#[59]⟩ : ByteArray).size = 1 := rfl
  have z3 : (⟨#[120]⟩ : ByteArray).size = 1 := rfl
  have hd := digs_sz h2.1 h2.2
  have hst : (v ++ (⟨#[32]⟩ : ByteArray)) ++ decB d = ob (hdT (v, d, ls)) := by
    rw [dec_nn h2.1]
    apply bl_inj
    unfold hdT
    simp [bl_append, bl_lit, bl_ob]
  have hsz : (ob (hdT (v, d, ls))).size ≤ 1100 := by rw [← hst, ByteArray.size_append, ByteArray.size_append, z1]; omega
  have := fold_fix (E := fun l : ByteArray × Int => l.1.size ≤ 1000 ∧ 0 ≤ l.2 ∧ l.2 ≤ 1000000) (fun p st => st.size ≤ 2000 * (p.length + 1)) (fun _ => lnF) some (fun k i st => spec_text_call k (v, d, ls) i st) ls ?_ ?_ (ob (hdT (v, d, ls))) h4 (by simp only [List.length_nil]; omega) (by omega) NN (NN_lt (by omega))
  · rw [foldi_foldl] at this
    refine ⟨?_, ?_⟩
    · unfold spec_l29Text.f spec_l29Text.fn spec_l29Text.top
      simp only [spec_dec' h2.1 h2.2, Option.bind_some]
      rw [if_pos (by omega), if_pos (by rw [ByteArray.size_append]; omega), hst]
      exact this.2
    · have h5 := this.1
      show (ls.foldl lnF (ob (hdT (v, d, ls)))).size ≤ 1000000
      omega
  · intro k st _
    simp [spec_text_call, spec_l29Text.l3, spec_l29Text.g3]
  · intro k q l r st hls hle hI c0 c1 c2 cw g
    have hld := digs_sz hle.2.1 hle.2.2
    have hq : q.length ≤ 100 := by omega
    have e : lnF st l = st ++ (((⟨#[59]⟩ : ByteArray) ++ decB l.2) ++ (⟨#[120]⟩ : ByteArray) ++ l.1) := by
      rw [dec_nn hle.2.1]
      apply bl_inj
      unfold lnF lnT
      simp [bl_append, bl_lit, bl_ob]
    have e2 : lnF st l = ((st ++ (⟨#[59]⟩ : ByteArray)) ++ decB l.2) ++ (⟨#[120]⟩ : ByteArray) ++ l.1 := by
      rw [e]
      apply bl_inj
      simp [bl_append]
    refine ⟨?_, ?_⟩
    · rw [e]
      simp only [ByteArray.size_append, z2, z3, List.length_append, List.length_singleton]
      omega
    · simp only [spec_text_call, spec_l29Text.l3, spec_l29Text.g3, c0, c1, cw, g, and_self, and_true, true_and, decide_true, decide_false, if_true, if_false, mid_get, mid_set, mid_getn, mid_setn, bt_mid, Option.bind_some, Bool.not_true, Bool.not_false, Bool.false_eq_true, Bool.true_eq_false, beq_self_eq_true, bne_self_eq_false, Int.toNat_natCast, spec_dec' hle.2.1 hle.2.2]
      have q1 : (⟨#[59]⟩ : ByteArray).size + (decB l.2).size ≤ 9223372036854775807 := by omega
      have q2 : ((⟨#[59]⟩ : ByteArray) ++ decB l.2).size + (⟨#[120]⟩ : ByteArray).size ≤ 9223372036854775807 := by rw [ByteArray.size_append]; omega
      have q3 : (((⟨#[59]⟩ : ByteArray) ++ decB l.2) ++ (⟨#[120]⟩ : ByteArray)).size + l.1.size ≤ 9223372036854775807 := by simp only [ByteArray.size_append]; omega
      have q4 : st.size + ((((⟨#[59]⟩ : ByteArray) ++ decB l.2) ++ (⟨#[120]⟩ : ByteArray)) ++ l.1).size ≤ 9223372036854775807 := by simp only [ByteArray.size_append]; omega
      have p1 : st.size + (⟨#[59]⟩ : ByteArray).size ≤ 9223372036854775807 := by omega
      have p2 : (st ++ (⟨#[59]⟩ : ByteArray)).size + (decB l.2).size ≤ 9223372036854775807 := by rw [ByteArray.size_append]; omega
      have p3 : ((st ++ (⟨#[59]⟩ : ByteArray)) ++ decB l.2).size + (⟨#[120]⟩ : ByteArray).size ≤ 9223372036854775807 := by simp only [ByteArray.size_append]; omega
      have p4 : (((st ++ (⟨#[59]⟩ : ByteArray)) ++ decB l.2) ++ (⟨#[120]⟩ : ByteArray)).size + l.1.size ≤ 9223372036854775807 := by simp only [ByteArray.size_append]; omega
      first
        | (rw [e]; simp only [q1, q2, q3, q4, if_true])
        | (rw [e2]; simp only [p1, p2, p3, p4, if_true])
theorem paper_tx {p : ByteArray × Int × List (ByteArray × Int)} (h : paperB p = true) : TxOk p := by
  obtain ⟨h1, h2, h3⟩ := paperB_iff h
  obtain ⟨h4, h5⟩ := linesB_ok h3
  have := wordB_size h1
  refine ⟨by omega, by omega, by omega, fun l hl => ?_⟩
  have h6 := lineOk_iff.1 (h5 l hl)
  have := wordB_size h6.1
  omega
def textR (p : ByteArray × Int × List (ByteArray × Int)) : ByteArray × Int := if paperB p = true then (txT p, 0) else (⟨#[]⟩, 1)
theorem PaperText_both (p : ByteArray × Int × List (ByteArray × Int)) (hp : OkPaper p) : impl_PaperText.f p = some (textR p) ∧ spec_PaperText.f p = some (textR p) := by
  unfold impl_PaperText.f impl_PaperText.fn impl_PaperText.top spec_PaperText.f spec_PaperText.fn spec_PaperText.top textR
  rw [impl_IsPaper_f p hp, spec_IsPaper_f p hp]
  cases hb : paperB p
  · exact ⟨rfl, rfl⟩
  · simp only [Option.bind_some, Bool.not_true, Bool.false_eq_true, if_false, if_true, (impl_paperText_f p (paper_tx hb)).1, (spec_l29Text_f p (paper_tx hb)).1, and_self]
theorem word_in {s : ByteArray} (h : wordB s = true) : ∀ c ∈ bl s, 97 ≤ c.toNat ∧ c.toNat ≤ 122 := by
  unfold wordB at h
  simp only [Bool.and_eq_true, decide_eq_true_eq] at h
  intro c hc
  have := List.all_eq_true.1 h.2 c hc
  unfold letB at this
  simp at this
  omega
theorem nin {n : Nat} (hn : n < 256) {l : List UInt8} (h : ∀ c ∈ l, c.toNat ≠ n) : UInt8.ofNat n ∉ l := fun hm => h _ hm (Nat.mod_eq_of_lt hn)
theorem digs_in (n : Nat) : ∀ c ∈ digs n, 48 ≤ c.toNat ∧ c.toNat ≤ 57 := fun c hc => isDig_iff.1 (digs_digits n c hc)
theorem rdV_digs {n : Int} (h0 : 0 ≤ n) (h1 : n ≤ 1000000) : rdV (ob (digs n.toNat)) = (n, true) := by
  have hl := digs_len 6 n.toNat (by omega)
  unfold rdV
  rw [bl_ob, ob_size, digs_val, if_pos ⟨hl.2, by omega, List.all_eq_true.2 (digs_digits _)⟩, Int.toNat_of_nonneg h0, decide_eq_true rfl]
theorem cutX_none : ∀ (p : List UInt8), (120 : UInt8) ∉ p → ∀ r, cutX (p ++ 120 :: r) = some (p, r) := by
  intro p h r
  rw [cutX_app p h]
  simp [cutX]
theorem lineR_lnT {l : ByteArray × Int} (h : lineOk l = true) : lineR rdV (ob (lnT l)) = (l, true) := by
  have hl := lineOk_iff.1 h
  unfold lineR lnT
  rw [bl_ob, cutX_none _ (nin (n := 120) (by omega) (fun c hc => by have := digs_in _ c hc; omega))]
  simp only [rdV_digs (show 0 ≤ l.2 by omega) (by omega), ob_bl]
theorem linesR_map : ∀ (ls : List (ByteArray × Int)), (∀ l ∈ ls, lineOk l = true) → linesR rdV ((ls.map lnT).map ob) = some ls := by
  intro ls
  induction ls with
  | nil => intro _; rfl
  | cons l ls ih =>
    intro h
    simp only [List.map_cons, linesR, lineR_lnT (h l (by simp)), if_true, ih (fun x hx => h x (by simp [hx])), Option.map_some]
theorem lnT_59 {l : ByteArray × Int} (h : lineOk l = true) : (59 : UInt8) ∉ lnT l := by
  have hl := lineOk_iff.1 h
  refine nin (n := 59) (by omega) (fun c hc => ?_)
  unfold lnT at hc
  rcases List.mem_append.1 hc with hc | hc
  · have := digs_in _ c hc; omega
  · rcases List.mem_cons.1 hc with rfl | hc
    · decide
    · have := word_in hl.1 c hc; omega
theorem read_text {p : ByteArray × Int × List (ByteArray × Int)} (h : paperB p = true) : readP rdV (txT p) = (p, 0) := by
  obtain ⟨h1, h2, h3⟩ := paperB_iff h
  obtain ⟨h4, h5⟩ := linesB_ok h3
  have e1 : splitL 59 (bl (txT p)) = hdT p :: p.2.2.map lnT := by
    rw [txT_bl]
    refine splitL_joinL 59 _ (by simp) (fun x hx => ?_)
    rcases List.mem_cons.1 hx with rfl | hx
    · refine nin (n := 59) (by omega) (fun c hc => ?_)
      unfold hdT at hc
      rcases List.mem_append.1 hc with hc | hc
      · have := word_in h1 c hc; omega
      · rcases List.mem_cons.1 hc with rfl | hc
        · decide
        · have := digs_in _ c hc; omega
    · obtain ⟨l, hl, rfl⟩ := List.mem_map.1 hx
      exact lnT_59 (h5 l hl)
  have e2 : splitL 32 (hdT p) = [bl p.1, digs p.2.1.toNat] := by
    have : hdT p = joinL [32] [bl p.1, digs p.2.1.toNat] := by simp [hdT, joinL]
    rw [this]
    refine splitL_joinL 32 _ (by simp) (fun x hx => ?_)
    simp only [List.mem_cons, List.not_mem_nil, or_false] at hx
    rcases hx with rfl | rfl
    · exact nin (n := 32) (by omega) (fun c hc => by have := word_in h1 c hc; omega)
    · exact nin (n := 32) (by omega) (fun c hc => by have := digs_in _ c hc; omega)
  have e3 : rdV (ob (digs p.2.1.toNat)) = (p.2.1, true) := rdV_digs h2.1 (by omega)
  unfold readP
  rw [e1]
  simp only [e2, e3, if_true, linesR_map _ h5, Option.elim_some, ob_bl]
  rw [if_pos h]
theorem rdV_true {s : ByteArray} (h : (rdV s).2 = true) : 0 ≤ (rdV s).1 ∧ digs (rdV s).1.toNat = bl s := by
  unfold rdV at h ⊢
  split at h
  · rename_i hc
    rw [if_pos hc]
    simp only [decide_eq_true_eq] at h
    exact ⟨by simp only; omega, by simp only [Int.toNat_natCast]; exact h⟩
  · cases h
theorem cutX_some : ∀ (s a b : List UInt8), cutX s = some (a, b) → s = a ++ 120 :: b := by
  intro s
  induction s with
  | nil => intro a b h; cases h
  | cons c r ih =>
    intro a b h
    simp only [cutX] at h
    split at h
    · rename_i hc
      simp only [Option.some.injEq, Prod.mk.injEq] at h
      obtain ⟨rfl, rfl⟩ := h
      rw [hc]; rfl
    · cases hr : cutX r with
      | none => rw [hr] at h; cases h
      | some x =>
        rw [hr] at h
        simp only [Option.map_some, Option.some.injEq, Prod.mk.injEq] at h
        obtain ⟨rfl, rfl⟩ := h
        rw [ih x.1 x.2 hr]; rfl
theorem lineR_true {s : ByteArray} (h : (lineR rdV s).2 = true) : lnT (lineR rdV s).1 = bl s := by
  unfold lineR at h ⊢
  cases hc : cutX (bl s) with
  | none => rw [hc] at h; cases h
  | some x =>
    rw [hc] at h
    obtain ⟨a, b⟩ := x
    simp only at h ⊢
    have h2 := (rdV_true h).2
    rw [bl_ob] at h2
    unfold lnT
    simp only
    rw [h2, bl_ob, cutX_some _ _ _ hc]
theorem linesR_some : ∀ (xs : List (List UInt8)) (ls : List (ByteArray × Int)), linesR rdV (xs.map ob) = some ls → ls.map lnT = xs := by
  intro xs
  induction xs with
  | nil =>
    intro ls h
    simp only [List.map_nil, linesR, Option.some.injEq] at h
    rw [← h]; rfl
  | cons x xs ih =>
    intro ls h
    simp only [List.map_cons, linesR] at h
    split at h
    · rename_i hl
      cases hr : linesR rdV (xs.map ob) with
      | none => rw [hr] at h; cases h
      | some ms =>
        rw [hr] at h
        simp only [Option.map_some, Option.some.injEq] at h
        rw [← h, List.map_cons, ih ms hr, lineR_true hl, bl_ob]
    · cases h
theorem text_read {s : ByteArray} (h : (readP rdV s).2 = 0) : paperB (readP rdV s).1 = true ∧ txT (readP rdV s).1 = s := by
  unfold readP at h ⊢
  cases h1 : splitL 59 (bl s) with
  | nil => rw [h1] at h; simp [badP] at h
  | cons x xs =>
    rw [h1] at h
    simp only at h ⊢
    split at h
    · rename_i a b h2
      by_cases h3 : (rdV (ob b)).2 = true
      · rw [if_pos h3] at h ⊢
        cases h4 : linesR rdV (xs.map ob) with
        | none => rw [h4] at h; simp [badP] at h
        | some ls =>
          rw [h4] at h
          simp only [Option.elim_some] at h ⊢
          by_cases h5 : paperB (ob a, (rdV (ob b)).1, ls) = true
          · rw [if_pos h5]
            refine ⟨h5, ?_⟩
            apply bl_inj
            have e1 := (rdV_true h3).2
            rw [bl_ob] at e1
            have e2 : hdT (ob a, (rdV (ob b)).1, ls) = x := by
              unfold hdT
              simp only [bl_ob, e1]
              have := joinL_splitL 32 x
              rw [h2] at this
              rw [← this]; simp [joinL]
            rw [txT_bl, e2, linesR_some xs ls h4, ← h1, joinL_splitL]
          · rw [if_neg h5] at h; simp [badP] at h
      · rw [if_neg h3] at h; simp [badP] at h
    · simp [badP] at h
end Go.Pl

namespace Go.Pl
open Go.Ev
set_option linter.unusedVariables false
noncomputable section
def impl_totalsOf.g3 (L3 : ByteArray → (List (Int × ByteArray × Int)) → Int → Int → List Int → Option (List Int)) (article1 : ByteArray) (v9 : List (Int × ByteArray × Int)) (v10 : Int) (v11 : Int) (out5 : List Int) : Option (List Int) :=
  if (decide ((v11 : Int) < v10)) = true then
    if (0 : Int) ≤ v11 ∧ (v11 : Int) < v9.length then
      if ((((v9.getD (v11 : Int).toNat (0, (ByteArray.empty, 0))).2).1).toList == article1.toList) = true then
        if (0 : Int) ≤ ((v9.getD (v11 : Int).toNat (0, (ByteArray.empty, 0))).1) ∧ (((v9.getD (v11 : Int).toNat (0, (ByteArray.empty, 0))).1) : Int) < out5.length then
          if (0 : Int) ≤ ((v9.getD (v11 : Int).toNat (0, (ByteArray.empty, 0))).1) ∧ (((v9.getD (v11 : Int).toNat (0, (ByteArray.empty, 0))).1) : Int) < out5.length then
            L3 article1 v9 v10 (IntKind.i64.wrap (v11 + 1)) (out5.set (((v9.getD (v11 : Int).toNat (0, (ByteArray.empty, 0))).1) : Int).toNat (IntKind.i64.wrap ((out5.getD (((v9.getD (v11 : Int).toNat (0, (ByteArray.empty, 0))).1) : Int).toNat 0) + (((v9.getD (v11 : Int).toNat (0, (ByteArray.empty, 0))).2).2))))
          else
            none
        else
          none
      else
        L3 article1 v9 v10 (IntKind.i64.wrap (v11 + 1)) out5
    else
      none
  else
    some out5
def impl_totalsOf.l3 (n : Nat) : Nat → ByteArray → (List (Int × ByteArray × Int)) → Int → Int → List Int → Option (List Int)
  | 0 => fun _ _ _ _ _ => none
  | k + 1 => impl_totalsOf.g3 (impl_totalsOf.l3 n k)
def impl_totalsOf.top (I3 : ByteArray → (List (Int × ByteArray × Int)) → Int → Int → List Int → Option (List Int)) (list0 : List (Int × ByteArray × Int)) (article1 : ByteArray) : Option (List Int) :=
  @ite _ ((0 : Int) ≤ 4 ∧ (4 : Int) < room 8 ∧ (4 : Int) = 4) (Classical.propDecidable _) (
    I3 article1 list0 (list0.length : Int) 0 (List.replicate (4 : Int).toNat 0)
  ) (
    none
  )
def impl_totalsOf.fn (n : Nat) (list0 : List (Int × ByteArray × Int)) (article1 : ByteArray) : Option (List Int) := impl_totalsOf.top (impl_totalsOf.l3 n n) list0 article1
def impl_totalsOf.f (list0 : List (Int × ByteArray × Int)) (article1 : ByteArray) : Option (List Int) := impl_totalsOf.fn NN list0 article1
end
end Go.Pl

namespace Go.Pl
open Go.Ev
set_option linter.unusedVariables false
noncomputable section
def impl_piecesLeft.top (list0 : List (Int × ByteArray × Int)) (article1 : ByteArray) : Option Int :=
  (impl_totalsOf.f list0 article1).bind fun r1 =>
  if (0 : Int) ≤ 0 ∧ (0 : Int) < r1.length then
    if (0 : Int) ≤ 1 ∧ (1 : Int) < r1.length then
      if (0 : Int) ≤ 2 ∧ (2 : Int) < r1.length then
        if (0 : Int) ≤ 3 ∧ (3 : Int) < r1.length then
          some (IntKind.i64.wrap ((IntKind.i64.wrap ((IntKind.i64.wrap ((r1.getD (0 : Int).toNat 0) - (r1.getD (1 : Int).toNat 0))) - (r1.getD (2 : Int).toNat 0))) - (r1.getD (3 : Int).toNat 0)))
        else
          none
      else
        none
    else
      none
  else
    none
def impl_piecesLeft.fn (n : Nat) (list0 : List (Int × ByteArray × Int)) (article1 : ByteArray) : Option Int := impl_piecesLeft.top list0 article1
def impl_piecesLeft.f (list0 : List (Int × ByteArray × Int)) (article1 : ByteArray) : Option Int := impl_piecesLeft.fn NN list0 article1
end
end Go.Pl

namespace Go.Pl
open Go.Ev
set_option linter.unusedVariables false
noncomputable section
def spec_l32Left.g3 (L3 : (List (Int × ByteArray × Int)) → ByteArray → Int → Int → Int → Option Int) (list0 : List (Int × ByteArray × Int)) (article1 : ByteArray) (n2 : Int) (left7 : Int) (i8 : Int) : Option Int :=
  if (decide ((i8 : Int) < n2)) = true then
    if (0 : Int) ≤ i8 ∧ (i8 : Int) < list0.length then
      if (!((((list0.getD (i8 : Int).toNat (0, (ByteArray.empty, 0))).2).1).toList == article1.toList)) = true then
        L3 list0 article1 n2 left7 (IntKind.i64.wrap (i8 + 1))
      else if (0 : Int) ≤ i8 ∧ (i8 : Int) < list0.length then
        if ((((list0.getD (i8 : Int).toNat (0, (ByteArray.empty, 0))).1) : Int) == 0) = true then
          if (0 : Int) ≤ i8 ∧ (i8 : Int) < list0.length then
            L3 list0 article1 n2 (IntKind.i64.wrap (left7 + (((list0.getD (i8 : Int).toNat (0, (ByteArray.empty, 0))).2).2))) (IntKind.i64.wrap (i8 + 1))
          else
            none
        else if (0 : Int) ≤ i8 ∧ (i8 : Int) < list0.length then
          L3 list0 article1 n2 (IntKind.i64.wrap (left7 - (((list0.getD (i8 : Int).toNat (0, (ByteArray.empty, 0))).2).2))) (IntKind.i64.wrap (i8 + 1))
        else
          none
      else
        none
    else
      none
  else
    some left7
def spec_l32Left.l3 (n : Nat) : Nat → (List (Int × ByteArray × Int)) → ByteArray → Int → Int → Int → Option Int
  | 0 => fun _ _ _ _ _ => none
  | k + 1 => spec_l32Left.g3 (spec_l32Left.l3 n k)
def spec_l32Left.top (I3 : (List (Int × ByteArray × Int)) → ByteArray → Int → Int → Int → Option Int) (list0 : List (Int × ByteArray × Int)) (article1 : ByteArray) (n2 : Int) : Option Int :=
  I3 list0 article1 n2 0 0
def spec_l32Left.fn (n : Nat) (list0 : List (Int × ByteArray × Int)) (article1 : ByteArray) (n2 : Int) : Option Int := spec_l32Left.top (spec_l32Left.l3 n n) list0 article1 n2
def spec_l32Left.f (list0 : List (Int × ByteArray × Int)) (article1 : ByteArray) (n2 : Int) : Option Int := spec_l32Left.fn NN list0 article1 n2
end
end Go.Pl

namespace Go.Pl
open Go.Ev
set_option linter.unusedVariables false
noncomputable section
def impl_AreBookings.g4 (L4 : (List (Int × ByteArray × Int)) → (List (Int × ByteArray × Int)) → Int → Int → Option Bool) (list0 : List (Int × ByteArray × Int)) (v8 : List (Int × ByteArray × Int)) (v9 : Int) (v10 : Int) : Option Bool :=
  if (decide ((v10 : Int) < v9)) = true then
    if (0 : Int) ≤ v10 ∧ (v10 : Int) < v8.length then
      (impl_within.f ((v8.getD (v10 : Int).toNat (0, (ByteArray.empty, 0))).1) 0 3).bind fun r1 =>
      if (!r1) = false then
        (impl_IsWord.f (((v8.getD (v10 : Int).toNat (0, (ByteArray.empty, 0))).2).1)).bind fun r2 =>
        if (!r2) = false then
          (impl_within.f (((v8.getD (v10 : Int).toNat (0, (ByteArray.empty, 0))).2).2) 1 1000).bind fun r3 =>
          if (!r3) = false then
            if (0 : Int) ≤ (IntKind.i64.wrap (v10 + 1)) ∧ ((IntKind.i64.wrap (v10 + 1)) : Int) ≤ list0.length then
              (impl_piecesLeft.f (list0.take ((IntKind.i64.wrap (v10 + 1)) : Int).toNat) (((v8.getD (v10 : Int).toNat (0, (ByteArray.empty, 0))).2).1)).bind fun r4 =>
              if (decide ((r4 : Int) < 0)) = true then
                some false
              else
                L4 list0 v8 v9 (IntKind.i64.wrap (v10 + 1))
            else
              none
          else
            some false
        else
          some false
      else
        some false
    else
      none
  else
    some true
def impl_AreBookings.l4 (n : Nat) : Nat → (List (Int × ByteArray × Int)) → (List (Int × ByteArray × Int)) → Int → Int → Option Bool
  | 0 => fun _ _ _ _ => none
  | k + 1 => impl_AreBookings.g4 (impl_AreBookings.l4 n k)
def impl_AreBookings.top (I4 : (List (Int × ByteArray × Int)) → (List (Int × ByteArray × Int)) → Int → Int → Option Bool) (list0 : List (Int × ByteArray × Int)) : Option Bool :=
  if (decide ((60 : Int) < (list0.length : Int))) = true then
    some false
  else
    I4 list0 list0 (list0.length : Int) 0
def impl_AreBookings.fn (n : Nat) (list0 : List (Int × ByteArray × Int)) : Option Bool := impl_AreBookings.top (impl_AreBookings.l4 n n) list0
def impl_AreBookings.f (list0 : List (Int × ByteArray × Int)) : Option Bool := impl_AreBookings.fn NN list0
end
end Go.Pl

namespace Go.Pl
open Go.Ev
set_option linter.unusedVariables false
noncomputable section
def spec_AreBookings.g2 (L2 : (List (Int × ByteArray × Int)) → Int → Option Bool) (list0 : List (Int × ByteArray × Int)) (i3 : Int) : Option Bool :=
  if (decide ((i3 : Int) < (list0.length : Int))) = true then
    if (0 : Int) ≤ i3 ∧ (i3 : Int) < list0.length then
      (spec_l01In.f ((list0.getD (i3 : Int).toNat (0, (ByteArray.empty, 0))).1) 0 3).bind fun r1 =>
      if (!r1) = false then
        (spec_IsWord.f (((list0.getD (i3 : Int).toNat (0, (ByteArray.empty, 0))).2).1)).bind fun r2 =>
        if (!r2) = false then
          (spec_l01In.f (((list0.getD (i3 : Int).toNat (0, (ByteArray.empty, 0))).2).2) 1 1000).bind fun r3 =>
          if (!r3) = false then
            (spec_l32Left.f list0 (((list0.getD (i3 : Int).toNat (0, (ByteArray.empty, 0))).2).1) (IntKind.i64.wrap (i3 + 1))).bind fun r4 =>
            if (decide ((r4 : Int) < 0)) = true then
              some false
            else
              L2 list0 (IntKind.i64.wrap (i3 + 1))
          else
            some false
        else
          some false
      else
        some false
    else
      none
  else
    some (decide (((list0.length : Int) : Int) ≤ 60))
def spec_AreBookings.l2 (n : Nat) : Nat → (List (Int × ByteArray × Int)) → Int → Option Bool
  | 0 => fun _ _ => none
  | k + 1 => spec_AreBookings.g2 (spec_AreBookings.l2 n k)
def spec_AreBookings.top (I2 : (List (Int × ByteArray × Int)) → Int → Option Bool) (list0 : List (Int × ByteArray × Int)) : Option Bool :=
  I2 list0 0
def spec_AreBookings.fn (n : Nat) (list0 : List (Int × ByteArray × Int)) : Option Bool := spec_AreBookings.top (spec_AreBookings.l2 n n) list0
def spec_AreBookings.f (list0 : List (Int × ByteArray × Int)) : Option Bool := spec_AreBookings.fn NN list0
end
end Go.Pl

namespace Go.Pl
open Go.Ev
set_option linter.unusedVariables false
set_option linter.unusedSimpArgs false
/-- a booking that stands -/
def valB (b : Int × ByteArray × Int) : Bool := inB b.1 0 3 && wordB b.2.1 && inB b.2.2 1 1000
def addL (a : ByteArray) (s : Int) (b : Int × ByteArray × Int) : Int := if b.2.1 = a then (if b.1 = 0 then s + b.2.2 else s - b.2.2) else s
def leftOf (xs : List (Int × ByteArray × Int)) (a : ByteArray) : Int := xs.foldl (addL a) 0
theorem leftOf_snoc (p : List (Int × ByteArray × Int)) (b : Int × ByteArray × Int) (a : ByteArray) : leftOf (p ++ [b]) a = addL a (leftOf p a) b := by
  unfold leftOf; rw [List.foldl_append]; rfl
theorem valB_count {b : Int × ByteArray × Int} (h : valB b = true) : 1 ≤ b.2.2 ∧ b.2.2 ≤ 1000 ∧ 0 ≤ b.1 ∧ b.1 ≤ 3 := by
  unfold valB at h
  simp only [Bool.and_eq_true, inB_iff] at h
  omega
theorem leftOf_le (a : ByteArray) (xs : List (Int × ByteArray × Int)) (h : ∀ b ∈ xs, valB b = true) : -(1000 * (xs.length : Int)) ≤ leftOf xs a ∧ leftOf xs a ≤ 1000 * (xs.length : Int) := by
  have key : ∀ (ys : List (Int × ByteArray × Int)) (s : Int), (∀ b ∈ ys, valB b = true) → s - 1000 * (ys.length : Int) ≤ ys.foldl (addL a) s ∧ ys.foldl (addL a) s ≤ s + 1000 * (ys.length : Int) := by
    intro ys
    induction ys with
    | nil => intro s _; simp
    | cons b r ih =>
      intro s hb
      have h1 := ih (addL a s b) (fun x hx => hb x (by simp [hx]))
      have h2 := valB_count (hb b (by simp))
      simp only [List.foldl_cons, List.length_cons]
      have : s - 1000 ≤ addL a s b ∧ addL a s b ≤ s + 1000 := by
        unfold addL; split <;> (try split) <;> omega
      omega
  have := key xs 0 h
  unfold leftOf; omega
theorem spec_l32Left_f (xs rest : List (Int × ByteArray × Int)) (a : ByteArray) (h : ∀ b ∈ xs, valB b = true) (hl : xs.length ≤ 1000000) : spec_l32Left.f (xs ++ rest) a xs.length = some (leftOf xs a) := by
  have := (fold_fix (E := fun b => valB b = true) (fun p s => (∀ b ∈ p, valB b = true) ∧ s = leftOf p a) (fun _ => addL a) some (fun k i s => spec_l32Left.l3 NN k (xs ++ rest) a xs.length s i) xs ?_ ?_ 0 h ⟨by simp, rfl⟩ (by omega) NN (NN_lt (by omega))).2
  · rw [foldi_foldl] at this
    exact this
  · intro k st _
    simp [spec_l32Left.l3, spec_l32Left.g3]
  · intro k p b r st hx hb hI c0 c1 c2 cw g
    obtain ⟨h1, rfl⟩ := hI
    have h2 : ∀ x ∈ p ++ [b], valB x = true := fun x hx => by
      rcases List.mem_append.1 hx with h | h
      · exact h1 x h
      · rw [List.mem_singleton.1 h]; exact hb
    refine ⟨⟨h2, (leftOf_snoc p b a).symm⟩, ?_⟩
    have c3 : (p.length : Int) < ((xs ++ rest).length : Int) := by rw [List.length_append]; omega
    have g' : ∀ z, (xs ++ rest).getD p.length z = b := fun z => by rw [hx]; simp
    have bd := leftOf_le a (p ++ [b]) h2
    rw [leftOf_snoc] at bd
    have hpl : p.length ≤ 1000000 := by omega
    simp only [List.length_append, List.length_cons, List.length_nil] at bd
    simp only [spec_l32Left.l3, spec_l32Left.g3, c0, c1, c3, cw, and_self, and_true, true_and, decide_true, decide_false, if_true, if_false, mid_get, mid_set, mid_getn, mid_setn, bt_mid, Option.bind_some, Bool.not_true, Bool.not_false, Bool.false_eq_true, Bool.true_eq_false, beq_self_eq_true, bne_self_eq_false, Int.toNat_natCast, g', ba_beq]
    unfold addL at bd ⊢
    by_cases ha : b.2.1 = a
    · by_cases hz : b.1 = 0
      · have e := w64 (n := leftOf p a + b.2.2) (by simp only [ha, hz, if_true] at bd; omega) (by simp only [ha, hz, if_true] at bd; omega)
        simp [ha, hz, e]
      · have e := w64 (n := leftOf p a - b.2.2) (by simp only [ha, hz, if_true, if_false] at bd; omega) (by simp only [ha, hz, if_true, if_false] at bd; omega)
        simp [ha, hz, e]
    · simp [ha]
/-- how many of each kind -/
def addT (a : ByteArray) (s : List Int) (b : Int × ByteArray × Int) : List Int := if b.2.1 = a then s.set b.1.toNat (s.getD b.1.toNat 0 + b.2.2) else s
def totL (xs : List (Int × ByteArray × Int)) (a : ByteArray) : List Int := xs.foldl (addT a) [0, 0, 0, 0]
theorem totL_snoc (p : List (Int × ByteArray × Int)) (b : Int × ByteArray × Int) (a : ByteArray) : totL (p ++ [b]) a = addT a (totL p a) b := by
  unfold totL; rw [List.foldl_append]; rfl
theorem totL_shape (a : ByteArray) (xs : List (Int × ByteArray × Int)) (h : ∀ b ∈ xs, valB b = true) : ∃ t0 t1 t2 t3, totL xs a = [t0, t1, t2, t3] ∧ t0 - t1 - t2 - t3 = leftOf xs a ∧ 0 ≤ t0 ∧ 0 ≤ t1 ∧ 0 ≤ t2 ∧ 0 ≤ t3 ∧ t0 + t1 + t2 + t3 ≤ 1000 * (xs.length : Int) := by
  have key : ∀ (n : Nat) (xs : List (Int × ByteArray × Int)), xs.length = n → (∀ b ∈ xs, valB b = true) → ∃ t0 t1 t2 t3, totL xs a = [t0, t1, t2, t3] ∧ t0 - t1 - t2 - t3 = leftOf xs a ∧ 0 ≤ t0 ∧ 0 ≤ t1 ∧ 0 ≤ t2 ∧ 0 ≤ t3 ∧ t0 + t1 + t2 + t3 ≤ 1000 * (xs.length : Int) := by
    intro n
    induction n with
    | zero => intro xs hn _; obtain rfl := List.length_eq_zero_iff.1 hn; exact ⟨0, 0, 0, 0, rfl, rfl, by omega, by omega, by omega, by omega, by simp⟩
    | succ n ih =>
      intro xs hn hb
      rcases List.eq_nil_or_concat xs with rfl | ⟨p, b, rfl⟩
      · simp at hn
      simp only [List.concat_eq_append] at hn hb ⊢
      obtain ⟨t0, t1, t2, t3, e1, e2, e3, e4, e5, e6, e7⟩ := ih p (by simpa using hn) (fun x hx => hb x (by simp [hx]))
      have hv := valB_count (hb b (by simp))
      rw [totL_snoc, leftOf_snoc, e1]
      simp only [List.length_append, List.length_cons, List.length_nil]
      unfold addT addL
      by_cases ha : b.2.1 = a
      · simp only [ha, if_true]
        obtain h | h | h | h : b.1 = 0 ∨ b.1 = 1 ∨ b.1 = 2 ∨ b.1 = 3 := by omega
        · exact ⟨t0 + b.2.2, t1, t2, t3, by simp [h], by simp [h]; omega, by omega, by omega, by omega, by omega, by omega⟩
        · exact ⟨t0, t1 + b.2.2, t2, t3, by simp [h], by simp [h]; omega, by omega, by omega, by omega, by omega, by omega⟩
        · exact ⟨t0, t1, t2 + b.2.2, t3, by simp [h], by simp [h]; omega, by omega, by omega, by omega, by omega, by omega⟩
        · exact ⟨t0, t1, t2, t3 + b.2.2, by simp [h], by simp [h]; omega, by omega, by omega, by omega, by omega, by omega⟩
      · simp only [ha, if_false]
        exact ⟨t0, t1, t2, t3, rfl, by omega, by omega, by omega, by omega, by omega, by omega⟩
  exact key _ xs rfl h
theorem impl_totalsOf_f (xs : List (Int × ByteArray × Int)) (a : ByteArray) (h : ∀ b ∈ xs, valB b = true) (hl : xs.length ≤ 1000000) : impl_totalsOf.f xs a = some (totL xs a) := by
  have := (fold_fix (E := fun b => valB b = true) (fun p s => (∀ b ∈ p, valB b = true) ∧ s = totL p a) (fun _ => addT a) some (fun k i s => impl_totalsOf.l3 NN k a xs xs.length i s) xs ?_ ?_ [0, 0, 0, 0] h ⟨by simp, rfl⟩ (by omega) NN (NN_lt (by omega))).2
  · rw [foldi_foldl] at this
    unfold impl_totalsOf.f impl_totalsOf.fn impl_totalsOf.top
    rw [if_pos (by rw [room8]; omega)]
    exact this
  · intro k st _
    simp [impl_totalsOf.l3, impl_totalsOf.g3]
  · intro k p b r st hx hb hI c0 c1 c2 cw g
    obtain ⟨h1, rfl⟩ := hI
    have h2 : ∀ x ∈ p ++ [b], valB x = true := fun x hx => by
      rcases List.mem_append.1 hx with h | h
      · exact h1 x h
      · rw [List.mem_singleton.1 h]; exact hb
    refine ⟨⟨h2, (totL_snoc p b a).symm⟩, ?_⟩
    obtain ⟨t0, t1, t2, t3, e1, e2, e3, e4, e5, e6, e7⟩ := totL_shape a p h1
    have hpl : p.length ≤ 1000000 := by omega
    have hv := valB_count hb
    simp only [impl_totalsOf.l3, impl_totalsOf.g3, c0, c1, cw, and_self, and_true, true_and, decide_true, decide_false, if_true, if_false, mid_get, mid_set, mid_getn, mid_setn, bt_mid, Option.bind_some, Bool.not_true, Bool.not_false, Bool.false_eq_true, Bool.true_eq_false, beq_self_eq_true, bne_self_eq_false, Int.toNat_natCast, g, ba_beq]
    unfold addT
    by_cases ha : b.2.1 = a
    · have k1 : b.1 < ((totL p a).length : Int) := by rw [e1]; simp; omega
      have k2 : 0 ≤ (totL p a).getD b.1.toNat 0 ∧ (totL p a).getD b.1.toNat 0 ≤ 1000000000 := by
        rw [e1]
        obtain h | h | h | h : b.1 = 0 ∨ b.1 = 1 ∨ b.1 = 2 ∨ b.1 = 3 := by omega
        all_goals (rw [h]; simp; omega)
      have e := w64 (n := (totL p a).getD b.1.toNat 0 + b.2.2) (by omega) (by omega)
      simp only [ha, decide_true, if_true, hv.2.2.1, k1, and_self, e]
    · simp [ha]
theorem impl_piecesLeft_f (xs : List (Int × ByteArray × Int)) (a : ByteArray) (h : ∀ b ∈ xs, valB b = true) (hl : xs.length ≤ 1000000) : impl_piecesLeft.f xs a = some (leftOf xs a) := by
  unfold impl_piecesLeft.f impl_piecesLeft.fn impl_piecesLeft.top
  rw [impl_totalsOf_f xs a h hl]
  obtain ⟨t0, t1, t2, t3, e1, e2, e3, e4, e5, e6, e7⟩ := totL_shape a xs h
  have w1 := w64 (n := t0 - t1) (by omega) (by omega)
  have w2 := w64 (n := t0 - t1 - t2) (by omega) (by omega)
  have w3 := w64 (n := t0 - t1 - t2 - t3) (by omega) (by omega)
  have w4 : IntKind.i64.wrap (leftOf xs a) = leftOf xs a := by rw [← e2]; exact w3
  rw [e1]
  simp [w1, w2, w3, e2, w4]
/-- no article short at any time -/
def okFrom (p : List (Int × ByteArray × Int)) : List (Int × ByteArray × Int) → Bool
  | [] => true
  | b :: r => valB b && decide (0 ≤ leftOf (p ++ [b]) b.2.1) && okFrom (p ++ [b]) r
def booksB (xs : List (Int × ByteArray × Int)) : Bool := decide (xs.length ≤ 60) && okFrom [] xs
theorem okFrom_val : ∀ (r p : List (Int × ByteArray × Int)), okFrom p r = true → ∀ b ∈ r, valB b = true := by
  intro r
  induction r with
  | nil => intro p _ b hb; cases hb
  | cons x r ih =>
    intro p h b hb
    simp only [okFrom, Bool.and_eq_true] at h
    rcases List.mem_cons.1 hb with rfl | hb
    · exact h.1.1
    · exact ih _ h.2 b hb
theorem booksB_val {xs : List (Int × ByteArray × Int)} (h : booksB xs = true) : (∀ b ∈ xs, valB b = true) ∧ xs.length ≤ 60 := by
  unfold booksB at h
  simp only [Bool.and_eq_true, decide_eq_true_eq] at h
  exact ⟨okFrom_val _ _ h.2, h.1⟩
theorem val_snoc {p : List (Int × ByteArray × Int)} {b : Int × ByteArray × Int} (h1 : ∀ x ∈ p, valB x = true) (hb : valB b = true) : ∀ x ∈ p ++ [b], valB x = true := fun x hx => by
  rcases List.mem_append.1 hx with h | h
  · exact h1 x h
  · rw [List.mem_singleton.1 h]; exact hb
theorem spec_AreBookings_loop : ∀ (r p : List (Int × ByteArray × Int)) (k : Nat), (∀ b ∈ p, valB b = true) → (∀ b ∈ r, Sz b.2.1) → p.length + r.length ≤ 1000000 → r.length < k →
    spec_AreBookings.l2 NN k (p ++ r) p.length = some (okFrom p r && decide ((p ++ r).length ≤ 60)) := by
  intro r
  induction r with
  | nil =>
    intro p k _ _ _ hk
    obtain ⟨k, rfl⟩ : ∃ j, k = j + 1 := ⟨k - 1, by omega⟩
    simp [spec_AreBookings.l2, spec_AreBookings.g2, okFrom]
    omega
  | cons b r ih =>
    intro p k hp hr hb hk
    simp only [List.length_cons] at hk hb
    obtain ⟨k, rfl⟩ : ∃ j, k = j + 1 := ⟨k - 1, by omega⟩
    have hm := mid_len p r b
    have c0 : (0 : Int) ≤ (p.length : Int) := by omega
    have c1 : (p.length : Int) < ((p ++ b :: r).length : Int) := by omega
    have cw := w64 (n := (p.length : Int) + 1) (by omega) (by omega)
    simp only [spec_AreBookings.l2, spec_AreBookings.g2, c0, c1, cw, and_self, and_true, true_and, decide_true, decide_false, if_true, if_false, mid_get, mid_set, mid_getn, mid_setn, bt_mid, Option.bind_some, Bool.not_true, Bool.not_false, Bool.false_eq_true, Bool.true_eq_false, beq_self_eq_true, bne_self_eq_false, Int.toNat_natCast, spec_l01In_f, spec_IsWord_f _ (hr b (by simp))]
    have hv : valB b = (inB b.1 0 3 && wordB b.2.1 && inB b.2.2 1 1000) := rfl
    simp only [okFrom]
    cases h1 : inB b.1 0 3
    · simp [hv, h1]
    cases h2 : wordB b.2.1
    · simp [hv, h2]
    cases h3 : inB b.2.2 1 1000
    · simp [hv, h3]
    have hvt : valB b = true := by rw [hv, h1, h2, h3]; rfl
    have hl := spec_l32Left_f (p ++ [b]) r b.2.1 (val_snoc hp hvt) (by simp; omega)
    rw [mid_snoc, snoc_len] at hl
    have := ih (p ++ [b]) k (val_snoc hp hvt) (fun x hx => hr x (by simp [hx])) (by simp; omega) (by omega)
    rw [mid_snoc, snoc_len] at this
    simp only [hl, this, hvt, and_self, and_true, true_and, decide_true, decide_false, if_true, if_false, mid_get, mid_set, mid_getn, mid_setn, bt_mid, Option.bind_some, Bool.not_true, Bool.not_false, Bool.false_eq_true, Bool.true_eq_false, beq_self_eq_true, bne_self_eq_false, Int.toNat_natCast, decide_eq_true_eq]
    by_cases hn : leftOf (p ++ [b]) b.2.1 < 0
    · have : ¬ 0 ≤ leftOf (p ++ [b]) b.2.1 := by omega
      simp [hn, this]
    · have h4 : 0 ≤ leftOf (p ++ [b]) b.2.1 := by omega
      simp [hn, h4]
theorem spec_AreBookings_f (xs : List (Int × ByteArray × Int)) (h : Lm OkBooking xs) : spec_AreBookings.f xs = some (booksB xs) := by
  have := spec_AreBookings_loop xs [] NN (by simp) (fun b hb => Nat.le_trans (h.2 b hb).2.1 (by omega)) (by simpa using h.1) (NN_lt (by have := h.1; omega))
  unfold spec_AreBookings.f spec_AreBookings.fn spec_AreBookings.top booksB
  rw [Bool.and_comm]
  simpa using this
theorem impl_AreBookings_loop : ∀ (r p : List (Int × ByteArray × Int)) (k : Nat), (∀ b ∈ p, valB b = true) → (∀ b ∈ r, Sz b.2.1) → p.length + r.length ≤ 1000000 → r.length < k →
    impl_AreBookings.l4 NN k (p ++ r) (p ++ r) (p ++ r).length p.length = some (okFrom p r) := by
  intro r
  induction r with
  | nil =>
    intro p k _ _ _ hk
    obtain ⟨k, rfl⟩ : ∃ j, k = j + 1 := ⟨k - 1, by omega⟩
    simp [impl_AreBookings.l4, impl_AreBookings.g4, okFrom]
  | cons b r ih =>
    intro p k hp hr hb hk
    simp only [List.length_cons] at hk hb
    obtain ⟨k, rfl⟩ : ∃ j, k = j + 1 := ⟨k - 1, by omega⟩
    have hm := mid_len p r b
    have c0 : (0 : Int) ≤ (p.length : Int) := by omega
    have c1 : (p.length : Int) < ((p ++ b :: r).length : Int) := by omega
    have cw := w64 (n := (p.length : Int) + 1) (by omega) (by omega)
    have c2 : (0 : Int) ≤ (p.length : Int) + 1 := by omega
    have c3 : (p.length : Int) + 1 ≤ ((p ++ b :: r).length : Int) := by omega
    have ct : (p ++ b :: r).take ((p.length : Int) + 1).toNat = p ++ [b] := by
      rw [show ((p.length : Int) + 1).toNat = (p ++ [b]).length by simp, show p ++ b :: r = (p ++ [b]) ++ r by simp, List.take_left' rfl]
    simp only [impl_AreBookings.l4, impl_AreBookings.g4, c0, c1, c2, c3, cw, ct, and_self, and_true, true_and, decide_true, decide_false, if_true, if_false, mid_get, mid_set, mid_getn, mid_setn, bt_mid, Option.bind_some, Bool.not_true, Bool.not_false, Bool.false_eq_true, Bool.true_eq_false, beq_self_eq_true, bne_self_eq_false, Int.toNat_natCast, impl_within_f, impl_IsWord_f _ (hr b (by simp))]
    have hv : valB b = (inB b.1 0 3 && wordB b.2.1 && inB b.2.2 1 1000) := rfl
    simp only [okFrom]
    cases h1 : inB b.1 0 3
    · simp [hv, h1]
    cases h2 : wordB b.2.1
    · simp [hv, h2]
    cases h3 : inB b.2.2 1 1000
    · simp [hv, h3]
    have hvt : valB b = true := by rw [hv, h1, h2, h3]; rfl
    have hl := impl_piecesLeft_f (p ++ [b]) b.2.1 (val_snoc hp hvt) (by simp; omega)
    have := ih (p ++ [b]) k (val_snoc hp hvt) (fun x hx => hr x (by simp [hx])) (by simp; omega) (by omega)
    rw [mid_snoc, snoc_len] at this
    simp only [hl, this, hvt, and_self, and_true, true_and, decide_true, decide_false, if_true, if_false, mid_get, mid_set, mid_getn, mid_setn, bt_mid, Option.bind_some, Bool.not_true, Bool.not_false, Bool.false_eq_true, Bool.true_eq_false, beq_self_eq_true, bne_self_eq_false, Int.toNat_natCast, decide_eq_true_eq]
    by_cases hn : leftOf (p ++ [b]) b.2.1 < 0
    · have : ¬ 0 ≤ leftOf (p ++ [b]) b.2.1 := by omega
      simp [hn, this]
    · have h4 : 0 ≤ leftOf (p ++ [b]) b.2.1 := by omega
      simp [hn, h4]
theorem impl_AreBookings_f (xs : List (Int × ByteArray × Int)) (h : Lm OkBooking xs) : impl_AreBookings.f xs = some (booksB xs) := by
  have := impl_AreBookings_loop xs [] NN (by simp) (fun b hb => Nat.le_trans (h.2 b hb).2.1 (by omega)) (by simpa using h.1) (NN_lt (by have := h.1; omega))
  unfold impl_AreBookings.f impl_AreBookings.fn impl_AreBookings.top booksB
  simp only [List.nil_append, List.length_nil] at this
  by_cases h1 : (60 : Int) < xs.length
  · have h2 : ¬ xs.length ≤ 60 := by omega
    simp [h1, h2]
  · have h2 : xs.length ≤ 60 := by omega
    simp only [h1, h2, decide_false, Bool.false_eq_true, if_false, decide_true, Bool.true_and]
    exact this
theorem AreBookings_core (xs : List (Int × ByteArray × Int)) (h : Lm OkBooking xs) : ∃ w, spec_AreBookings.f xs = some w ∧ impl_AreBookings.f xs = some w ∧ True :=
  ⟨_, spec_AreBookings_f xs h, impl_AreBookings_f xs h, trivial⟩
end Go.Pl

namespace Go.Pl
open Go.Ev
set_option linter.unusedVariables false
noncomputable section
def impl_PiecesLeft.top (list0 : List (Int × ByteArray × Int)) (article1 : ByteArray) : Option (Int × Int) :=
  (impl_AreBookings.f list0).bind fun r1 =>
  if (!r1) = false then
    (impl_IsWord.f article1).bind fun r2 =>
    if (!r2) = true then
      some (0, 1)
    else
      (impl_piecesLeft.f list0 article1).bind fun r3 =>
      some (r3, 0)
  else
    some (0, 1)
def impl_PiecesLeft.fn (n : Nat) (list0 : List (Int × ByteArray × Int)) (article1 : ByteArray) : Option (Int × Int) := impl_PiecesLeft.top list0 article1
def impl_PiecesLeft.f (list0 : List (Int × ByteArray × Int)) (article1 : ByteArray) : Option (Int × Int) := impl_PiecesLeft.fn NN list0 article1
end
end Go.Pl

namespace Go.Pl
open Go.Ev
set_option linter.unusedVariables false
noncomputable section
def spec_PiecesLeft.top (list0 : List (Int × ByteArray × Int)) (article1 : ByteArray) : Option (Int × Int) :=
  (spec_AreBookings.f list0).bind fun r1 =>
  if (!r1) = false then
    (spec_IsWord.f article1).bind fun r2 =>
    if (!r2) = true then
      some (0, 1)
    else
      (spec_l32Left.f list0 article1 (list0.length : Int)).bind fun r3 =>
      some (r3, 0)
  else
    some (0, 1)
def spec_PiecesLeft.fn (n : Nat) (list0 : List (Int × ByteArray × Int)) (article1 : ByteArray) : Option (Int × Int) := spec_PiecesLeft.top list0 article1
def spec_PiecesLeft.f (list0 : List (Int × ByteArray × Int)) (article1 : ByteArray) : Option (Int × Int) := spec_PiecesLeft.fn NN list0 article1
end
end Go.Pl

namespace Go.Pl
open Go.Ev
set_option linter.unusedVariables false
noncomputable section
def impl_MostIn.g5 (L5 : (List (Int × ByteArray × Int)) → ByteArray → Int → Int → Int → Option (Int × Int)) (list0 : List (Int × ByteArray × Int)) (article1 : ByteArray) (most6 : Int) (v17 : Int) (v18 : Int) : Option (Int × Int) :=
  if (decide ((v18 : Int) < v17)) = true then
    if (0 : Int) ≤ (IntKind.i64.wrap (v18 + 1)) ∧ ((IntKind.i64.wrap (v18 + 1)) : Int) ≤ list0.length then
      (impl_piecesLeft.f (list0.take ((IntKind.i64.wrap (v18 + 1)) : Int).toNat) article1).bind fun r3 =>
      L5 list0 article1 (if r3 > most6 then r3 else most6) v17 (IntKind.i64.wrap (v18 + 1))
    else
      none
  else
    some (most6, 0)
def impl_MostIn.l5 (n : Nat) : Nat → (List (Int × ByteArray × Int)) → ByteArray → Int → Int → Int → Option (Int × Int)
  | 0 => fun _ _ _ _ _ => none
  | k + 1 => impl_MostIn.g5 (impl_MostIn.l5 n k)
def impl_MostIn.top (I5 : (List (Int × ByteArray × Int)) → ByteArray → Int → Int → Int → Option (Int × Int)) (list0 : List (Int × ByteArray × Int)) (article1 : ByteArray) : Option (Int × Int) :=
  (impl_AreBookings.f list0).bind fun r1 =>
  if (!r1) = false then
    (impl_IsWord.f article1).bind fun r2 =>
    if (!r2) = true then
      some (0, 1)
    else
      I5 list0 article1 0 (list0.length : Int) 0
  else
    some (0, 1)
def impl_MostIn.fn (n : Nat) (list0 : List (Int × ByteArray × Int)) (article1 : ByteArray) : Option (Int × Int) := impl_MostIn.top (impl_MostIn.l5 n n) list0 article1
def impl_MostIn.f (list0 : List (Int × ByteArray × Int)) (article1 : ByteArray) : Option (Int × Int) := impl_MostIn.fn NN list0 article1
end
end Go.Pl

namespace Go.Pl
open Go.Ev
set_option linter.unusedVariables false
noncomputable section
def spec_MostIn.g5 (L5 : (List (Int × ByteArray × Int)) → ByteArray → Int → Int → Option (Int × Int)) (list0 : List (Int × ByteArray × Int)) (article1 : ByteArray) (most6 : Int) (n7 : Int) : Option (Int × Int) :=
  if (decide ((n7 : Int) ≤ (list0.length : Int))) = true then
    (spec_l32Left.f list0 article1 n7).bind fun r3 =>
    L5 list0 article1 (if r3 > most6 then r3 else most6) (IntKind.i64.wrap (n7 + 1))
  else
    some (most6, 0)
def spec_MostIn.l5 (n : Nat) : Nat → (List (Int × ByteArray × Int)) → ByteArray → Int → Int → Option (Int × Int)
  | 0 => fun _ _ _ _ => none
  | k + 1 => spec_MostIn.g5 (spec_MostIn.l5 n k)
def spec_MostIn.top (I5 : (List (Int × ByteArray × Int)) → ByteArray → Int → Int → Option (Int × Int)) (list0 : List (Int × ByteArray × Int)) (article1 : ByteArray) : Option (Int × Int) :=
  (spec_AreBookings.f list0).bind fun r1 =>
  if (!r1) = false then
    (spec_IsWord.f article1).bind fun r2 =>
    if (!r2) = true then
      some (0, 1)
    else
      I5 list0 article1 0 0
  else
    some (0, 1)
def spec_MostIn.fn (n : Nat) (list0 : List (Int × ByteArray × Int)) (article1 : ByteArray) : Option (Int × Int) := spec_MostIn.top (spec_MostIn.l5 n n) list0 article1
def spec_MostIn.f (list0 : List (Int × ByteArray × Int)) (article1 : ByteArray) : Option (Int × Int) := spec_MostIn.fn NN list0 article1
end
end Go.Pl

namespace Go.Pl
open Go.Ev
set_option linter.unusedVariables false
set_option linter.unusedSimpArgs false
theorem l32Left_all (xs : List (Int × ByteArray × Int)) (a : ByteArray) (h : ∀ b ∈ xs, valB b = true) (hl : xs.length ≤ 1000000) : spec_l32Left.f xs a xs.length = some (leftOf xs a) := by
  have := spec_l32Left_f xs [] a h hl
  rwa [List.append_nil] at this
theorem l32Left_take (xs : List (Int × ByteArray × Int)) (a : ByteArray) (n : Nat) (hn : n ≤ xs.length) (h : ∀ b ∈ xs, valB b = true) (hl : xs.length ≤ 1000000) : spec_l32Left.f xs a n = some (leftOf (xs.take n) a) := by
  have := spec_l32Left_f (xs.take n) (xs.drop n) a (fun b hb => h b (List.mem_of_mem_take hb)) (by rw [List.length_take]; omega)
  rwa [List.take_append_drop, List.length_take, Nat.min_eq_left hn] at this
def leftR (xs : List (Int × ByteArray × Int)) (a : ByteArray) : Int × Int := if booksB xs = true ∧ wordB a = true then (leftOf xs a, 0) else (0, 1)
theorem PiecesLeft_both (xs : List (Int × ByteArray × Int)) (a : ByteArray) (h : Lm OkBooking xs) (ha : Sm a) : spec_PiecesLeft.f xs a = some (leftR xs a) ∧ impl_PiecesLeft.f xs a = some (leftR xs a) := by
  unfold leftR
  refine ⟨?_, ?_⟩
  · unfold spec_PiecesLeft.f spec_PiecesLeft.fn spec_PiecesLeft.top
    rw [spec_AreBookings_f xs h, spec_IsWord_f a (Nat.le_trans ha (by omega))]
    cases hb : booksB xs
    · rfl
    cases hw : wordB a
    · rfl
    have hv := booksB_val hb
    simp only [and_self, and_true, true_and, decide_true, decide_false, if_true, if_false, mid_get, mid_set, mid_getn, mid_setn, bt_mid, Option.bind_some, Bool.not_true, Bool.not_false, Bool.false_eq_true, Bool.true_eq_false, beq_self_eq_true, bne_self_eq_false, Int.toNat_natCast]
    rw [l32Left_all xs a hv.1 (by omega)]; rfl
  · unfold impl_PiecesLeft.f impl_PiecesLeft.fn impl_PiecesLeft.top
    rw [impl_AreBookings_f xs h, impl_IsWord_f a (Nat.le_trans ha (by omega))]
    cases hb : booksB xs
    · rfl
    cases hw : wordB a
    · rfl
    have hv := booksB_val hb
    simp only [and_self, and_true, true_and, decide_true, decide_false, if_true, if_false, mid_get, mid_set, mid_getn, mid_setn, bt_mid, Option.bind_some, Bool.not_true, Bool.not_false, Bool.false_eq_true, Bool.true_eq_false, beq_self_eq_true, bne_self_eq_false, Int.toNat_natCast]
    rw [impl_piecesLeft_f xs a hv.1 (by omega)]; rfl
theorem PiecesLeft_core (xs : List (Int × ByteArray × Int)) (a : ByteArray) (h : Lm OkBooking xs) (ha : Sm a) : ∃ w, spec_PiecesLeft.f xs a = some w ∧ impl_PiecesLeft.f xs a = some w ∧ True :=
  ⟨_, (PiecesLeft_both xs a h ha).1, (PiecesLeft_both xs a h ha).2, trivial⟩
def mostF (xs : List (Int × ByteArray × Int)) (a : ByteArray) (i : Nat) (st : Int) : Int := if leftOf (xs.take (i + 1)) a > st then leftOf (xs.take (i + 1)) a else st
def mostL (xs : List (Int × ByteArray × Int)) (a : ByteArray) : Int := foldi (fun i st (_ : Int × ByteArray × Int) => mostF xs a i st) 0 0 xs
theorem impl_MostIn_l (xs : List (Int × ByteArray × Int)) (a : ByteArray) (h : ∀ b ∈ xs, valB b = true) (hl : xs.length ≤ 60) : impl_MostIn.l5 NN NN xs a 0 xs.length 0 = some (mostL xs a, 0) := by
  have := (fold_fix (E := fun _ => True) (fun _ _ => True) (fun i st (_ : Int × ByteArray × Int) => mostF xs a i st) (fun st => some (st, (0 : Int))) (fun k i st => impl_MostIn.l5 NN k xs a st xs.length i) xs ?_ ?_ 0 (fun _ _ => trivial) trivial (by omega) NN (NN_lt (by omega))).2
  · exact this
  · intro k st _
    simp [impl_MostIn.l5, impl_MostIn.g5]
  · intro k p b r st hx _ _ c0 c1 c2 cw g
    refine ⟨trivial, ?_⟩
    have c3 : (0 : Int) ≤ (p.length : Int) + 1 := by omega
    have c4 : (p.length : Int) + 1 ≤ (xs.length : Int) := by omega
    have e : ((p.length : Int) + 1).toNat = p.length + 1 := by omega
    simp only [impl_MostIn.l5, impl_MostIn.g5, c1, c3, c4, cw, e, and_self, and_true, true_and, decide_true, decide_false, if_true, if_false, mid_get, mid_set, mid_getn, mid_setn, bt_mid, Option.bind_some, Bool.not_true, Bool.not_false, Bool.false_eq_true, Bool.true_eq_false, beq_self_eq_true, bne_self_eq_false, Int.toNat_natCast]
    rw [impl_piecesLeft_f (xs.take (p.length + 1)) a (fun b hb => h b (List.mem_of_mem_take hb)) (by rw [List.length_take]; omega)]
    rfl
theorem spec_MostIn_l (xs : List (Int × ByteArray × Int)) (a : ByteArray) (h : ∀ b ∈ xs, valB b = true) (hl : xs.length ≤ 60) : spec_MostIn.l5 NN NN xs a 0 0 = some (mostL xs a, 0) := by
  obtain ⟨k, hk⟩ : ∃ j, NN = j + 1 := ⟨NN - 1, by have := NNb; omega⟩
  have hkb : 1000 < k := by rw [NN_eq] at hk; omega
  have := (fold_fix (E := fun _ => True) (fun _ _ => True) (fun i st (_ : Int × ByteArray × Int) => mostF xs a i st) (fun st => some (st, (0 : Int))) (fun k i st => spec_MostIn.l5 NN k xs a st (i + 1)) xs ?_ ?_ 0 (fun _ _ => trivial) trivial (by omega) k (by omega)).2
  · rw [show spec_MostIn.l5 NN NN = spec_MostIn.l5 NN (k + 1) by rw [← hk]]
    have c0 : (0 : Int) ≤ (xs.length : Int) := by omega
    have z := l32Left_take xs a 0 (by omega) h (by omega)
    have w := w64 (n := 0 + 1) (by omega) (by omega)
    simp only [spec_MostIn.l5, spec_MostIn.g5, c0, and_self, and_true, true_and, decide_true, decide_false, if_true, if_false, mid_get, mid_set, mid_getn, mid_setn, bt_mid, Option.bind_some, Bool.not_true, Bool.not_false, Bool.false_eq_true, Bool.true_eq_false, beq_self_eq_true, bne_self_eq_false, Int.toNat_natCast, w]
    rw [show ((0 : Nat) : Int) = 0 from rfl] at z
    rw [z]
    exact this
  · intro k st _
    simp [spec_MostIn.l5, spec_MostIn.g5]
    omega
  · intro k p b r st hx _ _ c0 c1 c2 cw g
    refine ⟨trivial, ?_⟩
    have c4 : (p.length : Int) + 1 ≤ (xs.length : Int) := by omega
    have z := l32Left_take xs a (p.length + 1) (by omega) h (by omega)
    rw [show ((p.length + 1 : Nat) : Int) = (p.length : Int) + 1 by omega] at z
    have w := w64 (n := (p.length : Int) + 1 + 1) (by omega) (by omega)
    simp only [spec_MostIn.l5, spec_MostIn.g5, c4, w, z, and_self, and_true, true_and, decide_true, decide_false, if_true, if_false, mid_get, mid_set, mid_getn, mid_setn, bt_mid, Option.bind_some, Bool.not_true, Bool.not_false, Bool.false_eq_true, Bool.true_eq_false, beq_self_eq_true, bne_self_eq_false, Int.toNat_natCast]
    rfl
def mostR (xs : List (Int × ByteArray × Int)) (a : ByteArray) : Int × Int := if booksB xs = true ∧ wordB a = true then (mostL xs a, 0) else (0, 1)
theorem MostIn_both (xs : List (Int × ByteArray × Int)) (a : ByteArray) (h : Lm OkBooking xs) (ha : Sm a) : spec_MostIn.f xs a = some (mostR xs a) ∧ impl_MostIn.f xs a = some (mostR xs a) := by
  unfold mostR
  refine ⟨?_, ?_⟩
  · unfold spec_MostIn.f spec_MostIn.fn spec_MostIn.top
    rw [spec_AreBookings_f xs h, spec_IsWord_f a (Nat.le_trans ha (by omega))]
    cases hb : booksB xs
    · rfl
    cases hw : wordB a
    · rfl
    have hv := booksB_val hb
    exact spec_MostIn_l xs a hv.1 hv.2
  · unfold impl_MostIn.f impl_MostIn.fn impl_MostIn.top
    rw [impl_AreBookings_f xs h, impl_IsWord_f a (Nat.le_trans ha (by omega))]
    cases hb : booksB xs
    · rfl
    cases hw : wordB a
    · rfl
    have hv := booksB_val hb
    exact impl_MostIn_l xs a hv.1 hv.2
theorem MostIn_core (xs : List (Int × ByteArray × Int)) (a : ByteArray) (h : Lm OkBooking xs) (ha : Sm a) : ∃ w, spec_MostIn.f xs a = some w ∧ impl_MostIn.f xs a = some w ∧ True :=
  ⟨_, (MostIn_both xs a h ha).1, (MostIn_both xs a h ha).2, trivial⟩
end Go.Pl

namespace Go.Pl
open Go.Ev
set_option linter.unusedVariables false
noncomputable section
def impl_TotalsOf.top (list0 : List (Int × ByteArray × Int)) (article1 : ByteArray) : Option (List Int × Int) :=
  (impl_AreBookings.f list0).bind fun r1 =>
  if (!r1) = false then
    (impl_IsWord.f article1).bind fun r2 =>
    if (!r2) = true then
      some ([], 1)
    else
      (impl_totalsOf.f list0 article1).bind fun r3 =>
      some (r3, 0)
  else
    some ([], 1)
def impl_TotalsOf.fn (n : Nat) (list0 : List (Int × ByteArray × Int)) (article1 : ByteArray) : Option (List Int × Int) := impl_TotalsOf.top list0 article1
def impl_TotalsOf.f (list0 : List (Int × ByteArray × Int)) (article1 : ByteArray) : Option (List Int × Int) := impl_TotalsOf.fn NN list0 article1
end
end Go.Pl

namespace Go.Pl
open Go.Ev
set_option linter.unusedVariables false
noncomputable section
def spec_TotalsOf.g5 (L5 : (List (Int × ByteArray × Int)) → ByteArray → Int → List Int → Option (List Int × Int)) (list0 : List (Int × ByteArray × Int)) (article1 : ByteArray) (i7 : Int) (out6 : List Int) : Option (List Int × Int) :=
  if (decide ((i7 : Int) < (list0.length : Int))) = true then
    if (0 : Int) ≤ i7 ∧ (i7 : Int) < list0.length then
      if ((((list0.getD (i7 : Int).toNat (0, (ByteArray.empty, 0))).2).1).toList == article1.toList) = true then
        if (0 : Int) ≤ i7 ∧ (i7 : Int) < list0.length then
          if (0 : Int) ≤ i7 ∧ (i7 : Int) < list0.length then
            if (0 : Int) ≤ ((list0.getD (i7 : Int).toNat (0, (ByteArray.empty, 0))).1) ∧ (((list0.getD (i7 : Int).toNat (0, (ByteArray.empty, 0))).1) : Int) < out6.length then
              if (0 : Int) ≤ i7 ∧ (i7 : Int) < list0.length then
                if (0 : Int) ≤ ((list0.getD (i7 : Int).toNat (0, (ByteArray.empty, 0))).1) ∧ (((list0.getD (i7 : Int).toNat (0, (ByteArray.empty, 0))).1) : Int) < out6.length then
                  L5 list0 article1 (IntKind.i64.wrap (i7 + 1)) (out6.set (((list0.getD (i7 : Int).toNat (0, (ByteArray.empty, 0))).1) : Int).toNat (IntKind.i64.wrap ((out6.getD (((list0.getD (i7 : Int).toNat (0, (ByteArray.empty, 0))).1) : Int).toNat 0) + (((list0.getD (i7 : Int).toNat (0, (ByteArray.empty, 0))).2).2))))
                else
                  none
              else
                none
            else
              none
          else
            none
        else
          none
      else
        L5 list0 article1 (IntKind.i64.wrap (i7 + 1)) out6
    else
      none
  else
    some (out6, 0)
def spec_TotalsOf.l5 (n : Nat) : Nat → (List (Int × ByteArray × Int)) → ByteArray → Int → List Int → Option (List Int × Int)
  | 0 => fun _ _ _ _ => none
  | k + 1 => spec_TotalsOf.g5 (spec_TotalsOf.l5 n k)
def spec_TotalsOf.top (I5 : (List (Int × ByteArray × Int)) → ByteArray → Int → List Int → Option (List Int × Int)) (list0 : List (Int × ByteArray × Int)) (article1 : ByteArray) : Option (List Int × Int) :=
  (spec_AreBookings.f list0).bind fun r1 =>
  if (!r1) = false then
    (spec_IsWord.f article1).bind fun r2 =>
    if (!r2) = true then
      some ([], 1)
    else if (0 : Int) ≤ 4 ∧ (4 : Int) < room 8 ∧ (4 : Int) = 4 then
      I5 list0 article1 0 (List.replicate (4 : Int).toNat 0)
    else
      none
  else
    some ([], 1)
def spec_TotalsOf.fn (n : Nat) (list0 : List (Int × ByteArray × Int)) (article1 : ByteArray) : Option (List Int × Int) := spec_TotalsOf.top (spec_TotalsOf.l5 n n) list0 article1
def spec_TotalsOf.f (list0 : List (Int × ByteArray × Int)) (article1 : ByteArray) : Option (List Int × Int) := spec_TotalsOf.fn NN list0 article1
end
end Go.Pl

namespace Go.Pl
open Go.Ev
set_option linter.unusedVariables false
set_option linter.unusedSimpArgs false
theorem spec_TotalsOf_l (xs : List (Int × ByteArray × Int)) (a : ByteArray) (h : ∀ b ∈ xs, valB b = true) (hl : xs.length ≤ 1000000) : spec_TotalsOf.l5 NN NN xs a 0 (List.replicate (4 : Int).toNat 0) = some (totL xs a, 0) := by
  have := (fold_fix (E := fun b => valB b = true) (fun p s => (∀ b ∈ p, valB b = true) ∧ s = totL p a) (fun _ => addT a) (fun st => some (st, (0 : Int))) (fun k i s => spec_TotalsOf.l5 NN k xs a i s) xs ?_ ?_ [0, 0, 0, 0] h ⟨by simp, rfl⟩ (by omega) NN (NN_lt (by omega))).2
  · rw [foldi_foldl] at this
    exact this
  · intro k st _
    simp [spec_TotalsOf.l5, spec_TotalsOf.g5]
  · intro k p b r st hx hb hI c0 c1 c2 cw g
    obtain ⟨h1, rfl⟩ := hI
    have h2 := val_snoc h1 hb
    refine ⟨⟨h2, (totL_snoc p b a).symm⟩, ?_⟩
    obtain ⟨t0, t1, t2, t3, e1, e2, e3, e4, e5, e6, e7⟩ := totL_shape a p h1
    have hpl : p.length ≤ 1000000 := by omega
    have hv := valB_count hb
    simp only [spec_TotalsOf.l5, spec_TotalsOf.g5, c0, c1, cw, and_self, and_true, true_and, decide_true, decide_false, if_true, if_false, mid_get, mid_set, mid_getn, mid_setn, bt_mid, Option.bind_some, Bool.not_true, Bool.not_false, Bool.false_eq_true, Bool.true_eq_false, beq_self_eq_true, bne_self_eq_false, Int.toNat_natCast, g, ba_beq]
    unfold addT
    by_cases ha : b.2.1 = a
    · have k1 : b.1 < ((totL p a).length : Int) := by rw [e1]; simp; omega
      have k2 : 0 ≤ (totL p a).getD b.1.toNat 0 ∧ (totL p a).getD b.1.toNat 0 ≤ 1000000000 := by
        rw [e1]
        obtain h | h | h | h : b.1 = 0 ∨ b.1 = 1 ∨ b.1 = 2 ∨ b.1 = 3 := by omega
        all_goals (rw [h]; simp; omega)
      have e := w64 (n := (totL p a).getD b.1.toNat 0 + b.2.2) (by omega) (by omega)
      simp only [ha, decide_true, if_true, hv.2.2.1, k1, and_self, e]
    · simp [ha]
def totR (xs : List (Int × ByteArray × Int)) (a : ByteArray) : List Int × Int := if booksB xs = true ∧ wordB a = true then (totL xs a, 0) else ([], 1)
theorem TotalsOf_both (xs : List (Int × ByteArray × Int)) (a : ByteArray) (h : Lm OkBooking xs) (ha : Sm a) : spec_TotalsOf.f xs a = some (totR xs a) ∧ impl_TotalsOf.f xs a = some (totR xs a) ∧ Lm (Rg .i64) (totR xs a).1 := by
  unfold totR
  refine ⟨?_, ?_, ?_⟩
  · unfold spec_TotalsOf.f spec_TotalsOf.fn spec_TotalsOf.top
    rw [spec_AreBookings_f xs h, spec_IsWord_f a (Nat.le_trans ha (by omega))]
    cases hb : booksB xs
    · rfl
    cases hw : wordB a
    · rfl
    have hv := booksB_val hb
    simp only [and_self, and_true, true_and, decide_true, decide_false, if_true, if_false, mid_get, mid_set, mid_getn, mid_setn, bt_mid, Option.bind_some, Bool.not_true, Bool.not_false, Bool.false_eq_true, Bool.true_eq_false, beq_self_eq_true, bne_self_eq_false, Int.toNat_natCast]
    rw [if_pos (by rw [room8]; omega)]
    exact spec_TotalsOf_l xs a hv.1 (by omega)
  · unfold impl_TotalsOf.f impl_TotalsOf.fn impl_TotalsOf.top
    rw [impl_AreBookings_f xs h, impl_IsWord_f a (Nat.le_trans ha (by omega))]
    cases hb : booksB xs
    · rfl
    cases hw : wordB a
    · rfl
    have hv := booksB_val hb
    simp only [and_self, and_true, true_and, decide_true, decide_false, if_true, if_false, mid_get, mid_set, mid_getn, mid_setn, bt_mid, Option.bind_some, Bool.not_true, Bool.not_false, Bool.false_eq_true, Bool.true_eq_false, beq_self_eq_true, bne_self_eq_false, Int.toNat_natCast]
    rw [impl_totalsOf_f xs a hv.1 (by omega)]; rfl
  · by_cases hb : booksB xs = true ∧ wordB a = true
    · rw [if_pos hb]
      have hv := booksB_val hb.1
      obtain ⟨t0, t1, t2, t3, e1, e2, e3, e4, e5, e6, e7⟩ := totL_shape a xs hv.1
      simp only [e1]
      refine ⟨by simp, fun c hc => wf64.2 ?_⟩
      simp at hc
      omega
    · rw [if_neg hb]; exact ⟨by simp, by simp⟩
theorem TotalsOf_core (xs : List (Int × ByteArray × Int)) (a : ByteArray) (h : Lm OkBooking xs) (ha : Sm a) : ∃ w, spec_TotalsOf.f xs a = some w ∧ impl_TotalsOf.f xs a = some w ∧ Lm (Rg .i64) w.1 :=
  ⟨_, (TotalsOf_both xs a h ha).1, (TotalsOf_both xs a h ha).2.1, (TotalsOf_both xs a h ha).2.2⟩
end Go.Pl

namespace Go.Pl
open Go.Ev
set_option linter.unusedVariables false
noncomputable section
def impl_BookPieces.top (list0 : List (Int × ByteArray × Int)) (b1 : Int × ByteArray × Int) : Option ((List (Int × ByteArray × Int)) × Int) :=
  (impl_AreBookings.f list0).bind fun r1 =>
  if (!r1) = true then
    some ([], 1)
  else if (((list0.length : Int) : Int) == 60) = true then
    some ([], 3)
  else if ([] : List (Int × ByteArray × Int)).length + list0.length < room 32 then
    if (([] : List (Int × ByteArray × Int)) ++ list0).length + ([b1]).length < room 32 then
      (impl_AreBookings.f ((([] : List (Int × ByteArray × Int)) ++ list0) ++ ([b1]))).bind fun r2 =>
      if (!r2) = true then
        some ([], 5)
      else
        some ((([] : List (Int × ByteArray × Int)) ++ list0) ++ ([b1]), 0)
    else
      none
  else
    none
def impl_BookPieces.fn (n : Nat) (list0 : List (Int × ByteArray × Int)) (b1 : Int × ByteArray × Int) : Option ((List (Int × ByteArray × Int)) × Int) := impl_BookPieces.top list0 b1
def impl_BookPieces.f (list0 : List (Int × ByteArray × Int)) (b1 : Int × ByteArray × Int) : Option ((List (Int × ByteArray × Int)) × Int) := impl_BookPieces.fn NN list0 b1
end
end Go.Pl

namespace Go.Pl
open Go.Ev
set_option linter.unusedVariables false
noncomputable section
def spec_BookPieces.top (list0 : List (Int × ByteArray × Int)) (b1 : Int × ByteArray × Int) : Option ((List (Int × ByteArray × Int)) × Int) :=
  (spec_AreBookings.f list0).bind fun r1 =>
  if (!r1) = true then
    some ([], 1)
  else if (((list0.length : Int) : Int) == 60) = true then
    some ([], 3)
  else if ([] : List (Int × ByteArray × Int)).length + list0.length < room 32 then
    if (([] : List (Int × ByteArray × Int)) ++ list0).length + ([b1]).length < room 32 then
      (spec_AreBookings.f ((([] : List (Int × ByteArray × Int)) ++ list0) ++ ([b1]))).bind fun r2 =>
      if (!r2) = true then
        some ([], 5)
      else
        some ((([] : List (Int × ByteArray × Int)) ++ list0) ++ ([b1]), 0)
    else
      none
  else
    none
def spec_BookPieces.fn (n : Nat) (list0 : List (Int × ByteArray × Int)) (b1 : Int × ByteArray × Int) : Option ((List (Int × ByteArray × Int)) × Int) := spec_BookPieces.top list0 b1
def spec_BookPieces.f (list0 : List (Int × ByteArray × Int)) (b1 : Int × ByteArray × Int) : Option ((List (Int × ByteArray × Int)) × Int) := spec_BookPieces.fn NN list0 b1
end
end Go.Pl

namespace Go.Pl
open Go.Ev
set_option linter.unusedVariables false
set_option linter.unusedSimpArgs false
theorem ok_snoc {α : Type} {Q : α → Prop} {xs : List α} {b : α} (h : Lm Q xs) (hb : Q b) (hl : xs.length < 1000000) : Lm Q (xs ++ [b]) :=
  ⟨by simp; omega, fun x hx => by
    rcases List.mem_append.1 hx with h1 | h1
    · exact h.2 x h1
    · rw [List.mem_singleton.1 h1]; exact hb⟩
def bookR (xs : List (Int × ByteArray × Int)) (b : Int × ByteArray × Int) : List (Int × ByteArray × Int) × Int :=
  if booksB xs = true then (if xs.length = 60 then ([], 3) else if booksB (xs ++ [b]) = true then (xs ++ [b], 0) else ([], 5)) else ([], 1)
theorem impl_BookPieces_f (xs : List (Int × ByteArray × Int)) (b : Int × ByteArray × Int) (h : Lm OkBooking xs) (hb : OkBooking b) : impl_BookPieces.f xs b = some (bookR xs b) := by
  unfold impl_BookPieces.f impl_BookPieces.fn impl_BookPieces.top bookR
  rw [impl_AreBookings_f xs h]
  cases hx : booksB xs
  · rfl
  have hv := booksB_val hx
  simp only [and_self, and_true, true_and, decide_true, decide_false, if_true, if_false, mid_get, mid_set, mid_getn, mid_setn, bt_mid, Option.bind_some, Bool.not_true, Bool.not_false, Bool.false_eq_true, Bool.true_eq_false, beq_self_eq_true, bne_self_eq_false, Int.toNat_natCast]
  by_cases h60 : xs.length = 60
  · simp [h60]
  · have e1 : ((xs.length : Int) == 60) = false := by rw [beq_eq_false_iff_ne]; omega
    have e2 : ([] : List (Int × ByteArray × Int)).length + xs.length < room 32 := by rw [room32]; simp; omega
    have e3 : (([] : List (Int × ByteArray × Int)) ++ xs).length + [b].length < room 32 := by rw [room32]; simp; omega
    simp only [e1, e2, e3, h60, and_self, and_true, true_and, decide_true, decide_false, if_true, if_false, mid_get, mid_set, mid_getn, mid_setn, bt_mid, Option.bind_some, Bool.not_true, Bool.not_false, Bool.false_eq_true, Bool.true_eq_false, beq_self_eq_true, bne_self_eq_false, Int.toNat_natCast]
    rw [List.nil_append, impl_AreBookings_f (xs ++ [b]) (ok_snoc h hb (by omega))]
    cases booksB (xs ++ [b]) <;> rfl
theorem spec_BookPieces_f (xs : List (Int × ByteArray × Int)) (b : Int × ByteArray × Int) (h : Lm OkBooking xs) (hb : OkBooking b) : spec_BookPieces.f xs b = some (bookR xs b) := by
  unfold spec_BookPieces.f spec_BookPieces.fn spec_BookPieces.top bookR
  rw [spec_AreBookings_f xs h]
  cases hx : booksB xs
  · rfl
  have hv := booksB_val hx
  simp only [and_self, and_true, true_and, decide_true, decide_false, if_true, if_false, mid_get, mid_set, mid_getn, mid_setn, bt_mid, Option.bind_some, Bool.not_true, Bool.not_false, Bool.false_eq_true, Bool.true_eq_false, beq_self_eq_true, bne_self_eq_false, Int.toNat_natCast]
  by_cases h60 : xs.length = 60
  · simp [h60]
  · have e1 : ((xs.length : Int) == 60) = false := by rw [beq_eq_false_iff_ne]; omega
    have e2 : ([] : List (Int × ByteArray × Int)).length + xs.length < room 32 := by rw [room32]; simp; omega
    have e3 : (([] : List (Int × ByteArray × Int)) ++ xs).length + [b].length < room 32 := by rw [room32]; simp; omega
    simp only [e1, e2, e3, h60, and_self, and_true, true_and, decide_true, decide_false, if_true, if_false, mid_get, mid_set, mid_getn, mid_setn, bt_mid, Option.bind_some, Bool.not_true, Bool.not_false, Bool.false_eq_true, Bool.true_eq_false, beq_self_eq_true, bne_self_eq_false, Int.toNat_natCast]
    rw [List.nil_append, spec_AreBookings_f (xs ++ [b]) (ok_snoc h hb (by omega))]
    cases booksB (xs ++ [b]) <;> rfl
theorem bookR_ok (xs : List (Int × ByteArray × Int)) (b : Int × ByteArray × Int) (h : Lm OkBooking xs) (hb : OkBooking b) : Lm OkBooking (bookR xs b).1 := by
  unfold bookR
  split
  · rename_i hx
    have hv := booksB_val hx
    split
    · exact ⟨by simp, by simp⟩
    · split
      · exact ok_snoc h hb (by omega)
      · exact ⟨by simp, by simp⟩
  · exact ⟨by simp, by simp⟩
theorem BookPieces_core (xs : List (Int × ByteArray × Int)) (b : Int × ByteArray × Int) (h : Lm OkBooking xs) (hb : OkBooking b) : ∃ w, spec_BookPieces.f xs b = some w ∧ impl_BookPieces.f xs b = some w ∧ Lm OkBooking w.1 :=
  ⟨_, spec_BookPieces_f xs b h hb, impl_BookPieces_f xs b h hb, bookR_ok xs b h hb⟩
end Go.Pl

namespace Go.Pl
open Go.Ev
set_option linter.unusedVariables false
set_option linter.unusedSimpArgs false
/-- a source of numbers -/
def SrcOk (s : List Int × Int × Int) : Prop := s.1.length ≤ 4096 ∧ (∀ c ∈ s.1, 0 ≤ c ∧ c ≤ 255) ∧ (0 ≤ s.2.1 ∧ s.2.1 ≤ (s.1.length : Int)) ∧ 0 ≤ s.2.2 ∧ s.2.2 < 2147483647
theorem tmod_bd {a n : Int} (h : 0 ≤ a) (hn : 0 < n) : 0 ≤ Int.tmod a n ∧ Int.tmod a n < n := by
  rw [Int.tmod_eq_emod_of_nonneg h]
  exact ⟨Int.emod_nonneg _ (by omega), Int.emod_lt_of_pos _ hn⟩
theorem getD_mem {xs : List Int} {i : Nat} (h : i < xs.length) : xs.getD i 0 ∈ xs := by
  rw [List.getD_eq_getElem?_getD, List.getElem?_eq_getElem h]; exact List.getElem_mem h
theorem next_ok {s : List Int × Int × Int} (hs : SrcOk s) (n : Int) (hn : n ≤ 1000000000000000) : ∃ x s', spec_l01Next.f s n = some (x, s') ∧ SrcOk s' ∧ 0 ≤ x ∧ (x < n ∨ x = 0) := by
  obtain ⟨code, at_, seed⟩ := s
  obtain ⟨h1, h2, h3, h4, h5⟩ := hs
  simp only at h1 h2 h3 h4 h5
  unfold spec_l01Next.f spec_l01Next.fn spec_l01Next.top
  by_cases hn1 : n ≤ 1
  · simp only [hn1, decide_true, if_true]
    exact ⟨0, _, rfl, ⟨h1, h2, h3, h4, h5⟩, by omega, .inr rfl⟩
  have w1 := w64 (n := seed * 48271) (by omega) (by omega)
  have w2 := w64 (n := seed * 48271 + 29) (by omega) (by omega)
  have hm := @tmod_bd (seed * 48271 + 29) 2147483647 (by omega) (by omega)
  have hd : Int.tdiv (Int.tmod (seed * 48271 + 29) 2147483647) 31 = Int.tmod (seed * 48271 + 29) 2147483647 / 31 := Int.tdiv_eq_ediv_of_nonneg hm.1
  have w3 := w64 (n := Int.tdiv (Int.tmod (seed * 48271 + 29) 2147483647) 31) (by omega) (by omega)
  have w4 := w64 (n := at_ + 1) (by omega) (by omega)
  have w5 := w64 (n := at_ + 1 - 1) (by omega) (by omega)
  have hnz : ¬ n = 0 := by omega
  simp only [hn1, decide_false, Bool.false_eq_true, if_false, w1, w2, w3, w4, w5, hnz, decide_eq_true_eq]
  by_cases ha : at_ < (code.length : Int)
  · have hc := h2 _ (getD_mem (show at_.toNat < code.length by omega))
    have hc' : (0 : Int) ≤ at_ + 1 - 1 ∧ at_ + 1 - 1 < (code.length : Int) := by omega
    have e1 : (at_ + 1 - 1).toNat = at_.toNat := by omega
    have w6 := w64 (n := code.getD at_.toNat 0) (by omega) (by omega)
    have w7 := w64 (n := Int.tdiv (Int.tmod (seed * 48271 + 29) 2147483647) 31 + code.getD at_.toNat 0) (by omega) (by omega)
    have b1 := @tmod_bd (code.getD at_.toNat 0) n hc.1 (by omega)
    have b2 := @tmod_bd (Int.tdiv (Int.tmod (seed * 48271 + 29) 2147483647) 31 + code.getD at_.toNat 0) n (by omega) (by omega)
    have hs' : SrcOk (code, at_ + 1, Int.tmod (seed * 48271 + 29) 2147483647) := ⟨h1, h2, ⟨by simp only; omega, by simp only; omega⟩, hm.1, hm.2⟩
    simp only [ha, h3.1, and_self, if_true, hc', e1, w6, w7]
    by_cases h256 : n ≤ 256
    · simp only [h256, if_true]
      split
      · exact ⟨_, _, rfl, hs', b1.1, .inl b1.2⟩
      · exact ⟨_, _, rfl, hs', b2.1, .inl b2.2⟩
    · simp only [h256, if_false]
      exact ⟨_, _, rfl, hs', b2.1, .inl b2.2⟩
  · have b3 := @tmod_bd (Int.tdiv (Int.tmod (seed * 48271 + 29) 2147483647) 31) n (by omega) (by omega)
    simp only [ha, if_false]
    exact ⟨_, _, rfl, ⟨h1, h2, h3, hm.1, hm.2⟩, b3.1, .inl b3.2⟩
theorem pick_ok {s : List Int × Int × Int} (hs : SrcOk s) (xs : List Int) (h : 1 ≤ xs.length) (hl : xs.length ≤ 1000) : ∃ x s', spec_l01Pick.f s xs = some (x, s') ∧ SrcOk s' ∧ x ∈ xs := by
  obtain ⟨x, s', e, h1, h2, h3⟩ := next_ok hs (xs.length : Int) (by omega)
  have hx : x < (xs.length : Int) := by omega
  unfold spec_l01Pick.f spec_l01Pick.fn spec_l01Pick.top
  rw [e]
  simp only [Option.bind_some, h2, hx, and_self, if_true]
  exact ⟨_, _, rfl, h1, getD_mem (by omega)⟩
theorem from_l (code : List Int) (hl : code.length ≤ 4096) (hc : ∀ c ∈ code, 0 ≤ c ∧ c ≤ 255) (c : List Int) (b : Int) : ∀ (d i k : Nat) (seed : Int), i + d = code.length → d < k → 0 ≤ seed → seed < 2147483647 → ∃ seed', spec_l01From.l3 NN k code i c b seed = some (c, b, seed') ∧ 0 ≤ seed' ∧ seed' < 2147483647 := by
  intro d
  induction d with
  | zero =>
    intro i k seed hi hk h0 h1
    obtain ⟨k, rfl⟩ : ∃ j, k = j + 1 := ⟨k - 1, by omega⟩
    have n1 : ¬ (i : Int) < (code.length : Int) := by omega
    exact ⟨seed, by simp only [spec_l01From.l3, spec_l01From.g3, n1, decide_false, Bool.false_eq_true, if_false], h0, h1⟩
  | succ d ih =>
    intro i k seed hi hk h0 h1
    obtain ⟨k, rfl⟩ : ∃ j, k = j + 1 := ⟨k - 1, by omega⟩
    have n1 : (i : Int) < (code.length : Int) := by omega
    by_cases h64 : (i : Int) < 64
    · have hcc := hc _ (getD_mem (show i < code.length by omega))
      have w1 := w64 (n := seed * 83) (by omega) (by omega)
      have w2 := w64 (n := code.getD i 0) (by omega) (by omega)
      have w3 := w64 (n := seed * 83 + code.getD i 0) (by omega) (by omega)
      have w4 := w64 (n := (i : Int) + 1) (by omega) (by omega)
      have hm := @tmod_bd (seed * 83 + code.getD i 0) 2147483647 (by omega) (by omega)
      obtain ⟨s', e1, e2⟩ := ih (i + 1) k (Int.tmod (seed * 83 + code.getD i 0) 2147483647) (by omega) (by omega) hm.1 hm.2
      refine ⟨s', ?_, e2⟩
      simp only [spec_l01From.l3, spec_l01From.g3, n1, h64, decide_true, if_true, Int.toNat_natCast, w1, w2, w3, w4, show (0 : Int) ≤ (i : Int) from by omega, and_self]
      exact e1
    · exact ⟨seed, by simp only [spec_l01From.l3, spec_l01From.g3, n1, h64, decide_true, if_true, decide_false, Bool.false_eq_true, if_false], h0, h1⟩
def CodeOk (code : List Int) : Prop := code.length ≤ 4096 ∧ ∀ c ∈ code, 0 ≤ c ∧ c ≤ 255
theorem from_ok {code : List Int} (h : CodeOk code) : ∃ s, spec_l01From.f code = some s ∧ SrcOk s := by
  obtain ⟨s', e, h1, h2⟩ := from_l code h.1 h.2 code 0 code.length 0 NN 61043 (by omega) (by have := h.1; exact NN_lt (by omega)) (by omega) (by omega)
  exact ⟨(code, 0, s'), e, h.1, h.2, ⟨by simp only; omega, by simp only; omega⟩, h1, h2⟩
theorem big_f (code : List Int) : laws_big.f code = some (decide ((4096 : Int) < (code.length : Int))) := rfl
theorem code_of {code : List Int} (h : Ls (Rg .u8) code) (hb : ¬ (4096 : Int) < (code.length : Int)) : CodeOk code := ⟨by omega, fun c hc => wf8.1 (h.2 c hc)⟩
end Go.Pl

namespace Go.Pl
open Go.Ev
set_option linter.unusedVariables false
noncomputable section
def laws_likeInts.g4 (L4 : List Int → List Int → Int → Option Bool) (a0 : List Int) (b1 : List Int) (i5 : Int) : Option Bool :=
  if (decide ((i5 : Int) < (a0.length : Int))) = true then
    if (0 : Int) ≤ i5 ∧ (i5 : Int) < a0.length then
      if (0 : Int) ≤ i5 ∧ (i5 : Int) < b1.length then
        if (((a0.getD (i5 : Int).toNat 0) : Int) != (b1.getD (i5 : Int).toNat 0)) = true then
          some false
        else
          L4 a0 b1 (IntKind.i64.wrap (i5 + 1))
      else
        none
    else
      none
  else
    some true
def laws_likeInts.l4 (n : Nat) : Nat → List Int → List Int → Int → Option Bool
  | 0 => fun _ _ _ => none
  | k + 1 => laws_likeInts.g4 (laws_likeInts.l4 n k)
def laws_likeInts.top (I4 : List Int → List Int → Int → Option Bool) (a0 : List Int) (b1 : List Int) : Option Bool :=
  if (((a0.length : Int) : Int) != (b1.length : Int)) = true then
    some false
  else
    I4 a0 b1 0
def laws_likeInts.fn (n : Nat) (a0 : List Int) (b1 : List Int) : Option Bool := laws_likeInts.top (laws_likeInts.l4 n n) a0 b1
def laws_likeInts.f (a0 : List Int) (b1 : List Int) : Option Bool := laws_likeInts.fn NN a0 b1
end
end Go.Pl

namespace Go.Pl
open Go.Ev
set_option linter.unusedVariables false
noncomputable section
def laws_hasInt.g2 (L2 : List Int → Int → Int → Option Bool) (list0 : List Int) (x1 : Int) (i5 : Int) : Option Bool :=
  if (decide ((i5 : Int) < (list0.length : Int))) = true then
    if (0 : Int) ≤ i5 ∧ (i5 : Int) < list0.length then
      if (((list0.getD (i5 : Int).toNat 0) : Int) == x1) = true then
        some true
      else
        L2 list0 x1 (IntKind.i64.wrap (i5 + 1))
    else
      none
  else
    some false
def laws_hasInt.l2 (n : Nat) : Nat → List Int → Int → Int → Option Bool
  | 0 => fun _ _ _ => none
  | k + 1 => laws_hasInt.g2 (laws_hasInt.l2 n k)
def laws_hasInt.top (I2 : List Int → Int → Int → Option Bool) (list0 : List Int) (x1 : Int) : Option Bool :=
  I2 list0 x1 0
def laws_hasInt.fn (n : Nat) (list0 : List Int) (x1 : Int) : Option Bool := laws_hasInt.top (laws_hasInt.l2 n n) list0 x1
def laws_hasInt.f (list0 : List Int) (x1 : Int) : Option Bool := laws_hasInt.fn NN list0 x1
end
end Go.Pl

namespace Go.Pl
open Go.Ev
set_option linter.unusedVariables false
set_option linter.unusedSimpArgs false
theorem likeInts_self (a : List Int) (hl : a.length ≤ 140737488355328) : laws_likeInts.f a a = some true := by
  unfold laws_likeInts.f laws_likeInts.fn laws_likeInts.top
  simp only [bne_self_eq_false, Bool.false_eq_true, if_false]
  refine eqS_loop (E := fun _ => True) (fun k a b i => laws_likeInts.l4 NN k a b i) a (fun _ _ => trivial) ?_ ?_ NN (NN_lt (by omega))
  · intro k p x r hx ha
    subst ha
    have hm := mid_len p r x
    have c1 : (p.length : Int) < ((p ++ x :: r).length : Int) := by omega
    have c0 : (0 : Int) ≤ (p.length : Int) := by omega
    have cw := w64 (n := (p.length : Int) + 1) (by omega) (by omega)
    simp only [laws_likeInts.l4, laws_likeInts.g4, c0, c1, cw, and_self, and_true, true_and, decide_true, decide_false, if_true, if_false, mid_get, mid_set, mid_getn, mid_setn, bt_mid, Option.bind_some, Bool.not_true, Bool.not_false, Bool.false_eq_true, Bool.true_eq_false, beq_self_eq_true, bne_self_eq_false, Int.toNat_natCast]
  · intro k
    simp [laws_likeInts.l4, laws_likeInts.g4]
theorem hasInt_f (xs : List Int) (x : Int) (hl : xs.length ≤ 140737488355328) : laws_hasInt.f xs x = some (decide (x ∈ xs)) := by
  have := find_loop (E := fun _ => True) (fun c : Int => c == x) (fun _ _ => some true) (fun _ => some false) (fun k xs i => laws_hasInt.l2 NN k xs x i) ?_ ?_ xs (fun _ _ => trivial) (by omega) NN (NN_lt (by omega))
  · refine this.trans ?_
    have key : ∀ (xs : List Int) (i : Nat), (firstOf (fun c : Int => c == x) i xs).elim (some false) (fun _ => some true) = some (decide (x ∈ xs)) := by
      intro xs
      induction xs with
      | nil => intro i; simp [firstOf]
      | cons a r ih =>
        intro i
        by_cases h : a = x
        · subst h; simp [firstOf]
        · have h1 : (a == x) = false := by rw [beq_eq_false_iff_ne]; exact h
          have h2 : ¬ x = a := fun e => h e.symm
          simp only [firstOf, h1, Bool.false_eq_true, if_false, List.mem_cons, h2, false_or]
          exact ih _
    exact key xs 0
  · intro k p
    simp [laws_hasInt.l2, laws_hasInt.g2]
  · intro k p a r _ c0 c1 c2 cw
    simp only [laws_hasInt.l2, laws_hasInt.g2, c0, c1, cw, and_self, and_true, true_and, decide_true, decide_false, if_true, if_false, mid_get, mid_set, mid_getn, mid_setn, bt_mid, Option.bind_some, Bool.not_true, Bool.not_false, Bool.false_eq_true, Bool.true_eq_false, beq_self_eq_true, bne_self_eq_false, Int.toNat_natCast]
end Go.Pl

namespace Go.Pl
open Go.Ev
set_option linter.unusedVariables false
noncomputable section
def spec_l32Good.g4 (L4 : Int → (List Int × Int × Int) → (List (Int × ByteArray × Int)) → List ByteArray → Option ((List (Int × ByteArray × Int)) × List Int × Int × Int)) (n5 : Int) (s0 : List Int × Int × Int) (out3 : List (Int × ByteArray × Int)) (names4 : List ByteArray) : Option ((List (Int × ByteArray × Int)) × List Int × Int × Int) :=
  if (decide ((0 : Int) < n5)) = true then
    (spec_l01Next.f s0 4).bind fun r3 =>
    (spec_l01Next.f r3.2 4).bind fun r4 =>
    if (0 : Int) ≤ r4.1 ∧ (r4.1 : Int) < names4.length then
      (spec_l01Next.f r4.2 12).bind fun r5 =>
      (spec_l32Left.f out3 (names4.getD (r4.1 : Int).toNat ByteArray.empty) (out3.length : Int)).bind fun r6 =>
      if (decide ((0 : Int) < r3.1)) = true then
        if (decide ((0 : Int) < r6)) = true then
          (spec_l01Next.f r5.2 2).bind fun r7 =>
          if ((r7.1 : Int) == 0) = true then
            if ((r6 : Int) == 0) = true then
              (spec_BookPieces.f out3 (0, (names4.getD (r4.1 : Int).toNat ByteArray.empty, (if r6 < 1000 then r6 else 1000)))).bind fun r8 =>
              if ((r8.2 : Int) == 0) = true then
                L4 (IntKind.i64.wrap (n5 - 1)) r7.2 r8.1 names4
              else
                L4 (IntKind.i64.wrap (n5 - 1)) r7.2 out3 names4
            else
              (spec_BookPieces.f out3 (r3.1, (names4.getD (r4.1 : Int).toNat ByteArray.empty, (if r6 < 1000 then r6 else 1000)))).bind fun r9 =>
              if ((r9.2 : Int) == 0) = true then
                L4 (IntKind.i64.wrap (n5 - 1)) r7.2 r9.1 names4
              else
                L4 (IntKind.i64.wrap (n5 - 1)) r7.2 out3 names4
          else if ((r6 : Int) == 0) = true then
            (spec_BookPieces.f out3 (0, (names4.getD (r4.1 : Int).toNat ByteArray.empty, IntKind.i64.wrap (1 + r5.1)))).bind fun r10 =>
            if ((r10.2 : Int) == 0) = true then
              L4 (IntKind.i64.wrap (n5 - 1)) r7.2 r10.1 names4
            else
              L4 (IntKind.i64.wrap (n5 - 1)) r7.2 out3 names4
          else
            (spec_BookPieces.f out3 (r3.1, (names4.getD (r4.1 : Int).toNat ByteArray.empty, IntKind.i64.wrap (1 + r5.1)))).bind fun r11 =>
            if ((r11.2 : Int) == 0) = true then
              L4 (IntKind.i64.wrap (n5 - 1)) r7.2 r11.1 names4
            else
              L4 (IntKind.i64.wrap (n5 - 1)) r7.2 out3 names4
        else if ((r6 : Int) == 0) = true then
          (spec_BookPieces.f out3 (0, (names4.getD (r4.1 : Int).toNat ByteArray.empty, IntKind.i64.wrap (1 + r5.1)))).bind fun r12 =>
          if ((r12.2 : Int) == 0) = true then
            L4 (IntKind.i64.wrap (n5 - 1)) r5.2 r12.1 names4
          else
            L4 (IntKind.i64.wrap (n5 - 1)) r5.2 out3 names4
        else
          (spec_BookPieces.f out3 (r3.1, (names4.getD (r4.1 : Int).toNat ByteArray.empty, IntKind.i64.wrap (1 + r5.1)))).bind fun r13 =>
          if ((r13.2 : Int) == 0) = true then
            L4 (IntKind.i64.wrap (n5 - 1)) r5.2 r13.1 names4
          else
            L4 (IntKind.i64.wrap (n5 - 1)) r5.2 out3 names4
      else if ((r6 : Int) == 0) = true then
        (spec_BookPieces.f out3 (0, (names4.getD (r4.1 : Int).toNat ByteArray.empty, IntKind.i64.wrap (1 + r5.1)))).bind fun r14 =>
        if ((r14.2 : Int) == 0) = true then
          L4 (IntKind.i64.wrap (n5 - 1)) r5.2 r14.1 names4
        else
          L4 (IntKind.i64.wrap (n5 - 1)) r5.2 out3 names4
      else
        (spec_BookPieces.f out3 (r3.1, (names4.getD (r4.1 : Int).toNat ByteArray.empty, IntKind.i64.wrap (1 + r5.1)))).bind fun r15 =>
        if ((r15.2 : Int) == 0) = true then
          L4 (IntKind.i64.wrap (n5 - 1)) r5.2 r15.1 names4
        else
          L4 (IntKind.i64.wrap (n5 - 1)) r5.2 out3 names4
    else
      none
  else
    some (out3, s0)
def spec_l32Good.l4 (n : Nat) : Nat → Int → (List Int × Int × Int) → (List (Int × ByteArray × Int)) → List ByteArray → Option ((List (Int × ByteArray × Int)) × List Int × Int × Int)
  | 0 => fun _ _ _ _ => none
  | k + 1 => spec_l32Good.g4 (spec_l32Good.l4 n k)
def spec_l32Good.top (I4 : Int → (List Int × Int × Int) → (List (Int × ByteArray × Int)) → List ByteArray → Option ((List (Int × ByteArray × Int)) × List Int × Int × Int)) (s0 : List Int × Int × Int) : Option ((List (Int × ByteArray × Int)) × List Int × Int × Int) :=
  (spec_l03Names.f).bind fun r1 =>
  (spec_l01Next.f s0 10).bind fun r2 =>
  I4 r2.1 r2.2 [] r1
def spec_l32Good.fn (n : Nat) (s0 : List Int × Int × Int) : Option ((List (Int × ByteArray × Int)) × List Int × Int × Int) := spec_l32Good.top (spec_l32Good.l4 n n) s0
def spec_l32Good.f (s0 : List Int × Int × Int) : Option ((List (Int × ByteArray × Int)) × List Int × Int × Int) := spec_l32Good.fn NN s0
end
end Go.Pl

namespace Go.Pl
open Go.Ev
set_option linter.unusedVariables false
noncomputable section
def spec_l32Draw.g6 (L6 : (List Int × Int × Int) → (List (Int × ByteArray × Int)) → Option ((List (Int × ByteArray × Int)) × List Int × Int × Int)) (s0 : List Int × Int × Int) (out3 : List (Int × ByteArray × Int)) : Option ((List (Int × ByteArray × Int)) × List Int × Int × Int) :=
  (spec_l01Next.f s0 2).bind fun r6 =>
  if (decide (((out3.length : Int) : Int) < (IntKind.i64.wrap (60 + r6.1)))) = true then
    if out3.length + ([(0, ((⟨#[112, 97, 108, 109]⟩ : ByteArray), 1))]).length < room 32 then
      L6 r6.2 (out3 ++ ([(0, ((⟨#[112, 97, 108, 109]⟩ : ByteArray), 1))]))
    else
      none
  else
    some (out3, r6.2)
def spec_l32Draw.l6 (n : Nat) : Nat → (List Int × Int × Int) → (List (Int × ByteArray × Int)) → Option ((List (Int × ByteArray × Int)) × List Int × Int × Int)
  | 0 => fun _ _ => none
  | k + 1 => spec_l32Draw.g6 (spec_l32Draw.l6 n k)
def spec_l32Draw.top (I6 : (List Int × Int × Int) → (List (Int × ByteArray × Int)) → Option ((List (Int × ByteArray × Int)) × List Int × Int × Int)) (s0 : List Int × Int × Int) : Option ((List (Int × ByteArray × Int)) × List Int × Int × Int) :=
  (spec_l32Good.f s0).bind fun r1 =>
  (spec_l01Next.f r1.2 30).bind fun r2 =>
  if ((r2.1 : Int) == 0) = true then
    (spec_l01Next.f r2.2 6).bind fun r3 =>
    (spec_l01DrawWord.f r3.2).bind fun r4 =>
    (spec_l01Pick.f r4.2 ([0, 1, 1000, 1001])).bind fun r5 =>
    if r1.1.length + ([(IntKind.i64.wrap (r3.1 - 1), (r4.1, r5.1))]).length < room 32 then
      some (r1.1 ++ ([(IntKind.i64.wrap (r3.1 - 1), (r4.1, r5.1))]), r5.2)
    else
      none
  else if ((r2.1 : Int) == 1) = true then
    I6 r2.2 r1.1
  else if ((r2.1 : Int) == 2) = true then
    if r1.1.length + ([(0, ((⟨#[97, 115, 116, 101, 114]⟩ : ByteArray), 1000)), (0, ((⟨#[97, 115, 116, 101, 114]⟩ : ByteArray), 700))]).length < room 32 then
      some (r1.1 ++ ([(0, ((⟨#[97, 115, 116, 101, 114]⟩ : ByteArray), 1000)), (0, ((⟨#[97, 115, 116, 101, 114]⟩ : ByteArray), 700))]), r2.2)
    else
      none
  else
    some (r1.1, r2.2)
def spec_l32Draw.fn (n : Nat) (s0 : List Int × Int × Int) : Option ((List (Int × ByteArray × Int)) × List Int × Int × Int) := spec_l32Draw.top (spec_l32Draw.l6 n n) s0
def spec_l32Draw.f (s0 : List Int × Int × Int) : Option ((List (Int × ByteArray × Int)) × List Int × Int × Int) := spec_l32Draw.fn NN s0
end
end Go.Pl

namespace Go.Pl
open Go.Ev
set_option linter.unusedVariables false
noncomputable section
def spec_DrawBookPieces.top (code0 : List Int) : Option ((List (Int × ByteArray × Int)) × Int × ByteArray × Int) :=
  (spec_l01From.f code0).bind fun r1 =>
  (spec_l32Draw.f r1).bind fun r2 =>
  (spec_l01Next.f r2.2 4).bind fun r3 =>
  (spec_l03Names.f).bind fun r4 =>
  (spec_l01Next.f r3.2 5).bind fun r5 =>
  if (0 : Int) ≤ r5.1 ∧ (r5.1 : Int) < r4.length then
    (spec_l01Next.f r5.2 12).bind fun r6 =>
    (spec_l01Next.f r6.2 4).bind fun r7 =>
    (spec_l01Pick.f r7.2 ([IntKind.i64.wrap (1 + r6.1), 1, 1000, 1001, IntKind.i64.wrap (1 + r7.1)])).bind fun r8 =>
    some (r2.1, (r3.1, (r4.getD (r5.1 : Int).toNat ByteArray.empty, r8.1)))
  else
    none
def spec_DrawBookPieces.fn (n : Nat) (code0 : List Int) : Option ((List (Int × ByteArray × Int)) × Int × ByteArray × Int) := spec_DrawBookPieces.top code0
def spec_DrawBookPieces.f (code0 : List Int) : Option ((List (Int × ByteArray × Int)) × Int × ByteArray × Int) := spec_DrawBookPieces.fn NN code0
end
end Go.Pl

namespace Go.Pl
open Go.Ev
set_option linter.unusedVariables false
noncomputable section
def spec_DrawPiecesLeft.top (code0 : List Int) : Option ((List (Int × ByteArray × Int)) × ByteArray) :=
  (spec_l01From.f code0).bind fun r1 =>
  (spec_l32Draw.f r1).bind fun r2 =>
  (spec_l01Next.f r2.2 16).bind fun r3 =>
  if ((r3.1 : Int) == 0) = true then
    (spec_l01DrawWord.f r3.2).bind fun r4 =>
    some (r2.1, r4.1)
  else
    (spec_l03Names.f).bind fun r5 =>
    (spec_l01Next.f r3.2 5).bind fun r6 =>
    if (0 : Int) ≤ r6.1 ∧ (r6.1 : Int) < r5.length then
      some (r2.1, r5.getD (r6.1 : Int).toNat ByteArray.empty)
    else
      none
def spec_DrawPiecesLeft.fn (n : Nat) (code0 : List Int) : Option ((List (Int × ByteArray × Int)) × ByteArray) := spec_DrawPiecesLeft.top code0
def spec_DrawPiecesLeft.f (code0 : List Int) : Option ((List (Int × ByteArray × Int)) × ByteArray) := spec_DrawPiecesLeft.fn NN code0
end
end Go.Pl

namespace Go.Pl
open Go.Ev
set_option linter.unusedVariables false
noncomputable section
def spec_DrawTotalsOf.top (code0 : List Int) : Option ((List (Int × ByteArray × Int)) × ByteArray) :=
  (spec_DrawPiecesLeft.f code0).bind fun r1 =>
  some (r1.1, r1.2)
def spec_DrawTotalsOf.fn (n : Nat) (code0 : List Int) : Option ((List (Int × ByteArray × Int)) × ByteArray) := spec_DrawTotalsOf.top code0
def spec_DrawTotalsOf.f (code0 : List Int) : Option ((List (Int × ByteArray × Int)) × ByteArray) := spec_DrawTotalsOf.fn NN code0
end
end Go.Pl

namespace Go.Pl
open Go.Ev
set_option linter.unusedVariables false
noncomputable section
def laws_likeBookings.g4 (L4 : (List (Int × ByteArray × Int)) → (List (Int × ByteArray × Int)) → Int → Option Bool) (a0 : List (Int × ByteArray × Int)) (b1 : List (Int × ByteArray × Int)) (i5 : Int) : Option Bool :=
  if (decide ((i5 : Int) < (a0.length : Int))) = true then
    if (0 : Int) ≤ i5 ∧ (i5 : Int) < a0.length then
      if (0 : Int) ≤ i5 ∧ (i5 : Int) < b1.length then
        if (!(((((a0.getD (i5 : Int).toNat (0, (ByteArray.empty, 0))).1) : Int) == ((b1.getD (i5 : Int).toNat (0, (ByteArray.empty, 0))).1)) && (((((a0.getD (i5 : Int).toNat (0, (ByteArray.empty, 0))).2).1).toList == (((b1.getD (i5 : Int).toNat (0, (ByteArray.empty, 0))).2).1).toList) && (((((a0.getD (i5 : Int).toNat (0, (ByteArray.empty, 0))).2).2) : Int) == (((b1.getD (i5 : Int).toNat (0, (ByteArray.empty, 0))).2).2))))) = true then
          some false
        else
          L4 a0 b1 (IntKind.i64.wrap (i5 + 1))
      else
        none
    else
      none
  else
    some true
def laws_likeBookings.l4 (n : Nat) : Nat → (List (Int × ByteArray × Int)) → (List (Int × ByteArray × Int)) → Int → Option Bool
  | 0 => fun _ _ _ => none
  | k + 1 => laws_likeBookings.g4 (laws_likeBookings.l4 n k)
def laws_likeBookings.top (I4 : (List (Int × ByteArray × Int)) → (List (Int × ByteArray × Int)) → Int → Option Bool) (a0 : List (Int × ByteArray × Int)) (b1 : List (Int × ByteArray × Int)) : Option Bool :=
  if (((a0.length : Int) : Int) != (b1.length : Int)) = true then
    some false
  else
    I4 a0 b1 0
def laws_likeBookings.fn (n : Nat) (a0 : List (Int × ByteArray × Int)) (b1 : List (Int × ByteArray × Int)) : Option Bool := laws_likeBookings.top (laws_likeBookings.l4 n n) a0 b1
def laws_likeBookings.f (a0 : List (Int × ByteArray × Int)) (b1 : List (Int × ByteArray × Int)) : Option Bool := laws_likeBookings.fn NN a0 b1
end
end Go.Pl

namespace Go.Pl
open Go.Ev
set_option linter.unusedVariables false
set_option linter.unusedSimpArgs false
theorem getB_mem {xs : List ByteArray} {i : Nat} (h : i < xs.length) : xs.getD i ByteArray.empty ∈ xs := by
  rw [List.getD_eq_getElem?_getD, List.getElem?_eq_getElem h]; exact List.getElem_mem h
def names6 : List ByteArray := [(⟨#[97, 115, 116, 101, 114]⟩ : ByteArray), (⟨#[99, 111, 109, 101, 116]⟩ : ByteArray), (⟨#[100, 97, 104, 108, 105, 97]⟩ : ByteArray), (⟨#[112, 97, 108, 109]⟩ : ByteArray), (⟨#[112, 101, 111, 110, 121]⟩ : ByteArray), (⟨#[119, 105, 108, 108, 111, 119]⟩ : ByteArray)]
theorem names_f : spec_l03Names.f = some names6 := rfl
theorem names6_len : names6.length = 6 := rfl
theorem names6_sm : ∀ c ∈ names6, Sm c := by
  intro c hc
  unfold names6 at hc
  simp only [List.mem_cons, List.not_mem_nil, or_false] at hc
  unfold Sm
  rcases hc with h | h | h | h | h | h <;> (rw [h]; exact Nat.le_of_ble_eq_true rfl)
theorem good01_ok {s : List Int × Int × Int} (hs : SrcOk s) : ∃ u s', spec_l01Good.f s = some (u, s') ∧ SrcOk s' ∧ Sm u := by
  unfold spec_l01Good.f spec_l01Good.fn spec_l01Good.top
  obtain ⟨a, s1, e1, o1, a0, a1⟩ := next_ok hs 12 (by omega)
  rw [e1]
  simp only [Option.bind_some]
  rw [if_pos ⟨a0, by simp only [List.length_cons, List.length_nil]; omega⟩]
  refine ⟨_, _, rfl, o1, ?_⟩
  have hm := getB_mem (xs := [(⟨#[97, 100, 97]⟩ : ByteArray), (⟨#[98, 114, 117, 110, 111]⟩ : ByteArray), (⟨#[99, 108, 97, 114, 97]⟩ : ByteArray), (⟨#[100, 111, 114, 97]⟩ : ByteArray), (⟨#[101, 109, 105, 108]⟩ : ByteArray), (⟨#[102, 114, 105, 100, 97]⟩ : ByteArray), (⟨#[103, 117, 115, 116, 97, 118]⟩ : ByteArray), (⟨#[104, 97, 110, 110, 97]⟩ : ByteArray), (⟨#[105, 118, 97, 110]⟩ : ByteArray), (⟨#[106, 97, 110, 97]⟩ : ByteArray), (⟨#[107, 97, 114, 108]⟩ : ByteArray), (⟨#[108, 101, 110, 97]⟩ : ByteArray)]) (i := a.toNat) (by simp only [List.length_cons, List.length_nil]; omega)
  revert hm
  generalize List.getD _ a.toNat ByteArray.empty = c
  intro hc
  simp only [List.mem_cons, List.not_mem_nil, or_false] at hc
  unfold Sm
  rcases hc with h | h | h | h | h | h | h | h | h | h | h | h <;> (rw [h]; exact Nat.le_of_ble_eq_true rfl)
theorem drawWord_ok {s : List Int × Int × Int} (hs : SrcOk s) : ∃ u s', spec_l01DrawWord.f s = some (u, s') ∧ SrcOk s' ∧ Sm u := by
  unfold spec_l01DrawWord.f spec_l01DrawWord.fn spec_l01DrawWord.top
  obtain ⟨a, s1, e1, o1, a0, a1⟩ := next_ok hs 24 (by omega)
  obtain ⟨b, s2, e2, o2, b0, b1⟩ := next_ok o1 6 (by omega)
  obtain ⟨u, s3, e3, o3, u1⟩ := good01_ok o1
  rw [e1]
  simp only [Option.bind_some, e2, e3]
  split
  · rw [if_pos ⟨b0, by simp only [List.length_cons, List.length_nil]; omega⟩]
    refine ⟨_, _, rfl, o2, ?_⟩
    have hm := getB_mem (xs := [(⟨#[]⟩ : ByteArray), (⟨#[65, 100, 97]⟩ : ByteArray), (⟨#[97, 49]⟩ : ByteArray), (⟨#[97, 98, 99, 100, 101, 102, 103, 104, 105, 106, 107, 108, 109, 110, 111, 112]⟩ : ByteArray), (⟨#[97, 98, 99, 100, 101, 102, 103, 104, 105, 106, 107, 108, 109, 110, 111, 112, 113]⟩ : ByteArray), (⟨#[97, 32, 98]⟩ : ByteArray)]) (i := b.toNat) (by simp only [List.length_cons, List.length_nil]; omega)
    revert hm
    generalize List.getD _ b.toNat ByteArray.empty = c
    intro hc
    simp only [List.mem_cons, List.not_mem_nil, or_false] at hc
    unfold Sm
    rcases hc with h | h | h | h | h | h <;> (rw [h]; exact Nat.le_of_ble_eq_true rfl)
  · exact ⟨_, _, rfl, o3, u1⟩
theorem mkB {a c : Int} {n : ByteArray} (h1 : -9223372036854775808 ≤ a ∧ a ≤ 9223372036854775807) (h2 : Sm n) (h3 : -9223372036854775808 ≤ c ∧ c ≤ 9223372036854775807) : OkBooking (a, n, c) := ⟨wf64.2 h1, h2, wf64.2 h3⟩
theorem bookR_zero {xs : List (Int × ByteArray × Int)} {b : Int × ByteArray × Int} (h : (bookR xs b).2 = 0) : booksB xs = true ∧ (bookR xs b).1 = xs ++ [b] ∧ booksB (xs ++ [b]) = true := by
  unfold bookR at h ⊢
  by_cases h1 : booksB xs = true
  · rw [if_pos h1] at h ⊢
    by_cases h2 : xs.length = 60
    · rw [if_pos h2] at h; simp at h
    · rw [if_neg h2] at h ⊢
      by_cases h3 : booksB (xs ++ [b]) = true
      · rw [if_pos h3]; exact ⟨h1, rfl, h3⟩
      · rw [if_neg h3] at h; simp at h
  · rw [if_neg h1] at h; simp at h
theorem bookR_one (xs : List (Int × ByteArray × Int)) (b : Int × ByteArray × Int) : ((bookR xs b).2 != 1) = booksB xs := by
  unfold bookR
  cases h1 : booksB xs
  · rfl
  · by_cases h2 : xs.length = 60
    · simp [h2]
    · by_cases h3 : booksB (xs ++ [b]) = true
      · simp [h2, h3]
      · simp [h2, h3]
theorem good32_l : ∀ (d k : Nat) (s : List Int × Int × Int) (out : List (Int × ByteArray × Int)), d < k → d ≤ 1000 → SrcOk s → booksB out = true → Lm OkBooking out →
    ∃ o' s', spec_l32Good.l4 NN k d s out names6 = some (o', s') ∧ SrcOk s' ∧ booksB o' = true ∧ Lm OkBooking o' := by
  intro d
  induction d with
  | zero =>
    intro k s out hk _ hs hb hl
    obtain ⟨k, rfl⟩ : ∃ j, k = j + 1 := ⟨k - 1, by omega⟩
    exact ⟨out, s, by simp [spec_l32Good.l4, spec_l32Good.g4], hs, hb, hl⟩
  | succ d ih =>
    intro k s out hk hd hs hb hl
    obtain ⟨k, rfl⟩ : ∃ j, k = j + 1 := ⟨k - 1, by omega⟩
    obtain ⟨a, s1, e1, o1, a0, a1⟩ := next_ok hs 4 (by omega)
    obtain ⟨c, s2, e2, o2, c0, c1⟩ := next_ok o1 4 (by omega)
    obtain ⟨n, s3, e3, o3, n0, n1⟩ := next_ok o2 12 (by omega)
    obtain ⟨f, s4, e4, o4, f0, f1⟩ := next_ok o3 2 (by omega)
    have hv := booksB_val hb
    have hc : c < (names6.length : Int) := by rw [names6_len]; omega
    have hm := names6_sm _ (getB_mem (show c.toNat < names6.length by rw [names6_len]; omega))
    have hleft := leftOf_le (names6.getD c.toNat ByteArray.empty) out hv.1
    have z := l32Left_all out (names6.getD c.toNat ByteArray.empty) hv.1 (by omega)
    have hv2 := hv.2
    have w1 : IntKind.i64.wrap (((d + 1 : Nat) : Int) - 1) = (d : Int) := by rw [w64 (by omega) (by omega)]; omega
    have w2 := w64 (n := 1 + n) (by omega) (by omega)
    have bk : ∀ (b : Int × ByteArray × Int) (s' : List Int × Int × Int), OkBooking b → SrcOk s' → ∃ o' s'', ((spec_BookPieces.f out b).bind fun r => if ((r.2 : Int) == 0) = true then spec_l32Good.l4 NN k d s' r.1 names6 else spec_l32Good.l4 NN k d s' out names6) = some (o', s'') ∧ SrcOk s'' ∧ booksB o' = true ∧ Lm OkBooking o' := by
      intro b s' hb' hs'
      rw [spec_BookPieces_f out b hl hb']
      simp only [Option.bind_some]
      by_cases h0 : (bookR out b).2 = 0
      · rw [if_pos (by rw [h0]; rfl)]
        have := bookR_zero h0
        exact ih k s' _ (by omega) (by omega) hs' (by rw [this.2.1]; exact this.2.2) (bookR_ok out b hl hb')
      · rw [if_neg (by simpa using h0)]
        exact ih k s' out (by omega) (by omega) hs' hb hl
    simp only [spec_l32Good.l4, spec_l32Good.g4, show (0 : Int) < ((d + 1 : Nat) : Int) from by omega, decide_true, if_true, e1, e2, e3, e4, z, hc, c0, and_self, Option.bind_some, w1, w2]
    generalize names6.getD c.toNat ByteArray.empty = nm at hm hleft
    generalize leftOf out nm = lf at hleft
    have hmin : -9223372036854775808 ≤ (if lf < 1000 then lf else 1000) ∧ (if lf < 1000 then lf else 1000) ≤ 9223372036854775807 := by split <;> omega
    generalize (if lf < 1000 then lf else 1000) = mn at hmin
    by_cases h1 : 0 < a
    · by_cases h2 : 0 < lf
      · have f4 : (lf == 0) = false := by rw [beq_eq_false_iff_ne]; omega
        by_cases h3 : f = 0
        · have f3 : (f == 0) = true := by rw [h3]; rfl
          simp only [decide_eq_true h1, decide_eq_true h2, f3, f4, if_true, Bool.false_eq_true, if_false]
          exact bk (a, nm, mn) s4 (mkB (by omega) hm hmin) o4
        · have f3 : (f == 0) = false := by rw [beq_eq_false_iff_ne]; exact h3
          simp only [decide_eq_true h1, decide_eq_true h2, f3, f4, if_true, Bool.false_eq_true, if_false]
          exact bk (a, nm, 1 + n) s4 (mkB (by omega) hm (by omega)) o4
      · by_cases h4 : lf = 0
        · have f4 : (lf == 0) = true := by rw [h4]; rfl
          simp only [decide_eq_true h1, decide_eq_false h2, f4, if_true, Bool.false_eq_true, if_false]
          exact bk (0, nm, 1 + n) s3 (mkB (by omega) hm (by omega)) o3
        · have f4 : (lf == 0) = false := by rw [beq_eq_false_iff_ne]; exact h4
          simp only [decide_eq_true h1, decide_eq_false h2, f4, if_true, Bool.false_eq_true, if_false]
          exact bk (a, nm, 1 + n) s3 (mkB (by omega) hm (by omega)) o3
    · by_cases h4 : lf = 0
      · have f4 : (lf == 0) = true := by rw [h4]; rfl
        simp only [decide_eq_false h1, f4, if_true, Bool.false_eq_true, if_false]
        exact bk (0, nm, 1 + n) s3 (mkB (by omega) hm (by omega)) o3
      · have f4 : (lf == 0) = false := by rw [beq_eq_false_iff_ne]; exact h4
        simp only [decide_eq_false h1, f4, if_true, Bool.false_eq_true, if_false]
        exact bk (a, nm, 1 + n) s3 (mkB (by omega) hm (by omega)) o3
theorem good32_ok {s : List Int × Int × Int} (hs : SrcOk s) : ∃ o s', spec_l32Good.f s = some (o, s') ∧ SrcOk s' ∧ booksB o = true ∧ Lm OkBooking o := by
  unfold spec_l32Good.f spec_l32Good.fn spec_l32Good.top
  obtain ⟨n, s1, e1, o1, n0, n1⟩ := next_ok hs 10 (by omega)
  obtain ⟨N, hN⟩ := Int.eq_ofNat_of_zero_le n0
  subst hN
  simp only [names_f, e1, Option.bind_some]
  exact good32_l N NN s1 [] (NN_lt (by omega)) (by omega) o1 rfl ⟨by simp, by simp⟩
theorem draw32_l : ∀ (d k : Nat) (s : List Int × Int × Int) (out : List (Int × ByteArray × Int)), out.length + d = 62 → d < k → SrcOk s → Lm OkBooking out →
    ∃ o s', spec_l32Draw.l6 NN k s out = some (o, s') ∧ SrcOk s' ∧ Lm OkBooking o := by
  intro d
  induction d with
  | zero =>
    intro k s out hd hk hs hl
    obtain ⟨k, rfl⟩ : ∃ j, k = j + 1 := ⟨k - 1, by omega⟩
    obtain ⟨a, s1, e1, o1, a0, a1⟩ := next_ok hs 2 (by omega)
    have w := w64 (n := 60 + a) (by omega) (by omega)
    have n1 : ¬ (out.length : Int) < 60 + a := by omega
    simp only [spec_l32Draw.l6, spec_l32Draw.g6, e1, Option.bind_some, w, n1, decide_false, Bool.false_eq_true, if_false]
    exact ⟨_, _, rfl, o1, hl⟩
  | succ d ih =>
    intro k s out hd hk hs hl
    obtain ⟨k, rfl⟩ : ∃ j, k = j + 1 := ⟨k - 1, by omega⟩
    obtain ⟨a, s1, e1, o1, a0, a1⟩ := next_ok hs 2 (by omega)
    have w := w64 (n := 60 + a) (by omega) (by omega)
    by_cases n1 : (out.length : Int) < 60 + a
    · simp only [spec_l32Draw.l6, spec_l32Draw.g6, e1, Option.bind_some, w, n1, decide_true, if_true]
      rw [if_pos (by rw [room32]; simp; omega)]
      exact ih k s1 _ (by simp; omega) (by omega) o1 (ok_snoc hl (mkB (by omega) (Nat.le_of_ble_eq_true rfl) (by omega)) (by omega))
    · simp only [spec_l32Draw.l6, spec_l32Draw.g6, e1, Option.bind_some, w, n1, decide_false, Bool.false_eq_true, if_false]
      exact ⟨_, _, rfl, o1, hl⟩
theorem draw32_ok {s : List Int × Int × Int} (hs : SrcOk s) : ∃ o s', spec_l32Draw.f s = some (o, s') ∧ SrcOk s' ∧ Lm OkBooking o := by
  unfold spec_l32Draw.f spec_l32Draw.fn spec_l32Draw.top
  obtain ⟨o, s1, e1, o1, b1, l1⟩ := good32_ok hs
  have hv := (booksB_val b1).2
  obtain ⟨x, s2, e2, o2, x0, x1⟩ := next_ok o1 30 (by omega)
  obtain ⟨y, s3, e3, o3, y0, y1⟩ := next_ok o2 6 (by omega)
  obtain ⟨u, s4, e4, o4, u1⟩ := drawWord_ok o3
  obtain ⟨c, s5, e5, o5, c1⟩ := pick_ok o4 [0, 1, 1000, 1001] (by simp) (by simp)
  have hc : 0 ≤ c ∧ c ≤ 1001 := by simp at c1; omega
  have w := w64 (n := y - 1) (by omega) (by omega)
  simp only [e1, e2, e3, e4, e5, Option.bind_some, w]
  by_cases h0 : x = 0
  · simp only [h0, beq_self_eq_true, if_true]
    rw [if_pos (by rw [room32]; simp; omega)]
    exact ⟨_, _, rfl, o5, ok_snoc l1 (mkB (by omega) u1 (by omega)) (by omega)⟩
  · by_cases h1 : x = 1
    · simp only [h1, beq_iff_eq, show ¬ (1 : Int) = 0 from by omega, if_true, if_false]
      exact draw32_l (62 - o.length) NN s2 o (by omega) (NN_lt (by omega)) o2 l1
    · by_cases h2 : x = 2
      · simp only [h2, beq_iff_eq, show ¬ (2 : Int) = 0 from by omega, show ¬ (2 : Int) = 1 from by omega, if_true, if_false]
        rw [if_pos (by rw [room32]; simp; omega)]
        refine ⟨_, _, rfl, o2, ?_⟩
        have q1 := ok_snoc l1 (mkB (a := 0) (n := (⟨#[97, 115, 116, 101, 114]⟩ : ByteArray)) (c := 1000) (by omega) (Nat.le_of_ble_eq_true rfl) (by omega)) (by omega)
        have q2 := ok_snoc q1 (mkB (a := 0) (n := (⟨#[97, 115, 116, 101, 114]⟩ : ByteArray)) (c := 700) (by omega) (Nat.le_of_ble_eq_true rfl) (by omega)) (by simp; omega)
        rw [List.append_assoc] at q2
        exact q2
      · simp only [h0, h1, h2, beq_iff_eq, if_false]
        exact ⟨_, _, rfl, o2, l1⟩
theorem drawBook_ok {code : List Int} (h : CodeOk code) : ∃ o b, spec_DrawBookPieces.f code = some (o, b) ∧ Lm OkBooking o ∧ OkBooking b := by
  unfold spec_DrawBookPieces.f spec_DrawBookPieces.fn spec_DrawBookPieces.top
  obtain ⟨s, e, ho⟩ := from_ok h
  obtain ⟨o, s1, e1, o1, l1⟩ := draw32_ok ho
  obtain ⟨x, s2, e2, o2, x0, x1⟩ := next_ok o1 4 (by omega)
  obtain ⟨y, s3, e3, o3, y0, y1⟩ := next_ok o2 5 (by omega)
  obtain ⟨m, s4, e4, o4, m0, m1⟩ := next_ok o3 12 (by omega)
  obtain ⟨n, s5, e5, o5, n0, n1⟩ := next_ok o4 4 (by omega)
  have w1 := w64 (n := 1 + m) (by omega) (by omega)
  have w2 := w64 (n := 1 + n) (by omega) (by omega)
  obtain ⟨c, s6, e6, o6, c1⟩ := pick_ok o5 [1 + m, 1, 1000, 1001, 1 + n] (by simp) (by simp)
  have hc : 0 ≤ c ∧ c ≤ 1001 := by simp at c1; omega
  have hy : y < (names6.length : Int) := by rw [names6_len]; omega
  have hm := names6_sm _ (getB_mem (show y.toNat < names6.length by rw [names6_len]; omega))
  simp only [e, e1, e2, e3, e4, e5, w1, w2, e6, names_f, Option.bind_some, y0, hy, and_self, if_true]
  exact ⟨_, _, rfl, l1, mkB (by omega) hm (by omega)⟩
theorem drawPieces_ok {code : List Int} (h : CodeOk code) : ∃ o b, spec_DrawPiecesLeft.f code = some (o, b) ∧ Lm OkBooking o ∧ Sm b := by
  unfold spec_DrawPiecesLeft.f spec_DrawPiecesLeft.fn spec_DrawPiecesLeft.top
  obtain ⟨s, e, ho⟩ := from_ok h
  obtain ⟨o, s1, e1, o1, l1⟩ := draw32_ok ho
  obtain ⟨x, s2, e2, o2, x0, x1⟩ := next_ok o1 16 (by omega)
  obtain ⟨u, s3, e3, o3, u1⟩ := drawWord_ok o2
  obtain ⟨y, s4, e4, o4, y0, y1⟩ := next_ok o2 5 (by omega)
  have hy : y < (names6.length : Int) := by rw [names6_len]; omega
  have hm := names6_sm _ (getB_mem (show y.toNat < names6.length by rw [names6_len]; omega))
  simp only [e, e1, e2, e3, e4, names_f, Option.bind_some, y0, hy, and_self, if_true]
  split
  · exact ⟨_, _, rfl, l1, u1⟩
  · exact ⟨_, _, rfl, l1, hm⟩
theorem likeBookings_self (a : List (Int × ByteArray × Int)) (hl : a.length ≤ 140737488355328) : laws_likeBookings.f a a = some true := by
  unfold laws_likeBookings.f laws_likeBookings.fn laws_likeBookings.top
  simp only [bne_self_eq_false, Bool.false_eq_true, if_false]
  refine eqS_loop (E := fun _ => True) (fun k a b i => laws_likeBookings.l4 NN k a b i) a (fun _ _ => trivial) ?_ ?_ NN (NN_lt (by omega))
  · intro k p x r hx ha
    subst ha
    have hm := mid_len p r x
    have c1 : (p.length : Int) < ((p ++ x :: r).length : Int) := by omega
    have c0 : (0 : Int) ≤ (p.length : Int) := by omega
    have cw := w64 (n := (p.length : Int) + 1) (by omega) (by omega)
    simp only [laws_likeBookings.l4, laws_likeBookings.g4, c0, c1, cw, and_self, and_true, true_and, decide_true, decide_false, if_true, if_false, mid_get, mid_set, mid_getn, mid_setn, bt_mid, Option.bind_some, Bool.not_true, Bool.not_false, Bool.false_eq_true, Bool.true_eq_false, beq_self_eq_true, bne_self_eq_false, Int.toNat_natCast]
    simp
  · intro k
    simp [laws_likeBookings.l4, laws_likeBookings.g4]
theorem leftOf_nonneg : ∀ (r p : List (Int × ByteArray × Int)) (a : ByteArray), okFrom p r = true → 0 ≤ leftOf p a → 0 ≤ leftOf (p ++ r) a := by
  intro r
  induction r with
  | nil => intro p a _ h; rwa [List.append_nil]
  | cons b r ih =>
    intro p a h hp
    simp only [okFrom, Bool.and_eq_true, decide_eq_true_eq] at h
    have := ih (p ++ [b]) a h.2 (by
      by_cases ha : b.2.1 = a
      · rw [← ha]; exact h.1.2
      · rw [leftOf_snoc]; unfold addL; rw [if_neg ha]; exact hp)
    rwa [List.append_assoc] at this
theorem tot0_mono (a : ByteArray) : ∀ (r p : List (Int × ByteArray × Int)), (∀ b ∈ p ++ r, valB b = true) → (totL p a).getD 0 0 ≤ (totL (p ++ r) a).getD 0 0 := by
  intro r
  induction r with
  | nil => intro p _; rw [List.append_nil]; exact Int.le_refl _
  | cons b r ih =>
    intro p h
    have h1 := ih (p ++ [b]) (by rw [List.append_assoc]; exact h)
    rw [List.append_assoc] at h1
    refine Int.le_trans ?_ h1
    have hv := valB_count (h b (by simp))
    obtain ⟨t0, t1, t2, t3, q1, q2⟩ := totL_shape a p (fun x hx => h x (by simp [hx]))
    rw [totL_snoc, q1]
    unfold addT
    split
    · obtain h | h | h | h : b.1 = 0 ∨ b.1 = 1 ∨ b.1 = 2 ∨ b.1 = 3 := by omega
      all_goals (rw [h]; simp)
      omega
    · exact Int.le_refl _
theorem left_tot0 (xs : List (Int × ByteArray × Int)) (a : ByteArray) (h : ∀ b ∈ xs, valB b = true) (n : Nat) : leftOf (xs.take n) a ≤ (totL xs a).getD 0 0 := by
  have h1 := tot0_mono a (xs.drop n) (xs.take n) (by rw [List.take_append_drop]; exact h)
  rw [List.take_append_drop] at h1
  obtain ⟨t0, t1, t2, t3, q1, q2, q3, q4, q5, q6, q7⟩ := totL_shape a (xs.take n) (fun x hx => h x (List.mem_of_mem_take hx))
  rw [q1] at h1
  have : ([t0, t1, t2, t3] : List Int).getD 0 0 = t0 := rfl
  rw [this] at h1
  omega
theorem most_le (xs : List (Int × ByteArray × Int)) (a : ByteArray) (h : ∀ b ∈ xs, valB b = true) (B : Int) (hB : ∀ n, leftOf (xs.take n) a ≤ B) : ∀ (r : List (Int × ByteArray × Int)) (i : Nat) (st : Int), st ≤ B → foldi (fun i st (_ : Int × ByteArray × Int) => mostF xs a i st) i st r ≤ B := by
  intro r
  induction r with
  | nil => intro i st hs; exact hs
  | cons b r ih =>
    intro i st hs
    refine ih (i + 1) _ ?_
    have := hB (i + 1)
    show mostF xs a i st ≤ B
    unfold mostF; split <;> omega
theorem most_ge (xs : List (Int × ByteArray × Int)) (a : ByteArray) : ∀ (r : List (Int × ByteArray × Int)) (i : Nat) (st : Int), st ≤ foldi (fun i st (_ : Int × ByteArray × Int) => mostF xs a i st) i st r ∧ (0 < r.length → leftOf (xs.take (i + r.length)) a ≤ foldi (fun i st (_ : Int × ByteArray × Int) => mostF xs a i st) i st r) := by
  intro r
  induction r with
  | nil => intro i st; exact ⟨Int.le_refl _, fun h => by simp at h⟩
  | cons b r ih =>
    intro i st
    have h1 := ih (i + 1) (mostF xs a i st)
    have h2 : st ≤ mostF xs a i st ∧ leftOf (xs.take (i + 1)) a ≤ mostF xs a i st := by unfold mostF; split <;> omega
    refine ⟨Int.le_trans h2.1 h1.1, fun _ => ?_⟩
    cases r with
    | nil => exact Int.le_trans h2.2 h1.1
    | cons c r =>
      have := h1.2 (by simp)
      rw [show i + (b :: c :: r).length = i + 1 + (c :: r).length by simp only [List.length_cons]; omega]
      exact this
theorem most_bd (xs : List (Int × ByteArray × Int)) (a : ByteArray) (h : booksB xs = true) : 0 ≤ leftOf xs a ∧ leftOf xs a ≤ mostL xs a ∧ mostL xs a ≤ (totL xs a).getD 0 0 := by
  have hv := booksB_val h
  have hok : okFrom [] xs = true := by
    unfold booksB at h
    simp only [Bool.and_eq_true] at h
    exact h.2
  have h0 := leftOf_nonneg xs [] a hok (Int.le_refl 0)
  rw [List.nil_append] at h0
  have ht := left_tot0 xs a hv.1
  refine ⟨h0, ?_, ?_⟩
  · have := most_ge xs a xs 0 0
    unfold mostL
    cases xs with
    | nil => exact Int.le_refl 0
    | cons b r =>
      have h2 := this.2 (by simp)
      rw [Nat.zero_add, List.take_length] at h2
      exact h2
  · unfold mostL
    refine most_le xs a hv.1 _ ht xs 0 0 ?_
    have := ht 0
    rw [List.take_zero] at this
    exact this
end Go.Pl

namespace Go.Pl
open Go.Ev
set_option linter.unusedVariables false
noncomputable section
def spec_l01Damage.top (s0 : List Int × Int × Int) (t1 : ByteArray) : Option (ByteArray × List Int × Int × Int) :=
  (spec_l01Next.f s0 (IntKind.i64.wrap ((t1.size : Int) + 1))).bind fun r1 =>
  (spec_l01Next.f r1.2 8).bind fun r2 =>
  if ((r2.1 : Int) == 0) = true then
    if (0 : Int) ≤ r1.1 ∧ (r1.1 : Int) ≤ t1.size then
      some (t1.extract 0 (r1.1 : Int).toNat, r2.2)
    else
      none
  else if ((r2.1 : Int) == 1) = true then
    if (0 : Int) ≤ r1.1 ∧ (r1.1 : Int) ≤ t1.size then
      if (0 : Int) ≤ r1.1 ∧ (r1.1 : Int) ≤ t1.size then
        (spec_l01Next.f r2.2 8).bind fun r3 =>
        if (0 : Int) ≤ r3.1 ∧ (r3.1 : Int) < ([(⟨#[48]⟩ : ByteArray), (⟨#[35]⟩ : ByteArray), (⟨#[46]⟩ : ByteArray), (⟨#[47]⟩ : ByteArray), (⟨#[32]⟩ : ByteArray), (⟨#[97]⟩ : ByteArray), (⟨#[45]⟩ : ByteArray), (⟨#[10]⟩ : ByteArray)]).length then
          if (t1.extract 0 (r1.1 : Int).toNat).size + (([(⟨#[48]⟩ : ByteArray), (⟨#[35]⟩ : ByteArray), (⟨#[46]⟩ : ByteArray), (⟨#[47]⟩ : ByteArray), (⟨#[32]⟩ : ByteArray), (⟨#[97]⟩ : ByteArray), (⟨#[45]⟩ : ByteArray), (⟨#[10]⟩ : ByteArray)]).getD (r3.1 : Int).toNat ByteArray.empty).size ≤ 9223372036854775807 then
            if ((t1.extract 0 (r1.1 : Int).toNat) ++ (([(⟨#[48]⟩ : ByteArray), (⟨#[35]⟩ : ByteArray), (⟨#[46]⟩ : ByteArray), (⟨#[47]⟩ : ByteArray), (⟨#[32]⟩ : ByteArray), (⟨#[97]⟩ : ByteArray), (⟨#[45]⟩ : ByteArray), (⟨#[10]⟩ : ByteArray)]).getD (r3.1 : Int).toNat ByteArray.empty)).size + (t1.extract (r1.1 : Int).toNat t1.size).size ≤ 9223372036854775807 then
              some (((t1.extract 0 (r1.1 : Int).toNat) ++ (([(⟨#[48]⟩ : ByteArray), (⟨#[35]⟩ : ByteArray), (⟨#[46]⟩ : ByteArray), (⟨#[47]⟩ : ByteArray), (⟨#[32]⟩ : ByteArray), (⟨#[97]⟩ : ByteArray), (⟨#[45]⟩ : ByteArray), (⟨#[10]⟩ : ByteArray)]).getD (r3.1 : Int).toNat ByteArray.empty)) ++ (t1.extract (r1.1 : Int).toNat t1.size), r3.2)
            else
              none
          else
            none
        else
          none
      else
        none
    else
      none
  else if ((r2.1 : Int) == 2) = true then
    if (decide ((r1.1 : Int) < (t1.size : Int))) = true then
      if (0 : Int) ≤ r1.1 ∧ (r1.1 : Int) ≤ t1.size then
        if (0 : Int) ≤ (IntKind.i64.wrap (r1.1 + 1)) ∧ ((IntKind.i64.wrap (r1.1 + 1)) : Int) ≤ t1.size then
          if (t1.extract 0 (r1.1 : Int).toNat).size + (t1.extract ((IntKind.i64.wrap (r1.1 + 1)) : Int).toNat t1.size).size ≤ 9223372036854775807 then
            some ((t1.extract 0 (r1.1 : Int).toNat) ++ (t1.extract ((IntKind.i64.wrap (r1.1 + 1)) : Int).toNat t1.size), r2.2)
          else
            none
        else
          none
      else
        none
    else
      some (t1, r2.2)
  else
    some (t1, r2.2)
def spec_l01Damage.fn (n : Nat) (s0 : List Int × Int × Int) (t1 : ByteArray) : Option (ByteArray × List Int × Int × Int) := spec_l01Damage.top s0 t1
def spec_l01Damage.f (s0 : List Int × Int × Int) (t1 : ByteArray) : Option (ByteArray × List Int × Int × Int) := spec_l01Damage.fn NN s0 t1
end
end Go.Pl

namespace Go.Pl
open Go.Ev
set_option linter.unusedVariables false
set_option linter.unusedSimpArgs false
theorem damage_ok {s : List Int × Int × Int} (hs : SrcOk s) (t : ByteArray) (ht : t.size ≤ 1000000) : ∃ u s', spec_l01Damage.f s t = some (u, s') ∧ SrcOk s' ∧ u.size ≤ t.size + 1 := by
  unfold spec_l01Damage.f spec_l01Damage.fn spec_l01Damage.top
  rw [w64 (n := (t.size : Int) + 1) (by omega) (by omega)]
  obtain ⟨k, s1, e1, o1, k0, k1⟩ := next_ok hs ((t.size : Int) + 1) (by omega)
  obtain ⟨x, s2, e2, o2, x0, x1⟩ := next_ok o1 8 (by omega)
  obtain ⟨y, s3, e3, o3, y0, y1⟩ := next_ok o2 8 (by omega)
  have hk : k ≤ (t.size : Int) := by omega
  have z1 : ∀ a b : Nat, (t.extract a b).size ≤ b - a := fun a b => by rw [ByteArray.size_extract]; omega
  have za := z1 0 k.toNat
  have zb := z1 k.toNat t.size
  simp only [e1, e2, Option.bind_some, k0, hk, and_self, if_true]
  by_cases hx0 : x = 0
  · subst hx0
    simp only [beq_self_eq_true, if_true]
    exact ⟨_, _, rfl, o2, by omega⟩
  · have b0 : (x == 0) = false := by rw [beq_eq_false_iff_ne]; exact hx0
    simp only [b0, Bool.false_eq_true, if_false]
    by_cases hx1 : x = 1
    · subst hx1
      simp only [beq_self_eq_true, if_true, e3, Option.bind_some]
      have hy : y < 8 := by omega
      have hlit : ∀ i : Nat, (([(⟨#[48]⟩ : ByteArray), (⟨#[35]⟩ : ByteArray), (⟨#[46]⟩ : ByteArray), (⟨#[47]⟩ : ByteArray), (⟨#[32]⟩ : ByteArray), (⟨#[97]⟩ : ByteArray), (⟨#[45]⟩ : ByteArray), (⟨#[10]⟩ : ByteArray)]).getD i ByteArray.empty).size ≤ 1 := by
        intro i
        match i with
        | 0 | 1 | 2 | 3 | 4 | 5 | 6 | 7 => exact Nat.le_refl 1
        | n + 8 => exact Nat.zero_le 1
      have hl := hlit y.toNat
      rw [if_pos ⟨y0, by simp only [List.length_cons, List.length_nil]; omega⟩, if_pos (by omega), if_pos (by rw [ByteArray.size_append]; omega)]
      exact ⟨_, _, rfl, o3, by rw [ByteArray.size_append, ByteArray.size_append]; omega⟩
    · have b1 : (x == 1) = false := by rw [beq_eq_false_iff_ne]; exact hx1
      simp only [b1, Bool.false_eq_true, if_false]
      by_cases hx2 : x = 2
      · subst hx2
        simp only [beq_self_eq_true, if_true, decide_eq_true_eq]
        by_cases hlt : k < (t.size : Int)
        · have w1 := w64 (n := k + 1) (by omega) (by omega)
          have zc := z1 (k + 1).toNat t.size
          simp only [hlt, if_true, w1]
          rw [if_pos ⟨by omega, by omega⟩, if_pos (by omega)]
          exact ⟨_, _, rfl, o2, by rw [ByteArray.size_append]; omega⟩
        · simp only [hlt, if_false]
          exact ⟨_, _, rfl, o2, by omega⟩
      · have b2 : (x == 2) = false := by rw [beq_eq_false_iff_ne]; exact hx2
        simp only [b2, Bool.false_eq_true, if_false]
        exact ⟨_, _, rfl, o2, by omega⟩
end Go.Pl

namespace Go.Pl
open Go.Ev
set_option linter.unusedVariables false
set_option linter.unusedSimpArgs false
theorem likeLines_self (a : List (ByteArray × Int)) (hl : a.length ≤ 140737488355328) : laws_likeLines.f a a = some true := by
  unfold laws_likeLines.f laws_likeLines.fn laws_likeLines.top
  simp only [bne_self_eq_false, Bool.false_eq_true, if_false]
  refine eqS_loop (E := fun _ => True) (fun k a b i => laws_likeLines.l4 NN k a b i) a (fun _ _ => trivial) ?_ ?_ NN (NN_lt (by omega))
  · intro k p x r hx ha
    subst ha
    have hm := mid_len p r x
    have c1 : (p.length : Int) < ((p ++ x :: r).length : Int) := by omega
    have c0 : (0 : Int) ≤ (p.length : Int) := by omega
    have cw := w64 (n := (p.length : Int) + 1) (by omega) (by omega)
    simp only [laws_likeLines.l4, laws_likeLines.g4, c0, c1, cw, and_self, and_true, true_and, decide_true, decide_false, if_true, if_false, mid_get, mid_set, mid_getn, mid_setn, bt_mid, Option.bind_some, Bool.not_true, Bool.not_false, Bool.false_eq_true, Bool.true_eq_false, beq_self_eq_true, bne_self_eq_false, Int.toNat_natCast]
    simp
  · intro k
    simp [laws_likeLines.l4, laws_likeLines.g4]
theorem likePaper_self (p : ByteArray × Int × List (ByteArray × Int)) (hl : p.2.2.length ≤ 140737488355328) : laws_likePaper.f p p = some true := by
  unfold laws_likePaper.f laws_likePaper.fn laws_likePaper.top
  simp only [beq_self_eq_true, if_true, likeLines_self _ hl, Option.bind_some]
/-- a drawn paper -/
def PapS (p : ByteArray × Int × List (ByteArray × Int)) : Prop := p.1.size ≤ 1000 ∧ (-1 ≤ p.2.1 ∧ p.2.1 ≤ 100001) ∧ p.2.2.length ≤ 30 ∧ ∀ l ∈ p.2.2, Sm l.1 ∧ 0 ≤ l.2 ∧ l.2 ≤ 1001
theorem papS_ok {p : ByteArray × Int × List (ByteArray × Int)} (h : PapS p) : OkPaper p := by
  obtain ⟨h1, h2, h3, h4⟩ := h
  refine ⟨Nat.le_trans h1 (by omega), wf64.2 (by omega), by omega, fun l hl => ⟨(h4 l hl).1, wf64.2 (by have := h4 l hl; omega)⟩⟩
theorem names6_szs : ∀ c ∈ names6, c.size ≤ 10 := by
  intro c hc
  unfold names6 at hc
  simp only [List.mem_cons, List.not_mem_nil, or_false] at hc
  rcases hc with h | h | h | h | h | h <;> (rw [h]; exact Nat.le_of_ble_eq_true rfl)
/-- a drawn good paper -/
def PapG (p : ByteArray × Int × List (ByteArray × Int)) : Prop := p.1.size ≤ 10 ∧ (0 ≤ p.2.1 ∧ p.2.1 ≤ 1000) ∧ p.2.2.length ≤ 6 ∧ ∀ l ∈ p.2.2, l.1.size ≤ 10 ∧ 0 ≤ l.2 ∧ l.2 ≤ 1000
theorem good29_l (a : ByteArray) (b : Int) (v : ByteArray) (d : Int) (w : List (ByteArray × Int)) : ∀ (m i k : Nat) (s : List Int × Int × Int) (out : List (ByteArray × Int)), i + m = 6 → m < k → SrcOk s → out.length ≤ i → (∀ l ∈ out, l.1.size ≤ 10 ∧ 0 ≤ l.2 ∧ l.2 ≤ 1000) →
    ∃ o s', spec_l29Good.l4 NN k i s a b v d names6 w out = some ((v, (d, o)), s') ∧ SrcOk s' ∧ o.length ≤ 6 ∧ ∀ l ∈ o, l.1.size ≤ 10 ∧ 0 ≤ l.2 ∧ l.2 ≤ 1000 := by
  intro m
  induction m with
  | zero =>
    intro i k s out hi hk hs ho hl
    obtain ⟨k, rfl⟩ : ∃ j, k = j + 1 := ⟨k - 1, by omega⟩
    have n1 : ¬ (i : Int) < (names6.length : Int) := by rw [names6_len]; omega
    exact ⟨out, s, by simp only [spec_l29Good.l4, spec_l29Good.g4, n1, decide_false, Bool.false_eq_true, if_false], hs, by omega, hl⟩
  | succ m ih =>
    intro i k s out hi hk hs ho hl
    obtain ⟨k, rfl⟩ : ∃ j, k = j + 1 := ⟨k - 1, by omega⟩
    obtain ⟨x, s1, e1, o1, x0, x1⟩ := next_ok hs 2 (by omega)
    obtain ⟨y, s2, e2, o2, y0, y1⟩ := next_ok o1 20 (by omega)
    have n1 : (i : Int) < (names6.length : Int) := by rw [names6_len]; omega
    have n0 : (0 : Int) ≤ (i : Int) := by omega
    have w1 := w64 (n := (i : Int) + 1) (by omega) (by omega)
    have w2 := w64 (n := 1 + y) (by omega) (by omega)
    have hz := names6_szs _ (getB_mem (show (i : Int).toNat < names6.length by rw [names6_len]; omega))
    simp only [spec_l29Good.l4, spec_l29Good.g4, n0, n1, e1, e2, w1, w2, and_self, decide_true, if_true, Option.bind_some]
    split
    · rw [if_pos (by rw [room24]; simp; omega)]
      exact ih (i + 1) k s2 _ (by omega) (by omega) o2 (by simp; omega) (fun l h => by
        rcases List.mem_append.1 h with h | h
        · exact hl l h
        · rw [List.mem_singleton.1 h]; exact ⟨hz, by simp only; omega, by simp only; omega⟩)
    · exact ih (i + 1) k s1 out (by omega) (by omega) o1 (by omega) hl
theorem good29_ok {s : List Int × Int × Int} (hs : SrcOk s) : ∃ p s', spec_l29Good.f s = some (p, s') ∧ SrcOk s' ∧ PapG p := by
  unfold spec_l29Good.f spec_l29Good.fn spec_l29Good.top
  obtain ⟨x, s1, e1, o1, x0, x1⟩ := next_ok hs 2 (by omega)
  obtain ⟨y, s2, e2, o2, y0, y1⟩ := next_ok o1 1000 (by omega)
  have hc : (0 : Int) ≤ x ∧ x < (([(⟨#[118, 97, 110]⟩ : ByteArray), (⟨#[116, 114, 117, 99, 107]⟩ : ByteArray)] : List ByteArray).length : Int) := ⟨x0, by simp only [List.length_cons, List.length_nil]; omega⟩
  have hm := getB_mem (xs := [(⟨#[118, 97, 110]⟩ : ByteArray), (⟨#[116, 114, 117, 99, 107]⟩ : ByteArray)]) (i := x.toNat) (by have := hc.2; omega)
  have hv : ([(⟨#[118, 97, 110]⟩ : ByteArray), (⟨#[116, 114, 117, 99, 107]⟩ : ByteArray)].getD x.toNat ByteArray.empty).size ≤ 10 := by
    revert hm
    generalize List.getD _ x.toNat ByteArray.empty = c
    intro hc
    simp only [List.mem_cons, List.not_mem_nil, or_false] at hc
    rcases hc with h | h <;> (rw [h]; exact Nat.le_of_ble_eq_true rfl)
  simp only [e1, e2, names_f, if_pos hc, Option.bind_some, agree_self]
  obtain ⟨o, s3, i1, i2, i3, i4⟩ := good29_l ByteArray.empty 0 ([(⟨#[118, 97, 110]⟩ : ByteArray), (⟨#[116, 114, 117, 99, 107]⟩ : ByteArray)].getD x.toNat ByteArray.empty) y [] 6 0 NN s2 [] (by omega) (NN_lt (by omega)) o2 (by simp) (by simp)
  exact ⟨_, s3, i1, i2, hv, by simp only; omega, i3, i4⟩
theorem papG_S {p : ByteArray × Int × List (ByteArray × Int)} (h : PapG p) : PapS p := by
  obtain ⟨h1, h2, h3, h4⟩ := h
  refine ⟨by omega, by omega, by omega, fun l hl => ?_⟩
  have := h4 l hl
  exact ⟨Nat.le_trans this.1 (by omega), by omega, by omega⟩
theorem draw29_l (a : ByteArray) (b : Int) (v : ByteArray) (d : Int) (w : List (ByteArray × Int)) (hv : v.size ≤ 1000) (hd : -1 ≤ d ∧ d ≤ 100001) : ∀ (m i k : Nat) (s : List Int × Int × Int) (out : List (ByteArray × Int)), i + m = 14 → m < k → SrcOk s → out.length ≤ 10 + i → (∀ l ∈ out, Sm l.1 ∧ 0 ≤ l.2 ∧ l.2 ≤ 1001) →
    ∃ p s', spec_l29Draw.l9 NN k i s a b v d w out = some (p, s') ∧ SrcOk s' ∧ PapS p := by
  intro m
  induction m with
  | zero =>
    intro i k s out hi hk hs ho hl
    obtain ⟨k, rfl⟩ : ∃ j, k = j + 1 := ⟨k - 1, by omega⟩
    obtain ⟨x, s1, e1, o1, x0, x1⟩ := next_ok hs 2 (by omega)
    have w1 := w64 (n := 12 + x) (by omega) (by omega)
    have n1 : ¬ (i : Int) < 14 := by omega
    simp only [spec_l29Draw.l9, spec_l29Draw.g9, e1, w1, n1, Option.bind_some, decide_false, Bool.false_eq_true, if_false]
    split <;> exact ⟨_, _, rfl, o1, hv, hd, by simp only; omega, hl⟩
  | succ m ih =>
    intro i k s out hi hk hs ho hl
    obtain ⟨k, rfl⟩ : ∃ j, k = j + 1 := ⟨k - 1, by omega⟩
    obtain ⟨x, s1, e1, o1, x0, x1⟩ := next_ok hs 2 (by omega)
    have w1 := w64 (n := 12 + x) (by omega) (by omega)
    have w2 := w64 (n := (i : Int) + 1) (by omega) (by omega)
    have n1 : (i : Int) < 14 := by omega
    have n2 : (0 : Int) ≤ (i : Int) := by omega
    have n3 : (i : Int) ≤ (i : Int) + 1 := by omega
    have z : (⟨#[97, 98, 99, 100, 101, 102, 103, 104, 105, 106, 107, 108, 109, 110]⟩ : ByteArray).size = 14 := rfl
    have n4 : (i : Int) + 1 ≤ ((⟨#[97, 98, 99, 100, 101, 102, 103, 104, 105, 106, 107, 108, 109, 110]⟩ : ByteArray).size : Int) := by rw [z]; omega
    have zx : (⟨#[120]⟩ : ByteArray).size = 1 := rfl
    have ze : ((⟨#[97, 98, 99, 100, 101, 102, 103, 104, 105, 106, 107, 108, 109, 110]⟩ : ByteArray).extract (i : Int).toNat ((i : Int) + 1).toNat).size ≤ 14 := by rw [ByteArray.size_extract, z]; omega
    by_cases hx : (out.length : Int) < 12 + x
    · simp only [spec_l29Draw.l9, spec_l29Draw.g9, e1, w1, w2, n1, n2, n3, n4, hx, Option.bind_some, decide_true, if_true, and_self]
      rw [if_pos (by omega), if_pos (by rw [room24]; simp; omega)]
      exact ih (i + 1) k s1 _ (by omega) (by omega) o1 (by simp; omega) (fun l h => by
        rcases List.mem_append.1 h with h | h
        · exact hl l h
        · rw [List.mem_singleton.1 h]; exact ⟨by unfold Sm; simp only [ByteArray.size_append]; omega, by simp only; omega, by simp only; omega⟩)
    · simp only [spec_l29Draw.l9, spec_l29Draw.g9, e1, w1, hx, Option.bind_some, decide_false, Bool.false_eq_true, if_false]
      exact ⟨_, _, rfl, o1, hv, hd, by simp only; omega, hl⟩
theorem draw29_ok {s : List Int × Int × Int} (hs : SrcOk s) : ∃ p s', spec_l29Draw.f s = some (p, s') ∧ SrcOk s' ∧ PapS p := by
  unfold spec_l29Draw.f spec_l29Draw.fn spec_l29Draw.top
  obtain ⟨p, s1, e1, o1, g1⟩ := good29_ok hs
  obtain ⟨x, s2, e2, o2, x0, x1⟩ := next_ok o1 30 (by omega)
  obtain ⟨c, s3, e3, o3, c1⟩ := pick_ok o2 [-1, 0, 100000, 100001] (by simp) (by simp)
  obtain ⟨u, s4, e4, o4, u1⟩ := drawWord_ok o2
  obtain ⟨f, s5, e5, o5, f1⟩ := pick_ok o4 [0, 1, 1000, 1001] (by simp) (by simp)
  have hc : -1 ≤ c ∧ c ≤ 100001 := by simp at c1; omega
  have hf : 0 ≤ f ∧ f ≤ 1001 := by simp at f1; omega
  have hS := papG_S g1
  obtain ⟨q1, q2, q3, q4⟩ := hS
  have g3 := g1.2.2.1
  simp only [e1, e2, e3, e4, e5, Option.bind_some]
  by_cases h0 : x = 0
  · rw [if_pos (by rw [h0]; rfl)]
    exact ⟨_, _, rfl, o3, q1, hc, q3, q4⟩
  rw [if_neg (by simpa using h0)]
  by_cases h1 : x = 1
  · rw [if_pos (by rw [h1]; rfl), if_pos (by rw [room24]; simp; omega)]
    refine ⟨_, _, rfl, o5, q1, q2, by simp only [List.length_append, List.length_singleton]; omega, fun l hl => ?_⟩
    rcases List.mem_append.1 hl with h | h
    · exact q4 l h
    · rw [List.mem_singleton.1 h]; exact ⟨u1, hf⟩
  rw [if_neg (by simpa using h1)]
  by_cases h2 : x = 2
  · rw [if_pos (by rw [h2]; rfl)]
    exact draw29_l ByteArray.empty 0 p.1 p.2.1 [] q1 q2 14 0 NN s2 p.2.2 (by omega) (NN_lt (by omega)) o2 (by omega) q4
  · rw [if_neg (by simpa using h2)]
    exact ⟨_, _, rfl, o2, q1, q2, q3, q4⟩
end Go.Pl

namespace Go.Pl
open Go.Ev
set_option linter.unusedVariables false
set_option linter.unusedSimpArgs false
theorem drawMP_ok {code : List Int} (h : CodeOk code) : ∃ a b, spec_DrawMergePapers.f code = some (a, b) ∧ OkPaper a ∧ OkPaper b := by
  unfold spec_DrawMergePapers.f spec_DrawMergePapers.fn spec_DrawMergePapers.top
  obtain ⟨s, e, ho⟩ := from_ok h
  obtain ⟨p, s1, e1, o1, p1⟩ := draw29_ok ho
  obtain ⟨q, s2, e2, o2, q1⟩ := draw29_ok o1
  obtain ⟨x, s3, e3, o3, _⟩ := next_ok o2 16 (by omega)
  simp only [e, e1, e2, e3, Option.bind_some, decide_eq_true_eq]
  by_cases h0 : (0 : Int) < (p.2.2.length : Int)
  · rw [if_pos h0]
    by_cases hx : x = 0
    · rw [if_pos (by rw [hx]; rfl), if_pos ⟨by omega, h0⟩]
      refine ⟨_, _, rfl, ?_, papS_ok q1⟩
      have hp := papS_ok p1
      refine ⟨hp.1, hp.2.1, by simp only [List.length_set]; exact hp.2.2.1, fun l hl => ?_⟩
      rcases List.mem_or_eq_of_mem_set hl with h1 | h1
      · exact hp.2.2.2 l h1
      · rw [h1]
        have hm : p.2.2.getD (0 : Int).toNat (ByteArray.empty, 0) ∈ p.2.2 := by
          have : (0 : Int).toNat < p.2.2.length := by omega
          rw [List.getD_eq_getElem?_getD, List.getElem?_eq_getElem this]
          exact List.getElem_mem _
        exact ⟨(hp.2.2.2 _ hm).1, wf64.2 (by simp)⟩
    · rw [if_neg (by simpa using hx)]
      exact ⟨_, _, rfl, papS_ok p1, papS_ok q1⟩
  · rw [if_neg h0]
    exact ⟨_, _, rfl, papS_ok p1, papS_ok q1⟩
theorem FnMerged_true (code : List Int) (hyp : Ls (Rg .u8) code) : laws_FnMerged.f code = some true := by
  unfold laws_FnMerged.f laws_FnMerged.fn laws_FnMerged.top
  rw [big_f]
  by_cases hb : (4096 : Int) < (code.length : Int)
  · simp [hb]
  have hco := code_of hyp hb
  obtain ⟨a, b, e1, ha, hb'⟩ := drawMP_ok hco
  simp only [hb, decide_false, Bool.false_eq_true, if_false, Option.bind_some, e1]
  rw [show (a.1, a.2.1, a.2.2) = a from rfl, show (b.1, b.2.1, b.2.2) = b from rfl]
  rw [(MergePapers_both a b ha hb').1, (MergePapers_both a b ha hb').2, (MissingLines_both a b ha hb').1, (MissingLines_both a b ha hb').2]
  by_cases h1 : paperB a = true ∧ paperB b = true
  rotate_left
  · simp only [h1, if_false, Option.bind_some, bne_self_eq_false, likePaper_self (ByteArray.empty, 0, []) (by simp), likeLines_self [] (by simp), Bool.not_true, Bool.false_eq_true, if_true]
    rfl
  obtain ⟨h1, h2⟩ := h1
  have hmo := mrgR_ok a b ha h1 h2
  have hml := miss_len a b h1 h2
  obtain ⟨qa1, qa2⟩ := linesB_ok (paperB_iff h1).2.2
  obtain ⟨qb1, qb2⟩ := linesB_ok (paperB_iff h2).2.2
  have hsa := linesB_srt (paperB_iff h1).2.2
  have hsb := linesB_srt (paperB_iff h2).2.2
  obtain ⟨mi, _, _⟩ := Merge_l a b ha h1 h2
  have c1 := hmo.2.2.1
  have hself : missL a.2.2 a.2.2 = [] := miss_same hsa
  have n1 : ¬ ((a.2.2.length : Int) < ((missL a.2.2 b.2.2).length : Int)) := by omega
  simp only [h1, h2, and_self, if_true, Option.bind_some, bne_self_eq_false]
  rw [show ((mrgR a (mrgL a.2.2 b.2.2)).1.1, (mrgR a (mrgL a.2.2 b.2.2)).1.2.1, (mrgR a (mrgL a.2.2 b.2.2)).1.2.2) = (mrgR a (mrgL a.2.2 b.2.2)).1 from rfl, likePaper_self _ (Nat.le_trans c1 (by omega))]
  simp only [Option.bind_some, Bool.not_true, Bool.false_eq_true, if_true, if_false]
  rw [likeLines_self _ (by omega), (MissingLines_both a a ha ha).2]
  simp only [Option.bind_some, Bool.not_true, Bool.false_eq_true, if_true, if_false, h1, and_self, beq_self_eq_true, bne_self_eq_false, hself, List.length_nil, Int.natCast_zero, n1, decide_false]
  by_cases h0 : linesB (mrgL a.2.2 b.2.2) = true
  rotate_left
  · have e0 : (mrgR a (mrgL a.2.2 b.2.2)).2 = 3 := by unfold mrgR; rw [if_neg h0]
    rw [e0]
    rfl
  have em : mrgR a (mrgL a.2.2 b.2.2) = ((a.1, a.2.1, mrgL a.2.2 b.2.2), 0) := by unfold mrgR; rw [if_pos h0]
  rw [em] at hmo ⊢
  have hmp : paperB (a.1, a.2.1, mrgL a.2.2 b.2.2) = true := by
    obtain ⟨k1, k2, _⟩ := paperB_iff h1
    unfold paperB
    simp only [k1, inB_iff.2 k2, h0, Bool.and_self]
  have hcm : ∀ x, cntL x (mrgL a.2.2 b.2.2) = cntL x a.2.2 + cntL x b.2.2 := fun x => cnt_mrg _ _ hsb hsa
  have pa : ∀ x, 0 ≤ cntL x a.2.2 := fun x => (cntL_bd x _ qa2).1
  have pb : ∀ x, 0 ≤ cntL x b.2.2 := fun x => (cntL_bd x _ qb2).1
  have d1 : missL (mrgL a.2.2 b.2.2) a.2.2 = b.2.2 := miss_diff mi.srt hsb (fun l hl => (lineOk_iff.1 (qb2 l hl)).2.1) pa hcm
  have d2 : missL (mrgL a.2.2 b.2.2) b.2.2 = a.2.2 := miss_diff mi.srt hsa (fun l hl => (lineOk_iff.1 (qa2 l hl)).2.1) pb (fun x => by rw [hcm x]; omega)
  have d3 : missL a.2.2 (mrgL a.2.2 b.2.2) = [] := miss_none hsa (fun x => by have := pb x; rw [hcm x]; omega)
  rw [(MissingLines_both _ a hmo ha).2, (MissingLines_both _ b hmo hb').2, (MissingLines_both a _ ha hmo).2, impl_IsPaper_f _ hmo]
  simp only [h1, h2, hmp, and_self, if_true, d1, d2, d3, Option.bind_some, bne_self_eq_false, beq_self_eq_true, Bool.false_eq_true, if_false]
  rw [likeLines_self _ (by omega), likeLines_self _ (by omega)]
  simp
end Go.Pl
