/- The law FnExactBookPieces, and what it stands on (the last part): the program answers as the law says, for all arguments of a claim's bounds. -/
import Derived.Test.YtppfdipgaifhiabChecked
import Derived.Test.YtppfdipgaifhiabProg
import Derived.Test.YtppfdipgaifhiabRows
import Derived.Below
import Derived.Calls
import Derived.Carry
import Derived.ChangeArms
import Derived.ChangeOld
import Derived.Deep.Quiet
import Derived.KernelRfl
import Derived.Laws.Append
import Derived.Laws.BytesString
import Derived.Laws.MakeOwn
import Derived.Laws.Strings
import Derived.OpenShut
import Derived.OrdersHeld
import Derived.ProofKit
import Derived.ShutString
import Derived.SizedLaws
import Derived.Tactics
import Derived.WalkKit
import Derived.WideShapes
import Derived.Test.YtppfdipgaifhiabEvExactBookPieces1
namespace Go.Pl
open Go.Ev
set_option linter.unusedVariables false
set_option linter.unusedSimpArgs false
theorem laws_toBookingS_ok (a : List (Int × ByteArray × Int)) (ha : Lm OkBooking a) (bare : Bool) : ∃ fil, laws_toBookingS.f a bare = some (a, fil) ∧ (bare = false → laws_roomBehind.f a.length = some (fil.length : Int)) ∧ fil.length ≤ 1000001 ∧ ∀ x ∈ fil, (fun _ => True) x := by
  have hl : a.length ≤ 1000000 := ha.1
  obtain ⟨r, h1, h2, h3⟩ := roomBehind_le a.length (by omega)
  have hw := w64 (n := (a.length : Int) + r) (by omega) (by omega)
  have c1 : (0 : Int) ≤ a.length + r ∧ (a.length : Int) + r < (room 32 : Nat) ∧ (a.length : Int) + r = a.length + r := by rw [roomv32]; omega
  have key : ∃ fil, laws_toBookingS.l5 NN NN a 0 (List.replicate ((a.length : Int) + r).toNat (0, (ByteArray.empty, 0))) = some (a, fil) ∧ fil.length = ((a.length : Int) + r).toNat - a.length ∧ ∀ x ∈ fil, (fun _ => True) x := by
    have := toS_loop (Z := fun _ => True) (R := OkBooking) (fun k a i out => laws_toBookingS.l5 NN k a i out) (fun k a i out => laws_toBookingS.l9 NN k a i out) ?_ ?_ ?_ ?_ a (List.replicate ((a.length : Int) + r).toNat (0, (ByteArray.empty, 0))) NN ha.2 (by rw [List.length_replicate]; omega) (by rw [List.length_replicate]; omega) (NN_lt (by omega))
    · simpa using this
    · intro k a out h
      show laws_toBookingS.g9 (laws_toBookingS.l9 NN k) a out.length out = _
      unfold laws_toBookingS.g9
      have c2 : (0 : Int) ≤ (a.length : Int) := by omega
      simp [h]
    · intro k a i out hi hb
      have d1 : (i : Int) < (out.length : Int) := by omega
      have d0 : (0 : Int) ≤ (i : Int) := by omega
      have dw := w64 (n := (i : Int) + 1) (by omega) (by omega)
      have e : laws_toBookingS.g9 (laws_toBookingS.l9 NN k) a i out = laws_toBookingS.l9 NN k a ((i : Int) + 1) (out.set i ((-7000000000000000101), ((⟨#[126, 115, 112, 97, 114, 101, 126]⟩ : ByteArray), (-7000000000000000101)))) := by
        unfold laws_toBookingS.g9
        simp only [d0, d1, and_self, decide_true, if_true, dw, Int.toNat_natCast, laws_fillerBooking.f, laws_fillerBooking.fn, laws_fillerBooking.top, Option.bind_some]
      exact ⟨_, trivial, e⟩
    · intro k a out
      show laws_toBookingS.g5 (laws_toBookingS.l9 NN NN) (laws_toBookingS.l5 NN k) a a.length out = _
      unfold laws_toBookingS.g5
      simp
    · intro k p r x q s y hx hpq hb hb2
      have hm := mid_len p r x
      have hm2 := mid_len q s y
      have d1 : (p.length : Int) < ((p ++ x :: r).length : Int) := by omega
      have d2 : (q.length : Int) < ((q ++ y :: s).length : Int) := by omega
      have d0 : (0 : Int) ≤ (q.length : Int) := by omega
      have dw := w64 (n := (q.length : Int) + 1) (by omega) (by omega)
      have g := mid_get p r x (0, (ByteArray.empty, 0))
      show laws_toBookingS.g5 (laws_toBookingS.l9 NN NN) (laws_toBookingS.l5 NN k) (p ++ x :: r) p.length (q ++ y :: s) = laws_toBookingS.l5 NN k (p ++ x :: r) ((p.length : Int) + 1) (q ++ x :: s)
      unfold laws_toBookingS.g5
      rw [hpq] at d1 g ⊢
      have e5 := hpq
      simp only [d0, d1, d2, and_self, decide_true, if_true, g, laws_toBooking_ok, Option.bind_some, dw, mid_set]
  obtain ⟨fil, k1, k2, k3⟩ := key
  have k4 : (fil.length : Int) = r := by omega
  unfold laws_toBookingS.f laws_toBookingS.fn laws_toBookingS.top
  simp only [h1, Option.bind_some, hw, c1, and_self, if_true]
  by_cases hb : bare = true
  · simp only [hb, if_true]
    by_cases he : a = []
    · subst he
      exact ⟨[], by simp, by simp, by simp, by simp⟩
    · have : ((a.length : Int) == 0) = false := by simpa using he
      simp only [this, Bool.false_eq_true, if_false]
      exact ⟨fil, by first | exact k1 | (rw [hb] at k1; exact k1), by simp, by omega, k3⟩
  · simp only [hb, Bool.false_eq_true, if_false]
    exact ⟨fil, by first | exact k1 | (rw [Bool.not_eq_true] at hb; rw [hb] at k1; exact k1), fun _ => by rw [k4], by omega, k3⟩
theorem laws_intactBookingS_self (a fil : List (Int × ByteArray × Int)) (ha : Lm OkBooking a) (h1 : laws_roomBehind.f a.length = some (fil.length : Int)) (h2 : fil.length ≤ 1000001) (h3 : ∀ x ∈ fil, (fun _ => True) x) : laws_intactBookingS.f (a, fil) (a, fil) = some true := by
  have hl : a.length ≤ 1000000 := ha.1
  unfold laws_intactBookingS.f laws_intactBookingS.fn laws_intactBookingS.top
  have hw := w64 (n := (a.length : Int) + (fil.length : Int)) (by omega) (by omega)
  have c1 : (0 : Int) ≤ a.length + fil.length ∧ (a.length : Int) + fil.length ≤ ((a ++ fil).length : Nat) := by rw [List.length_append]; omega
  simp only [h1, Option.bind_some, hw, beq_self_eq_true, if_true, c1, and_self]
  rw [laws_eqBookingS_self _ (by rw [List.length_take, List.length_append]; omega)]
  rfl
theorem laws_toBookingS_both (a : List (Int × ByteArray × Int)) (ha : Lm OkBooking a) : ∃ f : Bool → List (Int × ByteArray × Int), (∀ bare, laws_toBookingS.f a bare = some (a, f bare)) ∧ laws_intactBookingS.f (a, f false) (a, f false) = some true := by
  obtain ⟨f1, a1, a2, a3, a4⟩ := laws_toBookingS_ok a ha false
  obtain ⟨f2, b1, b2, b3, b4⟩ := laws_toBookingS_ok a ha true
  refine ⟨fun bare => if bare = true then f2 else f1, fun bare => ?_, ?_⟩
  · cases bare
    · simpa using a1
    · simpa using b1
  · simpa using laws_intactBookingS_self a f1 ha (a2 rfl) a3 a4
end Go.Pl

namespace Go.Pl
open Go.Ev
set_option linter.unusedVariables false
set_option linter.unusedSimpArgs false
def inB (n lo hi : Int) : Bool := decide (lo ≤ n) && decide (n ≤ hi)
theorem inB_iff {n lo hi : Int} : inB n lo hi = true ↔ lo ≤ n ∧ n ≤ hi := by unfold inB; simp
theorem impl_within_f (n lo hi : Int) : impl_within.f n lo hi = some (inB n lo hi) := by
  unfold impl_within.f impl_within.fn impl_within.top inB
  by_cases h : lo ≤ n <;> simp [h]
theorem spec_l01In_f (n lo hi : Int) : spec_l01In.f n lo hi = some (inB n lo hi) := by
  unfold spec_l01In.f spec_l01In.fn spec_l01In.top inB
  by_cases h : lo ≤ n <;> simp [h]
/-- a letter -/
def letB (c : UInt8) : Bool := !(decide ((c.toNat : Int) < 97)) && !(decide (122 < (c.toNat : Int)))
def wordB (s : ByteArray) : Bool := decide (1 ≤ s.size) && decide (s.size ≤ 16) && (bl s).all letB
theorem wordB_size {s : ByteArray} (h : wordB s = true) : 1 ≤ s.size ∧ s.size ≤ 16 := by
  unfold wordB at h; simp at h; exact h.1
theorem impl_IsWord_loop (s : ByteArray) (h : s.size ≤ 140737488355328) : impl_IsWord.l4 NN NN s 0 = if (bl s).all letB = true then some true else some false := by
  refine all_loop_str letB (fun s => some true) (fun k s i => impl_IsWord.l4 NN k s i) ?_ ?_ s h NN (NN_lt (by omega))
  · intro k p
    show impl_IsWord.g4 _ (ob p) p.length = _
    simp [impl_IsWord.g4, ob_size, spec_l01In_f]
  · intro k p a r c0 c1 cw
    show impl_IsWord.g4 (impl_IsWord.l4 NN k) (ob (p ++ a :: r)) p.length = _
    simp only [impl_IsWord.g4, c0, c1, cw, and_self, and_true, true_and, decide_true, decide_false, if_true, if_false, mid_get, mid_set, mid_getn, mid_setn, bt_mid, Option.bind_some, Bool.not_true, Bool.not_false, Bool.false_eq_true, Bool.true_eq_false, beq_self_eq_true, bne_self_eq_false, Int.toNat_natCast]
    unfold letB
    by_cases h1 : (a.toNat : Int) < 97 <;> by_cases h2 : (122 : Int) < (a.toNat : Int) <;> simp [h1, h2]
theorem spec_IsWord_loop (s : ByteArray) (h : s.size ≤ 140737488355328) : spec_IsWord.l2 NN NN s 0 = if (bl s).all letB = true then some (inB s.size 1 16) else some false := by
  refine all_loop_str letB (fun s => some (inB s.size 1 16)) (fun k s i => spec_IsWord.l2 NN k s i) ?_ ?_ s h NN (NN_lt (by omega))
  · intro k p
    show spec_IsWord.g2 _ (ob p) p.length = _
    simp [spec_IsWord.g2, ob_size, spec_l01In_f]
  · intro k p a r c0 c1 cw
    show spec_IsWord.g2 (spec_IsWord.l2 NN k) (ob (p ++ a :: r)) p.length = _
    simp only [spec_IsWord.g2, c0, c1, cw, and_self, and_true, true_and, decide_true, decide_false, if_true, if_false, mid_get, mid_set, mid_getn, mid_setn, bt_mid, Option.bind_some, Bool.not_true, Bool.not_false, Bool.false_eq_true, Bool.true_eq_false, beq_self_eq_true, bne_self_eq_false, Int.toNat_natCast]
    unfold letB
    by_cases h1 : (a.toNat : Int) < 97 <;> by_cases h2 : (122 : Int) < (a.toNat : Int) <;> simp [h1, h2]
theorem impl_IsWord_f (s : ByteArray) (h : s.size ≤ 140737488355328) : impl_IsWord.f s = some (wordB s) := by
  unfold impl_IsWord.f impl_IsWord.fn impl_IsWord.top
  rw [impl_IsWord_loop s h]
  unfold wordB
  by_cases h1 : (s.size : Int) < 1
  · have : ¬ 1 ≤ s.size := by omega
    simp [h1, this]
  · have e1 : 1 ≤ s.size := by omega
    by_cases h2 : (16 : Int) < s.size
    · have : ¬ s.size ≤ 16 := by omega
      simp [h1, h2, this]
    · have : s.size ≤ 16 := by omega
      cases h3 : (bl s).all letB <;> simp [h1, h2, this, h3, e1]
theorem spec_IsWord_f (s : ByteArray) (h : s.size ≤ 140737488355328) : spec_IsWord.f s = some (wordB s) := by
  unfold spec_IsWord.f spec_IsWord.fn spec_IsWord.top
  rw [spec_IsWord_loop s h]
  unfold wordB inB
  have e1 : decide ((1 : Int) ≤ s.size) = decide (1 ≤ s.size) := by congr 1; simp; omega
  have e2 : decide ((s.size : Int) ≤ 16) = decide (s.size ≤ 16) := by congr 1; simp; omega
  rw [e1, e2]
  cases h3 : (bl s).all letB <;> simp
end Go.Pl

namespace Go.Pl
open Go.Ev
set_option linter.unusedVariables false
set_option linter.unusedSimpArgs false
/-- a booking that stands -/
def valB (b : Int × ByteArray × Int) : Bool := inB b.1 0 3 && wordB b.2.1 && inB b.2.2 1 1000
def addL (a : ByteArray) (s : Int) (b : Int × ByteArray × Int) : Int := if b.2.1 = a then (if b.1 = 0 then s + b.2.2 else s - b.2.2) else s
def leftOf (xs : List (Int × ByteArray × Int)) (a : ByteArray) : Int := xs.foldl (addL a) 0
theorem leftOf_snoc (p : List (Int × ByteArray × Int)) (b : Int × ByteArray × Int) (a : ByteArray) : leftOf (p ++ [b]) a = addL a (leftOf p a) b := by
  unfold leftOf; rw [List.foldl_append]; rfl
theorem valB_count {b : Int × ByteArray × Int} (h : valB b = true) : 1 ≤ b.2.2 ∧ b.2.2 ≤ 1000 ∧ 0 ≤ b.1 ∧ b.1 ≤ 3 := by
  unfold valB at h
  simp only [Bool.and_eq_true, inB_iff] at h
  omega
theorem leftOf_le (a : ByteArray) (xs : List (Int × ByteArray × Int)) (h : ∀ b ∈ xs, valB b = true) : -(1000 * (xs.length : Int)) ≤ leftOf xs a ∧ leftOf xs a ≤ 1000 * (xs.length : Int) := by
  have key : ∀ (ys : List (Int × ByteArray × Int)) (s : Int), (∀ b ∈ ys, valB b = true) → s - 1000 * (ys.length : Int) ≤ ys.foldl (addL a) s ∧ ys.foldl (addL a) s ≤ s + 1000 * (ys.length : Int) := by
    intro ys
    induction ys with
    | nil => intro s _; simp
    | cons b r ih =>
      intro s hb
      have h1 := ih (addL a s b) (fun x hx => hb x (by simp [hx]))
      have h2 := valB_count (hb b (by simp))
      simp only [List.foldl_cons, List.length_cons]
      have : s - 1000 ≤ addL a s b ∧ addL a s b ≤ s + 1000 := by
        unfold addL; split <;> (try split) <;> omega
      omega
  have := key xs 0 h
  unfold leftOf; omega
theorem spec_l32Left_f (xs rest : List (Int × ByteArray × Int)) (a : ByteArray) (h : ∀ b ∈ xs, valB b = true) (hl : xs.length ≤ 1000000) : spec_l32Left.f (xs ++ rest) a xs.length = some (leftOf xs a) := by
  have := (fold_fix (E := fun b => valB b = true) (fun p s => (∀ b ∈ p, valB b = true) ∧ s = leftOf p a) (fun _ => addL a) some (fun k i s => spec_l32Left.l3 NN k (xs ++ rest) a xs.length s i) xs ?_ ?_ 0 h ⟨by simp, rfl⟩ (by omega) NN (NN_lt (by omega))).2
  · rw [foldi_foldl] at this
    exact this
  · intro k st _
    simp [spec_l32Left.l3, spec_l32Left.g3]
  · intro k p b r st hx hb hI c0 c1 c2 cw g
    obtain ⟨h1, rfl⟩ := hI
    have h2 : ∀ x ∈ p ++ [b], valB x = true := fun x hx => by
      rcases List.mem_append.1 hx with h | h
      · exact h1 x h
      · rw [List.mem_singleton.1 h]; exact hb
    refine ⟨⟨h2, (leftOf_snoc p b a).symm⟩, ?_⟩
    have c3 : (p.length : Int) < ((xs ++ rest).length : Int) := by rw [List.length_append]; omega
    have g' : ∀ z, (xs ++ rest).getD p.length z = b := fun z => by rw [hx]; simp
    have bd := leftOf_le a (p ++ [b]) h2
    rw [leftOf_snoc] at bd
    have hpl : p.length ≤ 1000000 := by omega
    simp only [List.length_append, List.length_cons, List.length_nil] at bd
    simp only [spec_l32Left.l3, spec_l32Left.g3, c0, c1, c3, cw, and_self, and_true, true_and, decide_true, decide_false, if_true, if_false, mid_get, mid_set, mid_getn, mid_setn, bt_mid, Option.bind_some, Bool.not_true, Bool.not_false, Bool.false_eq_true, Bool.true_eq_false, beq_self_eq_true, bne_self_eq_false, Int.toNat_natCast, g', ba_beq]
    unfold addL at bd ⊢
    by_cases ha : b.2.1 = a
    · by_cases hz : b.1 = 0
      · have e := w64 (n := leftOf p a + b.2.2) (by simp only [ha, hz, if_true] at bd; omega) (by simp only [ha, hz, if_true] at bd; omega)
        simp [ha, hz, e]
      · have e := w64 (n := leftOf p a - b.2.2) (by simp only [ha, hz, if_true, if_false] at bd; omega) (by simp only [ha, hz, if_true, if_false] at bd; omega)
        simp [ha, hz, e]
    · simp [ha]
/-- how many of each kind -/
def addT (a : ByteArray) (s : List Int) (b : Int × ByteArray × Int) : List Int := if b.2.1 = a then s.set b.1.toNat (s.getD b.1.toNat 0 + b.2.2) else s
def totL (xs : List (Int × ByteArray × Int)) (a : ByteArray) : List Int := xs.foldl (addT a) [0, 0, 0, 0]
theorem totL_snoc (p : List (Int × ByteArray × Int)) (b : Int × ByteArray × Int) (a : ByteArray) : totL (p ++ [b]) a = addT a (totL p a) b := by
  unfold totL; rw [List.foldl_append]; rfl
theorem totL_shape (a : ByteArray) (xs : List (Int × ByteArray × Int)) (h : ∀ b ∈ xs, valB b = true) : ∃ t0 t1 t2 t3, totL xs a = [t0, t1, t2, t3] ∧ t0 - t1 - t2 - t3 = leftOf xs a ∧ 0 ≤ t0 ∧ 0 ≤ t1 ∧ 0 ≤ t2 ∧ 0 ≤ t3 ∧ t0 + t1 + t2 + t3 ≤ 1000 * (xs.length : Int) := by
  have key : ∀ (n : Nat) (xs : List (Int × ByteArray × Int)), xs.length = n → (∀ b ∈ xs, valB b = true) → ∃ t0 t1 t2 t3, totL xs a = [t0, t1, t2, t3] ∧ t0 - t1 - t2 - t3 = leftOf xs a ∧ 0 ≤ t0 ∧ 0 ≤ t1 ∧ 0 ≤ t2 ∧ 0 ≤ t3 ∧ t0 + t1 + t2 + t3 ≤ 1000 * (xs.length : Int) := by
    intro n
    induction n with
    | zero => intro xs hn _; obtain rfl := List.length_eq_zero_iff.1 hn; exact ⟨0, 0, 0, 0, rfl, rfl, by omega, by omega, by omega, by omega, by simp⟩
    | succ n ih =>
      intro xs hn hb
      rcases List.eq_nil_or_concat xs with rfl | ⟨p, b, rfl⟩
      · simp at hn
      simp only [List.concat_eq_append] at hn hb ⊢
      obtain ⟨t0, t1, t2, t3, e1, e2, e3, e4, e5, e6, e7⟩ := ih p (by simpa using hn) (fun x hx => hb x (by simp [hx]))
      have hv := valB_count (hb b (by simp))
      rw [totL_snoc, leftOf_snoc, e1]
      simp only [List.length_append, List.length_cons, List.length_nil]
      unfold addT addL
      by_cases ha : b.2.1 = a
      · simp only [ha, if_true]
        obtain h | h | h | h : b.1 = 0 ∨ b.1 = 1 ∨ b.1 = 2 ∨ b.1 = 3 := by omega
        · exact ⟨t0 + b.2.2, t1, t2, t3, by simp [h], by simp [h]; omega, by omega, by omega, by omega, by omega, by omega⟩
        · exact ⟨t0, t1 + b.2.2, t2, t3, by simp [h], by simp [h]; omega, by omega, by omega, by omega, by omega, by omega⟩
        · exact ⟨t0, t1, t2 + b.2.2, t3, by simp [h], by simp [h]; omega, by omega, by omega, by omega, by omega, by omega⟩
        · exact ⟨t0, t1, t2, t3 + b.2.2, by simp [h], by simp [h]; omega, by omega, by omega, by omega, by omega, by omega⟩
      · simp only [ha, if_false]
        exact ⟨t0, t1, t2, t3, rfl, by omega, by omega, by omega, by omega, by omega, by omega⟩
  exact key _ xs rfl h
theorem impl_totalsOf_f (xs : List (Int × ByteArray × Int)) (a : ByteArray) (h : ∀ b ∈ xs, valB b = true) (hl : xs.length ≤ 1000000) : impl_totalsOf.f xs a = some (totL xs a) := by
  have := (fold_fix (E := fun b => valB b = true) (fun p s => (∀ b ∈ p, valB b = true) ∧ s = totL p a) (fun _ => addT a) some (fun k i s => impl_totalsOf.l3 NN k a xs xs.length i s) xs ?_ ?_ [0, 0, 0, 0] h ⟨by simp, rfl⟩ (by omega) NN (NN_lt (by omega))).2
  · rw [foldi_foldl] at this
    unfold impl_totalsOf.f impl_totalsOf.fn impl_totalsOf.top
    rw [if_pos (by rw [room8]; omega)]
    exact this
  · intro k st _
    simp [impl_totalsOf.l3, impl_totalsOf.g3]
  · intro k p b r st hx hb hI c0 c1 c2 cw g
    obtain ⟨h1, rfl⟩ := hI
    have h2 : ∀ x ∈ p ++ [b], valB x = true := fun x hx => by
      rcases List.mem_append.1 hx with h | h
      · exact h1 x h
      · rw [List.mem_singleton.1 h]; exact hb
    refine ⟨⟨h2, (totL_snoc p b a).symm⟩, ?_⟩
    obtain ⟨t0, t1, t2, t3, e1, e2, e3, e4, e5, e6, e7⟩ := totL_shape a p h1
    have hpl : p.length ≤ 1000000 := by omega
    have hv := valB_count hb
    simp only [impl_totalsOf.l3, impl_totalsOf.g3, c0, c1, cw, and_self, and_true, true_and, decide_true, decide_false, if_true, if_false, mid_get, mid_set, mid_getn, mid_setn, bt_mid, Option.bind_some, Bool.not_true, Bool.not_false, Bool.false_eq_true, Bool.true_eq_false, beq_self_eq_true, bne_self_eq_false, Int.toNat_natCast, g, ba_beq]
    unfold addT
    by_cases ha : b.2.1 = a
    · have k1 : b.1 < ((totL p a).length : Int) := by rw [e1]; simp; omega
      have k2 : 0 ≤ (totL p a).getD b.1.toNat 0 ∧ (totL p a).getD b.1.toNat 0 ≤ 1000000000 := by
        rw [e1]
        obtain h | h | h | h : b.1 = 0 ∨ b.1 = 1 ∨ b.1 = 2 ∨ b.1 = 3 := by omega
        all_goals (rw [h]; simp; omega)
      have e := w64 (n := (totL p a).getD b.1.toNat 0 + b.2.2) (by omega) (by omega)
      simp only [ha, decide_true, if_true, hv.2.2.1, k1, and_self, e]
    · simp [ha]
theorem impl_piecesLeft_f (xs : List (Int × ByteArray × Int)) (a : ByteArray) (h : ∀ b ∈ xs, valB b = true) (hl : xs.length ≤ 1000000) : impl_piecesLeft.f xs a = some (leftOf xs a) := by
  unfold impl_piecesLeft.f impl_piecesLeft.fn impl_piecesLeft.top
  rw [impl_totalsOf_f xs a h hl]
  obtain ⟨t0, t1, t2, t3, e1, e2, e3, e4, e5, e6, e7⟩ := totL_shape a xs h
  have w1 := w64 (n := t0 - t1) (by omega) (by omega)
  have w2 := w64 (n := t0 - t1 - t2) (by omega) (by omega)
  have w3 := w64 (n := t0 - t1 - t2 - t3) (by omega) (by omega)
  have w4 : IntKind.i64.wrap (leftOf xs a) = leftOf xs a := by rw [← e2]; exact w3
  rw [e1]
  simp [w1, w2, w3, e2, w4]
/-- no article short at any time -/
def okFrom (p : List (Int × ByteArray × Int)) : List (Int × ByteArray × Int) → Bool
  | [] => true
  | b :: r => valB b && decide (0 ≤ leftOf (p ++ [b]) b.2.1) && okFrom (p ++ [b]) r
def booksB (xs : List (Int × ByteArray × Int)) : Bool := decide (xs.length ≤ 60) && okFrom [] xs
theorem okFrom_val : ∀ (r p : List (Int × ByteArray × Int)), okFrom p r = true → ∀ b ∈ r, valB b = true := by
  intro r
  induction r with
  | nil => intro p _ b hb; cases hb
  | cons x r ih =>
    intro p h b hb
    simp only [okFrom, Bool.and_eq_true] at h
    rcases List.mem_cons.1 hb with rfl | hb
    · exact h.1.1
    · exact ih _ h.2 b hb
theorem booksB_val {xs : List (Int × ByteArray × Int)} (h : booksB xs = true) : (∀ b ∈ xs, valB b = true) ∧ xs.length ≤ 60 := by
  unfold booksB at h
  simp only [Bool.and_eq_true, decide_eq_true_eq] at h
  exact ⟨okFrom_val _ _ h.2, h.1⟩
theorem val_snoc {p : List (Int × ByteArray × Int)} {b : Int × ByteArray × Int} (h1 : ∀ x ∈ p, valB x = true) (hb : valB b = true) : ∀ x ∈ p ++ [b], valB x = true := fun x hx => by
  rcases List.mem_append.1 hx with h | h
  · exact h1 x h
  · rw [List.mem_singleton.1 h]; exact hb
theorem spec_AreBookings_loop : ∀ (r p : List (Int × ByteArray × Int)) (k : Nat), (∀ b ∈ p, valB b = true) → (∀ b ∈ r, Sz b.2.1) → p.length + r.length ≤ 1000000 → r.length < k →
    spec_AreBookings.l2 NN k (p ++ r) p.length = some (okFrom p r && decide ((p ++ r).length ≤ 60)) := by
  intro r
  induction r with
  | nil =>
    intro p k _ _ _ hk
    obtain ⟨k, rfl⟩ : ∃ j, k = j + 1 := ⟨k - 1, by omega⟩
    simp [spec_AreBookings.l2, spec_AreBookings.g2, okFrom]
    omega
  | cons b r ih =>
    intro p k hp hr hb hk
    simp only [List.length_cons] at hk hb
    obtain ⟨k, rfl⟩ : ∃ j, k = j + 1 := ⟨k - 1, by omega⟩
    have hm := mid_len p r b
    have c0 : (0 : Int) ≤ (p.length : Int) := by omega
    have c1 : (p.length : Int) < ((p ++ b :: r).length : Int) := by omega
    have cw := w64 (n := (p.length : Int) + 1) (by omega) (by omega)
    simp only [spec_AreBookings.l2, spec_AreBookings.g2, c0, c1, cw, and_self, and_true, true_and, decide_true, decide_false, if_true, if_false, mid_get, mid_set, mid_getn, mid_setn, bt_mid, Option.bind_some, Bool.not_true, Bool.not_false, Bool.false_eq_true, Bool.true_eq_false, beq_self_eq_true, bne_self_eq_false, Int.toNat_natCast, spec_l01In_f, spec_IsWord_f _ (hr b (by simp))]
    have hv : valB b = (inB b.1 0 3 && wordB b.2.1 && inB b.2.2 1 1000) := rfl
    simp only [okFrom]
    cases h1 : inB b.1 0 3
    · simp [hv, h1]
    cases h2 : wordB b.2.1
    · simp [hv, h2]
    cases h3 : inB b.2.2 1 1000
    · simp [hv, h3]
    have hvt : valB b = true := by rw [hv, h1, h2, h3]; rfl
    have hl := spec_l32Left_f (p ++ [b]) r b.2.1 (val_snoc hp hvt) (by simp; omega)
    rw [mid_snoc, snoc_len] at hl
    have := ih (p ++ [b]) k (val_snoc hp hvt) (fun x hx => hr x (by simp [hx])) (by simp; omega) (by omega)
    rw [mid_snoc, snoc_len] at this
    simp only [hl, this, hvt, and_self, and_true, true_and, decide_true, decide_false, if_true, if_false, mid_get, mid_set, mid_getn, mid_setn, bt_mid, Option.bind_some, Bool.not_true, Bool.not_false, Bool.false_eq_true, Bool.true_eq_false, beq_self_eq_true, bne_self_eq_false, Int.toNat_natCast, decide_eq_true_eq]
    by_cases hn : leftOf (p ++ [b]) b.2.1 < 0
    · have : ¬ 0 ≤ leftOf (p ++ [b]) b.2.1 := by omega
      simp [hn, this]
    · have h4 : 0 ≤ leftOf (p ++ [b]) b.2.1 := by omega
      simp [hn, h4]
theorem spec_AreBookings_f (xs : List (Int × ByteArray × Int)) (h : Lm OkBooking xs) : spec_AreBookings.f xs = some (booksB xs) := by
  have := spec_AreBookings_loop xs [] NN (by simp) (fun b hb => Nat.le_trans (h.2 b hb).2.1 (by omega)) (by simpa using h.1) (NN_lt (by have := h.1; omega))
  unfold spec_AreBookings.f spec_AreBookings.fn spec_AreBookings.top booksB
  rw [Bool.and_comm]
  simpa using this
theorem impl_AreBookings_loop : ∀ (r p : List (Int × ByteArray × Int)) (k : Nat), (∀ b ∈ p, valB b = true) → (∀ b ∈ r, Sz b.2.1) → p.length + r.length ≤ 1000000 → r.length < k →
    impl_AreBookings.l4 NN k (p ++ r) (p ++ r) (p ++ r).length p.length = some (okFrom p r) := by
  intro r
  induction r with
  | nil =>
    intro p k _ _ _ hk
    obtain ⟨k, rfl⟩ : ∃ j, k = j + 1 := ⟨k - 1, by omega⟩
    simp [impl_AreBookings.l4, impl_AreBookings.g4, okFrom]
  | cons b r ih =>
    intro p k hp hr hb hk
    simp only [List.length_cons] at hk hb
    obtain ⟨k, rfl⟩ : ∃ j, k = j + 1 := ⟨k - 1, by omega⟩
    have hm := mid_len p r b
    have c0 : (0 : Int) ≤ (p.length : Int) := by omega
    have c1 : (p.length : Int) < ((p ++ b :: r).length : Int) := by omega
    have cw := w64 (n := (p.length : Int) + 1) (by omega) (by omega)
    have c2 : (0 : Int) ≤ (p.length : Int) + 1 := by omega
    have c3 : (p.length : Int) + 1 ≤ ((p ++ b :: r).length : Int) := by omega
    have ct : (p ++ b :: r).take ((p.length : Int) + 1).toNat = p ++ [b] := by
      rw [show ((p.length : Int) + 1).toNat = (p ++ [b]).length by simp, show p ++ b :: r = (p ++ [b]) ++ r by simp, List.take_left' rfl]
    simp only [impl_AreBookings.l4, impl_AreBookings.g4, c0, c1, c2, c3, cw, ct, and_self, and_true, true_and, decide_true, decide_false, if_true, if_false, mid_get, mid_set, mid_getn, mid_setn, bt_mid, Option.bind_some, Bool.not_true, Bool.not_false, Bool.false_eq_true, Bool.true_eq_false, beq_self_eq_true, bne_self_eq_false, Int.toNat_natCast, impl_within_f, impl_IsWord_f _ (hr b (by simp))]
    have hv : valB b = (inB b.1 0 3 && wordB b.2.1 && inB b.2.2 1 1000) := rfl
    simp only [okFrom]
    cases h1 : inB b.1 0 3
    · simp [hv, h1]
    cases h2 : wordB b.2.1
    · simp [hv, h2]
    cases h3 : inB b.2.2 1 1000
    · simp [hv, h3]
    have hvt : valB b = true := by rw [hv, h1, h2, h3]; rfl
    have hl := impl_piecesLeft_f (p ++ [b]) b.2.1 (val_snoc hp hvt) (by simp; omega)
    have := ih (p ++ [b]) k (val_snoc hp hvt) (fun x hx => hr x (by simp [hx])) (by simp; omega) (by omega)
    rw [mid_snoc, snoc_len] at this
    simp only [hl, this, hvt, and_self, and_true, true_and, decide_true, decide_false, if_true, if_false, mid_get, mid_set, mid_getn, mid_setn, bt_mid, Option.bind_some, Bool.not_true, Bool.not_false, Bool.false_eq_true, Bool.true_eq_false, beq_self_eq_true, bne_self_eq_false, Int.toNat_natCast, decide_eq_true_eq]
    by_cases hn : leftOf (p ++ [b]) b.2.1 < 0
    · have : ¬ 0 ≤ leftOf (p ++ [b]) b.2.1 := by omega
      simp [hn, this]
    · have h4 : 0 ≤ leftOf (p ++ [b]) b.2.1 := by omega
      simp [hn, h4]
theorem impl_AreBookings_f (xs : List (Int × ByteArray × Int)) (h : Lm OkBooking xs) : impl_AreBookings.f xs = some (booksB xs) := by
  have := impl_AreBookings_loop xs [] NN (by simp) (fun b hb => Nat.le_trans (h.2 b hb).2.1 (by omega)) (by simpa using h.1) (NN_lt (by have := h.1; omega))
  unfold impl_AreBookings.f impl_AreBookings.fn impl_AreBookings.top booksB
  simp only [List.nil_append, List.length_nil] at this
  by_cases h1 : (60 : Int) < xs.length
  · have h2 : ¬ xs.length ≤ 60 := by omega
    simp [h1, h2]
  · have h2 : xs.length ≤ 60 := by omega
    simp only [h1, h2, decide_false, Bool.false_eq_true, if_false, decide_true, Bool.true_and]
    exact this
theorem AreBookings_core (xs : List (Int × ByteArray × Int)) (h : Lm OkBooking xs) : ∃ w, spec_AreBookings.f xs = some w ∧ impl_AreBookings.f xs = some w ∧ True :=
  ⟨_, spec_AreBookings_f xs h, impl_AreBookings_f xs h, trivial⟩
end Go.Pl

namespace Go.Pl
open Go.Ev
set_option linter.unusedVariables false
noncomputable section
def impl_PiecesLeft.top (list0 : List (Int × ByteArray × Int)) (article1 : ByteArray) : Option (Int × Int) :=
  (impl_AreBookings.f list0).bind fun r1 =>
  if (!r1) = false then
    (impl_IsWord.f article1).bind fun r2 =>
    if (!r2) = true then
      some (0, 1)
    else
      (impl_piecesLeft.f list0 article1).bind fun r3 =>
      some (r3, 0)
  else
    some (0, 1)
def impl_PiecesLeft.fn (n : Nat) (list0 : List (Int × ByteArray × Int)) (article1 : ByteArray) : Option (Int × Int) := impl_PiecesLeft.top list0 article1
def impl_PiecesLeft.f (list0 : List (Int × ByteArray × Int)) (article1 : ByteArray) : Option (Int × Int) := impl_PiecesLeft.fn NN list0 article1
end
end Go.Pl

namespace Go.Pl
open Go.Ev
set_option linter.unusedVariables false
noncomputable section
def spec_PiecesLeft.top (list0 : List (Int × ByteArray × Int)) (article1 : ByteArray) : Option (Int × Int) :=
  (spec_AreBookings.f list0).bind fun r1 =>
  if (!r1) = false then
    (spec_IsWord.f article1).bind fun r2 =>
    if (!r2) = true then
      some (0, 1)
    else
      (spec_l32Left.f list0 article1 (list0.length : Int)).bind fun r3 =>
      some (r3, 0)
  else
    some (0, 1)
def spec_PiecesLeft.fn (n : Nat) (list0 : List (Int × ByteArray × Int)) (article1 : ByteArray) : Option (Int × Int) := spec_PiecesLeft.top list0 article1
def spec_PiecesLeft.f (list0 : List (Int × ByteArray × Int)) (article1 : ByteArray) : Option (Int × Int) := spec_PiecesLeft.fn NN list0 article1
end
end Go.Pl

namespace Go.Pl
open Go.Ev
set_option linter.unusedVariables false
noncomputable section
def impl_MostIn.g5 (L5 : (List (Int × ByteArray × Int)) → ByteArray → Int → Int → Int → Option (Int × Int)) (list0 : List (Int × ByteArray × Int)) (article1 : ByteArray) (most6 : Int) (v17 : Int) (v18 : Int) : Option (Int × Int) :=
  if (decide ((v18 : Int) < v17)) = true then
    if (0 : Int) ≤ (IntKind.i64.wrap (v18 + 1)) ∧ ((IntKind.i64.wrap (v18 + 1)) : Int) ≤ list0.length then
      (impl_piecesLeft.f (list0.take ((IntKind.i64.wrap (v18 + 1)) : Int).toNat) article1).bind fun r3 =>
      L5 list0 article1 (if r3 > most6 then r3 else most6) v17 (IntKind.i64.wrap (v18 + 1))
    else
      none
  else
    some (most6, 0)
def impl_MostIn.l5 (n : Nat) : Nat → (List (Int × ByteArray × Int)) → ByteArray → Int → Int → Int → Option (Int × Int)
  | 0 => fun _ _ _ _ _ => none
  | k + 1 => impl_MostIn.g5 (impl_MostIn.l5 n k)
def impl_MostIn.top (I5 : (List (Int × ByteArray × Int)) → ByteArray → Int → Int → Int → Option (Int × Int)) (list0 : List (Int × ByteArray × Int)) (article1 : ByteArray) : Option (Int × Int) :=
  (impl_AreBookings.f list0).bind fun r1 =>
  if (!r1) = false then
    (impl_IsWord.f article1).bind fun r2 =>
    if (!r2) = true then
      some (0, 1)
    else
      I5 list0 article1 0 (list0.length : Int) 0
  else
    some (0, 1)
def impl_MostIn.fn (n : Nat) (list0 : List (Int × ByteArray × Int)) (article1 : ByteArray) : Option (Int × Int) := impl_MostIn.top (impl_MostIn.l5 n n) list0 article1
def impl_MostIn.f (list0 : List (Int × ByteArray × Int)) (article1 : ByteArray) : Option (Int × Int) := impl_MostIn.fn NN list0 article1
end
end Go.Pl

namespace Go.Pl
open Go.Ev
set_option linter.unusedVariables false
noncomputable section
def spec_MostIn.g5 (L5 : (List (Int × ByteArray × Int)) → ByteArray → Int → Int → Option (Int × Int)) (list0 : List (Int × ByteArray × Int)) (article1 : ByteArray) (most6 : Int) (n7 : Int) : Option (Int × Int) :=
  if (decide ((n7 : Int) ≤ (list0.length : Int))) = true then
    (spec_l32Left.f list0 article1 n7).bind fun r3 =>
    L5 list0 article1 (if r3 > most6 then r3 else most6) (IntKind.i64.wrap (n7 + 1))
  else
    some (most6, 0)
def spec_MostIn.l5 (n : Nat) : Nat → (List (Int × ByteArray × Int)) → ByteArray → Int → Int → Option (Int × Int)
  | 0 => fun _ _ _ _ => none
  | k + 1 => spec_MostIn.g5 (spec_MostIn.l5 n k)
def spec_MostIn.top (I5 : (List (Int × ByteArray × Int)) → ByteArray → Int → Int → Option (Int × Int)) (list0 : List (Int × ByteArray × Int)) (article1 : ByteArray) : Option (Int × Int) :=
  (spec_AreBookings.f list0).bind fun r1 =>
  if (!r1) = false then
    (spec_IsWord.f article1).bind fun r2 =>
    if (!r2) = true then
      some (0, 1)
    else
      I5 list0 article1 0 0
  else
    some (0, 1)
def spec_MostIn.fn (n : Nat) (list0 : List (Int × ByteArray × Int)) (article1 : ByteArray) : Option (Int × Int) := spec_MostIn.top (spec_MostIn.l5 n n) list0 article1
def spec_MostIn.f (list0 : List (Int × ByteArray × Int)) (article1 : ByteArray) : Option (Int × Int) := spec_MostIn.fn NN list0 article1
end
end Go.Pl

namespace Go.Pl
open Go.Ev
set_option linter.unusedVariables false
set_option linter.unusedSimpArgs false
theorem l32Left_all (xs : List (Int × ByteArray × Int)) (a : ByteArray) (h : ∀ b ∈ xs, valB b = true) (hl : xs.length ≤ 1000000) : spec_l32Left.f xs a xs.length = some (leftOf xs a) := by
  have := spec_l32Left_f xs [] a h hl
  rwa [List.append_nil] at this
theorem l32Left_take (xs : List (Int × ByteArray × Int)) (a : ByteArray) (n : Nat) (hn : n ≤ xs.length) (h : ∀ b ∈ xs, valB b = true) (hl : xs.length ≤ 1000000) : spec_l32Left.f xs a n = some (leftOf (xs.take n) a) := by
  have := spec_l32Left_f (xs.take n) (xs.drop n) a (fun b hb => h b (List.mem_of_mem_take hb)) (by rw [List.length_take]; omega)
  rwa [List.take_append_drop, List.length_take, Nat.min_eq_left hn] at this
theorem PiecesLeft_core (xs : List (Int × ByteArray × Int)) (a : ByteArray) (h : Lm OkBooking xs) (ha : Sm a) : ∃ w, spec_PiecesLeft.f xs a = some w ∧ impl_PiecesLeft.f xs a = some w ∧ True := by
  refine ⟨if booksB xs = true ∧ wordB a = true then (leftOf xs a, 0) else (0, 1), ?_, ?_, trivial⟩
  · unfold spec_PiecesLeft.f spec_PiecesLeft.fn spec_PiecesLeft.top
    rw [spec_AreBookings_f xs h, spec_IsWord_f a (Nat.le_trans ha (by omega))]
    cases hb : booksB xs
    · rfl
    cases hw : wordB a
    · rfl
    have hv := booksB_val hb
    simp only [and_self, and_true, true_and, decide_true, decide_false, if_true, if_false, mid_get, mid_set, mid_getn, mid_setn, bt_mid, Option.bind_some, Bool.not_true, Bool.not_false, Bool.false_eq_true, Bool.true_eq_false, beq_self_eq_true, bne_self_eq_false, Int.toNat_natCast]
    rw [l32Left_all xs a hv.1 (by omega)]; rfl
  · unfold impl_PiecesLeft.f impl_PiecesLeft.fn impl_PiecesLeft.top
    rw [impl_AreBookings_f xs h, impl_IsWord_f a (Nat.le_trans ha (by omega))]
    cases hb : booksB xs
    · rfl
    cases hw : wordB a
    · rfl
    have hv := booksB_val hb
    simp only [and_self, and_true, true_and, decide_true, decide_false, if_true, if_false, mid_get, mid_set, mid_getn, mid_setn, bt_mid, Option.bind_some, Bool.not_true, Bool.not_false, Bool.false_eq_true, Bool.true_eq_false, beq_self_eq_true, bne_self_eq_false, Int.toNat_natCast]
    rw [impl_piecesLeft_f xs a hv.1 (by omega)]; rfl
def mostF (xs : List (Int × ByteArray × Int)) (a : ByteArray) (i : Nat) (st : Int) : Int := if leftOf (xs.take (i + 1)) a > st then leftOf (xs.take (i + 1)) a else st
def mostL (xs : List (Int × ByteArray × Int)) (a : ByteArray) : Int := foldi (fun i st (_ : Int × ByteArray × Int) => mostF xs a i st) 0 0 xs
theorem impl_MostIn_l (xs : List (Int × ByteArray × Int)) (a : ByteArray) (h : ∀ b ∈ xs, valB b = true) (hl : xs.length ≤ 60) : impl_MostIn.l5 NN NN xs a 0 xs.length 0 = some (mostL xs a, 0) := by
  have := (fold_fix (E := fun _ => True) (fun _ _ => True) (fun i st (_ : Int × ByteArray × Int) => mostF xs a i st) (fun st => some (st, (0 : Int))) (fun k i st => impl_MostIn.l5 NN k xs a st xs.length i) xs ?_ ?_ 0 (fun _ _ => trivial) trivial (by omega) NN (NN_lt (by omega))).2
  · exact this
  · intro k st _
    simp [impl_MostIn.l5, impl_MostIn.g5]
  · intro k p b r st hx _ _ c0 c1 c2 cw g
    refine ⟨trivial, ?_⟩
    have c3 : (0 : Int) ≤ (p.length : Int) + 1 := by omega
    have c4 : (p.length : Int) + 1 ≤ (xs.length : Int) := by omega
    have e : ((p.length : Int) + 1).toNat = p.length + 1 := by omega
    simp only [impl_MostIn.l5, impl_MostIn.g5, c1, c3, c4, cw, e, and_self, and_true, true_and, decide_true, decide_false, if_true, if_false, mid_get, mid_set, mid_getn, mid_setn, bt_mid, Option.bind_some, Bool.not_true, Bool.not_false, Bool.false_eq_true, Bool.true_eq_false, beq_self_eq_true, bne_self_eq_false, Int.toNat_natCast]
    rw [impl_piecesLeft_f (xs.take (p.length + 1)) a (fun b hb => h b (List.mem_of_mem_take hb)) (by rw [List.length_take]; omega)]
    rfl
theorem spec_MostIn_l (xs : List (Int × ByteArray × Int)) (a : ByteArray) (h : ∀ b ∈ xs, valB b = true) (hl : xs.length ≤ 60) : spec_MostIn.l5 NN NN xs a 0 0 = some (mostL xs a, 0) := by
  obtain ⟨k, hk⟩ : ∃ j, NN = j + 1 := ⟨NN - 1, by have := NNb; omega⟩
  have hkb : 1000 < k := by rw [NN_eq] at hk; omega
  have := (fold_fix (E := fun _ => True) (fun _ _ => True) (fun i st (_ : Int × ByteArray × Int) => mostF xs a i st) (fun st => some (st, (0 : Int))) (fun k i st => spec_MostIn.l5 NN k xs a st (i + 1)) xs ?_ ?_ 0 (fun _ _ => trivial) trivial (by omega) k (by omega)).2
  · rw [show spec_MostIn.l5 NN NN = spec_MostIn.l5 NN (k + 1) by rw [← hk]]
    have c0 : (0 : Int) ≤ (xs.length : Int) := by omega
    have z := l32Left_take xs a 0 (by omega) h (by omega)
    have w := w64 (n := 0 + 1) (by omega) (by omega)
    simp only [spec_MostIn.l5, spec_MostIn.g5, c0, and_self, and_true, true_and, decide_true, decide_false, if_true, if_false, mid_get, mid_set, mid_getn, mid_setn, bt_mid, Option.bind_some, Bool.not_true, Bool.not_false, Bool.false_eq_true, Bool.true_eq_false, beq_self_eq_true, bne_self_eq_false, Int.toNat_natCast, w]
    rw [show ((0 : Nat) : Int) = 0 from rfl] at z
    rw [z]
    exact this
  · intro k st _
    simp [spec_MostIn.l5, spec_MostIn.g5]
    omega
  · intro k p b r st hx _ _ c0 c1 c2 cw g
    refine ⟨trivial, ?_⟩
    have c4 : (p.length : Int) + 1 ≤ (xs.length : Int) := by omega
    have z := l32Left_take xs a (p.length + 1) (by omega) h (by omega)
    rw [show ((p.length + 1 : Nat) : Int) = (p.length : Int) + 1 by omega] at z
    have w := w64 (n := (p.length : Int) + 1 + 1) (by omega) (by omega)
    simp only [spec_MostIn.l5, spec_MostIn.g5, c4, w, z, and_self, and_true, true_and, decide_true, decide_false, if_true, if_false, mid_get, mid_set, mid_getn, mid_setn, bt_mid, Option.bind_some, Bool.not_true, Bool.not_false, Bool.false_eq_true, Bool.true_eq_false, beq_self_eq_true, bne_self_eq_false, Int.toNat_natCast]
    rfl
theorem MostIn_core (xs : List (Int × ByteArray × Int)) (a : ByteArray) (h : Lm OkBooking xs) (ha : Sm a) : ∃ w, spec_MostIn.f xs a = some w ∧ impl_MostIn.f xs a = some w ∧ True := by
  refine ⟨if booksB xs = true ∧ wordB a = true then (mostL xs a, 0) else (0, 1), ?_, ?_, trivial⟩
  · unfold spec_MostIn.f spec_MostIn.fn spec_MostIn.top
    rw [spec_AreBookings_f xs h, spec_IsWord_f a (Nat.le_trans ha (by omega))]
    cases hb : booksB xs
    · rfl
    cases hw : wordB a
    · rfl
    have hv := booksB_val hb
    exact spec_MostIn_l xs a hv.1 hv.2
  · unfold impl_MostIn.f impl_MostIn.fn impl_MostIn.top
    rw [impl_AreBookings_f xs h, impl_IsWord_f a (Nat.le_trans ha (by omega))]
    cases hb : booksB xs
    · rfl
    cases hw : wordB a
    · rfl
    have hv := booksB_val hb
    exact impl_MostIn_l xs a hv.1 hv.2
end Go.Pl

namespace Go.Pl
open Go.Ev
set_option linter.unusedVariables false
set_option linter.unusedSimpArgs false
theorem ok_snoc {α : Type} {Q : α → Prop} {xs : List α} {b : α} (h : Lm Q xs) (hb : Q b) (hl : xs.length < 1000000) : Lm Q (xs ++ [b]) :=
  ⟨by simp; omega, fun x hx => by
    rcases List.mem_append.1 hx with h1 | h1
    · exact h.2 x h1
    · rw [List.mem_singleton.1 h1]; exact hb⟩
def bookR (xs : List (Int × ByteArray × Int)) (b : Int × ByteArray × Int) : List (Int × ByteArray × Int) × Int :=
  if booksB xs = true then (if xs.length = 60 then ([], 3) else if booksB (xs ++ [b]) = true then (xs ++ [b], 0) else ([], 5)) else ([], 1)
theorem impl_BookPieces_f (xs : List (Int × ByteArray × Int)) (b : Int × ByteArray × Int) (h : Lm OkBooking xs) (hb : OkBooking b) : impl_BookPieces.f xs b = some (bookR xs b) := by
  unfold impl_BookPieces.f impl_BookPieces.fn impl_BookPieces.top bookR
  rw [impl_AreBookings_f xs h]
  cases hx : booksB xs
  · rfl
  have hv := booksB_val hx
  simp only [and_self, and_true, true_and, decide_true, decide_false, if_true, if_false, mid_get, mid_set, mid_getn, mid_setn, bt_mid, Option.bind_some, Bool.not_true, Bool.not_false, Bool.false_eq_true, Bool.true_eq_false, beq_self_eq_true, bne_self_eq_false, Int.toNat_natCast]
  by_cases h60 : xs.length = 60
  · simp [h60]
  · have e1 : ((xs.length : Int) == 60) = false := by rw [beq_eq_false_iff_ne]; omega
    have e2 : ([] : List (Int × ByteArray × Int)).length + xs.length < room 32 := by rw [room32]; simp; omega
    have e3 : (([] : List (Int × ByteArray × Int)) ++ xs).length + [b].length < room 32 := by rw [room32]; simp; omega
    simp only [e1, e2, e3, h60, and_self, and_true, true_and, decide_true, decide_false, if_true, if_false, mid_get, mid_set, mid_getn, mid_setn, bt_mid, Option.bind_some, Bool.not_true, Bool.not_false, Bool.false_eq_true, Bool.true_eq_false, beq_self_eq_true, bne_self_eq_false, Int.toNat_natCast]
    rw [List.nil_append, impl_AreBookings_f (xs ++ [b]) (ok_snoc h hb (by omega))]
    cases booksB (xs ++ [b]) <;> rfl
theorem spec_BookPieces_f (xs : List (Int × ByteArray × Int)) (b : Int × ByteArray × Int) (h : Lm OkBooking xs) (hb : OkBooking b) : spec_BookPieces.f xs b = some (bookR xs b) := by
  unfold spec_BookPieces.f spec_BookPieces.fn spec_BookPieces.top bookR
  rw [spec_AreBookings_f xs h]
  cases hx : booksB xs
  · rfl
  have hv := booksB_val hx
  simp only [and_self, and_true, true_and, decide_true, decide_false, if_true, if_false, mid_get, mid_set, mid_getn, mid_setn, bt_mid, Option.bind_some, Bool.not_true, Bool.not_false, Bool.false_eq_true, Bool.true_eq_false, beq_self_eq_true, bne_self_eq_false, Int.toNat_natCast]
  by_cases h60 : xs.length = 60
  · simp [h60]
  · have e1 : ((xs.length : Int) == 60) = false := by rw [beq_eq_false_iff_ne]; omega
    have e2 : ([] : List (Int × ByteArray × Int)).length + xs.length < room 32 := by rw [room32]; simp; omega
    have e3 : (([] : List (Int × ByteArray × Int)) ++ xs).length + [b].length < room 32 := by rw [room32]; simp; omega
    simp only [e1, e2, e3, h60, and_self, and_true, true_and, decide_true, decide_false, if_true, if_false, mid_get, mid_set, mid_getn, mid_setn, bt_mid, Option.bind_some, Bool.not_true, Bool.not_false, Bool.false_eq_true, Bool.true_eq_false, beq_self_eq_true, bne_self_eq_false, Int.toNat_natCast]
    rw [List.nil_append, spec_AreBookings_f (xs ++ [b]) (ok_snoc h hb (by omega))]
    cases booksB (xs ++ [b]) <;> rfl
theorem bookR_ok (xs : List (Int × ByteArray × Int)) (b : Int × ByteArray × Int) (h : Lm OkBooking xs) (hb : OkBooking b) : Lm OkBooking (bookR xs b).1 := by
  unfold bookR
  split
  · rename_i hx
    have hv := booksB_val hx
    split
    · exact ⟨by simp, by simp⟩
    · split
      · exact ok_snoc h hb (by omega)
      · exact ⟨by simp, by simp⟩
  · exact ⟨by simp, by simp⟩
theorem BookPieces_core (xs : List (Int × ByteArray × Int)) (b : Int × ByteArray × Int) (h : Lm OkBooking xs) (hb : OkBooking b) : ∃ w, spec_BookPieces.f xs b = some w ∧ impl_BookPieces.f xs b = some w ∧ Lm OkBooking w.1 :=
  ⟨_, spec_BookPieces_f xs b h hb, impl_BookPieces_f xs b h hb, bookR_ok xs b h hb⟩
end Go.Pl

namespace Go.Pl
open Go.Ev
set_option linter.unusedVariables false
set_option linter.unusedSimpArgs false
theorem FnExactBookPieces_true (aList : List (Int × ByteArray × Int)) (aB : Int × ByteArray × Int) (hyp : Ls PlBooking aList ∧ PlBooking aB) : laws_FnExactBookPieces.f aList aB = some true := by
  obtain ⟨h_aList, h_aB⟩ := hyp
  unfold laws_FnExactBookPieces.f laws_FnExactBookPieces.fn laws_FnExactBookPieces.top
  obtain ⟨s1, e1, l1, k1⟩ := laws_szBookingS_ok aList 1000000 (by omega) (by omega) h_aList
  simp only [e1, Option.bind_some, decide_eq_true_eq]
  by_cases hn1 : s1 < 0
  · simp [hn1]
  simp only [hn1, if_false]
  obtain ⟨q1, o_aList⟩ := k1 (by omega)
  obtain ⟨s2, e2, l2, k2⟩ := laws_szBooking_ok aB s1 (by omega) (by omega) h_aB
  simp only [e2, Option.bind_some, decide_eq_true_eq]
  by_cases hn2 : s2 < 0
  · simp [hn2]
  simp only [hn2, if_false]
  obtain ⟨q2, o_aB⟩ := k2 (by omega)
  obtain ⟨f0_aList, t_aList, i_aList⟩ := laws_toBookingS_both aList o_aList
  obtain ⟨⟨w0, w1⟩, c1, c2, c3⟩ := BookPieces_core aList aB o_aList o_aB
  have c4 := c3
  have c3_0 : Lm OkBooking w0 := c3
  have eq_0 := laws_eqBookingS_self w0 (Nat.le_trans c3_0.1 (by omega))
  obtain ⟨m1, d1, x1, y1, z1, u1⟩ := laws_markBookingS_ok aList o_aList 101 (by omega) (by omega)
  have kn : ¬ m1 < 0 := by omega
  obtain ⟨m2, d2, x2, y2, z2, u2⟩ := laws_markBookingS_ok w0 c3_0 101 (by omega) (by omega)
  have n2 : ¬ m2 < 0 := by omega
  simp [t_aList, i_aList, laws_toBooking_ok, c1, c2, eq_0, x1, kn, x2, y2, n2]
end Go.Pl

/- The law FnExactBookPieces: the program's function answers as the law says, for all arguments of a claim's bounds. -/
namespace Go.Proofs.Ytppfdipgaifhiab.fnExactBookPieces
open Go.ChangeShapes Go.WideShapes Go.ChangeAt Go.RowKit Go.Ev
set_option linter.unusedVariables false
theorem own : ownKnob Try.prog.godebug = none := by kernel_rfl
theorem posok : posB Go.Ev.Try.tab = true := by kernel_rfl
theorem laidOut : laidOutB Try.prog = true := by kernel_rfl
set_option maxRecDepth 100000 in
theorem lifted (os : Os) (started : os.Started) (H : Type) (enc : TypeId × Value → H) :
    ReturnsInHanded {} Try.checked os 5 .any (Rows.fnExactBookPiecesSpec.pre6 enc Try.prog Try.f5 Rows.fnExactBookPiecesRow.domain false) (Rows.fnExactBookPiecesSpec.post enc Try.prog Try.f5 false true false false) := by
  refine returnsInHanded_of_change_sized (C := Try.checked) own started (by kernel_rfl) Try.func5
    (ChangeSpec.witness6 (enc := enc) (C := Try.checked) false ⟨#[], #[.slice none 0 0, .agg #[.int .i64 0, .string ByteArray.empty, .int .i64 0]], []⟩ 8 (by kernel_rfl) (by kernel_rfl) (by kernel_rfl) (by kernel_rfl)) ?_
  intro W base args ds gs before hval0 hW hcnd hsz0 _
  have hsz : (DataW.weightsEach Try.prog (Try.f5.params.toList ++ Rows.fnExactBookPiecesSpec.plain.varTypes Try.prog) (ds ++ gs)).all (· ≤ reachBytes) = true := hsz0
  have hval : ∀ (j : Nat) t v, Try.f5.params[j]? = some t → args[j]? = some v → Value.okWide Try.prog W .any base t v := hval0
  have hW' := hW
  obtain ⟨p, q, hA0, hV, rfl, hfz, hnd⟩ := hW
  have hA : DataW.TrodAll enc Try.prog W 0 (fun _ => true) true Try.f5.params.toList args.toList ds p := hA0
  rw [Try.params5] at hA hval hsz
  obtain ⟨rfl, rfl⟩ := trodVars_none hV
  have hcall := fun hl => law_row Go.Ev.Try.tabok posok Go.Ev.Try.laws_FnExactBookPieces.good rfl (by kernel_rfl)
    (fun x hx => ⟨true, Go.Pl.FnExactBookPieces_true x.1 x.2 hx, rfl⟩) (ts := [30, 39]) (by rfl) hA (fun j t v hj hv => hval j t v (by simpa using hj) hv) (.inr rfl) hsz hl
  obtain ⟨v0, vs0, d0, ds0, p0, q0, hargs0, rfl, rfl, h0, r0⟩ := trodAll_cons hA
  obtain ⟨v1, vs1, d1, ds1, p1, q1, hargs1, rfl, rfl, h1, r1⟩ := trodAll_cons r0
  obtain ⟨rfl, rfl, rfl⟩ := trodAll_nil r1
  obtain rfl : args = #[v0, v1] := by cases args; simp_all
  refine (hcall rfl).mono fun e W' ⟨he, bel⟩ => ?_
  subst he
  have hlt0 : ∀ x ∈ p0, x.block < W.heap.size := fun x hx => by simpa using hW'.lt x (by simp [hx])
  have hlt1 : ∀ x ∈ p1, x.block < W.heap.size := fun x hx => by simpa using hW'.lt x (by simp [hx])
  exact ⟨_, rfl, _, _, _, [], _, [], hW', trodAll_mk1 (shut_bool Try.underlying4 _), (trodAll_cons_mk (Below.trod laidOut (by kernel_rfl) (of_decide_eq_true (by kernel_rfl)) h0 bel hlt0) (trodAll_cons_mk (Below.trod laidOut (by kernel_rfl) (of_decide_eq_true (by kernel_rfl)) h1 bel hlt1) trodAll_mk0)), rfl, bel.frame _, fun h => by cases h⟩
theorem over : Rows.fnExactBookPiecesRow.holds Try.pinned (OpenSpec.ofChange Rows.fnExactBookPiecesSpec) :=
  OpenClaim.holds_of_wide 5 Try.f5 rfl rfl rfl rfl rfl rfl rfl ⟨rfl, rfl, rfl, rfl, rfl⟩ rfl rfl rfl rfl rfl (by kernel_rfl) Try.func5 (by kernel_rfl)
    (of_decide_eq_true (by kernel_rfl)) (by unfold Func.isWrapper; first | (rw [if_pos (by decide +kernel)]; kernel_rfl) | (rw [if_neg (by decide +kernel)]; exact ⟨rfl, rfl⟩))
    (fun os started H enc _ => lifted os started H enc)
theorem proved : Rows.FnExactBookPiecesSaid := over
end Go.Proofs.Ytppfdipgaifhiab.fnExactBookPieces
namespace Go.Proofs.Ytppfdipgaifhiab
theorem fnExactBookPieces_holds : Rows.FnExactBookPiecesSaid := fnExactBookPieces.proved
end Go.Proofs.Ytppfdipgaifhiab
