/- The law FnExactAppendEntry, and what it stands on (the last part): the program answers as the law says, for all arguments of a claim's bounds. -/
import Derived.Test.YtppfdipgaifhiaaChecked
import Derived.Test.YtppfdipgaifhiaaProg
import Derived.Test.YtppfdipgaifhiaaRows
import Derived.Below
import Derived.Calls
import Derived.Carry
import Derived.ChangeArms
import Derived.ChangeOld
import Derived.Deep.Quiet
import Derived.KernelRfl
import Derived.Laws.Append
import Derived.Laws.BytesString
import Derived.Laws.MakeOwn
import Derived.Laws.Strings
import Derived.OpenShut
import Derived.OrdersHeld
import Derived.ProofKit
import Derived.ShutString
import Derived.SizedLaws
import Derived.Tactics
import Derived.WalkKit
import Derived.WideShapes
import Derived.Test.YtppfdipgaifhiaaEvExactAppendEntry1
namespace Go.Pl
open Go.Ev
set_option linter.unusedVariables false
set_option linter.unusedSimpArgs false
def ckL : Int → List UInt8 → Int
  | c, [] => c
  | c, b :: r => ckL ((c * 29 + (b.toNat : Int)) % 9973) r
theorem ckL_range : ∀ (l : List UInt8) (c : Int), 0 ≤ c → c ≤ 9972 → 0 ≤ ckL c l ∧ ckL c l ≤ 9972 := by
  intro l
  induction l with
  | nil => intro c h0 h1; exact ⟨h0, h1⟩
  | cons b r ih => intro c h0 h1; simp only [ckL]; exact ih _ (by omega) (by omega)
def ckE (c : Int) (e : Int × ByteArray) : Int := ckL ((c * 29 + e.1) % 9973) (bl e.2)
theorem ckE_range {c : Int} (e : Int × ByteArray) : 0 ≤ ckE c e ∧ ckE c e ≤ 9972 := ckL_range _ _ (by omega) (by omega)
theorem ck_step {c b : Int} (h0 : 0 ≤ c) (h1 : c ≤ 10000) (h2 : 0 ≤ b) (h3 : b ≤ 255) : Int.tmod (IntKind.i64.wrap ((IntKind.i64.wrap (c * 29)) + (IntKind.i64.wrap b))) 9973 = (c * 29 + b) % 9973 := by
  rw [w64 (n := c * 29) (by omega) (by omega), w64 (n := b) (by omega) (by omega), w64 (by omega) (by omega), Int.tmod_eq_emod_of_nonneg (by omega)]
def EnIn (e : Int × ByteArray) : Prop := 0 ≤ e.1 ∧ e.1 ≤ 255 ∧ e.2.size ≤ 1000000
theorem impl_nextCheck_l (kd : Int) : ∀ (r p : List UInt8) (c : Int) (k : Nat), p.length + r.length ≤ 1000000 → r.length < k → 0 ≤ c → c ≤ 10000 → impl_nextCheck.l3 NN k c p.length (kd, ob (p ++ r)) = some (ckL c r) := by
  intro r
  induction r with
  | nil =>
    intro p c k _ hk _ _
    obtain ⟨k, rfl⟩ : ∃ j, k = j + 1 := ⟨k - 1, by omega⟩
    simp [impl_nextCheck.l3, impl_nextCheck.g3, ob_size, ckL]
  | cons b r ih =>
    intro p c k hb hk h0 h1
    simp only [List.length_cons] at hb hk
    obtain ⟨k, rfl⟩ : ∃ j, k = j + 1 := ⟨k - 1, by omega⟩
    have hm := mid_len p r b
    have c0 : (0 : Int) ≤ (p.length : Int) := by omega
    have c1 : (p.length : Int) < ((ob (p ++ b :: r)).size : Int) := by rw [ob_size]; omega
    have cw := w64 (n := (p.length : Int) + 1) (by omega) (by omega)
    have hu := u8_lt b
    have := ih (p ++ [b]) ((c * 29 + (b.toNat : Int)) % 9973) k (by simp; omega) (by omega) (by omega) (by omega)
    rw [mid_snoc, snoc_len] at this
    simp only [impl_nextCheck.l3, impl_nextCheck.g3, c0, c1, cw, and_self, and_true, true_and, decide_true, decide_false, if_true, if_false, mid_get, mid_set, mid_getn, mid_setn, bt_mid, Option.bind_some, Bool.not_true, Bool.not_false, Bool.false_eq_true, Bool.true_eq_false, beq_self_eq_true, bne_self_eq_false, Int.toNat_natCast, ck_step h0 h1 (show (0 : Int) ≤ (b.toNat : Int) by omega) (show (b.toNat : Int) ≤ 255 by omega), this]
    rfl
theorem impl_nextCheck_f {c : Int} (e : Int × ByteArray) (he : EnIn e) (h0 : 0 ≤ c) (h1 : c ≤ 10000) : impl_nextCheck.f c e = some (ckE c e) := by
  obtain ⟨kd, t⟩ := e
  obtain ⟨h2, h3, h4⟩ := he
  simp only at h2 h3 h4
  unfold impl_nextCheck.f impl_nextCheck.fn impl_nextCheck.top ckE
  rw [ck_step h0 h1 h2 h3]
  have := impl_nextCheck_l kd (bl t) [] ((c * 29 + kd) % 9973) NN (by simp [bl_length]; exact h4) (by rw [bl_length]; exact NN_lt (by omega)) (by omega) (by omega)
  rw [List.nil_append, ob_bl] at this
  exact this
theorem spec_l33Check_l (kd : Int) : ∀ (r p : List UInt8) (c : Int) (k : Nat), p.length + r.length ≤ 1000000 → r.length < k → 0 ≤ c → c ≤ 10000 → spec_l33Check.l3 NN k c p.length (kd, ob (p ++ r)) = some (ckL c r) := by
  intro r
  induction r with
  | nil =>
    intro p c k _ hk _ _
    obtain ⟨k, rfl⟩ : ∃ j, k = j + 1 := ⟨k - 1, by omega⟩
    simp [spec_l33Check.l3, spec_l33Check.g3, ob_size, ckL]
  | cons b r ih =>
    intro p c k hb hk h0 h1
    simp only [List.length_cons] at hb hk
    obtain ⟨k, rfl⟩ : ∃ j, k = j + 1 := ⟨k - 1, by omega⟩
    have hm := mid_len p r b
    have c0 : (0 : Int) ≤ (p.length : Int) := by omega
    have c1 : (p.length : Int) < ((ob (p ++ b :: r)).size : Int) := by rw [ob_size]; omega
    have cw := w64 (n := (p.length : Int) + 1) (by omega) (by omega)
    have hu := u8_lt b
    have := ih (p ++ [b]) ((c * 29 + (b.toNat : Int)) % 9973) k (by simp; omega) (by omega) (by omega) (by omega)
    rw [mid_snoc, snoc_len] at this
    simp only [spec_l33Check.l3, spec_l33Check.g3, c0, c1, cw, and_self, and_true, true_and, decide_true, decide_false, if_true, if_false, mid_get, mid_set, mid_getn, mid_setn, bt_mid, Option.bind_some, Bool.not_true, Bool.not_false, Bool.false_eq_true, Bool.true_eq_false, beq_self_eq_true, bne_self_eq_false, Int.toNat_natCast, ck_step h0 h1 (show (0 : Int) ≤ (b.toNat : Int) by omega) (show (b.toNat : Int) ≤ 255 by omega), this]
    rfl
theorem spec_l33Check_f {c : Int} (e : Int × ByteArray) (he : EnIn e) (h0 : 0 ≤ c) (h1 : c ≤ 10000) : spec_l33Check.f c e = some (ckE c e) := by
  obtain ⟨kd, t⟩ := e
  obtain ⟨h2, h3, h4⟩ := he
  simp only at h2 h3 h4
  unfold spec_l33Check.f spec_l33Check.fn spec_l33Check.top ckE
  rw [ck_step h0 h1 h2 h3]
  have := spec_l33Check_l kd (bl t) [] ((c * 29 + kd) % 9973) NN (by simp [bl_length]; exact h4) (by rw [bl_length]; exact NN_lt (by omega)) (by omega) (by omega)
  rw [List.nil_append, ob_bl] at this
  exact this
def lnB (e : Int × ByteArray) (c : Int) : ByteArray := bytesOf [e.1] ++ ⟨#[32]⟩ ++ e.2 ++ ⟨#[32]⟩ ++ decB c ++ ⟨#[10]⟩
theorem bytesOf1_size (k : Int) : (bytesOf [k]).size = 1 := by rw [bytesOf_ob, ob_size]; rfl
theorem lit1_size (c : UInt8) : (⟨#[c]⟩ : ByteArray).size = 1 := rfl
theorem lnB_size (e : Int × ByteArray) {c : Int} (h0 : 0 ≤ c) (h1 : c ≤ 10000) : (lnB e c).size ≤ e.2.size + 24 := by
  have := @decB_size c (by omega) (by omega)
  unfold lnB
  simp only [ByteArray.size_append, bytesOf1_size, lit1_size]; omega
theorem impl_decimal_nn {n : Int} (h0 : 0 ≤ n) (h : n ≤ 1000000000000000000) : impl_decimal.f n = some (decB n) := impl_decimal_f (by omega) h
theorem impl_entryLine_f (e : Int × ByteArray) {c : Int} (ht : e.2.size ≤ 1000000) (h0 : 0 ≤ c) (h1 : c ≤ 10000) : impl_entryLine.f e c = some (lnB e c) := by
  have hd := @decB_size c (by omega) (by omega)
  have z1 : (bytesOf [e.1]).size + (⟨#[32]⟩ : ByteArray).size ≤ 9223372036854775807 := by rw [bytesOf1_size, lit1_size]; omega
  have z2 : (bytesOf [e.1] ++ (⟨#[32]⟩ : ByteArray)).size + e.2.size ≤ 9223372036854775807 := by simp only [ByteArray.size_append, bytesOf1_size, lit1_size]; omega
  have z3 : (bytesOf [e.1] ++ (⟨#[32]⟩ : ByteArray) ++ e.2).size + (⟨#[32]⟩ : ByteArray).size ≤ 9223372036854775807 := by simp only [ByteArray.size_append, bytesOf1_size, lit1_size]; omega
  have z4 : (bytesOf [e.1] ++ (⟨#[32]⟩ : ByteArray) ++ e.2 ++ (⟨#[32]⟩ : ByteArray)).size + (decB c).size ≤ 9223372036854775807 := by simp only [ByteArray.size_append, bytesOf1_size, lit1_size]; omega
  have z5 : (bytesOf [e.1] ++ (⟨#[32]⟩ : ByteArray) ++ e.2 ++ (⟨#[32]⟩ : ByteArray) ++ decB c).size + (⟨#[10]⟩ : ByteArray).size ≤ 9223372036854775807 := by simp only [ByteArray.size_append, bytesOf1_size, lit1_size]; omega
  unfold impl_entryLine.f impl_entryLine.fn impl_entryLine.top
  simp only [impl_decimal_nn h0 (show c ≤ 1000000000000000000 by omega), Option.bind_some, z1, z2, z3, z4, z5, if_true, agree_self]
  rfl
theorem spec_l33Line_f (e : Int × ByteArray) {c : Int} (ht : e.2.size ≤ 1000000) (h0 : 0 ≤ c) (h1 : c ≤ 10000) : spec_l33Line.f e c = some (lnB e c) := by
  have hd := @decB_size c (by omega) (by omega)
  have z1 : (bytesOf [e.1]).size + (⟨#[32]⟩ : ByteArray).size ≤ 9223372036854775807 := by rw [bytesOf1_size, lit1_size]; omega
  have z2 : (bytesOf [e.1] ++ (⟨#[32]⟩ : ByteArray)).size + e.2.size ≤ 9223372036854775807 := by simp only [ByteArray.size_append, bytesOf1_size, lit1_size]; omega
  have z3 : (bytesOf [e.1] ++ (⟨#[32]⟩ : ByteArray) ++ e.2).size + (⟨#[32]⟩ : ByteArray).size ≤ 9223372036854775807 := by simp only [ByteArray.size_append, bytesOf1_size, lit1_size]; omega
  have z4 : (bytesOf [e.1] ++ (⟨#[32]⟩ : ByteArray) ++ e.2 ++ (⟨#[32]⟩ : ByteArray)).size + (decB c).size ≤ 9223372036854775807 := by simp only [ByteArray.size_append, bytesOf1_size, lit1_size]; omega
  have z5 : (bytesOf [e.1] ++ (⟨#[32]⟩ : ByteArray) ++ e.2 ++ (⟨#[32]⟩ : ByteArray) ++ decB c).size + (⟨#[10]⟩ : ByteArray).size ≤ 9223372036854775807 := by simp only [ByteArray.size_append, bytesOf1_size, lit1_size]; omega
  unfold spec_l33Line.f spec_l33Line.fn spec_l33Line.top
  simp only [spec_l01Dec_f h0 (show c ≤ 1000000000000000000 by omega), Option.bind_some, z1, z2, z3, z4, z5, if_true, agree_self]
  rfl
/-- out and check -/
def jF (st : ByteArray × Int) (e : Int × ByteArray) : ByteArray × Int := (st.1 ++ lnB e (ckE st.2 e), ckE st.2 e)
def jText (l : List (Int × ByteArray)) : ByteArray := (l.foldl jF (⟨#[]⟩, 1)).1
theorem impl_journalOf_f (l : List (Int × ByteArray)) (hl : l.length ≤ 1000000) (hin : ∀ e ∈ l, EnIn e) : impl_journalOf.f l = some (jText l) ∧ (jText l).size ≤ 2000000 * l.length := by
  have := fold_fix (E := EnIn) (fun p st => st.1.size ≤ 2000000 * p.length ∧ 0 ≤ st.2 ∧ st.2 ≤ 10000) (fun _ => jF) (fun st => some st.1) (fun k i st => impl_journalOf.l3 NN k st.1 st.2 l l.length i) l ?_ ?_ (⟨#[]⟩, 1) hin ⟨by simp; rfl, by simp, by simp⟩ (by omega) NN (NN_lt (by omega))
  · rw [foldi_foldl] at this
    exact ⟨this.2, this.1.1⟩
  · intro k st _
    simp [impl_journalOf.l3, impl_journalOf.g3]
  · intro k p e r st hx he hI c0 c1 c2 cw g
    obtain ⟨h1, h2, h3⟩ := hI
    have hr := @ckE_range st.2 e
    have hs := @lnB_size e (ckE st.2 e) hr.1 (by omega)
    have h4 := he.2.2
    have hz : st.1.size + (lnB e (ckE st.2 e)).size ≤ 9223372036854775807 := by omega
    refine ⟨⟨?_, by simp only [jF]; omega, by simp only [jF]; omega⟩, ?_⟩
    · simp only [jF, ByteArray.size_append, List.length_append, List.length_singleton]; omega
    · simp only [impl_journalOf.l3, impl_journalOf.g3, c0, c1, cw, and_self, and_true, true_and, decide_true, decide_false, if_true, if_false, mid_get, mid_set, mid_getn, mid_setn, bt_mid, Option.bind_some, Bool.not_true, Bool.not_false, Bool.false_eq_true, Bool.true_eq_false, beq_self_eq_true, bne_self_eq_false, Int.toNat_natCast, g, impl_nextCheck_f e he h2 h3, @impl_entryLine_f e (ckE st.2 e) h4 hr.1 (by omega), hz]
      rfl
theorem spec_l33Write_f (l : List (Int × ByteArray)) (hl : l.length ≤ 1000000) (hin : ∀ e ∈ l, EnIn e) : spec_l33Write.f l = some (jText l) ∧ (jText l).size ≤ 2000000 * l.length := by
  have := fold_fix (E := EnIn) (fun p st => st.1.size ≤ 2000000 * p.length ∧ 0 ≤ st.2 ∧ st.2 ≤ 10000) (fun _ => jF) (fun st => some st.1) (fun k i st => spec_l33Write.l3 NN k l st.1 st.2 i) l ?_ ?_ (⟨#[]⟩, 1) hin ⟨by simp; rfl, by simp, by simp⟩ (by omega) NN (NN_lt (by omega))
  · rw [foldi_foldl] at this
    exact ⟨this.2, this.1.1⟩
  · intro k st _
    simp [spec_l33Write.l3, spec_l33Write.g3]
  · intro k p e r st hx he hI c0 c1 c2 cw g
    obtain ⟨h1, h2, h3⟩ := hI
    have hr := @ckE_range st.2 e
    have hs := @lnB_size e (ckE st.2 e) hr.1 (by omega)
    have h4 := he.2.2
    have hz : st.1.size + (lnB e (ckE st.2 e)).size ≤ 9223372036854775807 := by omega
    refine ⟨⟨?_, by simp only [jF]; omega, by simp only [jF]; omega⟩, ?_⟩
    · simp only [jF, ByteArray.size_append, List.length_append, List.length_singleton]; omega
    · simp only [spec_l33Write.l3, spec_l33Write.g3, c0, c1, cw, and_self, and_true, true_and, decide_true, decide_false, if_true, if_false, mid_get, mid_set, mid_getn, mid_setn, bt_mid, Option.bind_some, Bool.not_true, Bool.not_false, Bool.false_eq_true, Bool.true_eq_false, beq_self_eq_true, bne_self_eq_false, Int.toNat_natCast, g, spec_l33Check_f e he h2 h3, @spec_l33Line_f e (ckE st.2 e) h4 hr.1 (by omega), hz]
      rfl
theorem entB_in {e : Int × ByteArray} (h : entB e = true) : EnIn e := by
  unfold entB at h
  simp only [Bool.and_eq_true, decide_eq_true_eq] at h
  exact ⟨by omega, by omega, by omega⟩
end Go.Pl

namespace Go.Pl
open Go.Ev
set_option linter.unusedVariables false
set_option linter.unusedSimpArgs false
def lb : List UInt8 → Int → Int → Int
  | [], _, b => b
  | c :: r, i, b => lb r (i + 1) (if c = 32 then i else b)
def nlL : List UInt8 → Nat
  | [] => 0
  | c :: r => if c = 10 then 0 else nlL r + 1
theorem nlL_le (l : List UInt8) : nlL l ≤ l.length := by
  induction l with
  | nil => simp [nlL]
  | cons c r ih => simp only [nlL, List.length_cons]; split <;> omega
theorem lb_range : ∀ (l : List UInt8) (i b : Int), b < i → b ≤ lb l i b ∧ lb l i b < i + l.length := by
  intro l
  induction l with
  | nil => intro i b h; simp [lb]; omega
  | cons c r ih =>
    intro i b h
    simp only [lb, List.length_cons]
    by_cases hc : c = 32
    · rw [if_pos hc]; have := ih (i + 1) i (by omega); omega
    · rw [if_neg hc]; have := ih (i + 1) b (by omega); omega
theorem lb_two : ∀ (l : List UInt8) (i b b' : Int), b < i → b' < i → (lb l i b = lb l i b' ∧ i ≤ lb l i b) ∨ (lb l i b = b ∧ lb l i b' = b') := by
  intro l
  induction l with
  | nil => intro i b b' h h'; exact .inr ⟨rfl, rfl⟩
  | cons c r ih =>
    intro i b b' h h'
    simp only [lb]
    by_cases hc : c = 32
    · rw [if_pos hc, if_pos hc]; have := lb_range r (i + 1) i (by omega); exact .inl ⟨rfl, by omega⟩
    · rw [if_neg hc, if_neg hc]
      rcases ih (i + 1) b b' (by omega) (by omega) with ⟨h1, h2⟩ | h1
      · exact .inl ⟨h1, by omega⟩
      · exact .inr h1
theorem u8_ne10 {a : UInt8} (h : a ≠ 10) : ¬ ((a.toNat : Int) = 10) := fun e => h ((u8_eq (n := 10) (by omega)).mp (by omega))
theorem u8_ne32 {a : UInt8} (h : a ≠ 32) : ¬ ((a.toNat : Int) = 32) := fun e => h ((u8_eq (n := 32) (by omega)).mp (by omega))
def eol (s : ByteArray) : Nat := nlL (bl s)
theorem eol_le (s : ByteArray) : eol s ≤ s.size := by have := nlL_le (bl s); rw [bl_length] at this; exact this
def blank (s : ByteArray) : Int := lb ((bl s).take (eol s)) 0 0
theorem bt_nat (s : ByteArray) {i : Nat} (h : i < s.size) : bt s (i : Int) = ((((bl s)[i]'(by rw [bl_length]; exact h)).toNat : Nat) : Int) := by
  unfold bt
  rw [Int.toNat_natCast, List.getD_eq_getElem?_getD, List.getElem?_eq_getElem (by rw [← bl, bl_length]; exact h)]; rfl
theorem drop_all (s : ByteArray) : (bl s).drop s.size = [] := List.drop_of_length_le (by rw [bl_length]; omega)
theorem size_extract_le (s : ByteArray) (i j : Nat) : (s.extract i j).size ≤ s.size := by rw [← bl_length, bl_extract]; simp [bl_length]; omega
theorem size_extract0 (s : ByteArray) {e : Nat} (he : e ≤ s.size) : (s.extract 0 e).size = e := by rw [← bl_length, bl_extract]; simp [bl_length]; omega
theorem extract_extract0 (s : ByteArray) {e b : Nat} (h : b ≤ e) : (s.extract 0 e).extract 2 b = s.extract 2 b := by
  apply bl_inj; rw [bl_extract, bl_extract, bl_extract, List.drop_zero, List.take_take, Nat.min_eq_left h]
theorem bt_extract0 (s : ByteArray) {e : Nat} (h : 0 < e) (he : e ≤ s.size) : bt (s.extract 0 e) 0 = bt s 0 := by
  have h1 := size_extract0 s he
  have := bt_nat (s.extract 0 e) (i := 0) (by omega)
  rw [show ((0 : Nat) : Int) = 0 from rfl] at this
  have h2 := bt_nat s (i := 0) (by omega)
  rw [show ((0 : Nat) : Int) = 0 from rfl] at h2
  rw [this, h2]
  simp [bl_extract]
theorem blank_two (s : ByteArray) : (lb (((bl s).take (eol s)).drop 2) 2 (-1) = -1 ∧ blank s < 2) ∨ (lb (((bl s).take (eol s)).drop 2) 2 (-1) = blank s ∧ 2 ≤ blank s ∧ blank s < eol s) := by
  have hl : ((bl s).take (eol s)).length = eol s := by rw [List.length_take, bl_length]; have := eol_le s; omega
  unfold blank
  match h : (bl s).take (eol s) with
  | [] => left; simp [lb]
  | [x] => left; simp only [List.drop_succ_cons, List.drop_nil, lb]; refine ⟨by trivial, ?_⟩; split <;> omega
  | x :: y :: r =>
    rw [h] at hl; simp only [List.length_cons] at hl
    simp only [List.drop_succ_cons, List.drop_zero, lb]
    have hb : (if y = 32 then (0 + 1 : Int) else if x = 32 then 0 else 0) < 2 := by split <;> (try split) <;> omega
    have h1 := lb_range r (0 + 1 + 1) (if y = 32 then (0 + 1 : Int) else if x = 32 then 0 else 0) (by omega)
    rcases lb_two r 2 (-1) (if y = 32 then (0 + 1 : Int) else if x = 32 then 0 else 0) (by omega) hb with ⟨h2, h3⟩ | ⟨h2, h3⟩
    · right
      rw [show (0 + 1 + 1 : Int) = 2 from rfl] at h1 ⊢
      rw [← h2]
      rw [← h2] at h1
      exact ⟨rfl, h3, by omega⟩
    · left
      rw [show (0 + 1 + 1 : Int) = 2 from rfl, h3]
      exact ⟨h2, hb⟩
def theE (s : ByteArray) : Int × ByteArray := (bt s 0, s.extract 2 (blank s).toNat)
theorem theE_in (s : ByteArray) (hs : s.size ≤ 1000000) : EnIn (theE s) := ⟨(bt_range s 0).1, (bt_range s 0).2, Nat.le_trans (size_extract_le _ _ _) hs⟩
/-- where both readers stop -/
def stops (s : ByteArray) (c : Int) : Prop := eol s = s.size ∨ blank s < 2 ∨ entB (theE s) = false ∨ lnB (theE s) (ckE c (theE s)) ≠ s.extract 0 (eol s + 1)
theorem spec_l33Next_l (s : ByteArray) (hs : s.size ≤ 1000000) (c : Int) (a : Int) (t : ByteArray) : ∀ (d i : Nat), i + d = s.size → ∀ (b : Int) (k : Nat), d < k →
    ∃ k', spec_l33Next.l2 NN k s c (i : Int) b a t = spec_l33Next.l2 NN (k' + 1) s c ((i + nlL ((bl s).drop i) : Nat) : Int) (lb (((bl s).drop i).take (nlL ((bl s).drop i))) i b) a t := by
  intro d
  induction d with
  | zero =>
    intro i hi b k hk
    obtain ⟨k, rfl⟩ : ∃ j, k = j + 1 := ⟨k - 1, by omega⟩
    refine ⟨k, ?_⟩
    rw [List.drop_of_length_le (by rw [bl_length]; omega)]; simp [nlL, lb]
  | succ d ih =>
    intro i hi b k hk
    obtain ⟨k, rfl⟩ : ∃ j, k = j + 1 := ⟨k - 1, by omega⟩
    have hlt : i < (bl s).length := by rw [bl_length]; omega
    have hb := bt_nat s (show i < s.size by omega)
    rw [List.drop_eq_getElem_cons hlt]
    by_cases hc : (bl s)[i] = 10
    · refine ⟨k, ?_⟩
      simp only [nlL]; rw [if_pos hc]; simp [lb]
    · have h10 : ¬ bt s (i : Int) = 10 := by rw [hb]; exact u8_ne10 hc
      have h10' : (bt s (i : Int) != 10) = true := by simpa using h10
      have c0 : (0 : Int) ≤ (i : Int) := by omega
      have c1 : (i : Int) < (s.size : Int) := by omega
      have cw := w64 (n := (i : Int) + 1) (by omega) (by omega)
      simp only [nlL]; rw [if_neg hc, List.take_succ_cons]
      simp only [lb]
      by_cases h32 : (bl s)[i] = 32
      · obtain ⟨k', h⟩ := ih (i + 1) (by omega) (i : Int) k (by omega)
        refine ⟨k', ?_⟩
        have e32 : (bt s (i : Int) == 32) = true := by rw [hb, h32]; rfl
        conv => lhs; simp only [spec_l33Next.l2, spec_l33Next.g2, c0, c1, h10', e32, cw, and_self, and_true, true_and, decide_true, decide_false, if_true, if_false, mid_get, mid_set, mid_getn, mid_setn, bt_mid, Option.bind_some, Bool.not_true, Bool.not_false, Bool.false_eq_true, Bool.true_eq_false, beq_self_eq_true, bne_self_eq_false, Int.toNat_natCast]
        rw [show ((i : Int) + 1) = ((i + 1 : Nat) : Int) by omega, h, if_pos h32, show i + 1 + nlL ((bl s).drop (i + 1)) = i + (nlL ((bl s).drop (i + 1)) + 1) by omega]
      · obtain ⟨k', h⟩ := ih (i + 1) (by omega) b k (by omega)
        refine ⟨k', ?_⟩
        have e32 : (bt s (i : Int) == 32) = false := by rw [hb, beq_eq_false_iff_ne]; exact u8_ne32 h32
        conv => lhs; simp only [spec_l33Next.l2, spec_l33Next.g2, c0, c1, h10', e32, cw, and_self, and_true, true_and, decide_true, decide_false, if_true, if_false, mid_get, mid_set, mid_getn, mid_setn, bt_mid, Option.bind_some, Bool.not_true, Bool.not_false, Bool.false_eq_true, Bool.true_eq_false, beq_self_eq_true, bne_self_eq_false, Int.toNat_natCast]
        rw [show ((i : Int) + 1) = ((i + 1 : Nat) : Int) by omega, h, if_neg h32, show i + 1 + nlL ((bl s).drop (i + 1)) = i + (nlL ((bl s).drop (i + 1)) + 1) by omega]
theorem impl_readJournal_l (s : ByteArray) (hs : s.size ≤ 1000000) (L : ByteArray → Int → List (Int × ByteArray) → Option (List (Int × ByteArray) × Int)) (out : List (Int × ByteArray)) (c : Int) : ∀ (d i : Nat), i + d = s.size → ∀ (k : Nat), d < k →
    ∃ k', impl_readJournal.l5 NN L k s c (i : Int) out = impl_readJournal.l5 NN L (k' + 1) s c ((i + nlL ((bl s).drop i) : Nat) : Int) out := by
  intro d
  induction d with
  | zero =>
    intro i hi k hk
    obtain ⟨k, rfl⟩ : ∃ j, k = j + 1 := ⟨k - 1, by omega⟩
    refine ⟨k, ?_⟩
    rw [List.drop_of_length_le (by rw [bl_length]; omega)]; simp [nlL]
  | succ d ih =>
    intro i hi k hk
    obtain ⟨k, rfl⟩ : ∃ j, k = j + 1 := ⟨k - 1, by omega⟩
    have hlt : i < (bl s).length := by rw [bl_length]; omega
    have hb := bt_nat s (show i < s.size by omega)
    rw [List.drop_eq_getElem_cons hlt]
    by_cases hc : (bl s)[i] = 10
    · refine ⟨k, ?_⟩
      simp only [nlL]; rw [if_pos hc]; simp
    · have h10 : ¬ bt s (i : Int) = 10 := by rw [hb]; exact u8_ne10 hc
      have h10' : (bt s (i : Int) != 10) = true := by simpa using h10
      have c0 : (0 : Int) ≤ (i : Int) := by omega
      have c1 : (i : Int) < (s.size : Int) := by omega
      have cw := w64 (n := (i : Int) + 1) (by omega) (by omega)
      simp only [nlL]; rw [if_neg hc]
      obtain ⟨k', h⟩ := ih (i + 1) (by omega) k (by omega)
      refine ⟨k', ?_⟩
      conv => lhs; simp only [impl_readJournal.l5, impl_readJournal.g5, c0, c1, h10', cw, and_self, and_true, true_and, decide_true, decide_false, if_true, if_false, mid_get, mid_set, mid_getn, mid_setn, bt_mid, Option.bind_some, Bool.not_true, Bool.not_false, Bool.false_eq_true, Bool.true_eq_false, beq_self_eq_true, bne_self_eq_false, Int.toNat_natCast]
      rw [show ((i : Int) + 1) = ((i + 1 : Nat) : Int) by omega, h, show i + 1 + nlL ((bl s).drop (i + 1)) = i + (nlL ((bl s).drop (i + 1)) + 1) by omega]
theorem impl_readEntry_l (s : ByteArray) (hs : s.size ≤ 1000000) (a : Int) (t : ByteArray) : ∀ (d i : Nat), i + d = s.size → ∀ (b : Int) (k : Nat), d < k →
    ∃ k', impl_readEntry.l3 NN k s b (i : Int) a t = impl_readEntry.l3 NN (k' + 1) s (lb ((bl s).drop i) i b) (s.size : Int) a t := by
  intro d
  induction d with
  | zero =>
    intro i hi b k hk
    obtain ⟨k, rfl⟩ : ∃ j, k = j + 1 := ⟨k - 1, by omega⟩
    obtain rfl : i = s.size := by omega
    exact ⟨k, by rw [drop_all]; rfl⟩
  | succ d ih =>
    intro i hi b k hk
    obtain ⟨k, rfl⟩ : ∃ j, k = j + 1 := ⟨k - 1, by omega⟩
    have hlt : i < (bl s).length := by rw [bl_length]; omega
    have hb := bt_nat s (show i < s.size by omega)
    have c0 : (0 : Int) ≤ (i : Int) := by omega
    have c1 : (i : Int) < (s.size : Int) := by omega
    have cw := w64 (n := (i : Int) + 1) (by omega) (by omega)
    rw [List.drop_eq_getElem_cons hlt]
    simp only [lb]
    by_cases h32 : (bl s)[i] = 32
    · obtain ⟨k', h⟩ := ih (i + 1) (by omega) (i : Int) k (by omega)
      refine ⟨k', ?_⟩
      have e32 : (bt s (i : Int) == 32) = true := by rw [hb, h32]; rfl
      conv => lhs; simp only [impl_readEntry.l3, impl_readEntry.g3, c0, c1, e32, cw, and_self, and_true, true_and, decide_true, decide_false, if_true, if_false, mid_get, mid_set, mid_getn, mid_setn, bt_mid, Option.bind_some, Bool.not_true, Bool.not_false, Bool.false_eq_true, Bool.true_eq_false, beq_self_eq_true, bne_self_eq_false, Int.toNat_natCast]
      rw [show ((i : Int) + 1) = ((i + 1 : Nat) : Int) by omega, h, if_pos h32]
    · obtain ⟨k', h⟩ := ih (i + 1) (by omega) b k (by omega)
      refine ⟨k', ?_⟩
      have e32 : (bt s (i : Int) == 32) = false := by rw [hb, beq_eq_false_iff_ne]; exact u8_ne32 h32
      conv => lhs; simp only [impl_readEntry.l3, impl_readEntry.g3, c0, c1, e32, cw, and_self, and_true, true_and, decide_true, decide_false, if_true, if_false, mid_get, mid_set, mid_getn, mid_setn, bt_mid, Option.bind_some, Bool.not_true, Bool.not_false, Bool.false_eq_true, Bool.true_eq_false, beq_self_eq_true, bne_self_eq_false, Int.toNat_natCast]
      rw [show ((i : Int) + 1) = ((i + 1 : Nat) : Int) by omega, h, if_neg h32]
open Classical in
theorem spec_l33Next_f (s : ByteArray) (hs : s.size ≤ 1000000) {c : Int} (h0 : 0 ≤ c) (h1 : c ≤ 10000) :
    spec_l33Next.f s c = some (if stops s c then ((0, ByteArray.empty), 0, 0) else (theE s, ckE c (theE s), (eol s : Int) + 1)) := by
  have he := eol_le s
  unfold spec_l33Next.f spec_l33Next.fn spec_l33Next.top
  obtain ⟨k, hl⟩ := spec_l33Next_l s hs c 0 ByteArray.empty s.size 0 (by omega) 0 NN (NN_lt (by omega))
  rw [show ((0 : Nat) : Int) = 0 from rfl, List.drop_zero, Nat.zero_add] at hl
  rw [hl, show nlL (bl s) = eol s from rfl, show lb ((bl s).take (eol s)) 0 0 = blank s from rfl]
  by_cases e1 : eol s = s.size
  · rw [if_pos (show stops s c from .inl e1)]
    simp [spec_l33Next.l2, spec_l33Next.g2, e1]
  · have c0 : (0 : Int) ≤ (eol s : Int) := by omega
    have c1 : (eol s : Int) < (s.size : Int) := by omega
    have hlt : eol s < (bl s).length := by rw [bl_length]; omega
    have hnl : (bl s)[eol s] = 10 := by
      have key : ∀ (l : List UInt8) (h : nlL l < l.length), l[nlL l] = 10 := by
        intro l
        induction l with
        | nil => intro h; simp at h
        | cons x r ih =>
          intro h
          by_cases hx : x = 10
          · simp [nlL, hx]
          · have hz : nlL (x :: r) = nlL r + 1 := by simp [nlL, hx]
            simp only [hz, List.length_cons] at h
            simp only [hz, List.getElem_cons_succ]
            exact ih (by omega)
      exact key _ hlt
    have h10 : (bt s (eol s : Int) != 10) = false := by rw [bt_nat s (by omega), hnl]; rfl
    have ez : ((eol s : Int) == (s.size : Int)) = false := by rw [beq_eq_false_iff_ne]; omega
    have cw := w64 (n := (eol s : Int) + 1) (by omega) (by omega)
    simp only [spec_l33Next.l2, spec_l33Next.g2, c0, c1, h10, ez, cw, and_self, and_true, true_and, decide_true, decide_false, if_true, if_false, mid_get, mid_set, mid_getn, mid_setn, bt_mid, Option.bind_some, Bool.not_true, Bool.not_false, Bool.false_eq_true, Bool.true_eq_false, beq_self_eq_true, bne_self_eq_false, Int.toNat_natCast]
    by_cases e2 : blank s < 2
    · rw [if_pos (decide_eq_true e2), if_pos (show stops s c from .inr (.inl e2))]
    · have hbb := blank_two s
      have hbr : 2 ≤ blank s ∧ blank s < eol s := by rcases hbb with h | h <;> omega
      have d1 : (0 : Int) < (s.size : Int) := by omega
      have d2 : blank s ≤ (s.size : Int) := by omega
      have d3 : (0 : Int) ≤ (eol s : Int) + 1 ∧ (eol s : Int) + 1 ≤ (s.size : Int) := by omega
      have d4 : ((eol s : Int) + 1).toNat = eol s + 1 := by omega
      have hE : (bt s 0, s.extract (2 : Int).toNat (blank s).toNat) = theE s := rfl
      have hin := theE_in s hs
      have hr := @ckE_range c (theE s)
      simp only [e2, d1, d2, hbr.1, d3.1, d3.2, d4, hE, and_self, and_true, true_and, decide_true, decide_false, if_true, if_false, mid_get, mid_set, mid_getn, mid_setn, bt_mid, Option.bind_some, Bool.not_true, Bool.not_false, Bool.false_eq_true, Bool.true_eq_false, beq_self_eq_true, bne_self_eq_false, Int.toNat_natCast, Int.le_refl, show (0 : Int) ≤ 2 from by omega, spec_l33Check_f (theE s) hin h0 h1, spec_l33Is_f (theE s) (Nat.le_trans hin.2.2 (by omega)), spec_l33Line_f (theE s) hin.2.2 hr.1 (show ckE c (theE s) ≤ 10000 by omega), ba_beq]
      cases e3 : entB (theE s)
      · rw [if_pos (show stops s c from .inr (.inr (.inl e3)))]; rfl
      · by_cases e4 : lnB (theE s) (ckE c (theE s)) = s.extract 0 (eol s + 1)
        · rw [if_neg (show ¬ stops s c by
            rintro (h | h | h | h)
            · exact e1 h
            · exact e2 h
            · rw [e3] at h; cases h
            · exact h e4)]
          simp [e4]
        · rw [if_pos (show stops s c from .inr (.inr (.inr e4)))]
          simp [e4]
theorem impl_readEntry_f (s : ByteArray) (hs : s.size ≤ 1000000) (he : eol s < s.size) :
    impl_readEntry.f (s.extract 0 (eol s)) = some (if blank s < 2 then ((0, ByteArray.empty), false) else (theE s, entB (theE s))) := by
  have hz := size_extract0 s (show eol s ≤ s.size by omega)
  have hbl : bl (s.extract 0 (eol s)) = (bl s).take (eol s) := by rw [bl_extract, List.drop_zero]
  unfold impl_readEntry.f impl_readEntry.fn impl_readEntry.top
  by_cases h2 : 2 ≤ eol s
  · obtain ⟨k, hl⟩ := impl_readEntry_l (s.extract 0 (eol s)) (by omega) 0 ByteArray.empty (eol s - 2) 2 (by omega) (-1) NN (NN_lt (by omega))
    rw [show ((2 : Nat) : Int) = 2 from rfl] at hl
    rw [hl, hbl, hz]
    have n1 : ¬ ((eol s : Nat) : Int) < (eol s : Int) := by omega
    rcases blank_two s with ⟨h, h'⟩ | ⟨h, h', h''⟩
    · rw [h, if_pos h']
      simp [impl_readEntry.l3, impl_readEntry.g3, hz]
    · have n2 : ¬ blank s < 0 := by omega
      have n3 : (0 : Int) < (eol s : Int) := by omega
      have n4 : blank s ≤ (eol s : Int) := by omega
      rw [h, if_neg (show ¬ blank s < 2 by omega)]
      have hx : (s.extract 0 (eol s)).extract (2 : Int).toNat (blank s).toNat = s.extract 2 (blank s).toNat := extract_extract0 s (by omega)
      simp only [impl_readEntry.l3, impl_readEntry.g3, hz, n1, n2, n3, n4, h', and_self, and_true, true_and, decide_true, decide_false, if_true, if_false, mid_get, mid_set, mid_getn, mid_setn, bt_mid, Option.bind_some, Bool.not_true, Bool.not_false, Bool.false_eq_true, Bool.true_eq_false, beq_self_eq_true, bne_self_eq_false, Int.toNat_natCast, Int.le_refl, show (0 : Int) ≤ 2 from by omega, bt_extract0 s (show 0 < eol s by omega) (show eol s ≤ s.size by omega), hx]
      have hE : (bt s 0, s.extract 2 (blank s).toNat) = theE s := rfl
      rw [hE, impl_isEntry_f (theE s) (Nat.le_trans (theE_in s hs).2.2 (by omega))]; rfl
  · obtain ⟨k, hk⟩ : ∃ j, NN = j + 1 := ⟨NN - 1, by have := NNb; omega⟩
    rw [show impl_readEntry.l3 NN NN = impl_readEntry.l3 NN (k + 1) by rw [← hk]]
    have n1 : ¬ (2 : Int) < ((s.extract 0 (eol s)).size : Int) := by omega
    rcases blank_two s with ⟨h, h'⟩ | ⟨h, h', h''⟩
    · rw [if_pos h']
      simp only [impl_readEntry.l3, impl_readEntry.g3, n1, and_self, and_true, true_and, decide_true, decide_false, if_true, if_false, mid_get, mid_set, mid_getn, mid_setn, bt_mid, Option.bind_some, Bool.not_true, Bool.not_false, Bool.false_eq_true, Bool.true_eq_false, beq_self_eq_true, bne_self_eq_false, Int.toNat_natCast, show (-1 : Int) < 0 from by omega]
    · omega
theorem readers_same : ∀ (d : Nat) (s : ByteArray), s.size ≤ 1000000 → ∀ (out : List (Int × ByteArray)) (c : Int) (k1 k2 : Nat), d < k1 → d < k2 → 0 ≤ c → c ≤ 10000 → out.length + d = 20 →
    ∃ r n, impl_readJournal.l3 NN k1 s c out = some (r, n) ∧ spec_l33Read.l2 NN k2 s c out = some (r, n) ∧ 0 ≤ n ∧ n ≤ s.size ∧ r.length ≤ 20 ∧ out <+: r ∧ ((∀ x ∈ out, entB x = true) → ∀ x ∈ r, entB x = true) := by
  intro d
  induction d with
  | zero =>
    intro s hs out c k1 k2 hk1 hk2 h0 h1 hd
    obtain ⟨k1, rfl⟩ : ∃ j, k1 = j + 1 := ⟨k1 - 1, by omega⟩
    obtain ⟨k2, rfl⟩ : ∃ j, k2 = j + 1 := ⟨k2 - 1, by omega⟩
    have hn : ¬ (out.length : Int) < 20 := by omega
    refine ⟨out, s.size, ?_, ?_, by omega, by omega, by omega, List.prefix_refl _, fun h => h⟩
    · simp only [impl_readJournal.l3, impl_readJournal.g3, hn, and_self, and_true, true_and, decide_true, decide_false, if_true, if_false, mid_get, mid_set, mid_getn, mid_setn, bt_mid, Option.bind_some, Bool.not_true, Bool.not_false, Bool.false_eq_true, Bool.true_eq_false, beq_self_eq_true, bne_self_eq_false, Int.toNat_natCast]
    · simp only [spec_l33Read.l2, spec_l33Read.g2, hn, and_self, and_true, true_and, decide_true, decide_false, if_true, if_false, mid_get, mid_set, mid_getn, mid_setn, bt_mid, Option.bind_some, Bool.not_true, Bool.not_false, Bool.false_eq_true, Bool.true_eq_false, beq_self_eq_true, bne_self_eq_false, Int.toNat_natCast]
  | succ d ih =>
    intro s hs out c k1 k2 hk1 hk2 h0 h1 hd
    obtain ⟨k1, rfl⟩ : ∃ j, k1 = j + 1 := ⟨k1 - 1, by omega⟩
    obtain ⟨k2, rfl⟩ : ∃ j, k2 = j + 1 := ⟨k2 - 1, by omega⟩
    have he := eol_le s
    have hn : (out.length : Int) < 20 := by omega
    obtain ⟨k3, hl⟩ := impl_readJournal_l s hs (impl_readJournal.l3 NN k1) out c s.size 0 (by omega) NN (NN_lt (by omega))
    rw [show ((0 : Nat) : Int) = 0 from rfl, List.drop_zero, Nat.zero_add, show nlL (bl s) = eol s from rfl] at hl
    have himp : impl_readJournal.l3 NN (k1 + 1) s c out = impl_readJournal.l5 NN (impl_readJournal.l3 NN k1) (k3 + 1) s c (eol s) out := by
      conv => lhs; simp only [impl_readJournal.l3, impl_readJournal.g3, hn, and_self, and_true, true_and, decide_true, decide_false, if_true, if_false, mid_get, mid_set, mid_getn, mid_setn, bt_mid, Option.bind_some, Bool.not_true, Bool.not_false, Bool.false_eq_true, Bool.true_eq_false, beq_self_eq_true, bne_self_eq_false, Int.toNat_natCast]
      exact hl
    have hspec : spec_l33Read.l2 NN (k2 + 1) s c out = (spec_l33Next.f s c).bind fun r1 => if ((r1.2.2 : Int) == 0) = true then some (out, (s.size : Int)) else if out.length + ([r1.1]).length < room 24 then (if (0 : Int) ≤ r1.2.2 ∧ (r1.2.2 : Int) ≤ s.size then spec_l33Read.l2 NN k2 (s.extract (r1.2.2 : Int).toNat s.size) r1.2.1 (out ++ ([r1.1])) else none) else none := by
      simp only [spec_l33Read.l2, spec_l33Read.g2, hn, and_self, and_true, true_and, decide_true, decide_false, if_true, if_false, mid_get, mid_set, mid_getn, mid_setn, bt_mid, Option.bind_some, Bool.not_true, Bool.not_false, Bool.false_eq_true, Bool.true_eq_false, beq_self_eq_true, bne_self_eq_false, Int.toNat_natCast]
    have hroom : ∀ e : Int × ByteArray, out.length + [e].length < room 24 := fun e => by rw [room24]; simp; omega
    rw [himp, hspec, spec_l33Next_f s hs h0 h1]
    simp only [Option.bind_some]
    by_cases e1 : eol s = s.size
    · have hst : stops s c := .inl e1
      rw [if_pos hst]
      refine ⟨out, s.size, ?_, by simp, by omega, by omega, by omega, List.prefix_refl _, fun h => h⟩
      simp [impl_readJournal.l5, impl_readJournal.g5, e1]
    have c0 : (0 : Int) ≤ (eol s : Int) := by omega
    have c1 : (eol s : Int) < (s.size : Int) := by omega
    have c2 : (eol s : Int) ≤ (s.size : Int) := by omega
    have hlt : eol s < (bl s).length := by rw [bl_length]; omega
    have hnl : (bl s)[eol s] = 10 := by
      have key : ∀ (l : List UInt8) (h : nlL l < l.length), l[nlL l] = 10 := by
        intro l
        induction l with
        | nil => intro h; simp at h
        | cons x r ih =>
          intro h
          by_cases hx : x = 10
          · simp [nlL, hx]
          · have hz : nlL (x :: r) = nlL r + 1 := by simp [nlL, hx]
            simp only [hz, List.length_cons] at h
            simp only [hz, List.getElem_cons_succ]
            exact ih (by omega)
      exact key _ hlt
    have h10 : (bt s (eol s : Int) != 10) = false := by rw [bt_nat s (by omega), hnl]; rfl
    have ez : ((eol s : Int) == (s.size : Int)) = false := by rw [beq_eq_false_iff_ne]; omega
    have cw := w64 (n := (eol s : Int) + 1) (by omega) (by omega)
    have d3 : (0 : Int) ≤ (eol s : Int) + 1 ∧ (eol s : Int) + 1 ≤ (s.size : Int) := by omega
    have d4 : ((eol s : Int) + 1).toNat = eol s + 1 := by omega
    simp only [impl_readJournal.l5, impl_readJournal.g5, c0, c1, c2, h10, ez, cw, and_self, and_true, true_and, decide_true, decide_false, if_true, if_false, mid_get, mid_set, mid_getn, mid_setn, bt_mid, Option.bind_some, Bool.not_true, Bool.not_false, Bool.false_eq_true, Bool.true_eq_false, beq_self_eq_true, bne_self_eq_false, Int.toNat_natCast, impl_readEntry_f s hs (show eol s < s.size by omega), d3.1, d3.2, d4]
    by_cases e2 : blank s < 2
    · have hst : stops s c := .inr (.inl e2)
      rw [if_pos hst, if_pos e2]
      exact ⟨out, s.size, by simp, by simp, by omega, by omega, by omega, List.prefix_refl _, fun h => h⟩
    have hin := theE_in s hs
    have hr := @ckE_range c (theE s)
    have hr2 : ckE c (theE s) ≤ 10000 := by omega
    rw [if_neg e2]
    simp only [impl_nextCheck_f (theE s) hin h0 h1, impl_entryLine_f (theE s) hin.2.2 hr.1 hr2, and_self, and_true, true_and, decide_true, decide_false, if_true, if_false, mid_get, mid_set, mid_getn, mid_setn, bt_mid, Option.bind_some, Bool.not_true, Bool.not_false, Bool.false_eq_true, Bool.true_eq_false, beq_self_eq_true, bne_self_eq_false, Int.toNat_natCast, ba_beq]
    cases e3 : entB (theE s)
    · have hst : stops s c := .inr (.inr (.inl e3))
      rw [if_pos hst]
      exact ⟨out, s.size, by simp, by simp, by omega, by omega, by omega, List.prefix_refl _, fun h => h⟩
    by_cases e4 : lnB (theE s) (ckE c (theE s)) = s.extract 0 (eol s + 1)
    · have hst : ¬ stops s c := by
        rintro (h | h | h | h)
        · exact e1 h
        · exact e2 h
        · rw [e3] at h; cases h
        · exact h e4
      have hsz2 := size_extract_le s (eol s + 1) s.size
      obtain ⟨r, n, i1, i2, i3, i4, i5, i6, i7⟩ := ih (s.extract (eol s + 1) s.size) (by omega) (out ++ [theE s]) (ckE c (theE s)) k1 k2 (by omega) (by omega) hr.1 (by omega) (by simp; omega)
      rw [if_neg hst]
      have ez2 : (((eol s : Int) + 1) == 0) = false := by rw [beq_eq_false_iff_ne]; omega
      refine ⟨r, n, ?_, ?_, i3, by omega, i5, (List.prefix_append _ _).trans i6, fun h => i7 (by
        intro x hx
        rcases List.mem_append.mp hx with hx | hx
        · exact h x hx
        · rw [List.mem_singleton] at hx; subst hx; exact e3)⟩
      · simp only [e4, and_self, and_true, true_and, decide_true, decide_false, if_true, if_false, mid_get, mid_set, mid_getn, mid_setn, bt_mid, Option.bind_some, Bool.not_true, Bool.not_false, Bool.false_eq_true, Bool.true_eq_false, beq_self_eq_true, bne_self_eq_false, Int.toNat_natCast, hroom]
        exact i1
      · simp only [ez2, and_self, and_true, true_and, decide_true, decide_false, if_true, if_false, mid_get, mid_set, mid_getn, mid_setn, bt_mid, Option.bind_some, Bool.not_true, Bool.not_false, Bool.false_eq_true, Bool.true_eq_false, beq_self_eq_true, bne_self_eq_false, Int.toNat_natCast, hroom, d3.1, d3.2, d4]
        exact i2
    · have hst : stops s c := .inr (.inr (.inr e4))
      rw [if_pos hst]
      exact ⟨out, s.size, by simp [e4], by simp, by omega, by omega, by omega, List.prefix_refl _, fun h => h⟩
theorem journal_same (s : ByteArray) (hs : s.size ≤ 1000000) : ∃ r n, impl_readJournal.f s = some (r, n) ∧ spec_l33Read.f s = some (r, n) ∧ 0 ≤ n ∧ n ≤ (s.size : Int) ∧ r.length ≤ 20 ∧ ∀ x ∈ r, entB x = true := by
  obtain ⟨r, n, h1, h2, h3, h4, h5, _, h7⟩ := readers_same 20 s hs [] 1 NN NN (NN_lt (by omega)) (NN_lt (by omega)) (by omega) (by omega) (by simp)
  exact ⟨r, n, h1, h2, h3, h4, h5, h7 (by simp)⟩
end Go.Pl

namespace Go.Pl
open Go.Ev
set_option linter.unusedVariables false
noncomputable section
def impl_WriteJournal.top (list0 : List (Int × ByteArray)) : Option (ByteArray × Int) :=
  (impl_areEntries.f list0).bind fun r1 =>
  if (!r1) = true then
    some ((⟨#[]⟩ : ByteArray), 1)
  else if (decide ((20 : Int) < (list0.length : Int))) = true then
    some ((⟨#[]⟩ : ByteArray), 3)
  else
    (impl_journalOf.f list0).bind fun r2 =>
    some (r2, 0)
def impl_WriteJournal.fn (n : Nat) (list0 : List (Int × ByteArray)) : Option (ByteArray × Int) := impl_WriteJournal.top list0
def impl_WriteJournal.f (list0 : List (Int × ByteArray)) : Option (ByteArray × Int) := impl_WriteJournal.fn NN list0
end
end Go.Pl

namespace Go.Pl
open Go.Ev
set_option linter.unusedVariables false
noncomputable section
def spec_WriteJournal.top (list0 : List (Int × ByteArray)) : Option (ByteArray × Int) :=
  (spec_l33Code.f list0).bind fun r1 =>
  if ((r1 : Int) != 0) = true then
    some ((⟨#[]⟩ : ByteArray), r1)
  else
    (spec_l33Write.f list0).bind fun r2 =>
    some (r2, 0)
def spec_WriteJournal.fn (n : Nat) (list0 : List (Int × ByteArray)) : Option (ByteArray × Int) := spec_WriteJournal.top list0
def spec_WriteJournal.f (list0 : List (Int × ByteArray)) : Option (ByteArray × Int) := spec_WriteJournal.fn NN list0
end
end Go.Pl

namespace Go.Pl
open Go.Ev
set_option linter.unusedVariables false
set_option linter.unusedSimpArgs false
theorem spec_l33Code_f (xs : List (Int × ByteArray)) (h : Ls (fun e => Sz e.2) xs) : spec_l33Code.f xs = some (if xs.all entB = true then (if xs.length ≤ 20 then 0 else 3) else 1) := by
  unfold spec_l33Code.f spec_l33Code.fn spec_l33Code.top
  rw [spec_l33All_f xs h]
  cases xs.all entB
  · rfl
  by_cases h1 : xs.length ≤ 20
  · have : ¬ (20 : Int) < (xs.length : Int) := by omega
    simp [h1, this]
  · have : (20 : Int) < (xs.length : Int) := by omega
    simp [h1, this]
theorem ok_sz {xs : List (Int × ByteArray)} (h : Lm OkEntry xs) : Ls (fun e => Sz e.2) xs := ⟨Nat.le_trans h.1 (by omega), fun x hx => Nat.le_trans (h.2 x hx).2 (by omega)⟩
theorem all_in {xs : List (Int × ByteArray)} (h : xs.all entB = true) : ∀ e ∈ xs, EnIn e := fun e he => entB_in (List.all_eq_true.1 h e he)
theorem WriteJournal_core (xs : List (Int × ByteArray)) (h : Lm OkEntry xs) : ∃ w, spec_WriteJournal.f xs = some w ∧ impl_WriteJournal.f xs = some w ∧ True := by
  have hs := ok_sz h
  refine ⟨if xs.all entB = true then (if xs.length ≤ 20 then (jText xs, 0) else (⟨#[]⟩, 3)) else (⟨#[]⟩, 1), ?_, ?_, trivial⟩
  · unfold spec_WriteJournal.f spec_WriteJournal.fn spec_WriteJournal.top
    rw [spec_l33Code_f xs hs]
    cases ha : xs.all entB
    · rfl
    by_cases h1 : xs.length ≤ 20
    · simp only [h1, and_self, and_true, true_and, decide_true, decide_false, if_true, if_false, mid_get, mid_set, mid_getn, mid_setn, bt_mid, Option.bind_some, Bool.not_true, Bool.not_false, Bool.false_eq_true, Bool.true_eq_false, beq_self_eq_true, bne_self_eq_false, Int.toNat_natCast]
      rw [(spec_l33Write_f xs h.1 (all_in ha)).1]; rfl
    · simp only [h1, and_self, and_true, true_and, decide_true, decide_false, if_true, if_false, mid_get, mid_set, mid_getn, mid_setn, bt_mid, Option.bind_some, Bool.not_true, Bool.not_false, Bool.false_eq_true, Bool.true_eq_false, beq_self_eq_true, bne_self_eq_false, Int.toNat_natCast]; rfl
  · unfold impl_WriteJournal.f impl_WriteJournal.fn impl_WriteJournal.top
    rw [impl_areEntries_f xs hs]
    cases ha : xs.all entB
    · rfl
    by_cases h1 : xs.length ≤ 20
    · have : ¬ (20 : Int) < (xs.length : Int) := by omega
      simp only [h1, this, and_self, and_true, true_and, decide_true, decide_false, if_true, if_false, mid_get, mid_set, mid_getn, mid_setn, bt_mid, Option.bind_some, Bool.not_true, Bool.not_false, Bool.false_eq_true, Bool.true_eq_false, beq_self_eq_true, bne_self_eq_false, Int.toNat_natCast]
      rw [(impl_journalOf_f xs h.1 (all_in ha)).1]; rfl
    · have : (20 : Int) < (xs.length : Int) := by omega
      simp only [h1, this, and_self, and_true, true_and, decide_true, decide_false, if_true, if_false, mid_get, mid_set, mid_getn, mid_setn, bt_mid, Option.bind_some, Bool.not_true, Bool.not_false, Bool.false_eq_true, Bool.true_eq_false, beq_self_eq_true, bne_self_eq_false, Int.toNat_natCast]
end Go.Pl

namespace Go.Pl
open Go.Ev
set_option linter.unusedVariables false
set_option linter.unusedSimpArgs false
theorem all_snoc (r : List (Int × ByteArray)) (e : Int × ByteArray) (h : ∀ x ∈ r, entB x = true) : (r ++ [e]).all entB = entB e := by
  rw [List.all_append]
  have : r.all entB = true := List.all_eq_true.2 h
  rw [this]; simp
theorem AppendEntry_core (s : ByteArray) (e : Int × ByteArray) (hs : Sm s) (he : OkEntry e) : ∃ w, spec_AppendEntry.f s e = some w ∧ impl_AppendEntry.f s e = some w ∧ True := by
  obtain ⟨r, n, h1, h2, h3, h4, h5, h6⟩ := journal_same s hs
  have hroom : r.length + [e].length < room 24 := by rw [room24]; simp; omega
  have hls : Ls (fun e => Sz e.2) (r ++ [e]) := ⟨by simp; omega, fun x hx => by
    rcases List.mem_append.1 hx with h | h
    · exact Nat.le_trans (entB_in (h6 x h)).2.2 (by omega)
    · rw [List.mem_singleton.1 h]; exact Nat.le_trans he.2 (by omega)⟩
  refine ⟨if entB e = true then (if r.length = 20 then (⟨#[]⟩, 3) else (jText (r ++ [e]), 0)) else (⟨#[]⟩, 1), ?_, ?_, trivial⟩
  · unfold spec_AppendEntry.f spec_AppendEntry.fn spec_AppendEntry.top
    rw [h2]
    simp only [and_self, and_true, true_and, decide_true, decide_false, if_true, if_false, mid_get, mid_set, mid_getn, mid_setn, bt_mid, Option.bind_some, Bool.not_true, Bool.not_false, Bool.false_eq_true, Bool.true_eq_false, beq_self_eq_true, bne_self_eq_false, Int.toNat_natCast, hroom]
    rw [spec_l33Code_f _ hls, all_snoc r e h6]
    cases hb : entB e
    · rfl
    by_cases h20 : r.length = 20
    · have : ¬ (r ++ [e]).length ≤ 20 := by simp; omega
      simp only [h20, this, and_self, and_true, true_and, decide_true, decide_false, if_true, if_false, mid_get, mid_set, mid_getn, mid_setn, bt_mid, Option.bind_some, Bool.not_true, Bool.not_false, Bool.false_eq_true, Bool.true_eq_false, beq_self_eq_true, bne_self_eq_false, Int.toNat_natCast]; rfl
    · have : (r ++ [e]).length ≤ 20 := by simp; omega
      simp only [h20, this, and_self, and_true, true_and, decide_true, decide_false, if_true, if_false, mid_get, mid_set, mid_getn, mid_setn, bt_mid, Option.bind_some, Bool.not_true, Bool.not_false, Bool.false_eq_true, Bool.true_eq_false, beq_self_eq_true, bne_self_eq_false, Int.toNat_natCast]
      have hall : (r ++ [e]).all entB = true := by rw [all_snoc r e h6]; exact hb
      rw [(spec_l33Write_f (r ++ [e]) (by omega) (all_in hall)).1]; rfl
  · unfold impl_AppendEntry.f impl_AppendEntry.fn impl_AppendEntry.top
    rw [impl_isEntry_f e (Nat.le_trans he.2 (by omega))]
    cases hb : entB e
    · rfl
    simp only [and_self, and_true, true_and, decide_true, decide_false, if_true, if_false, mid_get, mid_set, mid_getn, mid_setn, bt_mid, Option.bind_some, Bool.not_true, Bool.not_false, Bool.false_eq_true, Bool.true_eq_false, beq_self_eq_true, bne_self_eq_false, Int.toNat_natCast]
    rw [h1]
    by_cases h20 : r.length = 20
    · have : ((r.length : Int) == 20) = true := by rw [beq_iff_eq]; omega
      simp only [h20, and_self, and_true, true_and, decide_true, decide_false, if_true, if_false, mid_get, mid_set, mid_getn, mid_setn, bt_mid, Option.bind_some, Bool.not_true, Bool.not_false, Bool.false_eq_true, Bool.true_eq_false, beq_self_eq_true, bne_self_eq_false, Int.toNat_natCast]; rfl
    · have : ((r.length : Int) == 20) = false := by rw [beq_eq_false_iff_ne]; omega
      simp only [h20, this, hroom, and_self, and_true, true_and, decide_true, decide_false, if_true, if_false, mid_get, mid_set, mid_getn, mid_setn, bt_mid, Option.bind_some, Bool.not_true, Bool.not_false, Bool.false_eq_true, Bool.true_eq_false, beq_self_eq_true, bne_self_eq_false, Int.toNat_natCast]
      have hall : (r ++ [e]).all entB = true := by rw [all_snoc r e h6]; exact hb
      rw [(impl_journalOf_f (r ++ [e]) (by simp; omega) (all_in hall)).1]; rfl
end Go.Pl

namespace Go.Pl
open Go.Ev
set_option linter.unusedVariables false
set_option linter.unusedSimpArgs false
theorem FnExactAppendEntry_true (aS : ByteArray) (aE : Int × ByteArray) (hyp : Sz aS ∧ PlEntry aE) : laws_FnExactAppendEntry.f aS aE = some true := by
  obtain ⟨h_aS, h_aE⟩ := hyp
  unfold laws_FnExactAppendEntry.f laws_FnExactAppendEntry.fn laws_FnExactAppendEntry.top
  have z_aS : aS.size ≤ 140737488355328 := h_aS
  have lw_aS := w64 (n := (1000000 - (aS.size : Int))) (by omega) (by omega)
  simp only [lw_aS]
  obtain ⟨s1, e1, l1, k1⟩ := laws_szEntry_ok aE (1000000 - (aS.size : Int)) (by omega) (by omega) h_aE
  simp only [e1, Option.bind_some, decide_eq_true_eq]
  by_cases hn1 : s1 < 0
  · simp [hn1]
  simp only [hn1, if_false]
  obtain ⟨q1, o_aE⟩ := k1 (by omega)
  have o_aS : Sm aS := by unfold Sm; omega
  obtain ⟨⟨w0, w1⟩, c1, c2, c3⟩ := AppendEntry_core aS aE o_aS o_aE
  have c4 := c3
  simp [laws_toEntry_ok, c1, c2]
end Go.Pl

/- The law FnExactAppendEntry: the program's function answers as the law says, for all arguments of a claim's bounds. -/
namespace Go.Proofs.Ytppfdipgaifhiaa.fnExactAppendEntry
open Go.ChangeShapes Go.WideShapes Go.ChangeAt Go.RowKit Go.Ev
set_option linter.unusedVariables false
theorem own : ownKnob Try.prog.godebug = none := by kernel_rfl
theorem posok : posB Go.Ev.Try.tab = true := by kernel_rfl
theorem laidOut : laidOutB Try.prog = true := by kernel_rfl
set_option maxRecDepth 100000 in
theorem lifted (os : Os) (started : os.Started) (H : Type) (enc : TypeId × Value → H) :
    ReturnsInHanded {} Try.checked os 14 .any (Rows.fnExactAppendEntrySpec.pre6 enc Try.prog Try.f14 Rows.fnExactAppendEntryRow.domain false) (Rows.fnExactAppendEntrySpec.post enc Try.prog Try.f14 false true false false) := by
  refine returnsInHanded_of_change_sized (C := Try.checked) own started (by kernel_rfl) Try.func14
    (ChangeSpec.witness6 (enc := enc) (C := Try.checked) false ⟨#[], #[.string ByteArray.empty, .agg #[.int .u8 0, .string ByteArray.empty]], []⟩ 8 (by kernel_rfl) (by kernel_rfl) (by kernel_rfl) (by kernel_rfl)) ?_
  intro W base args ds gs before hval0 hW hcnd hsz0 _
  have hsz : (DataW.weightsEach Try.prog (Try.f14.params.toList ++ Rows.fnExactAppendEntrySpec.plain.varTypes Try.prog) (ds ++ gs)).all (· ≤ reachBytes) = true := hsz0
  have hval : ∀ (j : Nat) t v, Try.f14.params[j]? = some t → args[j]? = some v → Value.okWide Try.prog W .any base t v := hval0
  have hW' := hW
  obtain ⟨p, q, hA0, hV, rfl, hfz, hnd⟩ := hW
  have hA : DataW.TrodAll enc Try.prog W 0 (fun _ => true) true Try.f14.params.toList args.toList ds p := hA0
  rw [Try.params14] at hA hval hsz
  obtain ⟨rfl, rfl⟩ := trodVars_none hV
  have hcall := fun hl => law_row Go.Ev.Try.tabok posok Go.Ev.Try.laws_FnExactAppendEntry.good rfl (by kernel_rfl)
    (fun x hx => ⟨true, Go.Pl.FnExactAppendEntry_true x.1 x.2 hx, rfl⟩) (ts := [9, 65]) (by rfl) hA (fun j t v hj hv => hval j t v (by simpa using hj) hv) (.inr rfl) hsz hl
  obtain ⟨v0, vs0, d0, ds0, p0, q0, hargs0, rfl, rfl, h0, r0⟩ := trodAll_cons hA
  obtain ⟨v1, vs1, d1, ds1, p1, q1, hargs1, rfl, rfl, h1, r1⟩ := trodAll_cons r0
  obtain ⟨rfl, rfl, rfl⟩ := trodAll_nil r1
  obtain rfl : args = #[v0, v1] := by cases args; simp_all
  refine (hcall rfl).mono fun e W' ⟨he, bel⟩ => ?_
  subst he
  have hlt0 : ∀ x ∈ p0, x.block < W.heap.size := fun x hx => by simpa using hW'.lt x (by simp [hx])
  have hlt1 : ∀ x ∈ p1, x.block < W.heap.size := fun x hx => by simpa using hW'.lt x (by simp [hx])
  exact ⟨_, rfl, _, _, _, [], _, [], hW', trodAll_mk1 (shut_bool Try.underlying4 _), (trodAll_cons_mk (Below.trod laidOut (by kernel_rfl) (of_decide_eq_true (by kernel_rfl)) h0 bel hlt0) (trodAll_cons_mk (Below.trod laidOut (by kernel_rfl) (of_decide_eq_true (by kernel_rfl)) h1 bel hlt1) trodAll_mk0)), rfl, bel.frame _, fun h => by cases h⟩
theorem over : Rows.fnExactAppendEntryRow.holds Try.pinned (OpenSpec.ofChange Rows.fnExactAppendEntrySpec) :=
  OpenClaim.holds_of_wide 14 Try.f14 rfl rfl rfl rfl rfl rfl rfl ⟨rfl, rfl, rfl, rfl, rfl⟩ rfl rfl rfl rfl rfl (by kernel_rfl) Try.func14 (by kernel_rfl)
    (of_decide_eq_true (by kernel_rfl)) (by unfold Func.isWrapper; first | (rw [if_pos (by decide +kernel)]; kernel_rfl) | (rw [if_neg (by decide +kernel)]; exact ⟨rfl, rfl⟩))
    (fun os started H enc _ => lifted os started H enc)
theorem proved : Rows.FnExactAppendEntrySaid := over
end Go.Proofs.Ytppfdipgaifhiaa.fnExactAppendEntry
namespace Go.Proofs.Ytppfdipgaifhiaa
theorem fnExactAppendEntry_holds : Rows.FnExactAppendEntrySaid := fnExactAppendEntry.proved
end Go.Proofs.Ytppfdipgaifhiaa
