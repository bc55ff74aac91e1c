/- Part 3 of what the law FnExactPermitFor stands on: an evaluator of the model's code, proved sound; the functions as plain texts; their contracts. -/
import Derived.Test.YtfedipldlkncnaaChecked
import Derived.Test.YtfedipldlkncnaaProg
import Derived.Test.YtfedipldlkncnaaRows
import Derived.Below
import Derived.Calls
import Derived.Carry
import Derived.ChangeArms
import Derived.ChangeKeysEq
import Derived.ChangeOld
import Derived.Deep.Quiet
import Derived.KernelRfl
import Derived.Laws.Append
import Derived.Laws.BytesString
import Derived.Laws.MakeOwn
import Derived.Laws.Strings
import Derived.Laws.StructEq
import Derived.OpenShut
import Derived.OrdersHeld
import Derived.ProofKit
import Derived.ShutString
import Derived.SizedLaws
import Derived.Tactics
import Derived.WalkKit
import Derived.WideShapes
import Derived.Test.YtfedipldlkncnaaEvExactPermitFor2
namespace Go.Pl
open Go.Ev
set_option linter.unusedVariables false
set_option linter.unusedSimpArgs false
abbrev Prm := Int × Int × Int × Int × List Int × Int
def hasK (ks : List Int) (k : Int) : Bool := ks.any fun x => decide (x = k)
theorem any_foldl (k : Int) : ∀ (ks : List Int) (b : Bool), ks.foldl (fun st x => st || decide (x = k)) b = (b || hasK ks k) := by
  intro ks
  induction ks with
  | nil => intro b; simp [hasK]
  | cons x r ih => intro b; rw [List.foldl_cons, ih]; simp [hasK, Bool.or_assoc]
theorem first_any {α : Type} (P : α → Bool) : ∀ (xs : List α) (i : Nat), (firstOf P i xs).elim (some false) (fun _ => some true) = some (xs.any P) := by
  intro xs
  induction xs with
  | nil => intro i; rfl
  | cons x r ih =>
    intro i
    simp only [firstOf, List.any_cons]
    cases P x
    · simp only [Bool.false_eq_true, if_false, Bool.false_or]; exact ih _
    · rfl
theorem spec_l01Has_f (ks : List Int) (k : Int) (h : ks.length ≤ 140737488355328) : spec_l01Has.f ks k = some (hasK ks k) := by
  have := find_loop (E := fun _ => True) (fun x : Int => decide (x = k)) (fun _ _ => some true) (fun _ => some false) (fun j xs i => spec_l01Has.l2 NN j xs k i) ?_ ?_ ks (fun _ _ => trivial) (by omega) NN (NN_lt (by omega))
  · refine this.trans ?_
    exact first_any _ _ _
  · intro j p
    simp [spec_l01Has.l2, spec_l01Has.g2]
  · intro j p x r _ c0 c1 c2 cw
    simp only [spec_l01Has.l2, spec_l01Has.g2, c0, c1, cw, and_self, and_true, true_and, decide_true, decide_false, if_true, if_false, mid_get, mid_set, mid_getn, mid_setn, bt_mid, Option.bind_some, Bool.not_true, Bool.not_false, Bool.false_eq_true, Bool.true_eq_false, beq_self_eq_true, bne_self_eq_false, Int.toNat_natCast]
    by_cases hx : x = k <;> simp [hx]
/-- counts that go with articles -/
def cntsB (xs : List Art) (cs : List Int) : Bool := decide (cs.length = xs.length) && cs.all (inB · 0 1000)
theorem cntsB_iff {xs : List Art} {cs : List Int} (h : cntsB xs cs = true) : cs.length = xs.length ∧ ∀ i : Nat, 0 ≤ cs.getD i 0 ∧ cs.getD i 0 ≤ 1000 := by
  unfold cntsB at h
  simp only [Bool.and_eq_true, decide_eq_true_eq, List.all_eq_true, inB_iff] at h
  refine ⟨h.1, fun i => ?_⟩
  rw [List.getD_eq_getElem?_getD]
  cases e : cs[i]? with
  | none => simp
  | some c => exact h.2 c (List.mem_of_getElem? e)
theorem impl_areCounts_f (xs : List Art) (cs : List Int) (h : cs.length ≤ 1000000) : impl_areCounts.f xs cs = some (cntsB xs cs) := by
  unfold impl_areCounts.f impl_areCounts.fn impl_areCounts.top cntsB
  rw [impl_allWithin_f cs 0 1000 (by omega)]
  by_cases e : cs.length = xs.length
  · simp [e]
  · have e' : ¬ ((cs.length : Int) = (xs.length : Int)) := by omega
    simp [e, e']
theorem spec_l03Code_f (xs : List Art) (cs : List Int) (hb : xs.length ≤ 140737488355328) (hz : ∀ a ∈ xs, Sz a.1) (h : cs.length ≤ 1000000) : spec_l03Code.f xs cs = some (if artsB xs = true then (if cntsB xs cs = true then 0 else 2) else 1) := by
  unfold spec_l03Code.f spec_l03Code.fn spec_l03Code.top
  rw [spec_AreArticles_f xs hb hz]
  cases hx : artsB xs
  · rfl
  have := find_loop (E := fun _ => True) (fun x : Int => !inB x 0 1000) (fun _ _ => some (2 : Int)) (fun p => if (((p.length : Int) : Int) != (xs.length : Int)) = true then some 2 else some 0) (fun j ys i => spec_l03Code.l4 NN j xs ys i) ?_ ?_ cs (fun _ _ => trivial) (by omega) NN (NN_lt (by omega))
  · simp only [Option.bind_some, Bool.not_true, Bool.false_eq_true, if_false, if_true]
    rw [this]
    unfold cntsB
    have ha : ∀ (ys : List Int) (i : Nat), (firstOf (fun x : Int => !inB x 0 1000) i ys).isSome = !(ys.all (inB · 0 1000)) := by
      intro ys
      induction ys with
      | nil => intro i; rfl
      | cons y r ih => intro i; rcases Bool.eq_false_or_eq_true (inB y 0 1000) with q | q <;> simp [firstOf, q, ih]
    have ha := ha cs 0
    cases hf : firstOf (fun x : Int => !inB x 0 1000) 0 cs with
    | none =>
      rw [hf] at ha
      simp only [Option.isSome_none] at ha
      have ha2 : cs.all (inB · 0 1000) = true := by rw [← Bool.not_eq_false']; exact ha.symm
      simp only [Option.elim_none, ha2, Bool.and_true, decide_eq_true_eq]
      by_cases e : cs.length = xs.length
      · simp [e]
      · have e' : ¬ ((cs.length : Int) = (xs.length : Int)) := by omega
        simp [e, e']
    | some y =>
      rw [hf] at ha
      simp only [Option.isSome_some] at ha
      have ha2 : cs.all (inB · 0 1000) = false := by rw [← Bool.not_eq_true']; exact ha.symm
      simp only [Option.elim_some, ha2, Bool.and_false, Bool.false_eq_true, if_false]
  · intro j p
    simp [spec_l03Code.l4, spec_l03Code.g4]
  · intro j p x r _ c0 c1 c2 cw
    simp only [spec_l03Code.l4, spec_l03Code.g4, c0, c1, cw, and_self, and_true, true_and, decide_true, decide_false, if_true, if_false, mid_get, mid_set, mid_getn, mid_setn, bt_mid, Option.bind_some, Bool.not_true, Bool.not_false, Bool.false_eq_true, Bool.true_eq_false, beq_self_eq_true, bne_self_eq_false, Int.toNat_natCast, spec_l01In_f]
/-- the net mass of an order -/
def netS (cs : List Int) (i : Nat) (st : Int) (a : Art) : Int := st + a.2.2.2.2.2.2.2.1 * cs.getD i 0
def netO (xs : List Art) (cs : List Int) : Int := foldi (netS cs) 0 0 xs
theorem mul_bd {a c : Int} (h1 : 1 ≤ a ∧ a ≤ 100000) (h2 : 0 ≤ c ∧ c ≤ 1000) : 0 ≤ a * c ∧ a * c ≤ 100000000 := by
  refine ⟨Int.mul_nonneg (by omega) h2.1, ?_⟩
  have := Int.mul_le_mul h1.2 h2.2 h2.1 (show (0 : Int) ≤ 100000 by omega)
  omega
theorem impl_orderNet_f (xs : List Art) (cs : List Int) (hx : artsB xs = true) (hc : cntsB xs cs = true) : (0 ≤ netO xs cs ∧ netO xs cs ≤ 1200000000) ∧ impl_orderNet.f xs cs = some (netO xs cs) := by
  obtain ⟨h1, h2⟩ := artsB_ok hx
  obtain ⟨h3, h4⟩ := cntsB_iff hc
  have := fold_fix (E := fun a : Art => artB a = true) (fun p (st : Int) => 0 ≤ st ∧ st ≤ 100000000 * p.length) (netS cs) (fun st => some st) (fun k i st => impl_orderNet.l3 NN k cs st xs xs.length i) xs ?_ ?_ 0 h2 (by simp) (by omega) NN (NN_lt (by omega))
  · exact ⟨⟨this.1.1, by have := this.1.2; unfold netO; omega⟩, this.2⟩
  · intro k st _
    simp [impl_orderNet.l3, impl_orderNet.g3]
  · intro k p a r st hxx ha hI c0 c1 c2 cw g
    have hpl : p.length ≤ 12 := by rw [hxx] at h1; simp at h1; omega
    have hb := mul_bd (artB_iff ha).2.2.2.1 (h4 p.length)
    have w1 := w64 (n := a.2.2.2.2.2.2.2.1 * cs.getD p.length 0) (by omega) (by omega)
    have w2 := w64 (n := st + a.2.2.2.2.2.2.2.1 * cs.getD p.length 0) (by omega) (by omega)
    have c3 : (p.length : Int) < (cs.length : Int) := by omega
    refine ⟨by unfold netS; rw [List.length_append, List.length_singleton]; omega, ?_⟩
    simp only [impl_orderNet.l3, impl_orderNet.g3, c0, c1, c3, cw, and_self, and_true, true_and, decide_true, decide_false, if_true, if_false, mid_get, mid_set, mid_getn, mid_setn, bt_mid, Option.bind_some, Bool.not_true, Bool.not_false, Bool.false_eq_true, Bool.true_eq_false, beq_self_eq_true, bne_self_eq_false, Int.toNat_natCast, g, w1, w2]
    rfl
def refF (p : Prm) (cs : List Int) (i : Nat) (st : Bool × Bool × Bool) (a : Art) : Bool × Bool × Bool :=
  if cs.getD i 0 = 0 then st else (st.1 || decide (p.2.2.2.1 < a.2.2.1), st.2.1 || !hasK p.2.2.2.2.1 a.2.1, st.2.2 || decide (p.2.2.2.2.2 < a.2.2.2.2.2.2.2.2))
def bitsV (l : List Bool) : Int := (l.foldl (fun (st : Int × Int) t => (if t = true then st.1 + st.2 else st.1, 2 * st.2)) (0, 1)).1
/-- the refusals of an order -/
def refV (p : Prm) (xs : List Art) (cs : List Int) (day : Int) : Int :=
  bitsV [!inB day p.1 p.2.1, decide (p.2.2.1 < netO xs cs), (foldi (refF p cs) 0 (false, false, false) xs).1, (foldi (refF p cs) 0 (false, false, false) xs).2.1, (foldi (refF p cs) 0 (false, false, false) xs).2.2]
theorem bits_impl (a b c d e : Bool) : IntKind.i64.wrap ((IntKind.i64.wrap ((IntKind.i64.wrap ((IntKind.i64.wrap ((if a = true then 1 else 0) + (if b = true then 2 else 0))) + (if c = true then 4 else 0))) + (if d = true then 8 else 0))) + (if e = true then 16 else 0)) = bitsV [a, b, c, d, e] := by
  cases a <;> cases b <;> cases c <;> cases d <;> cases e <;> rfl
theorem impl_bit_f (b : Bool) (n : Int) : impl_bit.f b n = some (if b = true then n else 0) := by
  unfold impl_bit.f impl_bit.fn impl_bit.top
  cases b <;> rfl
theorem impl_ref_in (p : Prm) (cs : List Int) (xs : List Art) (v i : Int) (L : List Int → List Art → Int → Int → Prm → List Bool → Option Int) (a : Art) (b0 b1 c k g : Bool) (h : p.2.2.2.2.1.length ≤ 140737488355328) :
    impl_refusalsOf.l10 NN L NN cs false xs v i p.2.2.2.2.1 p.2.2.2.2.1.length 0 p [b0, b1, c, k, g] a = L cs xs v (IntKind.i64.wrap (i + 1)) p [b0, b1, c || decide (p.2.2.2.1 < a.2.2.1), k || !hasK p.2.2.2.2.1 a.2.1, g || decide (p.2.2.2.2.2 < a.2.2.2.2.2.2.2.2)] := by
  have := (fold_fix (E := fun _ => True) (fun _ _ => True) (fun _ st x => st || decide (x = a.2.1)) (fun kd => L cs xs v (IntKind.i64.wrap (i + 1)) p [b0, b1, c || decide (p.2.2.2.1 < a.2.2.1), k || !kd, g || decide (p.2.2.2.2.2 < a.2.2.2.2.2.2.2.2)]) (fun j m kd => impl_refusalsOf.l10 NN L j cs kd xs v i p.2.2.2.2.1 p.2.2.2.2.1.length m p [b0, b1, c, k, g] a) p.2.2.2.2.1 ?_ ?_ false (fun _ _ => trivial) trivial h NN (NN_lt (by omega))).2
  · rw [foldi_foldl, any_foldl, Bool.false_or] at this
    exact this
  · intro j kd _
    cases c <;> cases k <;> cases g <;> simp [impl_refusalsOf.l10, impl_refusalsOf.g10]
  · intro j q x r kd hx _ _ c0 c1 c2 cw gg
    refine ⟨trivial, ?_⟩
    simp only [impl_refusalsOf.l10, impl_refusalsOf.g10, c0, c1, cw, and_self, and_true, true_and, decide_true, decide_false, if_true, if_false, mid_get, mid_set, mid_getn, mid_setn, bt_mid, Option.bind_some, Bool.not_true, Bool.not_false, Bool.false_eq_true, Bool.true_eq_false, beq_self_eq_true, bne_self_eq_false, Int.toNat_natCast, gg]
    cases kd
    · simp only [if_true, Bool.false_or]; rfl
    · simp
theorem impl_refusalsOf_f (p : Prm) (xs : List Art) (cs : List Int) (day : Int) (hx : artsB xs = true) (hc : cntsB xs cs = true) (h : p.2.2.2.2.1.length ≤ 140737488355328) : impl_refusalsOf.f p xs cs day = some (refV p xs cs day) := by
  obtain ⟨h1, h2⟩ := artsB_ok hx
  obtain ⟨h3, h4⟩ := cntsB_iff hc
  unfold impl_refusalsOf.f impl_refusalsOf.fn impl_refusalsOf.top
  rw [impl_within_f, (impl_orderNet_f xs cs hx hc).2]
  have := (fold_fix (E := fun a : Art => artB a = true) (fun _ _ => True) (refF p cs) (fun st => some (bitsV [!inB day p.1 p.2.1, decide (p.2.2.1 < netO xs cs), st.1, st.2.1, st.2.2])) (fun k i st => impl_refusalsOf.l5 NN k cs xs xs.length i p [!inB day p.1 p.2.1, decide (p.2.2.1 < netO xs cs), st.1, st.2.1, st.2.2]) xs ?_ ?_ (false, false, false) h2 trivial (by omega) NN (NN_lt (by omega))).2
  · simp only [Option.bind_some]
    rw [if_pos (by omega), if_pos (by omega)]
    exact this
  · intro k st _
    simp only [impl_refusalsOf.l5, impl_refusalsOf.g5, Int.lt_irrefl, and_self, and_true, true_and, decide_true, decide_false, if_true, if_false, mid_get, mid_set, mid_getn, mid_setn, bt_mid, Option.bind_some, Bool.not_true, Bool.not_false, Bool.false_eq_true, Bool.true_eq_false, beq_self_eq_true, bne_self_eq_false, Int.toNat_natCast, impl_bit_f]
    rw [if_pos (by omega), if_pos (by omega), if_pos (by omega), if_pos (by omega), if_pos (by omega)]
    exact congrArg some (bits_impl (!inB day p.1 p.2.1) (decide (p.2.2.1 < netO xs cs)) st.1 st.2.1 st.2.2)
  · intro k q a r st hxx ha _ c0 c1 c2 cw g
    refine ⟨trivial, ?_⟩
    have c3 : (q.length : Int) < (cs.length : Int) := by omega
    simp only [impl_refusalsOf.l5, impl_refusalsOf.g5, c0, c1, c3, cw, and_self, and_true, true_and, decide_true, decide_false, if_true, if_false, mid_get, mid_set, mid_getn, mid_setn, bt_mid, Option.bind_some, Bool.not_true, Bool.not_false, Bool.false_eq_true, Bool.true_eq_false, beq_self_eq_true, bne_self_eq_false, Int.toNat_natCast, g]
    unfold refF
    by_cases e : cs.getD q.length 0 = 0
    · simp only [e, and_self, and_true, true_and, decide_true, decide_false, if_true, if_false, mid_get, mid_set, mid_getn, mid_setn, bt_mid, Option.bind_some, Bool.not_true, Bool.not_false, Bool.false_eq_true, Bool.true_eq_false, beq_self_eq_true, bne_self_eq_false, Int.toNat_natCast, if_true]
    · have e' : (cs.getD q.length 0 == 0) = false := by simpa using e
      simp only [e, e', and_self, and_true, true_and, decide_true, decide_false, if_true, if_false, mid_get, mid_set, mid_getn, mid_setn, bt_mid, Option.bind_some, Bool.not_true, Bool.not_false, Bool.false_eq_true, Bool.true_eq_false, beq_self_eq_true, bne_self_eq_false, Int.toNat_natCast, if_false]
      rw [impl_ref_in p cs xs xs.length q.length _ a _ _ _ _ _ h, cw]
def refG (p : Prm) (cs : List Int) (i : Nat) (st : Int × Bool × Bool × Bool) (a : Art) : Int × Bool × Bool × Bool := (netS cs i st.1 a, refF p cs i st.2 a)
theorem refG_fold (p : Prm) (cs : List Int) : ∀ (xs : List Art) (i : Nat) (st : Int × Bool × Bool × Bool), foldi (refG p cs) i st xs = (foldi (netS cs) i st.1 xs, foldi (refF p cs) i st.2 xs) := by
  intro xs
  induction xs with
  | nil => intro i st; rfl
  | cons a r ih => intro i st; simp only [foldi, ih, refG]
theorem spec_bits (l : List Bool) (h : l.length ≤ 5) : spec_l30Refusals.l14 NN NN 0 1 0 l = some (bitsV l) := by
  have := (fold_fix (E := fun _ => True) (fun (p : List Bool) (st : Int × Int) => st.2 = 2 ^ p.length ∧ 0 ≤ st.1 ∧ st.1 ≤ 2 ^ p.length) (fun _ (st : Int × Int) t => (if t = true then st.1 + st.2 else st.1, 2 * st.2)) (fun st => some st.1) (fun k i st => spec_l30Refusals.l14 NN k st.1 st.2 i l) l ?_ ?_ (0, 1) (fun _ _ => trivial) (by simp) (by omega) NN (NN_lt (by omega))).2
  · rw [foldi_foldl] at this
    exact this
  · intro k st _
    simp [spec_l30Refusals.l14, spec_l30Refusals.g14]
  · intro k q t r st hx _ hI c0 c1 c2 cw g
    have hq : q.length ≤ 4 := by rw [hx] at h; simp at h; omega
    have hp : (2 : Int) ^ q.length ≤ 16 := by
      rcases Nat.lt_or_ge q.length 1 with h | h
      · rw [show q.length = 0 by omega]; decide
      rcases Nat.lt_or_ge q.length 2 with h | h
      · rw [show q.length = 1 by omega]; decide
      rcases Nat.lt_or_ge q.length 3 with h | h
      · rw [show q.length = 2 by omega]; decide
      rcases Nat.lt_or_ge q.length 4 with h | h
      · rw [show q.length = 3 by omega]; decide
      · rw [show q.length = 4 by omega]; decide
    obtain ⟨i1, i2, i3⟩ := hI
    have w1 := w64 (n := st.1 + st.2) (by omega) (by omega)
    have w2 := w64 (n := 2 * st.2) (by omega) (by omega)
    refine ⟨?_, ?_⟩
    · rw [List.length_append, List.length_singleton, Int.pow_succ]
      refine ⟨by simp only; omega, ?_⟩
      cases t <;> simp only [if_true, Bool.false_eq_true, if_false] <;> omega
    · simp only [spec_l30Refusals.l14, spec_l30Refusals.g14, c0, c1, cw, and_self, and_true, true_and, decide_true, decide_false, if_true, if_false, mid_get, mid_set, mid_getn, mid_setn, bt_mid, Option.bind_some, Bool.not_true, Bool.not_false, Bool.false_eq_true, Bool.true_eq_false, beq_self_eq_true, bne_self_eq_false, Int.toNat_natCast, g, w1, w2]
      cases t <;> rfl
theorem spec_l30Refusals_f (p : Prm) (xs : List Art) (cs : List Int) (day : Int) (hx : artsB xs = true) (hc : cntsB xs cs = true) (h : p.2.2.2.2.1.length ≤ 140737488355328) : spec_l30Refusals.f p xs cs day = some (refV p xs cs day) := by
  obtain ⟨h1, h2⟩ := artsB_ok hx
  obtain ⟨h3, h4⟩ := cntsB_iff hc
  unfold spec_l30Refusals.f spec_l30Refusals.fn spec_l30Refusals.top
  have := (fold_fix (E := fun a : Art => artB a = true) (fun q (st : Int × Bool × Bool × Bool) => 0 ≤ st.1 ∧ st.1 ≤ 100000000 * q.length) (refG p cs) (fun st => some (bitsV [!inB day p.1 p.2.1, decide (p.2.2.1 < st.1), st.2.1, st.2.2.1, st.2.2.2])) (fun k i st => spec_l30Refusals.l4 NN k xs cs day st.1 st.2.1 st.2.2.1 st.2.2.2 i p) xs ?_ ?_ (0, false, false, false) h2 (by simp) (by omega) NN (NN_lt (by omega))).2
  · rw [refG_fold] at this
    exact this
  · intro k st _
    simp only [spec_l30Refusals.l4, spec_l30Refusals.g4, Int.lt_irrefl, and_self, and_true, true_and, decide_true, decide_false, if_true, if_false, mid_get, mid_set, mid_getn, mid_setn, bt_mid, Option.bind_some, Bool.not_true, Bool.not_false, Bool.false_eq_true, Bool.true_eq_false, beq_self_eq_true, bne_self_eq_false, Int.toNat_natCast, spec_l01In_f]
    exact spec_bits _ (by simp)
  · intro k q a r st hxx ha hI c0 c1 c2 cw g
    have hpl : q.length ≤ 12 := by rw [hxx] at h1; simp at h1; omega
    have c3 : (q.length : Int) < (cs.length : Int) := by omega
    have hb := mul_bd (artB_iff ha).2.2.2.1 (h4 q.length)
    have w1 := w64 (n := a.2.2.2.2.2.2.2.1 * cs.getD q.length 0) (by omega) (by omega)
    have w2 := w64 (n := st.1 + a.2.2.2.2.2.2.2.1 * cs.getD q.length 0) (by omega) (by omega)
    refine ⟨by unfold refG netS; rw [List.length_append, List.length_singleton]; simp only; omega, ?_⟩
    simp only [spec_l30Refusals.l4, spec_l30Refusals.g4, c0, c1, c3, cw, and_self, and_true, true_and, decide_true, decide_false, if_true, if_false, mid_get, mid_set, mid_getn, mid_setn, bt_mid, Option.bind_some, Bool.not_true, Bool.not_false, Bool.false_eq_true, Bool.true_eq_false, beq_self_eq_true, bne_self_eq_false, Int.toNat_natCast, g, w1, w2, spec_l01Has_f _ _ h]
    unfold refG refF netS
    obtain ⟨n, c, kd, gr⟩ := st
    by_cases e : cs.getD q.length 0 = 0
    · simp only [e, and_self, and_true, true_and, decide_true, decide_false, if_true, if_false, mid_get, mid_set, mid_getn, mid_setn, bt_mid, Option.bind_some, Bool.not_true, Bool.not_false, Bool.false_eq_true, Bool.true_eq_false, beq_self_eq_true, bne_self_eq_false, Int.toNat_natCast, Int.mul_zero, Int.add_zero]
    · have e' : (cs.getD q.length 0 == 0) = false := by simpa using e
      simp only [e, e', and_self, and_true, true_and, decide_true, decide_false, if_true, if_false, mid_get, mid_set, mid_getn, mid_setn, bt_mid, Option.bind_some, Bool.not_true, Bool.not_false, Bool.false_eq_true, Bool.true_eq_false, beq_self_eq_true, bne_self_eq_false, Int.toNat_natCast]
      cases c <;> cases kd <;> cases gr <;> simp
def askO (b : Bool) (xs : List Art) (cs : List Int) (day : Int) : Int := if b = true then (if artsB xs = true then (if cntsB xs cs = true then (if inB day 0 100000 = true then 0 else 2) else 2) else 1) else 1
def permsL (ps : List Prm) : Bool := decide (ps.length ≤ 8) && ps.all permB
theorem spec_l30All_f (ps : List Prm) (h : ps.length ≤ 1000000) (hk : ∀ p ∈ ps, p.2.2.2.2.1.length ≤ 140737488355328) : spec_l30All.f ps = some (permsL ps) := by
  have := all_loop (E := fun p : Prm => p.2.2.2.2.1.length ≤ 140737488355328) permB (fun p => some (decide (((p.length : Int) : Int) ≤ 8))) (fun k xs i => spec_l30All.l2 NN k xs i) ?_ ?_ ps hk (by omega) NN (NN_lt (by omega))
  · unfold spec_l30All.f spec_l30All.fn spec_l30All.top permsL
    refine this.trans ?_
    have e : decide ((ps.length : Int) ≤ 8) = decide (ps.length ≤ 8) := by congr 1; exact propext (by omega)
    cases ps.all permB <;> simp [e]
  · intro k p
    simp [spec_l30All.l2, spec_l30All.g2]
  · intro k p a r ha c0 c1 cw
    simp only [spec_l30All.l2, spec_l30All.g2, c0, c1, cw, and_self, and_true, true_and, decide_true, decide_false, if_true, if_false, mid_get, mid_set, mid_getn, mid_setn, bt_mid, Option.bind_some, Bool.not_true, Bool.not_false, Bool.false_eq_true, Bool.true_eq_false, beq_self_eq_true, bne_self_eq_false, Int.toNat_natCast, spec_IsPermit_f a ha]
    cases permB a <;> simp
theorem spec_l30Code_f (ps : List Prm) (xs : List Art) (cs : List Int) (day : Int) (h : ps.length ≤ 1000000) (hk : ∀ p ∈ ps, p.2.2.2.2.1.length ≤ 140737488355328) (hb : xs.length ≤ 140737488355328) (hz : ∀ a ∈ xs, Sz a.1) (hc : cs.length ≤ 1000000) :
    spec_l30Code.f ps xs cs day = some (askO (permsL ps) xs cs day) := by
  unfold spec_l30Code.f spec_l30Code.fn spec_l30Code.top askO
  rw [spec_l30All_f ps h hk, spec_l03Code_f xs cs hb hz hc, spec_l01In_f]
  cases permsL ps
  · rfl
  cases artsB xs
  · rfl
  cases cntsB xs cs
  · rfl
  cases inB day 0 100000 <;> rfl
def refR (p : Prm) (xs : List Art) (cs : List Int) (day : Int) : Int × Int := if askO (permB p) xs cs day = 0 then (refV p xs cs day, 0) else (0, askO (permB p) xs cs day)
theorem askO_zero {b : Bool} {xs : List Art} {cs : List Int} {day : Int} (h : askO b xs cs day = 0) : b = true ∧ artsB xs = true ∧ cntsB xs cs = true ∧ inB day 0 100000 = true := by
  unfold askO at h
  cases b
  · simp at h
  cases h1 : artsB xs
  · rw [h1] at h; simp at h
  cases h2 : cntsB xs cs
  · rw [h1, h2] at h; simp at h
  cases h3 : inB day 0 100000
  · rw [h1, h2, h3] at h; simp at h
  exact ⟨rfl, rfl, rfl, rfl⟩
theorem arts_z {xs : List Art} (h : Lm OkArticle xs) : ∀ a ∈ xs, Sz a.1 := fun a ha => Nat.le_trans (h.2 a ha).1 (by omega)
theorem RefusalsOf_both (p : Prm) (xs : List Art) (cs : List Int) (day : Int) (hp : OkPermit p) (hx : Lm OkArticle xs) (hc : Lm (Rg .i64) cs) : spec_RefusalsOf.f p xs cs day = some (refR p xs cs day) ∧ impl_RefusalsOf.f p xs cs day = some (refR p xs cs day) := by
  have hk : p.2.2.2.2.1.length ≤ 140737488355328 := Nat.le_trans hp.2.2.2.2.1.1 (by omega)
  have hb : xs.length ≤ 140737488355328 := Nat.le_trans hx.1 (by omega)
  refine ⟨?_, ?_⟩
  · unfold spec_RefusalsOf.f spec_RefusalsOf.fn spec_RefusalsOf.top refR
    rw [spec_l30Code_f [p] xs cs day (by simp) (fun q hq => by rw [List.mem_singleton.1 hq]; exact hk) hb (arts_z hx) hc.1]
    have e1 : permsL [p] = permB p := by simp [permsL]
    rw [e1]
    simp only [Option.bind_some]
    by_cases h0 : askO (permB p) xs cs day = 0
    · obtain ⟨_, a1, a2, _⟩ := askO_zero h0
      rw [if_pos h0, if_neg (by rw [h0]; decide), spec_l30Refusals_f p xs cs day a1 a2 hk]; rfl
    · rw [if_neg h0, if_pos (by simpa using h0)]
  · unfold impl_RefusalsOf.f impl_RefusalsOf.fn impl_RefusalsOf.top refR askO
    rw [impl_IsPermit_f p hk, impl_AreArticles_f xs hb (arts_z hx), impl_areCounts_f xs cs hc.1, impl_isDay_f]
    cases permB p
    · rfl
    cases h1 : artsB xs
    · rfl
    cases h2 : cntsB xs cs
    · rfl
    cases inB day 0 100000
    · rfl
    rw [impl_refusalsOf_f p xs cs day h1 h2 hk]; rfl
theorem RefusalsOf_core (p : Prm) (xs : List Art) (cs : List Int) (day : Int) (hp : OkPermit p) (hx : Lm OkArticle xs) (hc : Lm (Rg .i64) cs) (_ : Rg .i64 day) : ∃ w, spec_RefusalsOf.f p xs cs day = some w ∧ impl_RefusalsOf.f p xs cs day = some w ∧ True :=
  ⟨_, (RefusalsOf_both p xs cs day hp hx hc).1, (RefusalsOf_both p xs cs day hp hx hc).2, trivial⟩
end Go.Pl

namespace Go.Pl
open Go.Ev
set_option linter.unusedVariables false
noncomputable section
def impl_arePermits.g4 (L4 : (List (Int × Int × Int × Int × List Int × Int)) → Int → Int → Option Bool) (v8 : List (Int × Int × Int × Int × List Int × Int)) (v9 : Int) (v10 : Int) : Option Bool :=
  if (decide ((v10 : Int) < v9)) = true then
    if (0 : Int) ≤ v10 ∧ (v10 : Int) < v8.length then
      (impl_IsPermit.f (v8.getD (v10 : Int).toNat (0, (0, (0, (0, ([], 0))))))).bind fun r1 =>
      if (!r1) = true then
        some false
      else
        L4 v8 v9 (IntKind.i64.wrap (v10 + 1))
    else
      none
  else
    some true
def impl_arePermits.l4 (n : Nat) : Nat → (List (Int × Int × Int × Int × List Int × Int)) → Int → Int → Option Bool
  | 0 => fun _ _ _ => none
  | k + 1 => impl_arePermits.g4 (impl_arePermits.l4 n k)
def impl_arePermits.top (I4 : (List (Int × Int × Int × Int × List Int × Int)) → Int → Int → Option Bool) (permits0 : List (Int × Int × Int × Int × List Int × Int)) : Option Bool :=
  if (decide ((8 : Int) < (permits0.length : Int))) = true then
    some false
  else
    I4 permits0 (permits0.length : Int) 0
def impl_arePermits.fn (n : Nat) (permits0 : List (Int × Int × Int × Int × List Int × Int)) : Option Bool := impl_arePermits.top (impl_arePermits.l4 n n) permits0
def impl_arePermits.f (permits0 : List (Int × Int × Int × Int × List Int × Int)) : Option Bool := impl_arePermits.fn NN permits0
end
end Go.Pl

namespace Go.Pl
open Go.Ev
set_option linter.unusedVariables false
noncomputable section
def impl_FirstPermit.g6 (L6 : (List (ByteArray × Int × Int × Int × Int × Int × Int × Int × Int)) → List Int → Int → (List (Int × Int × Int × Int × List Int × Int)) → Int → Int → Option (Int × Int)) (list1 : List (ByteArray × Int × Int × Int × Int × Int × Int × Int × Int)) (counts2 : List Int) (day3 : Int) (v29 : List (Int × Int × Int × Int × List Int × Int)) (v30 : Int) (v31 : Int) : Option (Int × Int) :=
  if (decide ((v31 : Int) < v30)) = true then
    if (0 : Int) ≤ v31 ∧ (v31 : Int) < v29.length then
      (impl_refusalsOf.f (v29.getD (v31 : Int).toNat (0, (0, (0, (0, ([], 0)))))) list1 counts2 day3).bind fun r5 =>
      if ((r5 : Int) == 0) = true then
        some (v31, 0)
      else
        L6 list1 counts2 day3 v29 v30 (IntKind.i64.wrap (v31 + 1))
    else
      none
  else
    some (0, 4)
def impl_FirstPermit.l6 (n : Nat) : Nat → (List (ByteArray × Int × Int × Int × Int × Int × Int × Int × Int)) → List Int → Int → (List (Int × Int × Int × Int × List Int × Int)) → Int → Int → Option (Int × Int)
  | 0 => fun _ _ _ _ _ _ => none
  | k + 1 => impl_FirstPermit.g6 (impl_FirstPermit.l6 n k)
def impl_FirstPermit.top (I6 : (List (ByteArray × Int × Int × Int × Int × Int × Int × Int × Int)) → List Int → Int → (List (Int × Int × Int × Int × List Int × Int)) → Int → Int → Option (Int × Int)) (permits0 : List (Int × Int × Int × Int × List Int × Int)) (list1 : List (ByteArray × Int × Int × Int × Int × Int × Int × Int × Int)) (counts2 : List Int) (day3 : Int) : Option (Int × Int) :=
  (impl_arePermits.f permits0).bind fun r1 =>
  if (!r1) = false then
    (impl_AreArticles.f list1).bind fun r2 =>
    if (!r2) = true then
      some (0, 1)
    else
      (impl_areCounts.f list1 counts2).bind fun r3 =>
      if (!r3) = false then
        (impl_isDay.f day3).bind fun r4 =>
        if (!r4) = true then
          some (0, 2)
        else
          I6 list1 counts2 day3 permits0 (permits0.length : Int) 0
      else
        some (0, 2)
  else
    some (0, 1)
def impl_FirstPermit.fn (n : Nat) (permits0 : List (Int × Int × Int × Int × List Int × Int)) (list1 : List (ByteArray × Int × Int × Int × Int × Int × Int × Int × Int)) (counts2 : List Int) (day3 : Int) : Option (Int × Int) := impl_FirstPermit.top (impl_FirstPermit.l6 n n) permits0 list1 counts2 day3
def impl_FirstPermit.f (permits0 : List (Int × Int × Int × Int × List Int × Int)) (list1 : List (ByteArray × Int × Int × Int × Int × Int × Int × Int × Int)) (counts2 : List Int) (day3 : Int) : Option (Int × Int) := impl_FirstPermit.fn NN permits0 list1 counts2 day3
end
end Go.Pl

namespace Go.Pl
open Go.Ev
set_option linter.unusedVariables false
noncomputable section
def spec_l30First.g2 (L2 : (List (Int × Int × Int × Int × List Int × Int)) → (List (ByteArray × Int × Int × Int × Int × Int × Int × Int × Int)) → List Int → Int → Int → Option Int) (permits0 : List (Int × Int × Int × Int × List Int × Int)) (list1 : List (ByteArray × Int × Int × Int × Int × Int × Int × Int × Int)) (counts2 : List Int) (day3 : Int) (i9 : Int) : Option Int :=
  if (decide ((i9 : Int) < (permits0.length : Int))) = true then
    if (0 : Int) ≤ i9 ∧ (i9 : Int) < permits0.length then
      (spec_l30Refusals.f (permits0.getD (i9 : Int).toNat (0, (0, (0, (0, ([], 0)))))) list1 counts2 day3).bind fun r1 =>
      if ((r1 : Int) == 0) = true then
        some i9
      else
        L2 permits0 list1 counts2 day3 (IntKind.i64.wrap (i9 + 1))
    else
      none
  else
    some (-1)
def spec_l30First.l2 (n : Nat) : Nat → (List (Int × Int × Int × Int × List Int × Int)) → (List (ByteArray × Int × Int × Int × Int × Int × Int × Int × Int)) → List Int → Int → Int → Option Int
  | 0 => fun _ _ _ _ _ => none
  | k + 1 => spec_l30First.g2 (spec_l30First.l2 n k)
def spec_l30First.top (I2 : (List (Int × Int × Int × Int × List Int × Int)) → (List (ByteArray × Int × Int × Int × Int × Int × Int × Int × Int)) → List Int → Int → Int → Option Int) (permits0 : List (Int × Int × Int × Int × List Int × Int)) (list1 : List (ByteArray × Int × Int × Int × Int × Int × Int × Int × Int)) (counts2 : List Int) (day3 : Int) : Option Int :=
  I2 permits0 list1 counts2 day3 0
def spec_l30First.fn (n : Nat) (permits0 : List (Int × Int × Int × Int × List Int × Int)) (list1 : List (ByteArray × Int × Int × Int × Int × Int × Int × Int × Int)) (counts2 : List Int) (day3 : Int) : Option Int := spec_l30First.top (spec_l30First.l2 n n) permits0 list1 counts2 day3
def spec_l30First.f (permits0 : List (Int × Int × Int × Int × List Int × Int)) (list1 : List (ByteArray × Int × Int × Int × Int × Int × Int × Int × Int)) (counts2 : List Int) (day3 : Int) : Option Int := spec_l30First.fn NN permits0 list1 counts2 day3
end
end Go.Pl

namespace Go.Pl
open Go.Ev
set_option linter.unusedVariables false
noncomputable section
def spec_FirstPermit.top (permits0 : List (Int × Int × Int × Int × List Int × Int)) (list1 : List (ByteArray × Int × Int × Int × Int × Int × Int × Int × Int)) (counts2 : List Int) (day3 : Int) : Option (Int × Int) :=
  (spec_l30Code.f permits0 list1 counts2 day3).bind fun r1 =>
  if ((r1 : Int) != 0) = true then
    some (0, r1)
  else
    (spec_l30First.f permits0 list1 counts2 day3).bind fun r2 =>
    if (decide ((r2 : Int) < 0)) = true then
      some (0, 4)
    else
      some (r2, 0)
def spec_FirstPermit.fn (n : Nat) (permits0 : List (Int × Int × Int × Int × List Int × Int)) (list1 : List (ByteArray × Int × Int × Int × Int × Int × Int × Int × Int)) (counts2 : List Int) (day3 : Int) : Option (Int × Int) := spec_FirstPermit.top permits0 list1 counts2 day3
def spec_FirstPermit.f (permits0 : List (Int × Int × Int × Int × List Int × Int)) (list1 : List (ByteArray × Int × Int × Int × Int × Int × Int × Int × Int)) (counts2 : List Int) (day3 : Int) : Option (Int × Int) := spec_FirstPermit.fn NN permits0 list1 counts2 day3
end
end Go.Pl

namespace Go.Pl
open Go.Ev
set_option linter.unusedVariables false
noncomputable section
def impl_NextDay.g7 (L7 : (List (ByteArray × Int × Int × Int × Int × Int × Int × Int × Int)) → List Int → Int → Int → (List (Int × Int × Int × Int × List Int × Int)) → Int → Int → Option (Int × Int)) (list1 : List (ByteArray × Int × Int × Int × Int × Int × Int × Int × Int)) (counts2 : List Int) (day3 : Int) (best10 : Int) (v31 : List (Int × Int × Int × Int × List Int × Int)) (v32 : Int) (v33 : Int) : Option (Int × Int) :=
  if (decide ((v33 : Int) < v32)) = true then
    if (0 : Int) ≤ v33 ∧ (v33 : Int) < v31.length then
      (impl_refusalsOf.f (v31.getD (v33 : Int).toNat (0, (0, (0, (0, ([], 0)))))) list1 counts2 (if ((v31.getD (v33 : Int).toNat (0, (0, (0, (0, ([], 0)))))).1) > day3 then ((v31.getD (v33 : Int).toNat (0, (0, (0, (0, ([], 0)))))).1) else day3)).bind fun r5 =>
      if ((r5 : Int) == 0) = true then
        if (decide ((best10 : Int) < 0)) = false then
          if (decide (((if ((v31.getD (v33 : Int).toNat (0, (0, (0, (0, ([], 0)))))).1) > day3 then ((v31.getD (v33 : Int).toNat (0, (0, (0, (0, ([], 0)))))).1) else day3) : Int) < best10)) = true then
            L7 list1 counts2 day3 (if ((v31.getD (v33 : Int).toNat (0, (0, (0, (0, ([], 0)))))).1) > day3 then ((v31.getD (v33 : Int).toNat (0, (0, (0, (0, ([], 0)))))).1) else day3) v31 v32 (IntKind.i64.wrap (v33 + 1))
          else
            L7 list1 counts2 day3 best10 v31 v32 (IntKind.i64.wrap (v33 + 1))
        else
          L7 list1 counts2 day3 (if ((v31.getD (v33 : Int).toNat (0, (0, (0, (0, ([], 0)))))).1) > day3 then ((v31.getD (v33 : Int).toNat (0, (0, (0, (0, ([], 0)))))).1) else day3) v31 v32 (IntKind.i64.wrap (v33 + 1))
      else
        L7 list1 counts2 day3 best10 v31 v32 (IntKind.i64.wrap (v33 + 1))
    else
      none
  else if (decide ((best10 : Int) < 0)) = true then
    some (0, 4)
  else
    some (best10, 0)
def impl_NextDay.l7 (n : Nat) : Nat → (List (ByteArray × Int × Int × Int × Int × Int × Int × Int × Int)) → List Int → Int → Int → (List (Int × Int × Int × Int × List Int × Int)) → Int → Int → Option (Int × Int)
  | 0 => fun _ _ _ _ _ _ _ => none
  | k + 1 => impl_NextDay.g7 (impl_NextDay.l7 n k)
def impl_NextDay.top (I7 : (List (ByteArray × Int × Int × Int × Int × Int × Int × Int × Int)) → List Int → Int → Int → (List (Int × Int × Int × Int × List Int × Int)) → Int → Int → Option (Int × Int)) (permits0 : List (Int × Int × Int × Int × List Int × Int)) (list1 : List (ByteArray × Int × Int × Int × Int × Int × Int × Int × Int)) (counts2 : List Int) (day3 : Int) : Option (Int × Int) :=
  (impl_arePermits.f permits0).bind fun r1 =>
  if (!r1) = false then
    (impl_AreArticles.f list1).bind fun r2 =>
    if (!r2) = true then
      some (0, 1)
    else
      (impl_areCounts.f list1 counts2).bind fun r3 =>
      if (!r3) = false then
        (impl_isDay.f day3).bind fun r4 =>
        if (!r4) = true then
          some (0, 2)
        else
          I7 list1 counts2 day3 (-1) permits0 (permits0.length : Int) 0
      else
        some (0, 2)
  else
    some (0, 1)
def impl_NextDay.fn (n : Nat) (permits0 : List (Int × Int × Int × Int × List Int × Int)) (list1 : List (ByteArray × Int × Int × Int × Int × Int × Int × Int × Int)) (counts2 : List Int) (day3 : Int) : Option (Int × Int) := impl_NextDay.top (impl_NextDay.l7 n n) permits0 list1 counts2 day3
def impl_NextDay.f (permits0 : List (Int × Int × Int × Int × List Int × Int)) (list1 : List (ByteArray × Int × Int × Int × Int × Int × Int × Int × Int)) (counts2 : List Int) (day3 : Int) : Option (Int × Int) := impl_NextDay.fn NN permits0 list1 counts2 day3
end
end Go.Pl

namespace Go.Pl
open Go.Ev
set_option linter.unusedVariables false
noncomputable section
def spec_NextDay.g6 (L6 : (List (Int × Int × Int × Int × List Int × Int)) → (List (ByteArray × Int × Int × Int × Int × Int × Int × Int × Int)) → List Int → Int → Int → Int → Option (Int × Int)) (permits0 : List (Int × Int × Int × Int × List Int × Int)) (list1 : List (ByteArray × Int × Int × Int × Int × Int × Int × Int × Int)) (counts2 : List Int) (day3 : Int) (best11 : Int) (i12 : Int) : Option (Int × Int) :=
  if (decide ((i12 : Int) < (permits0.length : Int))) = true then
    if (0 : Int) ≤ i12 ∧ (i12 : Int) < permits0.length then
      if (0 : Int) ≤ i12 ∧ (i12 : Int) < permits0.length then
        (spec_l30Refusals.f (permits0.getD (i12 : Int).toNat (0, (0, (0, (0, ([], 0)))))) list1 counts2 (if ((permits0.getD (i12 : Int).toNat (0, (0, (0, (0, ([], 0)))))).1) > day3 then ((permits0.getD (i12 : Int).toNat (0, (0, (0, (0, ([], 0)))))).1) else day3)).bind fun r2 =>
        if ((r2 : Int) == 0) = true then
          if (decide ((best11 : Int) < 0)) = false then
            if (decide (((if ((permits0.getD (i12 : Int).toNat (0, (0, (0, (0, ([], 0)))))).1) > day3 then ((permits0.getD (i12 : Int).toNat (0, (0, (0, (0, ([], 0)))))).1) else day3) : Int) < best11)) = true then
              L6 permits0 list1 counts2 day3 (if ((permits0.getD (i12 : Int).toNat (0, (0, (0, (0, ([], 0)))))).1) > day3 then ((permits0.getD (i12 : Int).toNat (0, (0, (0, (0, ([], 0)))))).1) else day3) (IntKind.i64.wrap (i12 + 1))
            else
              L6 permits0 list1 counts2 day3 best11 (IntKind.i64.wrap (i12 + 1))
          else
            L6 permits0 list1 counts2 day3 (if ((permits0.getD (i12 : Int).toNat (0, (0, (0, (0, ([], 0)))))).1) > day3 then ((permits0.getD (i12 : Int).toNat (0, (0, (0, (0, ([], 0)))))).1) else day3) (IntKind.i64.wrap (i12 + 1))
        else
          L6 permits0 list1 counts2 day3 best11 (IntKind.i64.wrap (i12 + 1))
      else
        none
    else
      none
  else if (decide ((best11 : Int) < 0)) = true then
    some (0, 4)
  else
    some (best11, 0)
def spec_NextDay.l6 (n : Nat) : Nat → (List (Int × Int × Int × Int × List Int × Int)) → (List (ByteArray × Int × Int × Int × Int × Int × Int × Int × Int)) → List Int → Int → Int → Int → Option (Int × Int)
  | 0 => fun _ _ _ _ _ _ => none
  | k + 1 => spec_NextDay.g6 (spec_NextDay.l6 n k)
def spec_NextDay.top (I6 : (List (Int × Int × Int × Int × List Int × Int)) → (List (ByteArray × Int × Int × Int × Int × Int × Int × Int × Int)) → List Int → Int → Int → Int → Option (Int × Int)) (permits0 : List (Int × Int × Int × Int × List Int × Int)) (list1 : List (ByteArray × Int × Int × Int × Int × Int × Int × Int × Int)) (counts2 : List Int) (day3 : Int) : Option (Int × Int) :=
  (spec_l30Code.f permits0 list1 counts2 day3).bind fun r1 =>
  if ((r1 : Int) != 0) = true then
    some (0, r1)
  else
    I6 permits0 list1 counts2 day3 (-1) 0
def spec_NextDay.fn (n : Nat) (permits0 : List (Int × Int × Int × Int × List Int × Int)) (list1 : List (ByteArray × Int × Int × Int × Int × Int × Int × Int × Int)) (counts2 : List Int) (day3 : Int) : Option (Int × Int) := spec_NextDay.top (spec_NextDay.l6 n n) permits0 list1 counts2 day3
def spec_NextDay.f (permits0 : List (Int × Int × Int × Int × List Int × Int)) (list1 : List (ByteArray × Int × Int × Int × Int × Int × Int × Int × Int)) (counts2 : List Int) (day3 : Int) : Option (Int × Int) := spec_NextDay.fn NN permits0 list1 counts2 day3
end
end Go.Pl

namespace Go.Pl
open Go.Ev
set_option linter.unusedVariables false
noncomputable section
def impl_covers.g4 (L1 : (List (Int × Int × Int × Int × List Int × Int)) → Int → Int → Option Bool) (L4 : (List (Int × Int × Int × Int × List Int × Int)) → Int → Int → Int → (List (Int × Int × Int × Int × List Int × Int)) → Int → Int → Option Bool) (permits0 : List (Int × Int × Int × Int × List Int × Int)) (from1 : Int) (to2 : Int) (next7 : Int) (v14 : List (Int × Int × Int × Int × List Int × Int)) (v15 : Int) (v16 : Int) : Option Bool :=
  if (decide ((v16 : Int) < v15)) = true then
    if (0 : Int) ≤ v16 ∧ (v16 : Int) < v14.length then
      (impl_within.f from1 ((v14.getD (v16 : Int).toNat (0, (0, (0, (0, ([], 0)))))).1) (((v14.getD (v16 : Int).toNat (0, (0, (0, (0, ([], 0)))))).2).1)).bind fun r1 =>
      if r1 = true then
        L4 permits0 from1 to2 (if (IntKind.i64.wrap ((((v14.getD (v16 : Int).toNat (0, (0, (0, (0, ([], 0)))))).2).1) + 1)) > next7 then (IntKind.i64.wrap ((((v14.getD (v16 : Int).toNat (0, (0, (0, (0, ([], 0)))))).2).1) + 1)) else next7) v14 v15 (IntKind.i64.wrap (v16 + 1))
      else
        L4 permits0 from1 to2 next7 v14 v15 (IntKind.i64.wrap (v16 + 1))
    else
      none
  else if ((next7 : Int) == from1) = true then
    some false
  else
    L1 permits0 next7 to2
def impl_covers.l4 (n : Nat) (L1 : (List (Int × Int × Int × Int × List Int × Int)) → Int → Int → Option Bool) : Nat → (List (Int × Int × Int × Int × List Int × Int)) → Int → Int → Int → (List (Int × Int × Int × Int × List Int × Int)) → Int → Int → Option Bool
  | 0 => fun _ _ _ _ _ _ _ => none
  | k + 1 => impl_covers.g4 L1 (impl_covers.l4 n L1 k)
def impl_covers.g1 (I4 : (List (Int × Int × Int × Int × List Int × Int)) → Int → Int → Int → (List (Int × Int × Int × Int × List Int × Int)) → Int → Int → Option Bool) (L1 : (List (Int × Int × Int × Int × List Int × Int)) → Int → Int → Option Bool) (permits0 : List (Int × Int × Int × Int × List Int × Int)) (from1 : Int) (to2 : Int) : Option Bool :=
  if (decide ((from1 : Int) ≤ to2)) = true then
    I4 permits0 from1 to2 from1 permits0 (permits0.length : Int) 0
  else
    some true
def impl_covers.l1 (n : Nat) : Nat → (List (Int × Int × Int × Int × List Int × Int)) → Int → Int → Option Bool
  | 0 => fun _ _ _ => none
  | k + 1 => impl_covers.g1 (impl_covers.l4 n (impl_covers.l1 n k) n) (impl_covers.l1 n k)
def impl_covers.top (I1 : (List (Int × Int × Int × Int × List Int × Int)) → Int → Int → Option Bool) (permits0 : List (Int × Int × Int × Int × List Int × Int)) (from1 : Int) (to2 : Int) : Option Bool :=
  I1 permits0 from1 to2
def impl_covers.fn (n : Nat) (permits0 : List (Int × Int × Int × Int × List Int × Int)) (from1 : Int) (to2 : Int) : Option Bool := impl_covers.top (impl_covers.l1 n n) permits0 from1 to2
def impl_covers.f (permits0 : List (Int × Int × Int × Int × List Int × Int)) (from1 : Int) (to2 : Int) : Option Bool := impl_covers.fn NN permits0 from1 to2
end
end Go.Pl

namespace Go.Pl
open Go.Ev
set_option linter.unusedVariables false
noncomputable section
def impl_areDays.top (from0 : Int) (to1 : Int) : Option Bool :=
  (impl_isDay.f from0).bind fun r1 =>
  if r1 = true then
    (impl_isDay.f to1).bind fun r2 =>
    if r2 = true then
      some (decide ((from0 : Int) ≤ to1))
    else
      some false
  else
    some false
def impl_areDays.fn (n : Nat) (from0 : Int) (to1 : Int) : Option Bool := impl_areDays.top from0 to1
def impl_areDays.f (from0 : Int) (to1 : Int) : Option Bool := impl_areDays.fn NN from0 to1
end
end Go.Pl

namespace Go.Pl
open Go.Ev
set_option linter.unusedVariables false
noncomputable section
def impl_DaysCovered.g7 (L7 : (List (Int × Int × Int × Int × List Int × Int)) → Int → Int → Int → Option (Int × Int)) (permits0 : List (Int × Int × Int × Int × List Int × Int)) (to2 : Int) (count8 : Int) (day9 : Int) : Option (Int × Int) :=
  if (decide ((day9 : Int) ≤ to2)) = true then
    (impl_covers.f permits0 day9 day9).bind fun r3 =>
    if r3 = true then
      L7 permits0 to2 (IntKind.i64.wrap (count8 + 1)) (IntKind.i64.wrap (day9 + 1))
    else
      L7 permits0 to2 count8 (IntKind.i64.wrap (day9 + 1))
  else
    some (count8, 0)
def impl_DaysCovered.l7 (n : Nat) : Nat → (List (Int × Int × Int × Int × List Int × Int)) → Int → Int → Int → Option (Int × Int)
  | 0 => fun _ _ _ _ => none
  | k + 1 => impl_DaysCovered.g7 (impl_DaysCovered.l7 n k)
def impl_DaysCovered.top (I7 : (List (Int × Int × Int × Int × List Int × Int)) → Int → Int → Int → Option (Int × Int)) (permits0 : List (Int × Int × Int × Int × List Int × Int)) (from1 : Int) (to2 : Int) : Option (Int × Int) :=
  (impl_arePermits.f permits0).bind fun r1 =>
  if (!r1) = true then
    some (0, 1)
  else
    (impl_areDays.f from1 to2).bind fun r2 =>
    if (!r2) = true then
      some (0, 2)
    else
      I7 permits0 to2 0 from1
def impl_DaysCovered.fn (n : Nat) (permits0 : List (Int × Int × Int × Int × List Int × Int)) (from1 : Int) (to2 : Int) : Option (Int × Int) := impl_DaysCovered.top (impl_DaysCovered.l7 n n) permits0 from1 to2
def impl_DaysCovered.f (permits0 : List (Int × Int × Int × Int × List Int × Int)) (from1 : Int) (to2 : Int) : Option (Int × Int) := impl_DaysCovered.fn NN permits0 from1 to2
end
end Go.Pl

namespace Go.Pl
open Go.Ev
set_option linter.unusedVariables false
noncomputable section
def spec_l30Days.top (permits0 : List (Int × Int × Int × Int × List Int × Int)) (from1 : Int) (to2 : Int) : Option Int :=
  (spec_l30All.f permits0).bind fun r1 =>
  if (!r1) = true then
    some 1
  else
    (spec_l01In.f from1 0 100000).bind fun r2 =>
    if (!r2) = false then
      (spec_l01In.f to2 from1 100000).bind fun r3 =>
      if (!r3) = true then
        some 2
      else
        some 0
    else
      some 2
def spec_l30Days.fn (n : Nat) (permits0 : List (Int × Int × Int × Int × List Int × Int)) (from1 : Int) (to2 : Int) : Option Int := spec_l30Days.top permits0 from1 to2
def spec_l30Days.f (permits0 : List (Int × Int × Int × Int × List Int × Int)) (from1 : Int) (to2 : Int) : Option Int := spec_l30Days.fn NN permits0 from1 to2
end
end Go.Pl

namespace Go.Pl
open Go.Ev
set_option linter.unusedVariables false
noncomputable section
def spec_l30Holds.g2 (L2 : (List (Int × Int × Int × Int × List Int × Int)) → List Int → Int → Int → Option Bool) (permits0 : List (Int × Int × Int × Int × List Int × Int)) (some1 : List Int) (day2 : Int) (i7 : Int) : Option Bool :=
  if (decide ((i7 : Int) < (some1.length : Int))) = true then
    if (0 : Int) ≤ i7 ∧ (i7 : Int) < some1.length then
      if (0 : Int) ≤ (some1.getD (i7 : Int).toNat 0) ∧ ((some1.getD (i7 : Int).toNat 0) : Int) < permits0.length then
        if (0 : Int) ≤ i7 ∧ (i7 : Int) < some1.length then
          if (0 : Int) ≤ (some1.getD (i7 : Int).toNat 0) ∧ ((some1.getD (i7 : Int).toNat 0) : Int) < permits0.length then
            (spec_l01In.f day2 ((permits0.getD ((some1.getD (i7 : Int).toNat 0) : Int).toNat (0, (0, (0, (0, ([], 0)))))).1) (((permits0.getD ((some1.getD (i7 : Int).toNat 0) : Int).toNat (0, (0, (0, (0, ([], 0)))))).2).1)).bind fun r1 =>
            if r1 = true then
              some true
            else
              L2 permits0 some1 day2 (IntKind.i64.wrap (i7 + 1))
          else
            none
        else
          none
      else
        none
    else
      none
  else
    some false
def spec_l30Holds.l2 (n : Nat) : Nat → (List (Int × Int × Int × Int × List Int × Int)) → List Int → Int → Int → Option Bool
  | 0 => fun _ _ _ _ => none
  | k + 1 => spec_l30Holds.g2 (spec_l30Holds.l2 n k)
def spec_l30Holds.top (I2 : (List (Int × Int × Int × Int × List Int × Int)) → List Int → Int → Int → Option Bool) (permits0 : List (Int × Int × Int × Int × List Int × Int)) (some1 : List Int) (day2 : Int) : Option Bool :=
  I2 permits0 some1 day2 0
def spec_l30Holds.fn (n : Nat) (permits0 : List (Int × Int × Int × Int × List Int × Int)) (some1 : List Int) (day2 : Int) : Option Bool := spec_l30Holds.top (spec_l30Holds.l2 n n) permits0 some1 day2
def spec_l30Holds.f (permits0 : List (Int × Int × Int × Int × List Int × Int)) (some1 : List Int) (day2 : Int) : Option Bool := spec_l30Holds.fn NN permits0 some1 day2
end
end Go.Pl

namespace Go.Pl
open Go.Ev
set_option linter.unusedVariables false
noncomputable section
def spec_l30Every.g3 (L3 : Int → Int → List Int → Option (List Int)) (v7 : Int) (v8 : Int) (out3 : List Int) : Option (List Int) :=
  if (decide ((v8 : Int) < v7)) = true then
    if out3.length + ([v8]).length < room 8 then
      L3 v7 (IntKind.i64.wrap (v8 + 1)) (out3 ++ ([v8]))
    else
      none
  else
    some out3
def spec_l30Every.l3 (n : Nat) : Nat → Int → Int → List Int → Option (List Int)
  | 0 => fun _ _ _ => none
  | k + 1 => spec_l30Every.g3 (spec_l30Every.l3 n k)
def spec_l30Every.top (I3 : Int → Int → List Int → Option (List Int)) (permits0 : List (Int × Int × Int × Int × List Int × Int)) : Option (List Int) :=
  I3 (permits0.length : Int) 0 []
def spec_l30Every.fn (n : Nat) (permits0 : List (Int × Int × Int × Int × List Int × Int)) : Option (List Int) := spec_l30Every.top (spec_l30Every.l3 n n) permits0
def spec_l30Every.f (permits0 : List (Int × Int × Int × Int × List Int × Int)) : Option (List Int) := spec_l30Every.fn NN permits0
end
end Go.Pl

namespace Go.Pl
open Go.Ev
set_option linter.unusedVariables false
noncomputable section
def spec_DaysCovered.g7 (L7 : (List (Int × Int × Int × Int × List Int × Int)) → Int → Int → Int → List Int → Option (Int × Int)) (permits0 : List (Int × Int × Int × Int × List Int × Int)) (to2 : Int) (n9 : Int) (day11 : Int) (all10 : List Int) : Option (Int × Int) :=
  if (decide ((day11 : Int) ≤ to2)) = true then
    (spec_l30Holds.f permits0 all10 day11).bind fun r3 =>
    if r3 = true then
      L7 permits0 to2 (IntKind.i64.wrap (n9 + 1)) (IntKind.i64.wrap (day11 + 1)) all10
    else
      L7 permits0 to2 n9 (IntKind.i64.wrap (day11 + 1)) all10
  else
    some (n9, 0)
def spec_DaysCovered.l7 (n : Nat) : Nat → (List (Int × Int × Int × Int × List Int × Int)) → Int → Int → Int → List Int → Option (Int × Int)
  | 0 => fun _ _ _ _ _ => none
  | k + 1 => spec_DaysCovered.g7 (spec_DaysCovered.l7 n k)
def spec_DaysCovered.top (I7 : (List (Int × Int × Int × Int × List Int × Int)) → Int → Int → Int → List Int → Option (Int × Int)) (permits0 : List (Int × Int × Int × Int × List Int × Int)) (from1 : Int) (to2 : Int) : Option (Int × Int) :=
  (spec_l30Days.f permits0 from1 to2).bind fun r1 =>
  if ((r1 : Int) != 0) = true then
    some (0, r1)
  else
    (spec_l30Every.f permits0).bind fun r2 =>
    I7 permits0 to2 0 from1 r2
def spec_DaysCovered.fn (n : Nat) (permits0 : List (Int × Int × Int × Int × List Int × Int)) (from1 : Int) (to2 : Int) : Option (Int × Int) := spec_DaysCovered.top (spec_DaysCovered.l7 n n) permits0 from1 to2
def spec_DaysCovered.f (permits0 : List (Int × Int × Int × Int × List Int × Int)) (from1 : Int) (to2 : Int) : Option (Int × Int) := spec_DaysCovered.fn NN permits0 from1 to2
end
end Go.Pl

namespace Go.Pl
open Go.Ev
set_option linter.unusedVariables false
set_option linter.unusedSimpArgs false
theorem impl_arePermits_f (ps : List Prm) (h : ps.length ≤ 1000000) (hk : ∀ p ∈ ps, p.2.2.2.2.1.length ≤ 140737488355328) : impl_arePermits.f ps = some (permsL ps) := by
  unfold impl_arePermits.f impl_arePermits.fn impl_arePermits.top permsL
  by_cases h8 : (8 : Int) < (ps.length : Int)
  · have : ¬ ps.length ≤ 8 := by omega
    simp [h8, this]
  have e8 : ps.length ≤ 8 := by omega
  simp only [h8, e8, and_self, and_true, true_and, decide_true, decide_false, if_true, if_false, mid_get, mid_set, mid_getn, mid_setn, bt_mid, Option.bind_some, Bool.not_true, Bool.not_false, Bool.false_eq_true, Bool.true_eq_false, beq_self_eq_true, bne_self_eq_false, Int.toNat_natCast]
  have := all_loop (E := fun p : Prm => p.2.2.2.2.1.length ≤ 140737488355328) permB (fun _ => some true) (fun k xs i => impl_arePermits.l4 NN k xs xs.length i) ?_ ?_ ps hk (by omega) NN (NN_lt (by omega))
  · refine this.trans ?_
    cases ps.all permB <;> simp
  · intro k p
    simp [impl_arePermits.l4, impl_arePermits.g4]
  · intro k p a r ha c0 c1 cw
    simp only [impl_arePermits.l4, impl_arePermits.g4, c0, c1, cw, and_self, and_true, true_and, decide_true, decide_false, if_true, if_false, mid_get, mid_set, mid_getn, mid_setn, bt_mid, Option.bind_some, Bool.not_true, Bool.not_false, Bool.false_eq_true, Bool.true_eq_false, beq_self_eq_true, bne_self_eq_false, Int.toNat_natCast, impl_IsPermit_f a ha]
    cases permB a <;> simp
theorem permB_iff {p : Prm} (h : permB p = true) : (0 ≤ p.1 ∧ p.1 ≤ 100000) ∧ (p.1 ≤ p.2.1 ∧ p.2.1 ≤ 100000) := by
  unfold permB at h
  simp only [Bool.and_eq_true, inB_iff] at h
  omega
def fstP (ps : List Prm) (xs : List Art) (cs : List Int) (day : Int) : Option (Nat × Prm) := firstOf (fun p : Prm => decide (refV p xs cs day = 0)) 0 ps
def frsR (ps : List Prm) (xs : List Art) (cs : List Int) (day : Int) : Int × Int := if askO (permsL ps) xs cs day = 0 then (fstP ps xs cs day).elim (0, 4) (fun x => ((x.1 : Int), 0)) else (0, askO (permsL ps) xs cs day)
theorem perms_k {ps : List Prm} (hp : Lm OkPermit ps) : ∀ p ∈ ps, p.2.2.2.2.1.length ≤ 140737488355328 := fun p h => Nat.le_trans (hp.2 p h).2.2.2.2.1.1 (by omega)
theorem FirstPermit_both (ps : List Prm) (xs : List Art) (cs : List Int) (day : Int) (hp : Lm OkPermit ps) (hx : Lm OkArticle xs) (hc : Lm (Rg .i64) cs) : spec_FirstPermit.f ps xs cs day = some (frsR ps xs cs day) ∧ impl_FirstPermit.f ps xs cs day = some (frsR ps xs cs day) := by
  have hk := perms_k hp
  have hpl := hp.1
  have hb : xs.length ≤ 140737488355328 := Nat.le_trans hx.1 (by omega)
  refine ⟨?_, ?_⟩
  · unfold spec_FirstPermit.f spec_FirstPermit.fn spec_FirstPermit.top frsR
    rw [spec_l30Code_f ps xs cs day hpl hk hb (arts_z hx) hc.1]
    simp only [Option.bind_some]
    by_cases h0 : askO (permsL ps) xs cs day = 0
    · obtain ⟨_, a1, a2, _⟩ := askO_zero h0
      rw [if_pos h0, if_neg (by rw [h0]; decide)]
      have := find_loop (E := fun p : Prm => p.2.2.2.2.1.length ≤ 140737488355328) (fun p : Prm => decide (refV p xs cs day = 0)) (fun i _ => some (i : Int)) (fun _ => some (-1)) (fun k ys i => spec_l30First.l2 NN k ys xs cs day i) ?_ ?_ ps hk (by omega) NN (NN_lt (by omega))
      · unfold spec_l30First.f spec_l30First.fn spec_l30First.top
        rw [this]
        unfold fstP
        cases firstOf (fun p : Prm => decide (refV p xs cs day = 0)) 0 ps with
        | none => rfl
        | some y =>
          have : ¬ (y.1 : Int) < 0 := by omega
          simp [this]
      · intro k q
        simp [spec_l30First.l2, spec_l30First.g2]
      · intro k q p r he c0 c1 c2 cw
        simp only [spec_l30First.l2, spec_l30First.g2, c0, c1, cw, and_self, and_true, true_and, decide_true, decide_false, if_true, if_false, mid_get, mid_set, mid_getn, mid_setn, bt_mid, Option.bind_some, Bool.not_true, Bool.not_false, Bool.false_eq_true, Bool.true_eq_false, beq_self_eq_true, bne_self_eq_false, Int.toNat_natCast, spec_l30Refusals_f p xs cs day a1 a2 he]
        by_cases h : refV p xs cs day = 0 <;> simp [h]
    · rw [if_neg h0, if_pos (by simpa using h0)]
  · unfold impl_FirstPermit.f impl_FirstPermit.fn impl_FirstPermit.top frsR
    rw [impl_arePermits_f ps hpl hk, impl_AreArticles_f xs hb (arts_z hx), impl_areCounts_f xs cs hc.1, impl_isDay_f]
    have ea : ∀ v : Int × Int, (if askO (permsL ps) xs cs day = 0 then v else (0, askO (permsL ps) xs cs day)) = if permsL ps = true then (if artsB xs = true then (if cntsB xs cs = true then (if inB day 0 100000 = true then v else (0, 2)) else (0, 2)) else (0, 1)) else (0, 1) := fun v => by
      unfold askO
      cases permsL ps
      · rfl
      cases artsB xs
      · rfl
      cases cntsB xs cs
      · rfl
      cases inB day 0 100000 <;> rfl
    rw [ea]
    cases permsL ps
    · rfl
    cases h1 : artsB xs
    · rfl
    cases h2 : cntsB xs cs
    · rfl
    cases inB day 0 100000
    · rfl
    have := find_loop (E := fun p : Prm => p.2.2.2.2.1.length ≤ 140737488355328) (fun p : Prm => decide (refV p xs cs day = 0)) (fun i _ => some ((i : Int), (0 : Int))) (fun _ => some (0, 4)) (fun k ys i => impl_FirstPermit.l6 NN k xs cs day ys ys.length i) ?_ ?_ ps hk (by omega) NN (NN_lt (by omega))
    · simp only [Option.bind_some, Bool.not_true, Bool.false_eq_true, if_false, if_true]
      refine this.trans ?_
      unfold fstP
      cases firstOf (fun p : Prm => decide (refV p xs cs day = 0)) 0 ps <;> rfl
    · intro k q
      simp [impl_FirstPermit.l6, impl_FirstPermit.g6]
    · intro k q p r he c0 c1 c2 cw
      simp only [impl_FirstPermit.l6, impl_FirstPermit.g6, c0, c1, cw, and_self, and_true, true_and, decide_true, decide_false, if_true, if_false, mid_get, mid_set, mid_getn, mid_setn, bt_mid, Option.bind_some, Bool.not_true, Bool.not_false, Bool.false_eq_true, Bool.true_eq_false, beq_self_eq_true, bne_self_eq_false, Int.toNat_natCast, impl_refusalsOf_f p xs cs day h1 h2 he]
      by_cases h : refV p xs cs day = 0 <;> simp [h]
theorem FirstPermit_core (ps : List Prm) (xs : List Art) (cs : List Int) (day : Int) (hp : Lm OkPermit ps) (hx : Lm OkArticle xs) (hc : Lm (Rg .i64) cs) (_ : Rg .i64 day) : ∃ w, spec_FirstPermit.f ps xs cs day = some w ∧ impl_FirstPermit.f ps xs cs day = some w ∧ True :=
  ⟨_, (FirstPermit_both ps xs cs day hp hx hc).1, (FirstPermit_both ps xs cs day hp hx hc).2, trivial⟩
def maxD (a b : Int) : Int := if a > b then a else b
def nxtF (xs : List Art) (cs : List Int) (day : Int) (best : Int) (p : Prm) : Int :=
  if refV p xs cs (maxD p.1 day) = 0 then (if best < 0 then maxD p.1 day else if maxD p.1 day < best then maxD p.1 day else best) else best
def nxtL (ps : List Prm) (xs : List Art) (cs : List Int) (day : Int) : Int := ps.foldl (nxtF xs cs day) (-1)
def nxtR (ps : List Prm) (xs : List Art) (cs : List Int) (day : Int) : Int × Int := if askO (permsL ps) xs cs day = 0 then (if nxtL ps xs cs day < 0 then (0, 4) else (nxtL ps xs cs day, 0)) else (0, askO (permsL ps) xs cs day)
theorem ask_iff (b : Bool) (xs : List Art) (cs : List Int) (day : Int) (v : Int × Int) : (if askO b xs cs day = 0 then v else (0, askO b xs cs day)) = if b = true then (if artsB xs = true then (if cntsB xs cs = true then (if inB day 0 100000 = true then v else (0, 2)) else (0, 2)) else (0, 1)) else (0, 1) := by
  unfold askO
  cases b
  · rfl
  cases artsB xs
  · rfl
  cases cntsB xs cs
  · rfl
  cases inB day 0 100000 <;> rfl
theorem NextDay_both (ps : List Prm) (xs : List Art) (cs : List Int) (day : Int) (hp : Lm OkPermit ps) (hx : Lm OkArticle xs) (hc : Lm (Rg .i64) cs) : spec_NextDay.f ps xs cs day = some (nxtR ps xs cs day) ∧ impl_NextDay.f ps xs cs day = some (nxtR ps xs cs day) := by
  have hk := perms_k hp
  have hpl := hp.1
  have hb : xs.length ≤ 140737488355328 := Nat.le_trans hx.1 (by omega)
  have fin : ∀ st : Int, (if (decide ((st : Int) < 0)) = true then some ((0 : Int), (4 : Int)) else some (st, 0)) = some (if st < 0 then (0, 4) else (st, 0)) := fun st => by
    by_cases h : st < 0 <;> simp [h]
  refine ⟨?_, ?_⟩
  · unfold spec_NextDay.f spec_NextDay.fn spec_NextDay.top nxtR
    rw [spec_l30Code_f ps xs cs day hpl hk hb (arts_z hx) hc.1]
    simp only [Option.bind_some]
    by_cases h0 : askO (permsL ps) xs cs day = 0
    · obtain ⟨_, a1, a2, _⟩ := askO_zero h0
      rw [if_pos h0, if_neg (by rw [h0]; decide)]
      have := (fold_fix (E := fun p : Prm => p.2.2.2.2.1.length ≤ 140737488355328) (fun _ _ => True) (fun _ => nxtF xs cs day) (fun st => some (if st < 0 then ((0 : Int), (4 : Int)) else (st, 0))) (fun k i st => spec_NextDay.l6 NN k ps xs cs day st i) ps ?_ ?_ (-1) hk trivial (by omega) NN (NN_lt (by omega))).2
      · rw [foldi_foldl] at this
        exact this
      · intro k st _
        simp only [spec_NextDay.l6, spec_NextDay.g6, Int.lt_irrefl, and_self, and_true, true_and, decide_true, decide_false, if_true, if_false, mid_get, mid_set, mid_getn, mid_setn, bt_mid, Option.bind_some, Bool.not_true, Bool.not_false, Bool.false_eq_true, Bool.true_eq_false, beq_self_eq_true, bne_self_eq_false, Int.toNat_natCast]
        exact fin st
      · intro k q p r st hxx he _ c0 c1 c2 cw g
        refine ⟨trivial, ?_⟩
        simp only [spec_NextDay.l6, spec_NextDay.g6, c0, c1, cw, and_self, and_true, true_and, decide_true, decide_false, if_true, if_false, mid_get, mid_set, mid_getn, mid_setn, bt_mid, Option.bind_some, Bool.not_true, Bool.not_false, Bool.false_eq_true, Bool.true_eq_false, beq_self_eq_true, bne_self_eq_false, Int.toNat_natCast, g]
        rw [spec_l30Refusals_f p xs cs _ a1 a2 he]
        rw [show (if p.1 > day then p.1 else day) = maxD p.1 day from rfl]
        unfold nxtF
        simp only [Option.bind_some]
        by_cases h : refV p xs cs (maxD p.1 day) = 0
        · by_cases h2 : st < 0
          · simp [h, h2]
          · by_cases h3 : maxD p.1 day < st
            · simp [h, h2, h3]
            · simp [h, h2, h3]
        · simp [h]
    · rw [if_neg h0, if_pos (by simpa using h0)]
  · unfold impl_NextDay.f impl_NextDay.fn impl_NextDay.top nxtR
    rw [impl_arePermits_f ps hpl hk, impl_AreArticles_f xs hb (arts_z hx), impl_areCounts_f xs cs hc.1, impl_isDay_f, ask_iff]
    cases permsL ps
    · rfl
    cases h1 : artsB xs
    · rfl
    cases h2 : cntsB xs cs
    · rfl
    cases inB day 0 100000
    · rfl
    have := (fold_fix (E := fun p : Prm => p.2.2.2.2.1.length ≤ 140737488355328) (fun _ _ => True) (fun _ => nxtF xs cs day) (fun st => some (if st < 0 then ((0 : Int), (4 : Int)) else (st, 0))) (fun k i st => impl_NextDay.l7 NN k xs cs day st ps ps.length i) ps ?_ ?_ (-1) hk trivial (by omega) NN (NN_lt (by omega))).2
    · rw [foldi_foldl] at this
      simp only [Option.bind_some, Bool.not_true, Bool.false_eq_true, if_false, if_true]
      exact this
    · intro k st _
      simp only [impl_NextDay.l7, impl_NextDay.g7, Int.lt_irrefl, and_self, and_true, true_and, decide_true, decide_false, if_true, if_false, mid_get, mid_set, mid_getn, mid_setn, bt_mid, Option.bind_some, Bool.not_true, Bool.not_false, Bool.false_eq_true, Bool.true_eq_false, beq_self_eq_true, bne_self_eq_false, Int.toNat_natCast]
      exact fin st
    · intro k q p r st hxx he _ c0 c1 c2 cw g
      refine ⟨trivial, ?_⟩
      simp only [impl_NextDay.l7, impl_NextDay.g7, c0, c1, cw, and_self, and_true, true_and, decide_true, decide_false, if_true, if_false, mid_get, mid_set, mid_getn, mid_setn, bt_mid, Option.bind_some, Bool.not_true, Bool.not_false, Bool.false_eq_true, Bool.true_eq_false, beq_self_eq_true, bne_self_eq_false, Int.toNat_natCast, g]
      rw [impl_refusalsOf_f p xs cs _ h1 h2 he]
      rw [show (if p.1 > day then p.1 else day) = maxD p.1 day from rfl]
      unfold nxtF
      simp only [Option.bind_some]
      by_cases h : refV p xs cs (maxD p.1 day) = 0
      · by_cases h2 : st < 0
        · simp [h, h2]
        · by_cases h3 : maxD p.1 day < st
          · simp [h, h2, h3]
          · simp [h, h2, h3]
      · simp [h]
theorem NextDay_core (ps : List Prm) (xs : List Art) (cs : List Int) (day : Int) (hp : Lm OkPermit ps) (hx : Lm OkArticle xs) (hc : Lm (Rg .i64) cs) (_ : Rg .i64 day) : ∃ w, spec_NextDay.f ps xs cs day = some w ∧ impl_NextDay.f ps xs cs day = some w ∧ True :=
  ⟨_, (NextDay_both ps xs cs day hp hx hc).1, (NextDay_both ps xs cs day hp hx hc).2, trivial⟩
end Go.Pl

namespace Go.Pl
open Go.Ev
set_option linter.unusedVariables false
set_option linter.unusedSimpArgs false
def insK (n : Int) : List Int → List Int
  | [] => [n]
  | a :: r => if a < n then a :: insK n r else if a = n then a :: r else n :: a :: r
def hitK (n : Int) (xs : List Int) (i : Nat) (a : Int) : List Int := if a = n then xs else xs.take i ++ n :: xs.drop i
theorem insK_first (n : Int) : ∀ (r p : List Int), p ++ insK n r = (firstOf (fun a => !decide (a < n)) p.length r).elim (p ++ r ++ [n]) (fun x => hitK n (p ++ r) x.1 x.2) := by
  intro r
  induction r with
  | nil => intro p; simp [insK, firstOf]
  | cons l r ih =>
    intro p
    have := ih (p ++ [l])
    simp only [insK, firstOf]
    by_cases h : l < n
    · simp only [h, if_true, decide_true, Bool.not_true, Bool.false_eq_true, if_false]
      simp only [List.length_append, List.length_singleton, List.append_assoc, List.singleton_append] at this ⊢
      exact this
    · simp only [h, if_false, decide_false, Bool.not_false, if_true, Option.elim, hitK]
      by_cases h2 : l = n <;> simp [h2]
theorem room8n {n : Nat} (h : n ≤ 2000000) : n < room 8 := by rw [room8]; omega
theorem spec_l03Insert_f (xs : List Int) (n : Int) (h : xs.length ≤ 1000000) : spec_l03Insert.f xs n = some (insK n xs) := by
  have := find_loop (E := fun _ => True) (fun a => !decide (a < n)) (fun i a => some (hitK n xs i a)) (fun p => some (p ++ [n])) (fun k p i => if p = xs then spec_l03Insert.l2 NN k n i p else (firstOf (fun a => !decide (a < n)) i.toNat (p.drop i.toNat)).elim (some (p ++ [n])) (fun x => some (hitK n xs x.1 x.2))) ?_ ?_ xs (fun _ _ => trivial) (by omega) NN (NN_lt (by omega))
  · rw [if_pos rfl] at this
    unfold spec_l03Insert.f spec_l03Insert.fn spec_l03Insert.top
    rw [this]
    have h2 := insK_first n xs []
    simp only [List.nil_append, List.length_nil] at h2
    rw [h2]
    cases firstOf (fun a => !decide (a < n)) 0 xs <;> rfl
  · intro k p
    by_cases hp : p = xs
    · subst hp
      rw [if_pos rfl]
      have q0 : (0 : Int) ≤ (p.length : Int) := by omega
      simp only [spec_l03Insert.l2, spec_l03Insert.g2, Int.lt_irrefl, and_self, and_true, true_and, decide_true, decide_false, if_true, if_false, mid_get, mid_set, mid_getn, mid_setn, bt_mid, Option.bind_some, Bool.not_true, Bool.not_false, Bool.false_eq_true, Bool.true_eq_false, beq_self_eq_true, bne_self_eq_false, Int.toNat_natCast, Int.le_refl, q0, List.take_length, List.drop_length, List.nil_append, List.append_nil]
      rw [if_pos (room8n (by simp; omega)), if_pos (room8n (by simp; omega)), if_pos (room8n (by simp; omega))]
    · rw [if_neg hp]; simp [firstOf]
  · intro k p l r _ c0 c1 c2 cw
    by_cases hp : p ++ l :: r = xs
    · rw [if_pos hp, if_pos hp, hp]
      have c1' : (p.length : Int) < (xs.length : Int) := by rw [← hp]; exact c1
      have g : ∀ z, xs.getD p.length z = l := fun z => by rw [← hp, mid_getn]
      have c3 : (p.length : Int) ≤ (xs.length : Int) := by omega
      simp only [spec_l03Insert.l2, spec_l03Insert.g2, c0, c1', c3, cw, and_self, and_true, true_and, decide_true, decide_false, if_true, if_false, mid_get, mid_set, mid_getn, mid_setn, bt_mid, Option.bind_some, Bool.not_true, Bool.not_false, Bool.false_eq_true, Bool.true_eq_false, beq_self_eq_true, bne_self_eq_false, Int.toNat_natCast, g]
      by_cases h1 : l < n
      · simp [h1]
      · simp only [h1, decide_false, Bool.false_eq_true, if_false, Bool.not_false, if_true, hitK]
        by_cases h2 : l = n
        · simp [h2]
        · have h2' : (l == n) = false := by simpa using h2
          simp only [h2, h2', Bool.false_eq_true, if_false, List.nil_append]
          rw [if_pos (room8n (by simp; omega)), if_pos (room8n (by simp; omega)), if_pos (room8n (by simp; omega))]
          simp
    · rw [if_neg hp, if_neg hp]
      have t1 : ((p.length : Int) + 1).toNat = p.length + 1 := by omega
      rw [t1, Int.toNat_natCast, List.drop_left, show p ++ l :: r = (p ++ [l]) ++ r by simp, show p.length + 1 = (p ++ [l]).length by simp, List.drop_left]
      simp only [firstOf]
      by_cases h1 : l < n
      · simp only [h1, decide_true, Bool.not_true, Bool.false_eq_true, if_false, List.length_append, List.length_singleton]
      · simp only [h1, decide_false, Bool.not_false, if_true, Option.elim]
/-- the kinds that are set -/
def flg (a b c d : Bool) : List Int := (if a = true then [0] else []) ++ ((if b = true then [1] else []) ++ ((if c = true then [2] else []) ++ (if d = true then [3] else [])))
theorem flg_len (a b c d : Bool) : (flg a b c d).length ≤ 4 := by cases a <;> cases b <;> cases c <;> cases d <;> decide
theorem flg_set (a b c d : Bool) (k : Int) (h0 : 0 ≤ k) (h3 : k ≤ 3) : ∃ a' b' c' d', [a, b, c, d].set k.toNat true = [a', b', c', d'] ∧ insK k (flg a b c d) = flg a' b' c' d' := by
  have hk : k = 0 ∨ k = 1 ∨ k = 2 ∨ k = 3 := by omega
  rcases hk with rfl | rfl | rfl | rfl
  · exact ⟨true, b, c, d, rfl, by cases a <;> cases b <;> cases c <;> cases d <;> rfl⟩
  · exact ⟨a, true, c, d, rfl, by cases a <;> cases b <;> cases c <;> cases d <;> rfl⟩
  · exact ⟨a, b, true, d, rfl, by cases a <;> cases b <;> cases c <;> cases d <;> rfl⟩
  · exact ⟨a, b, c, true, rfl, by cases a <;> cases b <;> cases c <;> cases d <;> rfl⟩
structure PF where
  cal : Int
  grp : Int
  a : Bool
  b : Bool
  c : Bool
  d : Bool
def PF.fl (s : PF) : List Bool := [s.a, s.b, s.c, s.d]
def PF.ks (s : PF) : List Int := flg s.a s.b s.c s.d
/-- flags with one more -/
def setF4 (l : List Bool) (s : PF) : PF := { s with a := l.getD 0 false, b := l.getD 1 false, c := l.getD 2 false, d := l.getD 3 false }
def pfF (cs : List Int) (i : Nat) (s : PF) (x : Art) : PF :=
  if 0 < cs.getD i 0 then setF4 (s.fl.set x.2.1.toNat true) { s with cal := maxD x.2.2.1 s.cal, grp := maxD x.2.2.2.2.2.2.2.2 s.grp } else s
theorem pf_fl {s : PF} {k : Int} (h0 : 0 ≤ k) (h3 : k ≤ 3) (c g : Int) : (setF4 (s.fl.set k.toNat true) { s with cal := c, grp := g }).fl = s.fl.set k.toNat true ∧ (setF4 (s.fl.set k.toNat true) { s with cal := c, grp := g }).ks = insK k s.ks ∧ (setF4 (s.fl.set k.toNat true) { s with cal := c, grp := g }).cal = c ∧ (setF4 (s.fl.set k.toNat true) { s with cal := c, grp := g }).grp = g := by
  obtain ⟨a', b', c', d', e1, e2⟩ := flg_set s.a s.b s.c s.d k h0 h3
  unfold PF.fl PF.ks
  rw [e1, e2]
  exact ⟨rfl, rfl, rfl, rfl⟩
def pf0 : PF := ⟨20, 0, false, false, false, false⟩
def pfL (xs : List Art) (cs : List Int) : PF := foldi (pfF cs) 0 pf0 xs
abbrev Z6 : Prm := (0, (0, (0, (0, ([], 0)))))
def pfV (day net : Int) (s : PF) : Prm := (day, (day, (net, (s.cal, (s.ks, s.grp)))))
theorem impl_pf_ks (s : PF) (v1 v2 v3 v4 v5 day net : Int) (w : List Int) : impl_PermitFor.l18 NN NN s.fl 0 v1 v2 v3 v4 v5 day day net s.cal s.grp w [] = some (pfV day net s, 0) := by
  have := (fold_fix (E := fun _ => True) (fun (p : List Bool) (out : List Int) => out.length ≤ p.length) (fun i (out : List Int) (b : Bool) => if b = true then out ++ [(i : Int)] else out) (fun out => some (((day, (day, (net, (s.cal, (out, s.grp))))) : Prm), (0 : Int))) (fun k i out => impl_PermitFor.l18 NN k s.fl i v1 v2 v3 v4 v5 day day net s.cal s.grp w out) s.fl ?_ ?_ [] (fun _ _ => trivial) (by simp) (by simp [PF.fl]) NN (NN_lt (by simp [PF.fl]))).2
  · refine this.trans ?_
    obtain ⟨c, g, a, b, cc, d⟩ := s
    unfold pfV PF.ks PF.fl
    simp only [foldi]
    cases a <;> cases b <;> cases cc <;> cases d <;> rfl
  · intro k out _
    have n1 : ¬ (s.fl.length : Int) < 4 := by simp [PF.fl]
    simp only [impl_PermitFor.l18, impl_PermitFor.g18, n1, and_self, and_true, true_and, decide_true, decide_false, if_true, if_false, mid_get, mid_set, mid_getn, mid_setn, bt_mid, Option.bind_some, Bool.not_true, Bool.not_false, Bool.false_eq_true, Bool.true_eq_false, beq_self_eq_true, bne_self_eq_false, Int.toNat_natCast]
  · intro k p b r out hx _ hI c0 c1 c2 cw g
    have hl4 : s.fl.length = 4 := rfl
    have c3 : (p.length : Int) < 4 := by rw [hl4] at c1; exact c1
    refine ⟨by split <;> simp <;> omega, ?_⟩
    have hr := room8n (n := out.length + [(p.length : Int)].length) (by simp; omega)
    simp only [impl_PermitFor.l18, impl_PermitFor.g18, c0, c3, cw, and_self, and_true, true_and, decide_true, decide_false, if_true, if_false, mid_get, mid_set, mid_getn, mid_setn, bt_mid, Option.bind_some, Bool.not_true, Bool.not_false, Bool.false_eq_true, Bool.true_eq_false, beq_self_eq_true, bne_self_eq_false, Int.toNat_natCast, g, hr]
    cases b <;> simp
def pfR (xs : List Art) (cs : List Int) (day : Int) : Prm × Int := if askO true xs cs day = 0 then (if 1000000000 < netO xs cs then (Z6, 3) else (pfV day (netO xs cs) (pfL xs cs), 0)) else (Z6, askO true xs cs day)
theorem ask_iffP (b : Bool) (xs : List Art) (cs : List Int) (day : Int) (v : Prm × Int) : (if askO b xs cs day = 0 then v else (Z6, askO b xs cs day)) = if b = true then (if artsB xs = true then (if cntsB xs cs = true then (if inB day 0 100000 = true then v else (Z6, 2)) else (Z6, 2)) else (Z6, 1)) else (Z6, 1) := by
  unfold askO
  cases b
  · rfl
  cases artsB xs
  · rfl
  cases cntsB xs cs
  · rfl
  cases inB day 0 100000 <;> rfl
theorem pf_step (cs : List Int) (i : Nat) (s : PF) (x : Art) (hx : artB x = true) : (0 < cs.getD i 0 → (pfF cs i s x).fl = s.fl.set x.2.1.toNat true ∧ (pfF cs i s x).ks = insK x.2.1 s.ks ∧ (pfF cs i s x).cal = maxD x.2.2.1 s.cal ∧ (pfF cs i s x).grp = maxD x.2.2.2.2.2.2.2.2 s.grp) ∧ (¬ 0 < cs.getD i 0 → pfF cs i s x = s) := by
  have hb := artB_iff hx
  refine ⟨fun h => ?_, fun h => by unfold pfF; rw [if_neg h]⟩
  unfold pfF
  rw [if_pos h]
  exact pf_fl hb.2.1.1 hb.2.1.2 _ _
theorem PermitFor_both (xs : List Art) (cs : List Int) (day : Int) (hx : Lm OkArticle xs) (hc : Lm (Rg .i64) cs) : spec_PermitFor.f xs cs day = some (pfR xs cs day) ∧ impl_PermitFor.f xs cs day = some (pfR xs cs day) := by
  have hb : xs.length ≤ 140737488355328 := Nat.le_trans hx.1 (by omega)
  refine ⟨?_, ?_⟩
  · unfold spec_PermitFor.f spec_PermitFor.fn spec_PermitFor.top pfR
    rw [spec_l30Code_f [] xs cs day (by simp) (by simp) hb (arts_z hx) hc.1]
    have e1 : permsL [] = true := rfl
    rw [e1]
    simp only [Option.bind_some]
    by_cases h0 : askO true xs cs day = 0
    · obtain ⟨_, a1, a2, _⟩ := askO_zero h0
      obtain ⟨h1, h2⟩ := artsB_ok a1
      obtain ⟨h3, h4⟩ := cntsB_iff a2
      rw [if_pos h0, if_neg (by rw [h0]; decide)]
      have := (fold_fix (E := fun a : Art => artB a = true) (fun q (st : Int × PF) => 0 ≤ st.1 ∧ st.1 ≤ 100000000 * q.length) (fun i (st : Int × PF) a => (netS cs i st.1 a, pfF cs i st.2 a)) (fun st => some (if 1000000000 < st.1 then ((Z6 : Prm), (3 : Int)) else (pfV day st.1 st.2, 0))) (fun k i st => spec_PermitFor.l6 NN k xs cs i 0 0 0 0 0 day day st.1 st.2.cal st.2.grp [] st.2.ks) xs ?_ ?_ (0, pf0) h2 (by simp) (by omega) NN (NN_lt (by omega))).2
      · have hf : ∀ (ys : List Art) (i : Nat) (st : Int × PF), foldi (fun i (st : Int × PF) a => (netS cs i st.1 a, pfF cs i st.2 a)) i st ys = (foldi (netS cs) i st.1 ys, foldi (pfF cs) i st.2 ys) := by
          intro ys
          induction ys with
          | nil => intro i st; rfl
          | cons a r ih => intro i st; simp only [foldi, ih]
        rw [hf] at this
        exact this
      · intro k st _
        simp only [spec_PermitFor.l6, spec_PermitFor.g6, Int.lt_irrefl, and_self, and_true, true_and, decide_true, decide_false, if_true, if_false, mid_get, mid_set, mid_getn, mid_setn, bt_mid, Option.bind_some, Bool.not_true, Bool.not_false, Bool.false_eq_true, Bool.true_eq_false, beq_self_eq_true, bne_self_eq_false, Int.toNat_natCast]
        by_cases h : 1000000000 < st.1 <;> simp [h, pfV]
      · intro k q a r st hxx ha hI c0 c1 c2 cw g
        have hpl : q.length ≤ 12 := by rw [hxx] at h1; simp at h1; omega
        have c3 : (q.length : Int) < (cs.length : Int) := by omega
        have hbd := mul_bd (artB_iff ha).2.2.2.1 (h4 q.length)
        have hc4 := h4 q.length
        have w1 := w64 (n := a.2.2.2.2.2.2.2.1 * cs.getD q.length 0) (by omega) (by omega)
        have w2 := w64 (n := st.1 + a.2.2.2.2.2.2.2.1 * cs.getD q.length 0) (by omega) (by omega)
        refine ⟨by unfold netS; rw [List.length_append, List.length_singleton]; simp only; omega, ?_⟩
        obtain ⟨s1, s2⟩ := pf_step cs q.length st.2 a ha
        simp only [spec_PermitFor.l6, spec_PermitFor.g6, c0, c1, c3, cw, and_self, and_true, true_and, decide_true, decide_false, if_true, if_false, mid_get, mid_set, mid_getn, mid_setn, bt_mid, Option.bind_some, Bool.not_true, Bool.not_false, Bool.false_eq_true, Bool.true_eq_false, beq_self_eq_true, bne_self_eq_false, Int.toNat_natCast, g, w1, w2, decide_eq_true_eq]
        by_cases hp : 0 < cs.getD q.length 0
        · obtain ⟨t1, t2, t3, t4⟩ := s1 hp
          have hkl : st.2.ks.length ≤ 4 := flg_len _ _ _ _
          rw [if_pos hp, spec_l03Insert_f _ _ (by omega), t2, t3, t4]
          rfl
        · have hz : cs.getD q.length 0 = 0 := by omega
          rw [if_neg hp, s2 hp]
          unfold netS
          rw [hz, Int.mul_zero, Int.add_zero]
    · rw [if_neg h0, if_pos (by simpa using h0)]
  · unfold impl_PermitFor.f impl_PermitFor.fn impl_PermitFor.top pfR
    rw [impl_AreArticles_f xs hb (arts_z hx), impl_areCounts_f xs cs hc.1, impl_isDay_f, ask_iffP]
    cases a1 : artsB xs
    · rfl
    cases a2 : cntsB xs cs
    · rfl
    cases inB day 0 100000
    · rfl
    obtain ⟨h1, h2⟩ := artsB_ok a1
    obtain ⟨h3, h4⟩ := cntsB_iff a2
    simp only [Option.bind_some, Bool.not_true, Bool.false_eq_true, if_false, if_true, (impl_orderNet_f xs cs a1 a2).2, decide_eq_true_eq]
    by_cases hn : 1000000000 < netO xs cs
    · rw [if_pos hn, if_pos hn]
    rw [if_neg hn, if_neg hn]
    have := (fold_fix (E := fun a : Art => artB a = true) (fun _ _ => True) (pfF cs) (fun s => some (pfV day (netO xs cs) s, (0 : Int))) (fun k i s => impl_PermitFor.l10 NN k cs xs xs.length i 0 0 0 0 0 day day (netO xs cs) s.cal s.grp s.fl [] []) xs ?_ ?_ pf0 h2 trivial (by omega) NN (NN_lt (by omega))).2
    · exact this
    · intro k s _
      simp only [impl_PermitFor.l10, impl_PermitFor.g10, Int.lt_irrefl, and_self, and_true, true_and, decide_true, decide_false, if_true, if_false, mid_get, mid_set, mid_getn, mid_setn, bt_mid, Option.bind_some, Bool.not_true, Bool.not_false, Bool.false_eq_true, Bool.true_eq_false, beq_self_eq_true, bne_self_eq_false, Int.toNat_natCast]
      exact impl_pf_ks s _ _ _ _ _ _ _ _
    · intro k q a r s hxx ha _ c0 c1 c2 cw g
      refine ⟨trivial, ?_⟩
      have c3 : (q.length : Int) < (cs.length : Int) := by omega
      have hab := artB_iff ha
      have k1 : (0 : Int) ≤ a.2.1 := hab.2.1.1
      have k2 : a.2.1 < 4 := by have := hab.2.1.2; omega
      obtain ⟨s1, s2⟩ := pf_step cs q.length s a ha
      simp only [impl_PermitFor.l10, impl_PermitFor.g10, c0, c1, c3, cw, and_self, and_true, true_and, decide_true, decide_false, if_true, if_false, mid_get, mid_set, mid_getn, mid_setn, bt_mid, Option.bind_some, Bool.not_true, Bool.not_false, Bool.false_eq_true, Bool.true_eq_false, beq_self_eq_true, bne_self_eq_false, Int.toNat_natCast, g, k1, k2, decide_eq_true_eq]
      by_cases hp : 0 < cs.getD q.length 0
      · obtain ⟨t1, t2, t3, t4⟩ := s1 hp
        rw [if_pos hp, t1, t3, t4]
        rfl
      · rw [if_neg hp, s2 hp]
theorem pfR_ok (xs : List Art) (cs : List Int) (day : Int) (hd : Rg .i64 day) : OkPermit (pfR xs cs day).1 := by
  have hz : OkPermit Z6 := ⟨wf64.2 (by simp), wf64.2 (by simp), wf64.2 (by simp), wf64.2 (by simp), ⟨by simp, by simp⟩, wf64.2 (by simp)⟩
  unfold pfR
  split
  · rename_i h0
    obtain ⟨_, a1, a2, a3⟩ := askO_zero h0
    have hdd := inB_iff.1 a3
    obtain ⟨h1, h2⟩ := artsB_ok a1
    split
    · exact hz
    · have hno := (impl_orderNet_f xs cs a1 a2).1
      have hb : ∀ (ys : List Art) (i : Nat) (s : PF), (∀ a ∈ ys, artB a = true) → (0 ≤ s.cal ∧ s.cal ≤ 1000 ∧ 0 ≤ s.grp ∧ s.grp ≤ 10) → (0 ≤ (foldi (pfF cs) i s ys).cal ∧ (foldi (pfF cs) i s ys).cal ≤ 1000 ∧ 0 ≤ (foldi (pfF cs) i s ys).grp ∧ (foldi (pfF cs) i s ys).grp ≤ 10) := by
        intro ys
        induction ys with
        | nil => intro i s _ h; exact h
        | cons a r ih =>
          intro i s ha h
          refine ih _ _ (fun y hy => ha y (by simp [hy])) ?_
          have hab := artB_iff (ha a (by simp))
          obtain ⟨s1, s2⟩ := pf_step cs i s a (ha a (by simp))
          by_cases hp : 0 < cs.getD i 0
          · obtain ⟨_, _, t3, t4⟩ := s1 hp
            rw [t3, t4]
            unfold maxD
            obtain ⟨_, _, b3, _, b5⟩ := hab
            split <;> split <;> omega
          · rw [s2 hp]; exact h
      have := hb xs 0 pf0 h2 (by simp [pf0])
      have hks : ∀ k ∈ (pfL xs cs).ks, Rg .i64 k := fun k hk => by
        unfold PF.ks flg at hk
        refine wf64.2 ?_
        simp only [List.mem_append] at hk
        rcases hk with h | h | h | h <;> (split at h <;> simp at h <;> omega)
      refine ⟨hd, hd, wf64.2 (by simp only [pfV]; omega), wf64.2 ?_, ⟨?_, hks⟩, wf64.2 ?_⟩
      · show -9223372036854775808 ≤ (pfL xs cs).cal ∧ (pfL xs cs).cal ≤ 9223372036854775807
        unfold pfL; omega
      · have : (pfL xs cs).ks.length ≤ 4 := flg_len _ _ _ _
        show (pfL xs cs).ks.length ≤ 1000000
        omega
      · show -9223372036854775808 ≤ (pfL xs cs).grp ∧ (pfL xs cs).grp ≤ 9223372036854775807
        unfold pfL; omega
  · exact hz
theorem PermitFor_core (xs : List Art) (cs : List Int) (day : Int) (hx : Lm OkArticle xs) (hc : Lm (Rg .i64) cs) (hd : Rg .i64 day) : ∃ w, spec_PermitFor.f xs cs day = some w ∧ impl_PermitFor.f xs cs day = some w ∧ OkPermit w.1 :=
  ⟨_, (PermitFor_both xs cs day hx hc).1, (PermitFor_both xs cs day hx hc).2, pfR_ok xs cs day hd⟩
end Go.Pl

namespace Go.Pl
open Go.Ev
set_option linter.unusedVariables false
set_option linter.unusedSimpArgs false
theorem FnExactPermitFor_true (aList : List (ByteArray × Int × Int × Int × Int × Int × Int × Int × Int)) (aCounts : List Int) (aDay : Int) (hyp : Ls PlArticle aList ∧ Ls (Rg .i64) aCounts ∧ Rg .i64 aDay) : laws_FnExactPermitFor.f aList aCounts aDay = some true := by
  obtain ⟨h_aList, h_aCounts, h_aDay⟩ := hyp
  unfold laws_FnExactPermitFor.f laws_FnExactPermitFor.fn laws_FnExactPermitFor.top
  have z_aCounts : aCounts.length ≤ 140737488355328 := h_aCounts.1
  have lw_aCounts := w64 (n := (1000000 - (aCounts.length : Int))) (by omega) (by omega)
  simp only [lw_aCounts]
  obtain ⟨s1, e1, l1, k1⟩ := laws_szArticleS_ok aList (1000000 - (aCounts.length : Int)) (by omega) (by omega) h_aList
  simp only [e1, Option.bind_some, decide_eq_true_eq]
  by_cases hn1 : s1 < 0
  · simp [hn1]
  simp only [hn1, if_false]
  obtain ⟨q1, o_aList⟩ := k1 (by omega)
  have o_aCounts : Lm (Rg .i64) aCounts := ⟨by omega, h_aCounts.2⟩
  have o_aDay := h_aDay
  obtain ⟨f0_aList, t_aList, i_aList⟩ := laws_toArticleS_both aList o_aList
  obtain ⟨f0_aCounts, t_aCounts, i_aCounts⟩ := laws_toInt64S_both aCounts o_aCounts
  obtain ⟨⟨w0, w1⟩, c1, c2, c3⟩ := PermitFor_core aList aCounts aDay o_aList o_aCounts o_aDay
  have c4 := c3
  have c3_0 : OkPermit w0 := c3
  have eq_0 := laws_eqPermit_self w0 (Nat.le_trans c3_0.2.2.2.2.1.1 (by omega))
  obtain ⟨m1, d1, x1, y1, z1, u1⟩ := laws_markArticleS_ok aList o_aList 101 (by omega) (by omega)
  obtain ⟨m2, d2, x2, y2, z2, u2⟩ := laws_markInt64S_ok aCounts o_aCounts m1 (by omega) (by omega)
  have kn : ¬ m2 < 0 := by omega
  obtain ⟨m3, d3_0, x3, y3, z3, u3⟩ := laws_markPermit_ok w0 c3_0 101 (by omega) (by omega)
  have n3 : ¬ m3 < 0 := by omega
  simp [t_aList, i_aList, t_aCounts, i_aCounts, c1, c2, eq_0, x1, x2, kn, x3, y3, n3]
end Go.Pl
