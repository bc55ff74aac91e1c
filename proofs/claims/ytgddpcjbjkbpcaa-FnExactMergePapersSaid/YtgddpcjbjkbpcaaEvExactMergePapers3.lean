/- Part 3 of what the law FnExactMergePapers stands on: an evaluator of the model's code, proved sound; the functions as plain texts; their contracts. -/
import Derived.Test.YtgddpcjbjkbpcaaChecked
import Derived.Test.YtgddpcjbjkbpcaaProg
import Derived.Test.YtgddpcjbjkbpcaaRows
import Derived.Below
import Derived.Calls
import Derived.Carry
import Derived.ChangeArms
import Derived.ChangeKeysEq
import Derived.ChangeOld
import Derived.Deep.Quiet
import Derived.KernelRfl
import Derived.Laws.Append
import Derived.Laws.BytesString
import Derived.Laws.MakeOwn
import Derived.Laws.Strings
import Derived.Laws.StructEq
import Derived.OpenShut
import Derived.OrdersHeld
import Derived.ProofKit
import Derived.ShutString
import Derived.SizedLaws
import Derived.Tactics
import Derived.WalkKit
import Derived.WideShapes
import Derived.Test.YtgddpcjbjkbpcaaEvExactMergePapers2
namespace Go.Pl
open Go.Ev
set_option linter.unusedVariables false
set_option linter.unusedSimpArgs false
abbrev Ln := ByteArray × Int
theorem ltS_W (a b : ByteArray) : ltS a b = ltW a b := rfl
/-- strictly rising by the article -/
def Srt (xs : List Ln) : Prop := xs.Pairwise fun a b => ltW a.1 b.1 = true
theorem linesF_pair : ∀ (r : List Ln) (x : Ln), linesF x r = true → Srt (x :: r) := by
  intro r
  induction r with
  | nil => intro x _; exact List.pairwise_singleton _ _
  | cons a r ih =>
    intro x h
    simp only [linesF, Bool.and_eq_true] at h
    have i := ih a h.2
    refine List.pairwise_cons.2 ⟨fun b hb => ?_, i⟩
    rcases List.mem_cons.1 hb with rfl | hb
    · exact h.1.2
    · exact ltW_trans h.1.2 ((List.pairwise_cons.1 i).1 b hb)
theorem linesB_srt {xs : List Ln} (h : linesB xs = true) : Srt xs := by
  unfold linesB at h
  simp only [Bool.and_eq_true] at h
  cases xs with
  | nil => exact List.Pairwise.nil
  | cons a r =>
    simp only [linesL, Bool.and_eq_true] at h
    exact linesF_pair r a h.2.2
theorem srt_linesF : ∀ (r : List Ln) (x : Ln), Srt (x :: r) → (∀ l ∈ r, lineOk l = true) → linesF x r = true := by
  intro r
  induction r with
  | nil => intro x _ _; rfl
  | cons a r ih =>
    intro x h ho
    obtain ⟨h1, h2⟩ := List.pairwise_cons.1 h
    simp only [linesF, Bool.and_eq_true]
    exact ⟨⟨ho a (by simp), h1 a (by simp)⟩, ih a h2 (fun l hl => ho l (by simp [hl]))⟩
theorem linesB_of {xs : List Ln} (h : Srt xs) (ho : ∀ l ∈ xs, lineOk l = true) (hl : xs.length ≤ 12) : linesB xs = true := by
  unfold linesB
  simp only [Bool.and_eq_true, decide_eq_true_eq]
  refine ⟨hl, ?_⟩
  cases xs with
  | nil => rfl
  | cons a r =>
    simp only [linesL, Bool.and_eq_true]
    exact ⟨ho a (by simp), srt_linesF r a h (fun l hl => ho l (by simp [hl]))⟩
/-- no line of an article -/
def remL (a : ByteArray) (xs : List Ln) : List Ln := xs.filter fun l => !decide (l.1 = a)
/-- a line put in at its place -/
def insL (a : ByteArray) (c : Int) : List Ln → List Ln
  | [] => [(a, c)]
  | l :: r => if (ltW a l.1 || decide (a = l.1)) = true then (a, c) :: remL a (l :: r) else l :: insL a c r
def putL (a : ByteArray) (c : Int) (xs : List Ln) : List Ln := if c = 0 then remL a xs else insL a c xs
def stepL (a : ByteArray) (c : Int) (st : List Ln × Bool) (l : Ln) : List Ln × Bool :=
  if (!st.2 && (ltW a l.1 || decide (a = l.1))) = true then ((if l.1 = a then st.1 ++ [(a, c)] else st.1 ++ [(a, c)] ++ [l]), true)
  else ((if l.1 = a then st.1 else st.1 ++ [l]), st.2)
def endL (a : ByteArray) (c : Int) (st : List Ln × Bool) : List Ln := if st.2 = true then st.1 else st.1 ++ [(a, c)]
theorem fold_rem (a : ByteArray) (c : Int) : ∀ (xs out : List Ln), xs.foldl (stepL a c) (out, true) = (out ++ remL a xs, true) := by
  intro xs
  induction xs with
  | nil => intro out; simp [remL]
  | cons l r ih =>
    intro out
    rw [List.foldl_cons]
    by_cases h : l.1 = a
    · simp only [stepL, Bool.not_true, Bool.false_and, Bool.false_eq_true, if_false, h, if_true, ih]
      simp [remL, h]
    · simp only [stepL, Bool.not_true, Bool.false_and, Bool.false_eq_true, if_false, h, ih]
      simp [remL, h]
theorem fold_ins (a : ByteArray) (c : Int) : ∀ (xs out : List Ln), endL a c (xs.foldl (stepL a c) (out, false)) = out ++ insL a c xs := by
  intro xs
  induction xs with
  | nil => intro out; simp [endL, insL]
  | cons l r ih =>
    intro out
    rw [List.foldl_cons]
    by_cases hp : (ltW a l.1 || decide (a = l.1)) = true
    · simp only [stepL, Bool.not_false, Bool.true_and, hp, if_true, insL, fold_rem, endL]
      by_cases h : l.1 = a <;> simp [remL, h]
    · have h : l.1 ≠ a := fun e => hp (by simp [e])
      simp only [stepL, Bool.not_false, Bool.true_and, hp, Bool.false_eq_true, if_false, h, insL, ih, List.append_assoc, List.singleton_append]
theorem fold_put (a : ByteArray) (c : Int) (xs : List Ln) : endL a c (xs.foldl (stepL a c) ([], decide (c = 0))) = putL a c xs := by
  unfold putL
  by_cases h : c = 0
  · simp only [h, decide_true, if_true, fold_rem, endL, List.nil_append]
  · simp only [h, decide_false, if_false, fold_ins, List.nil_append]
theorem stepL_len (a : ByteArray) (c : Int) (st : List Ln × Bool) (l : Ln) : (stepL a c st l).1.length ≤ st.1.length + 2 := by
  unfold stepL
  split <;> split <;> simp <;> omega
theorem impl_putLine_f (xs : List Ln) (a : ByteArray) (c : Int) (h : xs.length ≤ 1000) : impl_putLine.f xs a c = some (putL a c xs) := by
  have := (fold_fix (E := fun _ => True) (fun p (st : List Ln × Bool) => st.1.length ≤ 2 * p.length) (fun _ => stepL a c) (fun st => some (endL a c st)) (fun k i st => impl_putLine.l4 NN k a c st.2 xs xs.length i st.1) xs ?_ ?_ ([], decide (c = 0)) (fun _ _ => trivial) (by simp) (by omega) NN (NN_lt (by omega))).2
  · rw [foldi_foldl, fold_put] at this
    unfold impl_putLine.f impl_putLine.fn impl_putLine.top
    rw [← this]
    rfl
  · intro k st hI
    simp only [impl_putLine.l4, impl_putLine.g4, Int.lt_irrefl, and_self, and_true, true_and, decide_true, decide_false, if_true, if_false, mid_get, mid_set, mid_getn, mid_setn, bt_mid, Option.bind_some, Bool.not_true, Bool.not_false, Bool.false_eq_true, Bool.true_eq_false, beq_self_eq_true, bne_self_eq_false, Int.toNat_natCast]
    rw [if_pos (room24' st.1 _ (by have := hI; omega))]
    unfold endL
    cases st.2 <;> simp
  · intro k p l r st hx hl hI c0 c1 c2 cw g
    have hp : p.length ≤ 1000 := by rw [hx] at h; simp at h; omega
    refine ⟨by have := stepL_len a c st l; rw [List.length_append, List.length_singleton]; omega, ?_⟩
    simp only [impl_putLine.l4, impl_putLine.g4, c0, c1, cw, and_self, and_true, true_and, decide_true, decide_false, if_true, if_false, mid_get, mid_set, mid_getn, mid_setn, bt_mid, Option.bind_some, Bool.not_true, Bool.not_false, Bool.false_eq_true, Bool.true_eq_false, beq_self_eq_true, bne_self_eq_false, Int.toNat_natCast, g]
    have q1 := room24' st.1 (a, c) (by omega)
    have q2 := room24' st.1 l (by omega)
    have q3 := room24' (st.1 ++ [(a, c)]) l (by simp; omega)
    simp only [q1, q2, q3, if_true, ba_beq, stepL]
    rw [show Op.bytesLess a.toList l.1.toList = ltW a l.1 from rfl]
    obtain ⟨out, b⟩ := st
    by_cases h1 : a = l.1
    · cases b <;> cases ltW a l.1 <;> simp [h1]
    · have h2 : ¬ l.1 = a := fun e => h1 e.symm
      cases b <;> cases ltW a l.1 <;> simp [h1, h2]
/-- a line put in, with more of an article -/
def addA (a : ByteArray) (c : Int) : List Ln → List Ln
  | [] => [(a, c)]
  | l :: r => if ltW l.1 a = true then l :: addA a c r else if l.1 = a then (a, c + l.2) :: r else (a, c) :: l :: r
def addC (a : ByteArray) (c : Int) (xs : List Ln) (i : Nat) (l : Ln) : List Ln := if l.1 = a then xs.take i ++ (a, c + l.2) :: xs.drop (i + 1) else xs.take i ++ (a, c) :: xs.drop i
theorem addA_first (a : ByteArray) (c : Int) : ∀ (r p : List Ln), p ++ addA a c r = (firstOf (fun l : Ln => !ltW l.1 a) p.length r).elim (p ++ r ++ [(a, c)]) (fun x => addC a c (p ++ r) x.1 x.2) := by
  intro r
  induction r with
  | nil => intro p; simp [addA, firstOf]
  | cons l r ih =>
    intro p
    have := ih (p ++ [l])
    simp only [addA, firstOf]
    by_cases h : ltW l.1 a = true
    · simp only [h, if_true, Bool.not_true, Bool.false_eq_true, if_false]
      simp only [List.length_append, List.length_singleton, List.append_assoc, List.singleton_append] at this ⊢
      exact this
    · simp only [Bool.not_eq_true] at h
      simp only [h, Bool.false_eq_true, if_false, Bool.not_false, if_true, Option.elim, addC]
      by_cases h2 : l.1 = a <;> simp [h2]
theorem spec_l29Put_f (xs : List Ln) (a : ByteArray) (c : Int) (h : xs.length ≤ 1000) (hc : 0 ≤ c ∧ c ≤ 1000000) (hx : ∀ l ∈ xs, 0 ≤ l.2 ∧ l.2 ≤ 1000000) : spec_l29Put.f xs a c = some (addA a c xs) := by
  have hr : ∀ n : Nat, n ≤ 2000 → n < room 24 := fun n hn => by rw [room24]; omega
  have := find_loop (E := fun l : Ln => 0 ≤ l.2 ∧ l.2 ≤ 1000000) (fun l : Ln => !ltW l.1 a) (fun i l => some (addC a c xs i l)) (fun p => some (p ++ [(a, c)])) (fun k p i => if p = xs then spec_l29Put.l2 NN k p a c i else (firstOf (fun l : Ln => !ltW l.1 a) i.toNat (p.drop i.toNat)).elim (some (p ++ [(a, c)])) (fun x => some (addC a c xs x.1 x.2))) ?_ ?_ xs hx (by omega) NN (NN_lt (by omega))
  · rw [if_pos rfl] at this
    unfold spec_l29Put.f spec_l29Put.fn spec_l29Put.top
    rw [this]
    have h2 := addA_first a c xs []
    simp only [List.nil_append, List.length_nil] at h2
    rw [h2]
    cases firstOf (fun l : Ln => !ltW l.1 a) 0 xs <;> rfl
  · intro k p
    by_cases hp : p = xs
    · subst hp
      rw [if_pos rfl]
      simp only [spec_l29Put.l2, spec_l29Put.g2, Int.lt_irrefl, and_self, and_true, true_and, decide_true, decide_false, if_true, if_false, mid_get, mid_set, mid_getn, mid_setn, bt_mid, Option.bind_some, Bool.not_true, Bool.not_false, Bool.false_eq_true, Bool.true_eq_false, beq_self_eq_true, bne_self_eq_false, Int.toNat_natCast, Int.le_refl]
      have q0 : (0 : Int) ≤ (p.length : Int) := by omega
      simp only [q0, and_self, and_true, true_and, decide_true, decide_false, if_true, if_false, mid_get, mid_set, mid_getn, mid_setn, bt_mid, Option.bind_some, Bool.not_true, Bool.not_false, Bool.false_eq_true, Bool.true_eq_false, beq_self_eq_true, bne_self_eq_false, Int.toNat_natCast, List.take_length, List.drop_length, List.nil_append, List.append_nil]
      rw [if_pos (hr _ (by simp; omega)), if_pos (hr _ (by simp; omega)), if_pos (hr _ (by simp; omega))]
    · rw [if_neg hp]; simp [firstOf]
  · intro k p l r he c0 c1 c2 cw
    by_cases hp : p ++ l :: r = xs
    · rw [if_pos hp, if_pos hp, hp]
      have c1' : (p.length : Int) < (xs.length : Int) := by rw [← hp]; exact c1
      have g : ∀ z, xs.getD p.length z = l := fun z => by rw [← hp, mid_getn]
      have hpl : p.length + 1 ≤ 1000 := by omega
      have c3 : (p.length : Int) ≤ (xs.length : Int) := by omega
      have c4 : (0 : Int) ≤ (p.length : Int) + 1 := by omega
      have c5 : (p.length : Int) + 1 ≤ (xs.length : Int) := by omega
      have e1 := w64 (n := c + l.2) (by omega) (by omega)
      have t1 : ((p.length : Int) + 1).toNat = p.length + 1 := by omega
      simp only [spec_l29Put.l2, spec_l29Put.g2, c0, c1', c3, c4, c5, cw, and_self, and_true, true_and, decide_true, decide_false, if_true, if_false, mid_get, mid_set, mid_getn, mid_setn, bt_mid, Option.bind_some, Bool.not_true, Bool.not_false, Bool.false_eq_true, Bool.true_eq_false, beq_self_eq_true, bne_self_eq_false, Int.toNat_natCast, g, e1, t1]
      rw [show Op.bytesLess l.1.toList a.toList = ltW l.1 a from rfl, ba_beq]
      cases h1 : ltW l.1 a
      · simp only [Bool.false_eq_true, if_false, Bool.not_false, if_true, addC, decide_eq_true_eq]
        by_cases h2 : l.1 = a
        · simp only [h2, if_true, List.nil_append]
          rw [if_pos (hr _ (by simp; omega)), if_pos (hr _ (by simp; omega)), if_pos (hr _ (by simp; omega))]
          simp
        · simp only [h2, if_false, List.nil_append]
          rw [if_pos (hr _ (by simp; omega)), if_pos (hr _ (by simp; omega)), if_pos (hr _ (by simp; omega))]
          simp
      · simp
    · rw [if_neg hp, if_neg hp]
      have t1 : ((p.length : Int) + 1).toNat = p.length + 1 := by omega
      rw [t1, Int.toNat_natCast, List.drop_left, show p ++ l :: r = (p ++ [l]) ++ r by simp, show p.length + 1 = (p ++ [l]).length by simp, List.drop_left]
      simp only [firstOf]
      by_cases h1 : ltW l.1 a = true
      · simp only [h1, Bool.not_true, Bool.false_eq_true, if_false, List.length_append, List.length_singleton]
      · simp only [Bool.not_eq_true] at h1
        simp only [h1, Bool.not_false, if_true, Option.elim]
/-- a list that holds an article -/
theorem first_split {a : ByteArray} : ∀ (xs : List Ln) (i : Nat), (∃ p y r, xs = p ++ y :: r ∧ y.1 = a ∧ (∀ l ∈ p, l.1 ≠ a) ∧ firstOf (fun l : Ln => decide (l.1 = a)) i xs = some (i + p.length, y)) ∨ ((∀ l ∈ xs, l.1 ≠ a) ∧ firstOf (fun l : Ln => decide (l.1 = a)) i xs = none) := by
  intro xs
  induction xs with
  | nil => intro i; exact .inr ⟨by simp, rfl⟩
  | cons l r ih =>
    intro i
    by_cases h : l.1 = a
    · exact .inl ⟨[], l, r, rfl, h, by simp, by simp [firstOf, h]⟩
    · rcases ih (i + 1) with ⟨p, y, q, rfl, h1, h2, h3⟩ | ⟨h1, h2⟩
      · refine .inl ⟨l :: p, y, q, rfl, h1, fun x hx => ?_, ?_⟩
        · rcases List.mem_cons.1 hx with rfl | hx
          · exact h
          · exact h2 x hx
        · simp only [firstOf, h, decide_false, Bool.false_eq_true, if_false, h3, List.length_cons]
          congr 2; omega
      · refine .inr ⟨fun x hx => ?_, by simp only [firstOf, h, decide_false, Bool.false_eq_true, if_false, h2]⟩
        rcases List.mem_cons.1 hx with rfl | hx
        · exact h
        · exact h1 x hx
theorem rem_none {a : ByteArray} {xs : List Ln} (h : ∀ l ∈ xs, l.1 ≠ a) : remL a xs = xs := by
  unfold remL
  rw [List.filter_eq_self]
  intro l hl
  simp [h l hl]
theorem rem_mid {a : ByteArray} {p r : List Ln} {y : Ln} (hy : y.1 = a) (hp : ∀ l ∈ p, l.1 ≠ a) (hr : ∀ l ∈ r, l.1 ≠ a) : remL a (p ++ y :: r) = p ++ r := by
  have h1 := rem_none hp
  have h2 := rem_none hr
  unfold remL at *
  rw [List.filter_append, h1, List.filter_cons, h2]
  simp [hy]
theorem srt_mid {p r : List Ln} {y : Ln} (h : Srt (p ++ y :: r)) : (∀ l ∈ p, ltW l.1 y.1 = true) ∧ (∀ l ∈ r, ltW y.1 l.1 = true) := by
  obtain ⟨h1, h2, h3⟩ := List.pairwise_append.1 h
  exact ⟨fun l hl => h3 l hl y (by simp), fun l hl => (List.pairwise_cons.1 h2).1 l hl⟩
theorem ins_mid {a : ByteArray} (c : Int) {r : List Ln} {y : Ln} (hy : y.1 = a) (hr : ∀ l ∈ r, l.1 ≠ a) : ∀ (p : List Ln), (∀ l ∈ p, ltW l.1 a = true) → insL a c (p ++ y :: r) = p ++ (a, c) :: r := by
  intro p
  induction p with
  | nil =>
    intro _
    simp only [List.nil_append, insL, hy, decide_true, Bool.or_true, if_true]
    congr 1
    exact rem_mid (p := []) hy (by simp) hr
  | cons l p ih =>
    intro hp
    have h1 := hp l (by simp)
    have h2 := ltW_asym h1
    have h3 : ¬ a = l.1 := fun e => ltW_ne h1 e.symm
    simp only [List.cons_append, insL, h2, h3, decide_false, Bool.or_false, Bool.false_eq_true, if_false, ih (fun x hx => hp x (by simp [hx]))]
/-- where an article is not there yet -/
theorem ins_add {a : ByteArray} (c : Int) : ∀ (xs : List Ln), Srt xs → (∀ l ∈ xs, l.1 ≠ a) → insL a c xs = addA a c xs := by
  intro xs
  induction xs with
  | nil => intro _ _; rfl
  | cons l r ih =>
    intro hs h
    obtain ⟨h1, h2⟩ := List.pairwise_cons.1 hs
    have h3 := h l (by simp)
    have h4 : ¬ a = l.1 := fun e => h3 e.symm
    rcases ltW_tot l.1 a with q | q | q
    · simp only [insL, addA, q, ltW_asym q, h4, decide_false, Bool.or_false, Bool.false_eq_true, if_false, if_true, ih h2 (fun x hx => h x (by simp [hx]))]
    · exact absurd q h3
    · simp only [insL, addA, q, ltW_asym q, h3, Bool.true_or, if_true, Bool.false_eq_true, if_false]
      rw [rem_none h]
theorem add_mid {a : ByteArray} (c : Int) {r : List Ln} {y : Ln} (hy : y.1 = a) : ∀ (p : List Ln), (∀ l ∈ p, ltW l.1 a = true) → addA a c (p ++ y :: r) = p ++ (a, c + y.2) :: r := by
  intro p
  induction p with
  | nil => intro _; simp [addA, hy, ltW_irr]
  | cons l p ih => intro hp; simp only [List.cons_append, addA, hp l (by simp), if_true, ih (fun x hx => hp x (by simp [hx]))]
theorem mem_add {a : ByteArray} {c : Int} {x : Ln} : ∀ (xs : List Ln), x ∈ addA a c xs → x = (a, c) ∨ (∃ l ∈ xs, l.1 = a ∧ x = (a, c + l.2)) ∨ x ∈ xs := by
  intro xs
  induction xs with
  | nil => intro h; simp only [addA, List.mem_singleton] at h; exact .inl h
  | cons l r ih =>
    intro h
    simp only [addA] at h
    split at h
    · rcases List.mem_cons.1 h with rfl | h
      · exact .inr (.inr (by simp))
      · rcases ih h with h | ⟨y, h1, h2⟩ | h
        · exact .inl h
        · exact .inr (.inl ⟨y, by simp [h1], h2⟩)
        · exact .inr (.inr (by simp [h]))
    · split at h
      · rename_i he
        rcases List.mem_cons.1 h with rfl | h
        · exact .inr (.inl ⟨l, by simp, he, rfl⟩)
        · exact .inr (.inr (by simp [h]))
      · rcases List.mem_cons.1 h with rfl | h
        · exact .inl rfl
        · exact .inr (.inr h)
theorem add_srt {a : ByteArray} {c : Int} : ∀ (xs : List Ln), Srt xs → Srt (addA a c xs) := by
  intro xs
  induction xs with
  | nil => intro _; exact List.pairwise_singleton _ _
  | cons l r ih =>
    intro hs
    obtain ⟨h1, h2⟩ := List.pairwise_cons.1 hs
    simp only [addA]
    split
    · rename_i h
      refine List.pairwise_cons.2 ⟨fun x hx => ?_, ih h2⟩
      rcases mem_add r hx with rfl | ⟨y, _, h3, rfl⟩ | h3
      · exact h
      · exact h
      · exact h1 x h3
    · rename_i h
      split
      · rename_i he
        exact List.pairwise_cons.2 ⟨fun x hx => by rw [← he]; exact h1 x hx, h2⟩
      · rename_i he
        have hlt : ltW a l.1 = true := ltW_not (by simpa using h) he
        refine List.pairwise_cons.2 ⟨fun x hx => ?_, hs⟩
        rcases List.mem_cons.1 hx with rfl | hx
        · exact hlt
        · exact ltW_trans hlt (h1 x hx)
theorem add_len {a : ByteArray} {c : Int} : ∀ (xs : List Ln), (addA a c xs).length ≤ xs.length + 1 := by
  intro xs
  induction xs with
  | nil => simp [addA]
  | cons l r ih =>
    simp only [addA]
    split
    · simp only [List.length_cons]; omega
    · split <;> simp
end Go.Pl

namespace Go.Pl
open Go.Ev
set_option linter.unusedVariables false
noncomputable section
def impl_CutLine.top (p0 : ByteArray × Int × List (ByteArray × Int)) (article1 : ByteArray) : Option ((ByteArray × Int × List (ByteArray × Int)) × Int) :=
  (impl_IsPaper.f p0).bind fun r1 =>
  if (!r1) = false then
    (impl_IsWord.f article1).bind fun r2 =>
    if (!r2) = true then
      some ((ByteArray.empty, (0, [])), 1)
    else
      (impl_countIn.f p0.2.2 article1).bind fun r3 =>
      if ((r3 : Int) == 0) = true then
        some ((ByteArray.empty, (0, [])), 4)
      else
        (impl_putLine.f p0.2.2 article1 0).bind fun r4 =>
        (impl_withLines.f p0 r4).bind fun r5 =>
        some ((r5.1, (r5.2.1, r5.2.2)), 0)
  else
    some ((ByteArray.empty, (0, [])), 1)
def impl_CutLine.fn (n : Nat) (p0 : ByteArray × Int × List (ByteArray × Int)) (article1 : ByteArray) : Option ((ByteArray × Int × List (ByteArray × Int)) × Int) := impl_CutLine.top p0 article1
def impl_CutLine.f (p0 : ByteArray × Int × List (ByteArray × Int)) (article1 : ByteArray) : Option ((ByteArray × Int × List (ByteArray × Int)) × Int) := impl_CutLine.fn NN p0 article1
end
end Go.Pl

namespace Go.Pl
open Go.Ev
set_option linter.unusedVariables false
noncomputable section
def spec_CutLine.top (p0 : ByteArray × Int × List (ByteArray × Int)) (article1 : ByteArray) : Option ((ByteArray × Int × List (ByteArray × Int)) × Int) :=
  (spec_IsPaper.f p0).bind fun r1 =>
  if (!r1) = false then
    (spec_IsWord.f article1).bind fun r2 =>
    if (!r2) = true then
      some ((ByteArray.empty, (0, [])), 1)
    else
      (spec_l29Find.f p0 article1).bind fun r3 =>
      if (decide ((r3 : Int) < 0)) = true then
        some ((ByteArray.empty, (0, [])), 4)
      else
        agree (
          agree (
            agree (
              agree (
                if (0 : Int) ≤ r3 ∧ (r3 : Int) ≤ p0.2.2.length then
                  agree (
                    if ([] : List (ByteArray × Int)).length + (p0.2.2.take (r3 : Int).toNat).length < room 24 then
                      if (0 : Int) ≤ (IntKind.i64.wrap (r3 + 1)) ∧ ((IntKind.i64.wrap (r3 + 1)) : Int) ≤ p0.2.2.length then
                        if (([] : List (ByteArray × Int)) ++ (p0.2.2.take (r3 : Int).toNat)).length + (p0.2.2.drop ((IntKind.i64.wrap (r3 + 1)) : Int).toNat).length < room 24 then
                          some ((p0.1, (p0.2.1, (([] : List (ByteArray × Int)) ++ (p0.2.2.take (r3 : Int).toNat)) ++ (p0.2.2.drop ((IntKind.i64.wrap (r3 + 1)) : Int).toNat))), 0)
                        else
                          none
                      else
                        none
                    else
                      none
                  ) (
                    if (0 : Int) ≤ (IntKind.i64.wrap (r3 + 1)) ∧ ((IntKind.i64.wrap (r3 + 1)) : Int) ≤ p0.2.2.length then
                      if ([] : List (ByteArray × Int)).length + (p0.2.2.take (r3 : Int).toNat).length < room 24 then
                        if (([] : List (ByteArray × Int)) ++ (p0.2.2.take (r3 : Int).toNat)).length + (p0.2.2.drop ((IntKind.i64.wrap (r3 + 1)) : Int).toNat).length < room 24 then
                          some ((p0.1, (p0.2.1, (([] : List (ByteArray × Int)) ++ (p0.2.2.take (r3 : Int).toNat)) ++ (p0.2.2.drop ((IntKind.i64.wrap (r3 + 1)) : Int).toNat))), 0)
                        else
                          none
                      else
                        none
                    else
                      none
                  )
                else
                  none
              ) (
                if (0 : Int) ≤ (IntKind.i64.wrap (r3 + 1)) ∧ ((IntKind.i64.wrap (r3 + 1)) : Int) ≤ p0.2.2.length then
                  if (0 : Int) ≤ r3 ∧ (r3 : Int) ≤ p0.2.2.length then
                    if ([] : List (ByteArray × Int)).length + (p0.2.2.take (r3 : Int).toNat).length < room 24 then
                      if (([] : List (ByteArray × Int)) ++ (p0.2.2.take (r3 : Int).toNat)).length + (p0.2.2.drop ((IntKind.i64.wrap (r3 + 1)) : Int).toNat).length < room 24 then
                        some ((p0.1, (p0.2.1, (([] : List (ByteArray × Int)) ++ (p0.2.2.take (r3 : Int).toNat)) ++ (p0.2.2.drop ((IntKind.i64.wrap (r3 + 1)) : Int).toNat))), 0)
                      else
                        none
                    else
                      none
                  else
                    none
                else
                  none
              )
            ) (
              agree (
                if (0 : Int) ≤ r3 ∧ (r3 : Int) ≤ p0.2.2.length then
                  agree (
                    agree (
                      if ([] : List (ByteArray × Int)).length + (p0.2.2.take (r3 : Int).toNat).length < room 24 then
                        if (0 : Int) ≤ (IntKind.i64.wrap (r3 + 1)) ∧ ((IntKind.i64.wrap (r3 + 1)) : Int) ≤ p0.2.2.length then
                          if (([] : List (ByteArray × Int)) ++ (p0.2.2.take (r3 : Int).toNat)).length + (p0.2.2.drop ((IntKind.i64.wrap (r3 + 1)) : Int).toNat).length < room 24 then
                            some ((p0.1, (p0.2.1, (([] : List (ByteArray × Int)) ++ (p0.2.2.take (r3 : Int).toNat)) ++ (p0.2.2.drop ((IntKind.i64.wrap (r3 + 1)) : Int).toNat))), 0)
                          else
                            none
                        else
                          none
                      else
                        none
                    ) (
                      if (0 : Int) ≤ (IntKind.i64.wrap (r3 + 1)) ∧ ((IntKind.i64.wrap (r3 + 1)) : Int) ≤ p0.2.2.length then
                        if ([] : List (ByteArray × Int)).length + (p0.2.2.take (r3 : Int).toNat).length < room 24 then
                          if (([] : List (ByteArray × Int)) ++ (p0.2.2.take (r3 : Int).toNat)).length + (p0.2.2.drop ((IntKind.i64.wrap (r3 + 1)) : Int).toNat).length < room 24 then
                            some ((p0.1, (p0.2.1, (([] : List (ByteArray × Int)) ++ (p0.2.2.take (r3 : Int).toNat)) ++ (p0.2.2.drop ((IntKind.i64.wrap (r3 + 1)) : Int).toNat))), 0)
                          else
                            none
                        else
                          none
                      else
                        none
                    )
                  ) (
                    if (0 : Int) ≤ (IntKind.i64.wrap (r3 + 1)) ∧ ((IntKind.i64.wrap (r3 + 1)) : Int) ≤ p0.2.2.length then
                      if ([] : List (ByteArray × Int)).length + (p0.2.2.take (r3 : Int).toNat).length < room 24 then
                        if (([] : List (ByteArray × Int)) ++ (p0.2.2.take (r3 : Int).toNat)).length + (p0.2.2.drop ((IntKind.i64.wrap (r3 + 1)) : Int).toNat).length < room 24 then
                          some ((p0.1, (p0.2.1, (([] : List (ByteArray × Int)) ++ (p0.2.2.take (r3 : Int).toNat)) ++ (p0.2.2.drop ((IntKind.i64.wrap (r3 + 1)) : Int).toNat))), 0)
                        else
                          none
                      else
                        none
                    else
                      none
                  )
                else
                  none
              ) (
                if (0 : Int) ≤ (IntKind.i64.wrap (r3 + 1)) ∧ ((IntKind.i64.wrap (r3 + 1)) : Int) ≤ p0.2.2.length then
                  if (0 : Int) ≤ r3 ∧ (r3 : Int) ≤ p0.2.2.length then
                    if ([] : List (ByteArray × Int)).length + (p0.2.2.take (r3 : Int).toNat).length < room 24 then
                      if (([] : List (ByteArray × Int)) ++ (p0.2.2.take (r3 : Int).toNat)).length + (p0.2.2.drop ((IntKind.i64.wrap (r3 + 1)) : Int).toNat).length < room 24 then
                        some ((p0.1, (p0.2.1, (([] : List (ByteArray × Int)) ++ (p0.2.2.take (r3 : Int).toNat)) ++ (p0.2.2.drop ((IntKind.i64.wrap (r3 + 1)) : Int).toNat))), 0)
                      else
                        none
                    else
                      none
                  else
                    none
                else
                  none
              )
            )
          ) (
            agree (
              agree (
                agree (
                  if (0 : Int) ≤ r3 ∧ (r3 : Int) ≤ p0.2.2.length then
                    agree (
                      if ([] : List (ByteArray × Int)).length + (p0.2.2.take (r3 : Int).toNat).length < room 24 then
                        if (0 : Int) ≤ (IntKind.i64.wrap (r3 + 1)) ∧ ((IntKind.i64.wrap (r3 + 1)) : Int) ≤ p0.2.2.length then
                          if (([] : List (ByteArray × Int)) ++ (p0.2.2.take (r3 : Int).toNat)).length + (p0.2.2.drop ((IntKind.i64.wrap (r3 + 1)) : Int).toNat).length < room 24 then
                            some ((p0.1, (p0.2.1, (([] : List (ByteArray × Int)) ++ (p0.2.2.take (r3 : Int).toNat)) ++ (p0.2.2.drop ((IntKind.i64.wrap (r3 + 1)) : Int).toNat))), 0)
                          else
                            none
                        else
                          none
                      else
                        none
                    ) (
                      if (0 : Int) ≤ (IntKind.i64.wrap (r3 + 1)) ∧ ((IntKind.i64.wrap (r3 + 1)) : Int) ≤ p0.2.2.length then
                        if ([] : List (ByteArray × Int)).length + (p0.2.2.take (r3 : Int).toNat).length < room 24 then
                          if (([] : List (ByteArray × Int)) ++ (p0.2.2.take (r3 : Int).toNat)).length + (p0.2.2.drop ((IntKind.i64.wrap (r3 + 1)) : Int).toNat).length < room 24 then
                            some ((p0.1, (p0.2.1, (([] : List (ByteArray × Int)) ++ (p0.2.2.take (r3 : Int).toNat)) ++ (p0.2.2.drop ((IntKind.i64.wrap (r3 + 1)) : Int).toNat))), 0)
                          else
                            none
                        else
                          none
                      else
                        none
                    )
                  else
                    none
                ) (
                  if (0 : Int) ≤ (IntKind.i64.wrap (r3 + 1)) ∧ ((IntKind.i64.wrap (r3 + 1)) : Int) ≤ p0.2.2.length then
                    if (0 : Int) ≤ r3 ∧ (r3 : Int) ≤ p0.2.2.length then
                      if ([] : List (ByteArray × Int)).length + (p0.2.2.take (r3 : Int).toNat).length < room 24 then
                        if (([] : List (ByteArray × Int)) ++ (p0.2.2.take (r3 : Int).toNat)).length + (p0.2.2.drop ((IntKind.i64.wrap (r3 + 1)) : Int).toNat).length < room 24 then
                          some ((p0.1, (p0.2.1, (([] : List (ByteArray × Int)) ++ (p0.2.2.take (r3 : Int).toNat)) ++ (p0.2.2.drop ((IntKind.i64.wrap (r3 + 1)) : Int).toNat))), 0)
                        else
                          none
                      else
                        none
                    else
                      none
                  else
                    none
                )
              ) (
                agree (
                  if (0 : Int) ≤ r3 ∧ (r3 : Int) ≤ p0.2.2.length then
                    agree (
                      agree (
                        if ([] : List (ByteArray × Int)).length + (p0.2.2.take (r3 : Int).toNat).length < room 24 then
                          if (0 : Int) ≤ (IntKind.i64.wrap (r3 + 1)) ∧ ((IntKind.i64.wrap (r3 + 1)) : Int) ≤ p0.2.2.length then
                            if (([] : List (ByteArray × Int)) ++ (p0.2.2.take (r3 : Int).toNat)).length + (p0.2.2.drop ((IntKind.i64.wrap (r3 + 1)) : Int).toNat).length < room 24 then
                              some ((p0.1, (p0.2.1, (([] : List (ByteArray × Int)) ++ (p0.2.2.take (r3 : Int).toNat)) ++ (p0.2.2.drop ((IntKind.i64.wrap (r3 + 1)) : Int).toNat))), 0)
                            else
                              none
                          else
                            none
                        else
                          none
                      ) (
                        if (0 : Int) ≤ (IntKind.i64.wrap (r3 + 1)) ∧ ((IntKind.i64.wrap (r3 + 1)) : Int) ≤ p0.2.2.length then
                          if ([] : List (ByteArray × Int)).length + (p0.2.2.take (r3 : Int).toNat).length < room 24 then
                            if (([] : List (ByteArray × Int)) ++ (p0.2.2.take (r3 : Int).toNat)).length + (p0.2.2.drop ((IntKind.i64.wrap (r3 + 1)) : Int).toNat).length < room 24 then
                              some ((p0.1, (p0.2.1, (([] : List (ByteArray × Int)) ++ (p0.2.2.take (r3 : Int).toNat)) ++ (p0.2.2.drop ((IntKind.i64.wrap (r3 + 1)) : Int).toNat))), 0)
                            else
                              none
                          else
                            none
                        else
                          none
                      )
                    ) (
                      agree (
                        if ([] : List (ByteArray × Int)).length + (p0.2.2.take (r3 : Int).toNat).length < room 24 then
                          if (0 : Int) ≤ (IntKind.i64.wrap (r3 + 1)) ∧ ((IntKind.i64.wrap (r3 + 1)) : Int) ≤ p0.2.2.length then
                            if (([] : List (ByteArray × Int)) ++ (p0.2.2.take (r3 : Int).toNat)).length + (p0.2.2.drop ((IntKind.i64.wrap (r3 + 1)) : Int).toNat).length < room 24 then
                              some ((p0.1, (p0.2.1, (([] : List (ByteArray × Int)) ++ (p0.2.2.take (r3 : Int).toNat)) ++ (p0.2.2.drop ((IntKind.i64.wrap (r3 + 1)) : Int).toNat))), 0)
                            else
                              none
                          else
                            none
                        else
                          none
                      ) (
                        if (0 : Int) ≤ (IntKind.i64.wrap (r3 + 1)) ∧ ((IntKind.i64.wrap (r3 + 1)) : Int) ≤ p0.2.2.length then
                          if ([] : List (ByteArray × Int)).length + (p0.2.2.take (r3 : Int).toNat).length < room 24 then
                            if (([] : List (ByteArray × Int)) ++ (p0.2.2.take (r3 : Int).toNat)).length + (p0.2.2.drop ((IntKind.i64.wrap (r3 + 1)) : Int).toNat).length < room 24 then
                              some ((p0.1, (p0.2.1, (([] : List (ByteArray × Int)) ++ (p0.2.2.take (r3 : Int).toNat)) ++ (p0.2.2.drop ((IntKind.i64.wrap (r3 + 1)) : Int).toNat))), 0)
                            else
                              none
                          else
                            none
                        else
                          none
                      )
                    )
                  else
                    none
                ) (
                  if (0 : Int) ≤ (IntKind.i64.wrap (r3 + 1)) ∧ ((IntKind.i64.wrap (r3 + 1)) : Int) ≤ p0.2.2.length then
                    if (0 : Int) ≤ r3 ∧ (r3 : Int) ≤ p0.2.2.length then
                      if ([] : List (ByteArray × Int)).length + (p0.2.2.take (r3 : Int).toNat).length < room 24 then
                        if (([] : List (ByteArray × Int)) ++ (p0.2.2.take (r3 : Int).toNat)).length + (p0.2.2.drop ((IntKind.i64.wrap (r3 + 1)) : Int).toNat).length < room 24 then
                          some ((p0.1, (p0.2.1, (([] : List (ByteArray × Int)) ++ (p0.2.2.take (r3 : Int).toNat)) ++ (p0.2.2.drop ((IntKind.i64.wrap (r3 + 1)) : Int).toNat))), 0)
                        else
                          none
                      else
                        none
                    else
                      none
                  else
                    none
                )
              )
            ) (
              agree (
                if (0 : Int) ≤ r3 ∧ (r3 : Int) ≤ p0.2.2.length then
                  agree (
                    agree (
                      agree (
                        if ([] : List (ByteArray × Int)).length + (p0.2.2.take (r3 : Int).toNat).length < room 24 then
                          if (0 : Int) ≤ (IntKind.i64.wrap (r3 + 1)) ∧ ((IntKind.i64.wrap (r3 + 1)) : Int) ≤ p0.2.2.length then
                            if (([] : List (ByteArray × Int)) ++ (p0.2.2.take (r3 : Int).toNat)).length + (p0.2.2.drop ((IntKind.i64.wrap (r3 + 1)) : Int).toNat).length < room 24 then
                              some ((p0.1, (p0.2.1, (([] : List (ByteArray × Int)) ++ (p0.2.2.take (r3 : Int).toNat)) ++ (p0.2.2.drop ((IntKind.i64.wrap (r3 + 1)) : Int).toNat))), 0)
                            else
                              none
                          else
                            none
                        else
                          none
                      ) (
                        if (0 : Int) ≤ (IntKind.i64.wrap (r3 + 1)) ∧ ((IntKind.i64.wrap (r3 + 1)) : Int) ≤ p0.2.2.length then
                          if ([] : List (ByteArray × Int)).length + (p0.2.2.take (r3 : Int).toNat).length < room 24 then
                            if (([] : List (ByteArray × Int)) ++ (p0.2.2.take (r3 : Int).toNat)).length + (p0.2.2.drop ((IntKind.i64.wrap (r3 + 1)) : Int).toNat).length < room 24 then
                              some ((p0.1, (p0.2.1, (([] : List (ByteArray × Int)) ++ (p0.2.2.take (r3 : Int).toNat)) ++ (p0.2.2.drop ((IntKind.i64.wrap (r3 + 1)) : Int).toNat))), 0)
                            else
                              none
                          else
                            none
                        else
                          none
                      )
                    ) (
                      if (0 : Int) ≤ (IntKind.i64.wrap (r3 + 1)) ∧ ((IntKind.i64.wrap (r3 + 1)) : Int) ≤ p0.2.2.length then
                        if ([] : List (ByteArray × Int)).length + (p0.2.2.take (r3 : Int).toNat).length < room 24 then
                          if (([] : List (ByteArray × Int)) ++ (p0.2.2.take (r3 : Int).toNat)).length + (p0.2.2.drop ((IntKind.i64.wrap (r3 + 1)) : Int).toNat).length < room 24 then
                            some ((p0.1, (p0.2.1, (([] : List (ByteArray × Int)) ++ (p0.2.2.take (r3 : Int).toNat)) ++ (p0.2.2.drop ((IntKind.i64.wrap (r3 + 1)) : Int).toNat))), 0)
                          else
                            none
                        else
                          none
                      else
                        none
                    )
                  ) (
                    agree (
                      agree (
                        agree (
                          if ([] : List (ByteArray × Int)).length + (p0.2.2.take (r3 : Int).toNat).length < room 24 then
                            if (0 : Int) ≤ (IntKind.i64.wrap (r3 + 1)) ∧ ((IntKind.i64.wrap (r3 + 1)) : Int) ≤ p0.2.2.length then
                              if (([] : List (ByteArray × Int)) ++ (p0.2.2.take (r3 : Int).toNat)).length + (p0.2.2.drop ((IntKind.i64.wrap (r3 + 1)) : Int).toNat).length < room 24 then
                                some ((p0.1, (p0.2.1, (([] : List (ByteArray × Int)) ++ (p0.2.2.take (r3 : Int).toNat)) ++ (p0.2.2.drop ((IntKind.i64.wrap (r3 + 1)) : Int).toNat))), 0)
                              else
                                none
                            else
                              none
                          else
                            none
                        ) (
                          if (0 : Int) ≤ (IntKind.i64.wrap (r3 + 1)) ∧ ((IntKind.i64.wrap (r3 + 1)) : Int) ≤ p0.2.2.length then
                            if ([] : List (ByteArray × Int)).length + (p0.2.2.take (r3 : Int).toNat).length < room 24 then
                              if (([] : List (ByteArray × Int)) ++ (p0.2.2.take (r3 : Int).toNat)).length + (p0.2.2.drop ((IntKind.i64.wrap (r3 + 1)) : Int).toNat).length < room 24 then
                                some ((p0.1, (p0.2.1, (([] : List (ByteArray × Int)) ++ (p0.2.2.take (r3 : Int).toNat)) ++ (p0.2.2.drop ((IntKind.i64.wrap (r3 + 1)) : Int).toNat))), 0)
                              else
                                none
                            else
                              none
                          else
                            none
                        )
                      ) (
                        agree (
                          if ([] : List (ByteArray × Int)).length + (p0.2.2.take (r3 : Int).toNat).length < room 24 then
                            if (0 : Int) ≤ (IntKind.i64.wrap (r3 + 1)) ∧ ((IntKind.i64.wrap (r3 + 1)) : Int) ≤ p0.2.2.length then
                              if (([] : List (ByteArray × Int)) ++ (p0.2.2.take (r3 : Int).toNat)).length + (p0.2.2.drop ((IntKind.i64.wrap (r3 + 1)) : Int).toNat).length < room 24 then
                                some ((p0.1, (p0.2.1, (([] : List (ByteArray × Int)) ++ (p0.2.2.take (r3 : Int).toNat)) ++ (p0.2.2.drop ((IntKind.i64.wrap (r3 + 1)) : Int).toNat))), 0)
                              else
                                none
                            else
                              none
                          else
                            none
                        ) (
                          if (0 : Int) ≤ (IntKind.i64.wrap (r3 + 1)) ∧ ((IntKind.i64.wrap (r3 + 1)) : Int) ≤ p0.2.2.length then
                            if ([] : List (ByteArray × Int)).length + (p0.2.2.take (r3 : Int).toNat).length < room 24 then
                              if (([] : List (ByteArray × Int)) ++ (p0.2.2.take (r3 : Int).toNat)).length + (p0.2.2.drop ((IntKind.i64.wrap (r3 + 1)) : Int).toNat).length < room 24 then
                                some ((p0.1, (p0.2.1, (([] : List (ByteArray × Int)) ++ (p0.2.2.take (r3 : Int).toNat)) ++ (p0.2.2.drop ((IntKind.i64.wrap (r3 + 1)) : Int).toNat))), 0)
                              else
                                none
                            else
                              none
                          else
                            none
                        )
                      )
                    ) (
                      if (0 : Int) ≤ (IntKind.i64.wrap (r3 + 1)) ∧ ((IntKind.i64.wrap (r3 + 1)) : Int) ≤ p0.2.2.length then
                        if ([] : List (ByteArray × Int)).length + (p0.2.2.take (r3 : Int).toNat).length < room 24 then
                          if (([] : List (ByteArray × Int)) ++ (p0.2.2.take (r3 : Int).toNat)).length + (p0.2.2.drop ((IntKind.i64.wrap (r3 + 1)) : Int).toNat).length < room 24 then
                            some ((p0.1, (p0.2.1, (([] : List (ByteArray × Int)) ++ (p0.2.2.take (r3 : Int).toNat)) ++ (p0.2.2.drop ((IntKind.i64.wrap (r3 + 1)) : Int).toNat))), 0)
                          else
                            none
                        else
                          none
                      else
                        none
                    )
                  )
                else
                  none
              ) (
                if (0 : Int) ≤ (IntKind.i64.wrap (r3 + 1)) ∧ ((IntKind.i64.wrap (r3 + 1)) : Int) ≤ p0.2.2.length then
                  if (0 : Int) ≤ r3 ∧ (r3 : Int) ≤ p0.2.2.length then
                    if ([] : List (ByteArray × Int)).length + (p0.2.2.take (r3 : Int).toNat).length < room 24 then
                      if (([] : List (ByteArray × Int)) ++ (p0.2.2.take (r3 : Int).toNat)).length + (p0.2.2.drop ((IntKind.i64.wrap (r3 + 1)) : Int).toNat).length < room 24 then
                        some ((p0.1, (p0.2.1, (([] : List (ByteArray × Int)) ++ (p0.2.2.take (r3 : Int).toNat)) ++ (p0.2.2.drop ((IntKind.i64.wrap (r3 + 1)) : Int).toNat))), 0)
                      else
                        none
                    else
                      none
                  else
                    none
                else
                  none
              )
            )
          )
        ) (
          agree (
            agree (
              agree (
                agree (
                  if (0 : Int) ≤ r3 ∧ (r3 : Int) ≤ p0.2.2.length then
                    agree (
                      if ([] : List (ByteArray × Int)).length + (p0.2.2.take (r3 : Int).toNat).length < room 24 then
                        if (0 : Int) ≤ (IntKind.i64.wrap (r3 + 1)) ∧ ((IntKind.i64.wrap (r3 + 1)) : Int) ≤ p0.2.2.length then
                          if (([] : List (ByteArray × Int)) ++ (p0.2.2.take (r3 : Int).toNat)).length + (p0.2.2.drop ((IntKind.i64.wrap (r3 + 1)) : Int).toNat).length < room 24 then
                            some ((p0.1, (p0.2.1, (([] : List (ByteArray × Int)) ++ (p0.2.2.take (r3 : Int).toNat)) ++ (p0.2.2.drop ((IntKind.i64.wrap (r3 + 1)) : Int).toNat))), 0)
                          else
                            none
                        else
                          none
                      else
                        none
                    ) (
                      if (0 : Int) ≤ (IntKind.i64.wrap (r3 + 1)) ∧ ((IntKind.i64.wrap (r3 + 1)) : Int) ≤ p0.2.2.length then
                        if ([] : List (ByteArray × Int)).length + (p0.2.2.take (r3 : Int).toNat).length < room 24 then
                          if (([] : List (ByteArray × Int)) ++ (p0.2.2.take (r3 : Int).toNat)).length + (p0.2.2.drop ((IntKind.i64.wrap (r3 + 1)) : Int).toNat).length < room 24 then
                            some ((p0.1, (p0.2.1, (([] : List (ByteArray × Int)) ++ (p0.2.2.take (r3 : Int).toNat)) ++ (p0.2.2.drop ((IntKind.i64.wrap (r3 + 1)) : Int).toNat))), 0)
                          else
                            none
                        else
                          none
                      else
                        none
                    )
                  else
                    none
                ) (
                  if (0 : Int) ≤ (IntKind.i64.wrap (r3 + 1)) ∧ ((IntKind.i64.wrap (r3 + 1)) : Int) ≤ p0.2.2.length then
                    if (0 : Int) ≤ r3 ∧ (r3 : Int) ≤ p0.2.2.length then
                      if ([] : List (ByteArray × Int)).length + (p0.2.2.take (r3 : Int).toNat).length < room 24 then
                        if (([] : List (ByteArray × Int)) ++ (p0.2.2.take (r3 : Int).toNat)).length + (p0.2.2.drop ((IntKind.i64.wrap (r3 + 1)) : Int).toNat).length < room 24 then
                          some ((p0.1, (p0.2.1, (([] : List (ByteArray × Int)) ++ (p0.2.2.take (r3 : Int).toNat)) ++ (p0.2.2.drop ((IntKind.i64.wrap (r3 + 1)) : Int).toNat))), 0)
                        else
                          none
                      else
                        none
                    else
                      none
                  else
                    none
                )
              ) (
                agree (
                  if (0 : Int) ≤ r3 ∧ (r3 : Int) ≤ p0.2.2.length then
                    agree (
                      agree (
                        if ([] : List (ByteArray × Int)).length + (p0.2.2.take (r3 : Int).toNat).length < room 24 then
                          if (0 : Int) ≤ (IntKind.i64.wrap (r3 + 1)) ∧ ((IntKind.i64.wrap (r3 + 1)) : Int) ≤ p0.2.2.length then
                            if (([] : List (ByteArray × Int)) ++ (p0.2.2.take (r3 : Int).toNat)).length + (p0.2.2.drop ((IntKind.i64.wrap (r3 + 1)) : Int).toNat).length < room 24 then
                              some ((p0.1, (p0.2.1, (([] : List (ByteArray × Int)) ++ (p0.2.2.take (r3 : Int).toNat)) ++ (p0.2.2.drop ((IntKind.i64.wrap (r3 + 1)) : Int).toNat))), 0)
                            else
                              none
                          else
                            none
                        else
                          none
                      ) (
                        if (0 : Int) ≤ (IntKind.i64.wrap (r3 + 1)) ∧ ((IntKind.i64.wrap (r3 + 1)) : Int) ≤ p0.2.2.length then
                          if ([] : List (ByteArray × Int)).length + (p0.2.2.take (r3 : Int).toNat).length < room 24 then
                            if (([] : List (ByteArray × Int)) ++ (p0.2.2.take (r3 : Int).toNat)).length + (p0.2.2.drop ((IntKind.i64.wrap (r3 + 1)) : Int).toNat).length < room 24 then
                              some ((p0.1, (p0.2.1, (([] : List (ByteArray × Int)) ++ (p0.2.2.take (r3 : Int).toNat)) ++ (p0.2.2.drop ((IntKind.i64.wrap (r3 + 1)) : Int).toNat))), 0)
                            else
                              none
                          else
                            none
                        else
                          none
                      )
                    ) (
                      if (0 : Int) ≤ (IntKind.i64.wrap (r3 + 1)) ∧ ((IntKind.i64.wrap (r3 + 1)) : Int) ≤ p0.2.2.length then
                        if ([] : List (ByteArray × Int)).length + (p0.2.2.take (r3 : Int).toNat).length < room 24 then
                          if (([] : List (ByteArray × Int)) ++ (p0.2.2.take (r3 : Int).toNat)).length + (p0.2.2.drop ((IntKind.i64.wrap (r3 + 1)) : Int).toNat).length < room 24 then
                            some ((p0.1, (p0.2.1, (([] : List (ByteArray × Int)) ++ (p0.2.2.take (r3 : Int).toNat)) ++ (p0.2.2.drop ((IntKind.i64.wrap (r3 + 1)) : Int).toNat))), 0)
                          else
                            none
                        else
                          none
                      else
                        none
                    )
                  else
                    none
                ) (
                  if (0 : Int) ≤ (IntKind.i64.wrap (r3 + 1)) ∧ ((IntKind.i64.wrap (r3 + 1)) : Int) ≤ p0.2.2.length then
                    if (0 : Int) ≤ r3 ∧ (r3 : Int) ≤ p0.2.2.length then
                      if ([] : List (ByteArray × Int)).length + (p0.2.2.take (r3 : Int).toNat).length < room 24 then
                        if (([] : List (ByteArray × Int)) ++ (p0.2.2.take (r3 : Int).toNat)).length + (p0.2.2.drop ((IntKind.i64.wrap (r3 + 1)) : Int).toNat).length < room 24 then
                          some ((p0.1, (p0.2.1, (([] : List (ByteArray × Int)) ++ (p0.2.2.take (r3 : Int).toNat)) ++ (p0.2.2.drop ((IntKind.i64.wrap (r3 + 1)) : Int).toNat))), 0)
                        else
                          none
                      else
                        none
                    else
                      none
                  else
                    none
                )
              )
            ) (
              agree (
                agree (
                  agree (
                    if (0 : Int) ≤ r3 ∧ (r3 : Int) ≤ p0.2.2.length then
                      agree (
                        if ([] : List (ByteArray × Int)).length + (p0.2.2.take (r3 : Int).toNat).length < room 24 then
                          if (0 : Int) ≤ (IntKind.i64.wrap (r3 + 1)) ∧ ((IntKind.i64.wrap (r3 + 1)) : Int) ≤ p0.2.2.length then
                            if (([] : List (ByteArray × Int)) ++ (p0.2.2.take (r3 : Int).toNat)).length + (p0.2.2.drop ((IntKind.i64.wrap (r3 + 1)) : Int).toNat).length < room 24 then
                              some ((p0.1, (p0.2.1, (([] : List (ByteArray × Int)) ++ (p0.2.2.take (r3 : Int).toNat)) ++ (p0.2.2.drop ((IntKind.i64.wrap (r3 + 1)) : Int).toNat))), 0)
                            else
                              none
                          else
                            none
                        else
                          none
                      ) (
                        if (0 : Int) ≤ (IntKind.i64.wrap (r3 + 1)) ∧ ((IntKind.i64.wrap (r3 + 1)) : Int) ≤ p0.2.2.length then
                          if ([] : List (ByteArray × Int)).length + (p0.2.2.take (r3 : Int).toNat).length < room 24 then
                            if (([] : List (ByteArray × Int)) ++ (p0.2.2.take (r3 : Int).toNat)).length + (p0.2.2.drop ((IntKind.i64.wrap (r3 + 1)) : Int).toNat).length < room 24 then
                              some ((p0.1, (p0.2.1, (([] : List (ByteArray × Int)) ++ (p0.2.2.take (r3 : Int).toNat)) ++ (p0.2.2.drop ((IntKind.i64.wrap (r3 + 1)) : Int).toNat))), 0)
                            else
                              none
                          else
                            none
                        else
                          none
                      )
                    else
                      none
                  ) (
                    if (0 : Int) ≤ (IntKind.i64.wrap (r3 + 1)) ∧ ((IntKind.i64.wrap (r3 + 1)) : Int) ≤ p0.2.2.length then
                      if (0 : Int) ≤ r3 ∧ (r3 : Int) ≤ p0.2.2.length then
                        if ([] : List (ByteArray × Int)).length + (p0.2.2.take (r3 : Int).toNat).length < room 24 then
                          if (([] : List (ByteArray × Int)) ++ (p0.2.2.take (r3 : Int).toNat)).length + (p0.2.2.drop ((IntKind.i64.wrap (r3 + 1)) : Int).toNat).length < room 24 then
                            some ((p0.1, (p0.2.1, (([] : List (ByteArray × Int)) ++ (p0.2.2.take (r3 : Int).toNat)) ++ (p0.2.2.drop ((IntKind.i64.wrap (r3 + 1)) : Int).toNat))), 0)
                          else
                            none
                        else
                          none
                      else
                        none
                    else
                      none
                  )
                ) (
                  agree (
                    if (0 : Int) ≤ r3 ∧ (r3 : Int) ≤ p0.2.2.length then
                      agree (
                        agree (
                          if ([] : List (ByteArray × Int)).length + (p0.2.2.take (r3 : Int).toNat).length < room 24 then
                            if (0 : Int) ≤ (IntKind.i64.wrap (r3 + 1)) ∧ ((IntKind.i64.wrap (r3 + 1)) : Int) ≤ p0.2.2.length then
                              if (([] : List (ByteArray × Int)) ++ (p0.2.2.take (r3 : Int).toNat)).length + (p0.2.2.drop ((IntKind.i64.wrap (r3 + 1)) : Int).toNat).length < room 24 then
                                some ((p0.1, (p0.2.1, (([] : List (ByteArray × Int)) ++ (p0.2.2.take (r3 : Int).toNat)) ++ (p0.2.2.drop ((IntKind.i64.wrap (r3 + 1)) : Int).toNat))), 0)
                              else
                                none
                            else
                              none
                          else
                            none
                        ) (
                          if (0 : Int) ≤ (IntKind.i64.wrap (r3 + 1)) ∧ ((IntKind.i64.wrap (r3 + 1)) : Int) ≤ p0.2.2.length then
                            if ([] : List (ByteArray × Int)).length + (p0.2.2.take (r3 : Int).toNat).length < room 24 then
                              if (([] : List (ByteArray × Int)) ++ (p0.2.2.take (r3 : Int).toNat)).length + (p0.2.2.drop ((IntKind.i64.wrap (r3 + 1)) : Int).toNat).length < room 24 then
                                some ((p0.1, (p0.2.1, (([] : List (ByteArray × Int)) ++ (p0.2.2.take (r3 : Int).toNat)) ++ (p0.2.2.drop ((IntKind.i64.wrap (r3 + 1)) : Int).toNat))), 0)
                              else
                                none
                            else
                              none
                          else
                            none
                        )
                      ) (
                        agree (
                          if ([] : List (ByteArray × Int)).length + (p0.2.2.take (r3 : Int).toNat).length < room 24 then
                            if (0 : Int) ≤ (IntKind.i64.wrap (r3 + 1)) ∧ ((IntKind.i64.wrap (r3 + 1)) : Int) ≤ p0.2.2.length then
                              if (([] : List (ByteArray × Int)) ++ (p0.2.2.take (r3 : Int).toNat)).length + (p0.2.2.drop ((IntKind.i64.wrap (r3 + 1)) : Int).toNat).length < room 24 then
                                some ((p0.1, (p0.2.1, (([] : List (ByteArray × Int)) ++ (p0.2.2.take (r3 : Int).toNat)) ++ (p0.2.2.drop ((IntKind.i64.wrap (r3 + 1)) : Int).toNat))), 0)
                              else
                                none
                            else
                              none
                          else
                            none
                        ) (
                          if (0 : Int) ≤ (IntKind.i64.wrap (r3 + 1)) ∧ ((IntKind.i64.wrap (r3 + 1)) : Int) ≤ p0.2.2.length then
                            if ([] : List (ByteArray × Int)).length + (p0.2.2.take (r3 : Int).toNat).length < room 24 then
                              if (([] : List (ByteArray × Int)) ++ (p0.2.2.take (r3 : Int).toNat)).length + (p0.2.2.drop ((IntKind.i64.wrap (r3 + 1)) : Int).toNat).length < room 24 then
                                some ((p0.1, (p0.2.1, (([] : List (ByteArray × Int)) ++ (p0.2.2.take (r3 : Int).toNat)) ++ (p0.2.2.drop ((IntKind.i64.wrap (r3 + 1)) : Int).toNat))), 0)
                              else
                                none
                            else
                              none
                          else
                            none
                        )
                      )
                    else
                      none
                  ) (
                    if (0 : Int) ≤ (IntKind.i64.wrap (r3 + 1)) ∧ ((IntKind.i64.wrap (r3 + 1)) : Int) ≤ p0.2.2.length then
                      if (0 : Int) ≤ r3 ∧ (r3 : Int) ≤ p0.2.2.length then
                        if ([] : List (ByteArray × Int)).length + (p0.2.2.take (r3 : Int).toNat).length < room 24 then
                          if (([] : List (ByteArray × Int)) ++ (p0.2.2.take (r3 : Int).toNat)).length + (p0.2.2.drop ((IntKind.i64.wrap (r3 + 1)) : Int).toNat).length < room 24 then
                            some ((p0.1, (p0.2.1, (([] : List (ByteArray × Int)) ++ (p0.2.2.take (r3 : Int).toNat)) ++ (p0.2.2.drop ((IntKind.i64.wrap (r3 + 1)) : Int).toNat))), 0)
                          else
                            none
                        else
                          none
                      else
                        none
                    else
                      none
                  )
                )
              ) (
                agree (
                  if (0 : Int) ≤ r3 ∧ (r3 : Int) ≤ p0.2.2.length then
                    agree (
                      agree (
                        agree (
                          if ([] : List (ByteArray × Int)).length + (p0.2.2.take (r3 : Int).toNat).length < room 24 then
                            if (0 : Int) ≤ (IntKind.i64.wrap (r3 + 1)) ∧ ((IntKind.i64.wrap (r3 + 1)) : Int) ≤ p0.2.2.length then
                              if (([] : List (ByteArray × Int)) ++ (p0.2.2.take (r3 : Int).toNat)).length + (p0.2.2.drop ((IntKind.i64.wrap (r3 + 1)) : Int).toNat).length < room 24 then
                                some ((p0.1, (p0.2.1, (([] : List (ByteArray × Int)) ++ (p0.2.2.take (r3 : Int).toNat)) ++ (p0.2.2.drop ((IntKind.i64.wrap (r3 + 1)) : Int).toNat))), 0)
                              else
                                none
                            else
                              none
                          else
                            none
                        ) (
                          if (0 : Int) ≤ (IntKind.i64.wrap (r3 + 1)) ∧ ((IntKind.i64.wrap (r3 + 1)) : Int) ≤ p0.2.2.length then
                            if ([] : List (ByteArray × Int)).length + (p0.2.2.take (r3 : Int).toNat).length < room 24 then
                              if (([] : List (ByteArray × Int)) ++ (p0.2.2.take (r3 : Int).toNat)).length + (p0.2.2.drop ((IntKind.i64.wrap (r3 + 1)) : Int).toNat).length < room 24 then
                                some ((p0.1, (p0.2.1, (([] : List (ByteArray × Int)) ++ (p0.2.2.take (r3 : Int).toNat)) ++ (p0.2.2.drop ((IntKind.i64.wrap (r3 + 1)) : Int).toNat))), 0)
                              else
                                none
                            else
                              none
                          else
                            none
                        )
                      ) (
                        if (0 : Int) ≤ (IntKind.i64.wrap (r3 + 1)) ∧ ((IntKind.i64.wrap (r3 + 1)) : Int) ≤ p0.2.2.length then
                          if ([] : List (ByteArray × Int)).length + (p0.2.2.take (r3 : Int).toNat).length < room 24 then
                            if (([] : List (ByteArray × Int)) ++ (p0.2.2.take (r3 : Int).toNat)).length + (p0.2.2.drop ((IntKind.i64.wrap (r3 + 1)) : Int).toNat).length < room 24 then
                              some ((p0.1, (p0.2.1, (([] : List (ByteArray × Int)) ++ (p0.2.2.take (r3 : Int).toNat)) ++ (p0.2.2.drop ((IntKind.i64.wrap (r3 + 1)) : Int).toNat))), 0)
                            else
                              none
                          else
                            none
                        else
                          none
                      )
                    ) (
                      agree (
                        agree (
                          agree (
                            if ([] : List (ByteArray × Int)).length + (p0.2.2.take (r3 : Int).toNat).length < room 24 then
                              if (0 : Int) ≤ (IntKind.i64.wrap (r3 + 1)) ∧ ((IntKind.i64.wrap (r3 + 1)) : Int) ≤ p0.2.2.length then
                                if (([] : List (ByteArray × Int)) ++ (p0.2.2.take (r3 : Int).toNat)).length + (p0.2.2.drop ((IntKind.i64.wrap (r3 + 1)) : Int).toNat).length < room 24 then
                                  some ((p0.1, (p0.2.1, (([] : List (ByteArray × Int)) ++ (p0.2.2.take (r3 : Int).toNat)) ++ (p0.2.2.drop ((IntKind.i64.wrap (r3 + 1)) : Int).toNat))), 0)
                                else
                                  none
                              else
                                none
                            else
                              none
                          ) (
                            if (0 : Int) ≤ (IntKind.i64.wrap (r3 + 1)) ∧ ((IntKind.i64.wrap (r3 + 1)) : Int) ≤ p0.2.2.length then
                              if ([] : List (ByteArray × Int)).length + (p0.2.2.take (r3 : Int).toNat).length < room 24 then
                                if (([] : List (ByteArray × Int)) ++ (p0.2.2.take (r3 : Int).toNat)).length + (p0.2.2.drop ((IntKind.i64.wrap (r3 + 1)) : Int).toNat).length < room 24 then
                                  some ((p0.1, (p0.2.1, (([] : List (ByteArray × Int)) ++ (p0.2.2.take (r3 : Int).toNat)) ++ (p0.2.2.drop ((IntKind.i64.wrap (r3 + 1)) : Int).toNat))), 0)
                                else
                                  none
                              else
                                none
                            else
                              none
                          )
                        ) (
                          agree (
                            if ([] : List (ByteArray × Int)).length + (p0.2.2.take (r3 : Int).toNat).length < room 24 then
                              if (0 : Int) ≤ (IntKind.i64.wrap (r3 + 1)) ∧ ((IntKind.i64.wrap (r3 + 1)) : Int) ≤ p0.2.2.length then
                                if (([] : List (ByteArray × Int)) ++ (p0.2.2.take (r3 : Int).toNat)).length + (p0.2.2.drop ((IntKind.i64.wrap (r3 + 1)) : Int).toNat).length < room 24 then
                                  some ((p0.1, (p0.2.1, (([] : List (ByteArray × Int)) ++ (p0.2.2.take (r3 : Int).toNat)) ++ (p0.2.2.drop ((IntKind.i64.wrap (r3 + 1)) : Int).toNat))), 0)
                                else
                                  none
                              else
                                none
                            else
                              none
                          ) (
                            if (0 : Int) ≤ (IntKind.i64.wrap (r3 + 1)) ∧ ((IntKind.i64.wrap (r3 + 1)) : Int) ≤ p0.2.2.length then
                              if ([] : List (ByteArray × Int)).length + (p0.2.2.take (r3 : Int).toNat).length < room 24 then
                                if (([] : List (ByteArray × Int)) ++ (p0.2.2.take (r3 : Int).toNat)).length + (p0.2.2.drop ((IntKind.i64.wrap (r3 + 1)) : Int).toNat).length < room 24 then
                                  some ((p0.1, (p0.2.1, (([] : List (ByteArray × Int)) ++ (p0.2.2.take (r3 : Int).toNat)) ++ (p0.2.2.drop ((IntKind.i64.wrap (r3 + 1)) : Int).toNat))), 0)
                                else
                                  none
                              else
                                none
                            else
                              none
                          )
                        )
                      ) (
                        if (0 : Int) ≤ (IntKind.i64.wrap (r3 + 1)) ∧ ((IntKind.i64.wrap (r3 + 1)) : Int) ≤ p0.2.2.length then
                          if ([] : List (ByteArray × Int)).length + (p0.2.2.take (r3 : Int).toNat).length < room 24 then
                            if (([] : List (ByteArray × Int)) ++ (p0.2.2.take (r3 : Int).toNat)).length + (p0.2.2.drop ((IntKind.i64.wrap (r3 + 1)) : Int).toNat).length < room 24 then
                              some ((p0.1, (p0.2.1, (([] : List (ByteArray × Int)) ++ (p0.2.2.take (r3 : Int).toNat)) ++ (p0.2.2.drop ((IntKind.i64.wrap (r3 + 1)) : Int).toNat))), 0)
                            else
                              none
                          else
                            none
                        else
                          none
                      )
                    )
                  else
                    none
                ) (
                  if (0 : Int) ≤ (IntKind.i64.wrap (r3 + 1)) ∧ ((IntKind.i64.wrap (r3 + 1)) : Int) ≤ p0.2.2.length then
                    if (0 : Int) ≤ r3 ∧ (r3 : Int) ≤ p0.2.2.length then
                      if ([] : List (ByteArray × Int)).length + (p0.2.2.take (r3 : Int).toNat).length < room 24 then
                        if (([] : List (ByteArray × Int)) ++ (p0.2.2.take (r3 : Int).toNat)).length + (p0.2.2.drop ((IntKind.i64.wrap (r3 + 1)) : Int).toNat).length < room 24 then
                          some ((p0.1, (p0.2.1, (([] : List (ByteArray × Int)) ++ (p0.2.2.take (r3 : Int).toNat)) ++ (p0.2.2.drop ((IntKind.i64.wrap (r3 + 1)) : Int).toNat))), 0)
                        else
                          none
                      else
                        none
                    else
                      none
                  else
                    none
                )
              )
            )
          ) (
            agree (
              agree (
                agree (
                  agree (
                    if (0 : Int) ≤ r3 ∧ (r3 : Int) ≤ p0.2.2.length then
                      agree (
                        if ([] : List (ByteArray × Int)).length + (p0.2.2.take (r3 : Int).toNat).length < room 24 then
                          if (0 : Int) ≤ (IntKind.i64.wrap (r3 + 1)) ∧ ((IntKind.i64.wrap (r3 + 1)) : Int) ≤ p0.2.2.length then
                            if (([] : List (ByteArray × Int)) ++ (p0.2.2.take (r3 : Int).toNat)).length + (p0.2.2.drop ((IntKind.i64.wrap (r3 + 1)) : Int).toNat).length < room 24 then
                              some ((p0.1, (p0.2.1, (([] : List (ByteArray × Int)) ++ (p0.2.2.take (r3 : Int).toNat)) ++ (p0.2.2.drop ((IntKind.i64.wrap (r3 + 1)) : Int).toNat))), 0)
                            else
                              none
                          else
                            none
                        else
                          none
                      ) (
                        if (0 : Int) ≤ (IntKind.i64.wrap (r3 + 1)) ∧ ((IntKind.i64.wrap (r3 + 1)) : Int) ≤ p0.2.2.length then
                          if ([] : List (ByteArray × Int)).length + (p0.2.2.take (r3 : Int).toNat).length < room 24 then
                            if (([] : List (ByteArray × Int)) ++ (p0.2.2.take (r3 : Int).toNat)).length + (p0.2.2.drop ((IntKind.i64.wrap (r3 + 1)) : Int).toNat).length < room 24 then
                              some ((p0.1, (p0.2.1, (([] : List (ByteArray × Int)) ++ (p0.2.2.take (r3 : Int).toNat)) ++ (p0.2.2.drop ((IntKind.i64.wrap (r3 + 1)) : Int).toNat))), 0)
                            else
                              none
                          else
                            none
                        else
                          none
                      )
                    else
                      none
                  ) (
                    if (0 : Int) ≤ (IntKind.i64.wrap (r3 + 1)) ∧ ((IntKind.i64.wrap (r3 + 1)) : Int) ≤ p0.2.2.length then
                      if (0 : Int) ≤ r3 ∧ (r3 : Int) ≤ p0.2.2.length then
                        if ([] : List (ByteArray × Int)).length + (p0.2.2.take (r3 : Int).toNat).length < room 24 then
                          if (([] : List (ByteArray × Int)) ++ (p0.2.2.take (r3 : Int).toNat)).length + (p0.2.2.drop ((IntKind.i64.wrap (r3 + 1)) : Int).toNat).length < room 24 then
                            some ((p0.1, (p0.2.1, (([] : List (ByteArray × Int)) ++ (p0.2.2.take (r3 : Int).toNat)) ++ (p0.2.2.drop ((IntKind.i64.wrap (r3 + 1)) : Int).toNat))), 0)
                          else
                            none
                        else
                          none
                      else
                        none
                    else
                      none
                  )
                ) (
                  agree (
                    if (0 : Int) ≤ r3 ∧ (r3 : Int) ≤ p0.2.2.length then
                      agree (
                        agree (
                          if ([] : List (ByteArray × Int)).length + (p0.2.2.take (r3 : Int).toNat).length < room 24 then
                            if (0 : Int) ≤ (IntKind.i64.wrap (r3 + 1)) ∧ ((IntKind.i64.wrap (r3 + 1)) : Int) ≤ p0.2.2.length then
                              if (([] : List (ByteArray × Int)) ++ (p0.2.2.take (r3 : Int).toNat)).length + (p0.2.2.drop ((IntKind.i64.wrap (r3 + 1)) : Int).toNat).length < room 24 then
                                some ((p0.1, (p0.2.1, (([] : List (ByteArray × Int)) ++ (p0.2.2.take (r3 : Int).toNat)) ++ (p0.2.2.drop ((IntKind.i64.wrap (r3 + 1)) : Int).toNat))), 0)
                              else
                                none
                            else
                              none
                          else
                            none
                        ) (
                          if (0 : Int) ≤ (IntKind.i64.wrap (r3 + 1)) ∧ ((IntKind.i64.wrap (r3 + 1)) : Int) ≤ p0.2.2.length then
                            if ([] : List (ByteArray × Int)).length + (p0.2.2.take (r3 : Int).toNat).length < room 24 then
                              if (([] : List (ByteArray × Int)) ++ (p0.2.2.take (r3 : Int).toNat)).length + (p0.2.2.drop ((IntKind.i64.wrap (r3 + 1)) : Int).toNat).length < room 24 then
                                some ((p0.1, (p0.2.1, (([] : List (ByteArray × Int)) ++ (p0.2.2.take (r3 : Int).toNat)) ++ (p0.2.2.drop ((IntKind.i64.wrap (r3 + 1)) : Int).toNat))), 0)
                              else
                                none
                            else
                              none
                          else
                            none
                        )
                      ) (
                        agree (
                          if ([] : List (ByteArray × Int)).length + (p0.2.2.take (r3 : Int).toNat).length < room 24 then
                            if (0 : Int) ≤ (IntKind.i64.wrap (r3 + 1)) ∧ ((IntKind.i64.wrap (r3 + 1)) : Int) ≤ p0.2.2.length then
                              if (([] : List (ByteArray × Int)) ++ (p0.2.2.take (r3 : Int).toNat)).length + (p0.2.2.drop ((IntKind.i64.wrap (r3 + 1)) : Int).toNat).length < room 24 then
                                some ((p0.1, (p0.2.1, (([] : List (ByteArray × Int)) ++ (p0.2.2.take (r3 : Int).toNat)) ++ (p0.2.2.drop ((IntKind.i64.wrap (r3 + 1)) : Int).toNat))), 0)
                              else
                                none
                            else
                              none
                          else
                            none
                        ) (
                          if (0 : Int) ≤ (IntKind.i64.wrap (r3 + 1)) ∧ ((IntKind.i64.wrap (r3 + 1)) : Int) ≤ p0.2.2.length then
                            if ([] : List (ByteArray × Int)).length + (p0.2.2.take (r3 : Int).toNat).length < room 24 then
                              if (([] : List (ByteArray × Int)) ++ (p0.2.2.take (r3 : Int).toNat)).length + (p0.2.2.drop ((IntKind.i64.wrap (r3 + 1)) : Int).toNat).length < room 24 then
                                some ((p0.1, (p0.2.1, (([] : List (ByteArray × Int)) ++ (p0.2.2.take (r3 : Int).toNat)) ++ (p0.2.2.drop ((IntKind.i64.wrap (r3 + 1)) : Int).toNat))), 0)
                              else
                                none
                            else
                              none
                          else
                            none
                        )
                      )
                    else
                      none
                  ) (
                    if (0 : Int) ≤ (IntKind.i64.wrap (r3 + 1)) ∧ ((IntKind.i64.wrap (r3 + 1)) : Int) ≤ p0.2.2.length then
                      if (0 : Int) ≤ r3 ∧ (r3 : Int) ≤ p0.2.2.length then
                        if ([] : List (ByteArray × Int)).length + (p0.2.2.take (r3 : Int).toNat).length < room 24 then
                          if (([] : List (ByteArray × Int)) ++ (p0.2.2.take (r3 : Int).toNat)).length + (p0.2.2.drop ((IntKind.i64.wrap (r3 + 1)) : Int).toNat).length < room 24 then
                            some ((p0.1, (p0.2.1, (([] : List (ByteArray × Int)) ++ (p0.2.2.take (r3 : Int).toNat)) ++ (p0.2.2.drop ((IntKind.i64.wrap (r3 + 1)) : Int).toNat))), 0)
                          else
                            none
                        else
                          none
                      else
                        none
                    else
                      none
                  )
                )
              ) (
                agree (
                  agree (
                    agree (
                      if (0 : Int) ≤ r3 ∧ (r3 : Int) ≤ p0.2.2.length then
                        agree (
                          if ([] : List (ByteArray × Int)).length + (p0.2.2.take (r3 : Int).toNat).length < room 24 then
                            if (0 : Int) ≤ (IntKind.i64.wrap (r3 + 1)) ∧ ((IntKind.i64.wrap (r3 + 1)) : Int) ≤ p0.2.2.length then
                              if (([] : List (ByteArray × Int)) ++ (p0.2.2.take (r3 : Int).toNat)).length + (p0.2.2.drop ((IntKind.i64.wrap (r3 + 1)) : Int).toNat).length < room 24 then
                                some ((p0.1, (p0.2.1, (([] : List (ByteArray × Int)) ++ (p0.2.2.take (r3 : Int).toNat)) ++ (p0.2.2.drop ((IntKind.i64.wrap (r3 + 1)) : Int).toNat))), 0)
                              else
                                none
                            else
                              none
                          else
                            none
                        ) (
                          if (0 : Int) ≤ (IntKind.i64.wrap (r3 + 1)) ∧ ((IntKind.i64.wrap (r3 + 1)) : Int) ≤ p0.2.2.length then
                            if ([] : List (ByteArray × Int)).length + (p0.2.2.take (r3 : Int).toNat).length < room 24 then
                              if (([] : List (ByteArray × Int)) ++ (p0.2.2.take (r3 : Int).toNat)).length + (p0.2.2.drop ((IntKind.i64.wrap (r3 + 1)) : Int).toNat).length < room 24 then
                                some ((p0.1, (p0.2.1, (([] : List (ByteArray × Int)) ++ (p0.2.2.take (r3 : Int).toNat)) ++ (p0.2.2.drop ((IntKind.i64.wrap (r3 + 1)) : Int).toNat))), 0)
                              else
                                none
                            else
                              none
                          else
                            none
                        )
                      else
                        none
                    ) (
                      if (0 : Int) ≤ (IntKind.i64.wrap (r3 + 1)) ∧ ((IntKind.i64.wrap (r3 + 1)) : Int) ≤ p0.2.2.length then
                        if (0 : Int) ≤ r3 ∧ (r3 : Int) ≤ p0.2.2.length then
                          if ([] : List (ByteArray × Int)).length + (p0.2.2.take (r3 : Int).toNat).length < room 24 then
                            if (([] : List (ByteArray × Int)) ++ (p0.2.2.take (r3 : Int).toNat)).length + (p0.2.2.drop ((IntKind.i64.wrap (r3 + 1)) : Int).toNat).length < room 24 then
                              some ((p0.1, (p0.2.1, (([] : List (ByteArray × Int)) ++ (p0.2.2.take (r3 : Int).toNat)) ++ (p0.2.2.drop ((IntKind.i64.wrap (r3 + 1)) : Int).toNat))), 0)
                            else
                              none
                          else
                            none
                        else
                          none
                      else
                        none
                    )
                  ) (
                    agree (
                      if (0 : Int) ≤ r3 ∧ (r3 : Int) ≤ p0.2.2.length then
                        agree (
                          agree (
                            if ([] : List (ByteArray × Int)).length + (p0.2.2.take (r3 : Int).toNat).length < room 24 then
                              if (0 : Int) ≤ (IntKind.i64.wrap (r3 + 1)) ∧ ((IntKind.i64.wrap (r3 + 1)) : Int) ≤ p0.2.2.length then
                                if (([] : List (ByteArray × Int)) ++ (p0.2.2.take (r3 : Int).toNat)).length + (p0.2.2.drop ((IntKind.i64.wrap (r3 + 1)) : Int).toNat).length < room 24 then
                                  some ((p0.1, (p0.2.1, (([] : List (ByteArray × Int)) ++ (p0.2.2.take (r3 : Int).toNat)) ++ (p0.2.2.drop ((IntKind.i64.wrap (r3 + 1)) : Int).toNat))), 0)
                                else
                                  none
                              else
                                none
                            else
                              none
                          ) (
                            if (0 : Int) ≤ (IntKind.i64.wrap (r3 + 1)) ∧ ((IntKind.i64.wrap (r3 + 1)) : Int) ≤ p0.2.2.length then
                              if ([] : List (ByteArray × Int)).length + (p0.2.2.take (r3 : Int).toNat).length < room 24 then
                                if (([] : List (ByteArray × Int)) ++ (p0.2.2.take (r3 : Int).toNat)).length + (p0.2.2.drop ((IntKind.i64.wrap (r3 + 1)) : Int).toNat).length < room 24 then
                                  some ((p0.1, (p0.2.1, (([] : List (ByteArray × Int)) ++ (p0.2.2.take (r3 : Int).toNat)) ++ (p0.2.2.drop ((IntKind.i64.wrap (r3 + 1)) : Int).toNat))), 0)
                                else
                                  none
                              else
                                none
                            else
                              none
                          )
                        ) (
                          agree (
                            if ([] : List (ByteArray × Int)).length + (p0.2.2.take (r3 : Int).toNat).length < room 24 then
                              if (0 : Int) ≤ (IntKind.i64.wrap (r3 + 1)) ∧ ((IntKind.i64.wrap (r3 + 1)) : Int) ≤ p0.2.2.length then
                                if (([] : List (ByteArray × Int)) ++ (p0.2.2.take (r3 : Int).toNat)).length + (p0.2.2.drop ((IntKind.i64.wrap (r3 + 1)) : Int).toNat).length < room 24 then
                                  some ((p0.1, (p0.2.1, (([] : List (ByteArray × Int)) ++ (p0.2.2.take (r3 : Int).toNat)) ++ (p0.2.2.drop ((IntKind.i64.wrap (r3 + 1)) : Int).toNat))), 0)
                                else
                                  none
                              else
                                none
                            else
                              none
                          ) (
                            if (0 : Int) ≤ (IntKind.i64.wrap (r3 + 1)) ∧ ((IntKind.i64.wrap (r3 + 1)) : Int) ≤ p0.2.2.length then
                              if ([] : List (ByteArray × Int)).length + (p0.2.2.take (r3 : Int).toNat).length < room 24 then
                                if (([] : List (ByteArray × Int)) ++ (p0.2.2.take (r3 : Int).toNat)).length + (p0.2.2.drop ((IntKind.i64.wrap (r3 + 1)) : Int).toNat).length < room 24 then
                                  some ((p0.1, (p0.2.1, (([] : List (ByteArray × Int)) ++ (p0.2.2.take (r3 : Int).toNat)) ++ (p0.2.2.drop ((IntKind.i64.wrap (r3 + 1)) : Int).toNat))), 0)
                                else
                                  none
                              else
                                none
                            else
                              none
                          )
                        )
                      else
                        none
                    ) (
                      if (0 : Int) ≤ (IntKind.i64.wrap (r3 + 1)) ∧ ((IntKind.i64.wrap (r3 + 1)) : Int) ≤ p0.2.2.length then
                        if (0 : Int) ≤ r3 ∧ (r3 : Int) ≤ p0.2.2.length then
                          if ([] : List (ByteArray × Int)).length + (p0.2.2.take (r3 : Int).toNat).length < room 24 then
                            if (([] : List (ByteArray × Int)) ++ (p0.2.2.take (r3 : Int).toNat)).length + (p0.2.2.drop ((IntKind.i64.wrap (r3 + 1)) : Int).toNat).length < room 24 then
                              some ((p0.1, (p0.2.1, (([] : List (ByteArray × Int)) ++ (p0.2.2.take (r3 : Int).toNat)) ++ (p0.2.2.drop ((IntKind.i64.wrap (r3 + 1)) : Int).toNat))), 0)
                            else
                              none
                          else
                            none
                        else
                          none
                      else
                        none
                    )
                  )
                ) (
                  agree (
                    if (0 : Int) ≤ r3 ∧ (r3 : Int) ≤ p0.2.2.length then
                      agree (
                        agree (
                          agree (
                            if ([] : List (ByteArray × Int)).length + (p0.2.2.take (r3 : Int).toNat).length < room 24 then
                              if (0 : Int) ≤ (IntKind.i64.wrap (r3 + 1)) ∧ ((IntKind.i64.wrap (r3 + 1)) : Int) ≤ p0.2.2.length then
                                if (([] : List (ByteArray × Int)) ++ (p0.2.2.take (r3 : Int).toNat)).length + (p0.2.2.drop ((IntKind.i64.wrap (r3 + 1)) : Int).toNat).length < room 24 then
                                  some ((p0.1, (p0.2.1, (([] : List (ByteArray × Int)) ++ (p0.2.2.take (r3 : Int).toNat)) ++ (p0.2.2.drop ((IntKind.i64.wrap (r3 + 1)) : Int).toNat))), 0)
                                else
                                  none
                              else
                                none
                            else
                              none
                          ) (
                            if (0 : Int) ≤ (IntKind.i64.wrap (r3 + 1)) ∧ ((IntKind.i64.wrap (r3 + 1)) : Int) ≤ p0.2.2.length then
                              if ([] : List (ByteArray × Int)).length + (p0.2.2.take (r3 : Int).toNat).length < room 24 then
                                if (([] : List (ByteArray × Int)) ++ (p0.2.2.take (r3 : Int).toNat)).length + (p0.2.2.drop ((IntKind.i64.wrap (r3 + 1)) : Int).toNat).length < room 24 then
                                  some ((p0.1, (p0.2.1, (([] : List (ByteArray × Int)) ++ (p0.2.2.take (r3 : Int).toNat)) ++ (p0.2.2.drop ((IntKind.i64.wrap (r3 + 1)) : Int).toNat))), 0)
                                else
                                  none
                              else
                                none
                            else
                              none
                          )
                        ) (
                          agree (
                            if ([] : List (ByteArray × Int)).length + (p0.2.2.take (r3 : Int).toNat).length < room 24 then
                              if (0 : Int) ≤ (IntKind.i64.wrap (r3 + 1)) ∧ ((IntKind.i64.wrap (r3 + 1)) : Int) ≤ p0.2.2.length then
                                if (([] : List (ByteArray × Int)) ++ (p0.2.2.take (r3 : Int).toNat)).length + (p0.2.2.drop ((IntKind.i64.wrap (r3 + 1)) : Int).toNat).length < room 24 then
                                  some ((p0.1, (p0.2.1, (([] : List (ByteArray × Int)) ++ (p0.2.2.take (r3 : Int).toNat)) ++ (p0.2.2.drop ((IntKind.i64.wrap (r3 + 1)) : Int).toNat))), 0)
                                else
                                  none
                              else
                                none
                            else
                              none
                          ) (
                            if (0 : Int) ≤ (IntKind.i64.wrap (r3 + 1)) ∧ ((IntKind.i64.wrap (r3 + 1)) : Int) ≤ p0.2.2.length then
                              if ([] : List (ByteArray × Int)).length + (p0.2.2.take (r3 : Int).toNat).length < room 24 then
                                if (([] : List (ByteArray × Int)) ++ (p0.2.2.take (r3 : Int).toNat)).length + (p0.2.2.drop ((IntKind.i64.wrap (r3 + 1)) : Int).toNat).length < room 24 then
                                  some ((p0.1, (p0.2.1, (([] : List (ByteArray × Int)) ++ (p0.2.2.take (r3 : Int).toNat)) ++ (p0.2.2.drop ((IntKind.i64.wrap (r3 + 1)) : Int).toNat))), 0)
                                else
                                  none
                              else
                                none
                            else
                              none
                          )
                        )
                      ) (
                        agree (
                          agree (
                            agree (
                              if ([] : List (ByteArray × Int)).length + (p0.2.2.take (r3 : Int).toNat).length < room 24 then
                                if (0 : Int) ≤ (IntKind.i64.wrap (r3 + 1)) ∧ ((IntKind.i64.wrap (r3 + 1)) : Int) ≤ p0.2.2.length then
                                  if (([] : List (ByteArray × Int)) ++ (p0.2.2.take (r3 : Int).toNat)).length + (p0.2.2.drop ((IntKind.i64.wrap (r3 + 1)) : Int).toNat).length < room 24 then
                                    some ((p0.1, (p0.2.1, (([] : List (ByteArray × Int)) ++ (p0.2.2.take (r3 : Int).toNat)) ++ (p0.2.2.drop ((IntKind.i64.wrap (r3 + 1)) : Int).toNat))), 0)
                                  else
                                    none
                                else
                                  none
                              else
                                none
                            ) (
                              if (0 : Int) ≤ (IntKind.i64.wrap (r3 + 1)) ∧ ((IntKind.i64.wrap (r3 + 1)) : Int) ≤ p0.2.2.length then
                                if ([] : List (ByteArray × Int)).length + (p0.2.2.take (r3 : Int).toNat).length < room 24 then
                                  if (([] : List (ByteArray × Int)) ++ (p0.2.2.take (r3 : Int).toNat)).length + (p0.2.2.drop ((IntKind.i64.wrap (r3 + 1)) : Int).toNat).length < room 24 then
                                    some ((p0.1, (p0.2.1, (([] : List (ByteArray × Int)) ++ (p0.2.2.take (r3 : Int).toNat)) ++ (p0.2.2.drop ((IntKind.i64.wrap (r3 + 1)) : Int).toNat))), 0)
                                  else
                                    none
                                else
                                  none
                              else
                                none
                            )
                          ) (
                            agree (
                              if ([] : List (ByteArray × Int)).length + (p0.2.2.take (r3 : Int).toNat).length < room 24 then
                                if (0 : Int) ≤ (IntKind.i64.wrap (r3 + 1)) ∧ ((IntKind.i64.wrap (r3 + 1)) : Int) ≤ p0.2.2.length then
                                  if (([] : List (ByteArray × Int)) ++ (p0.2.2.take (r3 : Int).toNat)).length + (p0.2.2.drop ((IntKind.i64.wrap (r3 + 1)) : Int).toNat).length < room 24 then
                                    some ((p0.1, (p0.2.1, (([] : List (ByteArray × Int)) ++ (p0.2.2.take (r3 : Int).toNat)) ++ (p0.2.2.drop ((IntKind.i64.wrap (r3 + 1)) : Int).toNat))), 0)
                                  else
                                    none
                                else
                                  none
                              else
                                none
                            ) (
                              if (0 : Int) ≤ (IntKind.i64.wrap (r3 + 1)) ∧ ((IntKind.i64.wrap (r3 + 1)) : Int) ≤ p0.2.2.length then
                                if ([] : List (ByteArray × Int)).length + (p0.2.2.take (r3 : Int).toNat).length < room 24 then
                                  if (([] : List (ByteArray × Int)) ++ (p0.2.2.take (r3 : Int).toNat)).length + (p0.2.2.drop ((IntKind.i64.wrap (r3 + 1)) : Int).toNat).length < room 24 then
                                    some ((p0.1, (p0.2.1, (([] : List (ByteArray × Int)) ++ (p0.2.2.take (r3 : Int).toNat)) ++ (p0.2.2.drop ((IntKind.i64.wrap (r3 + 1)) : Int).toNat))), 0)
                                  else
                                    none
                                else
                                  none
                              else
                                none
                            )
                          )
                        ) (
                          agree (
                            if ([] : List (ByteArray × Int)).length + (p0.2.2.take (r3 : Int).toNat).length < room 24 then
                              if (0 : Int) ≤ (IntKind.i64.wrap (r3 + 1)) ∧ ((IntKind.i64.wrap (r3 + 1)) : Int) ≤ p0.2.2.length then
                                if (([] : List (ByteArray × Int)) ++ (p0.2.2.take (r3 : Int).toNat)).length + (p0.2.2.drop ((IntKind.i64.wrap (r3 + 1)) : Int).toNat).length < room 24 then
                                  some ((p0.1, (p0.2.1, (([] : List (ByteArray × Int)) ++ (p0.2.2.take (r3 : Int).toNat)) ++ (p0.2.2.drop ((IntKind.i64.wrap (r3 + 1)) : Int).toNat))), 0)
                                else
                                  none
                              else
                                none
                            else
                              none
                          ) (
                            if (0 : Int) ≤ (IntKind.i64.wrap (r3 + 1)) ∧ ((IntKind.i64.wrap (r3 + 1)) : Int) ≤ p0.2.2.length then
                              if ([] : List (ByteArray × Int)).length + (p0.2.2.take (r3 : Int).toNat).length < room 24 then
                                if (([] : List (ByteArray × Int)) ++ (p0.2.2.take (r3 : Int).toNat)).length + (p0.2.2.drop ((IntKind.i64.wrap (r3 + 1)) : Int).toNat).length < room 24 then
                                  some ((p0.1, (p0.2.1, (([] : List (ByteArray × Int)) ++ (p0.2.2.take (r3 : Int).toNat)) ++ (p0.2.2.drop ((IntKind.i64.wrap (r3 + 1)) : Int).toNat))), 0)
                                else
                                  none
                              else
                                none
                            else
                              none
                          )
                        )
                      )
                    else
                      none
                  ) (
                    if (0 : Int) ≤ (IntKind.i64.wrap (r3 + 1)) ∧ ((IntKind.i64.wrap (r3 + 1)) : Int) ≤ p0.2.2.length then
                      if (0 : Int) ≤ r3 ∧ (r3 : Int) ≤ p0.2.2.length then
                        if ([] : List (ByteArray × Int)).length + (p0.2.2.take (r3 : Int).toNat).length < room 24 then
                          if (([] : List (ByteArray × Int)) ++ (p0.2.2.take (r3 : Int).toNat)).length + (p0.2.2.drop ((IntKind.i64.wrap (r3 + 1)) : Int).toNat).length < room 24 then
                            some ((p0.1, (p0.2.1, (([] : List (ByteArray × Int)) ++ (p0.2.2.take (r3 : Int).toNat)) ++ (p0.2.2.drop ((IntKind.i64.wrap (r3 + 1)) : Int).toNat))), 0)
                          else
                            none
                        else
                          none
                      else
                        none
                    else
                      none
                  )
                )
              )
            ) (
              agree (
                if (0 : Int) ≤ r3 ∧ (r3 : Int) ≤ p0.2.2.length then
                  agree (
                    agree (
                      agree (
                        agree (
                          if ([] : List (ByteArray × Int)).length + (p0.2.2.take (r3 : Int).toNat).length < room 24 then
                            if (0 : Int) ≤ (IntKind.i64.wrap (r3 + 1)) ∧ ((IntKind.i64.wrap (r3 + 1)) : Int) ≤ p0.2.2.length then
                              if (([] : List (ByteArray × Int)) ++ (p0.2.2.take (r3 : Int).toNat)).length + (p0.2.2.drop ((IntKind.i64.wrap (r3 + 1)) : Int).toNat).length < room 24 then
                                some ((p0.1, (p0.2.1, (([] : List (ByteArray × Int)) ++ (p0.2.2.take (r3 : Int).toNat)) ++ (p0.2.2.drop ((IntKind.i64.wrap (r3 + 1)) : Int).toNat))), 0)
                              else
                                none
                            else
                              none
                          else
                            none
                        ) (
                          if (0 : Int) ≤ (IntKind.i64.wrap (r3 + 1)) ∧ ((IntKind.i64.wrap (r3 + 1)) : Int) ≤ p0.2.2.length then
                            if ([] : List (ByteArray × Int)).length + (p0.2.2.take (r3 : Int).toNat).length < room 24 then
                              if (([] : List (ByteArray × Int)) ++ (p0.2.2.take (r3 : Int).toNat)).length + (p0.2.2.drop ((IntKind.i64.wrap (r3 + 1)) : Int).toNat).length < room 24 then
                                some ((p0.1, (p0.2.1, (([] : List (ByteArray × Int)) ++ (p0.2.2.take (r3 : Int).toNat)) ++ (p0.2.2.drop ((IntKind.i64.wrap (r3 + 1)) : Int).toNat))), 0)
                              else
                                none
                            else
                              none
                          else
                            none
                        )
                      ) (
                        if (0 : Int) ≤ (IntKind.i64.wrap (r3 + 1)) ∧ ((IntKind.i64.wrap (r3 + 1)) : Int) ≤ p0.2.2.length then
                          if ([] : List (ByteArray × Int)).length + (p0.2.2.take (r3 : Int).toNat).length < room 24 then
                            if (([] : List (ByteArray × Int)) ++ (p0.2.2.take (r3 : Int).toNat)).length + (p0.2.2.drop ((IntKind.i64.wrap (r3 + 1)) : Int).toNat).length < room 24 then
                              some ((p0.1, (p0.2.1, (([] : List (ByteArray × Int)) ++ (p0.2.2.take (r3 : Int).toNat)) ++ (p0.2.2.drop ((IntKind.i64.wrap (r3 + 1)) : Int).toNat))), 0)
                            else
                              none
                          else
                            none
                        else
                          none
                      )
                    ) (
                      agree (
                        agree (
                          agree (
                            if ([] : List (ByteArray × Int)).length + (p0.2.2.take (r3 : Int).toNat).length < room 24 then
                              if (0 : Int) ≤ (IntKind.i64.wrap (r3 + 1)) ∧ ((IntKind.i64.wrap (r3 + 1)) : Int) ≤ p0.2.2.length then
                                if (([] : List (ByteArray × Int)) ++ (p0.2.2.take (r3 : Int).toNat)).length + (p0.2.2.drop ((IntKind.i64.wrap (r3 + 1)) : Int).toNat).length < room 24 then
                                  some ((p0.1, (p0.2.1, (([] : List (ByteArray × Int)) ++ (p0.2.2.take (r3 : Int).toNat)) ++ (p0.2.2.drop ((IntKind.i64.wrap (r3 + 1)) : Int).toNat))), 0)
                                else
                                  none
                              else
                                none
                            else
                              none
                          ) (
                            if (0 : Int) ≤ (IntKind.i64.wrap (r3 + 1)) ∧ ((IntKind.i64.wrap (r3 + 1)) : Int) ≤ p0.2.2.length then
                              if ([] : List (ByteArray × Int)).length + (p0.2.2.take (r3 : Int).toNat).length < room 24 then
                                if (([] : List (ByteArray × Int)) ++ (p0.2.2.take (r3 : Int).toNat)).length + (p0.2.2.drop ((IntKind.i64.wrap (r3 + 1)) : Int).toNat).length < room 24 then
                                  some ((p0.1, (p0.2.1, (([] : List (ByteArray × Int)) ++ (p0.2.2.take (r3 : Int).toNat)) ++ (p0.2.2.drop ((IntKind.i64.wrap (r3 + 1)) : Int).toNat))), 0)
                                else
                                  none
                              else
                                none
                            else
                              none
                          )
                        ) (
                          agree (
                            if ([] : List (ByteArray × Int)).length + (p0.2.2.take (r3 : Int).toNat).length < room 24 then
                              if (0 : Int) ≤ (IntKind.i64.wrap (r3 + 1)) ∧ ((IntKind.i64.wrap (r3 + 1)) : Int) ≤ p0.2.2.length then
                                if (([] : List (ByteArray × Int)) ++ (p0.2.2.take (r3 : Int).toNat)).length + (p0.2.2.drop ((IntKind.i64.wrap (r3 + 1)) : Int).toNat).length < room 24 then
                                  some ((p0.1, (p0.2.1, (([] : List (ByteArray × Int)) ++ (p0.2.2.take (r3 : Int).toNat)) ++ (p0.2.2.drop ((IntKind.i64.wrap (r3 + 1)) : Int).toNat))), 0)
                                else
                                  none
                              else
                                none
                            else
                              none
                          ) (
                            if (0 : Int) ≤ (IntKind.i64.wrap (r3 + 1)) ∧ ((IntKind.i64.wrap (r3 + 1)) : Int) ≤ p0.2.2.length then
                              if ([] : List (ByteArray × Int)).length + (p0.2.2.take (r3 : Int).toNat).length < room 24 then
                                if (([] : List (ByteArray × Int)) ++ (p0.2.2.take (r3 : Int).toNat)).length + (p0.2.2.drop ((IntKind.i64.wrap (r3 + 1)) : Int).toNat).length < room 24 then
                                  some ((p0.1, (p0.2.1, (([] : List (ByteArray × Int)) ++ (p0.2.2.take (r3 : Int).toNat)) ++ (p0.2.2.drop ((IntKind.i64.wrap (r3 + 1)) : Int).toNat))), 0)
                                else
                                  none
                              else
                                none
                            else
                              none
                          )
                        )
                      ) (
                        if (0 : Int) ≤ (IntKind.i64.wrap (r3 + 1)) ∧ ((IntKind.i64.wrap (r3 + 1)) : Int) ≤ p0.2.2.length then
                          if ([] : List (ByteArray × Int)).length + (p0.2.2.take (r3 : Int).toNat).length < room 24 then
                            if (([] : List (ByteArray × Int)) ++ (p0.2.2.take (r3 : Int).toNat)).length + (p0.2.2.drop ((IntKind.i64.wrap (r3 + 1)) : Int).toNat).length < room 24 then
                              some ((p0.1, (p0.2.1, (([] : List (ByteArray × Int)) ++ (p0.2.2.take (r3 : Int).toNat)) ++ (p0.2.2.drop ((IntKind.i64.wrap (r3 + 1)) : Int).toNat))), 0)
                            else
                              none
                          else
                            none
                        else
                          none
                      )
                    )
                  ) (
                    agree (
                      agree (
                        agree (
                          agree (
                            if ([] : List (ByteArray × Int)).length + (p0.2.2.take (r3 : Int).toNat).length < room 24 then
                              if (0 : Int) ≤ (IntKind.i64.wrap (r3 + 1)) ∧ ((IntKind.i64.wrap (r3 + 1)) : Int) ≤ p0.2.2.length then
                                if (([] : List (ByteArray × Int)) ++ (p0.2.2.take (r3 : Int).toNat)).length + (p0.2.2.drop ((IntKind.i64.wrap (r3 + 1)) : Int).toNat).length < room 24 then
                                  some ((p0.1, (p0.2.1, (([] : List (ByteArray × Int)) ++ (p0.2.2.take (r3 : Int).toNat)) ++ (p0.2.2.drop ((IntKind.i64.wrap (r3 + 1)) : Int).toNat))), 0)
                                else
                                  none
                              else
                                none
                            else
                              none
                          ) (
                            if (0 : Int) ≤ (IntKind.i64.wrap (r3 + 1)) ∧ ((IntKind.i64.wrap (r3 + 1)) : Int) ≤ p0.2.2.length then
                              if ([] : List (ByteArray × Int)).length + (p0.2.2.take (r3 : Int).toNat).length < room 24 then
                                if (([] : List (ByteArray × Int)) ++ (p0.2.2.take (r3 : Int).toNat)).length + (p0.2.2.drop ((IntKind.i64.wrap (r3 + 1)) : Int).toNat).length < room 24 then
                                  some ((p0.1, (p0.2.1, (([] : List (ByteArray × Int)) ++ (p0.2.2.take (r3 : Int).toNat)) ++ (p0.2.2.drop ((IntKind.i64.wrap (r3 + 1)) : Int).toNat))), 0)
                                else
                                  none
                              else
                                none
                            else
                              none
                          )
                        ) (
                          if (0 : Int) ≤ (IntKind.i64.wrap (r3 + 1)) ∧ ((IntKind.i64.wrap (r3 + 1)) : Int) ≤ p0.2.2.length then
                            if ([] : List (ByteArray × Int)).length + (p0.2.2.take (r3 : Int).toNat).length < room 24 then
                              if (([] : List (ByteArray × Int)) ++ (p0.2.2.take (r3 : Int).toNat)).length + (p0.2.2.drop ((IntKind.i64.wrap (r3 + 1)) : Int).toNat).length < room 24 then
                                some ((p0.1, (p0.2.1, (([] : List (ByteArray × Int)) ++ (p0.2.2.take (r3 : Int).toNat)) ++ (p0.2.2.drop ((IntKind.i64.wrap (r3 + 1)) : Int).toNat))), 0)
                              else
                                none
                            else
                              none
                          else
                            none
                        )
                      ) (
                        agree (
                          agree (
                            agree (
                              if ([] : List (ByteArray × Int)).length + (p0.2.2.take (r3 : Int).toNat).length < room 24 then
                                if (0 : Int) ≤ (IntKind.i64.wrap (r3 + 1)) ∧ ((IntKind.i64.wrap (r3 + 1)) : Int) ≤ p0.2.2.length then
                                  if (([] : List (ByteArray × Int)) ++ (p0.2.2.take (r3 : Int).toNat)).length + (p0.2.2.drop ((IntKind.i64.wrap (r3 + 1)) : Int).toNat).length < room 24 then
                                    some ((p0.1, (p0.2.1, (([] : List (ByteArray × Int)) ++ (p0.2.2.take (r3 : Int).toNat)) ++ (p0.2.2.drop ((IntKind.i64.wrap (r3 + 1)) : Int).toNat))), 0)
                                  else
                                    none
                                else
                                  none
                              else
                                none
                            ) (
                              if (0 : Int) ≤ (IntKind.i64.wrap (r3 + 1)) ∧ ((IntKind.i64.wrap (r3 + 1)) : Int) ≤ p0.2.2.length then
                                if ([] : List (ByteArray × Int)).length + (p0.2.2.take (r3 : Int).toNat).length < room 24 then
                                  if (([] : List (ByteArray × Int)) ++ (p0.2.2.take (r3 : Int).toNat)).length + (p0.2.2.drop ((IntKind.i64.wrap (r3 + 1)) : Int).toNat).length < room 24 then
                                    some ((p0.1, (p0.2.1, (([] : List (ByteArray × Int)) ++ (p0.2.2.take (r3 : Int).toNat)) ++ (p0.2.2.drop ((IntKind.i64.wrap (r3 + 1)) : Int).toNat))), 0)
                                  else
                                    none
                                else
                                  none
                              else
                                none
                            )
                          ) (
                            agree (
                              if ([] : List (ByteArray × Int)).length + (p0.2.2.take (r3 : Int).toNat).length < room 24 then
                                if (0 : Int) ≤ (IntKind.i64.wrap (r3 + 1)) ∧ ((IntKind.i64.wrap (r3 + 1)) : Int) ≤ p0.2.2.length then
                                  if (([] : List (ByteArray × Int)) ++ (p0.2.2.take (r3 : Int).toNat)).length + (p0.2.2.drop ((IntKind.i64.wrap (r3 + 1)) : Int).toNat).length < room 24 then
                                    some ((p0.1, (p0.2.1, (([] : List (ByteArray × Int)) ++ (p0.2.2.take (r3 : Int).toNat)) ++ (p0.2.2.drop ((IntKind.i64.wrap (r3 + 1)) : Int).toNat))), 0)
                                  else
                                    none
                                else
                                  none
                              else
                                none
                            ) (
                              if (0 : Int) ≤ (IntKind.i64.wrap (r3 + 1)) ∧ ((IntKind.i64.wrap (r3 + 1)) : Int) ≤ p0.2.2.length then
                                if ([] : List (ByteArray × Int)).length + (p0.2.2.take (r3 : Int).toNat).length < room 24 then
                                  if (([] : List (ByteArray × Int)) ++ (p0.2.2.take (r3 : Int).toNat)).length + (p0.2.2.drop ((IntKind.i64.wrap (r3 + 1)) : Int).toNat).length < room 24 then
                                    some ((p0.1, (p0.2.1, (([] : List (ByteArray × Int)) ++ (p0.2.2.take (r3 : Int).toNat)) ++ (p0.2.2.drop ((IntKind.i64.wrap (r3 + 1)) : Int).toNat))), 0)
                                  else
                                    none
                                else
                                  none
                              else
                                none
                            )
                          )
                        ) (
                          if (0 : Int) ≤ (IntKind.i64.wrap (r3 + 1)) ∧ ((IntKind.i64.wrap (r3 + 1)) : Int) ≤ p0.2.2.length then
                            if ([] : List (ByteArray × Int)).length + (p0.2.2.take (r3 : Int).toNat).length < room 24 then
                              if (([] : List (ByteArray × Int)) ++ (p0.2.2.take (r3 : Int).toNat)).length + (p0.2.2.drop ((IntKind.i64.wrap (r3 + 1)) : Int).toNat).length < room 24 then
                                some ((p0.1, (p0.2.1, (([] : List (ByteArray × Int)) ++ (p0.2.2.take (r3 : Int).toNat)) ++ (p0.2.2.drop ((IntKind.i64.wrap (r3 + 1)) : Int).toNat))), 0)
                              else
                                none
                            else
                              none
                          else
                            none
                        )
                      )
                    ) (
                      agree (
                        agree (
                          agree (
                            agree (
                              if ([] : List (ByteArray × Int)).length + (p0.2.2.take (r3 : Int).toNat).length < room 24 then
                                if (0 : Int) ≤ (IntKind.i64.wrap (r3 + 1)) ∧ ((IntKind.i64.wrap (r3 + 1)) : Int) ≤ p0.2.2.length then
                                  if (([] : List (ByteArray × Int)) ++ (p0.2.2.take (r3 : Int).toNat)).length + (p0.2.2.drop ((IntKind.i64.wrap (r3 + 1)) : Int).toNat).length < room 24 then
                                    some ((p0.1, (p0.2.1, (([] : List (ByteArray × Int)) ++ (p0.2.2.take (r3 : Int).toNat)) ++ (p0.2.2.drop ((IntKind.i64.wrap (r3 + 1)) : Int).toNat))), 0)
                                  else
                                    none
                                else
                                  none
                              else
                                none
                            ) (
                              if (0 : Int) ≤ (IntKind.i64.wrap (r3 + 1)) ∧ ((IntKind.i64.wrap (r3 + 1)) : Int) ≤ p0.2.2.length then
                                if ([] : List (ByteArray × Int)).length + (p0.2.2.take (r3 : Int).toNat).length < room 24 then
                                  if (([] : List (ByteArray × Int)) ++ (p0.2.2.take (r3 : Int).toNat)).length + (p0.2.2.drop ((IntKind.i64.wrap (r3 + 1)) : Int).toNat).length < room 24 then
                                    some ((p0.1, (p0.2.1, (([] : List (ByteArray × Int)) ++ (p0.2.2.take (r3 : Int).toNat)) ++ (p0.2.2.drop ((IntKind.i64.wrap (r3 + 1)) : Int).toNat))), 0)
                                  else
                                    none
                                else
                                  none
                              else
                                none
                            )
                          ) (
                            agree (
                              if ([] : List (ByteArray × Int)).length + (p0.2.2.take (r3 : Int).toNat).length < room 24 then
                                if (0 : Int) ≤ (IntKind.i64.wrap (r3 + 1)) ∧ ((IntKind.i64.wrap (r3 + 1)) : Int) ≤ p0.2.2.length then
                                  if (([] : List (ByteArray × Int)) ++ (p0.2.2.take (r3 : Int).toNat)).length + (p0.2.2.drop ((IntKind.i64.wrap (r3 + 1)) : Int).toNat).length < room 24 then
                                    some ((p0.1, (p0.2.1, (([] : List (ByteArray × Int)) ++ (p0.2.2.take (r3 : Int).toNat)) ++ (p0.2.2.drop ((IntKind.i64.wrap (r3 + 1)) : Int).toNat))), 0)
                                  else
                                    none
                                else
                                  none
                              else
                                none
                            ) (
                              if (0 : Int) ≤ (IntKind.i64.wrap (r3 + 1)) ∧ ((IntKind.i64.wrap (r3 + 1)) : Int) ≤ p0.2.2.length then
                                if ([] : List (ByteArray × Int)).length + (p0.2.2.take (r3 : Int).toNat).length < room 24 then
                                  if (([] : List (ByteArray × Int)) ++ (p0.2.2.take (r3 : Int).toNat)).length + (p0.2.2.drop ((IntKind.i64.wrap (r3 + 1)) : Int).toNat).length < room 24 then
                                    some ((p0.1, (p0.2.1, (([] : List (ByteArray × Int)) ++ (p0.2.2.take (r3 : Int).toNat)) ++ (p0.2.2.drop ((IntKind.i64.wrap (r3 + 1)) : Int).toNat))), 0)
                                  else
                                    none
                                else
                                  none
                              else
                                none
                            )
                          )
                        ) (
                          agree (
                            agree (
                              agree (
                                if ([] : List (ByteArray × Int)).length + (p0.2.2.take (r3 : Int).toNat).length < room 24 then
                                  if (0 : Int) ≤ (IntKind.i64.wrap (r3 + 1)) ∧ ((IntKind.i64.wrap (r3 + 1)) : Int) ≤ p0.2.2.length then
                                    if (([] : List (ByteArray × Int)) ++ (p0.2.2.take (r3 : Int).toNat)).length + (p0.2.2.drop ((IntKind.i64.wrap (r3 + 1)) : Int).toNat).length < room 24 then
                                      some ((p0.1, (p0.2.1, (([] : List (ByteArray × Int)) ++ (p0.2.2.take (r3 : Int).toNat)) ++ (p0.2.2.drop ((IntKind.i64.wrap (r3 + 1)) : Int).toNat))), 0)
                                    else
                                      none
                                  else
                                    none
                                else
                                  none
                              ) (
                                if (0 : Int) ≤ (IntKind.i64.wrap (r3 + 1)) ∧ ((IntKind.i64.wrap (r3 + 1)) : Int) ≤ p0.2.2.length then
                                  if ([] : List (ByteArray × Int)).length + (p0.2.2.take (r3 : Int).toNat).length < room 24 then
                                    if (([] : List (ByteArray × Int)) ++ (p0.2.2.take (r3 : Int).toNat)).length + (p0.2.2.drop ((IntKind.i64.wrap (r3 + 1)) : Int).toNat).length < room 24 then
                                      some ((p0.1, (p0.2.1, (([] : List (ByteArray × Int)) ++ (p0.2.2.take (r3 : Int).toNat)) ++ (p0.2.2.drop ((IntKind.i64.wrap (r3 + 1)) : Int).toNat))), 0)
                                    else
                                      none
                                  else
                                    none
                                else
                                  none
                              )
                            ) (
                              agree (
                                if ([] : List (ByteArray × Int)).length + (p0.2.2.take (r3 : Int).toNat).length < room 24 then
                                  if (0 : Int) ≤ (IntKind.i64.wrap (r3 + 1)) ∧ ((IntKind.i64.wrap (r3 + 1)) : Int) ≤ p0.2.2.length then
                                    if (([] : List (ByteArray × Int)) ++ (p0.2.2.take (r3 : Int).toNat)).length + (p0.2.2.drop ((IntKind.i64.wrap (r3 + 1)) : Int).toNat).length < room 24 then
                                      some ((p0.1, (p0.2.1, (([] : List (ByteArray × Int)) ++ (p0.2.2.take (r3 : Int).toNat)) ++ (p0.2.2.drop ((IntKind.i64.wrap (r3 + 1)) : Int).toNat))), 0)
                                    else
                                      none
                                  else
                                    none
                                else
                                  none
                              ) (
                                if (0 : Int) ≤ (IntKind.i64.wrap (r3 + 1)) ∧ ((IntKind.i64.wrap (r3 + 1)) : Int) ≤ p0.2.2.length then
                                  if ([] : List (ByteArray × Int)).length + (p0.2.2.take (r3 : Int).toNat).length < room 24 then
                                    if (([] : List (ByteArray × Int)) ++ (p0.2.2.take (r3 : Int).toNat)).length + (p0.2.2.drop ((IntKind.i64.wrap (r3 + 1)) : Int).toNat).length < room 24 then
                                      some ((p0.1, (p0.2.1, (([] : List (ByteArray × Int)) ++ (p0.2.2.take (r3 : Int).toNat)) ++ (p0.2.2.drop ((IntKind.i64.wrap (r3 + 1)) : Int).toNat))), 0)
                                    else
                                      none
                                  else
                                    none
                                else
                                  none
                              )
                            )
                          ) (
                            agree (
                              if ([] : List (ByteArray × Int)).length + (p0.2.2.take (r3 : Int).toNat).length < room 24 then
                                if (0 : Int) ≤ (IntKind.i64.wrap (r3 + 1)) ∧ ((IntKind.i64.wrap (r3 + 1)) : Int) ≤ p0.2.2.length then
                                  if (([] : List (ByteArray × Int)) ++ (p0.2.2.take (r3 : Int).toNat)).length + (p0.2.2.drop ((IntKind.i64.wrap (r3 + 1)) : Int).toNat).length < room 24 then
                                    some ((p0.1, (p0.2.1, (([] : List (ByteArray × Int)) ++ (p0.2.2.take (r3 : Int).toNat)) ++ (p0.2.2.drop ((IntKind.i64.wrap (r3 + 1)) : Int).toNat))), 0)
                                  else
                                    none
                                else
                                  none
                              else
                                none
                            ) (
                              if (0 : Int) ≤ (IntKind.i64.wrap (r3 + 1)) ∧ ((IntKind.i64.wrap (r3 + 1)) : Int) ≤ p0.2.2.length then
                                if ([] : List (ByteArray × Int)).length + (p0.2.2.take (r3 : Int).toNat).length < room 24 then
                                  if (([] : List (ByteArray × Int)) ++ (p0.2.2.take (r3 : Int).toNat)).length + (p0.2.2.drop ((IntKind.i64.wrap (r3 + 1)) : Int).toNat).length < room 24 then
                                    some ((p0.1, (p0.2.1, (([] : List (ByteArray × Int)) ++ (p0.2.2.take (r3 : Int).toNat)) ++ (p0.2.2.drop ((IntKind.i64.wrap (r3 + 1)) : Int).toNat))), 0)
                                  else
                                    none
                                else
                                  none
                              else
                                none
                            )
                          )
                        )
                      ) (
                        if (0 : Int) ≤ (IntKind.i64.wrap (r3 + 1)) ∧ ((IntKind.i64.wrap (r3 + 1)) : Int) ≤ p0.2.2.length then
                          if ([] : List (ByteArray × Int)).length + (p0.2.2.take (r3 : Int).toNat).length < room 24 then
                            if (([] : List (ByteArray × Int)) ++ (p0.2.2.take (r3 : Int).toNat)).length + (p0.2.2.drop ((IntKind.i64.wrap (r3 + 1)) : Int).toNat).length < room 24 then
                              some ((p0.1, (p0.2.1, (([] : List (ByteArray × Int)) ++ (p0.2.2.take (r3 : Int).toNat)) ++ (p0.2.2.drop ((IntKind.i64.wrap (r3 + 1)) : Int).toNat))), 0)
                            else
                              none
                          else
                            none
                        else
                          none
                      )
                    )
                  )
                else
                  none
              ) (
                if (0 : Int) ≤ (IntKind.i64.wrap (r3 + 1)) ∧ ((IntKind.i64.wrap (r3 + 1)) : Int) ≤ p0.2.2.length then
                  if (0 : Int) ≤ r3 ∧ (r3 : Int) ≤ p0.2.2.length then
                    if ([] : List (ByteArray × Int)).length + (p0.2.2.take (r3 : Int).toNat).length < room 24 then
                      if (([] : List (ByteArray × Int)) ++ (p0.2.2.take (r3 : Int).toNat)).length + (p0.2.2.drop ((IntKind.i64.wrap (r3 + 1)) : Int).toNat).length < room 24 then
                        some ((p0.1, (p0.2.1, (([] : List (ByteArray × Int)) ++ (p0.2.2.take (r3 : Int).toNat)) ++ (p0.2.2.drop ((IntKind.i64.wrap (r3 + 1)) : Int).toNat))), 0)
                      else
                        none
                    else
                      none
                  else
                    none
                else
                  none
              )
            )
          )
        )
  else
    some ((ByteArray.empty, (0, [])), 1)
def spec_CutLine.fn (n : Nat) (p0 : ByteArray × Int × List (ByteArray × Int)) (article1 : ByteArray) : Option ((ByteArray × Int × List (ByteArray × Int)) × Int) := spec_CutLine.top p0 article1
def spec_CutLine.f (p0 : ByteArray × Int × List (ByteArray × Int)) (article1 : ByteArray) : Option ((ByteArray × Int × List (ByteArray × Int)) × Int) := spec_CutLine.fn NN p0 article1
end
end Go.Pl

namespace Go.Pl
open Go.Ev
set_option linter.unusedVariables false
set_option linter.unusedSimpArgs false
abbrev Pap := ByteArray × Int × List Ln
theorem impl_withLines_f (p : Pap) (ls : List Ln) : impl_withLines.f p ls = some (p.1, p.2.1, ls) := rfl
theorem room24n {n : Nat} (h : n ≤ 2000) : n < room 24 := by rw [room24]; omega
theorem find_idx (p : Pap) (a : ByteArray) (h : p.2.2.length ≤ 1000000) :
    (∃ q y r, p.2.2 = q ++ y :: r ∧ y.1 = a ∧ (∀ l ∈ q, l.1 ≠ a) ∧ spec_l29Find.f p a = some (q.length : Int)) ∨ ((∀ l ∈ p.2.2, l.1 ≠ a) ∧ spec_l29Find.f p a = some (-1)) := by
  rcases first_split (a := a) p.2.2 0 with ⟨q, y, r, h1, h2, h3, h4⟩ | ⟨h1, h2⟩
  · exact .inl ⟨q, y, r, h1, h2, h3, by rw [spec_l29Find_f p a h, h4]; simp⟩
  · exact .inr ⟨h1, by rw [spec_l29Find_f p a h, h2]; rfl⟩
theorem ok_line {a : ByteArray} {c : Int} (h : wordB a = true) (hc : -1000000 ≤ c ∧ c ≤ 1000000) : OkLine (a, c) := by
  have := wordB_size h
  exact ⟨by unfold Sm; simp only; omega, wf64.2 (by simp only; omega)⟩
theorem ok_zero : OkPaper (ByteArray.empty, ((0 : Int), ([] : List Ln))) := ⟨by unfold Sm; decide, wf64.2 (by simp), by simp, by simp⟩
theorem ok_paper {p : Pap} (hp : OkPaper p) {ls : List Ln} (h1 : ls.length ≤ 1000) (h2 : ∀ l ∈ ls, OkLine l) : OkPaper (p.1, p.2.1, ls) := ⟨hp.1, hp.2.1, by simp only; omega, h2⟩
theorem put_found {ls q r : List Ln} {y : Ln} {a : ByteArray} {c : Int} (hc : c ≠ 0) (hs : Srt ls) (h1 : ls = q ++ y :: r) (h2 : y.1 = a) : putL a c ls = q ++ (a, c) :: r ∧ ls.set q.length (y.1, c) = q ++ (a, c) :: r := by
  subst h1
  obtain ⟨k1, k2⟩ := srt_mid hs
  refine ⟨?_, by simp [h2]⟩
  unfold putL
  rw [if_neg hc]
  exact ins_mid c h2 (fun l hl e => by have := k2 l hl; rw [h2, e, ltW_irr] at this; cases this) q (fun l hl => by rw [← h2]; exact k1 l hl)
theorem put_new {ls : List Ln} {a : ByteArray} {c : Int} (hc : c ≠ 0) (hs : Srt ls) (h : ∀ l ∈ ls, l.1 ≠ a) : putL a c ls = addA a c ls := by
  unfold putL
  rw [if_neg hc]
  exact ins_add c ls hs h
theorem line_ok_lm {l : Ln} (h : lineOk l = true) : OkLine l := by
  have h3 := lineOk_iff.1 h
  have := wordB_size h3.1
  exact ⟨by unfold Sm; omega, wf64.2 (by omega)⟩
theorem add_ok {a : ByteArray} {c : Int} {xs : List Ln} (ha : wordB a = true) (hc : 1 ≤ c ∧ c ≤ 1000) (h : ∀ l ∈ xs, l.1 ≠ a) (hx : ∀ l ∈ xs, lineOk l = true) : ∀ l ∈ addA a c xs, lineOk l = true := by
  intro l hl
  rcases mem_add xs hl with rfl | ⟨y, h1, h2, _⟩ | h1
  · exact lineOk_iff.2 ⟨ha, hc⟩
  · exact absurd h2 (h y h1)
  · exact hx l h1
theorem PutLine_core (p : Pap) (a : ByteArray) (c : Int) (hp : OkPaper p) (ha : Sm a) (hcc : Rg .i64 c) : ∃ w, spec_PutLine.f p a c = some w ∧ impl_PutLine.f p a c = some w ∧ OkPaper w.1 := by
  unfold spec_PutLine.f spec_PutLine.fn spec_PutLine.top impl_PutLine.f impl_PutLine.fn impl_PutLine.top
  have ha' : a.size ≤ 140737488355328 := Nat.le_trans ha (by omega)
  rw [spec_IsPaper_f p hp, impl_IsPaper_f p hp, spec_IsWord_f a ha', impl_IsWord_f a ha', spec_l01In_f, impl_within_f]
  cases h1 : paperB p
  · exact ⟨_, rfl, rfl, ok_zero⟩
  cases h2 : wordB a
  · exact ⟨_, rfl, rfl, ok_zero⟩
  cases h3 : inB c 1 1000
  · exact ⟨_, rfl, rfl, ok_zero⟩
  have hc := inB_iff.1 h3
  have hc0 : c ≠ 0 := by omega
  have hl := (paperB_iff h1).2.2
  obtain ⟨q1, q2⟩ := linesB_ok hl
  have hs := linesB_srt hl
  have r1 := room24n (n := p.2.2.length) (by omega)
  simp only [Option.bind_some, Bool.not_true, Bool.false_eq_true, if_false, if_true, List.nil_append, List.length_nil, Nat.zero_add, r1]
  rw [impl_putLine_f _ _ _ (by omega)]
  rcases find_idx p a (by omega) with ⟨q, y, r, e1, e2, e3, e4⟩ | ⟨e1, e2⟩
  · obtain ⟨f1, f2⟩ := put_found (c := c) hc0 hs e1 e2
    have hql : q.length + r.length + 1 = p.2.2.length := by rw [e1]; simp; omega
    have n1 : (0 : Int) ≤ (q.length : Int) := by omega
    have n2 : (q.length : Int) < (p.2.2.length : Int) := by omega
    have n3 : ¬ (12 : Int) < ((putL a c p.2.2).length : Int) := by rw [f1]; simp; omega
    have g : ∀ z, p.2.2.getD q.length z = y := fun z => by rw [e1, mid_getn]
    rw [e4]
    simp only [Option.bind_some, n1, n2, n3, and_self, decide_true, decide_false, Bool.false_eq_true, if_true, if_false, impl_withLines_f, Int.toNat_natCast, g, f2]
    refine ⟨_, rfl, by rw [f1], ok_paper hp (by simp; omega) fun l hl => ?_⟩
    rcases List.mem_append.1 hl with h | h
    · exact line_ok_lm (q2 l (by rw [e1]; simp [h]))
    · rcases List.mem_cons.1 h with rfl | h
      · exact ok_line h2 (by omega)
      · exact line_ok_lm (q2 l (by rw [e1]; simp [h]))
  · have f1 := put_new (c := c) hc0 hs e1
    have hlen := add_len (a := a) (c := c) p.2.2
    have hok := add_ok h2 hc e1 q2
    have n1 : ¬ (0 : Int) ≤ -1 := by omega
    have hpo : OkPaper (p.1, p.2.1, addA a c p.2.2) := ok_paper hp (by omega) fun l hl => line_ok_lm (hok l hl)
    rw [e2]
    simp only [Option.bind_some, n1, decide_false, Bool.false_eq_true, if_false, f1]
    rw [spec_l29Put_f _ _ _ (by omega) (by omega) (fun l hl => by have := (lineOk_iff.1 (q2 l hl)).2; omega)]
    simp only [Option.bind_some, impl_withLines_f]
    rw [spec_IsPaper_f _ hpo]
    have hpb : paperB (p.1, p.2.1, addA a c p.2.2) = decide ((addA a c p.2.2).length ≤ 12) := by
      obtain ⟨k1, k2, _⟩ := paperB_iff h1
      unfold paperB
      simp only [k1, inB_iff.2 k2, Bool.true_and]
      by_cases h : (addA a c p.2.2).length ≤ 12
      · rw [linesB_of (add_srt _ hs) hok h]; simp [h]
      · unfold linesB; simp [h]
    rw [hpb]
    by_cases h : (addA a c p.2.2).length ≤ 12
    · have h' : ¬ (12 : Int) < ((addA a c p.2.2).length : Int) := by omega
      refine ⟨((p.1, p.2.1, addA a c p.2.2), 0), by simp [h], by simp [h'], hpo⟩
    · have h' : (12 : Int) < ((addA a c p.2.2).length : Int) := by omega
      refine ⟨((ByteArray.empty, 0, []), 3), by simp [h], by simp [h'], ok_zero⟩
theorem cnt_none {a : ByteArray} : ∀ {xs : List Ln}, (∀ l ∈ xs, l.1 ≠ a) → cntL a xs = 0 := by
  intro xs
  induction xs with
  | nil => intro _; rfl
  | cons l r ih => intro h; simp only [cntL, h l (by simp), if_false]; exact ih fun x hx => h x (by simp [hx])
theorem cnt_mid {a : ByteArray} {r : List Ln} {y : Ln} (hy : y.1 = a) : ∀ {q : List Ln}, (∀ l ∈ q, l.1 ≠ a) → cntL a (q ++ y :: r) = y.2 := by
  intro q
  induction q with
  | nil => intro _; simp [cntL, hy]
  | cons l q ih => intro h; simp only [List.cons_append, cntL, h l (by simp), if_false]; exact ih fun x hx => h x (by simp [hx])
theorem CutLine_core (p : Pap) (a : ByteArray) (hp : OkPaper p) (ha : Sm a) : ∃ w, spec_CutLine.f p a = some w ∧ impl_CutLine.f p a = some w ∧ OkPaper w.1 := by
  unfold spec_CutLine.f spec_CutLine.fn spec_CutLine.top impl_CutLine.f impl_CutLine.fn impl_CutLine.top
  have ha' : a.size ≤ 140737488355328 := Nat.le_trans ha (by omega)
  rw [spec_IsPaper_f p hp, impl_IsPaper_f p hp, spec_IsWord_f a ha', impl_IsWord_f a ha']
  cases h1 : paperB p
  · exact ⟨_, rfl, rfl, ok_zero⟩
  cases h2 : wordB a
  · exact ⟨_, rfl, rfl, ok_zero⟩
  have hl := (paperB_iff h1).2.2
  obtain ⟨q1, q2⟩ := linesB_ok hl
  have hs := linesB_srt hl
  simp only [Option.bind_some, Bool.not_true, Bool.false_eq_true, if_false, if_true]
  rw [impl_putLine_f _ _ _ (by omega), impl_countIn_f _ _ (by omega)]
  rcases find_idx p a (by omega) with ⟨q, y, r, e1, e2, e3, e4⟩ | ⟨e1, e2⟩
  · have hql : q.length + r.length + 1 = p.2.2.length := by rw [e1]; simp; omega
    have n1 : (0 : Int) ≤ (q.length : Int) := by omega
    have n2 : (q.length : Int) ≤ (p.2.2.length : Int) := by omega
    have n3 : ¬ (q.length : Int) < 0 := by omega
    have n4 : (0 : Int) ≤ (q.length : Int) + 1 := by omega
    have n5 : (q.length : Int) + 1 ≤ (p.2.2.length : Int) := by omega
    have t1 : ((q.length : Int) + 1).toNat = q.length + 1 := by omega
    have w1 := w64 (n := (q.length : Int) + 1) (by omega) (by omega)
    have hy := lineOk_iff.1 (q2 y (by rw [e1]; simp))
    have hcnt : cntL a p.2.2 = y.2 := by rw [e1]; exact cnt_mid e2 e3
    have hn : ¬ y.2 = 0 := by omega
    rw [e1] at hs
    obtain ⟨k1, k2⟩ := srt_mid hs
    have hrem : putL a 0 p.2.2 = q ++ r := by
      unfold putL
      rw [if_pos rfl, e1]
      exact rem_mid e2 e3 (fun l hl e => by have := k2 l hl; rw [e2, e, ltW_irr] at this; cases this)
    have htk : p.2.2.take q.length = q := by rw [e1]; simp
    have hdr : p.2.2.drop (q.length + 1) = r := by rw [e1]; simp
    have r1 := room24n (n := 0 + q.length) (by omega)
    have r2 := room24n (n := q.length + r.length) (by omega)
    rw [e4]
    simp only [Option.bind_some, n1, n2, n3, n4, n5, w1, t1, Int.toNat_natCast, and_self, decide_false, Bool.false_eq_true, if_false, if_true, htk, hdr, List.nil_append, List.length_nil, r1, r2, agree_self, hcnt, hrem, impl_withLines_f]
    refine ⟨_, rfl, by simp [hn], ok_paper hp (by simp; omega) fun l hl => ?_⟩
    rcases List.mem_append.1 hl with h | h
    · exact line_ok_lm (q2 l (by rw [e1]; simp [h]))
    · exact line_ok_lm (q2 l (by rw [e1]; simp [h]))
  · have n1 : (-1 : Int) < 0 := by omega
    rw [e2, cnt_none e1]
    exact ⟨_, rfl, rfl, ok_zero⟩
end Go.Pl

namespace Go.Pl
open Go.Ev
set_option linter.unusedVariables false
set_option linter.unusedSimpArgs false
/-- what the merging of lines comes to -/
def mrgL (ax bs : List Ln) : List Ln := bs.foldl (fun st l => addA l.1 l.2 st) ax
/-- lines whose words are words, of counts up to a bound -/
def WOk (B : Int) (l : Ln) : Prop := wordB l.1 = true ∧ 1 ≤ l.2 ∧ l.2 ≤ B
theorem wok_of {xs : List Ln} (h : ∀ l ∈ xs, lineOk l = true) : ∀ l ∈ xs, WOk 1000 l := fun l hl => lineOk_iff.1 (h l hl)
theorem add_wok {a : ByteArray} {c B : Int} {xs : List Ln} (hB : 0 ≤ B) (ha : wordB a = true) (hc : 1 ≤ c ∧ c ≤ 1000) (hx : ∀ l ∈ xs, WOk B l) : ∀ l ∈ addA a c xs, WOk (B + 1000) l := by
  intro l hl
  rcases mem_add xs hl with rfl | ⟨y, h1, _, rfl⟩ | h1
  · exact ⟨ha, hc.1, by simp only; omega⟩
  · have := hx y h1; exact ⟨ha, by have := this.2; simp only; omega, by have := this.2; simp only; omega⟩
  · have := hx l h1; exact ⟨this.1, this.2.1, by have := this.2.2; omega⟩
theorem cnt_add_ne {a x : ByteArray} {c : Int} (h : x ≠ a) : ∀ (xs : List Ln), cntL x (addA a c xs) = cntL x xs := by
  intro xs
  induction xs with
  | nil => simp only [addA, cntL, fun e : a = x => h e.symm, if_false]; rw [if_neg (fun e => h e.symm)]
  | cons l r ih =>
    simp only [addA]
    split
    · simp only [cntL, ih]
    · split
      · rename_i _ he
        simp only [cntL]
        rw [if_neg (fun e => h e.symm), if_neg (fun e => h (e.symm.trans he))]
      · simp only [cntL]
        rw [if_neg (fun e => h e.symm)]
theorem cnt_add_eq {a : ByteArray} {c : Int} : ∀ (xs : List Ln), Srt xs → cntL a (addA a c xs) = c + cntL a xs := by
  intro xs
  induction xs with
  | nil => intro _; simp [addA, cntL]
  | cons l r ih =>
    intro hs
    obtain ⟨h1, h2⟩ := List.pairwise_cons.1 hs
    simp only [addA]
    split
    · rename_i h
      have hne := ltW_ne h
      simp only [cntL, hne, if_false, ih h2]
    · rename_i h
      split
      · rename_i he
        simp only [cntL, he, if_true]
      · rename_i he
        have hlt : ltW a l.1 = true := ltW_not (by simpa using h) he
        have hn : cntL a r = 0 := cnt_none fun x hx => (ltW_ne (ltW_trans hlt (h1 x hx))).symm
        simp only [cntL, he, if_true, if_false, hn]
        omega
/-- put with the sum is add -/
theorem put_add {a : ByteArray} {c : Int} {xs : List Ln} (hs : Srt xs) (hc : c + cntL a xs ≠ 0) : putL a (c + cntL a xs) xs = addA a c xs := by
  rcases first_split (a := a) xs 0 with ⟨q, y, r, h1, h2, h3, _⟩ | ⟨h1, _⟩
  · subst h1
    obtain ⟨k1, k2⟩ := srt_mid hs
    rw [cnt_mid h2 h3] at hc ⊢
    unfold putL
    rw [if_neg hc, ins_mid _ h2 (fun l hl e => by have := k2 l hl; rw [h2, e, ltW_irr] at this; cases this) q (fun l hl => by rw [← h2]; exact k1 l hl)]
    rw [add_mid c h2 q (fun l hl => by rw [← h2]; exact k1 l hl)]
  · rw [cnt_none h1] at hc ⊢
    rw [Int.add_zero] at hc ⊢
    exact put_new hc hs h1
/-- how it stands while b's lines are taken in -/
structure MI (ax p st : List Ln) : Prop where
  srt : Srt st
  len : st.length ≤ ax.length + p.length
  ok : ∀ l ∈ st, WOk (1000 + 1000 * p.length) l
  cnt : ∀ x, (∀ l ∈ p, l.1 ≠ x) → cntL x st = cntL x ax
theorem mi_step {ax p st : List Ln} {l : Ln} (h : MI ax p st) (hl : lineOk l = true) : MI ax (p ++ [l]) (addA l.1 l.2 st) where
  srt := add_srt _ h.srt
  len := by have := add_len (a := l.1) (c := l.2) st; have := h.len; simp; omega
  ok := fun x hx => by
    have h1 := lineOk_iff.1 hl
    have := add_wok (B := 1000 + 1000 * p.length) (by omega) h1.1 h1.2 h.ok x hx
    exact ⟨this.1, this.2.1, by have := this.2.2; simp only [List.length_append, List.length_singleton]; omega⟩
  cnt := fun x hx => by
    rw [cnt_add_ne (fun e => hx l (by simp) e.symm)]
    exact h.cnt x fun y hy => hx y (by simp [hy])
theorem mi_zero {ax : List Ln} (hs : Srt ax) (ho : ∀ l ∈ ax, lineOk l = true) : MI ax [] ax := ⟨hs, by simp, fun l hl => by have := wok_of ho l hl; exact ⟨this.1, this.2.1, by have := this.2.2; simp only [List.length_nil]; omega⟩, fun _ _ => rfl⟩
def mrgR (a : Pap) (ls : List Ln) : Pap × Int := if linesB ls = true then ((a.1, a.2.1, ls), 0) else ((ByteArray.empty, 0, []), 3)
theorem mi_lm {ax p st : List Ln} (h : MI ax p st) (h1 : ax.length ≤ 12) (h2 : p.length ≤ 12) : Lm OkLine st := ⟨by have := h.len; omega, fun l hl => by
  have := h.ok l hl
  exact ok_line this.1 (by have := this.2; omega)⟩
theorem Merge_l (a b : Pap) (hpa : OkPaper a) (h1 : paperB a = true) (h2 : paperB b = true) :
    MI a.2.2 b.2.2 (mrgL a.2.2 b.2.2) ∧ impl_MergePapers.l5 NN NN b.2.2 b.2.2.length 0 a ByteArray.empty 0 a.2.2 [] = some (mrgR a (mrgL a.2.2 b.2.2)) ∧ spec_MergePapers.l5 NN NN 0 b ByteArray.empty 0 a.1 a.2.1 [] a.2.2 = some (mrgR a (mrgL a.2.2 b.2.2)) := by
  obtain ⟨a1, a2, a3⟩ := paperB_iff h1
  obtain ⟨b1, b2, b3⟩ := paperB_iff h2
  obtain ⟨qa1, qa2⟩ := linesB_ok a3
  obtain ⟨qb1, qb2⟩ := linesB_ok b3
  have hsa := linesB_srt a3
  have hsb := linesB_srt b3
  have hm0 := mi_zero hsa qa2
  have fin : ∀ st, MI a.2.2 b.2.2 st → impl_areLines.f st = some (linesB st) ∧ spec_IsPaper.f (a.1, a.2.1, st) = some (linesB st) := fun st h => by
    have hlm := mi_lm h qa1 qb1
    refine ⟨impl_areLines_f st hlm, ?_⟩
    rw [spec_IsPaper_f (a.1, a.2.1, st) ⟨hpa.1, hpa.2.1, hlm⟩]
    unfold paperB
    simp only [a1, inB_iff.2 a2, Bool.true_and]
  have e1 := fold_fix (E := fun l : Ln => lineOk l = true) (fun p st => MI a.2.2 p st) (fun _ st l => addA l.1 l.2 st) (fun st => some (mrgR a st)) (fun k i st => impl_MergePapers.l5 NN k b.2.2 b.2.2.length i a ByteArray.empty 0 st []) b.2.2 ?_ ?_ a.2.2 qb2 hm0 (by omega) NN (NN_lt (by omega))
  have e2 := fold_fix (E := fun l : Ln => lineOk l = true) (fun p st => MI a.2.2 p st) (fun _ st l => addA l.1 l.2 st) (fun st => some (mrgR a st)) (fun k i st => spec_MergePapers.l5 NN k i b ByteArray.empty 0 a.1 a.2.1 [] st) b.2.2 ?_ ?_ a.2.2 qb2 hm0 (by omega) NN (NN_lt (by omega))
  · rw [foldi_foldl] at e1 e2
    exact ⟨e1.1, e1.2, e2.2⟩
  · intro k st hI
    obtain ⟨f1, f2⟩ := fin st hI
    simp only [spec_MergePapers.l5, spec_MergePapers.g5, Int.lt_irrefl, and_self, and_true, true_and, decide_true, decide_false, if_true, if_false, mid_get, mid_set, mid_getn, mid_setn, bt_mid, Option.bind_some, Bool.not_true, Bool.not_false, Bool.false_eq_true, Bool.true_eq_false, beq_self_eq_true, bne_self_eq_false, Int.toNat_natCast, f2]
    unfold mrgR
    cases linesB st <;> rfl
  · intro k p l r st hx hl hI c0 c1 c2 cw g
    refine ⟨mi_step hI hl, ?_⟩
    have hpl : p.length ≤ 12 := by rw [hx] at qb1; simp at qb1; omega
    have hlo := lineOk_iff.1 hl
    have := hI.len
    simp only [spec_MergePapers.l5, spec_MergePapers.g5, c0, c1, cw, and_self, and_true, true_and, decide_true, decide_false, if_true, if_false, mid_get, mid_set, mid_getn, mid_setn, bt_mid, Option.bind_some, Bool.not_true, Bool.not_false, Bool.false_eq_true, Bool.true_eq_false, beq_self_eq_true, bne_self_eq_false, Int.toNat_natCast, g]
    rw [spec_l29Put_f _ _ _ (by omega) (by omega) (fun x hx => by have := (hI.ok x hx).2; omega)]
    rfl
  · intro k st hI
    obtain ⟨f1, f2⟩ := fin st hI
    simp only [impl_MergePapers.l5, impl_MergePapers.g5, Int.lt_irrefl, and_self, and_true, true_and, decide_true, decide_false, if_true, if_false, mid_get, mid_set, mid_getn, mid_setn, bt_mid, Option.bind_some, Bool.not_true, Bool.not_false, Bool.false_eq_true, Bool.true_eq_false, beq_self_eq_true, bne_self_eq_false, Int.toNat_natCast, f1, impl_withLines_f]
    unfold mrgR
    cases linesB st <;> rfl
  · intro k p l r st hx hl hI c0 c1 c2 cw g
    refine ⟨mi_step hI hl, ?_⟩
    have hpl : p.length ≤ 12 := by rw [hx] at qb1; simp at qb1; omega
    have hlo := lineOk_iff.1 hl
    have := hI.len
    have hcb := cntL_bd l.1 a.2.2 qa2
    have w1 := w64 (n := l.2 + cntL l.1 a.2.2) (by omega) (by omega)
    have hcs : cntL l.1 st = cntL l.1 a.2.2 := hI.cnt l.1 fun x hxp e => by
      rw [hx] at hsb
      have := (srt_mid hsb).1 x hxp
      rw [e, ltW_irr] at this; cases this
    simp only [impl_MergePapers.l5, impl_MergePapers.g5, c0, c1, cw, and_self, and_true, true_and, decide_true, decide_false, if_true, if_false, mid_get, mid_set, mid_getn, mid_setn, bt_mid, Option.bind_some, Bool.not_true, Bool.not_false, Bool.false_eq_true, Bool.true_eq_false, beq_self_eq_true, bne_self_eq_false, Int.toNat_natCast, g, impl_countIn_f _ _ (show a.2.2.length ≤ 1000000 by omega), w1]
    rw [impl_putLine_f _ _ _ (by omega), ← hcs, put_add hI.srt (by rw [hcs]; omega)]
    rfl
theorem MergePapers_both (a b : Pap) (ha : OkPaper a) (hb : OkPaper b) :
    spec_MergePapers.f a b = some (if paperB a = true ∧ paperB b = true then mrgR a (mrgL a.2.2 b.2.2) else ((ByteArray.empty, 0, []), 1)) ∧ impl_MergePapers.f a b = some (if paperB a = true ∧ paperB b = true then mrgR a (mrgL a.2.2 b.2.2) else ((ByteArray.empty, 0, []), 1)) := by
  unfold spec_MergePapers.f spec_MergePapers.fn spec_MergePapers.top impl_MergePapers.f impl_MergePapers.fn impl_MergePapers.top
  have nn0 : 0 < NN := by have := NNb; omega
  rw [spec_MergePapers.c1000003 nn0]
  unfold spec_MergePapers.g1000003
  rw [spec_MergePapers.c1000004 nn0]
  unfold spec_MergePapers.g1000004
  rw [spec_IsPaper_f a ha, spec_IsPaper_f b hb, impl_IsPaper_f a ha, impl_IsPaper_f b hb]
  cases h1 : paperB a
  · exact ⟨rfl, rfl⟩
  cases h2 : paperB b
  · exact ⟨rfl, rfl⟩
  obtain ⟨_, e1, e2⟩ := Merge_l a b ha h1 h2
  obtain ⟨qa1, _⟩ := linesB_ok (paperB_iff h1).2.2
  have r1 := room24n (n := 0 + a.2.2.length) (by omega)
  simp only [Option.bind_some, Bool.not_true, Bool.false_eq_true, if_false, if_true, List.nil_append, List.length_nil, r1, e1, e2, and_self]
theorem mrgR_ok (a b : Pap) (ha : OkPaper a) (h1 : paperB a = true) (h2 : paperB b = true) : OkPaper (mrgR a (mrgL a.2.2 b.2.2)).1 := by
  unfold mrgR
  split
  · obtain ⟨e0, _, _⟩ := Merge_l a b ha h1 h2
    exact ⟨ha.1, ha.2.1, mi_lm e0 (linesB_ok (paperB_iff h1).2.2).1 (linesB_ok (paperB_iff h2).2.2).1⟩
  · exact ok_zero
theorem MergePapers_core (a b : Pap) (ha : OkPaper a) (hb : OkPaper b) : ∃ w, spec_MergePapers.f a b = some w ∧ impl_MergePapers.f a b = some w ∧ OkPaper w.1 := by
  obtain ⟨e1, e2⟩ := MergePapers_both a b ha hb
  refine ⟨_, e1, e2, ?_⟩
  split
  · rename_i h; exact mrgR_ok a b ha h.1 h.2
  · exact ok_zero
end Go.Pl

namespace Go.Pl
open Go.Ev
set_option linter.unusedVariables false
set_option linter.unusedSimpArgs false
theorem FnExactMergePapers_true (aA : ByteArray × Int × (List (ByteArray × Int))) (aB : ByteArray × Int × (List (ByteArray × Int))) (hyp : PlPaper aA ∧ PlPaper aB) : laws_FnExactMergePapers.f aA aB = some true := by
  obtain ⟨h_aA, h_aB⟩ := hyp
  unfold laws_FnExactMergePapers.f laws_FnExactMergePapers.fn laws_FnExactMergePapers.top
  obtain ⟨s1, e1, l1, k1⟩ := laws_szPaper_ok aA 1000000 (by omega) (by omega) h_aA
  simp only [e1, Option.bind_some, decide_eq_true_eq]
  by_cases hn1 : s1 < 0
  · simp [hn1]
  simp only [hn1, if_false]
  obtain ⟨q1, o_aA⟩ := k1 (by omega)
  obtain ⟨s2, e2, l2, k2⟩ := laws_szPaper_ok aB s1 (by omega) (by omega) h_aB
  simp only [e2, Option.bind_some, decide_eq_true_eq]
  by_cases hn2 : s2 < 0
  · simp [hn2]
  simp only [hn2, if_false]
  obtain ⟨q2, o_aB⟩ := k2 (by omega)
  obtain ⟨f0_aA, t_aA, i_aA⟩ := laws_toPaper_both aA o_aA
  obtain ⟨f0_aB, t_aB, i_aB⟩ := laws_toPaper_both aB o_aB
  obtain ⟨⟨w0, w1⟩, c1, c2, c3⟩ := MergePapers_core aA aB o_aA o_aB
  have c4 := c3
  have c3_0 : OkPaper w0 := c3
  have eq_0 := laws_eqPaper_self w0 (Nat.le_trans c3_0.2.2.1 (by omega))
  obtain ⟨m1, d1_0, x1, y1, z1, u1⟩ := laws_markPaper_ok aA o_aA 101 (by omega) (by omega)
  obtain ⟨m2, d2_0, x2, y2, z2, u2⟩ := laws_markPaper_ok aB o_aB m1 (by omega) (by omega)
  have kn : ¬ m2 < 0 := by omega
  obtain ⟨m3, d3_0, x3, y3, z3, u3⟩ := laws_markPaper_ok w0 c3_0 101 (by omega) (by omega)
  have n3 : ¬ m3 < 0 := by omega
  have nn0 : 0 < NN := by have := NNb; omega
  simp [t_aA, i_aA, t_aB, i_aB, c1, c2, eq_0, x1, x2, kn, x3, y3, n3, laws_FnExactMergePapers.c1000009 nn0, laws_FnExactMergePapers.g1000009, laws_FnExactMergePapers.c1000018 nn0, laws_FnExactMergePapers.g1000018, laws_FnExactMergePapers.c1000032 nn0, laws_FnExactMergePapers.g1000032]
end Go.Pl
