/- Part 3 of what the law FnExactNextDay stands on: an evaluator of the model's code, proved sound; the functions as plain texts; their contracts. -/
import Derived.Test.YtfedipldlkncnaaChecked
import Derived.Test.YtfedipldlkncnaaProg
import Derived.Test.YtfedipldlkncnaaRows
import Derived.Below
import Derived.Calls
import Derived.Carry
import Derived.ChangeArms
import Derived.ChangeKeysEq
import Derived.ChangeOld
import Derived.Deep.Quiet
import Derived.KernelRfl
import Derived.Laws.Append
import Derived.Laws.BytesString
import Derived.Laws.MakeOwn
import Derived.Laws.Strings
import Derived.Laws.StructEq
import Derived.OpenShut
import Derived.OrdersHeld
import Derived.ProofKit
import Derived.ShutString
import Derived.SizedLaws
import Derived.Tactics
import Derived.WalkKit
import Derived.WideShapes
import Derived.Test.YtfedipldlkncnaaEvExactNextDay2
namespace Go.Pl
open Go.Ev
set_option linter.unusedVariables false
noncomputable section
def impl_articleOf.g2 (L2 : ByteArray → (List (ByteArray × Int × Int × Int × Int × Int × Int × Int × Int)) → Int → Int → Option Int) (code1 : ByteArray) (v7 : List (ByteArray × Int × Int × Int × Int × Int × Int × Int × Int)) (v8 : Int) (v9 : Int) : Option Int :=
  if (decide ((v9 : Int) < v8)) = true then
    if (0 : Int) ≤ v9 ∧ (v9 : Int) < v7.length then
      if (((v7.getD (v9 : Int).toNat (ByteArray.empty, (0, (0, (0, (0, (0, (0, (0, 0))))))))).1).toList == code1.toList) = true then
        some v9
      else
        L2 code1 v7 v8 (IntKind.i64.wrap (v9 + 1))
    else
      none
  else
    some (-1)
def impl_articleOf.l2 (n : Nat) : Nat → ByteArray → (List (ByteArray × Int × Int × Int × Int × Int × Int × Int × Int)) → Int → Int → Option Int
  | 0 => fun _ _ _ _ => none
  | k + 1 => impl_articleOf.g2 (impl_articleOf.l2 n k)
def impl_articleOf.top (I2 : ByteArray → (List (ByteArray × Int × Int × Int × Int × Int × Int × Int × Int)) → Int → Int → Option Int) (list0 : List (ByteArray × Int × Int × Int × Int × Int × Int × Int × Int)) (code1 : ByteArray) : Option Int :=
  I2 code1 list0 (list0.length : Int) 0
def impl_articleOf.fn (n : Nat) (list0 : List (ByteArray × Int × Int × Int × Int × Int × Int × Int × Int)) (code1 : ByteArray) : Option Int := impl_articleOf.top (impl_articleOf.l2 n n) list0 code1
def impl_articleOf.f (list0 : List (ByteArray × Int × Int × Int × Int × Int × Int × Int × Int)) (code1 : ByteArray) : Option Int := impl_articleOf.fn NN list0 code1
end
end Go.Pl

namespace Go.Pl
open Go.Ev
set_option linter.unusedVariables false
noncomputable section
def spec_l03Find.g2 (L2 : (List (ByteArray × Int × Int × Int × Int × Int × Int × Int × Int)) → ByteArray → Int → Option Int) (list0 : List (ByteArray × Int × Int × Int × Int × Int × Int × Int × Int)) (code1 : ByteArray) (i5 : Int) : Option Int :=
  if (decide ((i5 : Int) < (list0.length : Int))) = true then
    if (0 : Int) ≤ i5 ∧ (i5 : Int) < list0.length then
      if (((list0.getD (i5 : Int).toNat (ByteArray.empty, (0, (0, (0, (0, (0, (0, (0, 0))))))))).1).toList == code1.toList) = true then
        some i5
      else
        L2 list0 code1 (IntKind.i64.wrap (i5 + 1))
    else
      none
  else
    some (-1)
def spec_l03Find.l2 (n : Nat) : Nat → (List (ByteArray × Int × Int × Int × Int × Int × Int × Int × Int)) → ByteArray → Int → Option Int
  | 0 => fun _ _ _ => none
  | k + 1 => spec_l03Find.g2 (spec_l03Find.l2 n k)
def spec_l03Find.top (I2 : (List (ByteArray × Int × Int × Int × Int × Int × Int × Int × Int)) → ByteArray → Int → Option Int) (list0 : List (ByteArray × Int × Int × Int × Int × Int × Int × Int × Int)) (code1 : ByteArray) : Option Int :=
  I2 list0 code1 0
def spec_l03Find.fn (n : Nat) (list0 : List (ByteArray × Int × Int × Int × Int × Int × Int × Int × Int)) (code1 : ByteArray) : Option Int := spec_l03Find.top (spec_l03Find.l2 n n) list0 code1
def spec_l03Find.f (list0 : List (ByteArray × Int × Int × Int × Int × Int × Int × Int × Int)) (code1 : ByteArray) : Option Int := spec_l03Find.fn NN list0 code1
end
end Go.Pl

namespace Go.Pl
open Go.Ev
set_option linter.unusedVariables false
set_option linter.unusedSimpArgs false
abbrev Art : Type := ByteArray × Int × Int × Int × Int × Int × Int × Int × Int
def artB (a : Art) : Bool := wordB a.1 && inB a.2.1 0 3 && inB a.2.2.1 20 300 && inB a.2.2.2.1 0 10000 && inB a.2.2.2.2.1 0 a.2.2.2.1 && inB a.2.2.2.2.2.1 1 50 && inB a.2.2.2.2.2.2.1 0 10000 && inB a.2.2.2.2.2.2.2.1 1 100000 && inB a.2.2.2.2.2.2.2.2 0 3
theorem impl_IsArticle_f (a : Art) (h : Sz a.1) : impl_IsArticle.f a = some (artB a) := by
  unfold impl_IsArticle.f impl_IsArticle.fn impl_IsArticle.top artB
  simp only [impl_IsWord_f _ h, impl_within_f, Option.bind_some]
  cases wordB a.1
  · rfl
  cases inB a.2.1 0 3
  · rfl
  cases inB a.2.2.1 20 300
  · rfl
  cases inB a.2.2.2.1 0 10000
  · rfl
  cases inB a.2.2.2.2.1 0 a.2.2.2.1
  · rfl
  cases inB a.2.2.2.2.2.1 1 50
  · rfl
  cases inB a.2.2.2.2.2.2.1 0 10000
  · rfl
  cases inB a.2.2.2.2.2.2.2.1 1 100000
  · rfl
  · rfl
theorem spec_IsArticle_f (a : Art) (h : Sz a.1) : spec_IsArticle.f a = some (artB a) := by
  unfold spec_IsArticle.f spec_IsArticle.fn spec_IsArticle.top artB
  simp only [spec_IsWord_f _ h, spec_l01In_f, Option.bind_some]
  cases wordB a.1
  · rfl
  cases inB a.2.1 0 3
  · rfl
  cases inB a.2.2.1 20 300
  · rfl
  cases inB a.2.2.2.1 0 10000
  · rfl
  cases inB a.2.2.2.2.1 0 a.2.2.2.1
  · rfl
  cases inB a.2.2.2.2.2.1 1 50
  · rfl
  cases inB a.2.2.2.2.2.2.1 0 10000
  · rfl
  cases inB a.2.2.2.2.2.2.2.1 1 100000
  · rfl
  · rfl
/-- articles, looked at from the second on -/
def artsF : Art → List Art → Bool
  | _, [] => true
  | x, a :: r => artB a && ltS x.1 a.1 && artsF a r
def artsL : List Art → Bool
  | [] => true
  | a :: r => artB a && artsF a r
def artsB (xs : List Art) : Bool := decide (xs.length ≤ 12) && artsL xs
noncomputable def impl_arts_call (k : Nat) (xs : List Art) (i : Int) := impl_AreArticles.l4 NN k xs xs xs.length i
noncomputable def spec_arts_call (k : Nat) (xs : List Art) (i : Int) := spec_AreArticles.l2 NN k xs i
theorem impl_arts_loop : ∀ (r p : List Art) (x : Art) (k : Nat), p.length + r.length + 1 ≤ 140737488355328 → r.length < k → (∀ a ∈ r, Sz a.1) →
    impl_arts_call k (p ++ [x] ++ r) ((p.length : Int) + 1) = if artsF x r = true then some ((fun _ => true) (p ++ [x] ++ r)) else some false := by
  intro r
  induction r with
  | nil =>
    intro p x k _ hk _
    obtain ⟨k, rfl⟩ : ∃ j, k = j + 1 := ⟨k - 1, by omega⟩
    have n1 : ¬ (p.length : Int) + 1 < ((p ++ [x] ++ []).length : Int) := by simp
    simp only [impl_arts_call, impl_AreArticles.l4, impl_AreArticles.g4, n1, decide_false, Bool.false_eq_true, if_false, artsF, if_true]
  | cons a r ih =>
    intro p x k hb hk hz
    simp only [List.length_cons] at hb hk
    obtain ⟨k, rfl⟩ : ∃ j, k = j + 1 := ⟨k - 1, by omega⟩
    have hl : ((p ++ [x] ++ a :: r).length : Int) = p.length + r.length + 2 := by simp; omega
    have w1 := w64 (n := (p.length : Int) + 1 - 1) (by omega) (by omega)
    have w2 := w64 (n := (p.length : Int) + 1 + 1) (by omega) (by omega)
    have c1 : (p.length : Int) + 1 < ((p ++ [x] ++ a :: r).length : Int) := by omega
    have c2 : (0 : Int) ≤ (p.length : Int) + 1 - 1 := by omega
    have c3 : (p.length : Int) + 1 - 1 < ((p ++ [x] ++ a :: r).length : Int) := by omega
    have c4 : (0 : Int) ≤ (p.length : Int) + 1 := by omega
    have c5 : (0 : Int) < (p.length : Int) + 1 := by omega
    have g1 : ∀ z, (p ++ [x] ++ a :: r).getD ((p.length : Int) + 1).toNat z = a := fun z => by
      rw [show ((p.length : Int) + 1).toNat = (p ++ [x]).length by simp, mid_getn]
    have g2 : ∀ z, (p ++ [x] ++ a :: r).getD ((p.length : Int) + 1 - 1).toNat z = x := fun z => by
      rw [show ((p.length : Int) + 1 - 1).toNat = p.length by omega, snoc_getl']
    have i1 := ih (p ++ [x]) a k (by simp; omega) (by omega) (fun b hb => hz b (by simp [hb]))
    have e1 : (((p ++ [x]).length : Nat) : Int) + 1 = (p.length : Int) + 1 + 1 := by simp
    have e2 : p ++ [x] ++ [a] ++ r = p ++ [x] ++ a :: r := by simp
    rw [e1, e2] at i1
    simp only [impl_arts_call] at i1
    simp only [impl_arts_call, impl_AreArticles.l4, impl_AreArticles.g4, w1, w2, c1, c2, c3, c4, c5, g1, g2, and_self, decide_true, if_true, Option.bind_some, impl_IsArticle_f a (hz a (by simp)), artsF]
    rcases Bool.eq_false_or_eq_true (artB a) with h1 | h1
    · rcases Bool.eq_false_or_eq_true (ltS x.1 a.1) with h2 | h2
      · have h2' : Op.bytesLess x.1.toList a.1.toList = true := h2
        simp only [h1, h2, h2', Bool.not_true, Bool.false_eq_true, if_false, if_true, Bool.true_and, Bool.and_true]
        exact i1
      · have h2' : Op.bytesLess x.1.toList a.1.toList = false := h2
        simp [h1, h2, h2']
    · simp [h1]
theorem impl_arts_all (xs : List Art) (hb : xs.length ≤ 140737488355328) (hz : ∀ a ∈ xs, Sz a.1) : impl_arts_call NN xs 0 = if artsL xs = true then some ((fun _ => true) xs) else some false := by
  obtain ⟨k, hk⟩ : ∃ j, NN = j + 1 := ⟨NN - 1, by have := NNb; omega⟩
  have hkb : 1000000000000000 < k := by rw [NN_eq] at hk; omega
  unfold impl_arts_call
  rw [show impl_AreArticles.l4 NN NN = impl_AreArticles.l4 NN (k + 1) by rw [← hk]]
  cases xs with
  | nil =>
    have n1 : ¬ (0 : Int) < (([] : List Art).length : Int) := by simp
    simp only [impl_AreArticles.l4, impl_AreArticles.g4, n1, decide_false, Bool.false_eq_true, if_false, artsL, if_true]
  | cons a r =>
    simp only [List.length_cons] at hb
    have i1 := impl_arts_loop r [] a k (by simp; omega) (by omega) (fun b hb => hz b (by simp [hb]))
    simp only [impl_arts_call, List.nil_append, List.length_nil] at i1
    have n1 : (0 : Int) < ((a :: r).length : Int) := by simp only [List.length_cons]; omega
    have w2 := w64 (n := (0 : Int) + 1) (by omega) (by omega)
    have g1 : ∀ z, (a :: r).getD (0 : Int).toNat z = a := fun z => rfl
    simp only [impl_AreArticles.l4, impl_AreArticles.g4, n1, w2, g1, Int.le_refl, Int.lt_irrefl, and_self, decide_true, decide_false, if_true, Option.bind_some, impl_IsArticle_f a (hz a (by simp)), artsL]
    rcases Bool.eq_false_or_eq_true (artB a) with h1 | h1
    · simp only [h1, Bool.not_true, Bool.false_eq_true, if_false, if_true, Bool.true_and]
      exact i1
    · simp [h1]
theorem spec_arts_loop : ∀ (r p : List Art) (x : Art) (k : Nat), p.length + r.length + 1 ≤ 140737488355328 → r.length < k → (∀ a ∈ r, Sz a.1) →
    spec_arts_call k (p ++ [x] ++ r) ((p.length : Int) + 1) = if artsF x r = true then some ((fun xs : List Art => decide (((xs.length : Int) : Int) ≤ 12)) (p ++ [x] ++ r)) else some false := by
  intro r
  induction r with
  | nil =>
    intro p x k _ hk _
    obtain ⟨k, rfl⟩ : ∃ j, k = j + 1 := ⟨k - 1, by omega⟩
    have n1 : ¬ (p.length : Int) + 1 < ((p ++ [x] ++ []).length : Int) := by simp
    simp only [spec_arts_call, spec_AreArticles.l2, spec_AreArticles.g2, n1, decide_false, Bool.false_eq_true, if_false, artsF, if_true]
  | cons a r ih =>
    intro p x k hb hk hz
    simp only [List.length_cons] at hb hk
    obtain ⟨k, rfl⟩ : ∃ j, k = j + 1 := ⟨k - 1, by omega⟩
    have hl : ((p ++ [x] ++ a :: r).length : Int) = p.length + r.length + 2 := by simp; omega
    have w1 := w64 (n := (p.length : Int) + 1 - 1) (by omega) (by omega)
    have w2 := w64 (n := (p.length : Int) + 1 + 1) (by omega) (by omega)
    have c1 : (p.length : Int) + 1 < ((p ++ [x] ++ a :: r).length : Int) := by omega
    have c2 : (0 : Int) ≤ (p.length : Int) + 1 - 1 := by omega
    have c3 : (p.length : Int) + 1 - 1 < ((p ++ [x] ++ a :: r).length : Int) := by omega
    have c4 : (0 : Int) ≤ (p.length : Int) + 1 := by omega
    have c5 : (0 : Int) < (p.length : Int) + 1 := by omega
    have g1 : ∀ z, (p ++ [x] ++ a :: r).getD ((p.length : Int) + 1).toNat z = a := fun z => by
      rw [show ((p.length : Int) + 1).toNat = (p ++ [x]).length by simp, mid_getn]
    have g2 : ∀ z, (p ++ [x] ++ a :: r).getD ((p.length : Int) + 1 - 1).toNat z = x := fun z => by
      rw [show ((p.length : Int) + 1 - 1).toNat = p.length by omega, snoc_getl']
    have i1 := ih (p ++ [x]) a k (by simp; omega) (by omega) (fun b hb => hz b (by simp [hb]))
    have e1 : (((p ++ [x]).length : Nat) : Int) + 1 = (p.length : Int) + 1 + 1 := by simp
    have e2 : p ++ [x] ++ [a] ++ r = p ++ [x] ++ a :: r := by simp
    rw [e1, e2] at i1
    simp only [spec_arts_call] at i1
    simp only [spec_arts_call, spec_AreArticles.l2, spec_AreArticles.g2, w1, w2, c1, c2, c3, c4, c5, g1, g2, and_self, decide_true, if_true, Option.bind_some, spec_IsArticle_f a (hz a (by simp)), artsF]
    rcases Bool.eq_false_or_eq_true (artB a) with h1 | h1
    · rcases Bool.eq_false_or_eq_true (ltS x.1 a.1) with h2 | h2
      · have h2' : Op.bytesLess x.1.toList a.1.toList = true := h2
        simp only [h1, h2, h2', Bool.not_true, Bool.false_eq_true, if_false, if_true, Bool.true_and, Bool.and_true]
        exact i1
      · have h2' : Op.bytesLess x.1.toList a.1.toList = false := h2
        simp [h1, h2, h2']
    · simp [h1]
theorem spec_arts_all (xs : List Art) (hb : xs.length ≤ 140737488355328) (hz : ∀ a ∈ xs, Sz a.1) : spec_arts_call NN xs 0 = if artsL xs = true then some ((fun xs : List Art => decide (((xs.length : Int) : Int) ≤ 12)) xs) else some false := by
  obtain ⟨k, hk⟩ : ∃ j, NN = j + 1 := ⟨NN - 1, by have := NNb; omega⟩
  have hkb : 1000000000000000 < k := by rw [NN_eq] at hk; omega
  unfold spec_arts_call
  rw [show spec_AreArticles.l2 NN NN = spec_AreArticles.l2 NN (k + 1) by rw [← hk]]
  cases xs with
  | nil =>
    have n1 : ¬ (0 : Int) < (([] : List Art).length : Int) := by simp
    simp only [spec_AreArticles.l2, spec_AreArticles.g2, n1, decide_false, Bool.false_eq_true, if_false, artsL, if_true]
  | cons a r =>
    simp only [List.length_cons] at hb
    have i1 := spec_arts_loop r [] a k (by simp; omega) (by omega) (fun b hb => hz b (by simp [hb]))
    simp only [spec_arts_call, List.nil_append, List.length_nil] at i1
    have n1 : (0 : Int) < ((a :: r).length : Int) := by simp only [List.length_cons]; omega
    have w2 := w64 (n := (0 : Int) + 1) (by omega) (by omega)
    have g1 : ∀ z, (a :: r).getD (0 : Int).toNat z = a := fun z => rfl
    simp only [spec_AreArticles.l2, spec_AreArticles.g2, n1, w2, g1, Int.le_refl, Int.lt_irrefl, and_self, decide_true, decide_false, if_true, Option.bind_some, spec_IsArticle_f a (hz a (by simp)), artsL]
    rcases Bool.eq_false_or_eq_true (artB a) with h1 | h1
    · simp only [h1, Bool.not_true, Bool.false_eq_true, if_false, if_true, Bool.true_and]
      exact i1
    · simp [h1]
theorem impl_AreArticles_f (xs : List Art) (hb : xs.length ≤ 140737488355328) (hz : ∀ a ∈ xs, Sz a.1) : impl_AreArticles.f xs = some (artsB xs) := by
  unfold impl_AreArticles.f impl_AreArticles.fn impl_AreArticles.top artsB
  have := impl_arts_all xs hb hz
  unfold impl_arts_call at this
  by_cases h : (12 : Int) < (xs.length : Int)
  · have h2 : ¬ xs.length ≤ 12 := by omega
    simp only [h, h2, decide_true, decide_false, if_true, Bool.false_and]
  · have h2 : xs.length ≤ 12 := by omega
    simp only [h, h2, decide_true, decide_false, Bool.false_eq_true, if_false, Bool.true_and]
    rw [this]
    cases artsL xs <;> rfl
theorem spec_AreArticles_f (xs : List Art) (hb : xs.length ≤ 140737488355328) (hz : ∀ a ∈ xs, Sz a.1) : spec_AreArticles.f xs = some (artsB xs) := by
  unfold spec_AreArticles.f spec_AreArticles.fn spec_AreArticles.top artsB
  have := spec_arts_all xs hb hz
  unfold spec_arts_call at this
  rw [this]
  have e : decide (((xs.length : Int) : Int) ≤ 12) = decide (xs.length ≤ 12) := by
    by_cases h : xs.length ≤ 12
    · have : (xs.length : Int) ≤ 12 := by omega
      simp [h, this]
    · have : ¬ (xs.length : Int) ≤ 12 := by omega
      simp [h, this]
  simp only [e]
  cases artsL xs <;> simp
theorem artsF_ok : ∀ (r : List Art) (x : Art), artsF x r = true → ∀ a ∈ r, artB a = true := by
  intro r
  induction r with
  | nil => intro x _ a ha; cases ha
  | cons b r ih =>
    intro x h a ha
    simp only [artsF, Bool.and_eq_true] at h
    rcases List.mem_cons.1 ha with rfl | ha
    · exact h.1.1
    · exact ih b h.2 a ha
theorem artsB_ok {xs : List Art} (h : artsB xs = true) : xs.length ≤ 12 ∧ ∀ a ∈ xs, artB a = true := by
  unfold artsB at h
  simp only [Bool.and_eq_true, decide_eq_true_eq] at h
  refine ⟨h.1, ?_⟩
  cases xs with
  | nil => intro a ha; cases ha
  | cons b r =>
    intro a ha
    have h2 := h.2
    simp only [artsL, Bool.and_eq_true] at h2
    rcases List.mem_cons.1 ha with rfl | ha
    · exact h2.1
    · exact artsF_ok r b h2.2 a ha
theorem artB_iff {a : Art} (h : artB a = true) : wordB a.1 = true ∧ (0 ≤ a.2.1 ∧ a.2.1 ≤ 3) ∧ (20 ≤ a.2.2.1 ∧ a.2.2.1 ≤ 300) ∧ (1 ≤ a.2.2.2.2.2.2.2.1 ∧ a.2.2.2.2.2.2.2.1 ≤ 100000) ∧ (0 ≤ a.2.2.2.2.2.2.2.2 ∧ a.2.2.2.2.2.2.2.2 ≤ 3) := by
  unfold artB at h
  simp only [Bool.and_eq_true, inB_iff] at h
  exact ⟨h.1.1.1.1.1.1.1.1, h.1.1.1.1.1.1.1.2, h.1.1.1.1.1.1.2, h.1.2, h.2⟩
/-- the number of an article, or -1 -/
def artI (xs : List Art) (c : ByteArray) : Int := (firstOf (fun l : Art => decide (l.1 = c)) 0 xs).elim (-1) (fun x => (x.1 : Int))
theorem impl_articleOf_f (xs : List Art) (c : ByteArray) (h : xs.length ≤ 140737488355328) : impl_articleOf.f xs c = some (artI xs c) := by
  have := find_loop (E := fun _ => True) (fun l : Art => decide (l.1 = c)) (fun i _ => some (i : Int)) (fun _ => some (-1)) (fun k xs i => impl_articleOf.l2 NN k c xs xs.length i) ?_ ?_ xs (fun _ _ => trivial) (by omega) NN (NN_lt (by omega))
  · refine this.trans ?_
    unfold artI
    cases firstOf (fun l : Art => decide (l.1 = c)) 0 xs <;> rfl
  · intro k p
    simp [impl_articleOf.l2, impl_articleOf.g2]
  · intro k p l r _ c0 c1 c2 cw
    simp only [impl_articleOf.l2, impl_articleOf.g2, c0, c1, cw, and_self, and_true, true_and, decide_true, decide_false, if_true, if_false, mid_get, mid_set, mid_getn, mid_setn, bt_mid, Option.bind_some, Bool.not_true, Bool.not_false, Bool.false_eq_true, Bool.true_eq_false, beq_self_eq_true, bne_self_eq_false, Int.toNat_natCast, ba_beq]
theorem spec_l03Find_f (xs : List Art) (c : ByteArray) (h : xs.length ≤ 140737488355328) : spec_l03Find.f xs c = some (artI xs c) := by
  have := find_loop (E := fun _ => True) (fun l : Art => decide (l.1 = c)) (fun i _ => some (i : Int)) (fun _ => some (-1)) (fun k xs i => spec_l03Find.l2 NN k xs c i) ?_ ?_ xs (fun _ _ => trivial) (by omega) NN (NN_lt (by omega))
  · refine this.trans ?_
    unfold artI
    cases firstOf (fun l : Art => decide (l.1 = c)) 0 xs <;> rfl
  · intro k p
    simp [spec_l03Find.l2, spec_l03Find.g2]
  · intro k p l r _ c0 c1 c2 cw
    simp only [spec_l03Find.l2, spec_l03Find.g2, c0, c1, cw, and_self, and_true, true_and, decide_true, decide_false, if_true, if_false, mid_get, mid_set, mid_getn, mid_setn, bt_mid, Option.bind_some, Bool.not_true, Bool.not_false, Bool.false_eq_true, Bool.true_eq_false, beq_self_eq_true, bne_self_eq_false, Int.toNat_natCast, ba_beq]
theorem artI_bd (xs : List Art) (c : ByteArray) : artI xs c < (xs.length : Int) := by
  unfold artI
  cases h : firstOf (fun l : Art => decide (l.1 = c)) 0 xs with
  | none => simp only [Option.elim_none]; omega
  | some x =>
    have := firstOf_spec _ xs 0 x.1 x.2 h
    simp only [Option.elim_some]; omega
theorem firstOf_none {α : Type} (P : α → Bool) : ∀ (xs : List α) (i : Nat), firstOf P i xs = none → ∀ x ∈ xs, P x = false := by
  intro xs
  induction xs with
  | nil => intro i _ x hx; cases hx
  | cons a r ih =>
    intro i h x hx
    simp only [firstOf] at h
    split at h
    · cases h
    · rename_i hp
      rcases List.mem_cons.1 hx with rfl | hx
      · simpa using hp
      · exact ih _ h x hx
end Go.Pl

namespace Go.Pl
open Go.Ev
set_option linter.unusedVariables false
noncomputable section
def impl_RefusalsOf.top (p0 : Int × Int × Int × Int × List Int × Int) (list1 : List (ByteArray × Int × Int × Int × Int × Int × Int × Int × Int)) (counts2 : List Int) (day3 : Int) : Option (Int × Int) :=
  (impl_IsPermit.f p0).bind fun r1 =>
  if (!r1) = false then
    (impl_AreArticles.f list1).bind fun r2 =>
    if (!r2) = true then
      some (0, 1)
    else
      (impl_areCounts.f list1 counts2).bind fun r3 =>
      if (!r3) = false then
        (impl_isDay.f day3).bind fun r4 =>
        if (!r4) = true then
          some (0, 2)
        else
          (impl_refusalsOf.f p0 list1 counts2 day3).bind fun r5 =>
          some (r5, 0)
      else
        some (0, 2)
  else
    some (0, 1)
def impl_RefusalsOf.fn (n : Nat) (p0 : Int × Int × Int × Int × List Int × Int) (list1 : List (ByteArray × Int × Int × Int × Int × Int × Int × Int × Int)) (counts2 : List Int) (day3 : Int) : Option (Int × Int) := impl_RefusalsOf.top p0 list1 counts2 day3
def impl_RefusalsOf.f (p0 : Int × Int × Int × Int × List Int × Int) (list1 : List (ByteArray × Int × Int × Int × Int × Int × Int × Int × Int)) (counts2 : List Int) (day3 : Int) : Option (Int × Int) := impl_RefusalsOf.fn NN p0 list1 counts2 day3
end
end Go.Pl

namespace Go.Pl
open Go.Ev
set_option linter.unusedVariables false
noncomputable section
def spec_RefusalsOf.top (p0 : Int × Int × Int × Int × List Int × Int) (list1 : List (ByteArray × Int × Int × Int × Int × Int × Int × Int × Int)) (counts2 : List Int) (day3 : Int) : Option (Int × Int) :=
  (spec_l30Code.f ([p0]) list1 counts2 day3).bind fun r1 =>
  if ((r1 : Int) != 0) = true then
    some (0, r1)
  else
    (spec_l30Refusals.f p0 list1 counts2 day3).bind fun r2 =>
    some (r2, 0)
def spec_RefusalsOf.fn (n : Nat) (p0 : Int × Int × Int × Int × List Int × Int) (list1 : List (ByteArray × Int × Int × Int × Int × Int × Int × Int × Int)) (counts2 : List Int) (day3 : Int) : Option (Int × Int) := spec_RefusalsOf.top p0 list1 counts2 day3
def spec_RefusalsOf.f (p0 : Int × Int × Int × Int × List Int × Int) (list1 : List (ByteArray × Int × Int × Int × Int × Int × Int × Int × Int)) (counts2 : List Int) (day3 : Int) : Option (Int × Int) := spec_RefusalsOf.fn NN p0 list1 counts2 day3
end
end Go.Pl

namespace Go.Pl
open Go.Ev
set_option linter.unusedVariables false
set_option linter.unusedSimpArgs false
abbrev Prm := Int × Int × Int × Int × List Int × Int
def hasK (ks : List Int) (k : Int) : Bool := ks.any fun x => decide (x = k)
theorem any_foldl (k : Int) : ∀ (ks : List Int) (b : Bool), ks.foldl (fun st x => st || decide (x = k)) b = (b || hasK ks k) := by
  intro ks
  induction ks with
  | nil => intro b; simp [hasK]
  | cons x r ih => intro b; rw [List.foldl_cons, ih]; simp [hasK, Bool.or_assoc]
theorem first_any {α : Type} (P : α → Bool) : ∀ (xs : List α) (i : Nat), (firstOf P i xs).elim (some false) (fun _ => some true) = some (xs.any P) := by
  intro xs
  induction xs with
  | nil => intro i; rfl
  | cons x r ih =>
    intro i
    simp only [firstOf, List.any_cons]
    cases P x
    · simp only [Bool.false_eq_true, if_false, Bool.false_or]; exact ih _
    · rfl
theorem spec_l01Has_f (ks : List Int) (k : Int) (h : ks.length ≤ 140737488355328) : spec_l01Has.f ks k = some (hasK ks k) := by
  have := find_loop (E := fun _ => True) (fun x : Int => decide (x = k)) (fun _ _ => some true) (fun _ => some false) (fun j xs i => spec_l01Has.l2 NN j xs k i) ?_ ?_ ks (fun _ _ => trivial) (by omega) NN (NN_lt (by omega))
  · refine this.trans ?_
    exact first_any _ _ _
  · intro j p
    simp [spec_l01Has.l2, spec_l01Has.g2]
  · intro j p x r _ c0 c1 c2 cw
    simp only [spec_l01Has.l2, spec_l01Has.g2, c0, c1, cw, and_self, and_true, true_and, decide_true, decide_false, if_true, if_false, mid_get, mid_set, mid_getn, mid_setn, bt_mid, Option.bind_some, Bool.not_true, Bool.not_false, Bool.false_eq_true, Bool.true_eq_false, beq_self_eq_true, bne_self_eq_false, Int.toNat_natCast]
    by_cases hx : x = k <;> simp [hx]
/-- counts that go with articles -/
def cntsB (xs : List Art) (cs : List Int) : Bool := decide (cs.length = xs.length) && cs.all (inB · 0 1000)
theorem cntsB_iff {xs : List Art} {cs : List Int} (h : cntsB xs cs = true) : cs.length = xs.length ∧ ∀ i : Nat, 0 ≤ cs.getD i 0 ∧ cs.getD i 0 ≤ 1000 := by
  unfold cntsB at h
  simp only [Bool.and_eq_true, decide_eq_true_eq, List.all_eq_true, inB_iff] at h
  refine ⟨h.1, fun i => ?_⟩
  rw [List.getD_eq_getElem?_getD]
  cases e : cs[i]? with
  | none => simp
  | some c => exact h.2 c (List.mem_of_getElem? e)
theorem impl_areCounts_f (xs : List Art) (cs : List Int) (h : cs.length ≤ 1000000) : impl_areCounts.f xs cs = some (cntsB xs cs) := by
  unfold impl_areCounts.f impl_areCounts.fn impl_areCounts.top cntsB
  rw [impl_allWithin_f cs 0 1000 (by omega)]
  by_cases e : cs.length = xs.length
  · simp [e]
  · have e' : ¬ ((cs.length : Int) = (xs.length : Int)) := by omega
    simp [e, e']
theorem spec_l03Code_f (xs : List Art) (cs : List Int) (hb : xs.length ≤ 140737488355328) (hz : ∀ a ∈ xs, Sz a.1) (h : cs.length ≤ 1000000) : spec_l03Code.f xs cs = some (if artsB xs = true then (if cntsB xs cs = true then 0 else 2) else 1) := by
  unfold spec_l03Code.f spec_l03Code.fn spec_l03Code.top
  rw [spec_AreArticles_f xs hb hz]
  cases hx : artsB xs
  · rfl
  have := find_loop (E := fun _ => True) (fun x : Int => !inB x 0 1000) (fun _ _ => some (2 : Int)) (fun p => if (((p.length : Int) : Int) != (xs.length : Int)) = true then some 2 else some 0) (fun j ys i => spec_l03Code.l4 NN j xs ys i) ?_ ?_ cs (fun _ _ => trivial) (by omega) NN (NN_lt (by omega))
  · simp only [Option.bind_some, Bool.not_true, Bool.false_eq_true, if_false, if_true]
    rw [this]
    unfold cntsB
    have ha : ∀ (ys : List Int) (i : Nat), (firstOf (fun x : Int => !inB x 0 1000) i ys).isSome = !(ys.all (inB · 0 1000)) := by
      intro ys
      induction ys with
      | nil => intro i; rfl
      | cons y r ih => intro i; rcases Bool.eq_false_or_eq_true (inB y 0 1000) with q | q <;> simp [firstOf, q, ih]
    have ha := ha cs 0
    cases hf : firstOf (fun x : Int => !inB x 0 1000) 0 cs with
    | none =>
      rw [hf] at ha
      simp only [Option.isSome_none] at ha
      have ha2 : cs.all (inB · 0 1000) = true := by rw [← Bool.not_eq_false']; exact ha.symm
      simp only [Option.elim_none, ha2, Bool.and_true, decide_eq_true_eq]
      by_cases e : cs.length = xs.length
      · simp [e]
      · have e' : ¬ ((cs.length : Int) = (xs.length : Int)) := by omega
        simp [e, e']
    | some y =>
      rw [hf] at ha
      simp only [Option.isSome_some] at ha
      have ha2 : cs.all (inB · 0 1000) = false := by rw [← Bool.not_eq_true']; exact ha.symm
      simp only [Option.elim_some, ha2, Bool.and_false, Bool.false_eq_true, if_false]
  · intro j p
    simp [spec_l03Code.l4, spec_l03Code.g4]
  · intro j p x r _ c0 c1 c2 cw
    simp only [spec_l03Code.l4, spec_l03Code.g4, c0, c1, cw, and_self, and_true, true_and, decide_true, decide_false, if_true, if_false, mid_get, mid_set, mid_getn, mid_setn, bt_mid, Option.bind_some, Bool.not_true, Bool.not_false, Bool.false_eq_true, Bool.true_eq_false, beq_self_eq_true, bne_self_eq_false, Int.toNat_natCast, spec_l01In_f]
/-- the net mass of an order -/
def netS (cs : List Int) (i : Nat) (st : Int) (a : Art) : Int := st + a.2.2.2.2.2.2.2.1 * cs.getD i 0
def netO (xs : List Art) (cs : List Int) : Int := foldi (netS cs) 0 0 xs
theorem mul_bd {a c : Int} (h1 : 1 ≤ a ∧ a ≤ 100000) (h2 : 0 ≤ c ∧ c ≤ 1000) : 0 ≤ a * c ∧ a * c ≤ 100000000 := by
  refine ⟨Int.mul_nonneg (by omega) h2.1, ?_⟩
  have := Int.mul_le_mul h1.2 h2.2 h2.1 (show (0 : Int) ≤ 100000 by omega)
  omega
theorem impl_orderNet_f (xs : List Art) (cs : List Int) (hx : artsB xs = true) (hc : cntsB xs cs = true) : (0 ≤ netO xs cs ∧ netO xs cs ≤ 1200000000) ∧ impl_orderNet.f xs cs = some (netO xs cs) := by
  obtain ⟨h1, h2⟩ := artsB_ok hx
  obtain ⟨h3, h4⟩ := cntsB_iff hc
  have := fold_fix (E := fun a : Art => artB a = true) (fun p (st : Int) => 0 ≤ st ∧ st ≤ 100000000 * p.length) (netS cs) (fun st => some st) (fun k i st => impl_orderNet.l3 NN k cs st xs xs.length i) xs ?_ ?_ 0 h2 (by simp) (by omega) NN (NN_lt (by omega))
  · exact ⟨⟨this.1.1, by have := this.1.2; unfold netO; omega⟩, this.2⟩
  · intro k st _
    simp [impl_orderNet.l3, impl_orderNet.g3]
  · intro k p a r st hxx ha hI c0 c1 c2 cw g
    have hpl : p.length ≤ 12 := by rw [hxx] at h1; simp at h1; omega
    have hb := mul_bd (artB_iff ha).2.2.2.1 (h4 p.length)
    have w1 := w64 (n := a.2.2.2.2.2.2.2.1 * cs.getD p.length 0) (by omega) (by omega)
    have w2 := w64 (n := st + a.2.2.2.2.2.2.2.1 * cs.getD p.length 0) (by omega) (by omega)
    have c3 : (p.length : Int) < (cs.length : Int) := by omega
    refine ⟨by unfold netS; rw [List.length_append, List.length_singleton]; omega, ?_⟩
    simp only [impl_orderNet.l3, impl_orderNet.g3, c0, c1, c3, cw, and_self, and_true, true_and, decide_true, decide_false, if_true, if_false, mid_get, mid_set, mid_getn, mid_setn, bt_mid, Option.bind_some, Bool.not_true, Bool.not_false, Bool.false_eq_true, Bool.true_eq_false, beq_self_eq_true, bne_self_eq_false, Int.toNat_natCast, g, w1, w2]
    rfl
def refF (p : Prm) (cs : List Int) (i : Nat) (st : Bool × Bool × Bool) (a : Art) : Bool × Bool × Bool :=
  if cs.getD i 0 = 0 then st else (st.1 || decide (p.2.2.2.1 < a.2.2.1), st.2.1 || !hasK p.2.2.2.2.1 a.2.1, st.2.2 || decide (p.2.2.2.2.2 < a.2.2.2.2.2.2.2.2))
def bitsV (l : List Bool) : Int := (l.foldl (fun (st : Int × Int) t => (if t = true then st.1 + st.2 else st.1, 2 * st.2)) (0, 1)).1
/-- the refusals of an order -/
def refV (p : Prm) (xs : List Art) (cs : List Int) (day : Int) : Int :=
  bitsV [!inB day p.1 p.2.1, decide (p.2.2.1 < netO xs cs), (foldi (refF p cs) 0 (false, false, false) xs).1, (foldi (refF p cs) 0 (false, false, false) xs).2.1, (foldi (refF p cs) 0 (false, false, false) xs).2.2]
theorem bits_impl (a b c d e : Bool) : IntKind.i64.wrap ((IntKind.i64.wrap ((IntKind.i64.wrap ((IntKind.i64.wrap ((if a = true then 1 else 0) + (if b = true then 2 else 0))) + (if c = true then 4 else 0))) + (if d = true then 8 else 0))) + (if e = true then 16 else 0)) = bitsV [a, b, c, d, e] := by
  cases a <;> cases b <;> cases c <;> cases d <;> cases e <;> rfl
theorem impl_bit_f (b : Bool) (n : Int) : impl_bit.f b n = some (if b = true then n else 0) := by
  unfold impl_bit.f impl_bit.fn impl_bit.top
  cases b <;> rfl
theorem impl_ref_in (p : Prm) (cs : List Int) (xs : List Art) (v i : Int) (L : List Int → List Art → Int → Int → Prm → List Bool → Option Int) (a : Art) (b0 b1 c k g : Bool) (h : p.2.2.2.2.1.length ≤ 140737488355328) :
    impl_refusalsOf.l10 NN L NN cs false xs v i p.2.2.2.2.1 p.2.2.2.2.1.length 0 p [b0, b1, c, k, g] a = L cs xs v (IntKind.i64.wrap (i + 1)) p [b0, b1, c || decide (p.2.2.2.1 < a.2.2.1), k || !hasK p.2.2.2.2.1 a.2.1, g || decide (p.2.2.2.2.2 < a.2.2.2.2.2.2.2.2)] := by
  have := (fold_fix (E := fun _ => True) (fun _ _ => True) (fun _ st x => st || decide (x = a.2.1)) (fun kd => L cs xs v (IntKind.i64.wrap (i + 1)) p [b0, b1, c || decide (p.2.2.2.1 < a.2.2.1), k || !kd, g || decide (p.2.2.2.2.2 < a.2.2.2.2.2.2.2.2)]) (fun j m kd => impl_refusalsOf.l10 NN L j cs kd xs v i p.2.2.2.2.1 p.2.2.2.2.1.length m p [b0, b1, c, k, g] a) p.2.2.2.2.1 ?_ ?_ false (fun _ _ => trivial) trivial h NN (NN_lt (by omega))).2
  · rw [foldi_foldl, any_foldl, Bool.false_or] at this
    exact this
  · intro j kd _
    cases c <;> cases k <;> cases g <;> simp [impl_refusalsOf.l10, impl_refusalsOf.g10]
  · intro j q x r kd hx _ _ c0 c1 c2 cw gg
    refine ⟨trivial, ?_⟩
    simp only [impl_refusalsOf.l10, impl_refusalsOf.g10, c0, c1, cw, and_self, and_true, true_and, decide_true, decide_false, if_true, if_false, mid_get, mid_set, mid_getn, mid_setn, bt_mid, Option.bind_some, Bool.not_true, Bool.not_false, Bool.false_eq_true, Bool.true_eq_false, beq_self_eq_true, bne_self_eq_false, Int.toNat_natCast, gg]
    cases kd
    · simp only [if_true, Bool.false_or]; rfl
    · simp
theorem impl_refusalsOf_f (p : Prm) (xs : List Art) (cs : List Int) (day : Int) (hx : artsB xs = true) (hc : cntsB xs cs = true) (h : p.2.2.2.2.1.length ≤ 140737488355328) : impl_refusalsOf.f p xs cs day = some (refV p xs cs day) := by
  obtain ⟨h1, h2⟩ := artsB_ok hx
  obtain ⟨h3, h4⟩ := cntsB_iff hc
  unfold impl_refusalsOf.f impl_refusalsOf.fn impl_refusalsOf.top
  rw [impl_within_f, (impl_orderNet_f xs cs hx hc).2]
  have := (fold_fix (E := fun a : Art => artB a = true) (fun _ _ => True) (refF p cs) (fun st => some (bitsV [!inB day p.1 p.2.1, decide (p.2.2.1 < netO xs cs), st.1, st.2.1, st.2.2])) (fun k i st => impl_refusalsOf.l5 NN k cs xs xs.length i p [!inB day p.1 p.2.1, decide (p.2.2.1 < netO xs cs), st.1, st.2.1, st.2.2]) xs ?_ ?_ (false, false, false) h2 trivial (by omega) NN (NN_lt (by omega))).2
  · simp only [Option.bind_some]
    rw [if_pos (by omega), if_pos (by omega)]
    exact this
  · intro k st _
    simp only [impl_refusalsOf.l5, impl_refusalsOf.g5, Int.lt_irrefl, and_self, and_true, true_and, decide_true, decide_false, if_true, if_false, mid_get, mid_set, mid_getn, mid_setn, bt_mid, Option.bind_some, Bool.not_true, Bool.not_false, Bool.false_eq_true, Bool.true_eq_false, beq_self_eq_true, bne_self_eq_false, Int.toNat_natCast, impl_bit_f]
    rw [if_pos (by omega), if_pos (by omega), if_pos (by omega), if_pos (by omega), if_pos (by omega)]
    exact congrArg some (bits_impl (!inB day p.1 p.2.1) (decide (p.2.2.1 < netO xs cs)) st.1 st.2.1 st.2.2)
  · intro k q a r st hxx ha _ c0 c1 c2 cw g
    refine ⟨trivial, ?_⟩
    have c3 : (q.length : Int) < (cs.length : Int) := by omega
    simp only [impl_refusalsOf.l5, impl_refusalsOf.g5, c0, c1, c3, cw, and_self, and_true, true_and, decide_true, decide_false, if_true, if_false, mid_get, mid_set, mid_getn, mid_setn, bt_mid, Option.bind_some, Bool.not_true, Bool.not_false, Bool.false_eq_true, Bool.true_eq_false, beq_self_eq_true, bne_self_eq_false, Int.toNat_natCast, g]
    unfold refF
    by_cases e : cs.getD q.length 0 = 0
    · simp only [e, and_self, and_true, true_and, decide_true, decide_false, if_true, if_false, mid_get, mid_set, mid_getn, mid_setn, bt_mid, Option.bind_some, Bool.not_true, Bool.not_false, Bool.false_eq_true, Bool.true_eq_false, beq_self_eq_true, bne_self_eq_false, Int.toNat_natCast, if_true]
    · have e' : (cs.getD q.length 0 == 0) = false := by simpa using e
      simp only [e, e', and_self, and_true, true_and, decide_true, decide_false, if_true, if_false, mid_get, mid_set, mid_getn, mid_setn, bt_mid, Option.bind_some, Bool.not_true, Bool.not_false, Bool.false_eq_true, Bool.true_eq_false, beq_self_eq_true, bne_self_eq_false, Int.toNat_natCast, if_false]
      rw [impl_ref_in p cs xs xs.length q.length _ a _ _ _ _ _ h, cw]
def refG (p : Prm) (cs : List Int) (i : Nat) (st : Int × Bool × Bool × Bool) (a : Art) : Int × Bool × Bool × Bool := (netS cs i st.1 a, refF p cs i st.2 a)
theorem refG_fold (p : Prm) (cs : List Int) : ∀ (xs : List Art) (i : Nat) (st : Int × Bool × Bool × Bool), foldi (refG p cs) i st xs = (foldi (netS cs) i st.1 xs, foldi (refF p cs) i st.2 xs) := by
  intro xs
  induction xs with
  | nil => intro i st; rfl
  | cons a r ih => intro i st; simp only [foldi, ih, refG]
theorem spec_bits (l : List Bool) (h : l.length ≤ 5) : spec_l30Refusals.l14 NN NN 0 1 0 l = some (bitsV l) := by
  have := (fold_fix (E := fun _ => True) (fun (p : List Bool) (st : Int × Int) => st.2 = 2 ^ p.length ∧ 0 ≤ st.1 ∧ st.1 ≤ 2 ^ p.length) (fun _ (st : Int × Int) t => (if t = true then st.1 + st.2 else st.1, 2 * st.2)) (fun st => some st.1) (fun k i st => spec_l30Refusals.l14 NN k st.1 st.2 i l) l ?_ ?_ (0, 1) (fun _ _ => trivial) (by simp) (by omega) NN (NN_lt (by omega))).2
  · rw [foldi_foldl] at this
    exact this
  · intro k st _
    simp [spec_l30Refusals.l14, spec_l30Refusals.g14]
  · intro k q t r st hx _ hI c0 c1 c2 cw g
    have hq : q.length ≤ 4 := by rw [hx] at h; simp at h; omega
    have hp : (2 : Int) ^ q.length ≤ 16 := by
      rcases Nat.lt_or_ge q.length 1 with h | h
      · rw [show q.length = 0 by omega]; decide
      rcases Nat.lt_or_ge q.length 2 with h | h
      · rw [show q.length = 1 by omega]; decide
      rcases Nat.lt_or_ge q.length 3 with h | h
      · rw [show q.length = 2 by omega]; decide
      rcases Nat.lt_or_ge q.length 4 with h | h
      · rw [show q.length = 3 by omega]; decide
      · rw [show q.length = 4 by omega]; decide
    obtain ⟨i1, i2, i3⟩ := hI
    have w1 := w64 (n := st.1 + st.2) (by omega) (by omega)
    have w2 := w64 (n := 2 * st.2) (by omega) (by omega)
    refine ⟨?_, ?_⟩
    · rw [List.length_append, List.length_singleton, Int.pow_succ]
      refine ⟨by simp only; omega, ?_⟩
      cases t <;> simp only [if_true, Bool.false_eq_true, if_false] <;> omega
    · simp only [spec_l30Refusals.l14, spec_l30Refusals.g14, c0, c1, cw, and_self, and_true, true_and, decide_true, decide_false, if_true, if_false, mid_get, mid_set, mid_getn, mid_setn, bt_mid, Option.bind_some, Bool.not_true, Bool.not_false, Bool.false_eq_true, Bool.true_eq_false, beq_self_eq_true, bne_self_eq_false, Int.toNat_natCast, g, w1, w2]
      cases t <;> rfl
theorem spec_l30Refusals_f (p : Prm) (xs : List Art) (cs : List Int) (day : Int) (hx : artsB xs = true) (hc : cntsB xs cs = true) (h : p.2.2.2.2.1.length ≤ 140737488355328) : spec_l30Refusals.f p xs cs day = some (refV p xs cs day) := by
  obtain ⟨h1, h2⟩ := artsB_ok hx
  obtain ⟨h3, h4⟩ := cntsB_iff hc
  unfold spec_l30Refusals.f spec_l30Refusals.fn spec_l30Refusals.top
  have := (fold_fix (E := fun a : Art => artB a = true) (fun q (st : Int × Bool × Bool × Bool) => 0 ≤ st.1 ∧ st.1 ≤ 100000000 * q.length) (refG p cs) (fun st => some (bitsV [!inB day p.1 p.2.1, decide (p.2.2.1 < st.1), st.2.1, st.2.2.1, st.2.2.2])) (fun k i st => spec_l30Refusals.l4 NN k xs cs day st.1 st.2.1 st.2.2.1 st.2.2.2 i p) xs ?_ ?_ (0, false, false, false) h2 (by simp) (by omega) NN (NN_lt (by omega))).2
  · rw [refG_fold] at this
    exact this
  · intro k st _
    simp only [spec_l30Refusals.l4, spec_l30Refusals.g4, Int.lt_irrefl, and_self, and_true, true_and, decide_true, decide_false, if_true, if_false, mid_get, mid_set, mid_getn, mid_setn, bt_mid, Option.bind_some, Bool.not_true, Bool.not_false, Bool.false_eq_true, Bool.true_eq_false, beq_self_eq_true, bne_self_eq_false, Int.toNat_natCast, spec_l01In_f]
    exact spec_bits _ (by simp)
  · intro k q a r st hxx ha hI c0 c1 c2 cw g
    have hpl : q.length ≤ 12 := by rw [hxx] at h1; simp at h1; omega
    have c3 : (q.length : Int) < (cs.length : Int) := by omega
    have hb := mul_bd (artB_iff ha).2.2.2.1 (h4 q.length)
    have w1 := w64 (n := a.2.2.2.2.2.2.2.1 * cs.getD q.length 0) (by omega) (by omega)
    have w2 := w64 (n := st.1 + a.2.2.2.2.2.2.2.1 * cs.getD q.length 0) (by omega) (by omega)
    refine ⟨by unfold refG netS; rw [List.length_append, List.length_singleton]; simp only; omega, ?_⟩
    simp only [spec_l30Refusals.l4, spec_l30Refusals.g4, c0, c1, c3, cw, and_self, and_true, true_and, decide_true, decide_false, if_true, if_false, mid_get, mid_set, mid_getn, mid_setn, bt_mid, Option.bind_some, Bool.not_true, Bool.not_false, Bool.false_eq_true, Bool.true_eq_false, beq_self_eq_true, bne_self_eq_false, Int.toNat_natCast, g, w1, w2, spec_l01Has_f _ _ h]
    unfold refG refF netS
    obtain ⟨n, c, kd, gr⟩ := st
    by_cases e : cs.getD q.length 0 = 0
    · simp only [e, and_self, and_true, true_and, decide_true, decide_false, if_true, if_false, mid_get, mid_set, mid_getn, mid_setn, bt_mid, Option.bind_some, Bool.not_true, Bool.not_false, Bool.false_eq_true, Bool.true_eq_false, beq_self_eq_true, bne_self_eq_false, Int.toNat_natCast, Int.mul_zero, Int.add_zero]
    · have e' : (cs.getD q.length 0 == 0) = false := by simpa using e
      simp only [e, e', and_self, and_true, true_and, decide_true, decide_false, if_true, if_false, mid_get, mid_set, mid_getn, mid_setn, bt_mid, Option.bind_some, Bool.not_true, Bool.not_false, Bool.false_eq_true, Bool.true_eq_false, beq_self_eq_true, bne_self_eq_false, Int.toNat_natCast]
      cases c <;> cases kd <;> cases gr <;> simp
def askO (b : Bool) (xs : List Art) (cs : List Int) (day : Int) : Int := if b = true then (if artsB xs = true then (if cntsB xs cs = true then (if inB day 0 100000 = true then 0 else 2) else 2) else 1) else 1
def permsL (ps : List Prm) : Bool := decide (ps.length ≤ 8) && ps.all permB
theorem spec_l30All_f (ps : List Prm) (h : ps.length ≤ 1000000) (hk : ∀ p ∈ ps, p.2.2.2.2.1.length ≤ 140737488355328) : spec_l30All.f ps = some (permsL ps) := by
  have := all_loop (E := fun p : Prm => p.2.2.2.2.1.length ≤ 140737488355328) permB (fun p => some (decide (((p.length : Int) : Int) ≤ 8))) (fun k xs i => spec_l30All.l2 NN k xs i) ?_ ?_ ps hk (by omega) NN (NN_lt (by omega))
  · unfold spec_l30All.f spec_l30All.fn spec_l30All.top permsL
    refine this.trans ?_
    have e : decide ((ps.length : Int) ≤ 8) = decide (ps.length ≤ 8) := by congr 1; exact propext (by omega)
    cases ps.all permB <;> simp [e]
  · intro k p
    simp [spec_l30All.l2, spec_l30All.g2]
  · intro k p a r ha c0 c1 cw
    simp only [spec_l30All.l2, spec_l30All.g2, c0, c1, cw, and_self, and_true, true_and, decide_true, decide_false, if_true, if_false, mid_get, mid_set, mid_getn, mid_setn, bt_mid, Option.bind_some, Bool.not_true, Bool.not_false, Bool.false_eq_true, Bool.true_eq_false, beq_self_eq_true, bne_self_eq_false, Int.toNat_natCast, spec_IsPermit_f a ha]
    cases permB a <;> simp
theorem spec_l30Code_f (ps : List Prm) (xs : List Art) (cs : List Int) (day : Int) (h : ps.length ≤ 1000000) (hk : ∀ p ∈ ps, p.2.2.2.2.1.length ≤ 140737488355328) (hb : xs.length ≤ 140737488355328) (hz : ∀ a ∈ xs, Sz a.1) (hc : cs.length ≤ 1000000) :
    spec_l30Code.f ps xs cs day = some (askO (permsL ps) xs cs day) := by
  unfold spec_l30Code.f spec_l30Code.fn spec_l30Code.top askO
  rw [spec_l30All_f ps h hk, spec_l03Code_f xs cs hb hz hc, spec_l01In_f]
  cases permsL ps
  · rfl
  cases artsB xs
  · rfl
  cases cntsB xs cs
  · rfl
  cases inB day 0 100000 <;> rfl
def refR (p : Prm) (xs : List Art) (cs : List Int) (day : Int) : Int × Int := if askO (permB p) xs cs day = 0 then (refV p xs cs day, 0) else (0, askO (permB p) xs cs day)
theorem askO_zero {b : Bool} {xs : List Art} {cs : List Int} {day : Int} (h : askO b xs cs day = 0) : b = true ∧ artsB xs = true ∧ cntsB xs cs = true ∧ inB day 0 100000 = true := by
  unfold askO at h
  cases b
  · simp at h
  cases h1 : artsB xs
  · rw [h1] at h; simp at h
  cases h2 : cntsB xs cs
  · rw [h1, h2] at h; simp at h
  cases h3 : inB day 0 100000
  · rw [h1, h2, h3] at h; simp at h
  exact ⟨rfl, rfl, rfl, rfl⟩
theorem arts_z {xs : List Art} (h : Lm OkArticle xs) : ∀ a ∈ xs, Sz a.1 := fun a ha => Nat.le_trans (h.2 a ha).1 (by omega)
theorem RefusalsOf_both (p : Prm) (xs : List Art) (cs : List Int) (day : Int) (hp : OkPermit p) (hx : Lm OkArticle xs) (hc : Lm (Rg .i64) cs) : spec_RefusalsOf.f p xs cs day = some (refR p xs cs day) ∧ impl_RefusalsOf.f p xs cs day = some (refR p xs cs day) := by
  have hk : p.2.2.2.2.1.length ≤ 140737488355328 := Nat.le_trans hp.2.2.2.2.1.1 (by omega)
  have hb : xs.length ≤ 140737488355328 := Nat.le_trans hx.1 (by omega)
  refine ⟨?_, ?_⟩
  · unfold spec_RefusalsOf.f spec_RefusalsOf.fn spec_RefusalsOf.top refR
    rw [spec_l30Code_f [p] xs cs day (by simp) (fun q hq => by rw [List.mem_singleton.1 hq]; exact hk) hb (arts_z hx) hc.1]
    have e1 : permsL [p] = permB p := by simp [permsL]
    rw [e1]
    simp only [Option.bind_some]
    by_cases h0 : askO (permB p) xs cs day = 0
    · obtain ⟨_, a1, a2, _⟩ := askO_zero h0
      rw [if_pos h0, if_neg (by rw [h0]; decide), spec_l30Refusals_f p xs cs day a1 a2 hk]; rfl
    · rw [if_neg h0, if_pos (by simpa using h0)]
  · unfold impl_RefusalsOf.f impl_RefusalsOf.fn impl_RefusalsOf.top refR askO
    rw [impl_IsPermit_f p hk, impl_AreArticles_f xs hb (arts_z hx), impl_areCounts_f xs cs hc.1, impl_isDay_f]
    cases permB p
    · rfl
    cases h1 : artsB xs
    · rfl
    cases h2 : cntsB xs cs
    · rfl
    cases inB day 0 100000
    · rfl
    rw [impl_refusalsOf_f p xs cs day h1 h2 hk]; rfl
theorem RefusalsOf_core (p : Prm) (xs : List Art) (cs : List Int) (day : Int) (hp : OkPermit p) (hx : Lm OkArticle xs) (hc : Lm (Rg .i64) cs) (_ : Rg .i64 day) : ∃ w, spec_RefusalsOf.f p xs cs day = some w ∧ impl_RefusalsOf.f p xs cs day = some w ∧ True :=
  ⟨_, (RefusalsOf_both p xs cs day hp hx hc).1, (RefusalsOf_both p xs cs day hp hx hc).2, trivial⟩
end Go.Pl

namespace Go.Pl
open Go.Ev
set_option linter.unusedVariables false
noncomputable section
def impl_FirstPermit.g6 (L6 : (List (ByteArray × Int × Int × Int × Int × Int × Int × Int × Int)) → List Int → Int → (List (Int × Int × Int × Int × List Int × Int)) → Int → Int → Option (Int × Int)) (list1 : List (ByteArray × Int × Int × Int × Int × Int × Int × Int × Int)) (counts2 : List Int) (day3 : Int) (v29 : List (Int × Int × Int × Int × List Int × Int)) (v30 : Int) (v31 : Int) : Option (Int × Int) :=
  if (decide ((v31 : Int) < v30)) = true then
    if (0 : Int) ≤ v31 ∧ (v31 : Int) < v29.length then
      (impl_refusalsOf.f (v29.getD (v31 : Int).toNat (0, (0, (0, (0, ([], 0)))))) list1 counts2 day3).bind fun r5 =>
      if ((r5 : Int) == 0) = true then
        some (v31, 0)
      else
        L6 list1 counts2 day3 v29 v30 (IntKind.i64.wrap (v31 + 1))
    else
      none
  else
    some (0, 4)
def impl_FirstPermit.l6 (n : Nat) : Nat → (List (ByteArray × Int × Int × Int × Int × Int × Int × Int × Int)) → List Int → Int → (List (Int × Int × Int × Int × List Int × Int)) → Int → Int → Option (Int × Int)
  | 0 => fun _ _ _ _ _ _ => none
  | k + 1 => impl_FirstPermit.g6 (impl_FirstPermit.l6 n k)
def impl_FirstPermit.top (I6 : (List (ByteArray × Int × Int × Int × Int × Int × Int × Int × Int)) → List Int → Int → (List (Int × Int × Int × Int × List Int × Int)) → Int → Int → Option (Int × Int)) (permits0 : List (Int × Int × Int × Int × List Int × Int)) (list1 : List (ByteArray × Int × Int × Int × Int × Int × Int × Int × Int)) (counts2 : List Int) (day3 : Int) : Option (Int × Int) :=
  (impl_arePermits.f permits0).bind fun r1 =>
  if (!r1) = false then
    (impl_AreArticles.f list1).bind fun r2 =>
    if (!r2) = true then
      some (0, 1)
    else
      (impl_areCounts.f list1 counts2).bind fun r3 =>
      if (!r3) = false then
        (impl_isDay.f day3).bind fun r4 =>
        if (!r4) = true then
          some (0, 2)
        else
          I6 list1 counts2 day3 permits0 (permits0.length : Int) 0
      else
        some (0, 2)
  else
    some (0, 1)
def impl_FirstPermit.fn (n : Nat) (permits0 : List (Int × Int × Int × Int × List Int × Int)) (list1 : List (ByteArray × Int × Int × Int × Int × Int × Int × Int × Int)) (counts2 : List Int) (day3 : Int) : Option (Int × Int) := impl_FirstPermit.top (impl_FirstPermit.l6 n n) permits0 list1 counts2 day3
def impl_FirstPermit.f (permits0 : List (Int × Int × Int × Int × List Int × Int)) (list1 : List (ByteArray × Int × Int × Int × Int × Int × Int × Int × Int)) (counts2 : List Int) (day3 : Int) : Option (Int × Int) := impl_FirstPermit.fn NN permits0 list1 counts2 day3
end
end Go.Pl

namespace Go.Pl
open Go.Ev
set_option linter.unusedVariables false
noncomputable section
def spec_l30First.g2 (L2 : (List (Int × Int × Int × Int × List Int × Int)) → (List (ByteArray × Int × Int × Int × Int × Int × Int × Int × Int)) → List Int → Int → Int → Option Int) (permits0 : List (Int × Int × Int × Int × List Int × Int)) (list1 : List (ByteArray × Int × Int × Int × Int × Int × Int × Int × Int)) (counts2 : List Int) (day3 : Int) (i9 : Int) : Option Int :=
  if (decide ((i9 : Int) < (permits0.length : Int))) = true then
    if (0 : Int) ≤ i9 ∧ (i9 : Int) < permits0.length then
      (spec_l30Refusals.f (permits0.getD (i9 : Int).toNat (0, (0, (0, (0, ([], 0)))))) list1 counts2 day3).bind fun r1 =>
      if ((r1 : Int) == 0) = true then
        some i9
      else
        L2 permits0 list1 counts2 day3 (IntKind.i64.wrap (i9 + 1))
    else
      none
  else
    some (-1)
def spec_l30First.l2 (n : Nat) : Nat → (List (Int × Int × Int × Int × List Int × Int)) → (List (ByteArray × Int × Int × Int × Int × Int × Int × Int × Int)) → List Int → Int → Int → Option Int
  | 0 => fun _ _ _ _ _ => none
  | k + 1 => spec_l30First.g2 (spec_l30First.l2 n k)
def spec_l30First.top (I2 : (List (Int × Int × Int × Int × List Int × Int)) → (List (ByteArray × Int × Int × Int × Int × Int × Int × Int × Int)) → List Int → Int → Int → Option Int) (permits0 : List (Int × Int × Int × Int × List Int × Int)) (list1 : List (ByteArray × Int × Int × Int × Int × Int × Int × Int × Int)) (counts2 : List Int) (day3 : Int) : Option Int :=
  I2 permits0 list1 counts2 day3 0
def spec_l30First.fn (n : Nat) (permits0 : List (Int × Int × Int × Int × List Int × Int)) (list1 : List (ByteArray × Int × Int × Int × Int × Int × Int × Int × Int)) (counts2 : List Int) (day3 : Int) : Option Int := spec_l30First.top (spec_l30First.l2 n n) permits0 list1 counts2 day3
def spec_l30First.f (permits0 : List (Int × Int × Int × Int × List Int × Int)) (list1 : List (ByteArray × Int × Int × Int × Int × Int × Int × Int × Int)) (counts2 : List Int) (day3 : Int) : Option Int := spec_l30First.fn NN permits0 list1 counts2 day3
end
end Go.Pl

namespace Go.Pl
open Go.Ev
set_option linter.unusedVariables false
noncomputable section
def spec_FirstPermit.top (permits0 : List (Int × Int × Int × Int × List Int × Int)) (list1 : List (ByteArray × Int × Int × Int × Int × Int × Int × Int × Int)) (counts2 : List Int) (day3 : Int) : Option (Int × Int) :=
  (spec_l30Code.f permits0 list1 counts2 day3).bind fun r1 =>
  if ((r1 : Int) != 0) = true then
    some (0, r1)
  else
    (spec_l30First.f permits0 list1 counts2 day3).bind fun r2 =>
    if (decide ((r2 : Int) < 0)) = true then
      some (0, 4)
    else
      some (r2, 0)
def spec_FirstPermit.fn (n : Nat) (permits0 : List (Int × Int × Int × Int × List Int × Int)) (list1 : List (ByteArray × Int × Int × Int × Int × Int × Int × Int × Int)) (counts2 : List Int) (day3 : Int) : Option (Int × Int) := spec_FirstPermit.top permits0 list1 counts2 day3
def spec_FirstPermit.f (permits0 : List (Int × Int × Int × Int × List Int × Int)) (list1 : List (ByteArray × Int × Int × Int × Int × Int × Int × Int × Int)) (counts2 : List Int) (day3 : Int) : Option (Int × Int) := spec_FirstPermit.fn NN permits0 list1 counts2 day3
end
end Go.Pl

namespace Go.Pl
open Go.Ev
set_option linter.unusedVariables false
noncomputable section
def impl_covers.g4 (L1 : (List (Int × Int × Int × Int × List Int × Int)) → Int → Int → Option Bool) (L4 : (List (Int × Int × Int × Int × List Int × Int)) → Int → Int → Int → (List (Int × Int × Int × Int × List Int × Int)) → Int → Int → Option Bool) (permits0 : List (Int × Int × Int × Int × List Int × Int)) (from1 : Int) (to2 : Int) (next7 : Int) (v14 : List (Int × Int × Int × Int × List Int × Int)) (v15 : Int) (v16 : Int) : Option Bool :=
  if (decide ((v16 : Int) < v15)) = true then
    if (0 : Int) ≤ v16 ∧ (v16 : Int) < v14.length then
      (impl_within.f from1 ((v14.getD (v16 : Int).toNat (0, (0, (0, (0, ([], 0)))))).1) (((v14.getD (v16 : Int).toNat (0, (0, (0, (0, ([], 0)))))).2).1)).bind fun r1 =>
      if r1 = true then
        L4 permits0 from1 to2 (if (IntKind.i64.wrap ((((v14.getD (v16 : Int).toNat (0, (0, (0, (0, ([], 0)))))).2).1) + 1)) > next7 then (IntKind.i64.wrap ((((v14.getD (v16 : Int).toNat (0, (0, (0, (0, ([], 0)))))).2).1) + 1)) else next7) v14 v15 (IntKind.i64.wrap (v16 + 1))
      else
        L4 permits0 from1 to2 next7 v14 v15 (IntKind.i64.wrap (v16 + 1))
    else
      none
  else if ((next7 : Int) == from1) = true then
    some false
  else
    L1 permits0 next7 to2
def impl_covers.l4 (n : Nat) (L1 : (List (Int × Int × Int × Int × List Int × Int)) → Int → Int → Option Bool) : Nat → (List (Int × Int × Int × Int × List Int × Int)) → Int → Int → Int → (List (Int × Int × Int × Int × List Int × Int)) → Int → Int → Option Bool
  | 0 => fun _ _ _ _ _ _ _ => none
  | k + 1 => impl_covers.g4 L1 (impl_covers.l4 n L1 k)
def impl_covers.g1 (I4 : (List (Int × Int × Int × Int × List Int × Int)) → Int → Int → Int → (List (Int × Int × Int × Int × List Int × Int)) → Int → Int → Option Bool) (L1 : (List (Int × Int × Int × Int × List Int × Int)) → Int → Int → Option Bool) (permits0 : List (Int × Int × Int × Int × List Int × Int)) (from1 : Int) (to2 : Int) : Option Bool :=
  if (decide ((from1 : Int) ≤ to2)) = true then
    I4 permits0 from1 to2 from1 permits0 (permits0.length : Int) 0
  else
    some true
def impl_covers.l1 (n : Nat) : Nat → (List (Int × Int × Int × Int × List Int × Int)) → Int → Int → Option Bool
  | 0 => fun _ _ _ => none
  | k + 1 => impl_covers.g1 (impl_covers.l4 n (impl_covers.l1 n k) n) (impl_covers.l1 n k)
def impl_covers.top (I1 : (List (Int × Int × Int × Int × List Int × Int)) → Int → Int → Option Bool) (permits0 : List (Int × Int × Int × Int × List Int × Int)) (from1 : Int) (to2 : Int) : Option Bool :=
  I1 permits0 from1 to2
def impl_covers.fn (n : Nat) (permits0 : List (Int × Int × Int × Int × List Int × Int)) (from1 : Int) (to2 : Int) : Option Bool := impl_covers.top (impl_covers.l1 n n) permits0 from1 to2
def impl_covers.f (permits0 : List (Int × Int × Int × Int × List Int × Int)) (from1 : Int) (to2 : Int) : Option Bool := impl_covers.fn NN permits0 from1 to2
end
end Go.Pl

namespace Go.Pl
open Go.Ev
set_option linter.unusedVariables false
noncomputable section
def impl_areDays.top (from0 : Int) (to1 : Int) : Option Bool :=
  (impl_isDay.f from0).bind fun r1 =>
  if r1 = true then
    (impl_isDay.f to1).bind fun r2 =>
    if r2 = true then
      some (decide ((from0 : Int) ≤ to1))
    else
      some false
  else
    some false
def impl_areDays.fn (n : Nat) (from0 : Int) (to1 : Int) : Option Bool := impl_areDays.top from0 to1
def impl_areDays.f (from0 : Int) (to1 : Int) : Option Bool := impl_areDays.fn NN from0 to1
end
end Go.Pl

namespace Go.Pl
open Go.Ev
set_option linter.unusedVariables false
noncomputable section
def impl_DaysCovered.g7 (L7 : (List (Int × Int × Int × Int × List Int × Int)) → Int → Int → Int → Option (Int × Int)) (permits0 : List (Int × Int × Int × Int × List Int × Int)) (to2 : Int) (count8 : Int) (day9 : Int) : Option (Int × Int) :=
  if (decide ((day9 : Int) ≤ to2)) = true then
    (impl_covers.f permits0 day9 day9).bind fun r3 =>
    if r3 = true then
      L7 permits0 to2 (IntKind.i64.wrap (count8 + 1)) (IntKind.i64.wrap (day9 + 1))
    else
      L7 permits0 to2 count8 (IntKind.i64.wrap (day9 + 1))
  else
    some (count8, 0)
def impl_DaysCovered.l7 (n : Nat) : Nat → (List (Int × Int × Int × Int × List Int × Int)) → Int → Int → Int → Option (Int × Int)
  | 0 => fun _ _ _ _ => none
  | k + 1 => impl_DaysCovered.g7 (impl_DaysCovered.l7 n k)
def impl_DaysCovered.top (I7 : (List (Int × Int × Int × Int × List Int × Int)) → Int → Int → Int → Option (Int × Int)) (permits0 : List (Int × Int × Int × Int × List Int × Int)) (from1 : Int) (to2 : Int) : Option (Int × Int) :=
  (impl_arePermits.f permits0).bind fun r1 =>
  if (!r1) = true then
    some (0, 1)
  else
    (impl_areDays.f from1 to2).bind fun r2 =>
    if (!r2) = true then
      some (0, 2)
    else
      I7 permits0 to2 0 from1
def impl_DaysCovered.fn (n : Nat) (permits0 : List (Int × Int × Int × Int × List Int × Int)) (from1 : Int) (to2 : Int) : Option (Int × Int) := impl_DaysCovered.top (impl_DaysCovered.l7 n n) permits0 from1 to2
def impl_DaysCovered.f (permits0 : List (Int × Int × Int × Int × List Int × Int)) (from1 : Int) (to2 : Int) : Option (Int × Int) := impl_DaysCovered.fn NN permits0 from1 to2
end
end Go.Pl

namespace Go.Pl
open Go.Ev
set_option linter.unusedVariables false
noncomputable section
def spec_l30Days.top (permits0 : List (Int × Int × Int × Int × List Int × Int)) (from1 : Int) (to2 : Int) : Option Int :=
  (spec_l30All.f permits0).bind fun r1 =>
  if (!r1) = true then
    some 1
  else
    (spec_l01In.f from1 0 100000).bind fun r2 =>
    if (!r2) = false then
      (spec_l01In.f to2 from1 100000).bind fun r3 =>
      if (!r3) = true then
        some 2
      else
        some 0
    else
      some 2
def spec_l30Days.fn (n : Nat) (permits0 : List (Int × Int × Int × Int × List Int × Int)) (from1 : Int) (to2 : Int) : Option Int := spec_l30Days.top permits0 from1 to2
def spec_l30Days.f (permits0 : List (Int × Int × Int × Int × List Int × Int)) (from1 : Int) (to2 : Int) : Option Int := spec_l30Days.fn NN permits0 from1 to2
end
end Go.Pl

namespace Go.Pl
open Go.Ev
set_option linter.unusedVariables false
noncomputable section
def spec_l30Holds.g2 (L2 : (List (Int × Int × Int × Int × List Int × Int)) → List Int → Int → Int → Option Bool) (permits0 : List (Int × Int × Int × Int × List Int × Int)) (some1 : List Int) (day2 : Int) (i7 : Int) : Option Bool :=
  if (decide ((i7 : Int) < (some1.length : Int))) = true then
    if (0 : Int) ≤ i7 ∧ (i7 : Int) < some1.length then
      if (0 : Int) ≤ (some1.getD (i7 : Int).toNat 0) ∧ ((some1.getD (i7 : Int).toNat 0) : Int) < permits0.length then
        if (0 : Int) ≤ i7 ∧ (i7 : Int) < some1.length then
          if (0 : Int) ≤ (some1.getD (i7 : Int).toNat 0) ∧ ((some1.getD (i7 : Int).toNat 0) : Int) < permits0.length then
            (spec_l01In.f day2 ((permits0.getD ((some1.getD (i7 : Int).toNat 0) : Int).toNat (0, (0, (0, (0, ([], 0)))))).1) (((permits0.getD ((some1.getD (i7 : Int).toNat 0) : Int).toNat (0, (0, (0, (0, ([], 0)))))).2).1)).bind fun r1 =>
            if r1 = true then
              some true
            else
              L2 permits0 some1 day2 (IntKind.i64.wrap (i7 + 1))
          else
            none
        else
          none
      else
        none
    else
      none
  else
    some false
def spec_l30Holds.l2 (n : Nat) : Nat → (List (Int × Int × Int × Int × List Int × Int)) → List Int → Int → Int → Option Bool
  | 0 => fun _ _ _ _ => none
  | k + 1 => spec_l30Holds.g2 (spec_l30Holds.l2 n k)
def spec_l30Holds.top (I2 : (List (Int × Int × Int × Int × List Int × Int)) → List Int → Int → Int → Option Bool) (permits0 : List (Int × Int × Int × Int × List Int × Int)) (some1 : List Int) (day2 : Int) : Option Bool :=
  I2 permits0 some1 day2 0
def spec_l30Holds.fn (n : Nat) (permits0 : List (Int × Int × Int × Int × List Int × Int)) (some1 : List Int) (day2 : Int) : Option Bool := spec_l30Holds.top (spec_l30Holds.l2 n n) permits0 some1 day2
def spec_l30Holds.f (permits0 : List (Int × Int × Int × Int × List Int × Int)) (some1 : List Int) (day2 : Int) : Option Bool := spec_l30Holds.fn NN permits0 some1 day2
end
end Go.Pl

namespace Go.Pl
open Go.Ev
set_option linter.unusedVariables false
noncomputable section
def spec_l30Every.g3 (L3 : Int → Int → List Int → Option (List Int)) (v7 : Int) (v8 : Int) (out3 : List Int) : Option (List Int) :=
  if (decide ((v8 : Int) < v7)) = true then
    if out3.length + ([v8]).length < room 8 then
      L3 v7 (IntKind.i64.wrap (v8 + 1)) (out3 ++ ([v8]))
    else
      none
  else
    some out3
def spec_l30Every.l3 (n : Nat) : Nat → Int → Int → List Int → Option (List Int)
  | 0 => fun _ _ _ => none
  | k + 1 => spec_l30Every.g3 (spec_l30Every.l3 n k)
def spec_l30Every.top (I3 : Int → Int → List Int → Option (List Int)) (permits0 : List (Int × Int × Int × Int × List Int × Int)) : Option (List Int) :=
  I3 (permits0.length : Int) 0 []
def spec_l30Every.fn (n : Nat) (permits0 : List (Int × Int × Int × Int × List Int × Int)) : Option (List Int) := spec_l30Every.top (spec_l30Every.l3 n n) permits0
def spec_l30Every.f (permits0 : List (Int × Int × Int × Int × List Int × Int)) : Option (List Int) := spec_l30Every.fn NN permits0
end
end Go.Pl

namespace Go.Pl
open Go.Ev
set_option linter.unusedVariables false
noncomputable section
def spec_DaysCovered.g7 (L7 : (List (Int × Int × Int × Int × List Int × Int)) → Int → Int → Int → List Int → Option (Int × Int)) (permits0 : List (Int × Int × Int × Int × List Int × Int)) (to2 : Int) (n9 : Int) (day11 : Int) (all10 : List Int) : Option (Int × Int) :=
  if (decide ((day11 : Int) ≤ to2)) = true then
    (spec_l30Holds.f permits0 all10 day11).bind fun r3 =>
    if r3 = true then
      L7 permits0 to2 (IntKind.i64.wrap (n9 + 1)) (IntKind.i64.wrap (day11 + 1)) all10
    else
      L7 permits0 to2 n9 (IntKind.i64.wrap (day11 + 1)) all10
  else
    some (n9, 0)
def spec_DaysCovered.l7 (n : Nat) : Nat → (List (Int × Int × Int × Int × List Int × Int)) → Int → Int → Int → List Int → Option (Int × Int)
  | 0 => fun _ _ _ _ _ => none
  | k + 1 => spec_DaysCovered.g7 (spec_DaysCovered.l7 n k)
def spec_DaysCovered.top (I7 : (List (Int × Int × Int × Int × List Int × Int)) → Int → Int → Int → List Int → Option (Int × Int)) (permits0 : List (Int × Int × Int × Int × List Int × Int)) (from1 : Int) (to2 : Int) : Option (Int × Int) :=
  (spec_l30Days.f permits0 from1 to2).bind fun r1 =>
  if ((r1 : Int) != 0) = true then
    some (0, r1)
  else
    (spec_l30Every.f permits0).bind fun r2 =>
    I7 permits0 to2 0 from1 r2
def spec_DaysCovered.fn (n : Nat) (permits0 : List (Int × Int × Int × Int × List Int × Int)) (from1 : Int) (to2 : Int) : Option (Int × Int) := spec_DaysCovered.top (spec_DaysCovered.l7 n n) permits0 from1 to2
def spec_DaysCovered.f (permits0 : List (Int × Int × Int × Int × List Int × Int)) (from1 : Int) (to2 : Int) : Option (Int × Int) := spec_DaysCovered.fn NN permits0 from1 to2
end
end Go.Pl

namespace Go.Pl
open Go.Ev
set_option linter.unusedVariables false
set_option linter.unusedSimpArgs false
theorem impl_arePermits_f (ps : List Prm) (h : ps.length ≤ 1000000) (hk : ∀ p ∈ ps, p.2.2.2.2.1.length ≤ 140737488355328) : impl_arePermits.f ps = some (permsL ps) := by
  unfold impl_arePermits.f impl_arePermits.fn impl_arePermits.top permsL
  by_cases h8 : (8 : Int) < (ps.length : Int)
  · have : ¬ ps.length ≤ 8 := by omega
    simp [h8, this]
  have e8 : ps.length ≤ 8 := by omega
  simp only [h8, e8, and_self, and_true, true_and, decide_true, decide_false, if_true, if_false, mid_get, mid_set, mid_getn, mid_setn, bt_mid, Option.bind_some, Bool.not_true, Bool.not_false, Bool.false_eq_true, Bool.true_eq_false, beq_self_eq_true, bne_self_eq_false, Int.toNat_natCast]
  have := all_loop (E := fun p : Prm => p.2.2.2.2.1.length ≤ 140737488355328) permB (fun _ => some true) (fun k xs i => impl_arePermits.l4 NN k xs xs.length i) ?_ ?_ ps hk (by omega) NN (NN_lt (by omega))
  · refine this.trans ?_
    cases ps.all permB <;> simp
  · intro k p
    simp [impl_arePermits.l4, impl_arePermits.g4]
  · intro k p a r ha c0 c1 cw
    simp only [impl_arePermits.l4, impl_arePermits.g4, c0, c1, cw, and_self, and_true, true_and, decide_true, decide_false, if_true, if_false, mid_get, mid_set, mid_getn, mid_setn, bt_mid, Option.bind_some, Bool.not_true, Bool.not_false, Bool.false_eq_true, Bool.true_eq_false, beq_self_eq_true, bne_self_eq_false, Int.toNat_natCast, impl_IsPermit_f a ha]
    cases permB a <;> simp
theorem permB_iff {p : Prm} (h : permB p = true) : (0 ≤ p.1 ∧ p.1 ≤ 100000) ∧ (p.1 ≤ p.2.1 ∧ p.2.1 ≤ 100000) := by
  unfold permB at h
  simp only [Bool.and_eq_true, inB_iff] at h
  omega
def fstP (ps : List Prm) (xs : List Art) (cs : List Int) (day : Int) : Option (Nat × Prm) := firstOf (fun p : Prm => decide (refV p xs cs day = 0)) 0 ps
def frsR (ps : List Prm) (xs : List Art) (cs : List Int) (day : Int) : Int × Int := if askO (permsL ps) xs cs day = 0 then (fstP ps xs cs day).elim (0, 4) (fun x => ((x.1 : Int), 0)) else (0, askO (permsL ps) xs cs day)
theorem perms_k {ps : List Prm} (hp : Lm OkPermit ps) : ∀ p ∈ ps, p.2.2.2.2.1.length ≤ 140737488355328 := fun p h => Nat.le_trans (hp.2 p h).2.2.2.2.1.1 (by omega)
theorem FirstPermit_both (ps : List Prm) (xs : List Art) (cs : List Int) (day : Int) (hp : Lm OkPermit ps) (hx : Lm OkArticle xs) (hc : Lm (Rg .i64) cs) : spec_FirstPermit.f ps xs cs day = some (frsR ps xs cs day) ∧ impl_FirstPermit.f ps xs cs day = some (frsR ps xs cs day) := by
  have hk := perms_k hp
  have hpl := hp.1
  have hb : xs.length ≤ 140737488355328 := Nat.le_trans hx.1 (by omega)
  refine ⟨?_, ?_⟩
  · unfold spec_FirstPermit.f spec_FirstPermit.fn spec_FirstPermit.top frsR
    rw [spec_l30Code_f ps xs cs day hpl hk hb (arts_z hx) hc.1]
    simp only [Option.bind_some]
    by_cases h0 : askO (permsL ps) xs cs day = 0
    · obtain ⟨_, a1, a2, _⟩ := askO_zero h0
      rw [if_pos h0, if_neg (by rw [h0]; decide)]
      have := find_loop (E := fun p : Prm => p.2.2.2.2.1.length ≤ 140737488355328) (fun p : Prm => decide (refV p xs cs day = 0)) (fun i _ => some (i : Int)) (fun _ => some (-1)) (fun k ys i => spec_l30First.l2 NN k ys xs cs day i) ?_ ?_ ps hk (by omega) NN (NN_lt (by omega))
      · unfold spec_l30First.f spec_l30First.fn spec_l30First.top
        rw [this]
        unfold fstP
        cases firstOf (fun p : Prm => decide (refV p xs cs day = 0)) 0 ps with
        | none => rfl
        | some y =>
          have : ¬ (y.1 : Int) < 0 := by omega
          simp [this]
      · intro k q
        simp [spec_l30First.l2, spec_l30First.g2]
      · intro k q p r he c0 c1 c2 cw
        simp only [spec_l30First.l2, spec_l30First.g2, c0, c1, cw, and_self, and_true, true_and, decide_true, decide_false, if_true, if_false, mid_get, mid_set, mid_getn, mid_setn, bt_mid, Option.bind_some, Bool.not_true, Bool.not_false, Bool.false_eq_true, Bool.true_eq_false, beq_self_eq_true, bne_self_eq_false, Int.toNat_natCast, spec_l30Refusals_f p xs cs day a1 a2 he]
        by_cases h : refV p xs cs day = 0 <;> simp [h]
    · rw [if_neg h0, if_pos (by simpa using h0)]
  · unfold impl_FirstPermit.f impl_FirstPermit.fn impl_FirstPermit.top frsR
    rw [impl_arePermits_f ps hpl hk, impl_AreArticles_f xs hb (arts_z hx), impl_areCounts_f xs cs hc.1, impl_isDay_f]
    have ea : ∀ v : Int × Int, (if askO (permsL ps) xs cs day = 0 then v else (0, askO (permsL ps) xs cs day)) = if permsL ps = true then (if artsB xs = true then (if cntsB xs cs = true then (if inB day 0 100000 = true then v else (0, 2)) else (0, 2)) else (0, 1)) else (0, 1) := fun v => by
      unfold askO
      cases permsL ps
      · rfl
      cases artsB xs
      · rfl
      cases cntsB xs cs
      · rfl
      cases inB day 0 100000 <;> rfl
    rw [ea]
    cases permsL ps
    · rfl
    cases h1 : artsB xs
    · rfl
    cases h2 : cntsB xs cs
    · rfl
    cases inB day 0 100000
    · rfl
    have := find_loop (E := fun p : Prm => p.2.2.2.2.1.length ≤ 140737488355328) (fun p : Prm => decide (refV p xs cs day = 0)) (fun i _ => some ((i : Int), (0 : Int))) (fun _ => some (0, 4)) (fun k ys i => impl_FirstPermit.l6 NN k xs cs day ys ys.length i) ?_ ?_ ps hk (by omega) NN (NN_lt (by omega))
    · simp only [Option.bind_some, Bool.not_true, Bool.false_eq_true, if_false, if_true]
      refine this.trans ?_
      unfold fstP
      cases firstOf (fun p : Prm => decide (refV p xs cs day = 0)) 0 ps <;> rfl
    · intro k q
      simp [impl_FirstPermit.l6, impl_FirstPermit.g6]
    · intro k q p r he c0 c1 c2 cw
      simp only [impl_FirstPermit.l6, impl_FirstPermit.g6, c0, c1, cw, and_self, and_true, true_and, decide_true, decide_false, if_true, if_false, mid_get, mid_set, mid_getn, mid_setn, bt_mid, Option.bind_some, Bool.not_true, Bool.not_false, Bool.false_eq_true, Bool.true_eq_false, beq_self_eq_true, bne_self_eq_false, Int.toNat_natCast, impl_refusalsOf_f p xs cs day h1 h2 he]
      by_cases h : refV p xs cs day = 0 <;> simp [h]
theorem FirstPermit_core (ps : List Prm) (xs : List Art) (cs : List Int) (day : Int) (hp : Lm OkPermit ps) (hx : Lm OkArticle xs) (hc : Lm (Rg .i64) cs) (_ : Rg .i64 day) : ∃ w, spec_FirstPermit.f ps xs cs day = some w ∧ impl_FirstPermit.f ps xs cs day = some w ∧ True :=
  ⟨_, (FirstPermit_both ps xs cs day hp hx hc).1, (FirstPermit_both ps xs cs day hp hx hc).2, trivial⟩
def maxD (a b : Int) : Int := if a > b then a else b
def nxtF (xs : List Art) (cs : List Int) (day : Int) (best : Int) (p : Prm) : Int :=
  if refV p xs cs (maxD p.1 day) = 0 then (if best < 0 then maxD p.1 day else if maxD p.1 day < best then maxD p.1 day else best) else best
def nxtL (ps : List Prm) (xs : List Art) (cs : List Int) (day : Int) : Int := ps.foldl (nxtF xs cs day) (-1)
def nxtR (ps : List Prm) (xs : List Art) (cs : List Int) (day : Int) : Int × Int := if askO (permsL ps) xs cs day = 0 then (if nxtL ps xs cs day < 0 then (0, 4) else (nxtL ps xs cs day, 0)) else (0, askO (permsL ps) xs cs day)
theorem ask_iff (b : Bool) (xs : List Art) (cs : List Int) (day : Int) (v : Int × Int) : (if askO b xs cs day = 0 then v else (0, askO b xs cs day)) = if b = true then (if artsB xs = true then (if cntsB xs cs = true then (if inB day 0 100000 = true then v else (0, 2)) else (0, 2)) else (0, 1)) else (0, 1) := by
  unfold askO
  cases b
  · rfl
  cases artsB xs
  · rfl
  cases cntsB xs cs
  · rfl
  cases inB day 0 100000 <;> rfl
theorem NextDay_both (ps : List Prm) (xs : List Art) (cs : List Int) (day : Int) (hp : Lm OkPermit ps) (hx : Lm OkArticle xs) (hc : Lm (Rg .i64) cs) : spec_NextDay.f ps xs cs day = some (nxtR ps xs cs day) ∧ impl_NextDay.f ps xs cs day = some (nxtR ps xs cs day) := by
  have hk := perms_k hp
  have hpl := hp.1
  have hb : xs.length ≤ 140737488355328 := Nat.le_trans hx.1 (by omega)
  have fin : ∀ st : Int, (if (decide ((st : Int) < 0)) = true then some ((0 : Int), (4 : Int)) else some (st, 0)) = some (if st < 0 then (0, 4) else (st, 0)) := fun st => by
    by_cases h : st < 0 <;> simp [h]
  refine ⟨?_, ?_⟩
  · unfold spec_NextDay.f spec_NextDay.fn spec_NextDay.top nxtR
    rw [spec_l30Code_f ps xs cs day hpl hk hb (arts_z hx) hc.1]
    simp only [Option.bind_some]
    by_cases h0 : askO (permsL ps) xs cs day = 0
    · obtain ⟨_, a1, a2, _⟩ := askO_zero h0
      rw [if_pos h0, if_neg (by rw [h0]; decide)]
      have := (fold_fix (E := fun p : Prm => p.2.2.2.2.1.length ≤ 140737488355328) (fun _ _ => True) (fun _ => nxtF xs cs day) (fun st => some (if st < 0 then ((0 : Int), (4 : Int)) else (st, 0))) (fun k i st => spec_NextDay.l6 NN k ps xs cs day st i) ps ?_ ?_ (-1) hk trivial (by omega) NN (NN_lt (by omega))).2
      · rw [foldi_foldl] at this
        exact this
      · intro k st _
        simp only [spec_NextDay.l6, spec_NextDay.g6, Int.lt_irrefl, and_self, and_true, true_and, decide_true, decide_false, if_true, if_false, mid_get, mid_set, mid_getn, mid_setn, bt_mid, Option.bind_some, Bool.not_true, Bool.not_false, Bool.false_eq_true, Bool.true_eq_false, beq_self_eq_true, bne_self_eq_false, Int.toNat_natCast]
        exact fin st
      · intro k q p r st hxx he _ c0 c1 c2 cw g
        refine ⟨trivial, ?_⟩
        simp only [spec_NextDay.l6, spec_NextDay.g6, c0, c1, cw, and_self, and_true, true_and, decide_true, decide_false, if_true, if_false, mid_get, mid_set, mid_getn, mid_setn, bt_mid, Option.bind_some, Bool.not_true, Bool.not_false, Bool.false_eq_true, Bool.true_eq_false, beq_self_eq_true, bne_self_eq_false, Int.toNat_natCast, g]
        rw [spec_l30Refusals_f p xs cs _ a1 a2 he]
        rw [show (if p.1 > day then p.1 else day) = maxD p.1 day from rfl]
        unfold nxtF
        simp only [Option.bind_some]
        by_cases h : refV p xs cs (maxD p.1 day) = 0
        · by_cases h2 : st < 0
          · simp [h, h2]
          · by_cases h3 : maxD p.1 day < st
            · simp [h, h2, h3]
            · simp [h, h2, h3]
        · simp [h]
    · rw [if_neg h0, if_pos (by simpa using h0)]
  · unfold impl_NextDay.f impl_NextDay.fn impl_NextDay.top nxtR
    rw [impl_arePermits_f ps hpl hk, impl_AreArticles_f xs hb (arts_z hx), impl_areCounts_f xs cs hc.1, impl_isDay_f, ask_iff]
    cases permsL ps
    · rfl
    cases h1 : artsB xs
    · rfl
    cases h2 : cntsB xs cs
    · rfl
    cases inB day 0 100000
    · rfl
    have := (fold_fix (E := fun p : Prm => p.2.2.2.2.1.length ≤ 140737488355328) (fun _ _ => True) (fun _ => nxtF xs cs day) (fun st => some (if st < 0 then ((0 : Int), (4 : Int)) else (st, 0))) (fun k i st => impl_NextDay.l7 NN k xs cs day st ps ps.length i) ps ?_ ?_ (-1) hk trivial (by omega) NN (NN_lt (by omega))).2
    · rw [foldi_foldl] at this
      simp only [Option.bind_some, Bool.not_true, Bool.false_eq_true, if_false, if_true]
      exact this
    · intro k st _
      simp only [impl_NextDay.l7, impl_NextDay.g7, Int.lt_irrefl, and_self, and_true, true_and, decide_true, decide_false, if_true, if_false, mid_get, mid_set, mid_getn, mid_setn, bt_mid, Option.bind_some, Bool.not_true, Bool.not_false, Bool.false_eq_true, Bool.true_eq_false, beq_self_eq_true, bne_self_eq_false, Int.toNat_natCast]
      exact fin st
    · intro k q p r st hxx he _ c0 c1 c2 cw g
      refine ⟨trivial, ?_⟩
      simp only [impl_NextDay.l7, impl_NextDay.g7, c0, c1, cw, and_self, and_true, true_and, decide_true, decide_false, if_true, if_false, mid_get, mid_set, mid_getn, mid_setn, bt_mid, Option.bind_some, Bool.not_true, Bool.not_false, Bool.false_eq_true, Bool.true_eq_false, beq_self_eq_true, bne_self_eq_false, Int.toNat_natCast, g]
      rw [impl_refusalsOf_f p xs cs _ h1 h2 he]
      rw [show (if p.1 > day then p.1 else day) = maxD p.1 day from rfl]
      unfold nxtF
      simp only [Option.bind_some]
      by_cases h : refV p xs cs (maxD p.1 day) = 0
      · by_cases h2 : st < 0
        · simp [h, h2]
        · by_cases h3 : maxD p.1 day < st
          · simp [h, h2, h3]
          · simp [h, h2, h3]
      · simp [h]
theorem NextDay_core (ps : List Prm) (xs : List Art) (cs : List Int) (day : Int) (hp : Lm OkPermit ps) (hx : Lm OkArticle xs) (hc : Lm (Rg .i64) cs) (_ : Rg .i64 day) : ∃ w, spec_NextDay.f ps xs cs day = some w ∧ impl_NextDay.f ps xs cs day = some w ∧ True :=
  ⟨_, (NextDay_both ps xs cs day hp hx hc).1, (NextDay_both ps xs cs day hp hx hc).2, trivial⟩
end Go.Pl

namespace Go.Pl
open Go.Ev
set_option linter.unusedVariables false
set_option linter.unusedSimpArgs false
theorem FnExactNextDay_true (aPermits : List (Int × Int × Int × Int × List Int × Int)) (aList : List (ByteArray × Int × Int × Int × Int × Int × Int × Int × Int)) (aCounts : List Int) (aDay : Int) (hyp : Ls PlPermit aPermits ∧ Ls PlArticle aList ∧ Ls (Rg .i64) aCounts ∧ Rg .i64 aDay) : laws_FnExactNextDay.f aPermits aList aCounts aDay = some true := by
  obtain ⟨h_aPermits, h_aList, h_aCounts, h_aDay⟩ := hyp
  unfold laws_FnExactNextDay.f laws_FnExactNextDay.fn laws_FnExactNextDay.top
  have z_aCounts : aCounts.length ≤ 140737488355328 := h_aCounts.1
  have lw_aCounts := w64 (n := (1000000 - (aCounts.length : Int))) (by omega) (by omega)
  simp only [lw_aCounts]
  obtain ⟨s1, e1, l1, k1⟩ := laws_szPermitS_ok aPermits (1000000 - (aCounts.length : Int)) (by omega) (by omega) h_aPermits
  simp only [e1, Option.bind_some, decide_eq_true_eq]
  by_cases hn1 : s1 < 0
  · simp [hn1]
  simp only [hn1, if_false]
  obtain ⟨q1, o_aPermits⟩ := k1 (by omega)
  obtain ⟨s2, e2, l2, k2⟩ := laws_szArticleS_ok aList s1 (by omega) (by omega) h_aList
  simp only [e2, Option.bind_some, decide_eq_true_eq]
  by_cases hn2 : s2 < 0
  · simp [hn2]
  simp only [hn2, if_false]
  obtain ⟨q2, o_aList⟩ := k2 (by omega)
  have o_aCounts : Lm (Rg .i64) aCounts := ⟨by omega, h_aCounts.2⟩
  have o_aDay := h_aDay
  obtain ⟨f0_aPermits, t_aPermits, i_aPermits⟩ := laws_toPermitS_both aPermits o_aPermits
  obtain ⟨f0_aList, t_aList, i_aList⟩ := laws_toArticleS_both aList o_aList
  obtain ⟨f0_aCounts, t_aCounts, i_aCounts⟩ := laws_toInt64S_both aCounts o_aCounts
  obtain ⟨⟨w0, w1⟩, c1, c2, c3⟩ := NextDay_core aPermits aList aCounts aDay o_aPermits o_aList o_aCounts o_aDay
  have c4 := c3
  simp [t_aPermits, i_aPermits, t_aList, i_aList, t_aCounts, i_aCounts, c1, c2]
end Go.Pl
