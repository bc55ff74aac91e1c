/- The law FnExactCellsLeft, and what it stands on (the last part): the program answers as the law says, for all arguments of a claim's bounds. -/
import Derived.Test.YtppfdipgaifhiaaChecked
import Derived.Test.YtppfdipgaifhiaaProg
import Derived.Test.YtppfdipgaifhiaaRows
import Derived.Below
import Derived.Calls
import Derived.Carry
import Derived.ChangeArms
import Derived.ChangeOld
import Derived.Deep.Quiet
import Derived.KernelRfl
import Derived.Laws.Append
import Derived.Laws.BytesString
import Derived.Laws.MakeOwn
import Derived.Laws.Strings
import Derived.OpenShut
import Derived.OrdersHeld
import Derived.ProofKit
import Derived.ShutString
import Derived.SizedLaws
import Derived.Tactics
import Derived.WalkKit
import Derived.WideShapes
import Derived.Test.YtppfdipgaifhiaaEvExactCellsLeft1
namespace Go.Pl
open Go.Ev
set_option linter.unusedVariables false
noncomputable section
def impl_allWithin.g2 (L2 : Int → Int → List Int → Int → Int → Option Bool) (low1 : Int) (high2 : Int) (v9 : List Int) (v10 : Int) (v11 : Int) : Option Bool :=
  if (decide ((v11 : Int) < v10)) = true then
    if (0 : Int) ≤ v11 ∧ (v11 : Int) < v9.length then
      (impl_within.f (v9.getD (v11 : Int).toNat 0) low1 high2).bind fun r1 =>
      if (!r1) = true then
        some false
      else
        L2 low1 high2 v9 v10 (IntKind.i64.wrap (v11 + 1))
    else
      none
  else
    some true
def impl_allWithin.l2 (n : Nat) : Nat → Int → Int → List Int → Int → Int → Option Bool
  | 0 => fun _ _ _ _ _ => none
  | k + 1 => impl_allWithin.g2 (impl_allWithin.l2 n k)
def impl_allWithin.top (I2 : Int → Int → List Int → Int → Int → Option Bool) (list0 : List Int) (low1 : Int) (high2 : Int) : Option Bool :=
  I2 low1 high2 list0 (list0.length : Int) 0
def impl_allWithin.fn (n : Nat) (list0 : List Int) (low1 : Int) (high2 : Int) : Option Bool := impl_allWithin.top (impl_allWithin.l2 n n) list0 low1 high2
def impl_allWithin.f (list0 : List Int) (low1 : Int) (high2 : Int) : Option Bool := impl_allWithin.fn NN list0 low1 high2
end
end Go.Pl

namespace Go.Pl
open Go.Ev
set_option linter.unusedVariables false
noncomputable section
def impl_IsPermit.g4 (L4 : Int → (Int × Int × Int × Int × List Int × Int) → Option Bool) (i3 : Int) (p1 : Int × Int × Int × Int × List Int × Int) : Option Bool :=
  if (decide ((i3 : Int) < (p1.2.2.2.2.1.length : Int))) = true then
    if (0 : Int) ≤ (IntKind.i64.wrap (i3 - 1)) ∧ ((IntKind.i64.wrap (i3 - 1)) : Int) < p1.2.2.2.2.1.length then
      if (0 : Int) ≤ i3 ∧ (i3 : Int) < p1.2.2.2.2.1.length then
        if (decide (((p1.2.2.2.2.1.getD (i3 : Int).toNat 0) : Int) ≤ (p1.2.2.2.2.1.getD ((IntKind.i64.wrap (i3 - 1)) : Int).toNat 0))) = true then
          some false
        else
          L4 (IntKind.i64.wrap (i3 + 1)) p1
      else
        none
    else
      none
  else
    some true
def impl_IsPermit.l4 (n : Nat) : Nat → Int → (Int × Int × Int × Int × List Int × Int) → Option Bool
  | 0 => fun _ _ => none
  | k + 1 => impl_IsPermit.g4 (impl_IsPermit.l4 n k)
def impl_IsPermit.top (I4 : Int → (Int × Int × Int × Int × List Int × Int) → Option Bool) (p0 : Int × Int × Int × Int × List Int × Int) : Option Bool :=
  (impl_isDay.f p0.1).bind fun r1 =>
  if (!r1) = false then
    (impl_isDay.f p0.2.1).bind fun r2 =>
    if (!r2) = false then
      if (decide ((p0.2.1 : Int) < p0.1)) = false then
        (impl_within.f p0.2.2.1 0 1000000000).bind fun r3 =>
        if (!r3) = false then
          (impl_isCalibre.f p0.2.2.2.1).bind fun r4 =>
          if (!r4) = false then
            (impl_within.f p0.2.2.2.2.2 0 3).bind fun r5 =>
            if (!r5) = false then
              (impl_allWithin.f p0.2.2.2.2.1 0 3).bind fun r6 =>
              if (!r6) = true then
                some false
              else
                I4 1 p0
            else
              some false
          else
            some false
        else
          some false
      else
        some false
    else
      some false
  else
    some false
def impl_IsPermit.fn (n : Nat) (p0 : Int × Int × Int × Int × List Int × Int) : Option Bool := impl_IsPermit.top (impl_IsPermit.l4 n n) p0
def impl_IsPermit.f (p0 : Int × Int × Int × Int × List Int × Int) : Option Bool := impl_IsPermit.fn NN p0
end
end Go.Pl

namespace Go.Pl
open Go.Ev
set_option linter.unusedVariables false
noncomputable section
def spec_l01Rises.g2 (L2 : List Int → Int → Int → Option Bool) (list0 : List Int) (n1 : Int) (i5 : Int) : Option Bool :=
  if (decide ((i5 : Int) < (list0.length : Int))) = true then
    if (0 : Int) ≤ i5 ∧ (i5 : Int) < list0.length then
      (spec_l01In.f (list0.getD (i5 : Int).toNat 0) 0 (IntKind.i64.wrap (n1 - 1))).bind fun r1 =>
      if (!r1) = false then
        if (decide ((0 : Int) < i5)) = true then
          if (0 : Int) ≤ i5 ∧ (i5 : Int) < list0.length then
            if (0 : Int) ≤ (IntKind.i64.wrap (i5 - 1)) ∧ ((IntKind.i64.wrap (i5 - 1)) : Int) < list0.length then
              if (decide (((list0.getD (i5 : Int).toNat 0) : Int) ≤ (list0.getD ((IntKind.i64.wrap (i5 - 1)) : Int).toNat 0))) = true then
                some false
              else
                L2 list0 n1 (IntKind.i64.wrap (i5 + 1))
            else
              none
          else
            none
        else
          L2 list0 n1 (IntKind.i64.wrap (i5 + 1))
      else
        some false
    else
      none
  else
    some true
def spec_l01Rises.l2 (n : Nat) : Nat → List Int → Int → Int → Option Bool
  | 0 => fun _ _ _ => none
  | k + 1 => spec_l01Rises.g2 (spec_l01Rises.l2 n k)
def spec_l01Rises.top (I2 : List Int → Int → Int → Option Bool) (list0 : List Int) (n1 : Int) : Option Bool :=
  I2 list0 n1 0
def spec_l01Rises.fn (n : Nat) (list0 : List Int) (n1 : Int) : Option Bool := spec_l01Rises.top (spec_l01Rises.l2 n n) list0 n1
def spec_l01Rises.f (list0 : List Int) (n1 : Int) : Option Bool := spec_l01Rises.fn NN list0 n1
end
end Go.Pl

namespace Go.Pl
open Go.Ev
set_option linter.unusedVariables false
noncomputable section
def spec_IsPermit.top (p0 : Int × Int × Int × Int × List Int × Int) : Option Bool :=
  (spec_l01In.f p0.1 0 100000).bind fun r1 =>
  if r1 = true then
    (spec_l01In.f p0.2.1 p0.1 100000).bind fun r2 =>
    if r2 = true then
      (spec_l01In.f p0.2.2.1 0 1000000000).bind fun r3 =>
      if r3 = true then
        (spec_l01In.f p0.2.2.2.1 20 300).bind fun r4 =>
        if r4 = true then
          (spec_l01Rises.f p0.2.2.2.2.1 4).bind fun r5 =>
          if r5 = true then
            (spec_l01In.f p0.2.2.2.2.2 0 3).bind fun r6 =>
            some r6
          else
            some false
        else
          some false
      else
        some false
    else
      some false
  else
    some false
def spec_IsPermit.fn (n : Nat) (p0 : Int × Int × Int × Int × List Int × Int) : Option Bool := spec_IsPermit.top p0
def spec_IsPermit.f (p0 : Int × Int × Int × Int × List Int × Int) : Option Bool := spec_IsPermit.fn NN p0
end
end Go.Pl

namespace Go.Pl
open Go.Ev
set_option linter.unusedVariables false
set_option linter.unusedSimpArgs false
theorem impl_isDay_f (n : Int) : impl_isDay.f n = some (inB n 0 100000) := by
  unfold impl_isDay.f impl_isDay.fn impl_isDay.top
  rw [impl_within_f]; rfl
theorem impl_isCalibre_f (n : Int) : impl_isCalibre.f n = some (inB n 20 300) := by
  unfold impl_isCalibre.f impl_isCalibre.fn impl_isCalibre.top
  rw [impl_within_f]; rfl
theorem impl_allWithin_f (xs : List Int) (lo hi : Int) (h : xs.length ≤ 140737488355328) : impl_allWithin.f xs lo hi = some (xs.all (inB · lo hi)) := by
  have := all_loop (E := fun _ => True) (inB · lo hi) (fun _ => some true) (fun k xs i => impl_allWithin.l2 NN k lo hi xs xs.length i) ?_ ?_ xs (fun _ _ => trivial) h NN (NN_lt (by omega))
  · unfold impl_allWithin.f impl_allWithin.fn impl_allWithin.top
    refine this.trans ?_
    cases xs.all (inB · lo hi) <;> simp
  · intro k p
    simp [impl_allWithin.l2, impl_allWithin.g2]
  · intro k p a r _ c0 c1 cw
    simp only [impl_allWithin.l2, impl_allWithin.g2, c0, c1, cw, and_self, and_true, true_and, decide_true, decide_false, if_true, if_false, mid_get, mid_set, mid_getn, mid_setn, bt_mid, Option.bind_some, Bool.not_true, Bool.not_false, Bool.false_eq_true, Bool.true_eq_false, beq_self_eq_true, bne_self_eq_false, Int.toNat_natCast, impl_within_f]
    cases inB a lo hi <;> simp
/-- strictly rising -/
def risB : List Int → Bool
  | [] => true
  | [_] => true
  | a :: b :: r => decide (a < b) && risB (b :: r)
theorem risB_snoc : ∀ (p : List Int) (a b : Int), risB (p ++ [a, b]) = (risB (p ++ [a]) && decide (a < b)) := by
  intro p
  induction p with
  | nil => intro a b; simp [risB]
  | cons x p ih =>
    intro a b
    cases p with
    | nil => simp [risB]
    | cons y p =>
      have := ih a b
      simp only [List.cons_append] at this ⊢
      simp only [risB, this, Bool.and_assoc]
/-- rises, looked at from its second element on -/
def risF : Int → List Int → Bool
  | _, [] => true
  | a, b :: r => decide (a < b) && risF b r
theorem risB_cons (a : Int) (r : List Int) : risB (a :: r) = risF a r := by
  induction r generalizing a with
  | nil => rfl
  | cons b r ih => simp only [risB, risF, ih]
theorem snoc_getl (p r : List Int) (x a z : Int) : (p ++ [x] ++ a :: r).getD p.length z = x := by simp
theorem impl_IsPermit_loop (f t n c g : Int) : ∀ (r p : List Int) (x : Int) (k : Nat), p.length + r.length + 1 ≤ 140737488355328 → r.length < k →
    impl_IsPermit.l4 NN k ((p.length : Int) + 1) (f, t, n, c, p ++ [x] ++ r, g) = some (risF x r) := by
  intro r
  induction r with
  | nil =>
    intro p x k _ hk
    obtain ⟨k, rfl⟩ : ∃ j, k = j + 1 := ⟨k - 1, by omega⟩
    simp [impl_IsPermit.l4, impl_IsPermit.g4, risF]
  | cons a r ih =>
    intro p x k hb hk
    simp only [List.length_cons] at hb hk
    obtain ⟨k, rfl⟩ : ∃ j, k = j + 1 := ⟨k - 1, by omega⟩
    have hl : ((p ++ [x] ++ a :: r).length : Int) = p.length + r.length + 2 := by simp; omega
    have w1 := w64 (n := (p.length : Int) + 1 - 1) (by omega) (by omega)
    have w2 := w64 (n := (p.length : Int) + 1 + 1) (by omega) (by omega)
    have c1 : (p.length : Int) + 1 < ((p ++ [x] ++ a :: r).length : Int) := by omega
    have c2 : (0 : Int) ≤ (p.length : Int) + 1 - 1 := by omega
    have c3 : (p.length : Int) + 1 - 1 < ((p ++ [x] ++ a :: r).length : Int) := by omega
    have c4 : (0 : Int) ≤ (p.length : Int) + 1 := by omega
    have g1 : (p ++ [x] ++ a :: r).getD ((p.length : Int) + 1).toNat 0 = a := by
      rw [show ((p.length : Int) + 1).toNat = (p ++ [x]).length by simp, mid_getn]
    have g2 : (p ++ [x] ++ a :: r).getD ((p.length : Int) + 1 - 1).toNat 0 = x := by
      rw [show ((p.length : Int) + 1 - 1).toNat = p.length by omega, snoc_getl]
    simp only [impl_IsPermit.l4, impl_IsPermit.g4, w1, w2, c1, c2, c3, c4, g1, g2, and_self, decide_true, if_true, decide_eq_true_eq, risF]
    have := ih (p ++ [x]) a k (by simp; omega) (by omega)
    by_cases h : a ≤ x
    · have h' : ¬ x < a := by omega
      simp [h, h']
    · have h' : x < a := by omega
      simp only [h, h', if_false, decide_true, Bool.true_and]
      rw [← this]
      simp
theorem spec_l01Rises_loop (n : Int) (hn : Rg .i64 (n - 1)) : ∀ (r p : List Int) (x : Int) (k : Nat), p.length + r.length + 1 ≤ 140737488355328 → r.length < k →
    spec_l01Rises.l2 NN k (p ++ [x] ++ r) n ((p.length : Int) + 1) = some (r.all (inB · 0 (n - 1)) && risF x r) := by
  intro r
  induction r with
  | nil =>
    intro p x k _ hk
    obtain ⟨k, rfl⟩ : ∃ j, k = j + 1 := ⟨k - 1, by omega⟩
    simp [spec_l01Rises.l2, spec_l01Rises.g2, risF]
  | cons a r ih =>
    intro p x k hb hk
    simp only [List.length_cons] at hb hk
    obtain ⟨k, rfl⟩ : ∃ j, k = j + 1 := ⟨k - 1, by omega⟩
    have hl : ((p ++ [x] ++ a :: r).length : Int) = p.length + r.length + 2 := by simp; omega
    have w1 := w64 (n := (p.length : Int) + 1 - 1) (by omega) (by omega)
    have w2 := w64 (n := (p.length : Int) + 1 + 1) (by omega) (by omega)
    have hn' := wf64.1 hn
    have w3 := w64 (n := n - 1) (by omega) (by omega)
    have c1 : (p.length : Int) + 1 < ((p ++ [x] ++ a :: r).length : Int) := by omega
    have c2 : (0 : Int) ≤ (p.length : Int) + 1 - 1 := by omega
    have c3 : (p.length : Int) + 1 - 1 < ((p ++ [x] ++ a :: r).length : Int) := by omega
    have c4 : (0 : Int) ≤ (p.length : Int) + 1 := by omega
    have c5 : (0 : Int) < (p.length : Int) + 1 := by omega
    have g1 : (p ++ [x] ++ a :: r).getD ((p.length : Int) + 1).toNat 0 = a := by
      rw [show ((p.length : Int) + 1).toNat = (p ++ [x]).length by simp, mid_getn]
    have g2 : (p ++ [x] ++ a :: r).getD ((p.length : Int) + 1 - 1).toNat 0 = x := by
      rw [show ((p.length : Int) + 1 - 1).toNat = p.length by omega, snoc_getl]
    simp only [spec_l01Rises.l2, spec_l01Rises.g2, w1, w2, w3, c1, c2, c3, c4, c5, g1, g2, and_self, decide_true, if_true, decide_eq_true_eq, risF, spec_l01In_f, Option.bind_some, List.all_cons]
    have := ih (p ++ [x]) a k (by simp; omega) (by omega)
    cases h0 : inB a 0 (n - 1)
    · simp
    by_cases h : a ≤ x
    · have h' : ¬ x < a := by omega
      simp [h, h']
    · have h' : x < a := by omega
      simp only [h, h', if_false, decide_true, Bool.true_and, Bool.not_true, if_true]
      rw [← this]
      simp
theorem spec_l01Rises_f (xs : List Int) (n : Int) (hn : Rg .i64 (n - 1)) (h : xs.length ≤ 140737488355328) : spec_l01Rises.f xs n = some (xs.all (inB · 0 (n - 1)) && risB xs) := by
  unfold spec_l01Rises.f spec_l01Rises.fn spec_l01Rises.top
  obtain ⟨k, hk⟩ : ∃ j, NN = j + 1 := ⟨NN - 1, by have := NNb; omega⟩
  have hkb : 1000000000000000 < k := by rw [NN_eq] at hk; omega
  cases xs with
  | nil => rw [show spec_l01Rises.l2 NN NN = spec_l01Rises.l2 NN (k + 1) by rw [← hk]]; simp [spec_l01Rises.l2, spec_l01Rises.g2, risB]
  | cons a r =>
    simp only [List.length_cons] at h
    have hl := spec_l01Rises_loop n hn r [] a k (by simp; omega) (by omega)
    have hn' := wf64.1 hn
    have w3 := w64 (n := n - 1) (by omega) (by omega)
    have w1 := w64 (n := 0 + 1) (by omega) (by omega)
    have c1 : (0 : Int) < ((a :: r).length : Int) := by simp only [List.length_cons]; omega
    rw [show spec_l01Rises.l2 NN NN = spec_l01Rises.l2 NN (k + 1) by rw [← hk]]
    simp only [spec_l01Rises.l2, spec_l01Rises.g2, c1, w1, w3, spec_l01In_f]
    simp at hl
    simp [risB_cons, hl]
    cases inB a 0 (n - 1) <;> simp
def permB (p : Int × Int × Int × Int × List Int × Int) : Bool :=
  inB p.1 0 100000 && inB p.2.1 p.1 100000 && inB p.2.2.1 0 1000000000 && inB p.2.2.2.1 20 300 && (p.2.2.2.2.1.all (inB · 0 3) && risB p.2.2.2.2.1) && inB p.2.2.2.2.2 0 3
theorem spec_IsPermit_f (p : Int × Int × Int × Int × List Int × Int) (h : p.2.2.2.2.1.length ≤ 140737488355328) : spec_IsPermit.f p = some (permB p) := by
  unfold spec_IsPermit.f spec_IsPermit.fn spec_IsPermit.top permB
  simp only [spec_l01In_f, spec_l01Rises_f _ 4 (wf64.2 (by omega)) h, Option.bind_some, show (4 : Int) - 1 = 3 from rfl]
  cases inB p.1 0 100000 <;> cases inB p.2.1 p.1 100000 <;> cases inB p.2.2.1 0 1000000000 <;> cases inB p.2.2.2.1 20 300 <;> cases (p.2.2.2.2.1.all (inB · 0 3)) <;> cases risB p.2.2.2.2.1 <;> cases inB p.2.2.2.2.2 0 3 <;> rfl
theorem impl_IsPermit_f (p : Int × Int × Int × Int × List Int × Int) (h : p.2.2.2.2.1.length ≤ 140737488355328) : impl_IsPermit.f p = some (permB p) := by
  unfold impl_IsPermit.f impl_IsPermit.fn impl_IsPermit.top permB
  obtain ⟨f, t, n, c, ks, g⟩ := p
  simp only at h
  have hl : impl_IsPermit.l4 NN NN 1 (f, t, n, c, ks, g) = some (risB ks) := by
    cases ks with
    | nil =>
      obtain ⟨k, hk⟩ : ∃ j, NN = j + 1 := ⟨NN - 1, by have := NNb; omega⟩
      rw [show impl_IsPermit.l4 NN NN = impl_IsPermit.l4 NN (k + 1) by rw [← hk]]
      simp [impl_IsPermit.l4, impl_IsPermit.g4, risB]
    | cons a r =>
      simp only [List.length_cons] at h
      have := impl_IsPermit_loop f t n c g r [] a NN (by simp; omega) (NN_lt (by omega))
      simp at this
      rw [risB_cons, ← this]
  simp only [impl_isDay_f, impl_isCalibre_f, impl_within_f, impl_allWithin_f _ _ _ h, Option.bind_some, hl]
  have e : (inB f 0 100000 && inB t f 100000) = (inB f 0 100000 && inB t 0 100000 && !decide (t < f)) := by
    unfold inB
    by_cases h1 : 0 ≤ f <;> by_cases h2 : f ≤ 100000 <;> by_cases h3 : t ≤ 100000 <;> by_cases h4 : f ≤ t <;> by_cases h5 : 0 ≤ t <;> simp [h1, h2, h3, h4, h5] <;> omega
  rw [e]
  cases inB f 0 100000 <;> cases inB t 0 100000 <;> cases decide (t < f) <;> cases inB n 0 1000000000 <;> cases inB c 20 300 <;> cases (ks.all (inB · 0 3)) <;> cases inB g 0 3 <;> simp
theorem IsPermit_core (p : Int × Int × Int × Int × List Int × Int) (h : OkPermit p) : ∃ w, spec_IsPermit.f p = some w ∧ impl_IsPermit.f p = some w ∧ True :=
  have h1 : p.2.2.2.2.1.length ≤ 140737488355328 := Nat.le_trans h.2.2.2.2.1.1 (by omega)
  ⟨_, spec_IsPermit_f p h1, impl_IsPermit_f p h1, trivial⟩
end Go.Pl

namespace Go.Pl
open Go.Ev
set_option linter.unusedVariables false
noncomputable section
def impl_areCells.top (g0 : Int × Int × List Bool) (cells1 : List Int) : Option Bool :=
  if (decide (((cells1.length : Int) : Int) ≤ 200)) = true then
    (impl_allWithin.f cells1 0 (IntKind.i64.wrap ((IntKind.i64.wrap (g0.1 * g0.2.1)) - 1))).bind fun r1 =>
    some r1
  else
    some false
def impl_areCells.fn (n : Nat) (g0 : Int × Int × List Bool) (cells1 : List Int) : Option Bool := impl_areCells.top g0 cells1
def impl_areCells.f (g0 : Int × Int × List Bool) (cells1 : List Int) : Option Bool := impl_areCells.fn NN g0 cells1
end
end Go.Pl

namespace Go.Pl
open Go.Ev
set_option linter.unusedVariables false
noncomputable section
def spec_l31Cells.g4 (L4 : List Int → Int → (Int × Int × List Bool) → Option Int) (cells1 : List Int) (i5 : Int) (g2 : Int × Int × List Bool) : Option Int :=
  if (decide ((i5 : Int) < (cells1.length : Int))) = true then
    if (0 : Int) ≤ i5 ∧ (i5 : Int) < cells1.length then
      (spec_l01In.f (cells1.getD (i5 : Int).toNat 0) 0 (IntKind.i64.wrap ((IntKind.i64.wrap (g2.1 * g2.2.1)) - 1))).bind fun r2 =>
      if (!r2) = true then
        some 2
      else
        L4 cells1 (IntKind.i64.wrap (i5 + 1)) g2
    else
      none
  else if (decide ((200 : Int) < (cells1.length : Int))) = true then
    some 2
  else
    some 0
def spec_l31Cells.l4 (n : Nat) : Nat → List Int → Int → (Int × Int × List Bool) → Option Int
  | 0 => fun _ _ _ => none
  | k + 1 => spec_l31Cells.g4 (spec_l31Cells.l4 n k)
def spec_l31Cells.top (I4 : List Int → Int → (Int × Int × List Bool) → Option Int) (g0 : Int × Int × List Bool) (cells1 : List Int) : Option Int :=
  (spec_IsGrid.f g0).bind fun r1 =>
  if (!r1) = true then
    some 1
  else
    I4 cells1 0 g0
def spec_l31Cells.fn (n : Nat) (g0 : Int × Int × List Bool) (cells1 : List Int) : Option Int := spec_l31Cells.top (spec_l31Cells.l4 n n) g0 cells1
def spec_l31Cells.f (g0 : Int × Int × List Bool) (cells1 : List Int) : Option Int := spec_l31Cells.fn NN g0 cells1
end
end Go.Pl

namespace Go.Pl
open Go.Ev
set_option linter.unusedVariables false
set_option linter.unusedSimpArgs false
theorem small_rg {xs : List Int} {n : Nat} (h : xs.length ≤ 1000000) (h2 : ∀ c ∈ xs, 0 ≤ c ∧ c ≤ 1000000) : Lm (Rg .i64) xs := ⟨h, fun c hc => wf64.2 (by have := h2 c hc; omega)⟩
theorem CellsLeft_core (g : Int × Int × List Bool) (h : OkGrid g) : ∃ w, spec_CellsLeft.f g = some w ∧ impl_CellsLeft.f g = some w ∧ Lm (Rg .i64) w.1 := by
  have hl : g.2.2.length ≤ 1000000 := h.2.2.1
  refine ⟨if gridB g = true then (cellsL g.2.2, 0) else ([], 1), ?_, ?_, ?_⟩
  · unfold spec_CellsLeft.f spec_CellsLeft.fn spec_CellsLeft.top
    rw [spec_l31Code_f, code00]
    cases gridB g
    · rfl
    · simp only [and_self, and_true, true_and, decide_true, decide_false, if_true, if_false, mid_get, mid_set, mid_getn, mid_setn, bt_mid, Option.bind_some, Bool.not_true, Bool.not_false, Bool.false_eq_true, Bool.true_eq_false, beq_self_eq_true, bne_self_eq_false, Int.toNat_natCast]
      rw [spec_l31Left_f g hl]; rfl
  · unfold impl_CellsLeft.f impl_CellsLeft.fn impl_CellsLeft.top
    rw [impl_IsGrid_f]
    cases gridB g
    · rfl
    · simp only [and_self, and_true, true_and, decide_true, decide_false, if_true, if_false, mid_get, mid_set, mid_getn, mid_setn, bt_mid, Option.bind_some, Bool.not_true, Bool.not_false, Bool.false_eq_true, Bool.true_eq_false, beq_self_eq_true, bne_self_eq_false, Int.toNat_natCast]
      rw [impl_cellsLeft_f g hl]; rfl
  · have := @cellsL_in g.2.2
    split
    · exact ⟨by simp only; omega, fun c hc => wf64.2 (by have := this.2 c hc; omega)⟩
    · exact ⟨by simp, fun c hc => by cases hc⟩
def cellsB (g : Int × Int × List Bool) (cells : List Int) : Bool := decide (cells.length ≤ 200) && cells.all (inB · 0 (g.1 * g.2.1 - 1))
theorem impl_areCells_f (g : Int × Int × List Bool) (cells : List Int) (h : gridB g = true) (hc : cells.length ≤ 1000000) : impl_areCells.f g cells = some (cellsB g cells) := by
  have hg := gridB_iff.1 h
  have h3 := mul_le144 hg.1 hg.2.1 hg.2.2.1 hg.2.2.2.1
  unfold impl_areCells.f impl_areCells.fn impl_areCells.top cellsB
  rw [w64 (n := g.1 * g.2.1) (by omega) (by omega), w64 (by omega) (by omega), impl_allWithin_f _ _ _ (by omega)]
  by_cases h1 : cells.length ≤ 200
  · have : (cells.length : Int) ≤ 200 := by omega
    simp [h1, this]
  · have : ¬ (cells.length : Int) ≤ 200 := by omega
    simp [h1, this]
theorem spec_l31Cells_f (g : Int × Int × List Bool) (cells : List Int) (hc : cells.length ≤ 1000000) : spec_l31Cells.f g cells = some (if gridB g = true then (if cellsB g cells = true then 0 else 2) else 1) := by
  unfold spec_l31Cells.f spec_l31Cells.fn spec_l31Cells.top
  rw [spec_IsGrid_f]
  cases h : gridB g
  · rfl
  have hg := gridB_iff.1 h
  have h3 := mul_le144 hg.1 hg.2.1 hg.2.2.1 hg.2.2.2.1
  simp only [and_self, and_true, true_and, decide_true, decide_false, if_true, if_false, mid_get, mid_set, mid_getn, mid_setn, bt_mid, Option.bind_some, Bool.not_true, Bool.not_false, Bool.false_eq_true, Bool.true_eq_false, beq_self_eq_true, bne_self_eq_false, Int.toNat_natCast]
  have := find_loop (E := fun _ => True) (fun c => !(inB c 0 (g.1 * g.2.1 - 1))) (fun _ _ => some (2 : Int)) (fun xs => if (200 : Int) < xs.length then some 2 else some 0) (fun k xs i => spec_l31Cells.l4 NN k xs i g) ?_ ?_ cells (fun _ _ => trivial) (by omega) NN (NN_lt (by omega))
  · refine this.trans ?_
    have key : ∀ (xs : List Int) (i : Nat), (firstOf (fun c => !(inB c 0 (g.1 * g.2.1 - 1))) i xs).elim (if (200 : Int) < cells.length then some 2 else some 0) (fun _ => some (2 : Int)) = if xs.all (inB · 0 (g.1 * g.2.1 - 1)) = true then (if (200 : Int) < cells.length then some 2 else some 0) else some 2 := by
      intro xs
      induction xs with
      | nil => intro i; simp [firstOf]
      | cons a r ih =>
        intro i
        cases h5 : inB a 0 (g.1 * g.2.1 - 1)
        · simp [firstOf, h5]
        · simp only [firstOf, h5, Bool.not_true, Bool.false_eq_true, if_false, List.all_cons, Bool.true_and]
          exact ih _
    refine (key cells 0).trans ?_
    unfold cellsB
    by_cases h1 : cells.length ≤ 200
    · have : ¬ (200 : Int) < cells.length := by omega
      cases cells.all (inB · 0 (g.1 * g.2.1 - 1)) <;> simp [h1, this]
    · have : (200 : Int) < cells.length := by omega
      cases cells.all (inB · 0 (g.1 * g.2.1 - 1)) <;> simp [h1, this]
  · intro k p
    simp [spec_l31Cells.l4, spec_l31Cells.g4]
  · intro k p a r _ c0 c1 c2 cw
    simp only [spec_l31Cells.l4, spec_l31Cells.g4, c0, c1, cw, and_self, and_true, true_and, decide_true, decide_false, if_true, if_false, mid_get, mid_set, mid_getn, mid_setn, bt_mid, Option.bind_some, Bool.not_true, Bool.not_false, Bool.false_eq_true, Bool.true_eq_false, beq_self_eq_true, bne_self_eq_false, Int.toNat_natCast, spec_l01In_f]
    rw [w64 (n := g.1 * g.2.1) (by omega) (by omega), w64 (by omega) (by omega)]
theorem cellsB_iff {g : Int × Int × List Bool} {cells : List Int} (h : gridB g = true) (hc : cellsB g cells = true) : cells.length ≤ 200 ∧ ∀ c ∈ cells, 0 ≤ c ∧ c < (g.2.2.length : Int) ∧ c < 144 := by
  have hg := gridB_iff.1 h
  have h3 := mul_le144 hg.1 hg.2.1 hg.2.2.1 hg.2.2.2.1
  unfold cellsB at hc
  simp only [Bool.and_eq_true, decide_eq_true_eq, List.all_eq_true, inB_iff] at hc
  exact ⟨hc.1, fun c h => by have := hc.2 c h; omega⟩
end Go.Pl

namespace Go.Pl
open Go.Ev
set_option linter.unusedVariables false
set_option linter.unusedSimpArgs false
theorem FnExactCellsLeft_true (aG : Int × Int × List Bool) (hyp : PlGrid aG) : laws_FnExactCellsLeft.f aG = some true := by
  have h_aG := hyp
  unfold laws_FnExactCellsLeft.f laws_FnExactCellsLeft.fn laws_FnExactCellsLeft.top
  obtain ⟨s1, e1, l1, k1⟩ := laws_szGrid_ok aG 1000000 (by omega) (by omega) h_aG
  simp only [e1, Option.bind_some, decide_eq_true_eq]
  by_cases hn1 : s1 < 0
  · simp [hn1]
  simp only [hn1, if_false]
  obtain ⟨q1, o_aG⟩ := k1 (by omega)
  obtain ⟨f0_aG, t_aG, i_aG⟩ := laws_toGrid_both aG o_aG
  obtain ⟨⟨w0, w1⟩, c1, c2, c3⟩ := CellsLeft_core aG o_aG
  have c4 := c3
  have c3_0 : Lm (Rg .i64) w0 := c3
  have eq_0 := laws_eqInt64S_self w0 (Nat.le_trans c3_0.1 (by omega))
  obtain ⟨m1, d1, x1, y1, z1, u1⟩ := laws_markGrid_ok aG o_aG 101 (by omega) (by omega)
  have kn : ¬ m1 < 0 := by omega
  obtain ⟨m2, d2, x2, y2, z2, u2⟩ := laws_markInt64S_ok w0 c3_0 101 (by omega) (by omega)
  have n2 : ¬ m2 < 0 := by omega
  simp [t_aG, i_aG, c1, c2, eq_0, x1, kn, x2, y2, n2]
end Go.Pl

/- The law FnExactCellsLeft: the program's function answers as the law says, for all arguments of a claim's bounds. -/
namespace Go.Proofs.Ytppfdipgaifhiaa.fnExactCellsLeft
open Go.ChangeShapes Go.WideShapes Go.ChangeAt Go.RowKit Go.Ev
set_option linter.unusedVariables false
theorem own : ownKnob Try.prog.godebug = none := by kernel_rfl
theorem posok : posB Go.Ev.Try.tab = true := by kernel_rfl
theorem laidOut : laidOutB Try.prog = true := by kernel_rfl
set_option maxRecDepth 100000 in
theorem lifted (os : Os) (started : os.Started) (H : Type) (enc : TypeId × Value → H) :
    ReturnsInHanded {} Try.checked os 3 .any (Rows.fnExactCellsLeftSpec.pre6 enc Try.prog Try.f3 Rows.fnExactCellsLeftRow.domain false) (Rows.fnExactCellsLeftSpec.post enc Try.prog Try.f3 false true false false) := by
  refine returnsInHanded_of_change_sized (C := Try.checked) own started (by kernel_rfl) Try.func3
    (ChangeSpec.witness6 (enc := enc) (C := Try.checked) false ⟨#[], #[.agg #[.int .i64 0, .int .i64 0, .slice none 0 0]], []⟩ 8 (by kernel_rfl) (by kernel_rfl) (by kernel_rfl) (by kernel_rfl)) ?_
  intro W base args ds gs before hval0 hW hcnd hsz0 _
  have hsz : (DataW.weightsEach Try.prog (Try.f3.params.toList ++ Rows.fnExactCellsLeftSpec.plain.varTypes Try.prog) (ds ++ gs)).all (· ≤ reachBytes) = true := hsz0
  have hval : ∀ (j : Nat) t v, Try.f3.params[j]? = some t → args[j]? = some v → Value.okWide Try.prog W .any base t v := hval0
  have hW' := hW
  obtain ⟨p, q, hA0, hV, rfl, hfz, hnd⟩ := hW
  have hA : DataW.TrodAll enc Try.prog W 0 (fun _ => true) true Try.f3.params.toList args.toList ds p := hA0
  rw [Try.params3] at hA hval hsz
  obtain ⟨rfl, rfl⟩ := trodVars_none hV
  have hcall := fun hl => law_row Go.Ev.Try.tabok posok Go.Ev.Try.laws_FnExactCellsLeft.good rfl (by kernel_rfl)
    (fun x hx => ⟨true, Go.Pl.FnExactCellsLeft_true x hx, rfl⟩) (ts := [24]) (by rfl) hA (fun j t v hj hv => hval j t v (by simpa using hj) hv) (.inr rfl) hsz hl
  obtain ⟨v0, vs0, d0, ds0, p0, q0, hargs0, rfl, rfl, h0, r0⟩ := trodAll_cons hA
  obtain ⟨rfl, rfl, rfl⟩ := trodAll_nil r0
  obtain rfl : args = #[v0] := by cases args; simp_all
  refine (hcall rfl).mono fun e W' ⟨he, bel⟩ => ?_
  subst he
  have hlt0 : ∀ x ∈ p0, x.block < W.heap.size := fun x hx => by simpa using hW'.lt x (by simp [hx])
  exact ⟨_, rfl, _, _, _, [], _, [], hW', trodAll_mk1 (shut_bool Try.underlying4 _), (trodAll_cons_mk (Below.trod laidOut (by kernel_rfl) (of_decide_eq_true (by kernel_rfl)) h0 bel hlt0) trodAll_mk0), rfl, bel.frame _, fun h => by cases h⟩
theorem over : Rows.fnExactCellsLeftRow.holds Try.pinned (OpenSpec.ofChange Rows.fnExactCellsLeftSpec) :=
  OpenClaim.holds_of_wide 3 Try.f3 rfl rfl rfl rfl rfl rfl rfl ⟨rfl, rfl, rfl, rfl, rfl⟩ rfl rfl rfl rfl rfl (by kernel_rfl) Try.func3 (by kernel_rfl)
    (of_decide_eq_true (by kernel_rfl)) (by unfold Func.isWrapper; first | (rw [if_pos (by decide +kernel)]; kernel_rfl) | (rw [if_neg (by decide +kernel)]; exact ⟨rfl, rfl⟩))
    (fun os started H enc _ => lifted os started H enc)
theorem proved : Rows.FnExactCellsLeftSaid := over
end Go.Proofs.Ytppfdipgaifhiaa.fnExactCellsLeft
namespace Go.Proofs.Ytppfdipgaifhiaa
theorem fnExactCellsLeft_holds : Rows.FnExactCellsLeftSaid := fnExactCellsLeft.proved
end Go.Proofs.Ytppfdipgaifhiaa
