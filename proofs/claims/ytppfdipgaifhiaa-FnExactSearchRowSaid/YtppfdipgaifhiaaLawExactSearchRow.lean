/- The law FnExactSearchRow, and what it stands on (the last part): the program answers as the law says, for all arguments of a claim's bounds. -/
import Derived.Test.YtppfdipgaifhiaaChecked
import Derived.Test.YtppfdipgaifhiaaProg
import Derived.Test.YtppfdipgaifhiaaRows
import Derived.Below
import Derived.Calls
import Derived.Carry
import Derived.ChangeArms
import Derived.ChangeOld
import Derived.Deep.Quiet
import Derived.KernelRfl
import Derived.Laws.Append
import Derived.Laws.BytesString
import Derived.Laws.MakeOwn
import Derived.Laws.Strings
import Derived.OpenShut
import Derived.OrdersHeld
import Derived.ProofKit
import Derived.ShutString
import Derived.SizedLaws
import Derived.Tactics
import Derived.WalkKit
import Derived.WideShapes
import Derived.Test.YtppfdipgaifhiaaEvExactSearchRow1
namespace Go.Pl
open Go.Ev
set_option linter.unusedVariables false
noncomputable section
def spec_NearestLeft.g9 (L9 : Int → Int → Int → Int → (Int × Int × List Bool) → List Int → Option (Int × Int × Int)) (x1 : Int) (y2 : Int) (best11 : Int) (i12 : Int) (g3 : Int × Int × List Bool) (left10 : List Int) : Option (Int × Int × Int) :=
  if (decide ((i12 : Int) < (left10.length : Int))) = true then
    if (0 : Int) ≤ i12 ∧ (i12 : Int) < left10.length then
      (spec_l31Far.f g3 (left10.getD (i12 : Int).toNat 0) (IntKind.i64.wrap ((IntKind.i64.wrap (y2 * g3.1)) + x1))).bind fun r3 =>
      (spec_l31Far.f g3 best11 (IntKind.i64.wrap ((IntKind.i64.wrap (y2 * g3.1)) + x1))).bind fun r4 =>
      if (decide ((r3 : Int) < r4)) = true then
        if (0 : Int) ≤ i12 ∧ (i12 : Int) < left10.length then
          L9 x1 y2 (left10.getD (i12 : Int).toNat 0) (IntKind.i64.wrap (i12 + 1)) g3 left10
        else
          none
      else
        L9 x1 y2 best11 (IntKind.i64.wrap (i12 + 1)) g3 left10
    else
      none
  else
    (spec_l31Far.f g3 best11 (IntKind.i64.wrap ((IntKind.i64.wrap (y2 * g3.1)) + x1))).bind fun r5 =>
    some (best11, r5, 0)
def spec_NearestLeft.l9 (n : Nat) : Nat → Int → Int → Int → Int → (Int × Int × List Bool) → List Int → Option (Int × Int × Int)
  | 0 => fun _ _ _ _ _ _ => none
  | k + 1 => spec_NearestLeft.g9 (spec_NearestLeft.l9 n k)
def spec_NearestLeft.top (I9 : Int → Int → Int → Int → (Int × Int × List Bool) → List Int → Option (Int × Int × Int)) (g0 : Int × Int × List Bool) (x1 : Int) (y2 : Int) : Option (Int × Int × Int) :=
  (spec_l31Code.f g0 x1 y2).bind fun r1 =>
  if ((r1 : Int) != 0) = true then
    some (0, 0, r1)
  else
    (spec_l31Left.f g0).bind fun r2 =>
    if (((r2.length : Int) : Int) == 0) = true then
      some (0, 0, 4)
    else if (0 : Int) ≤ 0 ∧ (0 : Int) < r2.length then
      I9 x1 y2 (r2.getD (0 : Int).toNat 0) 0 g0 r2
    else
      none
def spec_NearestLeft.fn (n : Nat) (g0 : Int × Int × List Bool) (x1 : Int) (y2 : Int) : Option (Int × Int × Int) := spec_NearestLeft.top (spec_NearestLeft.l9 n n) g0 x1 y2
def spec_NearestLeft.f (g0 : Int × Int × List Bool) (x1 : Int) (y2 : Int) : Option (Int × Int × Int) := spec_NearestLeft.fn NN g0 x1 y2
end
end Go.Pl

namespace Go.Pl
open Go.Ev
set_option linter.unusedVariables false
set_option linter.unusedSimpArgs false
/-- the nearest of some cells -/
def nearF (D : Int → Int) (b : Int) (r : List Int) : Int := r.foldl (fun b c => if D c < D b then c else b) b
theorem nearF_in (D : Int → Int) : ∀ (r : List Int) (b : Int), nearF D b r = b ∨ nearF D b r ∈ r := by
  intro r
  induction r with
  | nil => intro b; exact .inl rfl
  | cons c r ih =>
    intro b
    show nearF D (if D c < D b then c else b) r = b ∨ nearF D (if D c < D b then c else b) r ∈ c :: r
    rcases ih (if D c < D b then c else b) with h | h
    · rw [h]; split
      · right; simp
      · left; rfl
    · right; simp [h]
theorem nearF_snoc (D : Int → Int) (b : Int) (r : List Int) (c : Int) : nearF D b (r ++ [c]) = if D c < D (nearF D b r) then c else nearF D b r := by
  unfold nearF; rw [List.foldl_append]; rfl
def nearX (w : Int) (t : Int) : List Int → Int × Int × Int
  | [] => (0, 0, 4)
  | a :: r => (nearF (farD w · t) a r, farD w (nearF (farD w · t) a r) t, 0)
def nearStep (D : Int → Int) (st : Int × Int) (c : Int) : Int × Int := if st.2 < 0 then (c, D c) else if D c < st.2 then (c, D c) else st
theorem impl_near (w hh : Int) (s : List Bool) (x y t : Int) (ht : t = y * w + x) (hw : 1 ≤ w) (ht0 : 0 ≤ t) (ht1 : t ≤ 1000) (hy : IntKind.i64.wrap (y * w) = y * w) (hyx : IntKind.i64.wrap (y * w + x) = y * w + x) (xs : List Int) (hx : ∀ c ∈ xs, 0 ≤ c ∧ c ≤ 1000) (hl : xs.length ≤ 1000) :
    impl_NearestLeft.l7 NN NN x y 0 (-1) xs.length 0 (w, hh, s) xs = some (nearX w t xs) := by
  have hD : ∀ c, (0 ≤ c ∧ c ≤ 1000) → 0 ≤ farD w c t ∧ farD w c t ≤ 2000 := fun c hc => farD_bd hw hc.1 hc.2 ht0 ht1
  have := fold_fix (E := fun c => 0 ≤ c ∧ c ≤ 1000) (fun p st => (p = [] ∧ st = (0, -1)) ∨ ∃ a q, p = a :: q ∧ st = (nearF (farD w · t) a q, farD w (nearF (farD w · t) a q) t) ∧ 0 ≤ st.2) (fun _ => nearStep (farD w · t)) (fun st => if st.2 < 0 then some (0, 0, 4) else some (st.1, st.2, 0)) (fun k i st => impl_NearestLeft.l7 NN k x y st.1 st.2 xs.length i (w, hh, s) xs) xs ?_ ?_ (0, -1) hx (.inl ⟨rfl, rfl⟩) (by omega) NN (NN_lt (by omega))
  · obtain ⟨h1, h2⟩ := this
    refine h2.trans ?_
    rcases h1 with ⟨rfl, h⟩ | ⟨a, q, rfl, h, h3⟩
    · rw [h]; rfl
    · rw [if_neg (by omega), h]; rfl
  · intro k st _
    simp [impl_NearestLeft.l7, impl_NearestLeft.g7]
  · intro k p c r st hxs hc hI c0 c1 c2 cw g
    constructor
    · rcases hI with ⟨rfl, rfl⟩ | ⟨a, q, rfl, h, h3⟩
      · refine .inr ⟨c, [], rfl, rfl, ?_⟩
        exact (hD c hc).1
      · refine .inr ⟨a, q ++ [c], rfl, ?_, ?_⟩
        · rw [nearF_snoc]
          unfold nearStep
          rw [if_neg (by omega), h]
          simp only
          split <;> rfl
        · unfold nearStep
          rw [if_neg (by omega)]
          split
          · exact (hD c hc).1
          · exact h3
    · simp only [impl_NearestLeft.l7, impl_NearestLeft.g7, c0, c1, cw, and_self, and_true, true_and, decide_true, decide_false, if_true, if_false, mid_get, mid_set, mid_getn, mid_setn, bt_mid, Option.bind_some, Bool.not_true, Bool.not_false, Bool.false_eq_true, Bool.true_eq_false, beq_self_eq_true, bne_self_eq_false, Int.toNat_natCast, g, hy, hyx]
      rw [impl_distanceOf_f _ _ _ hw hc.1 hc.2 (by omega) (by omega), ← ht]
      unfold nearStep
      simp only [Option.bind_some, decide_eq_true_eq, decide_eq_false_iff_not]
      by_cases h1 : st.2 < 0
      · simp [h1]
      · by_cases h2 : farD w c t < st.2
        · simp [h1, h2]
        · simp [h1, h2]
theorem spec_near (w hh : Int) (s : List Bool) (x y t : Int) (ht : t = y * w + x) (hw : 1 ≤ w) (ht0 : 0 ≤ t) (ht1 : t ≤ 1000) (hy : IntKind.i64.wrap (y * w) = y * w) (hyx : IntKind.i64.wrap (y * w + x) = y * w + x) (a : Int) (r : List Int) (hx : ∀ c ∈ a :: r, 0 ≤ c ∧ c ≤ 1000) (hl : (a :: r).length ≤ 1000) :
    spec_NearestLeft.l9 NN NN x y a 0 (w, hh, s) (a :: r) = some (nearF (farD w · t) a r, farD w (nearF (farD w · t) a r) t, 0) := by
  have hin : ∀ (q : List Int), (∀ c ∈ q, 0 ≤ c ∧ c ≤ 1000) → 0 ≤ nearF (farD w · t) a q ∧ nearF (farD w · t) a q ≤ 1000 := fun q hq => by
    rcases nearF_in (farD w · t) q a with h | h
    · rw [h]; exact hx a (by simp)
    · exact hq _ h
  have := fold_fix (E := fun c => 0 ≤ c ∧ c ≤ 1000) (fun p st => st = nearF (farD w · t) a p ∧ ∀ c ∈ p, 0 ≤ c ∧ c ≤ 1000) (fun _ b c => if farD w c t < farD w b t then c else b) (fun st => some (st, farD w st t, 0)) (fun k i st => spec_NearestLeft.l9 NN k x y st i (w, hh, s) (a :: r)) (a :: r) ?_ ?_ a hx ⟨rfl, by simp⟩ (by omega) NN (NN_lt (by omega))
  · obtain ⟨⟨h1, _⟩, h2⟩ := this
    rw [h1] at h2
    refine h2.trans ?_
    have : nearF (farD w · t) a (a :: r) = nearF (farD w · t) a r := by
      show nearF _ (if farD w a t < farD w a t then a else a) r = _
      simp
    rw [this]
  · intro k st hI
    obtain ⟨rfl, hp⟩ := hI
    have := hin _ hp
    simp only [spec_NearestLeft.l9, spec_NearestLeft.g9]
    rw [if_neg (by simp), hy, hyx, spec_l31Far_f _ _ _ hw this.1 this.2 (by omega) (by omega), ← ht]
    rfl
  · intro k p c r' st hxs hc hI c0 c1 c2 cw g
    obtain ⟨rfl, hp⟩ := hI
    have hb := hin _ hp
    refine ⟨⟨(nearF_snoc (farD w · t) a p c).symm, fun d hd => ?_⟩, ?_⟩
    · rcases List.mem_append.1 hd with h | h
      · exact hp d h
      · rw [List.mem_singleton.1 h]; exact hc
    · simp only [spec_NearestLeft.l9, spec_NearestLeft.g9, c0, c1, cw, and_self, and_true, true_and, decide_true, decide_false, if_true, if_false, mid_get, mid_set, mid_getn, mid_setn, bt_mid, Option.bind_some, Bool.not_true, Bool.not_false, Bool.false_eq_true, Bool.true_eq_false, beq_self_eq_true, bne_self_eq_false, Int.toNat_natCast, g, hy, hyx]
      rw [spec_l31Far_f _ _ _ hw hc.1 hc.2 (by omega) (by omega), spec_l31Far_f _ _ _ hw hb.1 hb.2 (by omega) (by omega), ← ht]
      simp only [Option.bind_some, decide_eq_true_eq]
      by_cases h2 : farD w c t < farD w (nearF (farD w · t) a p) t
      · simp [h2]
      · simp [h2]
theorem cell_at {g : Int × Int × List Bool} {x y : Int} (h : gridB g = true) (hc : cellB g x y = true) : 0 ≤ x ∧ x < g.1 ∧ 0 ≤ y ∧ y < g.2.1 ∧ 0 ≤ y * g.1 ∧ y * g.1 + x < (g.2.2.length : Int) ∧ (g.2.2.length : Int) ≤ 144 := by
  have hg := gridB_iff.1 h
  unfold cellB at hc
  simp only [Bool.and_eq_true, inB_iff] at hc
  have h3 := mul_le144 hg.1 hg.2.1 hg.2.2.1 hg.2.2.2.1
  have h4 : 0 ≤ y * g.1 := Int.mul_nonneg (by omega) (by omega)
  have h5 : y * g.1 ≤ (g.2.1 - 1) * g.1 := Int.mul_le_mul_of_nonneg_right (by omega) (by omega)
  have h6 : (g.2.1 - 1) * g.1 = g.1 * g.2.1 - g.1 := by rw [Int.sub_mul, Int.mul_comm]; omega
  omega
theorem NearestLeft_core (g : Int × Int × List Bool) (x y : Int) (h : OkGrid g) (_ : Rg .i64 x) (_ : Rg .i64 y) : ∃ w, spec_NearestLeft.f g x y = some w ∧ impl_NearestLeft.f g x y = some w ∧ True := by
  obtain ⟨w, hh, s⟩ := g
  refine ⟨if gridB (w, hh, s) = true then (if cellB (w, hh, s) x y = true then nearX w (y * w + x) (cellsL s) else (0, 0, 2)) else (0, 0, 1), ?_, ?_, trivial⟩
  · unfold spec_NearestLeft.f spec_NearestLeft.fn spec_NearestLeft.top
    rw [spec_l31Code_f]
    unfold codeG
    cases hg : gridB (w, hh, s)
    · rfl
    cases hc : cellB (w, hh, s) x y
    · rfl
    have hgb := gridB_iff.1 hg
    have hca := cell_at hg hc
    simp only at hca hgb
    have hs := @cellsL_in s
    rw [spec_l31Left_f _ (by simp only; omega)]
    simp only [and_self, and_true, true_and, decide_true, decide_false, if_true, if_false, mid_get, mid_set, mid_getn, mid_setn, bt_mid, Option.bind_some, Bool.not_true, Bool.not_false, Bool.false_eq_true, Bool.true_eq_false, beq_self_eq_true, bne_self_eq_false, Int.toNat_natCast, bne_self_eq_false]
    cases he : cellsL s with
    | nil => simp [nearX]
    | cons a r =>
      rw [he] at hs
      have e0 : ((((a :: r).length : Int)) == 0) = false := by simp; omega
      have e1 : (0 : Int) < ((a :: r).length : Int) := by simp only [List.length_cons]; omega
      have := spec_near w hh s x y (y * w + x) rfl hgb.1 (by omega) (by omega) (w64 (by omega) (by omega)) (w64 (by omega) (by omega)) a r (fun c hc => by have := hs.2 c hc; omega) (by omega)
      simp only [e0, e1, and_self, and_true, true_and, decide_true, decide_false, if_true, if_false, mid_get, mid_set, mid_getn, mid_setn, bt_mid, Option.bind_some, Bool.not_true, Bool.not_false, Bool.false_eq_true, Bool.true_eq_false, beq_self_eq_true, bne_self_eq_false, Int.toNat_natCast, Int.le_refl]
      exact this
  · unfold impl_NearestLeft.f impl_NearestLeft.fn impl_NearestLeft.top
    rw [impl_IsGrid_f]
    cases hg : gridB (w, hh, s)
    · rfl
    simp only [and_self, and_true, true_and, decide_true, decide_false, if_true, if_false, mid_get, mid_set, mid_getn, mid_setn, bt_mid, Option.bind_some, Bool.not_true, Bool.not_false, Bool.false_eq_true, Bool.true_eq_false, beq_self_eq_true, bne_self_eq_false, Int.toNat_natCast]
    rw [impl_isCell_f _ _ _ hg]
    cases hc : cellB (w, hh, s) x y
    · rfl
    have hgb := gridB_iff.1 hg
    have hca := cell_at hg hc
    simp only at hca hgb
    have hs := @cellsL_in s
    simp only [and_self, and_true, true_and, decide_true, decide_false, if_true, if_false, mid_get, mid_set, mid_getn, mid_setn, bt_mid, Option.bind_some, Bool.not_true, Bool.not_false, Bool.false_eq_true, Bool.true_eq_false, beq_self_eq_true, bne_self_eq_false, Int.toNat_natCast]
    rw [impl_cellsLeft_f _ (by simp only; omega)]
    simp only [and_self, and_true, true_and, decide_true, decide_false, if_true, if_false, mid_get, mid_set, mid_getn, mid_setn, bt_mid, Option.bind_some, Bool.not_true, Bool.not_false, Bool.false_eq_true, Bool.true_eq_false, beq_self_eq_true, bne_self_eq_false, Int.toNat_natCast]
    have := impl_near w hh s x y (y * w + x) rfl hgb.1 (by omega) (by omega) (w64 (by omega) (by omega)) (w64 (by omega) (by omega)) (cellsL s) (fun c hc => by have := hs.2 c hc; omega) (by omega)
    rw [this]
end Go.Pl

namespace Go.Pl
open Go.Ev
set_option linter.unusedVariables false
noncomputable section
def impl_isDay.top (day0 : Int) : Option Bool :=
  (impl_within.f day0 0 100000).bind fun r1 =>
  some r1
def impl_isDay.fn (n : Nat) (day0 : Int) : Option Bool := impl_isDay.top day0
def impl_isDay.f (day0 : Int) : Option Bool := impl_isDay.fn NN day0
end
end Go.Pl

namespace Go.Pl
open Go.Ev
set_option linter.unusedVariables false
noncomputable section
def impl_isCalibre.top (n0 : Int) : Option Bool :=
  (impl_within.f n0 20 300).bind fun r1 =>
  some r1
def impl_isCalibre.fn (n : Nat) (n0 : Int) : Option Bool := impl_isCalibre.top n0
def impl_isCalibre.f (n0 : Int) : Option Bool := impl_isCalibre.fn NN n0
end
end Go.Pl

namespace Go.Pl
open Go.Ev
set_option linter.unusedVariables false
noncomputable section
def impl_allWithin.g2 (L2 : Int → Int → List Int → Int → Int → Option Bool) (low1 : Int) (high2 : Int) (v9 : List Int) (v10 : Int) (v11 : Int) : Option Bool :=
  if (decide ((v11 : Int) < v10)) = true then
    if (0 : Int) ≤ v11 ∧ (v11 : Int) < v9.length then
      (impl_within.f (v9.getD (v11 : Int).toNat 0) low1 high2).bind fun r1 =>
      if (!r1) = true then
        some false
      else
        L2 low1 high2 v9 v10 (IntKind.i64.wrap (v11 + 1))
    else
      none
  else
    some true
def impl_allWithin.l2 (n : Nat) : Nat → Int → Int → List Int → Int → Int → Option Bool
  | 0 => fun _ _ _ _ _ => none
  | k + 1 => impl_allWithin.g2 (impl_allWithin.l2 n k)
def impl_allWithin.top (I2 : Int → Int → List Int → Int → Int → Option Bool) (list0 : List Int) (low1 : Int) (high2 : Int) : Option Bool :=
  I2 low1 high2 list0 (list0.length : Int) 0
def impl_allWithin.fn (n : Nat) (list0 : List Int) (low1 : Int) (high2 : Int) : Option Bool := impl_allWithin.top (impl_allWithin.l2 n n) list0 low1 high2
def impl_allWithin.f (list0 : List Int) (low1 : Int) (high2 : Int) : Option Bool := impl_allWithin.fn NN list0 low1 high2
end
end Go.Pl

namespace Go.Pl
open Go.Ev
set_option linter.unusedVariables false
noncomputable section
def impl_IsPermit.g4 (L4 : Int → (Int × Int × Int × Int × List Int × Int) → Option Bool) (i3 : Int) (p1 : Int × Int × Int × Int × List Int × Int) : Option Bool :=
  if (decide ((i3 : Int) < (p1.2.2.2.2.1.length : Int))) = true then
    if (0 : Int) ≤ (IntKind.i64.wrap (i3 - 1)) ∧ ((IntKind.i64.wrap (i3 - 1)) : Int) < p1.2.2.2.2.1.length then
      if (0 : Int) ≤ i3 ∧ (i3 : Int) < p1.2.2.2.2.1.length then
        if (decide (((p1.2.2.2.2.1.getD (i3 : Int).toNat 0) : Int) ≤ (p1.2.2.2.2.1.getD ((IntKind.i64.wrap (i3 - 1)) : Int).toNat 0))) = true then
          some false
        else
          L4 (IntKind.i64.wrap (i3 + 1)) p1
      else
        none
    else
      none
  else
    some true
def impl_IsPermit.l4 (n : Nat) : Nat → Int → (Int × Int × Int × Int × List Int × Int) → Option Bool
  | 0 => fun _ _ => none
  | k + 1 => impl_IsPermit.g4 (impl_IsPermit.l4 n k)
def impl_IsPermit.top (I4 : Int → (Int × Int × Int × Int × List Int × Int) → Option Bool) (p0 : Int × Int × Int × Int × List Int × Int) : Option Bool :=
  (impl_isDay.f p0.1).bind fun r1 =>
  if (!r1) = false then
    (impl_isDay.f p0.2.1).bind fun r2 =>
    if (!r2) = false then
      if (decide ((p0.2.1 : Int) < p0.1)) = false then
        (impl_within.f p0.2.2.1 0 1000000000).bind fun r3 =>
        if (!r3) = false then
          (impl_isCalibre.f p0.2.2.2.1).bind fun r4 =>
          if (!r4) = false then
            (impl_within.f p0.2.2.2.2.2 0 3).bind fun r5 =>
            if (!r5) = false then
              (impl_allWithin.f p0.2.2.2.2.1 0 3).bind fun r6 =>
              if (!r6) = true then
                some false
              else
                I4 1 p0
            else
              some false
          else
            some false
        else
          some false
      else
        some false
    else
      some false
  else
    some false
def impl_IsPermit.fn (n : Nat) (p0 : Int × Int × Int × Int × List Int × Int) : Option Bool := impl_IsPermit.top (impl_IsPermit.l4 n n) p0
def impl_IsPermit.f (p0 : Int × Int × Int × Int × List Int × Int) : Option Bool := impl_IsPermit.fn NN p0
end
end Go.Pl

namespace Go.Pl
open Go.Ev
set_option linter.unusedVariables false
noncomputable section
def spec_l01Rises.g2 (L2 : List Int → Int → Int → Option Bool) (list0 : List Int) (n1 : Int) (i5 : Int) : Option Bool :=
  if (decide ((i5 : Int) < (list0.length : Int))) = true then
    if (0 : Int) ≤ i5 ∧ (i5 : Int) < list0.length then
      (spec_l01In.f (list0.getD (i5 : Int).toNat 0) 0 (IntKind.i64.wrap (n1 - 1))).bind fun r1 =>
      if (!r1) = false then
        if (decide ((0 : Int) < i5)) = true then
          if (0 : Int) ≤ i5 ∧ (i5 : Int) < list0.length then
            if (0 : Int) ≤ (IntKind.i64.wrap (i5 - 1)) ∧ ((IntKind.i64.wrap (i5 - 1)) : Int) < list0.length then
              if (decide (((list0.getD (i5 : Int).toNat 0) : Int) ≤ (list0.getD ((IntKind.i64.wrap (i5 - 1)) : Int).toNat 0))) = true then
                some false
              else
                L2 list0 n1 (IntKind.i64.wrap (i5 + 1))
            else
              none
          else
            none
        else
          L2 list0 n1 (IntKind.i64.wrap (i5 + 1))
      else
        some false
    else
      none
  else
    some true
def spec_l01Rises.l2 (n : Nat) : Nat → List Int → Int → Int → Option Bool
  | 0 => fun _ _ _ => none
  | k + 1 => spec_l01Rises.g2 (spec_l01Rises.l2 n k)
def spec_l01Rises.top (I2 : List Int → Int → Int → Option Bool) (list0 : List Int) (n1 : Int) : Option Bool :=
  I2 list0 n1 0
def spec_l01Rises.fn (n : Nat) (list0 : List Int) (n1 : Int) : Option Bool := spec_l01Rises.top (spec_l01Rises.l2 n n) list0 n1
def spec_l01Rises.f (list0 : List Int) (n1 : Int) : Option Bool := spec_l01Rises.fn NN list0 n1
end
end Go.Pl

namespace Go.Pl
open Go.Ev
set_option linter.unusedVariables false
noncomputable section
def spec_IsPermit.top (p0 : Int × Int × Int × Int × List Int × Int) : Option Bool :=
  (spec_l01In.f p0.1 0 100000).bind fun r1 =>
  if r1 = true then
    (spec_l01In.f p0.2.1 p0.1 100000).bind fun r2 =>
    if r2 = true then
      (spec_l01In.f p0.2.2.1 0 1000000000).bind fun r3 =>
      if r3 = true then
        (spec_l01In.f p0.2.2.2.1 20 300).bind fun r4 =>
        if r4 = true then
          (spec_l01Rises.f p0.2.2.2.2.1 4).bind fun r5 =>
          if r5 = true then
            (spec_l01In.f p0.2.2.2.2.2 0 3).bind fun r6 =>
            some r6
          else
            some false
        else
          some false
      else
        some false
    else
      some false
  else
    some false
def spec_IsPermit.fn (n : Nat) (p0 : Int × Int × Int × Int × List Int × Int) : Option Bool := spec_IsPermit.top p0
def spec_IsPermit.f (p0 : Int × Int × Int × Int × List Int × Int) : Option Bool := spec_IsPermit.fn NN p0
end
end Go.Pl

namespace Go.Pl
open Go.Ev
set_option linter.unusedVariables false
set_option linter.unusedSimpArgs false
theorem impl_isDay_f (n : Int) : impl_isDay.f n = some (inB n 0 100000) := by
  unfold impl_isDay.f impl_isDay.fn impl_isDay.top
  rw [impl_within_f]; rfl
theorem impl_isCalibre_f (n : Int) : impl_isCalibre.f n = some (inB n 20 300) := by
  unfold impl_isCalibre.f impl_isCalibre.fn impl_isCalibre.top
  rw [impl_within_f]; rfl
theorem impl_allWithin_f (xs : List Int) (lo hi : Int) (h : xs.length ≤ 140737488355328) : impl_allWithin.f xs lo hi = some (xs.all (inB · lo hi)) := by
  have := all_loop (E := fun _ => True) (inB · lo hi) (fun _ => some true) (fun k xs i => impl_allWithin.l2 NN k lo hi xs xs.length i) ?_ ?_ xs (fun _ _ => trivial) h NN (NN_lt (by omega))
  · unfold impl_allWithin.f impl_allWithin.fn impl_allWithin.top
    refine this.trans ?_
    cases xs.all (inB · lo hi) <;> simp
  · intro k p
    simp [impl_allWithin.l2, impl_allWithin.g2]
  · intro k p a r _ c0 c1 cw
    simp only [impl_allWithin.l2, impl_allWithin.g2, c0, c1, cw, and_self, and_true, true_and, decide_true, decide_false, if_true, if_false, mid_get, mid_set, mid_getn, mid_setn, bt_mid, Option.bind_some, Bool.not_true, Bool.not_false, Bool.false_eq_true, Bool.true_eq_false, beq_self_eq_true, bne_self_eq_false, Int.toNat_natCast, impl_within_f]
    cases inB a lo hi <;> simp
/-- strictly rising -/
def risB : List Int → Bool
  | [] => true
  | [_] => true
  | a :: b :: r => decide (a < b) && risB (b :: r)
theorem risB_snoc : ∀ (p : List Int) (a b : Int), risB (p ++ [a, b]) = (risB (p ++ [a]) && decide (a < b)) := by
  intro p
  induction p with
  | nil => intro a b; simp [risB]
  | cons x p ih =>
    intro a b
    cases p with
    | nil => simp [risB]
    | cons y p =>
      have := ih a b
      simp only [List.cons_append] at this ⊢
      simp only [risB, this, Bool.and_assoc]
/-- rises, looked at from its second element on -/
def risF : Int → List Int → Bool
  | _, [] => true
  | a, b :: r => decide (a < b) && risF b r
theorem risB_cons (a : Int) (r : List Int) : risB (a :: r) = risF a r := by
  induction r generalizing a with
  | nil => rfl
  | cons b r ih => simp only [risB, risF, ih]
theorem snoc_getl (p r : List Int) (x a z : Int) : (p ++ [x] ++ a :: r).getD p.length z = x := by simp
theorem impl_IsPermit_loop (f t n c g : Int) : ∀ (r p : List Int) (x : Int) (k : Nat), p.length + r.length + 1 ≤ 140737488355328 → r.length < k →
    impl_IsPermit.l4 NN k ((p.length : Int) + 1) (f, t, n, c, p ++ [x] ++ r, g) = some (risF x r) := by
  intro r
  induction r with
  | nil =>
    intro p x k _ hk
    obtain ⟨k, rfl⟩ : ∃ j, k = j + 1 := ⟨k - 1, by omega⟩
    simp [impl_IsPermit.l4, impl_IsPermit.g4, risF]
  | cons a r ih =>
    intro p x k hb hk
    simp only [List.length_cons] at hb hk
    obtain ⟨k, rfl⟩ : ∃ j, k = j + 1 := ⟨k - 1, by omega⟩
    have hl : ((p ++ [x] ++ a :: r).length : Int) = p.length + r.length + 2 := by simp; omega
    have w1 := w64 (n := (p.length : Int) + 1 - 1) (by omega) (by omega)
    have w2 := w64 (n := (p.length : Int) + 1 + 1) (by omega) (by omega)
    have c1 : (p.length : Int) + 1 < ((p ++ [x] ++ a :: r).length : Int) := by omega
    have c2 : (0 : Int) ≤ (p.length : Int) + 1 - 1 := by omega
    have c3 : (p.length : Int) + 1 - 1 < ((p ++ [x] ++ a :: r).length : Int) := by omega
    have c4 : (0 : Int) ≤ (p.length : Int) + 1 := by omega
    have g1 : (p ++ [x] ++ a :: r).getD ((p.length : Int) + 1).toNat 0 = a := by
      rw [show ((p.length : Int) + 1).toNat = (p ++ [x]).length by simp, mid_getn]
    have g2 : (p ++ [x] ++ a :: r).getD ((p.length : Int) + 1 - 1).toNat 0 = x := by
      rw [show ((p.length : Int) + 1 - 1).toNat = p.length by omega, snoc_getl]
    simp only [impl_IsPermit.l4, impl_IsPermit.g4, w1, w2, c1, c2, c3, c4, g1, g2, and_self, decide_true, if_true, decide_eq_true_eq, risF]
    have := ih (p ++ [x]) a k (by simp; omega) (by omega)
    by_cases h : a ≤ x
    · have h' : ¬ x < a := by omega
      simp [h, h']
    · have h' : x < a := by omega
      simp only [h, h', if_false, decide_true, Bool.true_and]
      rw [← this]
      simp
theorem spec_l01Rises_loop (n : Int) (hn : Rg .i64 (n - 1)) : ∀ (r p : List Int) (x : Int) (k : Nat), p.length + r.length + 1 ≤ 140737488355328 → r.length < k →
    spec_l01Rises.l2 NN k (p ++ [x] ++ r) n ((p.length : Int) + 1) = some (r.all (inB · 0 (n - 1)) && risF x r) := by
  intro r
  induction r with
  | nil =>
    intro p x k _ hk
    obtain ⟨k, rfl⟩ : ∃ j, k = j + 1 := ⟨k - 1, by omega⟩
    simp [spec_l01Rises.l2, spec_l01Rises.g2, risF]
  | cons a r ih =>
    intro p x k hb hk
    simp only [List.length_cons] at hb hk
    obtain ⟨k, rfl⟩ : ∃ j, k = j + 1 := ⟨k - 1, by omega⟩
    have hl : ((p ++ [x] ++ a :: r).length : Int) = p.length + r.length + 2 := by simp; omega
    have w1 := w64 (n := (p.length : Int) + 1 - 1) (by omega) (by omega)
    have w2 := w64 (n := (p.length : Int) + 1 + 1) (by omega) (by omega)
    have hn' := wf64.1 hn
    have w3 := w64 (n := n - 1) (by omega) (by omega)
    have c1 : (p.length : Int) + 1 < ((p ++ [x] ++ a :: r).length : Int) := by omega
    have c2 : (0 : Int) ≤ (p.length : Int) + 1 - 1 := by omega
    have c3 : (p.length : Int) + 1 - 1 < ((p ++ [x] ++ a :: r).length : Int) := by omega
    have c4 : (0 : Int) ≤ (p.length : Int) + 1 := by omega
    have c5 : (0 : Int) < (p.length : Int) + 1 := by omega
    have g1 : (p ++ [x] ++ a :: r).getD ((p.length : Int) + 1).toNat 0 = a := by
      rw [show ((p.length : Int) + 1).toNat = (p ++ [x]).length by simp, mid_getn]
    have g2 : (p ++ [x] ++ a :: r).getD ((p.length : Int) + 1 - 1).toNat 0 = x := by
      rw [show ((p.length : Int) + 1 - 1).toNat = p.length by omega, snoc_getl]
    simp only [spec_l01Rises.l2, spec_l01Rises.g2, w1, w2, w3, c1, c2, c3, c4, c5, g1, g2, and_self, decide_true, if_true, decide_eq_true_eq, risF, spec_l01In_f, Option.bind_some, List.all_cons]
    have := ih (p ++ [x]) a k (by simp; omega) (by omega)
    cases h0 : inB a 0 (n - 1)
    · simp
    by_cases h : a ≤ x
    · have h' : ¬ x < a := by omega
      simp [h, h']
    · have h' : x < a := by omega
      simp only [h, h', if_false, decide_true, Bool.true_and, Bool.not_true, if_true]
      rw [← this]
      simp
theorem spec_l01Rises_f (xs : List Int) (n : Int) (hn : Rg .i64 (n - 1)) (h : xs.length ≤ 140737488355328) : spec_l01Rises.f xs n = some (xs.all (inB · 0 (n - 1)) && risB xs) := by
  unfold spec_l01Rises.f spec_l01Rises.fn spec_l01Rises.top
  obtain ⟨k, hk⟩ : ∃ j, NN = j + 1 := ⟨NN - 1, by have := NNb; omega⟩
  have hkb : 1000000000000000 < k := by rw [NN_eq] at hk; omega
  cases xs with
  | nil => rw [show spec_l01Rises.l2 NN NN = spec_l01Rises.l2 NN (k + 1) by rw [← hk]]; simp [spec_l01Rises.l2, spec_l01Rises.g2, risB]
  | cons a r =>
    simp only [List.length_cons] at h
    have hl := spec_l01Rises_loop n hn r [] a k (by simp; omega) (by omega)
    have hn' := wf64.1 hn
    have w3 := w64 (n := n - 1) (by omega) (by omega)
    have w1 := w64 (n := 0 + 1) (by omega) (by omega)
    have c1 : (0 : Int) < ((a :: r).length : Int) := by simp only [List.length_cons]; omega
    rw [show spec_l01Rises.l2 NN NN = spec_l01Rises.l2 NN (k + 1) by rw [← hk]]
    simp only [spec_l01Rises.l2, spec_l01Rises.g2, c1, w1, w3, spec_l01In_f]
    simp at hl
    simp [risB_cons, hl]
    cases inB a 0 (n - 1) <;> simp
def permB (p : Int × Int × Int × Int × List Int × Int) : Bool :=
  inB p.1 0 100000 && inB p.2.1 p.1 100000 && inB p.2.2.1 0 1000000000 && inB p.2.2.2.1 20 300 && (p.2.2.2.2.1.all (inB · 0 3) && risB p.2.2.2.2.1) && inB p.2.2.2.2.2 0 3
theorem spec_IsPermit_f (p : Int × Int × Int × Int × List Int × Int) (h : p.2.2.2.2.1.length ≤ 140737488355328) : spec_IsPermit.f p = some (permB p) := by
  unfold spec_IsPermit.f spec_IsPermit.fn spec_IsPermit.top permB
  simp only [spec_l01In_f, spec_l01Rises_f _ 4 (wf64.2 (by omega)) h, Option.bind_some, show (4 : Int) - 1 = 3 from rfl]
  cases inB p.1 0 100000 <;> cases inB p.2.1 p.1 100000 <;> cases inB p.2.2.1 0 1000000000 <;> cases inB p.2.2.2.1 20 300 <;> cases (p.2.2.2.2.1.all (inB · 0 3)) <;> cases risB p.2.2.2.2.1 <;> cases inB p.2.2.2.2.2 0 3 <;> rfl
theorem impl_IsPermit_f (p : Int × Int × Int × Int × List Int × Int) (h : p.2.2.2.2.1.length ≤ 140737488355328) : impl_IsPermit.f p = some (permB p) := by
  unfold impl_IsPermit.f impl_IsPermit.fn impl_IsPermit.top permB
  obtain ⟨f, t, n, c, ks, g⟩ := p
  simp only at h
  have hl : impl_IsPermit.l4 NN NN 1 (f, t, n, c, ks, g) = some (risB ks) := by
    cases ks with
    | nil =>
      obtain ⟨k, hk⟩ : ∃ j, NN = j + 1 := ⟨NN - 1, by have := NNb; omega⟩
      rw [show impl_IsPermit.l4 NN NN = impl_IsPermit.l4 NN (k + 1) by rw [← hk]]
      simp [impl_IsPermit.l4, impl_IsPermit.g4, risB]
    | cons a r =>
      simp only [List.length_cons] at h
      have := impl_IsPermit_loop f t n c g r [] a NN (by simp; omega) (NN_lt (by omega))
      simp at this
      rw [risB_cons, ← this]
  simp only [impl_isDay_f, impl_isCalibre_f, impl_within_f, impl_allWithin_f _ _ _ h, Option.bind_some, hl]
  have e : (inB f 0 100000 && inB t f 100000) = (inB f 0 100000 && inB t 0 100000 && !decide (t < f)) := by
    unfold inB
    by_cases h1 : 0 ≤ f <;> by_cases h2 : f ≤ 100000 <;> by_cases h3 : t ≤ 100000 <;> by_cases h4 : f ≤ t <;> by_cases h5 : 0 ≤ t <;> simp [h1, h2, h3, h4, h5] <;> omega
  rw [e]
  cases inB f 0 100000 <;> cases inB t 0 100000 <;> cases decide (t < f) <;> cases inB n 0 1000000000 <;> cases inB c 20 300 <;> cases (ks.all (inB · 0 3)) <;> cases inB g 0 3 <;> simp
theorem IsPermit_core (p : Int × Int × Int × Int × List Int × Int) (h : OkPermit p) : ∃ w, spec_IsPermit.f p = some w ∧ impl_IsPermit.f p = some w ∧ True :=
  have h1 : p.2.2.2.2.1.length ≤ 140737488355328 := Nat.le_trans h.2.2.2.2.1.1 (by omega)
  ⟨_, spec_IsPermit_f p h1, impl_IsPermit_f p h1, trivial⟩
end Go.Pl

namespace Go.Pl
open Go.Ev
set_option linter.unusedVariables false
noncomputable section
def impl_CellsLeft.top (g0 : Int × Int × List Bool) : Option (List Int × Int) :=
  (impl_IsGrid.f g0).bind fun r1 =>
  if (!r1) = true then
    some ([], 1)
  else
    (impl_cellsLeft.f g0).bind fun r2 =>
    some (r2, 0)
def impl_CellsLeft.fn (n : Nat) (g0 : Int × Int × List Bool) : Option (List Int × Int) := impl_CellsLeft.top g0
def impl_CellsLeft.f (g0 : Int × Int × List Bool) : Option (List Int × Int) := impl_CellsLeft.fn NN g0
end
end Go.Pl

namespace Go.Pl
open Go.Ev
set_option linter.unusedVariables false
noncomputable section
def spec_CellsLeft.top (g0 : Int × Int × List Bool) : Option (List Int × Int) :=
  (spec_l31Code.f g0 0 0).bind fun r1 =>
  if ((r1 : Int) != 0) = true then
    some ([], r1)
  else
    (spec_l31Left.f g0).bind fun r2 =>
    some (r2, 0)
def spec_CellsLeft.fn (n : Nat) (g0 : Int × Int × List Bool) : Option (List Int × Int) := spec_CellsLeft.top g0
def spec_CellsLeft.f (g0 : Int × Int × List Bool) : Option (List Int × Int) := spec_CellsLeft.fn NN g0
end
end Go.Pl

namespace Go.Pl
open Go.Ev
set_option linter.unusedVariables false
noncomputable section
def impl_areCells.top (g0 : Int × Int × List Bool) (cells1 : List Int) : Option Bool :=
  if (decide (((cells1.length : Int) : Int) ≤ 200)) = true then
    (impl_allWithin.f cells1 0 (IntKind.i64.wrap ((IntKind.i64.wrap (g0.1 * g0.2.1)) - 1))).bind fun r1 =>
    some r1
  else
    some false
def impl_areCells.fn (n : Nat) (g0 : Int × Int × List Bool) (cells1 : List Int) : Option Bool := impl_areCells.top g0 cells1
def impl_areCells.f (g0 : Int × Int × List Bool) (cells1 : List Int) : Option Bool := impl_areCells.fn NN g0 cells1
end
end Go.Pl

namespace Go.Pl
open Go.Ev
set_option linter.unusedVariables false
noncomputable section
def spec_l31Cells.g4 (L4 : List Int → Int → (Int × Int × List Bool) → Option Int) (cells1 : List Int) (i5 : Int) (g2 : Int × Int × List Bool) : Option Int :=
  if (decide ((i5 : Int) < (cells1.length : Int))) = true then
    if (0 : Int) ≤ i5 ∧ (i5 : Int) < cells1.length then
      (spec_l01In.f (cells1.getD (i5 : Int).toNat 0) 0 (IntKind.i64.wrap ((IntKind.i64.wrap (g2.1 * g2.2.1)) - 1))).bind fun r2 =>
      if (!r2) = true then
        some 2
      else
        L4 cells1 (IntKind.i64.wrap (i5 + 1)) g2
    else
      none
  else if (decide ((200 : Int) < (cells1.length : Int))) = true then
    some 2
  else
    some 0
def spec_l31Cells.l4 (n : Nat) : Nat → List Int → Int → (Int × Int × List Bool) → Option Int
  | 0 => fun _ _ _ => none
  | k + 1 => spec_l31Cells.g4 (spec_l31Cells.l4 n k)
def spec_l31Cells.top (I4 : List Int → Int → (Int × Int × List Bool) → Option Int) (g0 : Int × Int × List Bool) (cells1 : List Int) : Option Int :=
  (spec_IsGrid.f g0).bind fun r1 =>
  if (!r1) = true then
    some 1
  else
    I4 cells1 0 g0
def spec_l31Cells.fn (n : Nat) (g0 : Int × Int × List Bool) (cells1 : List Int) : Option Int := spec_l31Cells.top (spec_l31Cells.l4 n n) g0 cells1
def spec_l31Cells.f (g0 : Int × Int × List Bool) (cells1 : List Int) : Option Int := spec_l31Cells.fn NN g0 cells1
end
end Go.Pl

namespace Go.Pl
open Go.Ev
set_option linter.unusedVariables false
set_option linter.unusedSimpArgs false
theorem small_rg {xs : List Int} {n : Nat} (h : xs.length ≤ 1000000) (h2 : ∀ c ∈ xs, 0 ≤ c ∧ c ≤ 1000000) : Lm (Rg .i64) xs := ⟨h, fun c hc => wf64.2 (by have := h2 c hc; omega)⟩
theorem CellsLeft_core (g : Int × Int × List Bool) (h : OkGrid g) : ∃ w, spec_CellsLeft.f g = some w ∧ impl_CellsLeft.f g = some w ∧ Lm (Rg .i64) w.1 := by
  have hl : g.2.2.length ≤ 1000000 := h.2.2.1
  refine ⟨if gridB g = true then (cellsL g.2.2, 0) else ([], 1), ?_, ?_, ?_⟩
  · unfold spec_CellsLeft.f spec_CellsLeft.fn spec_CellsLeft.top
    rw [spec_l31Code_f, code00]
    cases gridB g
    · rfl
    · simp only [and_self, and_true, true_and, decide_true, decide_false, if_true, if_false, mid_get, mid_set, mid_getn, mid_setn, bt_mid, Option.bind_some, Bool.not_true, Bool.not_false, Bool.false_eq_true, Bool.true_eq_false, beq_self_eq_true, bne_self_eq_false, Int.toNat_natCast]
      rw [spec_l31Left_f g hl]; rfl
  · unfold impl_CellsLeft.f impl_CellsLeft.fn impl_CellsLeft.top
    rw [impl_IsGrid_f]
    cases gridB g
    · rfl
    · simp only [and_self, and_true, true_and, decide_true, decide_false, if_true, if_false, mid_get, mid_set, mid_getn, mid_setn, bt_mid, Option.bind_some, Bool.not_true, Bool.not_false, Bool.false_eq_true, Bool.true_eq_false, beq_self_eq_true, bne_self_eq_false, Int.toNat_natCast]
      rw [impl_cellsLeft_f g hl]; rfl
  · have := @cellsL_in g.2.2
    split
    · exact ⟨by simp only; omega, fun c hc => wf64.2 (by have := this.2 c hc; omega)⟩
    · exact ⟨by simp, fun c hc => by cases hc⟩
def cellsB (g : Int × Int × List Bool) (cells : List Int) : Bool := decide (cells.length ≤ 200) && cells.all (inB · 0 (g.1 * g.2.1 - 1))
theorem impl_areCells_f (g : Int × Int × List Bool) (cells : List Int) (h : gridB g = true) (hc : cells.length ≤ 1000000) : impl_areCells.f g cells = some (cellsB g cells) := by
  have hg := gridB_iff.1 h
  have h3 := mul_le144 hg.1 hg.2.1 hg.2.2.1 hg.2.2.2.1
  unfold impl_areCells.f impl_areCells.fn impl_areCells.top cellsB
  rw [w64 (n := g.1 * g.2.1) (by omega) (by omega), w64 (by omega) (by omega), impl_allWithin_f _ _ _ (by omega)]
  by_cases h1 : cells.length ≤ 200
  · have : (cells.length : Int) ≤ 200 := by omega
    simp [h1, this]
  · have : ¬ (cells.length : Int) ≤ 200 := by omega
    simp [h1, this]
theorem spec_l31Cells_f (g : Int × Int × List Bool) (cells : List Int) (hc : cells.length ≤ 1000000) : spec_l31Cells.f g cells = some (if gridB g = true then (if cellsB g cells = true then 0 else 2) else 1) := by
  unfold spec_l31Cells.f spec_l31Cells.fn spec_l31Cells.top
  rw [spec_IsGrid_f]
  cases h : gridB g
  · rfl
  have hg := gridB_iff.1 h
  have h3 := mul_le144 hg.1 hg.2.1 hg.2.2.1 hg.2.2.2.1
  simp only [and_self, and_true, true_and, decide_true, decide_false, if_true, if_false, mid_get, mid_set, mid_getn, mid_setn, bt_mid, Option.bind_some, Bool.not_true, Bool.not_false, Bool.false_eq_true, Bool.true_eq_false, beq_self_eq_true, bne_self_eq_false, Int.toNat_natCast]
  have := find_loop (E := fun _ => True) (fun c => !(inB c 0 (g.1 * g.2.1 - 1))) (fun _ _ => some (2 : Int)) (fun xs => if (200 : Int) < xs.length then some 2 else some 0) (fun k xs i => spec_l31Cells.l4 NN k xs i g) ?_ ?_ cells (fun _ _ => trivial) (by omega) NN (NN_lt (by omega))
  · refine this.trans ?_
    have key : ∀ (xs : List Int) (i : Nat), (firstOf (fun c => !(inB c 0 (g.1 * g.2.1 - 1))) i xs).elim (if (200 : Int) < cells.length then some 2 else some 0) (fun _ => some (2 : Int)) = if xs.all (inB · 0 (g.1 * g.2.1 - 1)) = true then (if (200 : Int) < cells.length then some 2 else some 0) else some 2 := by
      intro xs
      induction xs with
      | nil => intro i; simp [firstOf]
      | cons a r ih =>
        intro i
        cases h5 : inB a 0 (g.1 * g.2.1 - 1)
        · simp [firstOf, h5]
        · simp only [firstOf, h5, Bool.not_true, Bool.false_eq_true, if_false, List.all_cons, Bool.true_and]
          exact ih _
    refine (key cells 0).trans ?_
    unfold cellsB
    by_cases h1 : cells.length ≤ 200
    · have : ¬ (200 : Int) < cells.length := by omega
      cases cells.all (inB · 0 (g.1 * g.2.1 - 1)) <;> simp [h1, this]
    · have : (200 : Int) < cells.length := by omega
      cases cells.all (inB · 0 (g.1 * g.2.1 - 1)) <;> simp [h1, this]
  · intro k p
    simp [spec_l31Cells.l4, spec_l31Cells.g4]
  · intro k p a r _ c0 c1 c2 cw
    simp only [spec_l31Cells.l4, spec_l31Cells.g4, c0, c1, cw, and_self, and_true, true_and, decide_true, decide_false, if_true, if_false, mid_get, mid_set, mid_getn, mid_setn, bt_mid, Option.bind_some, Bool.not_true, Bool.not_false, Bool.false_eq_true, Bool.true_eq_false, beq_self_eq_true, bne_self_eq_false, Int.toNat_natCast, spec_l01In_f]
    rw [w64 (n := g.1 * g.2.1) (by omega) (by omega), w64 (by omega) (by omega)]
theorem cellsB_iff {g : Int × Int × List Bool} {cells : List Int} (h : gridB g = true) (hc : cellsB g cells = true) : cells.length ≤ 200 ∧ ∀ c ∈ cells, 0 ≤ c ∧ c < (g.2.2.length : Int) ∧ c < 144 := by
  have hg := gridB_iff.1 h
  have h3 := mul_le144 hg.1 hg.2.1 hg.2.2.1 hg.2.2.2.1
  unfold cellsB at hc
  simp only [Bool.and_eq_true, decide_eq_true_eq, List.all_eq_true, inB_iff] at hc
  exact ⟨hc.1, fun c h => by have := hc.2 c h; omega⟩
end Go.Pl

namespace Go.Pl
open Go.Ev
set_option linter.unusedVariables false
noncomputable section
def impl_SearchCell.top (g0 : Int × Int × List Bool) (x1 : Int) (y2 : Int) : Option ((Int × Int × List Bool) × Int) :=
  (impl_IsGrid.f g0).bind fun r1 =>
  if (!r1) = true then
    some ((0, (0, [])), 1)
  else
    (impl_isCell.f g0 x1 y2).bind fun r2 =>
    if (!r2) = true then
      some ((0, (0, [])), 2)
    else if (0 : Int) ≤ (IntKind.i64.wrap ((IntKind.i64.wrap (y2 * g0.1)) + x1)) ∧ ((IntKind.i64.wrap ((IntKind.i64.wrap (y2 * g0.1)) + x1)) : Int) < g0.2.2.length then
      if (g0.2.2.getD ((IntKind.i64.wrap ((IntKind.i64.wrap (y2 * g0.1)) + x1)) : Int).toNat false) = true then
        some ((0, (0, [])), 5)
      else
        (impl_copyGrid.f g0).bind fun r3 =>
        if (0 : Int) ≤ (IntKind.i64.wrap ((IntKind.i64.wrap (y2 * g0.1)) + x1)) ∧ ((IntKind.i64.wrap ((IntKind.i64.wrap (y2 * g0.1)) + x1)) : Int) < r3.2.2.length then
          some ((r3.1, (r3.2.1, r3.2.2.set ((IntKind.i64.wrap ((IntKind.i64.wrap (y2 * g0.1)) + x1)) : Int).toNat true)), 0)
        else
          none
    else
      none
def impl_SearchCell.fn (n : Nat) (g0 : Int × Int × List Bool) (x1 : Int) (y2 : Int) : Option ((Int × Int × List Bool) × Int) := impl_SearchCell.top g0 x1 y2
def impl_SearchCell.f (g0 : Int × Int × List Bool) (x1 : Int) (y2 : Int) : Option ((Int × Int × List Bool) × Int) := impl_SearchCell.fn NN g0 x1 y2
end
end Go.Pl

namespace Go.Pl
open Go.Ev
set_option linter.unusedVariables false
noncomputable section
def spec_SearchCell.top (g0 : Int × Int × List Bool) (x1 : Int) (y2 : Int) : Option ((Int × Int × List Bool) × Int) :=
  (spec_l31Code.f g0 x1 y2).bind fun r1 =>
  if ((r1 : Int) == 0) = true then
    if (0 : Int) ≤ (IntKind.i64.wrap ((IntKind.i64.wrap (y2 * g0.1)) + x1)) ∧ ((IntKind.i64.wrap ((IntKind.i64.wrap (y2 * g0.1)) + x1)) : Int) < g0.2.2.length then
      if (g0.2.2.getD ((IntKind.i64.wrap ((IntKind.i64.wrap (y2 * g0.1)) + x1)) : Int).toNat false) = true then
        if ((5 : Int) != 0) = true then
          some ((0, (0, [])), 5)
        else
          (spec_l31Own.f g0).bind fun r2 =>
          if (0 : Int) ≤ (IntKind.i64.wrap ((IntKind.i64.wrap (y2 * g0.1)) + x1)) ∧ ((IntKind.i64.wrap ((IntKind.i64.wrap (y2 * g0.1)) + x1)) : Int) < r2.2.2.length then
            some ((r2.1, (r2.2.1, r2.2.2.set ((IntKind.i64.wrap ((IntKind.i64.wrap (y2 * g0.1)) + x1)) : Int).toNat true)), 0)
          else
            none
      else if ((r1 : Int) != 0) = true then
        some ((0, (0, [])), r1)
      else
        (spec_l31Own.f g0).bind fun r3 =>
        if (0 : Int) ≤ (IntKind.i64.wrap ((IntKind.i64.wrap (y2 * g0.1)) + x1)) ∧ ((IntKind.i64.wrap ((IntKind.i64.wrap (y2 * g0.1)) + x1)) : Int) < r3.2.2.length then
          some ((r3.1, (r3.2.1, r3.2.2.set ((IntKind.i64.wrap ((IntKind.i64.wrap (y2 * g0.1)) + x1)) : Int).toNat true)), 0)
        else
          none
    else
      none
  else if ((r1 : Int) != 0) = true then
    some ((0, (0, [])), r1)
  else
    (spec_l31Own.f g0).bind fun r4 =>
    if (0 : Int) ≤ (IntKind.i64.wrap ((IntKind.i64.wrap (y2 * g0.1)) + x1)) ∧ ((IntKind.i64.wrap ((IntKind.i64.wrap (y2 * g0.1)) + x1)) : Int) < r4.2.2.length then
      some ((r4.1, (r4.2.1, r4.2.2.set ((IntKind.i64.wrap ((IntKind.i64.wrap (y2 * g0.1)) + x1)) : Int).toNat true)), 0)
    else
      none
def spec_SearchCell.fn (n : Nat) (g0 : Int × Int × List Bool) (x1 : Int) (y2 : Int) : Option ((Int × Int × List Bool) × Int) := spec_SearchCell.top g0 x1 y2
def spec_SearchCell.f (g0 : Int × Int × List Bool) (x1 : Int) (y2 : Int) : Option ((Int × Int × List Bool) × Int) := spec_SearchCell.fn NN g0 x1 y2
end
end Go.Pl

namespace Go.Pl
open Go.Ev
set_option linter.unusedVariables false
set_option linter.unusedSimpArgs false
theorem spec_l31Own_f (g : Int × Int × List Bool) (h : g.2.2.length ≤ 1000000) : spec_l31Own.f g = some g := by
  unfold spec_l31Own.f spec_l31Own.fn spec_l31Own.top
  rw [if_pos (by rw [room1]; simp; omega)]; rfl
theorem impl_copyGrid_f (g : Int × Int × List Bool) (h : g.2.2.length ≤ 1000000) : impl_copyGrid.f g = some g := by
  unfold impl_copyGrid.f impl_copyGrid.fn impl_copyGrid.top
  rw [if_pos (by rw [room1]; simp; omega)]; rfl
def searchC (g : Int × Int × List Bool) (x y : Int) : (Int × Int × List Bool) × Int :=
  if gridB g = true then (if cellB g x y = true then (if g.2.2.getD (y * g.1 + x).toNat false = true then ((0, 0, []), 5) else ((g.1, g.2.1, g.2.2.set (y * g.1 + x).toNat true), 0)) else ((0, 0, []), 2)) else ((0, 0, []), 1)
theorem impl_SearchCell_f (g : Int × Int × List Bool) (x y : Int) (h : g.2.2.length ≤ 1000000) : impl_SearchCell.f g x y = some (searchC g x y) := by
  unfold impl_SearchCell.f impl_SearchCell.fn impl_SearchCell.top searchC
  rw [impl_IsGrid_f]
  cases hg : gridB g
  · rfl
  simp only [and_self, and_true, true_and, decide_true, decide_false, if_true, if_false, mid_get, mid_set, mid_getn, mid_setn, bt_mid, Option.bind_some, Bool.not_true, Bool.not_false, Bool.false_eq_true, Bool.true_eq_false, beq_self_eq_true, bne_self_eq_false, Int.toNat_natCast]
  rw [impl_isCell_f g x y hg]
  cases hc : cellB g x y
  · rfl
  have hca := cell_at hg hc
  have e1 := w64 (n := y * g.1) (by omega) (by omega)
  have e2 := w64 (n := y * g.1 + x) (by omega) (by omega)
  have e3 : (0 : Int) ≤ y * g.1 + x := by omega
  simp only [e1, e2, e3, hca.2.2.2.2.2.1, and_self, and_true, true_and, decide_true, decide_false, if_true, if_false, mid_get, mid_set, mid_getn, mid_setn, bt_mid, Option.bind_some, Bool.not_true, Bool.not_false, Bool.false_eq_true, Bool.true_eq_false, beq_self_eq_true, bne_self_eq_false, Int.toNat_natCast]
  rw [impl_copyGrid_f g h]
  simp only [Option.bind_some, hca.2.2.2.2.2.1, and_self, if_true]
  split <;> rfl
theorem spec_SearchCell_f (g : Int × Int × List Bool) (x y : Int) (h : g.2.2.length ≤ 1000000) : spec_SearchCell.f g x y = some (searchC g x y) := by
  unfold spec_SearchCell.f spec_SearchCell.fn spec_SearchCell.top searchC
  rw [spec_l31Code_f]
  unfold codeG
  cases hg : gridB g
  · rfl
  cases hc : cellB g x y
  · rfl
  have hca := cell_at hg hc
  have e1 := w64 (n := y * g.1) (by omega) (by omega)
  have e2 := w64 (n := y * g.1 + x) (by omega) (by omega)
  have e3 : (0 : Int) ≤ y * g.1 + x := by omega
  simp only [e1, e2, e3, hca.2.2.2.2.2.1, and_self, and_true, true_and, decide_true, decide_false, if_true, if_false, mid_get, mid_set, mid_getn, mid_setn, bt_mid, Option.bind_some, Bool.not_true, Bool.not_false, Bool.false_eq_true, Bool.true_eq_false, beq_self_eq_true, bne_self_eq_false, Int.toNat_natCast]
  rw [spec_l31Own_f g h]
  simp only [Option.bind_some, hca.2.2.2.2.2.1, and_self, if_true]
  split <;> rfl
theorem searchC_ok (g : Int × Int × List Bool) (x y : Int) (h : OkGrid g) : OkGrid (searchC g x y).1 := by
  have z : OkGrid (0, 0, []) := ⟨rfl, rfl, by simp, by simp⟩
  unfold searchC
  split
  · split
    · split
      · exact z
      · exact ⟨h.1, h.2.1, by simpa using h.2.2.1, fun _ _ => trivial⟩
    · exact z
  · exact z
theorem SearchCell_core (g : Int × Int × List Bool) (x y : Int) (h : OkGrid g) (_ : Rg .i64 x) (_ : Rg .i64 y) : ∃ w, spec_SearchCell.f g x y = some w ∧ impl_SearchCell.f g x y = some w ∧ OkGrid w.1 :=
  ⟨_, spec_SearchCell_f g x y h.2.2.1, impl_SearchCell_f g x y h.2.2.1, searchC_ok g x y h⟩
def fillR (w : Int) (y : Int) (s : List Bool) : List Bool := foldi (fun k st (_ : Unit) => st.set (y * w + k).toNat true) 0 s (List.replicate w.toNat ())
def searchR (g : Int × Int × List Bool) (y : Int) : (Int × Int × List Bool) × Int :=
  if gridB g = true then (if cellB g 0 y = true then ((g.1, g.2.1, fillR g.1 y g.2.2), 0) else ((0, 0, []), 2)) else ((0, 0, []), 1)
theorem impl_SearchRow_l (g : Int × Int × List Bool) (y a b : Int) (w3 : List Bool) (h1 : 1 ≤ g.1) (h2 : g.1 ≤ 12) (hy : 0 ≤ y * g.1) (hl : y * g.1 + g.1 ≤ (g.2.2.length : Int)) (hl2 : g.2.2.length ≤ 144) : (fillR g.1 y g.2.2).length = g.2.2.length ∧ impl_SearchRow.l7 NN NN y 0 g a b g.1 g.2.1 w3 g.2.2 = some ((g.1, g.2.1, fillR g.1 y g.2.2), 0) := by
  have := fold_fix (E := fun _ => True) (fun _ st => st.length = g.2.2.length) (fun k st (_ : Unit) => st.set (y * g.1 + k).toNat true) (fun st => some ((g.1, g.2.1, st), (0 : Int))) (fun k i st => impl_SearchRow.l7 NN k y i g a b g.1 g.2.1 w3 st) (List.replicate g.1.toNat ()) ?_ ?_ g.2.2 (fun _ _ => trivial) rfl (by simp; omega) NN (NN_lt (by simp; omega))
  · exact this
  · intro k st _
    have e : ((g.1.toNat : Nat) : Int) = g.1 := by omega
    simp [impl_SearchRow.l7, impl_SearchRow.g7, e] <;> omega
  · intro k p c r st hx _ hI c0 c1 c2 cw _
    rw [List.length_replicate] at c1
    have c1' : (p.length : Int) < g.1 := by omega
    have e1 := w64 (n := y * g.1) (by omega) (by omega)
    have e2 := w64 (n := y * g.1 + (p.length : Int)) (by omega) (by omega)
    have e3 : (0 : Int) ≤ y * g.1 + (p.length : Int) := by omega
    have e4 : y * g.1 + (p.length : Int) < (st.length : Int) := by omega
    refine ⟨by simpa using hI, ?_⟩
    simp only [impl_SearchRow.l7, impl_SearchRow.g7, c1', cw, e1, e2, e3, e4, and_self, and_true, true_and, decide_true, decide_false, if_true, if_false, mid_get, mid_set, mid_getn, mid_setn, bt_mid, Option.bind_some, Bool.not_true, Bool.not_false, Bool.false_eq_true, Bool.true_eq_false, beq_self_eq_true, bne_self_eq_false, Int.toNat_natCast]
theorem spec_SearchRow_l (g : Int × Int × List Bool) (y a b : Int) (w3 : List Bool) (h1 : 1 ≤ g.1) (h2 : g.1 ≤ 12) (hy : 0 ≤ y * g.1) (hl : y * g.1 + g.1 ≤ (g.2.2.length : Int)) (hl2 : g.2.2.length ≤ 144) : (fillR g.1 y g.2.2).length = g.2.2.length ∧ spec_SearchRow.l6 NN NN y 0 g a b g.1 g.2.1 w3 g.2.2 = some ((g.1, g.2.1, fillR g.1 y g.2.2), 0) := by
  have := fold_fix (E := fun _ => True) (fun _ st => st.length = g.2.2.length) (fun k st (_ : Unit) => st.set (y * g.1 + k).toNat true) (fun st => some ((g.1, g.2.1, st), (0 : Int))) (fun k i st => spec_SearchRow.l6 NN k y i g a b g.1 g.2.1 w3 st) (List.replicate g.1.toNat ()) ?_ ?_ g.2.2 (fun _ _ => trivial) rfl (by simp; omega) NN (NN_lt (by simp; omega))
  · exact this
  · intro k st _
    have e : ((g.1.toNat : Nat) : Int) = g.1 := by omega
    simp [spec_SearchRow.l6, spec_SearchRow.g6, e] <;> omega
  · intro k p c r st hx _ hI c0 c1 c2 cw _
    rw [List.length_replicate] at c1
    have c1' : (p.length : Int) < g.1 := by omega
    have e1 := w64 (n := y * g.1) (by omega) (by omega)
    have e2 := w64 (n := y * g.1 + (p.length : Int)) (by omega) (by omega)
    have e3 : (0 : Int) ≤ y * g.1 + (p.length : Int) := by omega
    have e4 : y * g.1 + (p.length : Int) < (st.length : Int) := by omega
    refine ⟨by simpa using hI, ?_⟩
    simp only [spec_SearchRow.l6, spec_SearchRow.g6, c1', cw, e1, e2, e3, e4, and_self, and_true, true_and, decide_true, decide_false, if_true, if_false, mid_get, mid_set, mid_getn, mid_setn, bt_mid, Option.bind_some, Bool.not_true, Bool.not_false, Bool.false_eq_true, Bool.true_eq_false, beq_self_eq_true, bne_self_eq_false, Int.toNat_natCast]
theorem impl_SearchRow_f (g : Int × Int × List Bool) (y : Int) (h : g.2.2.length ≤ 1000000) : impl_SearchRow.f g y = some (searchR g y) := by
  unfold impl_SearchRow.f impl_SearchRow.fn impl_SearchRow.top searchR
  rw [impl_IsGrid_f]
  cases hg : gridB g
  · rfl
  simp only [and_self, and_true, true_and, decide_true, decide_false, if_true, if_false, mid_get, mid_set, mid_getn, mid_setn, bt_mid, Option.bind_some, Bool.not_true, Bool.not_false, Bool.false_eq_true, Bool.true_eq_false, beq_self_eq_true, bne_self_eq_false, Int.toNat_natCast]
  rw [impl_isCell_f g 0 y hg]
  cases hc : cellB g 0 y
  · rfl
  have hgb := gridB_iff.1 hg
  have hca := cell_at hg hc
  have h3 : cellB g (g.1 - 1) y = true := by
    unfold cellB at hc ⊢
    simp only [Bool.and_eq_true, inB_iff] at hc ⊢
    omega
  have hcb := cell_at hg h3
  simp only [and_self, and_true, true_and, decide_true, decide_false, if_true, if_false, mid_get, mid_set, mid_getn, mid_setn, bt_mid, Option.bind_some, Bool.not_true, Bool.not_false, Bool.false_eq_true, Bool.true_eq_false, beq_self_eq_true, bne_self_eq_false, Int.toNat_natCast]
  rw [impl_copyGrid_f g h]
  exact (impl_SearchRow_l g y 0 0 [] hgb.1 hgb.2.1 (by omega) (by omega) (by omega)).2
theorem spec_SearchRow_f (g : Int × Int × List Bool) (y : Int) (h : g.2.2.length ≤ 1000000) : spec_SearchRow.f g y = some (searchR g y) := by
  unfold spec_SearchRow.f spec_SearchRow.fn spec_SearchRow.top searchR
  rw [spec_l31Code_f]
  unfold codeG
  cases hg : gridB g
  · rfl
  cases hc : cellB g 0 y
  · rfl
  have hgb := gridB_iff.1 hg
  have hca := cell_at hg hc
  have h3 : cellB g (g.1 - 1) y = true := by
    unfold cellB at hc ⊢
    simp only [Bool.and_eq_true, inB_iff] at hc ⊢
    omega
  have hcb := cell_at hg h3
  simp only [and_self, and_true, true_and, decide_true, decide_false, if_true, if_false, mid_get, mid_set, mid_getn, mid_setn, bt_mid, Option.bind_some, Bool.not_true, Bool.not_false, Bool.false_eq_true, Bool.true_eq_false, beq_self_eq_true, bne_self_eq_false, Int.toNat_natCast]
  rw [spec_l31Own_f g h]
  exact (spec_SearchRow_l g y 0 0 [] hgb.1 hgb.2.1 (by omega) (by omega) (by omega)).2
theorem fillR_len (w y : Int) (s : List Bool) : (fillR w y s).length = s.length := by
  have key : ∀ (xs : List Unit) (i : Nat) (st : List Bool), (foldi (fun k st (_ : Unit) => st.set (y * w + k).toNat true) i st xs).length = st.length := by
    intro xs
    induction xs with
    | nil => intro i st; rfl
    | cons a r ih => intro i st; simp only [foldi]; rw [ih]; simp
  exact key _ _ _
theorem searchR_ok (g : Int × Int × List Bool) (y : Int) (h : OkGrid g) : OkGrid (searchR g y).1 := by
  have z : OkGrid (0, 0, []) := ⟨rfl, rfl, by simp, by simp⟩
  unfold searchR
  split
  · split
    · exact ⟨h.1, h.2.1, by simp only; rw [fillR_len]; exact h.2.2.1, fun _ _ => trivial⟩
    · exact z
  · exact z
theorem SearchRow_core (g : Int × Int × List Bool) (y : Int) (h : OkGrid g) (_ : Rg .i64 y) : ∃ w, spec_SearchRow.f g y = some w ∧ impl_SearchRow.f g y = some w ∧ OkGrid w.1 :=
  ⟨_, spec_SearchRow_f g y h.2.2.1, impl_SearchRow_f g y h.2.2.1, searchR_ok g y h⟩
end Go.Pl

namespace Go.Pl
open Go.Ev
set_option linter.unusedVariables false
set_option linter.unusedSimpArgs false
theorem FnExactSearchRow_true (aG : Int × Int × List Bool) (aY : Int) (hyp : PlGrid aG ∧ Rg .i64 aY) : laws_FnExactSearchRow.f aG aY = some true := by
  obtain ⟨h_aG, h_aY⟩ := hyp
  unfold laws_FnExactSearchRow.f laws_FnExactSearchRow.fn laws_FnExactSearchRow.top
  obtain ⟨s1, e1, l1, k1⟩ := laws_szGrid_ok aG 1000000 (by omega) (by omega) h_aG
  simp only [e1, Option.bind_some, decide_eq_true_eq]
  by_cases hn1 : s1 < 0
  · simp [hn1]
  simp only [hn1, if_false]
  obtain ⟨q1, o_aG⟩ := k1 (by omega)
  have o_aY := h_aY
  obtain ⟨f0_aG, t_aG, i_aG⟩ := laws_toGrid_both aG o_aG
  obtain ⟨⟨w0, w1⟩, c1, c2, c3⟩ := SearchRow_core aG aY o_aG o_aY
  have c4 := c3
  have c3_0 : OkGrid w0 := c3
  have eq_0 := laws_eqGrid_self w0 (Nat.le_trans c3_0.2.2.1 (by omega))
  obtain ⟨m1, d1_0, x1, y1, z1, u1⟩ := laws_markGrid_ok aG o_aG 101 (by omega) (by omega)
  have kn : ¬ m1 < 0 := by omega
  obtain ⟨m2, d2_0, x2, y2, z2, u2⟩ := laws_markGrid_ok w0 c3_0 101 (by omega) (by omega)
  have n2 : ¬ m2 < 0 := by omega
  simp [t_aG, i_aG, c1, c2, eq_0, x1, kn, x2, y2, n2]
end Go.Pl

/- The law FnExactSearchRow: the program's function answers as the law says, for all arguments of a claim's bounds. -/
namespace Go.Proofs.Ytppfdipgaifhiaa.fnExactSearchRow
open Go.ChangeShapes Go.WideShapes Go.ChangeAt Go.RowKit Go.Ev
set_option linter.unusedVariables false
theorem own : ownKnob Try.prog.godebug = none := by kernel_rfl
theorem posok : posB Go.Ev.Try.tab = true := by kernel_rfl
theorem laidOut : laidOutB Try.prog = true := by kernel_rfl
set_option maxRecDepth 100000 in
theorem lifted (os : Os) (started : os.Started) (H : Type) (enc : TypeId × Value → H) :
    ReturnsInHanded {} Try.checked os 5 .any (Rows.fnExactSearchRowSpec.pre6 enc Try.prog Try.f5 Rows.fnExactSearchRowRow.domain false) (Rows.fnExactSearchRowSpec.post enc Try.prog Try.f5 false true false false) := by
  refine returnsInHanded_of_change_sized (C := Try.checked) own started (by kernel_rfl) Try.func5
    (ChangeSpec.witness6 (enc := enc) (C := Try.checked) false ⟨#[], #[.agg #[.int .i64 0, .int .i64 0, .slice none 0 0], .int .i64 0], []⟩ 8 (by kernel_rfl) (by kernel_rfl) (by kernel_rfl) (by kernel_rfl)) ?_
  intro W base args ds gs before hval0 hW hcnd hsz0 _
  have hsz : (DataW.weightsEach Try.prog (Try.f5.params.toList ++ Rows.fnExactSearchRowSpec.plain.varTypes Try.prog) (ds ++ gs)).all (· ≤ reachBytes) = true := hsz0
  have hval : ∀ (j : Nat) t v, Try.f5.params[j]? = some t → args[j]? = some v → Value.okWide Try.prog W .any base t v := hval0
  have hW' := hW
  obtain ⟨p, q, hA0, hV, rfl, hfz, hnd⟩ := hW
  have hA : DataW.TrodAll enc Try.prog W 0 (fun _ => true) true Try.f5.params.toList args.toList ds p := hA0
  rw [Try.params5] at hA hval hsz
  obtain ⟨rfl, rfl⟩ := trodVars_none hV
  have hcall := fun hl => law_row Go.Ev.Try.tabok posok Go.Ev.Try.laws_FnExactSearchRow.good rfl (by kernel_rfl)
    (fun x hx => ⟨true, Go.Pl.FnExactSearchRow_true x.1 x.2 hx, rfl⟩) (ts := [24, 2]) (by rfl) hA (fun j t v hj hv => hval j t v (by simpa using hj) hv) (.inr rfl) hsz hl
  obtain ⟨v0, vs0, d0, ds0, p0, q0, hargs0, rfl, rfl, h0, r0⟩ := trodAll_cons hA
  obtain ⟨v1, vs1, d1, ds1, p1, q1, hargs1, rfl, rfl, h1, r1⟩ := trodAll_cons r0
  obtain ⟨rfl, rfl, rfl⟩ := trodAll_nil r1
  obtain rfl : args = #[v0, v1] := by cases args; simp_all
  refine (hcall rfl).mono fun e W' ⟨he, bel⟩ => ?_
  subst he
  have hlt0 : ∀ x ∈ p0, x.block < W.heap.size := fun x hx => by simpa using hW'.lt x (by simp [hx])
  have hlt1 : ∀ x ∈ p1, x.block < W.heap.size := fun x hx => by simpa using hW'.lt x (by simp [hx])
  exact ⟨_, rfl, _, _, _, [], _, [], hW', trodAll_mk1 (shut_bool Try.underlying4 _), (trodAll_cons_mk (Below.trod laidOut (by kernel_rfl) (of_decide_eq_true (by kernel_rfl)) h0 bel hlt0) (trodAll_cons_mk (Below.trod laidOut (by kernel_rfl) (of_decide_eq_true (by kernel_rfl)) h1 bel hlt1) trodAll_mk0)), rfl, bel.frame _, fun h => by cases h⟩
theorem over : Rows.fnExactSearchRowRow.holds Try.pinned (OpenSpec.ofChange Rows.fnExactSearchRowSpec) :=
  OpenClaim.holds_of_wide 5 Try.f5 rfl rfl rfl rfl rfl rfl rfl ⟨rfl, rfl, rfl, rfl, rfl⟩ rfl rfl rfl rfl rfl (by kernel_rfl) Try.func5 (by kernel_rfl)
    (of_decide_eq_true (by kernel_rfl)) (by unfold Func.isWrapper; first | (rw [if_pos (by decide +kernel)]; kernel_rfl) | (rw [if_neg (by decide +kernel)]; exact ⟨rfl, rfl⟩))
    (fun os started H enc _ => lifted os started H enc)
theorem proved : Rows.FnExactSearchRowSaid := over
end Go.Proofs.Ytppfdipgaifhiaa.fnExactSearchRow
namespace Go.Proofs.Ytppfdipgaifhiaa
theorem fnExactSearchRow_holds : Rows.FnExactSearchRowSaid := fnExactSearchRow.proved
end Go.Proofs.Ytppfdipgaifhiaa
