/- The law FnExactDudsLeft, and what it stands on (the last part): the program answers as the law says, for all arguments of a claim's bounds. -/
import Derived.Test.YtppfdipgaifhiaaChecked
import Derived.Test.YtppfdipgaifhiaaProg
import Derived.Test.YtppfdipgaifhiaaRows
import Derived.Below
import Derived.Calls
import Derived.Carry
import Derived.ChangeArms
import Derived.ChangeOld
import Derived.Deep.Quiet
import Derived.KernelRfl
import Derived.Laws.Append
import Derived.Laws.BytesString
import Derived.Laws.MakeOwn
import Derived.Laws.Strings
import Derived.OpenShut
import Derived.OrdersHeld
import Derived.ProofKit
import Derived.ShutString
import Derived.SizedLaws
import Derived.Tactics
import Derived.WalkKit
import Derived.WideShapes
import Derived.Test.YtppfdipgaifhiaaEvExactDudsLeft1
namespace Go.Pl
open Go.Ev
set_option linter.unusedVariables false
set_option linter.unusedSimpArgs false
def gridB (g : Int × Int × List Bool) : Bool := inB g.1 1 12 && inB g.2.1 1 12 && decide ((g.2.2.length : Int) = g.1 * g.2.1)
theorem gridB_iff {g : Int × Int × List Bool} : gridB g = true ↔ 1 ≤ g.1 ∧ g.1 ≤ 12 ∧ 1 ≤ g.2.1 ∧ g.2.1 ≤ 12 ∧ (g.2.2.length : Int) = g.1 * g.2.1 := by
  unfold gridB; simp only [Bool.and_eq_true, inB_iff, decide_eq_true_eq]; omega
theorem mul_le144 {a b : Int} (h1 : 1 ≤ a) (h2 : a ≤ 12) (h3 : 1 ≤ b) (h4 : b ≤ 12) : 1 ≤ a * b ∧ a * b ≤ 144 := by
  obtain h | h | h | h | h | h | h | h | h | h | h | h : a = 1 ∨ a = 2 ∨ a = 3 ∨ a = 4 ∨ a = 5 ∨ a = 6 ∨ a = 7 ∨ a = 8 ∨ a = 9 ∨ a = 10 ∨ a = 11 ∨ a = 12 := by omega
  all_goals (subst h; omega)
theorem impl_IsGrid_f (g : Int × Int × List Bool) : impl_IsGrid.f g = some (gridB g) := by
  unfold impl_IsGrid.f impl_IsGrid.fn impl_IsGrid.top gridB
  simp only [impl_within_f, Option.bind_some]
  cases h1 : inB g.1 1 12
  · rfl
  cases h2 : inB g.2.1 1 12
  · rfl
  rw [inB_iff] at h1 h2
  have := mul_le144 h1.1 h1.2 h2.1 h2.2
  rw [w64 (by omega) (by omega)]
  simp only [if_true, Bool.true_and]
  rfl
theorem spec_IsGrid_f (g : Int × Int × List Bool) : spec_IsGrid.f g = some (gridB g) := by
  unfold spec_IsGrid.f spec_IsGrid.fn spec_IsGrid.top gridB
  simp only [spec_l01In_f, Option.bind_some]
  cases h1 : inB g.1 1 12
  · rfl
  cases h2 : inB g.2.1 1 12
  · rfl
  rw [inB_iff] at h1 h2
  have := mul_le144 h1.1 h1.2 h2.1 h2.2
  rw [w64 (by omega) (by omega)]
  simp only [if_true, Bool.true_and]
  rfl
def cellB (g : Int × Int × List Bool) (x y : Int) : Bool := inB x 0 (g.1 - 1) && inB y 0 (g.2.1 - 1)
theorem impl_isCell_f (g : Int × Int × List Bool) (x y : Int) (h : gridB g = true) : impl_isCell.f g x y = some (cellB g x y) := by
  have hg := gridB_iff.1 h
  unfold impl_isCell.f impl_isCell.fn impl_isCell.top cellB
  simp only [impl_within_f, Option.bind_some]
  rw [w64 (n := g.1 - 1) (by omega) (by omega), w64 (n := g.2.1 - 1) (by omega) (by omega)]
  cases inB x 0 (g.1 - 1) <;> rfl
def codeG (g : Int × Int × List Bool) (x y : Int) : Int := if gridB g = true then (if cellB g x y = true then 0 else 2) else 1
theorem spec_l31Code_f (g : Int × Int × List Bool) (x y : Int) : spec_l31Code.f g x y = some (codeG g x y) := by
  unfold spec_l31Code.f spec_l31Code.fn spec_l31Code.top codeG
  simp only [spec_IsGrid_f, Option.bind_some]
  cases h : gridB g
  · rfl
  have hg := gridB_iff.1 h
  unfold cellB
  simp only [spec_l01In_f, Option.bind_some]
  rw [w64 (n := g.1 - 1) (by omega) (by omega), w64 (n := g.2.1 - 1) (by omega) (by omega)]
  cases inB x 0 (g.1 - 1) <;> cases inB y 0 (g.2.1 - 1) <;> rfl
theorem cell00 {g : Int × Int × List Bool} (h : gridB g = true) : cellB g 0 0 = true := by
  have hg := gridB_iff.1 h
  unfold cellB; simp only [Bool.and_eq_true, inB_iff]; omega
theorem code00 (g : Int × Int × List Bool) : codeG g 0 0 = if gridB g = true then 0 else 1 := by
  unfold codeG
  cases h : gridB g
  · rfl
  · simp [cell00 h]
/-- the cells that are left -/
def addC (i : Nat) (out : List Int) (b : Bool) : List Int := if b = true then out else out ++ [(i : Int)]
def cellsL (s : List Bool) : List Int := foldi addC 0 [] s
theorem cells_inv (s : List Bool) : ∀ (r p : List Bool) (out : List Int), out.length ≤ p.length → (∀ c ∈ out, 0 ≤ c ∧ c < (p.length : Int)) → (foldi addC p.length out r).length ≤ p.length + r.length ∧ ∀ c ∈ foldi addC p.length out r, 0 ≤ c ∧ c < ((p.length : Int) + r.length) := by
  intro r
  induction r with
  | nil => intro p out h1 h2; exact ⟨by simpa [foldi] using h1, by simpa [foldi] using h2⟩
  | cons b r ih =>
    intro p out h1 h2
    have := ih (p ++ [b]) (addC p.length out b) (by unfold addC; split <;> simp <;> omega) (fun c hc => by
      unfold addC at hc
      split at hc
      · have := h2 c hc; simp; omega
      · rcases List.mem_append.1 hc with h | h
        · have := h2 c h; simp; omega
        · rw [List.mem_singleton.1 h]; simp; omega)
    simp only [List.length_append, List.length_cons, List.length_nil, Nat.zero_add] at this
    simp only [foldi, List.length_cons]
    exact ⟨by have := this.1; omega, fun c hc => by have := this.2 c hc; omega⟩
theorem cellsL_in {s : List Bool} : (cellsL s).length ≤ s.length ∧ ∀ c ∈ cellsL s, 0 ≤ c ∧ c < (s.length : Int) := by
  have := cells_inv s s [] [] (by simp) (by simp)
  simpa [cellsL] using this
theorem impl_cellsLeft_f (g : Int × Int × List Bool) (h : g.2.2.length ≤ 1000000) : impl_cellsLeft.f g = some (cellsL g.2.2) := by
  obtain ⟨w, hh, s⟩ := g
  have h : s.length ≤ 1000000 := h
  have := (fold_fix (E := fun _ => True) (fun p st => st.length ≤ p.length) addC some (fun k i st => impl_cellsLeft.l3 NN k s s.length i st) s ?_ ?_ [] (fun _ _ => trivial) (by simp) (by omega) NN (NN_lt (by omega))).2
  · exact this
  · intro k st _
    simp [impl_cellsLeft.l3, impl_cellsLeft.g3]
  · intro k p b r st hx _ hI c0 c1 c2 cw g
    refine ⟨by unfold addC; split <;> simp <;> omega, ?_⟩
    have c3 : st.length + [(p.length : Int)].length < room 8 := by rw [room8]; simp; omega
    simp only [impl_cellsLeft.l3, impl_cellsLeft.g3, c0, c1, cw, and_self, and_true, true_and, decide_true, decide_false, if_true, if_false, mid_get, mid_set, mid_getn, mid_setn, bt_mid, Option.bind_some, Bool.not_true, Bool.not_false, Bool.false_eq_true, Bool.true_eq_false, beq_self_eq_true, bne_self_eq_false, Int.toNat_natCast, g]
    unfold addC
    cases b
    · simp only [and_self, and_true, true_and, decide_true, decide_false, if_true, if_false, mid_get, mid_set, mid_getn, mid_setn, bt_mid, Option.bind_some, Bool.not_true, Bool.not_false, Bool.false_eq_true, Bool.true_eq_false, beq_self_eq_true, bne_self_eq_false, Int.toNat_natCast, c3]
    · simp only [and_self, and_true, true_and, decide_true, decide_false, if_true, if_false, mid_get, mid_set, mid_getn, mid_setn, bt_mid, Option.bind_some, Bool.not_true, Bool.not_false, Bool.false_eq_true, Bool.true_eq_false, beq_self_eq_true, bne_self_eq_false, Int.toNat_natCast]
theorem spec_l31Left_f (g : Int × Int × List Bool) (h : g.2.2.length ≤ 1000000) : spec_l31Left.f g = some (cellsL g.2.2) := by
  obtain ⟨w, hh, s⟩ := g
  have h : s.length ≤ 1000000 := h
  have := (fold_fix (E := fun _ => True) (fun p st => st.length ≤ p.length) addC some (fun k i st => spec_l31Left.l3 NN k i (w, hh, s) st) s ?_ ?_ [] (fun _ _ => trivial) (by simp) (by omega) NN (NN_lt (by omega))).2
  · exact this
  · intro k st _
    simp [spec_l31Left.l3, spec_l31Left.g3]
  · intro k p b r st hx _ hI c0 c1 c2 cw g
    refine ⟨by unfold addC; split <;> simp <;> omega, ?_⟩
    have c3 : st.length + [(p.length : Int)].length < room 8 := by rw [room8]; simp; omega
    simp only [spec_l31Left.l3, spec_l31Left.g3, c0, c1, cw, and_self, and_true, true_and, decide_true, decide_false, if_true, if_false, mid_get, mid_set, mid_getn, mid_setn, bt_mid, Option.bind_some, Bool.not_true, Bool.not_false, Bool.false_eq_true, Bool.true_eq_false, beq_self_eq_true, bne_self_eq_false, Int.toNat_natCast, g]
    unfold addC
    cases b
    · simp only [and_self, and_true, true_and, decide_true, decide_false, if_true, if_false, mid_get, mid_set, mid_getn, mid_setn, bt_mid, Option.bind_some, Bool.not_true, Bool.not_false, Bool.false_eq_true, Bool.true_eq_false, beq_self_eq_true, bne_self_eq_false, Int.toNat_natCast, c3]
    · simp only [and_self, and_true, true_and, decide_true, decide_false, if_true, if_false, mid_get, mid_set, mid_getn, mid_setn, bt_mid, Option.bind_some, Bool.not_true, Bool.not_false, Bool.false_eq_true, Bool.true_eq_false, beq_self_eq_true, bne_self_eq_false, Int.toNat_natCast]
def absI (n : Int) : Int := if n < 0 then -n else n
theorem impl_abs_f {n : Int} (h1 : -1000000000000000 ≤ n) (h2 : n ≤ 1000000000000000) : impl_abs.f n = some (absI n) := by
  unfold impl_abs.f impl_abs.fn impl_abs.top absI
  rw [w64 (n := 0 - n) (by omega) (by omega)]
  by_cases h : n < 0
  · simp [h]
  · simp [h]
theorem spec_l01Abs_f {n : Int} (h1 : -1000000000000000 ≤ n) (h2 : n ≤ 1000000000000000) : spec_l01Abs.f n = some (absI n) := by
  unfold spec_l01Abs.f spec_l01Abs.fn spec_l01Abs.top absI
  rw [w64 (n := 0 - n) (by omega) (by omega)]
  by_cases h : n < 0
  · have : 0 - n > n := by omega
    rw [if_pos this, if_pos h]
    congr 1; omega
  · have : ¬ 0 - n > n := by omega
    rw [if_neg this, if_neg h]
theorem y_cast (y w : Nat) : (y : Int) * (w : Int) = ((y * w : Nat) : Int) := (Int.natCast_mul y w).symm
theorem y1_cast (y w : Nat) : ((y : Int) + 1) * (w : Int) = (((y + 1) * w : Nat) : Int) := by rw [Int.natCast_mul]; rfl
def farD (w a b : Int) : Int := absI (a.tmod w - b.tmod w) + absI (a.tdiv w - b.tdiv w)
theorem mod_div_bd {w a : Int} (hw : 1 ≤ w) (h0 : 0 ≤ a) (h1 : a ≤ 1000) : 0 ≤ a.tmod w ∧ a.tmod w ≤ a ∧ 0 ≤ a.tdiv w ∧ a.tdiv w ≤ a := by
  rw [Int.tmod_eq_emod_of_nonneg h0, Int.tdiv_eq_ediv_of_nonneg h0]
  have h2 : 0 ≤ a % w := Int.emod_nonneg _ (by omega)
  have h3 : 0 ≤ a / w := Int.ediv_nonneg h0 (by omega)
  have h4 := Int.emod_add_mul_ediv a w
  have h5 : a / w ≤ a := Int.ediv_le_self _ h0
  have h6 : 0 ≤ w * (a / w) := Int.mul_nonneg (by omega) h3
  omega
theorem farD_bd {w a b : Int} (hw : 1 ≤ w) (ha : 0 ≤ a) (ha1 : a ≤ 1000) (hb : 0 ≤ b) (hb1 : b ≤ 1000) : 0 ≤ farD w a b ∧ farD w a b ≤ 2000 := by
  have h1 := mod_div_bd hw ha ha1
  have h2 := mod_div_bd hw hb hb1
  unfold farD absI
  split <;> split <;> omega
theorem impl_distanceOf_f (g : Int × Int × List Bool) (a b : Int) (hw : 1 ≤ g.1) (ha : 0 ≤ a) (ha1 : a ≤ 1000) (hb : 0 ≤ b) (hb1 : b ≤ 1000) : impl_distanceOf.f g a b = some (farD g.1 a b) := by
  have h1 := mod_div_bd hw ha ha1
  have h2 := mod_div_bd hw hb hb1
  have h3 := farD_bd hw ha ha1 hb hb1
  have hz : ¬ g.1 = 0 := by omega
  unfold impl_distanceOf.f impl_distanceOf.fn impl_distanceOf.top
  simp only [hz, if_false]
  rw [w64 (n := a.tdiv g.1) (by omega) (by omega), w64 (n := b.tdiv g.1) (by omega) (by omega), w64 (n := a.tmod g.1 - b.tmod g.1) (by omega) (by omega), w64 (n := a.tdiv g.1 - b.tdiv g.1) (by omega) (by omega)]
  rw [impl_abs_f (by omega) (by omega), impl_abs_f (by omega) (by omega)]
  simp only [Option.bind_some]
  unfold farD at h3 ⊢
  rw [w64 (by omega) (by omega)]
theorem spec_l31Far_f (g : Int × Int × List Bool) (a b : Int) (hw : 1 ≤ g.1) (ha : 0 ≤ a) (ha1 : a ≤ 1000) (hb : 0 ≤ b) (hb1 : b ≤ 1000) : spec_l31Far.f g a b = some (farD g.1 a b) := by
  have h1 := mod_div_bd hw ha ha1
  have h2 := mod_div_bd hw hb hb1
  have h3 := farD_bd hw ha ha1 hb hb1
  have hz : ¬ g.1 = 0 := by omega
  unfold spec_l31Far.f spec_l31Far.fn spec_l31Far.top
  simp only [hz, if_false]
  rw [w64 (n := a.tdiv g.1) (by omega) (by omega), w64 (n := b.tdiv g.1) (by omega) (by omega), w64 (n := a.tmod g.1 - b.tmod g.1) (by omega) (by omega), w64 (n := a.tdiv g.1 - b.tdiv g.1) (by omega) (by omega)]
  rw [spec_l01Abs_f (by omega) (by omega), spec_l01Abs_f (by omega) (by omega)]
  simp only [Option.bind_some]
  unfold farD at h3 ⊢
  rw [w64 (by omega) (by omega)]
end Go.Pl

namespace Go.Pl
open Go.Ev
set_option linter.unusedVariables false
noncomputable section
def impl_NearestLeft.g7 (L7 : Int → Int → Int → Int → Int → Int → (Int × Int × List Bool) → List Int → Option (Int × Int × Int)) (x1 : Int) (y2 : Int) (best9 : Int) (least10 : Int) (v24 : Int) (v25 : Int) (g3 : Int × Int × List Bool) (v23 : List Int) : Option (Int × Int × Int) :=
  if (decide ((v25 : Int) < v24)) = true then
    if (0 : Int) ≤ v25 ∧ (v25 : Int) < v23.length then
      (impl_distanceOf.f g3 (v23.getD (v25 : Int).toNat 0) (IntKind.i64.wrap ((IntKind.i64.wrap (y2 * g3.1)) + x1))).bind fun r4 =>
      if (decide ((least10 : Int) < 0)) = false then
        if (decide ((r4 : Int) < least10)) = true then
          L7 x1 y2 (v23.getD (v25 : Int).toNat 0) r4 v24 (IntKind.i64.wrap (v25 + 1)) g3 v23
        else
          L7 x1 y2 best9 least10 v24 (IntKind.i64.wrap (v25 + 1)) g3 v23
      else
        L7 x1 y2 (v23.getD (v25 : Int).toNat 0) r4 v24 (IntKind.i64.wrap (v25 + 1)) g3 v23
    else
      none
  else if (decide ((least10 : Int) < 0)) = true then
    some (0, 0, 4)
  else
    some (best9, least10, 0)
def impl_NearestLeft.l7 (n : Nat) : Nat → Int → Int → Int → Int → Int → Int → (Int × Int × List Bool) → List Int → Option (Int × Int × Int)
  | 0 => fun _ _ _ _ _ _ _ _ => none
  | k + 1 => impl_NearestLeft.g7 (impl_NearestLeft.l7 n k)
def impl_NearestLeft.top (I7 : Int → Int → Int → Int → Int → Int → (Int × Int × List Bool) → List Int → Option (Int × Int × Int)) (g0 : Int × Int × List Bool) (x1 : Int) (y2 : Int) : Option (Int × Int × Int) :=
  (impl_IsGrid.f g0).bind fun r1 =>
  if (!r1) = true then
    some (0, 0, 1)
  else
    (impl_isCell.f g0 x1 y2).bind fun r2 =>
    if (!r2) = true then
      some (0, 0, 2)
    else
      (impl_cellsLeft.f g0).bind fun r3 =>
      I7 x1 y2 0 (-1) (r3.length : Int) 0 g0 r3
def impl_NearestLeft.fn (n : Nat) (g0 : Int × Int × List Bool) (x1 : Int) (y2 : Int) : Option (Int × Int × Int) := impl_NearestLeft.top (impl_NearestLeft.l7 n n) g0 x1 y2
def impl_NearestLeft.f (g0 : Int × Int × List Bool) (x1 : Int) (y2 : Int) : Option (Int × Int × Int) := impl_NearestLeft.fn NN g0 x1 y2
end
end Go.Pl

namespace Go.Pl
open Go.Ev
set_option linter.unusedVariables false
noncomputable section
def spec_NearestLeft.g9 (L9 : Int → Int → Int → Int → (Int × Int × List Bool) → List Int → Option (Int × Int × Int)) (x1 : Int) (y2 : Int) (best11 : Int) (i12 : Int) (g3 : Int × Int × List Bool) (left10 : List Int) : Option (Int × Int × Int) :=
  if (decide ((i12 : Int) < (left10.length : Int))) = true then
    if (0 : Int) ≤ i12 ∧ (i12 : Int) < left10.length then
      (spec_l31Far.f g3 (left10.getD (i12 : Int).toNat 0) (IntKind.i64.wrap ((IntKind.i64.wrap (y2 * g3.1)) + x1))).bind fun r3 =>
      (spec_l31Far.f g3 best11 (IntKind.i64.wrap ((IntKind.i64.wrap (y2 * g3.1)) + x1))).bind fun r4 =>
      if (decide ((r3 : Int) < r4)) = true then
        if (0 : Int) ≤ i12 ∧ (i12 : Int) < left10.length then
          L9 x1 y2 (left10.getD (i12 : Int).toNat 0) (IntKind.i64.wrap (i12 + 1)) g3 left10
        else
          none
      else
        L9 x1 y2 best11 (IntKind.i64.wrap (i12 + 1)) g3 left10
    else
      none
  else
    (spec_l31Far.f g3 best11 (IntKind.i64.wrap ((IntKind.i64.wrap (y2 * g3.1)) + x1))).bind fun r5 =>
    some (best11, r5, 0)
def spec_NearestLeft.l9 (n : Nat) : Nat → Int → Int → Int → Int → (Int × Int × List Bool) → List Int → Option (Int × Int × Int)
  | 0 => fun _ _ _ _ _ _ => none
  | k + 1 => spec_NearestLeft.g9 (spec_NearestLeft.l9 n k)
def spec_NearestLeft.top (I9 : Int → Int → Int → Int → (Int × Int × List Bool) → List Int → Option (Int × Int × Int)) (g0 : Int × Int × List Bool) (x1 : Int) (y2 : Int) : Option (Int × Int × Int) :=
  (spec_l31Code.f g0 x1 y2).bind fun r1 =>
  if ((r1 : Int) != 0) = true then
    some (0, 0, r1)
  else
    (spec_l31Left.f g0).bind fun r2 =>
    if (((r2.length : Int) : Int) == 0) = true then
      some (0, 0, 4)
    else if (0 : Int) ≤ 0 ∧ (0 : Int) < r2.length then
      I9 x1 y2 (r2.getD (0 : Int).toNat 0) 0 g0 r2
    else
      none
def spec_NearestLeft.fn (n : Nat) (g0 : Int × Int × List Bool) (x1 : Int) (y2 : Int) : Option (Int × Int × Int) := spec_NearestLeft.top (spec_NearestLeft.l9 n n) g0 x1 y2
def spec_NearestLeft.f (g0 : Int × Int × List Bool) (x1 : Int) (y2 : Int) : Option (Int × Int × Int) := spec_NearestLeft.fn NN g0 x1 y2
end
end Go.Pl

namespace Go.Pl
open Go.Ev
set_option linter.unusedVariables false
set_option linter.unusedSimpArgs false
/-- the nearest of some cells -/
def nearF (D : Int → Int) (b : Int) (r : List Int) : Int := r.foldl (fun b c => if D c < D b then c else b) b
theorem nearF_in (D : Int → Int) : ∀ (r : List Int) (b : Int), nearF D b r = b ∨ nearF D b r ∈ r := by
  intro r
  induction r with
  | nil => intro b; exact .inl rfl
  | cons c r ih =>
    intro b
    show nearF D (if D c < D b then c else b) r = b ∨ nearF D (if D c < D b then c else b) r ∈ c :: r
    rcases ih (if D c < D b then c else b) with h | h
    · rw [h]; split
      · right; simp
      · left; rfl
    · right; simp [h]
theorem nearF_snoc (D : Int → Int) (b : Int) (r : List Int) (c : Int) : nearF D b (r ++ [c]) = if D c < D (nearF D b r) then c else nearF D b r := by
  unfold nearF; rw [List.foldl_append]; rfl
def nearX (w : Int) (t : Int) : List Int → Int × Int × Int
  | [] => (0, 0, 4)
  | a :: r => (nearF (farD w · t) a r, farD w (nearF (farD w · t) a r) t, 0)
def nearStep (D : Int → Int) (st : Int × Int) (c : Int) : Int × Int := if st.2 < 0 then (c, D c) else if D c < st.2 then (c, D c) else st
theorem impl_near (w hh : Int) (s : List Bool) (x y t : Int) (ht : t = y * w + x) (hw : 1 ≤ w) (ht0 : 0 ≤ t) (ht1 : t ≤ 1000) (hy : IntKind.i64.wrap (y * w) = y * w) (hyx : IntKind.i64.wrap (y * w + x) = y * w + x) (xs : List Int) (hx : ∀ c ∈ xs, 0 ≤ c ∧ c ≤ 1000) (hl : xs.length ≤ 1000) :
    impl_NearestLeft.l7 NN NN x y 0 (-1) xs.length 0 (w, hh, s) xs = some (nearX w t xs) := by
  have hD : ∀ c, (0 ≤ c ∧ c ≤ 1000) → 0 ≤ farD w c t ∧ farD w c t ≤ 2000 := fun c hc => farD_bd hw hc.1 hc.2 ht0 ht1
  have := fold_fix (E := fun c => 0 ≤ c ∧ c ≤ 1000) (fun p st => (p = [] ∧ st = (0, -1)) ∨ ∃ a q, p = a :: q ∧ st = (nearF (farD w · t) a q, farD w (nearF (farD w · t) a q) t) ∧ 0 ≤ st.2) (fun _ => nearStep (farD w · t)) (fun st => if st.2 < 0 then some (0, 0, 4) else some (st.1, st.2, 0)) (fun k i st => impl_NearestLeft.l7 NN k x y st.1 st.2 xs.length i (w, hh, s) xs) xs ?_ ?_ (0, -1) hx (.inl ⟨rfl, rfl⟩) (by omega) NN (NN_lt (by omega))
  · obtain ⟨h1, h2⟩ := this
    refine h2.trans ?_
    rcases h1 with ⟨rfl, h⟩ | ⟨a, q, rfl, h, h3⟩
    · rw [h]; rfl
    · rw [if_neg (by omega), h]; rfl
  · intro k st _
    simp [impl_NearestLeft.l7, impl_NearestLeft.g7]
  · intro k p c r st hxs hc hI c0 c1 c2 cw g
    constructor
    · rcases hI with ⟨rfl, rfl⟩ | ⟨a, q, rfl, h, h3⟩
      · refine .inr ⟨c, [], rfl, rfl, ?_⟩
        exact (hD c hc).1
      · refine .inr ⟨a, q ++ [c], rfl, ?_, ?_⟩
        · rw [nearF_snoc]
          unfold nearStep
          rw [if_neg (by omega), h]
          simp only
          split <;> rfl
        · unfold nearStep
          rw [if_neg (by omega)]
          split
          · exact (hD c hc).1
          · exact h3
    · simp only [impl_NearestLeft.l7, impl_NearestLeft.g7, c0, c1, cw, and_self, and_true, true_and, decide_true, decide_false, if_true, if_false, mid_get, mid_set, mid_getn, mid_setn, bt_mid, Option.bind_some, Bool.not_true, Bool.not_false, Bool.false_eq_true, Bool.true_eq_false, beq_self_eq_true, bne_self_eq_false, Int.toNat_natCast, g, hy, hyx]
      rw [impl_distanceOf_f _ _ _ hw hc.1 hc.2 (by omega) (by omega), ← ht]
      unfold nearStep
      simp only [Option.bind_some, decide_eq_true_eq, decide_eq_false_iff_not]
      by_cases h1 : st.2 < 0
      · simp [h1]
      · by_cases h2 : farD w c t < st.2
        · simp [h1, h2]
        · simp [h1, h2]
theorem spec_near (w hh : Int) (s : List Bool) (x y t : Int) (ht : t = y * w + x) (hw : 1 ≤ w) (ht0 : 0 ≤ t) (ht1 : t ≤ 1000) (hy : IntKind.i64.wrap (y * w) = y * w) (hyx : IntKind.i64.wrap (y * w + x) = y * w + x) (a : Int) (r : List Int) (hx : ∀ c ∈ a :: r, 0 ≤ c ∧ c ≤ 1000) (hl : (a :: r).length ≤ 1000) :
    spec_NearestLeft.l9 NN NN x y a 0 (w, hh, s) (a :: r) = some (nearF (farD w · t) a r, farD w (nearF (farD w · t) a r) t, 0) := by
  have hin : ∀ (q : List Int), (∀ c ∈ q, 0 ≤ c ∧ c ≤ 1000) → 0 ≤ nearF (farD w · t) a q ∧ nearF (farD w · t) a q ≤ 1000 := fun q hq => by
    rcases nearF_in (farD w · t) q a with h | h
    · rw [h]; exact hx a (by simp)
    · exact hq _ h
  have := fold_fix (E := fun c => 0 ≤ c ∧ c ≤ 1000) (fun p st => st = nearF (farD w · t) a p ∧ ∀ c ∈ p, 0 ≤ c ∧ c ≤ 1000) (fun _ b c => if farD w c t < farD w b t then c else b) (fun st => some (st, farD w st t, 0)) (fun k i st => spec_NearestLeft.l9 NN k x y st i (w, hh, s) (a :: r)) (a :: r) ?_ ?_ a hx ⟨rfl, by simp⟩ (by omega) NN (NN_lt (by omega))
  · obtain ⟨⟨h1, _⟩, h2⟩ := this
    rw [h1] at h2
    refine h2.trans ?_
    have : nearF (farD w · t) a (a :: r) = nearF (farD w · t) a r := by
      show nearF _ (if farD w a t < farD w a t then a else a) r = _
      simp
    rw [this]
  · intro k st hI
    obtain ⟨rfl, hp⟩ := hI
    have := hin _ hp
    simp only [spec_NearestLeft.l9, spec_NearestLeft.g9]
    rw [if_neg (by simp), hy, hyx, spec_l31Far_f _ _ _ hw this.1 this.2 (by omega) (by omega), ← ht]
    rfl
  · intro k p c r' st hxs hc hI c0 c1 c2 cw g
    obtain ⟨rfl, hp⟩ := hI
    have hb := hin _ hp
    refine ⟨⟨(nearF_snoc (farD w · t) a p c).symm, fun d hd => ?_⟩, ?_⟩
    · rcases List.mem_append.1 hd with h | h
      · exact hp d h
      · rw [List.mem_singleton.1 h]; exact hc
    · simp only [spec_NearestLeft.l9, spec_NearestLeft.g9, c0, c1, cw, and_self, and_true, true_and, decide_true, decide_false, if_true, if_false, mid_get, mid_set, mid_getn, mid_setn, bt_mid, Option.bind_some, Bool.not_true, Bool.not_false, Bool.false_eq_true, Bool.true_eq_false, beq_self_eq_true, bne_self_eq_false, Int.toNat_natCast, g, hy, hyx]
      rw [spec_l31Far_f _ _ _ hw hc.1 hc.2 (by omega) (by omega), spec_l31Far_f _ _ _ hw hb.1 hb.2 (by omega) (by omega), ← ht]
      simp only [Option.bind_some, decide_eq_true_eq]
      by_cases h2 : farD w c t < farD w (nearF (farD w · t) a p) t
      · simp [h2]
      · simp [h2]
theorem cell_at {g : Int × Int × List Bool} {x y : Int} (h : gridB g = true) (hc : cellB g x y = true) : 0 ≤ x ∧ x < g.1 ∧ 0 ≤ y ∧ y < g.2.1 ∧ 0 ≤ y * g.1 ∧ y * g.1 + x < (g.2.2.length : Int) ∧ (g.2.2.length : Int) ≤ 144 := by
  have hg := gridB_iff.1 h
  unfold cellB at hc
  simp only [Bool.and_eq_true, inB_iff] at hc
  have h3 := mul_le144 hg.1 hg.2.1 hg.2.2.1 hg.2.2.2.1
  have h4 : 0 ≤ y * g.1 := Int.mul_nonneg (by omega) (by omega)
  have h5 : y * g.1 ≤ (g.2.1 - 1) * g.1 := Int.mul_le_mul_of_nonneg_right (by omega) (by omega)
  have h6 : (g.2.1 - 1) * g.1 = g.1 * g.2.1 - g.1 := by rw [Int.sub_mul, Int.mul_comm]; omega
  omega
theorem NearestLeft_core (g : Int × Int × List Bool) (x y : Int) (h : OkGrid g) (_ : Rg .i64 x) (_ : Rg .i64 y) : ∃ w, spec_NearestLeft.f g x y = some w ∧ impl_NearestLeft.f g x y = some w ∧ True := by
  obtain ⟨w, hh, s⟩ := g
  refine ⟨if gridB (w, hh, s) = true then (if cellB (w, hh, s) x y = true then nearX w (y * w + x) (cellsL s) else (0, 0, 2)) else (0, 0, 1), ?_, ?_, trivial⟩
  · unfold spec_NearestLeft.f spec_NearestLeft.fn spec_NearestLeft.top
    rw [spec_l31Code_f]
    unfold codeG
    cases hg : gridB (w, hh, s)
    · rfl
    cases hc : cellB (w, hh, s) x y
    · rfl
    have hgb := gridB_iff.1 hg
    have hca := cell_at hg hc
    simp only at hca hgb
    have hs := @cellsL_in s
    rw [spec_l31Left_f _ (by simp only; omega)]
    simp only [and_self, and_true, true_and, decide_true, decide_false, if_true, if_false, mid_get, mid_set, mid_getn, mid_setn, bt_mid, Option.bind_some, Bool.not_true, Bool.not_false, Bool.false_eq_true, Bool.true_eq_false, beq_self_eq_true, bne_self_eq_false, Int.toNat_natCast, bne_self_eq_false]
    cases he : cellsL s with
    | nil => simp [nearX]
    | cons a r =>
      rw [he] at hs
      have e0 : ((((a :: r).length : Int)) == 0) = false := by simp; omega
      have e1 : (0 : Int) < ((a :: r).length : Int) := by simp only [List.length_cons]; omega
      have := spec_near w hh s x y (y * w + x) rfl hgb.1 (by omega) (by omega) (w64 (by omega) (by omega)) (w64 (by omega) (by omega)) a r (fun c hc => by have := hs.2 c hc; omega) (by omega)
      simp only [e0, e1, and_self, and_true, true_and, decide_true, decide_false, if_true, if_false, mid_get, mid_set, mid_getn, mid_setn, bt_mid, Option.bind_some, Bool.not_true, Bool.not_false, Bool.false_eq_true, Bool.true_eq_false, beq_self_eq_true, bne_self_eq_false, Int.toNat_natCast, Int.le_refl]
      exact this
  · unfold impl_NearestLeft.f impl_NearestLeft.fn impl_NearestLeft.top
    rw [impl_IsGrid_f]
    cases hg : gridB (w, hh, s)
    · rfl
    simp only [and_self, and_true, true_and, decide_true, decide_false, if_true, if_false, mid_get, mid_set, mid_getn, mid_setn, bt_mid, Option.bind_some, Bool.not_true, Bool.not_false, Bool.false_eq_true, Bool.true_eq_false, beq_self_eq_true, bne_self_eq_false, Int.toNat_natCast]
    rw [impl_isCell_f _ _ _ hg]
    cases hc : cellB (w, hh, s) x y
    · rfl
    have hgb := gridB_iff.1 hg
    have hca := cell_at hg hc
    simp only at hca hgb
    have hs := @cellsL_in s
    simp only [and_self, and_true, true_and, decide_true, decide_false, if_true, if_false, mid_get, mid_set, mid_getn, mid_setn, bt_mid, Option.bind_some, Bool.not_true, Bool.not_false, Bool.false_eq_true, Bool.true_eq_false, beq_self_eq_true, bne_self_eq_false, Int.toNat_natCast]
    rw [impl_cellsLeft_f _ (by simp only; omega)]
    simp only [and_self, and_true, true_and, decide_true, decide_false, if_true, if_false, mid_get, mid_set, mid_getn, mid_setn, bt_mid, Option.bind_some, Bool.not_true, Bool.not_false, Bool.false_eq_true, Bool.true_eq_false, beq_self_eq_true, bne_self_eq_false, Int.toNat_natCast]
    have := impl_near w hh s x y (y * w + x) rfl hgb.1 (by omega) (by omega) (w64 (by omega) (by omega)) (w64 (by omega) (by omega)) (cellsL s) (fun c hc => by have := hs.2 c hc; omega) (by omega)
    rw [this]
end Go.Pl

namespace Go.Pl
open Go.Ev
set_option linter.unusedVariables false
noncomputable section
def impl_isDay.top (day0 : Int) : Option Bool :=
  (impl_within.f day0 0 100000).bind fun r1 =>
  some r1
def impl_isDay.fn (n : Nat) (day0 : Int) : Option Bool := impl_isDay.top day0
def impl_isDay.f (day0 : Int) : Option Bool := impl_isDay.fn NN day0
end
end Go.Pl

namespace Go.Pl
open Go.Ev
set_option linter.unusedVariables false
noncomputable section
def impl_isCalibre.top (n0 : Int) : Option Bool :=
  (impl_within.f n0 20 300).bind fun r1 =>
  some r1
def impl_isCalibre.fn (n : Nat) (n0 : Int) : Option Bool := impl_isCalibre.top n0
def impl_isCalibre.f (n0 : Int) : Option Bool := impl_isCalibre.fn NN n0
end
end Go.Pl

namespace Go.Pl
open Go.Ev
set_option linter.unusedVariables false
noncomputable section
def impl_IsPermit.g4 (L4 : Int → (Int × Int × Int × Int × List Int × Int) → Option Bool) (i3 : Int) (p1 : Int × Int × Int × Int × List Int × Int) : Option Bool :=
  if (decide ((i3 : Int) < (p1.2.2.2.2.1.length : Int))) = true then
    if (0 : Int) ≤ (IntKind.i64.wrap (i3 - 1)) ∧ ((IntKind.i64.wrap (i3 - 1)) : Int) < p1.2.2.2.2.1.length then
      if (0 : Int) ≤ i3 ∧ (i3 : Int) < p1.2.2.2.2.1.length then
        if (decide (((p1.2.2.2.2.1.getD (i3 : Int).toNat 0) : Int) ≤ (p1.2.2.2.2.1.getD ((IntKind.i64.wrap (i3 - 1)) : Int).toNat 0))) = true then
          some false
        else
          L4 (IntKind.i64.wrap (i3 + 1)) p1
      else
        none
    else
      none
  else
    some true
def impl_IsPermit.l4 (n : Nat) : Nat → Int → (Int × Int × Int × Int × List Int × Int) → Option Bool
  | 0 => fun _ _ => none
  | k + 1 => impl_IsPermit.g4 (impl_IsPermit.l4 n k)
def impl_IsPermit.top (I4 : Int → (Int × Int × Int × Int × List Int × Int) → Option Bool) (p0 : Int × Int × Int × Int × List Int × Int) : Option Bool :=
  (impl_isDay.f p0.1).bind fun r1 =>
  if (!r1) = false then
    (impl_isDay.f p0.2.1).bind fun r2 =>
    if (!r2) = false then
      if (decide ((p0.2.1 : Int) < p0.1)) = false then
        (impl_within.f p0.2.2.1 0 1000000000).bind fun r3 =>
        if (!r3) = false then
          (impl_isCalibre.f p0.2.2.2.1).bind fun r4 =>
          if (!r4) = false then
            (impl_within.f p0.2.2.2.2.2 0 3).bind fun r5 =>
            if (!r5) = false then
              (impl_allWithin.f p0.2.2.2.2.1 0 3).bind fun r6 =>
              if (!r6) = true then
                some false
              else
                I4 1 p0
            else
              some false
          else
            some false
        else
          some false
      else
        some false
    else
      some false
  else
    some false
def impl_IsPermit.fn (n : Nat) (p0 : Int × Int × Int × Int × List Int × Int) : Option Bool := impl_IsPermit.top (impl_IsPermit.l4 n n) p0
def impl_IsPermit.f (p0 : Int × Int × Int × Int × List Int × Int) : Option Bool := impl_IsPermit.fn NN p0
end
end Go.Pl

namespace Go.Pl
open Go.Ev
set_option linter.unusedVariables false
noncomputable section
def spec_l01Rises.g2 (L2 : List Int → Int → Int → Option Bool) (list0 : List Int) (n1 : Int) (i5 : Int) : Option Bool :=
  if (decide ((i5 : Int) < (list0.length : Int))) = true then
    if (0 : Int) ≤ i5 ∧ (i5 : Int) < list0.length then
      (spec_l01In.f (list0.getD (i5 : Int).toNat 0) 0 (IntKind.i64.wrap (n1 - 1))).bind fun r1 =>
      if (!r1) = false then
        if (decide ((0 : Int) < i5)) = true then
          if (0 : Int) ≤ i5 ∧ (i5 : Int) < list0.length then
            if (0 : Int) ≤ (IntKind.i64.wrap (i5 - 1)) ∧ ((IntKind.i64.wrap (i5 - 1)) : Int) < list0.length then
              if (decide (((list0.getD (i5 : Int).toNat 0) : Int) ≤ (list0.getD ((IntKind.i64.wrap (i5 - 1)) : Int).toNat 0))) = true then
                some false
              else
                L2 list0 n1 (IntKind.i64.wrap (i5 + 1))
            else
              none
          else
            none
        else
          L2 list0 n1 (IntKind.i64.wrap (i5 + 1))
      else
        some false
    else
      none
  else
    some true
def spec_l01Rises.l2 (n : Nat) : Nat → List Int → Int → Int → Option Bool
  | 0 => fun _ _ _ => none
  | k + 1 => spec_l01Rises.g2 (spec_l01Rises.l2 n k)
def spec_l01Rises.top (I2 : List Int → Int → Int → Option Bool) (list0 : List Int) (n1 : Int) : Option Bool :=
  I2 list0 n1 0
def spec_l01Rises.fn (n : Nat) (list0 : List Int) (n1 : Int) : Option Bool := spec_l01Rises.top (spec_l01Rises.l2 n n) list0 n1
def spec_l01Rises.f (list0 : List Int) (n1 : Int) : Option Bool := spec_l01Rises.fn NN list0 n1
end
end Go.Pl

namespace Go.Pl
open Go.Ev
set_option linter.unusedVariables false
noncomputable section
def spec_IsPermit.top (p0 : Int × Int × Int × Int × List Int × Int) : Option Bool :=
  (spec_l01In.f p0.1 0 100000).bind fun r1 =>
  if r1 = true then
    (spec_l01In.f p0.2.1 p0.1 100000).bind fun r2 =>
    if r2 = true then
      (spec_l01In.f p0.2.2.1 0 1000000000).bind fun r3 =>
      if r3 = true then
        (spec_l01In.f p0.2.2.2.1 20 300).bind fun r4 =>
        if r4 = true then
          (spec_l01Rises.f p0.2.2.2.2.1 4).bind fun r5 =>
          if r5 = true then
            (spec_l01In.f p0.2.2.2.2.2 0 3).bind fun r6 =>
            some r6
          else
            some false
        else
          some false
      else
        some false
    else
      some false
  else
    some false
def spec_IsPermit.fn (n : Nat) (p0 : Int × Int × Int × Int × List Int × Int) : Option Bool := spec_IsPermit.top p0
def spec_IsPermit.f (p0 : Int × Int × Int × Int × List Int × Int) : Option Bool := spec_IsPermit.fn NN p0
end
end Go.Pl

namespace Go.Pl
open Go.Ev
set_option linter.unusedVariables false
set_option linter.unusedSimpArgs false
theorem impl_isDay_f (n : Int) : impl_isDay.f n = some (inB n 0 100000) := by
  unfold impl_isDay.f impl_isDay.fn impl_isDay.top
  rw [impl_within_f]; rfl
theorem impl_isCalibre_f (n : Int) : impl_isCalibre.f n = some (inB n 20 300) := by
  unfold impl_isCalibre.f impl_isCalibre.fn impl_isCalibre.top
  rw [impl_within_f]; rfl
theorem impl_allWithin_f (xs : List Int) (lo hi : Int) (h : xs.length ≤ 140737488355328) : impl_allWithin.f xs lo hi = some (xs.all (inB · lo hi)) := by
  have := all_loop (E := fun _ => True) (inB · lo hi) (fun _ => some true) (fun k xs i => impl_allWithin.l2 NN k lo hi xs xs.length i) ?_ ?_ xs (fun _ _ => trivial) h NN (NN_lt (by omega))
  · unfold impl_allWithin.f impl_allWithin.fn impl_allWithin.top
    refine this.trans ?_
    cases xs.all (inB · lo hi) <;> simp
  · intro k p
    simp [impl_allWithin.l2, impl_allWithin.g2]
  · intro k p a r _ c0 c1 cw
    simp only [impl_allWithin.l2, impl_allWithin.g2, c0, c1, cw, and_self, and_true, true_and, decide_true, decide_false, if_true, if_false, mid_get, mid_set, mid_getn, mid_setn, bt_mid, Option.bind_some, Bool.not_true, Bool.not_false, Bool.false_eq_true, Bool.true_eq_false, beq_self_eq_true, bne_self_eq_false, Int.toNat_natCast, impl_within_f]
    cases inB a lo hi <;> simp
/-- strictly rising -/
def risB : List Int → Bool
  | [] => true
  | [_] => true
  | a :: b :: r => decide (a < b) && risB (b :: r)
theorem risB_snoc : ∀ (p : List Int) (a b : Int), risB (p ++ [a, b]) = (risB (p ++ [a]) && decide (a < b)) := by
  intro p
  induction p with
  | nil => intro a b; simp [risB]
  | cons x p ih =>
    intro a b
    cases p with
    | nil => simp [risB]
    | cons y p =>
      have := ih a b
      simp only [List.cons_append] at this ⊢
      simp only [risB, this, Bool.and_assoc]
/-- rises, looked at from its second element on -/
def risF : Int → List Int → Bool
  | _, [] => true
  | a, b :: r => decide (a < b) && risF b r
theorem risB_cons (a : Int) (r : List Int) : risB (a :: r) = risF a r := by
  induction r generalizing a with
  | nil => rfl
  | cons b r ih => simp only [risB, risF, ih]
theorem snoc_getl (p r : List Int) (x a z : Int) : (p ++ [x] ++ a :: r).getD p.length z = x := by simp
theorem impl_IsPermit_loop (f t n c g : Int) : ∀ (r p : List Int) (x : Int) (k : Nat), p.length + r.length + 1 ≤ 140737488355328 → r.length < k →
    impl_IsPermit.l4 NN k ((p.length : Int) + 1) (f, t, n, c, p ++ [x] ++ r, g) = some (risF x r) := by
  intro r
  induction r with
  | nil =>
    intro p x k _ hk
    obtain ⟨k, rfl⟩ : ∃ j, k = j + 1 := ⟨k - 1, by omega⟩
    simp [impl_IsPermit.l4, impl_IsPermit.g4, risF]
  | cons a r ih =>
    intro p x k hb hk
    simp only [List.length_cons] at hb hk
    obtain ⟨k, rfl⟩ : ∃ j, k = j + 1 := ⟨k - 1, by omega⟩
    have hl : ((p ++ [x] ++ a :: r).length : Int) = p.length + r.length + 2 := by simp; omega
    have w1 := w64 (n := (p.length : Int) + 1 - 1) (by omega) (by omega)
    have w2 := w64 (n := (p.length : Int) + 1 + 1) (by omega) (by omega)
    have c1 : (p.length : Int) + 1 < ((p ++ [x] ++ a :: r).length : Int) := by omega
    have c2 : (0 : Int) ≤ (p.length : Int) + 1 - 1 := by omega
    have c3 : (p.length : Int) + 1 - 1 < ((p ++ [x] ++ a :: r).length : Int) := by omega
    have c4 : (0 : Int) ≤ (p.length : Int) + 1 := by omega
    have g1 : (p ++ [x] ++ a :: r).getD ((p.length : Int) + 1).toNat 0 = a := by
      rw [show ((p.length : Int) + 1).toNat = (p ++ [x]).length by simp, mid_getn]
    have g2 : (p ++ [x] ++ a :: r).getD ((p.length : Int) + 1 - 1).toNat 0 = x := by
      rw [show ((p.length : Int) + 1 - 1).toNat = p.length by omega, snoc_getl]
    simp only [impl_IsPermit.l4, impl_IsPermit.g4, w1, w2, c1, c2, c3, c4, g1, g2, and_self, decide_true, if_true, decide_eq_true_eq, risF]
    have := ih (p ++ [x]) a k (by simp; omega) (by omega)
    by_cases h : a ≤ x
    · have h' : ¬ x < a := by omega
      simp [h, h']
    · have h' : x < a := by omega
      simp only [h, h', if_false, decide_true, Bool.true_and]
      rw [← this]
      simp
theorem spec_l01Rises_loop (n : Int) (hn : Rg .i64 (n - 1)) : ∀ (r p : List Int) (x : Int) (k : Nat), p.length + r.length + 1 ≤ 140737488355328 → r.length < k →
    spec_l01Rises.l2 NN k (p ++ [x] ++ r) n ((p.length : Int) + 1) = some (r.all (inB · 0 (n - 1)) && risF x r) := by
  intro r
  induction r with
  | nil =>
    intro p x k _ hk
    obtain ⟨k, rfl⟩ : ∃ j, k = j + 1 := ⟨k - 1, by omega⟩
    simp [spec_l01Rises.l2, spec_l01Rises.g2, risF]
  | cons a r ih =>
    intro p x k hb hk
    simp only [List.length_cons] at hb hk
    obtain ⟨k, rfl⟩ : ∃ j, k = j + 1 := ⟨k - 1, by omega⟩
    have hl : ((p ++ [x] ++ a :: r).length : Int) = p.length + r.length + 2 := by simp; omega
    have w1 := w64 (n := (p.length : Int) + 1 - 1) (by omega) (by omega)
    have w2 := w64 (n := (p.length : Int) + 1 + 1) (by omega) (by omega)
    have hn' := wf64.1 hn
    have w3 := w64 (n := n - 1) (by omega) (by omega)
    have c1 : (p.length : Int) + 1 < ((p ++ [x] ++ a :: r).length : Int) := by omega
    have c2 : (0 : Int) ≤ (p.length : Int) + 1 - 1 := by omega
    have c3 : (p.length : Int) + 1 - 1 < ((p ++ [x] ++ a :: r).length : Int) := by omega
    have c4 : (0 : Int) ≤ (p.length : Int) + 1 := by omega
    have c5 : (0 : Int) < (p.length : Int) + 1 := by omega
    have g1 : (p ++ [x] ++ a :: r).getD ((p.length : Int) + 1).toNat 0 = a := by
      rw [show ((p.length : Int) + 1).toNat = (p ++ [x]).length by simp, mid_getn]
    have g2 : (p ++ [x] ++ a :: r).getD ((p.length : Int) + 1 - 1).toNat 0 = x := by
      rw [show ((p.length : Int) + 1 - 1).toNat = p.length by omega, snoc_getl]
    simp only [spec_l01Rises.l2, spec_l01Rises.g2, w1, w2, w3, c1, c2, c3, c4, c5, g1, g2, and_self, decide_true, if_true, decide_eq_true_eq, risF, spec_l01In_f, Option.bind_some, List.all_cons]
    have := ih (p ++ [x]) a k (by simp; omega) (by omega)
    cases h0 : inB a 0 (n - 1)
    · simp
    by_cases h : a ≤ x
    · have h' : ¬ x < a := by omega
      simp [h, h']
    · have h' : x < a := by omega
      simp only [h, h', if_false, decide_true, Bool.true_and, Bool.not_true, if_true]
      rw [← this]
      simp
theorem spec_l01Rises_f (xs : List Int) (n : Int) (hn : Rg .i64 (n - 1)) (h : xs.length ≤ 140737488355328) : spec_l01Rises.f xs n = some (xs.all (inB · 0 (n - 1)) && risB xs) := by
  unfold spec_l01Rises.f spec_l01Rises.fn spec_l01Rises.top
  obtain ⟨k, hk⟩ : ∃ j, NN = j + 1 := ⟨NN - 1, by have := NNb; omega⟩
  have hkb : 1000000000000000 < k := by rw [NN_eq] at hk; omega
  cases xs with
  | nil => rw [show spec_l01Rises.l2 NN NN = spec_l01Rises.l2 NN (k + 1) by rw [← hk]]; simp [spec_l01Rises.l2, spec_l01Rises.g2, risB]
  | cons a r =>
    simp only [List.length_cons] at h
    have hl := spec_l01Rises_loop n hn r [] a k (by simp; omega) (by omega)
    have hn' := wf64.1 hn
    have w3 := w64 (n := n - 1) (by omega) (by omega)
    have w1 := w64 (n := 0 + 1) (by omega) (by omega)
    have c1 : (0 : Int) < ((a :: r).length : Int) := by simp only [List.length_cons]; omega
    rw [show spec_l01Rises.l2 NN NN = spec_l01Rises.l2 NN (k + 1) by rw [← hk]]
    simp only [spec_l01Rises.l2, spec_l01Rises.g2, c1, w1, w3, spec_l01In_f]
    simp at hl
    simp [risB_cons, hl]
    cases inB a 0 (n - 1) <;> simp
def permB (p : Int × Int × Int × Int × List Int × Int) : Bool :=
  inB p.1 0 100000 && inB p.2.1 p.1 100000 && inB p.2.2.1 0 1000000000 && inB p.2.2.2.1 20 300 && (p.2.2.2.2.1.all (inB · 0 3) && risB p.2.2.2.2.1) && inB p.2.2.2.2.2 0 3
theorem spec_IsPermit_f (p : Int × Int × Int × Int × List Int × Int) (h : p.2.2.2.2.1.length ≤ 140737488355328) : spec_IsPermit.f p = some (permB p) := by
  unfold spec_IsPermit.f spec_IsPermit.fn spec_IsPermit.top permB
  simp only [spec_l01In_f, spec_l01Rises_f _ 4 (wf64.2 (by omega)) h, Option.bind_some, show (4 : Int) - 1 = 3 from rfl]
  cases inB p.1 0 100000 <;> cases inB p.2.1 p.1 100000 <;> cases inB p.2.2.1 0 1000000000 <;> cases inB p.2.2.2.1 20 300 <;> cases (p.2.2.2.2.1.all (inB · 0 3)) <;> cases risB p.2.2.2.2.1 <;> cases inB p.2.2.2.2.2 0 3 <;> rfl
theorem impl_IsPermit_f (p : Int × Int × Int × Int × List Int × Int) (h : p.2.2.2.2.1.length ≤ 140737488355328) : impl_IsPermit.f p = some (permB p) := by
  unfold impl_IsPermit.f impl_IsPermit.fn impl_IsPermit.top permB
  obtain ⟨f, t, n, c, ks, g⟩ := p
  simp only at h
  have hl : impl_IsPermit.l4 NN NN 1 (f, t, n, c, ks, g) = some (risB ks) := by
    cases ks with
    | nil =>
      obtain ⟨k, hk⟩ : ∃ j, NN = j + 1 := ⟨NN - 1, by have := NNb; omega⟩
      rw [show impl_IsPermit.l4 NN NN = impl_IsPermit.l4 NN (k + 1) by rw [← hk]]
      simp [impl_IsPermit.l4, impl_IsPermit.g4, risB]
    | cons a r =>
      simp only [List.length_cons] at h
      have := impl_IsPermit_loop f t n c g r [] a NN (by simp; omega) (NN_lt (by omega))
      simp at this
      rw [risB_cons, ← this]
  simp only [impl_isDay_f, impl_isCalibre_f, impl_within_f, impl_allWithin_f _ _ _ h, Option.bind_some, hl]
  have e : (inB f 0 100000 && inB t f 100000) = (inB f 0 100000 && inB t 0 100000 && !decide (t < f)) := by
    unfold inB
    by_cases h1 : 0 ≤ f <;> by_cases h2 : f ≤ 100000 <;> by_cases h3 : t ≤ 100000 <;> by_cases h4 : f ≤ t <;> by_cases h5 : 0 ≤ t <;> simp [h1, h2, h3, h4, h5] <;> omega
  rw [e]
  cases inB f 0 100000 <;> cases inB t 0 100000 <;> cases decide (t < f) <;> cases inB n 0 1000000000 <;> cases inB c 20 300 <;> cases (ks.all (inB · 0 3)) <;> cases inB g 0 3 <;> simp
theorem IsPermit_core (p : Int × Int × Int × Int × List Int × Int) (h : OkPermit p) : ∃ w, spec_IsPermit.f p = some w ∧ impl_IsPermit.f p = some w ∧ True :=
  have h1 : p.2.2.2.2.1.length ≤ 140737488355328 := Nat.le_trans h.2.2.2.2.1.1 (by omega)
  ⟨_, spec_IsPermit_f p h1, impl_IsPermit_f p h1, trivial⟩
end Go.Pl

namespace Go.Pl
open Go.Ev
set_option linter.unusedVariables false
noncomputable section
def impl_CellsLeft.top (g0 : Int × Int × List Bool) : Option (List Int × Int) :=
  (impl_IsGrid.f g0).bind fun r1 =>
  if (!r1) = true then
    some ([], 1)
  else
    (impl_cellsLeft.f g0).bind fun r2 =>
    some (r2, 0)
def impl_CellsLeft.fn (n : Nat) (g0 : Int × Int × List Bool) : Option (List Int × Int) := impl_CellsLeft.top g0
def impl_CellsLeft.f (g0 : Int × Int × List Bool) : Option (List Int × Int) := impl_CellsLeft.fn NN g0
end
end Go.Pl

namespace Go.Pl
open Go.Ev
set_option linter.unusedVariables false
noncomputable section
def spec_CellsLeft.top (g0 : Int × Int × List Bool) : Option (List Int × Int) :=
  (spec_l31Code.f g0 0 0).bind fun r1 =>
  if ((r1 : Int) != 0) = true then
    some ([], r1)
  else
    (spec_l31Left.f g0).bind fun r2 =>
    some (r2, 0)
def spec_CellsLeft.fn (n : Nat) (g0 : Int × Int × List Bool) : Option (List Int × Int) := spec_CellsLeft.top g0
def spec_CellsLeft.f (g0 : Int × Int × List Bool) : Option (List Int × Int) := spec_CellsLeft.fn NN g0
end
end Go.Pl

namespace Go.Pl
open Go.Ev
set_option linter.unusedVariables false
set_option linter.unusedSimpArgs false
theorem small_rg {xs : List Int} {n : Nat} (h : xs.length ≤ 1000000) (h2 : ∀ c ∈ xs, 0 ≤ c ∧ c ≤ 1000000) : Lm (Rg .i64) xs := ⟨h, fun c hc => wf64.2 (by have := h2 c hc; omega)⟩
theorem CellsLeft_core (g : Int × Int × List Bool) (h : OkGrid g) : ∃ w, spec_CellsLeft.f g = some w ∧ impl_CellsLeft.f g = some w ∧ Lm (Rg .i64) w.1 := by
  have hl : g.2.2.length ≤ 1000000 := h.2.2.1
  refine ⟨if gridB g = true then (cellsL g.2.2, 0) else ([], 1), ?_, ?_, ?_⟩
  · unfold spec_CellsLeft.f spec_CellsLeft.fn spec_CellsLeft.top
    rw [spec_l31Code_f, code00]
    cases gridB g
    · rfl
    · simp only [and_self, and_true, true_and, decide_true, decide_false, if_true, if_false, mid_get, mid_set, mid_getn, mid_setn, bt_mid, Option.bind_some, Bool.not_true, Bool.not_false, Bool.false_eq_true, Bool.true_eq_false, beq_self_eq_true, bne_self_eq_false, Int.toNat_natCast]
      rw [spec_l31Left_f g hl]; rfl
  · unfold impl_CellsLeft.f impl_CellsLeft.fn impl_CellsLeft.top
    rw [impl_IsGrid_f]
    cases gridB g
    · rfl
    · simp only [and_self, and_true, true_and, decide_true, decide_false, if_true, if_false, mid_get, mid_set, mid_getn, mid_setn, bt_mid, Option.bind_some, Bool.not_true, Bool.not_false, Bool.false_eq_true, Bool.true_eq_false, beq_self_eq_true, bne_self_eq_false, Int.toNat_natCast]
      rw [impl_cellsLeft_f g hl]; rfl
  · have := @cellsL_in g.2.2
    split
    · exact ⟨by simp only; omega, fun c hc => wf64.2 (by have := this.2 c hc; omega)⟩
    · exact ⟨by simp, fun c hc => by cases hc⟩
def cellsB (g : Int × Int × List Bool) (cells : List Int) : Bool := decide (cells.length ≤ 200) && cells.all (inB · 0 (g.1 * g.2.1 - 1))
theorem impl_areCells_f (g : Int × Int × List Bool) (cells : List Int) (h : gridB g = true) (hc : cells.length ≤ 1000000) : impl_areCells.f g cells = some (cellsB g cells) := by
  have hg := gridB_iff.1 h
  have h3 := mul_le144 hg.1 hg.2.1 hg.2.2.1 hg.2.2.2.1
  unfold impl_areCells.f impl_areCells.fn impl_areCells.top cellsB
  rw [w64 (n := g.1 * g.2.1) (by omega) (by omega), w64 (by omega) (by omega), impl_allWithin_f _ _ _ (by omega)]
  by_cases h1 : cells.length ≤ 200
  · have : (cells.length : Int) ≤ 200 := by omega
    simp [h1, this]
  · have : ¬ (cells.length : Int) ≤ 200 := by omega
    simp [h1, this]
theorem spec_l31Cells_f (g : Int × Int × List Bool) (cells : List Int) (hc : cells.length ≤ 1000000) : spec_l31Cells.f g cells = some (if gridB g = true then (if cellsB g cells = true then 0 else 2) else 1) := by
  unfold spec_l31Cells.f spec_l31Cells.fn spec_l31Cells.top
  rw [spec_IsGrid_f]
  cases h : gridB g
  · rfl
  have hg := gridB_iff.1 h
  have h3 := mul_le144 hg.1 hg.2.1 hg.2.2.1 hg.2.2.2.1
  simp only [and_self, and_true, true_and, decide_true, decide_false, if_true, if_false, mid_get, mid_set, mid_getn, mid_setn, bt_mid, Option.bind_some, Bool.not_true, Bool.not_false, Bool.false_eq_true, Bool.true_eq_false, beq_self_eq_true, bne_self_eq_false, Int.toNat_natCast]
  have := find_loop (E := fun _ => True) (fun c => !(inB c 0 (g.1 * g.2.1 - 1))) (fun _ _ => some (2 : Int)) (fun xs => if (200 : Int) < xs.length then some 2 else some 0) (fun k xs i => spec_l31Cells.l4 NN k xs i g) ?_ ?_ cells (fun _ _ => trivial) (by omega) NN (NN_lt (by omega))
  · refine this.trans ?_
    have key : ∀ (xs : List Int) (i : Nat), (firstOf (fun c => !(inB c 0 (g.1 * g.2.1 - 1))) i xs).elim (if (200 : Int) < cells.length then some 2 else some 0) (fun _ => some (2 : Int)) = if xs.all (inB · 0 (g.1 * g.2.1 - 1)) = true then (if (200 : Int) < cells.length then some 2 else some 0) else some 2 := by
      intro xs
      induction xs with
      | nil => intro i; simp [firstOf]
      | cons a r ih =>
        intro i
        cases h5 : inB a 0 (g.1 * g.2.1 - 1)
        · simp [firstOf, h5]
        · simp only [firstOf, h5, Bool.not_true, Bool.false_eq_true, if_false, List.all_cons, Bool.true_and]
          exact ih _
    refine (key cells 0).trans ?_
    unfold cellsB
    by_cases h1 : cells.length ≤ 200
    · have : ¬ (200 : Int) < cells.length := by omega
      cases cells.all (inB · 0 (g.1 * g.2.1 - 1)) <;> simp [h1, this]
    · have : (200 : Int) < cells.length := by omega
      cases cells.all (inB · 0 (g.1 * g.2.1 - 1)) <;> simp [h1, this]
  · intro k p
    simp [spec_l31Cells.l4, spec_l31Cells.g4]
  · intro k p a r _ c0 c1 c2 cw
    simp only [spec_l31Cells.l4, spec_l31Cells.g4, c0, c1, cw, and_self, and_true, true_and, decide_true, decide_false, if_true, if_false, mid_get, mid_set, mid_getn, mid_setn, bt_mid, Option.bind_some, Bool.not_true, Bool.not_false, Bool.false_eq_true, Bool.true_eq_false, beq_self_eq_true, bne_self_eq_false, Int.toNat_natCast, spec_l01In_f]
    rw [w64 (n := g.1 * g.2.1) (by omega) (by omega), w64 (by omega) (by omega)]
theorem cellsB_iff {g : Int × Int × List Bool} {cells : List Int} (h : gridB g = true) (hc : cellsB g cells = true) : cells.length ≤ 200 ∧ ∀ c ∈ cells, 0 ≤ c ∧ c < (g.2.2.length : Int) ∧ c < 144 := by
  have hg := gridB_iff.1 h
  have h3 := mul_le144 hg.1 hg.2.1 hg.2.2.1 hg.2.2.2.1
  unfold cellsB at hc
  simp only [Bool.and_eq_true, decide_eq_true_eq, List.all_eq_true, inB_iff] at hc
  exact ⟨hc.1, fun c h => by have := hc.2 c h; omega⟩
end Go.Pl

namespace Go.Pl
open Go.Ev
set_option linter.unusedVariables false
noncomputable section
def impl_WalkLength.g7 (L7 : List Int → Int → Int → (Int × Int × List Bool) → Option (Int × Int)) (cells1 : List Int) (sum6 : Int) (i7 : Int) (g2 : Int × Int × List Bool) : Option (Int × Int) :=
  if (decide ((i7 : Int) < (cells1.length : Int))) = true then
    if (0 : Int) ≤ (IntKind.i64.wrap (i7 - 1)) ∧ ((IntKind.i64.wrap (i7 - 1)) : Int) < cells1.length then
      if (0 : Int) ≤ i7 ∧ (i7 : Int) < cells1.length then
        (impl_distanceOf.f g2 (cells1.getD ((IntKind.i64.wrap (i7 - 1)) : Int).toNat 0) (cells1.getD (i7 : Int).toNat 0)).bind fun r3 =>
        L7 cells1 (IntKind.i64.wrap (sum6 + r3)) (IntKind.i64.wrap (i7 + 1)) g2
      else
        none
    else
      none
  else
    some (sum6, 0)
def impl_WalkLength.l7 (n : Nat) : Nat → List Int → Int → Int → (Int × Int × List Bool) → Option (Int × Int)
  | 0 => fun _ _ _ _ => none
  | k + 1 => impl_WalkLength.g7 (impl_WalkLength.l7 n k)
def impl_WalkLength.top (I7 : List Int → Int → Int → (Int × Int × List Bool) → Option (Int × Int)) (g0 : Int × Int × List Bool) (cells1 : List Int) : Option (Int × Int) :=
  (impl_IsGrid.f g0).bind fun r1 =>
  if (!r1) = true then
    some (0, 1)
  else
    (impl_areCells.f g0 cells1).bind fun r2 =>
    if (!r2) = true then
      some (0, 2)
    else
      I7 cells1 0 1 g0
def impl_WalkLength.fn (n : Nat) (g0 : Int × Int × List Bool) (cells1 : List Int) : Option (Int × Int) := impl_WalkLength.top (impl_WalkLength.l7 n n) g0 cells1
def impl_WalkLength.f (g0 : Int × Int × List Bool) (cells1 : List Int) : Option (Int × Int) := impl_WalkLength.fn NN g0 cells1
end
end Go.Pl

namespace Go.Pl
open Go.Ev
set_option linter.unusedVariables false
noncomputable section
def spec_WalkLength.g6 (L6 : List Int → Int → Int → (Int × Int × List Bool) → Option (Int × Int)) (cells1 : List Int) (n7 : Int) (i8 : Int) (g2 : Int × Int × List Bool) : Option (Int × Int) :=
  if (decide ((i8 : Int) < (cells1.length : Int))) = true then
    if (0 : Int) ≤ (IntKind.i64.wrap (i8 - 1)) ∧ ((IntKind.i64.wrap (i8 - 1)) : Int) < cells1.length then
      if (0 : Int) ≤ i8 ∧ (i8 : Int) < cells1.length then
        (spec_l31Far.f g2 (cells1.getD ((IntKind.i64.wrap (i8 - 1)) : Int).toNat 0) (cells1.getD (i8 : Int).toNat 0)).bind fun r2 =>
        L6 cells1 (IntKind.i64.wrap (n7 + r2)) (IntKind.i64.wrap (i8 + 1)) g2
      else
        none
    else
      none
  else
    some (n7, 0)
def spec_WalkLength.l6 (n : Nat) : Nat → List Int → Int → Int → (Int × Int × List Bool) → Option (Int × Int)
  | 0 => fun _ _ _ _ => none
  | k + 1 => spec_WalkLength.g6 (spec_WalkLength.l6 n k)
def spec_WalkLength.top (I6 : List Int → Int → Int → (Int × Int × List Bool) → Option (Int × Int)) (g0 : Int × Int × List Bool) (cells1 : List Int) : Option (Int × Int) :=
  (spec_l31Cells.f g0 cells1).bind fun r1 =>
  if ((r1 : Int) != 0) = true then
    some (0, r1)
  else
    I6 cells1 0 1 g0
def spec_WalkLength.fn (n : Nat) (g0 : Int × Int × List Bool) (cells1 : List Int) : Option (Int × Int) := spec_WalkLength.top (spec_WalkLength.l6 n n) g0 cells1
def spec_WalkLength.f (g0 : Int × Int × List Bool) (cells1 : List Int) : Option (Int × Int) := spec_WalkLength.fn NN g0 cells1
end
end Go.Pl

namespace Go.Pl
open Go.Ev
set_option linter.unusedVariables false
set_option linter.unusedSimpArgs false
def walkF (D : Int → Int → Int) : Int → List Int → Int
  | _, [] => 0
  | x, a :: r => D x a + walkF D a r
def walkL (D : Int → Int → Int) : List Int → Int
  | [] => 0
  | a :: r => walkF D a r
theorem impl_WalkLength_loop (G : Int × Int × List Bool) (hw : 1 ≤ G.1) : ∀ (r p : List Int) (x s : Int) (k : Nat), p.length + r.length + 1 ≤ 1000 → r.length < k → (∀ c ∈ x :: r, 0 ≤ c ∧ c ≤ 1000) → 0 ≤ s → s ≤ 10000 * p.length →
    impl_WalkLength.l7 NN k (p ++ [x] ++ r) s ((p.length : Int) + 1) G = some (s + walkF (farD G.1) x r, 0) := by
  intro r
  induction r with
  | nil =>
    intro p x s k _ hk _ _ _
    obtain ⟨k, rfl⟩ : ∃ j, k = j + 1 := ⟨k - 1, by omega⟩
    simp [impl_WalkLength.l7, impl_WalkLength.g7, walkF]
  | cons a r ih =>
    intro p x s k hb hk hc hs0 hs1
    simp only [List.length_cons] at hb hk
    obtain ⟨k, rfl⟩ : ∃ j, k = j + 1 := ⟨k - 1, by omega⟩
    have hl : ((p ++ [x] ++ a :: r).length : Int) = p.length + r.length + 2 := by simp; omega
    have w1 := w64 (n := (p.length : Int) + 1 - 1) (by omega) (by omega)
    have w2 := w64 (n := (p.length : Int) + 1 + 1) (by omega) (by omega)
    have c1 : (p.length : Int) + 1 < ((p ++ [x] ++ a :: r).length : Int) := by omega
    have c2 : (0 : Int) ≤ (p.length : Int) + 1 - 1 := by omega
    have c3 : (p.length : Int) + 1 - 1 < ((p ++ [x] ++ a :: r).length : Int) := by omega
    have c4 : (0 : Int) ≤ (p.length : Int) + 1 := by omega
    have g1 : (p ++ [x] ++ a :: r).getD ((p.length : Int) + 1).toNat 0 = a := by
      rw [show ((p.length : Int) + 1).toNat = (p ++ [x]).length by simp, mid_getn]
    have g2 : (p ++ [x] ++ a :: r).getD ((p.length : Int) + 1 - 1).toNat 0 = x := by
      rw [show ((p.length : Int) + 1 - 1).toNat = p.length by omega, snoc_getl]
    have hx := hc x (by simp)
    have ha := hc a (by simp)
    have hD := farD_bd hw hx.1 hx.2 ha.1 ha.2
    have w3 := w64 (n := s + farD G.1 x a) (by omega) (by omega)
    simp only [impl_WalkLength.l7, impl_WalkLength.g7, w1, w2, c1, c2, c3, c4, g1, g2, and_self, decide_true, if_true, decide_eq_true_eq, impl_distanceOf_f G x a hw hx.1 hx.2 ha.1 ha.2, Option.bind_some, w3]
    have := ih (p ++ [x]) a (s + farD G.1 x a) k (by simp; omega) (by omega) (fun c h => hc c (by simp at h ⊢; right; exact h)) (by omega) (by simp; omega)
    simp only [walkF]
    rw [← Int.add_assoc, ← this]
    simp
theorem impl_WalkLength_l (G : Int × Int × List Bool) (hw : 1 ≤ G.1) (xs : List Int) (hl : xs.length ≤ 200) (hc : ∀ c ∈ xs, 0 ≤ c ∧ c ≤ 1000) : impl_WalkLength.l7 NN NN xs 0 1 G = some (walkL (farD G.1) xs, 0) := by
  cases xs with
  | nil =>
    obtain ⟨k, hk⟩ : ∃ j, NN = j + 1 := ⟨NN - 1, by have := NNb; omega⟩
    rw [show impl_WalkLength.l7 NN NN = impl_WalkLength.l7 NN (k + 1) by rw [← hk]]
    simp [impl_WalkLength.l7, impl_WalkLength.g7, walkL]
  | cons a r =>
    simp only [List.length_cons] at hl
    have := impl_WalkLength_loop G hw r [] a 0 NN (by simp; omega) (NN_lt (by omega)) hc (by omega) (by simp)
    simpa [walkL] using this
theorem spec_WalkLength_loop (G : Int × Int × List Bool) (hw : 1 ≤ G.1) : ∀ (r p : List Int) (x s : Int) (k : Nat), p.length + r.length + 1 ≤ 1000 → r.length < k → (∀ c ∈ x :: r, 0 ≤ c ∧ c ≤ 1000) → 0 ≤ s → s ≤ 10000 * p.length →
    spec_WalkLength.l6 NN k (p ++ [x] ++ r) s ((p.length : Int) + 1) G = some (s + walkF (farD G.1) x r, 0) := by
  intro r
  induction r with
  | nil =>
    intro p x s k _ hk _ _ _
    obtain ⟨k, rfl⟩ : ∃ j, k = j + 1 := ⟨k - 1, by omega⟩
    simp [spec_WalkLength.l6, spec_WalkLength.g6, walkF]
  | cons a r ih =>
    intro p x s k hb hk hc hs0 hs1
    simp only [List.length_cons] at hb hk
    obtain ⟨k, rfl⟩ : ∃ j, k = j + 1 := ⟨k - 1, by omega⟩
    have hl : ((p ++ [x] ++ a :: r).length : Int) = p.length + r.length + 2 := by simp; omega
    have w1 := w64 (n := (p.length : Int) + 1 - 1) (by omega) (by omega)
    have w2 := w64 (n := (p.length : Int) + 1 + 1) (by omega) (by omega)
    have c1 : (p.length : Int) + 1 < ((p ++ [x] ++ a :: r).length : Int) := by omega
    have c2 : (0 : Int) ≤ (p.length : Int) + 1 - 1 := by omega
    have c3 : (p.length : Int) + 1 - 1 < ((p ++ [x] ++ a :: r).length : Int) := by omega
    have c4 : (0 : Int) ≤ (p.length : Int) + 1 := by omega
    have g1 : (p ++ [x] ++ a :: r).getD ((p.length : Int) + 1).toNat 0 = a := by
      rw [show ((p.length : Int) + 1).toNat = (p ++ [x]).length by simp, mid_getn]
    have g2 : (p ++ [x] ++ a :: r).getD ((p.length : Int) + 1 - 1).toNat 0 = x := by
      rw [show ((p.length : Int) + 1 - 1).toNat = p.length by omega, snoc_getl]
    have hx := hc x (by simp)
    have ha := hc a (by simp)
    have hD := farD_bd hw hx.1 hx.2 ha.1 ha.2
    have w3 := w64 (n := s + farD G.1 x a) (by omega) (by omega)
    simp only [spec_WalkLength.l6, spec_WalkLength.g6, w1, w2, c1, c2, c3, c4, g1, g2, and_self, decide_true, if_true, decide_eq_true_eq, spec_l31Far_f G x a hw hx.1 hx.2 ha.1 ha.2, Option.bind_some, w3]
    have := ih (p ++ [x]) a (s + farD G.1 x a) k (by simp; omega) (by omega) (fun c h => hc c (by simp at h ⊢; right; exact h)) (by omega) (by simp; omega)
    simp only [walkF]
    rw [← Int.add_assoc, ← this]
    simp
theorem spec_WalkLength_l (G : Int × Int × List Bool) (hw : 1 ≤ G.1) (xs : List Int) (hl : xs.length ≤ 200) (hc : ∀ c ∈ xs, 0 ≤ c ∧ c ≤ 1000) : spec_WalkLength.l6 NN NN xs 0 1 G = some (walkL (farD G.1) xs, 0) := by
  cases xs with
  | nil =>
    obtain ⟨k, hk⟩ : ∃ j, NN = j + 1 := ⟨NN - 1, by have := NNb; omega⟩
    rw [show spec_WalkLength.l6 NN NN = spec_WalkLength.l6 NN (k + 1) by rw [← hk]]
    simp [spec_WalkLength.l6, spec_WalkLength.g6, walkL]
  | cons a r =>
    simp only [List.length_cons] at hl
    have := spec_WalkLength_loop G hw r [] a 0 NN (by simp; omega) (NN_lt (by omega)) hc (by omega) (by simp)
    simpa [walkL] using this
theorem WalkLength_core (g : Int × Int × List Bool) (cells : List Int) (h : OkGrid g) (h2 : Lm (Rg .i64) cells) : ∃ w, spec_WalkLength.f g cells = some w ∧ impl_WalkLength.f g cells = some w ∧ True := by
  unfold spec_WalkLength.f spec_WalkLength.fn spec_WalkLength.top impl_WalkLength.f impl_WalkLength.fn impl_WalkLength.top
  rw [spec_l31Cells_f g cells h2.1, impl_IsGrid_f]
  cases hg : gridB g
  · exact ⟨_, rfl, rfl, trivial⟩
  simp only [Option.bind_some, Bool.not_true, Bool.false_eq_true, if_false, if_true]
  rw [impl_areCells_f g cells hg h2.1]
  cases hc : cellsB g cells
  · exact ⟨_, rfl, rfl, trivial⟩
  have hi := cellsB_iff hg hc
  have hgb := gridB_iff.1 hg
  refine ⟨(walkL (farD g.1) cells, 0), ?_, ?_, trivial⟩
  · exact spec_WalkLength_l g hgb.1 cells hi.1 (fun c h => by have := hi.2 c h; omega)
  · exact impl_WalkLength_l g hgb.1 cells hi.1 (fun c h => by have := hi.2 c h; omega)
def dudS (s : List Bool) (out : List Int) (c : Int) : List Int := if s.getD c.toNat false = true then out else out ++ [c]
def dudsL (s : List Bool) (cells : List Int) : List Int := cells.foldl (dudS s) []
noncomputable def impl_DudsLeft_call (k : Nat) (i : Int) (st : List Int) (w hh : Int) (s : List Bool) (xs : List Int) := impl_DudsLeft.l7 NN k xs xs.length i (w, hh, s) st
noncomputable def spec_DudsLeft_call (k : Nat) (i : Int) (st : List Int) (w hh : Int) (s : List Bool) (xs : List Int) := spec_DudsLeft.l6 NN k xs i (w, hh, s) st
theorem impl_DudsLeft_l (w hh : Int) (s : List Bool) (xs : List Int) (hl : xs.length ≤ 200) (hc : ∀ c ∈ xs, 0 ≤ c ∧ c < (s.length : Int) ∧ c < 144) : (dudsL s xs).length ≤ 200 ∧ (∀ c ∈ dudsL s xs, 0 ≤ c ∧ c < 144) ∧ impl_DudsLeft.l7 NN NN xs xs.length 0 (w, hh, s) [] = some (dudsL s xs, 0) := by
  have := fold_fix (E := fun c => 0 ≤ c ∧ c < (s.length : Int) ∧ c < 144) (fun p st => st.length ≤ p.length ∧ ∀ c ∈ st, 0 ≤ c ∧ c < 144) (fun _ => dudS s) (fun st => some (st, (0 : Int))) (fun k i st => impl_DudsLeft_call k i st w hh s xs) xs ?_ ?_ [] hc ⟨by simp, by simp⟩ (by omega) NN (NN_lt (by omega))
  · rw [foldi_foldl] at this
    exact ⟨Nat.le_trans this.1.1 hl, this.1.2, this.2⟩
  · intro k st _
    simp [impl_DudsLeft_call, impl_DudsLeft.l7, impl_DudsLeft.g7]
  · intro k p b r st hx hb hI c0 c1 c2 cw g
    have hr : st.length + 1 < room 8 := by rw [room8]; omega
    refine ⟨⟨?_, ?_⟩, ?_⟩
    · unfold dudS; rw [List.length_append, List.length_singleton]; split <;> (try simp) <;> omega
    · intro c hc
      unfold dudS at hc
      split at hc
      · exact hI.2 c hc
      · rcases List.mem_append.1 hc with h | h
        · exact hI.2 c h
        · rw [List.mem_singleton.1 h]; omega
    · simp only [impl_DudsLeft_call, impl_DudsLeft.l7, impl_DudsLeft.g7, c0, c1, cw, and_self, and_true, true_and, decide_true, decide_false, if_true, if_false, mid_get, mid_set, mid_getn, mid_setn, bt_mid, Option.bind_some, Bool.not_true, Bool.not_false, Bool.false_eq_true, Bool.true_eq_false, beq_self_eq_true, bne_self_eq_false, Int.toNat_natCast, g, hb.1, hb.2.1, List.length_singleton, hr]
      unfold dudS
      cases s.getD b.toNat false <;> simp
theorem spec_DudsLeft_l (w hh : Int) (s : List Bool) (xs : List Int) (hl : xs.length ≤ 200) (hc : ∀ c ∈ xs, 0 ≤ c ∧ c < (s.length : Int) ∧ c < 144) : (dudsL s xs).length ≤ 200 ∧ (∀ c ∈ dudsL s xs, 0 ≤ c ∧ c < 144) ∧ spec_DudsLeft.l6 NN NN xs 0 (w, hh, s) [] = some (dudsL s xs, 0) := by
  have := fold_fix (E := fun c => 0 ≤ c ∧ c < (s.length : Int) ∧ c < 144) (fun p st => st.length ≤ p.length ∧ ∀ c ∈ st, 0 ≤ c ∧ c < 144) (fun _ => dudS s) (fun st => some (st, (0 : Int))) (fun k i st => spec_DudsLeft_call k i st w hh s xs) xs ?_ ?_ [] hc ⟨by simp, by simp⟩ (by omega) NN (NN_lt (by omega))
  · rw [foldi_foldl] at this
    exact ⟨Nat.le_trans this.1.1 hl, this.1.2, this.2⟩
  · intro k st _
    simp [spec_DudsLeft_call, spec_DudsLeft.l6, spec_DudsLeft.g6]
  · intro k p b r st hx hb hI c0 c1 c2 cw g
    have hr : st.length + 1 < room 8 := by rw [room8]; omega
    refine ⟨⟨?_, ?_⟩, ?_⟩
    · unfold dudS; rw [List.length_append, List.length_singleton]; split <;> (try simp) <;> omega
    · intro c hc
      unfold dudS at hc
      split at hc
      · exact hI.2 c hc
      · rcases List.mem_append.1 hc with h | h
        · exact hI.2 c h
        · rw [List.mem_singleton.1 h]; omega
    · simp only [spec_DudsLeft_call, spec_DudsLeft.l6, spec_DudsLeft.g6, c0, c1, cw, and_self, and_true, true_and, decide_true, decide_false, if_true, if_false, mid_get, mid_set, mid_getn, mid_setn, bt_mid, Option.bind_some, Bool.not_true, Bool.not_false, Bool.false_eq_true, Bool.true_eq_false, beq_self_eq_true, bne_self_eq_false, Int.toNat_natCast, g, hb.1, hb.2.1, List.length_singleton, hr]
      unfold dudS
      cases s.getD b.toNat false <;> simp
theorem DudsLeft_core (g : Int × Int × List Bool) (cells : List Int) (h : OkGrid g) (h2 : Lm (Rg .i64) cells) : ∃ w, spec_DudsLeft.f g cells = some w ∧ impl_DudsLeft.f g cells = some w ∧ Lm (Rg .i64) w.1 := by
  unfold spec_DudsLeft.f spec_DudsLeft.fn spec_DudsLeft.top impl_DudsLeft.f impl_DudsLeft.fn impl_DudsLeft.top
  rw [spec_l31Cells_f g cells h2.1, impl_IsGrid_f]
  cases hg : gridB g
  · exact ⟨_, rfl, rfl, by simp, by simp⟩
  simp only [Option.bind_some, Bool.not_true, Bool.false_eq_true, if_false, if_true]
  rw [impl_areCells_f g cells hg h2.1]
  cases hc : cellsB g cells
  · exact ⟨_, rfl, rfl, by simp, by simp⟩
  have hi := cellsB_iff hg hc
  obtain ⟨w, hh, s⟩ := g
  have e1 := impl_DudsLeft_l w hh s cells hi.1 hi.2
  have e2 := spec_DudsLeft_l w hh s cells hi.1 hi.2
  exact ⟨(dudsL s cells, 0), e2.2.2, e1.2.2, by simp only; omega, fun c hc => wf64.2 (by have := e1.2.1 c hc; omega)⟩
end Go.Pl

namespace Go.Pl
open Go.Ev
set_option linter.unusedVariables false
set_option linter.unusedSimpArgs false
theorem FnExactDudsLeft_true (aG : Int × Int × List Bool) (aDuds : List Int) (hyp : PlGrid aG ∧ Ls (Rg .i64) aDuds) : laws_FnExactDudsLeft.f aG aDuds = some true := by
  obtain ⟨h_aG, h_aDuds⟩ := hyp
  unfold laws_FnExactDudsLeft.f laws_FnExactDudsLeft.fn laws_FnExactDudsLeft.top
  have z_aDuds : aDuds.length ≤ 140737488355328 := h_aDuds.1
  have lw_aDuds := w64 (n := (1000000 - (aDuds.length : Int))) (by omega) (by omega)
  simp only [lw_aDuds]
  obtain ⟨s1, e1, l1, k1⟩ := laws_szGrid_ok aG (1000000 - (aDuds.length : Int)) (by omega) (by omega) h_aG
  simp only [e1, Option.bind_some, decide_eq_true_eq]
  by_cases hn1 : s1 < 0
  · simp [hn1]
  simp only [hn1, if_false]
  obtain ⟨q1, o_aG⟩ := k1 (by omega)
  have o_aDuds : Lm (Rg .i64) aDuds := ⟨by omega, h_aDuds.2⟩
  obtain ⟨f0_aG, t_aG, i_aG⟩ := laws_toGrid_both aG o_aG
  obtain ⟨f0_aDuds, t_aDuds, i_aDuds⟩ := laws_toInt64S_both aDuds o_aDuds
  obtain ⟨⟨w0, w1⟩, c1, c2, c3⟩ := DudsLeft_core aG aDuds o_aG o_aDuds
  have c4 := c3
  have c3_0 : Lm (Rg .i64) w0 := c3
  have eq_0 := laws_eqInt64S_self w0 (Nat.le_trans c3_0.1 (by omega))
  obtain ⟨m1, d1, x1, y1, z1, u1⟩ := laws_markGrid_ok aG o_aG 101 (by omega) (by omega)
  obtain ⟨m2, d2, x2, y2, z2, u2⟩ := laws_markInt64S_ok aDuds o_aDuds m1 (by omega) (by omega)
  have kn : ¬ m2 < 0 := by omega
  obtain ⟨m3, d3, x3, y3, z3, u3⟩ := laws_markInt64S_ok w0 c3_0 101 (by omega) (by omega)
  have n3 : ¬ m3 < 0 := by omega
  simp [t_aG, i_aG, t_aDuds, i_aDuds, c1, c2, eq_0, x1, x2, kn, x3, y3, n3]
end Go.Pl

/- The law FnExactDudsLeft: the program's function answers as the law says, for all arguments of a claim's bounds. -/
namespace Go.Proofs.Ytppfdipgaifhiaa.fnExactDudsLeft
open Go.ChangeShapes Go.WideShapes Go.ChangeAt Go.RowKit Go.Ev
set_option linter.unusedVariables false
theorem own : ownKnob Try.prog.godebug = none := by kernel_rfl
theorem posok : posB Go.Ev.Try.tab = true := by kernel_rfl
theorem laidOut : laidOutB Try.prog = true := by kernel_rfl
set_option maxRecDepth 100000 in
theorem lifted (os : Os) (started : os.Started) (H : Type) (enc : TypeId × Value → H) :
    ReturnsInHanded {} Try.checked os 13 .any (Rows.fnExactDudsLeftSpec.pre6 enc Try.prog Try.f13 Rows.fnExactDudsLeftRow.domain false) (Rows.fnExactDudsLeftSpec.post enc Try.prog Try.f13 false true false false) := by
  refine returnsInHanded_of_change_sized (C := Try.checked) own started (by kernel_rfl) Try.func13
    (ChangeSpec.witness6 (enc := enc) (C := Try.checked) false ⟨#[], #[.agg #[.int .i64 0, .int .i64 0, .slice none 0 0], .slice none 0 0], []⟩ 8 (by kernel_rfl) (by kernel_rfl) (by kernel_rfl) (by kernel_rfl)) ?_
  intro W base args ds gs before hval0 hW hcnd hsz0 _
  have hsz : (DataW.weightsEach Try.prog (Try.f13.params.toList ++ Rows.fnExactDudsLeftSpec.plain.varTypes Try.prog) (ds ++ gs)).all (· ≤ reachBytes) = true := hsz0
  have hval : ∀ (j : Nat) t v, Try.f13.params[j]? = some t → args[j]? = some v → Value.okWide Try.prog W .any base t v := hval0
  have hW' := hW
  obtain ⟨p, q, hA0, hV, rfl, hfz, hnd⟩ := hW
  have hA : DataW.TrodAll enc Try.prog W 0 (fun _ => true) true Try.f13.params.toList args.toList ds p := hA0
  rw [Try.params13] at hA hval hsz
  obtain ⟨rfl, rfl⟩ := trodVars_none hV
  have hcall := fun hl => law_row Go.Ev.Try.tabok posok Go.Ev.Try.laws_FnExactDudsLeft.good rfl (by kernel_rfl)
    (fun x hx => ⟨true, Go.Pl.FnExactDudsLeft_true x.1 x.2 hx, rfl⟩) (ts := [24, 26]) (by rfl) hA (fun j t v hj hv => hval j t v (by simpa using hj) hv) (.inr rfl) hsz hl
  obtain ⟨v0, vs0, d0, ds0, p0, q0, hargs0, rfl, rfl, h0, r0⟩ := trodAll_cons hA
  obtain ⟨v1, vs1, d1, ds1, p1, q1, hargs1, rfl, rfl, h1, r1⟩ := trodAll_cons r0
  obtain ⟨rfl, rfl, rfl⟩ := trodAll_nil r1
  obtain rfl : args = #[v0, v1] := by cases args; simp_all
  refine (hcall rfl).mono fun e W' ⟨he, bel⟩ => ?_
  subst he
  have hlt0 : ∀ x ∈ p0, x.block < W.heap.size := fun x hx => by simpa using hW'.lt x (by simp [hx])
  have hlt1 : ∀ x ∈ p1, x.block < W.heap.size := fun x hx => by simpa using hW'.lt x (by simp [hx])
  exact ⟨_, rfl, _, _, _, [], _, [], hW', trodAll_mk1 (shut_bool Try.underlying4 _), (trodAll_cons_mk (Below.trod laidOut (by kernel_rfl) (of_decide_eq_true (by kernel_rfl)) h0 bel hlt0) (trodAll_cons_mk (Below.trod laidOut (by kernel_rfl) (of_decide_eq_true (by kernel_rfl)) h1 bel hlt1) trodAll_mk0)), rfl, bel.frame _, fun h => by cases h⟩
theorem over : Rows.fnExactDudsLeftRow.holds Try.pinned (OpenSpec.ofChange Rows.fnExactDudsLeftSpec) :=
  OpenClaim.holds_of_wide 13 Try.f13 rfl rfl rfl rfl rfl rfl rfl ⟨rfl, rfl, rfl, rfl, rfl⟩ rfl rfl rfl rfl rfl (by kernel_rfl) Try.func13 (by kernel_rfl)
    (of_decide_eq_true (by kernel_rfl)) (by unfold Func.isWrapper; first | (rw [if_pos (by decide +kernel)]; kernel_rfl) | (rw [if_neg (by decide +kernel)]; exact ⟨rfl, rfl⟩))
    (fun os started H enc _ => lifted os started H enc)
theorem proved : Rows.FnExactDudsLeftSaid := over
end Go.Proofs.Ytppfdipgaifhiaa.fnExactDudsLeft
namespace Go.Proofs.Ytppfdipgaifhiaa
theorem fnExactDudsLeft_holds : Rows.FnExactDudsLeftSaid := fnExactDudsLeft.proved
end Go.Proofs.Ytppfdipgaifhiaa
