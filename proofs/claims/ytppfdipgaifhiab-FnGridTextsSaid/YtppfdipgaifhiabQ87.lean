/- A function of the program and its contract: written by this session's qprint.py. -/
import Derived.Test.YtppfdipgaifhiabQ0
import Derived.Test.YtppfdipgaifhiabQ64
import Derived.Test.YtppfdipgaifhiabQ70
import Derived.Test.YtppfdipgaifhiabQ71
import Derived.Test.YtppfdipgaifhiabQ73
import Derived.Test.YtppfdipgaifhiabQ78
import Derived.Test.YtppfdipgaifhiabQ80
import Derived.Test.YtppfdipgaifhiabQ82
import Derived.Test.YtppfdipgaifhiabQ84
import Derived.Test.YtppfdipgaifhiabQ86
namespace Go.Proofs.Ytppfdipgaifhiab.Q
open Go.RowKit Go.Proofs.YtppfdipgaifhiabW.PrintWords Go.Proofs.YtppfdipgaifhiabW.PrintLast Go.Proofs.YtppfdipgaifhiabW.PrintMore
attribute [local go_sem] max2_int min2_int max_two min_two max_three min_three max_four min_four   -- for this text's walks alone
set_option linter.unusedVariables false
set_option linter.unusedSimpArgs false

/-! ### laws_FnGridTexts: function 7 -/
mutual
def laws_FnGridTexts.j0 : Nat → ByteArray → Int → ByteArray → Int → Bool → Int → Int → List Bool → Int → Int → List Bool → Option (Bool)
  | 0, _, _, _, _, _, _, _, _, _, _, _ => none
  | k + 1, x4, x5, x8, x10, x68, x698000, x698001, x698002, x710000, x710001, x710002 => if x68 = true then (some false) else (if x10 = 0 then ((impl_GridText.f k x710000 x710001 x710002).bind fun bt719 => (if bt719.2 = 0 then (if bt719.1.toList = x8.toList then (laws_FnGridTexts.j1 k x4 x5 x698000 x698001 x698002) else (some false)) else (some false))) else (laws_FnGridTexts.j1 k x4 x5 x698000 x698001 x698002))
def laws_FnGridTexts.j1 : Nat → ByteArray → Int → Int → Int → List Bool → Option (Bool)
  | 0, _, _, _, _, _ => none
  | k + 1, x4, x5, x698000, x698001, x698002 => if x5 = 0 then ((impl_ReadGrid.f k x4).bind fun bt721 => (if bt721.2.2.2 = 0 then ((laws_likeGrid.f k bt721.1 bt721.2.1 bt721.2.2.1 x698000 x698001 x698002).bind fun t728 => (some t728)) else (some false))) else (some true)
end
def laws_FnGridTexts.f (k : Nat) (l0 : List Int) : Option (Bool) := (laws_big.f l0).bind fun t691 => (if t691 = true then (some true) else ((spec_DrawGridText.f k l0).bind fun bt692 => ((impl_GridText.f k bt692.1 bt692.2.1 bt692.2.2).bind fun bt698 => ((spec_GridText.f k bt692.1 bt692.2.1 bt692.2.2).bind fun bt700 => ((spec_DrawReadGrid.f k l0).bind fun t702 => ((impl_ReadGrid.f k t702).bind fun bt703 => ((spec_ReadGrid.f k t702).bind fun bt710 => (if bt698.2 = bt700.2 then (if bt698.1.toList = bt700.1.toList then (if bt703.2.2.2 = bt710.2.2.2 then ((laws_likeGrid.f k bt703.1 bt703.2.1 bt703.2.2.1 bt710.1 bt710.2.1 bt710.2.2.1).bind fun t717 => (if t717 = true then ((impl_IsGrid.f bt692.1 bt692.2.1 bt692.2.2).bind fun t718 => (laws_FnGridTexts.j0 k bt698.1 bt698.2 t702 bt703.2.2.2 (t718 != (bt700.2 == 0)) bt692.1 bt692.2.1 bt692.2.2 bt703.1 bt703.2.1 bt703.2.2.1)) else (laws_FnGridTexts.j0 k bt698.1 bt698.2 t702 bt703.2.2.2 true bt692.1 bt692.2.1 bt692.2.2 bt703.1 bt703.2.1 bt703.2.2.1))) else (laws_FnGridTexts.j0 k bt698.1 bt698.2 t702 bt703.2.2.2 true bt692.1 bt692.2.1 bt692.2.2 bt703.1 bt703.2.1 bt703.2.2.1)) else (laws_FnGridTexts.j0 k bt698.1 bt698.2 t702 bt703.2.2.2 true bt692.1 bt692.2.1 bt692.2.2 bt703.1 bt703.2.1 bt703.2.2.1)) else (laws_FnGridTexts.j0 k bt698.1 bt698.2 t702 bt703.2.2.2 true bt692.1 bt692.2.1 bt692.2.2 bt703.1 bt703.2.1 bt703.2.2.1)))))))))
theorem laws_FnGridTexts.mono_l : ∀ k, (∀ y0 y1 y2 y3 y4 y5 y6 y7 y8 y9 y10, LeO (laws_FnGridTexts.j0 k y0 y1 y2 y3 y4 y5 y6 y7 y8 y9 y10) (laws_FnGridTexts.j0 (k + 1) y0 y1 y2 y3 y4 y5 y6 y7 y8 y9 y10)) ∧ (∀ y0 y1 y2 y3 y4, LeO (laws_FnGridTexts.j1 k y0 y1 y2 y3 y4) (laws_FnGridTexts.j1 (k + 1) y0 y1 y2 y3 y4))
  | 0 => ⟨fun _ _ _ _ _ _ _ _ _ _ _ r h => by simp [laws_FnGridTexts.j0] at h, fun _ _ _ _ _ r h => by simp [laws_FnGridTexts.j1] at h⟩
  | k + 1 => by
    obtain ⟨ih0, ih1⟩ := laws_FnGridTexts.mono_l k
    refine ⟨?_, ?_⟩
    · intro y0 y1 y2 y3 y4 y5 y6 y7 y8 y9 y10
      unfold laws_FnGridTexts.j0
      repeat' first
      | (with_reducible exact ih0 _ _ _ _ _ _ _ _ _ _ _)
      | (with_reducible exact ih1 _ _ _ _ _)
      | (with_reducible exact impl_GridText.mono _ _ _ _)
      | (with_reducible exact impl_ReadGrid.mono _ _)
      | (with_reducible exact laws_likeGrid.mono _ _ _ _ _ _ _)
      | (with_reducible exact spec_DrawGridText.mono _ _)
      | (with_reducible exact spec_DrawReadGrid.mono _ _)
      | (with_reducible exact spec_GridText.mono _ _ _ _)
      | (with_reducible exact spec_ReadGrid.mono _ _)
      | (with_reducible exact LeO.refl _)
      | (with_reducible exact LeO.none _)
      | (with_reducible refine LeO.ite ?_ ?_)
      | (with_reducible refine LeO.bind ?_ (fun _ => ?_))
      | exact ih0 _ _ _ _ _ _ _ _ _ _ _
      | exact ih1 _ _ _ _ _
      | exact impl_GridText.mono _ _ _ _
      | exact impl_ReadGrid.mono _ _
      | exact laws_likeGrid.mono _ _ _ _ _ _ _
      | exact spec_DrawGridText.mono _ _
      | exact spec_DrawReadGrid.mono _ _
      | exact spec_GridText.mono _ _ _ _
      | exact spec_ReadGrid.mono _ _
      | exact LeO.none _
      | refine LeO.ite ?_ ?_
      | refine LeO.bind ?_ (fun _ => ?_)
    · intro y0 y1 y2 y3 y4
      unfold laws_FnGridTexts.j1
      repeat' first
      | (with_reducible exact ih0 _ _ _ _ _ _ _ _ _ _ _)
      | (with_reducible exact ih1 _ _ _ _ _)
      | (with_reducible exact impl_GridText.mono _ _ _ _)
      | (with_reducible exact impl_ReadGrid.mono _ _)
      | (with_reducible exact laws_likeGrid.mono _ _ _ _ _ _ _)
      | (with_reducible exact spec_DrawGridText.mono _ _)
      | (with_reducible exact spec_DrawReadGrid.mono _ _)
      | (with_reducible exact spec_GridText.mono _ _ _ _)
      | (with_reducible exact spec_ReadGrid.mono _ _)
      | (with_reducible exact LeO.refl _)
      | (with_reducible exact LeO.none _)
      | (with_reducible refine LeO.ite ?_ ?_)
      | (with_reducible refine LeO.bind ?_ (fun _ => ?_))
      | exact ih0 _ _ _ _ _ _ _ _ _ _ _
      | exact ih1 _ _ _ _ _
      | exact impl_GridText.mono _ _ _ _
      | exact impl_ReadGrid.mono _ _
      | exact laws_likeGrid.mono _ _ _ _ _ _ _
      | exact spec_DrawGridText.mono _ _
      | exact spec_DrawReadGrid.mono _ _
      | exact spec_GridText.mono _ _ _ _
      | exact spec_ReadGrid.mono _ _
      | exact LeO.none _
      | refine LeO.ite ?_ ?_
      | refine LeO.bind ?_ (fun _ => ?_)
theorem laws_FnGridTexts.mono : ∀ a0 k, LeO (laws_FnGridTexts.f k a0) (laws_FnGridTexts.f (k + 1) a0) := by
  intro a0 k
  obtain ⟨ih0, ih1⟩ := laws_FnGridTexts.mono_l k
  unfold laws_FnGridTexts.f
  repeat' first
      | (with_reducible exact ih0 _ _ _ _ _ _ _ _ _ _ _)
      | (with_reducible exact ih1 _ _ _ _ _)
      | (with_reducible exact impl_GridText.mono _ _ _ _)
      | (with_reducible exact impl_ReadGrid.mono _ _)
      | (with_reducible exact laws_likeGrid.mono _ _ _ _ _ _ _)
      | (with_reducible exact spec_DrawGridText.mono _ _)
      | (with_reducible exact spec_DrawReadGrid.mono _ _)
      | (with_reducible exact spec_GridText.mono _ _ _ _)
      | (with_reducible exact spec_ReadGrid.mono _ _)
      | (with_reducible exact LeO.refl _)
      | (with_reducible exact LeO.none _)
      | (with_reducible refine LeO.ite ?_ ?_)
      | (with_reducible refine LeO.bind ?_ (fun _ => ?_))
      | exact ih0 _ _ _ _ _ _ _ _ _ _ _
      | exact ih1 _ _ _ _ _
      | exact impl_GridText.mono _ _ _ _
      | exact impl_ReadGrid.mono _ _
      | exact laws_likeGrid.mono _ _ _ _ _ _ _
      | exact spec_DrawGridText.mono _ _
      | exact spec_DrawReadGrid.mono _ _
      | exact spec_GridText.mono _ _ _ _
      | exact spec_ReadGrid.mono _ _
      | exact LeO.none _
      | refine LeO.ite ?_ ?_
      | refine LeO.bind ?_ (fun _ => ?_)
set_option maxHeartbeats 8000000 in
set_option maxRecDepth 100000 in
theorem laws_FnGridTexts.calls (k : Nat) (A0 : Option Addr) (c0 : Nat) (l0 : List Int) (r : Bool) (w : World) (hr0 : Kd.C (Kd.int .u8) w A0 l0.length l0) (hc0 : l0.length ≤ c0) (hr_ : Aside0 (r = true)) (h : laws_FnGridTexts.f k l0 = some r) :
    Calls Try.prog 7 #[.slice A0 l0.length c0] w fun e w' => e = .returned (.bool r) ∧ Below w.heap.size w w' := by
  have hu57 := Try.underlying57
  have HR0 := Aside0.mk hr0
  have HC0 := Aside0.mk hc0
  clear hr0 hc0
  have HB := Aside0.mk (Below.refl w.heap.size w)
  have H : ((laws_big.f l0).bind fun t691 => (if t691 = true then (some true) else ((spec_DrawGridText.f k l0).bind fun bt692 => ((impl_GridText.f k bt692.1 bt692.2.1 bt692.2.2).bind fun bt698 => ((spec_GridText.f k bt692.1 bt692.2.1 bt692.2.2).bind fun bt700 => ((spec_DrawReadGrid.f k l0).bind fun t702 => ((impl_ReadGrid.f k t702).bind fun bt703 => ((spec_ReadGrid.f k t702).bind fun bt710 => (if bt698.2 = bt700.2 then (if bt698.1.toList = bt700.1.toList then (if bt703.2.2.2 = bt710.2.2.2 then ((laws_likeGrid.f k bt703.1 bt703.2.1 bt703.2.2.1 bt710.1 bt710.2.1 bt710.2.2.1).bind fun t717 => (if t717 = true then ((impl_IsGrid.f bt692.1 bt692.2.1 bt692.2.2).bind fun t718 => (laws_FnGridTexts.j0 k bt698.1 bt698.2 t702 bt703.2.2.2 (t718 != (bt700.2 == 0)) bt692.1 bt692.2.1 bt692.2.2 bt703.1 bt703.2.1 bt703.2.2.1)) else (laws_FnGridTexts.j0 k bt698.1 bt698.2 t702 bt703.2.2.2 true bt692.1 bt692.2.1 bt692.2.2 bt703.1 bt703.2.1 bt703.2.2.1))) else (laws_FnGridTexts.j0 k bt698.1 bt698.2 t702 bt703.2.2.2 true bt692.1 bt692.2.1 bt692.2.2 bt703.1 bt703.2.1 bt703.2.2.1)) else (laws_FnGridTexts.j0 k bt698.1 bt698.2 t702 bt703.2.2.2 true bt692.1 bt692.2.1 bt692.2.2 bt703.1 bt703.2.1 bt703.2.2.1)) else (laws_FnGridTexts.j0 k bt698.1 bt698.2 t702 bt703.2.2.2 true bt692.1 bt692.2.1 bt692.2.2 bt703.1 bt703.2.1 bt703.2.2.1)))))))))) = some r := h
  clear h
  replace H := Option.bind_eq_some_iff.mp H
  obtain ⟨t691, A20, H⟩ := H
  replace H : (if t691 = true then (some true) else ((spec_DrawGridText.f k l0).bind fun bt692 => ((impl_GridText.f k bt692.1 bt692.2.1 bt692.2.2).bind fun bt698 => ((spec_GridText.f k bt692.1 bt692.2.1 bt692.2.2).bind fun bt700 => ((spec_DrawReadGrid.f k l0).bind fun t702 => ((impl_ReadGrid.f k t702).bind fun bt703 => ((spec_ReadGrid.f k t702).bind fun bt710 => (if bt698.2 = bt700.2 then (if bt698.1.toList = bt700.1.toList then (if bt703.2.2.2 = bt710.2.2.2 then ((laws_likeGrid.f k bt703.1 bt703.2.1 bt703.2.2.1 bt710.1 bt710.2.1 bt710.2.2.1).bind fun t717 => (if t717 = true then ((impl_IsGrid.f bt692.1 bt692.2.1 bt692.2.2).bind fun t718 => (laws_FnGridTexts.j0 k bt698.1 bt698.2 t702 bt703.2.2.2 (t718 != (bt700.2 == 0)) bt692.1 bt692.2.1 bt692.2.2 bt703.1 bt703.2.1 bt703.2.2.1)) else (laws_FnGridTexts.j0 k bt698.1 bt698.2 t702 bt703.2.2.2 true bt692.1 bt692.2.1 bt692.2.2 bt703.1 bt703.2.1 bt703.2.2.1))) else (laws_FnGridTexts.j0 k bt698.1 bt698.2 t702 bt703.2.2.2 true bt692.1 bt692.2.1 bt692.2.2 bt703.1 bt703.2.1 bt703.2.2.1)) else (laws_FnGridTexts.j0 k bt698.1 bt698.2 t702 bt703.2.2.2 true bt692.1 bt692.2.1 bt692.2.2 bt703.1 bt703.2.1 bt703.2.2.1)) else (laws_FnGridTexts.j0 k bt698.1 bt698.2 t702 bt703.2.2.2 true bt692.1 bt692.2.1 bt692.2.2 bt703.1 bt703.2.1 bt703.2.2.1))))))))) = some r := H
  have A2 := Aside0.mk A20
  clear A20
  by_cases c3 : t691 = true
  · subst c3
    have H1 : (some true) = some r := by rw [if_pos rfl] at H; exact H
    clear H
    have H := H1
    clear H1
    obtain rfl := Option.some.inj H
    go_enter Try.func7, Try.ntmps7
    go_wp2_with (first | ((with_reducible refine gate_callee (f := 37) rfl ?_); refine goesL_ (some 18) rfl rfl Try.func37 (by kernel_rfl) rfl #[.slice A0 l0.length c0] rfl (by (try simp only [List.map_toArray, List.map_cons, List.map_nil]); first | done | rfl | (simp only [List.length_drop, List.length_take]; rfl)) ?_; (with_reducible refine (laws_big.calls _ _ l0 true _ ?side1 ?side2 A2.out).mono ?_); (case side1 => repeat (first | exact HR0.out | (with_reducible refine Kd.C_alloc ?_ _) | (with_reducible refine Kd.C_drewN ?_ _) | (with_reducible refine Kd.C_drew ?_))); (case side2 => exact HC0.out); rintro e w' ⟨rfl, ⟨nd, rfl⟩⟩; refine ⟨_, rfl, ?_⟩))
    go_ret
    exact ⟨by first | rfl | (simp [errW_none, errW_some] <;> rfl) | (simp [*, errW_none, errW_some] <;> rfl), by repeat (first | (with_reducible first | exact HB.out | apply below_alloc | apply pw_below_drewN | apply below_drew1) | exact HB.out)⟩
  · replace c3 := Bool.eq_false_iff.mpr c3
    subst c3
    have H1 : ((spec_DrawGridText.f k l0).bind fun bt692 => ((impl_GridText.f k bt692.1 bt692.2.1 bt692.2.2).bind fun bt698 => ((spec_GridText.f k bt692.1 bt692.2.1 bt692.2.2).bind fun bt700 => ((spec_DrawReadGrid.f k l0).bind fun t702 => ((impl_ReadGrid.f k t702).bind fun bt703 => ((spec_ReadGrid.f k t702).bind fun bt710 => (if bt698.2 = bt700.2 then (if bt698.1.toList = bt700.1.toList then (if bt703.2.2.2 = bt710.2.2.2 then ((laws_likeGrid.f k bt703.1 bt703.2.1 bt703.2.2.1 bt710.1 bt710.2.1 bt710.2.2.1).bind fun t717 => (if t717 = true then ((impl_IsGrid.f bt692.1 bt692.2.1 bt692.2.2).bind fun t718 => (laws_FnGridTexts.j0 k bt698.1 bt698.2 t702 bt703.2.2.2 (t718 != (bt700.2 == 0)) bt692.1 bt692.2.1 bt692.2.2 bt703.1 bt703.2.1 bt703.2.2.1)) else (laws_FnGridTexts.j0 k bt698.1 bt698.2 t702 bt703.2.2.2 true bt692.1 bt692.2.1 bt692.2.2 bt703.1 bt703.2.1 bt703.2.2.1))) else (laws_FnGridTexts.j0 k bt698.1 bt698.2 t702 bt703.2.2.2 true bt692.1 bt692.2.1 bt692.2.2 bt703.1 bt703.2.1 bt703.2.2.1)) else (laws_FnGridTexts.j0 k bt698.1 bt698.2 t702 bt703.2.2.2 true bt692.1 bt692.2.1 bt692.2.2 bt703.1 bt703.2.1 bt703.2.2.1)) else (laws_FnGridTexts.j0 k bt698.1 bt698.2 t702 bt703.2.2.2 true bt692.1 bt692.2.1 bt692.2.2 bt703.1 bt703.2.1 bt703.2.2.1)))))))) = some r := by rw [if_neg (show ¬ (false = true) by decide)] at H; exact H
    clear H
    have H := H1
    clear H1
    replace H := Option.bind_eq_some_iff.mp H
    obtain ⟨⟨t692, t693, t694⟩, A40, H⟩ := H
    replace H : ((impl_GridText.f k t692 t693 t694).bind fun bt698 => ((spec_GridText.f k t692 t693 t694).bind fun bt700 => ((spec_DrawReadGrid.f k l0).bind fun t702 => ((impl_ReadGrid.f k t702).bind fun bt703 => ((spec_ReadGrid.f k t702).bind fun bt710 => (if bt698.2 = bt700.2 then (if bt698.1.toList = bt700.1.toList then (if bt703.2.2.2 = bt710.2.2.2 then ((laws_likeGrid.f k bt703.1 bt703.2.1 bt703.2.2.1 bt710.1 bt710.2.1 bt710.2.2.1).bind fun t717 => (if t717 = true then ((impl_IsGrid.f t692 t693 t694).bind fun t718 => (laws_FnGridTexts.j0 k bt698.1 bt698.2 t702 bt703.2.2.2 (t718 != (bt700.2 == 0)) t692 t693 t694 bt703.1 bt703.2.1 bt703.2.2.1)) else (laws_FnGridTexts.j0 k bt698.1 bt698.2 t702 bt703.2.2.2 true t692 t693 t694 bt703.1 bt703.2.1 bt703.2.2.1))) else (laws_FnGridTexts.j0 k bt698.1 bt698.2 t702 bt703.2.2.2 true t692 t693 t694 bt703.1 bt703.2.1 bt703.2.2.1)) else (laws_FnGridTexts.j0 k bt698.1 bt698.2 t702 bt703.2.2.2 true t692 t693 t694 bt703.1 bt703.2.1 bt703.2.2.1)) else (laws_FnGridTexts.j0 k bt698.1 bt698.2 t702 bt703.2.2.2 true t692 t693 t694 bt703.1 bt703.2.1 bt703.2.2.1))))))) = some r := H
    have A4 := Aside0.mk A40
    clear A40
    replace H := Option.bind_eq_some_iff.mp H
    obtain ⟨⟨t698, t699⟩, A50, H⟩ := H
    replace H : ((spec_GridText.f k t692 t693 t694).bind fun bt700 => ((spec_DrawReadGrid.f k l0).bind fun t702 => ((impl_ReadGrid.f k t702).bind fun bt703 => ((spec_ReadGrid.f k t702).bind fun bt710 => (if t699 = bt700.2 then (if t698.toList = bt700.1.toList then (if bt703.2.2.2 = bt710.2.2.2 then ((laws_likeGrid.f k bt703.1 bt703.2.1 bt703.2.2.1 bt710.1 bt710.2.1 bt710.2.2.1).bind fun t717 => (if t717 = true then ((impl_IsGrid.f t692 t693 t694).bind fun t718 => (laws_FnGridTexts.j0 k t698 t699 t702 bt703.2.2.2 (t718 != (bt700.2 == 0)) t692 t693 t694 bt703.1 bt703.2.1 bt703.2.2.1)) else (laws_FnGridTexts.j0 k t698 t699 t702 bt703.2.2.2 true t692 t693 t694 bt703.1 bt703.2.1 bt703.2.2.1))) else (laws_FnGridTexts.j0 k t698 t699 t702 bt703.2.2.2 true t692 t693 t694 bt703.1 bt703.2.1 bt703.2.2.1)) else (laws_FnGridTexts.j0 k t698 t699 t702 bt703.2.2.2 true t692 t693 t694 bt703.1 bt703.2.1 bt703.2.2.1)) else (laws_FnGridTexts.j0 k t698 t699 t702 bt703.2.2.2 true t692 t693 t694 bt703.1 bt703.2.1 bt703.2.2.1)))))) = some r := H
    have A5 := Aside0.mk A50
    clear A50
    replace H := Option.bind_eq_some_iff.mp H
    obtain ⟨⟨t700, t701⟩, A60, H⟩ := H
    replace H : ((spec_DrawReadGrid.f k l0).bind fun t702 => ((impl_ReadGrid.f k t702).bind fun bt703 => ((spec_ReadGrid.f k t702).bind fun bt710 => (if t699 = t701 then (if t698.toList = t700.toList then (if bt703.2.2.2 = bt710.2.2.2 then ((laws_likeGrid.f k bt703.1 bt703.2.1 bt703.2.2.1 bt710.1 bt710.2.1 bt710.2.2.1).bind fun t717 => (if t717 = true then ((impl_IsGrid.f t692 t693 t694).bind fun t718 => (laws_FnGridTexts.j0 k t698 t699 t702 bt703.2.2.2 (t718 != (t701 == 0)) t692 t693 t694 bt703.1 bt703.2.1 bt703.2.2.1)) else (laws_FnGridTexts.j0 k t698 t699 t702 bt703.2.2.2 true t692 t693 t694 bt703.1 bt703.2.1 bt703.2.2.1))) else (laws_FnGridTexts.j0 k t698 t699 t702 bt703.2.2.2 true t692 t693 t694 bt703.1 bt703.2.1 bt703.2.2.1)) else (laws_FnGridTexts.j0 k t698 t699 t702 bt703.2.2.2 true t692 t693 t694 bt703.1 bt703.2.1 bt703.2.2.1)) else (laws_FnGridTexts.j0 k t698 t699 t702 bt703.2.2.2 true t692 t693 t694 bt703.1 bt703.2.1 bt703.2.2.1))))) = some r := H
    have A6 := Aside0.mk A60
    clear A60
    replace H := Option.bind_eq_some_iff.mp H
    obtain ⟨t702, A70, H⟩ := H
    replace H : ((impl_ReadGrid.f k t702).bind fun bt703 => ((spec_ReadGrid.f k t702).bind fun bt710 => (if t699 = t701 then (if t698.toList = t700.toList then (if bt703.2.2.2 = bt710.2.2.2 then ((laws_likeGrid.f k bt703.1 bt703.2.1 bt703.2.2.1 bt710.1 bt710.2.1 bt710.2.2.1).bind fun t717 => (if t717 = true then ((impl_IsGrid.f t692 t693 t694).bind fun t718 => (laws_FnGridTexts.j0 k t698 t699 t702 bt703.2.2.2 (t718 != (t701 == 0)) t692 t693 t694 bt703.1 bt703.2.1 bt703.2.2.1)) else (laws_FnGridTexts.j0 k t698 t699 t702 bt703.2.2.2 true t692 t693 t694 bt703.1 bt703.2.1 bt703.2.2.1))) else (laws_FnGridTexts.j0 k t698 t699 t702 bt703.2.2.2 true t692 t693 t694 bt703.1 bt703.2.1 bt703.2.2.1)) else (laws_FnGridTexts.j0 k t698 t699 t702 bt703.2.2.2 true t692 t693 t694 bt703.1 bt703.2.1 bt703.2.2.1)) else (laws_FnGridTexts.j0 k t698 t699 t702 bt703.2.2.2 true t692 t693 t694 bt703.1 bt703.2.1 bt703.2.2.1)))) = some r := H
    have A7 := Aside0.mk A70
    clear A70
    replace H := Option.bind_eq_some_iff.mp H
    obtain ⟨⟨t703, t704, t705, t708⟩, A80, H⟩ := H
    replace H : ((spec_ReadGrid.f k t702).bind fun bt710 => (if t699 = t701 then (if t698.toList = t700.toList then (if t708 = bt710.2.2.2 then ((laws_likeGrid.f k t703 t704 t705 bt710.1 bt710.2.1 bt710.2.2.1).bind fun t717 => (if t717 = true then ((impl_IsGrid.f t692 t693 t694).bind fun t718 => (laws_FnGridTexts.j0 k t698 t699 t702 t708 (t718 != (t701 == 0)) t692 t693 t694 t703 t704 t705)) else (laws_FnGridTexts.j0 k t698 t699 t702 t708 true t692 t693 t694 t703 t704 t705))) else (laws_FnGridTexts.j0 k t698 t699 t702 t708 true t692 t693 t694 t703 t704 t705)) else (laws_FnGridTexts.j0 k t698 t699 t702 t708 true t692 t693 t694 t703 t704 t705)) else (laws_FnGridTexts.j0 k t698 t699 t702 t708 true t692 t693 t694 t703 t704 t705))) = some r := H
    have A8 := Aside0.mk A80
    clear A80
    replace H := Option.bind_eq_some_iff.mp H
    obtain ⟨⟨t710, t711, t712, t715⟩, A90, H⟩ := H
    replace H : (if t699 = t701 then (if t698.toList = t700.toList then (if t708 = t715 then ((laws_likeGrid.f k t703 t704 t705 t710 t711 t712).bind fun t717 => (if t717 = true then ((impl_IsGrid.f t692 t693 t694).bind fun t718 => (laws_FnGridTexts.j0 k t698 t699 t702 t708 (t718 != (t701 == 0)) t692 t693 t694 t703 t704 t705)) else (laws_FnGridTexts.j0 k t698 t699 t702 t708 true t692 t693 t694 t703 t704 t705))) else (laws_FnGridTexts.j0 k t698 t699 t702 t708 true t692 t693 t694 t703 t704 t705)) else (laws_FnGridTexts.j0 k t698 t699 t702 t708 true t692 t693 t694 t703 t704 t705)) else (laws_FnGridTexts.j0 k t698 t699 t702 t708 true t692 t693 t694 t703 t704 t705)) = some r := H
    have A9 := Aside0.mk A90
    clear A90
    have HC10 := Aside0.mk H
    clear H
    go_enter Try.func7, Try.ntmps7
    go_upto_region 9 with (first | ((with_reducible refine gate_callee (f := 37) rfl ?_); refine goesL_ (some 18) rfl rfl Try.func37 (by kernel_rfl) rfl #[.slice A0 l0.length c0] rfl (by (try simp only [List.map_toArray, List.map_cons, List.map_nil]); first | done | rfl | (simp only [List.length_drop, List.length_take]; rfl)) ?_; (with_reducible refine (laws_big.calls _ _ l0 false _ ?side1 ?side2 A2.out).mono ?_); (case side1 => repeat (first | exact HR0.out | (with_reducible refine Kd.C_alloc ?_ _) | (with_reducible refine Kd.C_drewN ?_ _) | (with_reducible refine Kd.C_drew ?_))); (case side2 => exact HC0.out); rintro e w' ⟨rfl, ⟨nd, rfl⟩⟩; refine ⟨_, rfl, ?_⟩) | ((with_reducible refine gate_callee (f := 38) rfl ?_); refine goesL_ (some 20) rfl rfl Try.func38 (by kernel_rfl) rfl #[.slice A0 l0.length c0] rfl (by (try simp only [List.map_toArray, List.map_cons, List.map_nil]); first | done | rfl | (simp only [List.length_drop, List.length_take]; rfl)) ?_; (with_reducible refine (spec_DrawGridText.calls k _ _ l0 t692 t693 t694 _ ?side1 ?side2 A4.out).mono ?_); (case side1 => repeat (first | exact HR0.out | (with_reducible refine Kd.C_alloc ?_ _) | (with_reducible refine Kd.C_drewN ?_ _) | (with_reducible refine Kd.C_drew ?_))); (case side2 => exact HC0.out); rintro e w11 ⟨v695, rfl, ho0, hb⟩; refine ⟨_, rfl, ?_⟩; have n0_ := Aside0.mk (Kd.R_lower ho0 (below_size (by repeat (first | (with_reducible first | exact HB.out | apply below_alloc | apply pw_below_drewN | apply below_drew1) | exact HB.out)))); have n1_ := Aside0.mk (below_step (by repeat (first | (with_reducible first | exact HB.out | apply below_alloc | apply pw_below_drewN | apply below_drew1) | exact HB.out)) hb); clear HB; have HO696 := n0_; have HB := n1_; clear n0_ n1_; (try clear hb); (try clear hb2); (try clear hk); (try clear hi); (try clear ho0)) | ((with_reducible refine gate_dst (N := 3) rfl ?_); refine box_event ?hg (N := 3) ?hd (cs := #[.int .i64 0, .int .i64 0, .slice none 0 0]) (t := 57) ?hr ?_; (case hd => rfl); (case hg => rfl); (case hr => first | (go_simp; done) | (go_simp; rfl)); intro gb697 hg w12 hbox hb; have n0_ := Aside0.mk (Kd.R_below (by (with_reducible repeat (first | apply Kd.R_alloc | apply Kd.R_drewN | apply Kd.R_drew)); exact HO696.out) hb); have n1_ := Aside0.mk (below_step (by repeat (first | (with_reducible first | exact HB.out | apply below_alloc | apply pw_below_drewN | apply below_drew1) | exact HB.out)) hb); have n2_ := Aside0.mk (hbox); have n3_ := Aside0.mk ((by rw [hg]; exact (below_size (by repeat (first | (with_reducible first | exact HB.out | apply below_alloc | apply pw_below_drewN | apply below_drew1) | exact HB.out))) : w.heap.size ≤ gb697)); have n4_ := Aside0.mk ((by rw [hg]; exact (below_size (by repeat (first | (with_reducible first | exact HB.out | apply below_alloc | apply pw_below_drewN | apply below_drew1) | exact HB.out))) : w.heap.size ≤ gb697)); clear HO696; clear HB; have HO696 := n0_; have HB := n1_; have BK697 := n2_; have GW697 := n3_; have GE697 := n4_; clear n0_ n1_ n2_ n3_ n4_; clear hb hbox hg; have hcz13_0 : w12.cell? ⟨gb697, 0, none⟩ = some (.int .i64 0) := (blk_cell BK697.out 0).trans rfl; have hcz13_1 : w12.cell? ⟨gb697, 1, none⟩ = some (.int .i64 0) := (blk_cell BK697.out 1).trans rfl; have hcz13_2 : w12.cell? ⟨gb697, 2, none⟩ = some (.slice none 0 0) := (blk_cell BK697.out 2).trans rfl; have hfz13_0 := blk_frozen BK697.out 0; have hfz13_1 := blk_frozen BK697.out 1; have hfz13_2 := blk_frozen BK697.out 2; obtain ⟨Ao14, co14, eo14⟩ := Kd.R_slice HO696.out; subst eo14) | ((with_reducible refine gate_callee (f := 39) rfl ?_); refine goesL_ (some 23) rfl rfl Try.func39 (by kernel_rfl) rfl #[.agg #[.int .i64 t692, .int .i64 t693, .slice Ao14 t694.length co14]] rfl (by (try simp only [List.map_toArray, List.map_cons, List.map_nil]); first | done | rfl | (simp only [List.length_drop, List.length_take]; rfl)) ?_; (with_reducible refine (impl_GridText.calls k t692 t693 _ _ t694 t698 t699 _ ?side1 ?side2 A5.out).mono ?_); (case side1 => refine (Kd.R_reads' (e := 4) (base := w.heap.size) (ok := fun k_ => True) (n := t694.length) (c := co14) ?_).2.2; exact (by (with_reducible repeat (first | apply Kd.R_alloc | apply Kd.R_drewN | apply Kd.R_drew)); exact (Kd.R_mono (Kd.R_far (p := ⟨gb697, 2, none⟩) (Kd.R_far (p := ⟨gb697, 1, none⟩) (Kd.R_far (p := ⟨gb697, 0, none⟩) (Kd.R_types HO696.out BK697.out (by decide)) (fun _ hk => hk.2) (.int .i64 t692)) (fun _ hk => hk.2) (.int .i64 t693)) (fun _ hk => hk.2) (.slice Ao14 t694.length co14)) (fun _ h_ => h_.1)))); (case side2 => exact (Kd.R_reads' HO696.out).2.1); rintro e w15 ⟨rfl, hb⟩; refine ⟨_, rfl, ?_⟩; have n0_ := Aside0.mk (Kd.R_below (by (with_reducible repeat (first | apply Kd.R_alloc | apply Kd.R_drewN | apply Kd.R_drew)); exact (Kd.R_mono (Kd.R_far (p := ⟨gb697, 2, none⟩) (Kd.R_far (p := ⟨gb697, 1, none⟩) (Kd.R_far (p := ⟨gb697, 0, none⟩) (Kd.R_types HO696.out BK697.out (by decide)) (fun _ hk => hk.2) (.int .i64 t692)) (fun _ hk => hk.2) (.int .i64 t693)) (fun _ hk => hk.2) (.slice Ao14 t694.length co14)) (fun _ h_ => h_.1))) hb); have n1_ := Aside0.mk (blk_below (g := gb697) (o := .cells #[.int .i64 t692, .int .i64 t693, .slice Ao14 t694.length co14] 57 (0, 0)) (by (with_reducible repeat (first | refine blk_drewN ?_ _ | refine blk_drew ?_ | refine blk_alloc ?_ _)); refine blk_put (cs := #[.int .i64 t692, .int .i64 t693, .slice none 0 0]) ?_ 2 _ rfl; (with_reducible repeat (first | refine blk_drewN ?_ _ | refine blk_drew ?_ | refine blk_alloc ?_ _)); refine blk_put (cs := #[.int .i64 t692, .int .i64 0, .slice none 0 0]) ?_ 1 _ rfl; (with_reducible repeat (first | refine blk_drewN ?_ _ | refine blk_drew ?_ | refine blk_alloc ?_ _)); refine blk_put (cs := #[.int .i64 0, .int .i64 0, .slice none 0 0]) ?_ 0 _ rfl; (with_reducible repeat (first | refine blk_drewN ?_ _ | refine blk_drew ?_ | refine blk_alloc ?_ _)); exact BK697.out) hb); have n2_ := Aside0.mk (below_step (by repeat (first | (with_reducible first | exact HB.out | apply below_alloc | apply pw_below_drewN | apply below_drew1 | refine below_set ?_ GE697.out) | exact HB.out)) hb); clear HO696; clear BK697; clear HB; have HO696 := n0_; have BK697 := n1_; have HB := n2_; clear n0_ n1_ n2_; (try clear hb); (try clear hb2); (try clear hk); (try clear hi); have hcz16_0 : w15.cell? ⟨gb697, 0, none⟩ = some (.int .i64 t692) := (blk_cell BK697.out 0).trans rfl; have hcz16_1 : w15.cell? ⟨gb697, 1, none⟩ = some (.int .i64 t693) := (blk_cell BK697.out 1).trans rfl; have hcz16_2 : w15.cell? ⟨gb697, 2, none⟩ = some (.slice Ao14 t694.length co14) := (blk_cell BK697.out 2).trans rfl; have hfz16_0 := blk_frozen BK697.out 0; have hfz16_1 := blk_frozen BK697.out 1; have hfz16_2 := blk_frozen BK697.out 2) | ((with_reducible refine gate_callee (f := 40) rfl ?_); refine goesL_ (some 28) rfl rfl Try.func40 (by kernel_rfl) rfl #[.agg #[.int .i64 t692, .int .i64 t693, .slice Ao14 t694.length co14]] rfl (by (try simp only [List.map_toArray, List.map_cons, List.map_nil]); first | done | rfl | (simp only [List.length_drop, List.length_take]; rfl)) ?_; (with_reducible refine (spec_GridText.calls k t692 t693 _ _ t694 t700 t701 _ ?side1 ?side2 A6.out).mono ?_); (case side1 => repeat (first | exact (Kd.R_reads' HO696.out).2.2 | (with_reducible refine Kd.C_alloc ?_ _) | (with_reducible refine Kd.C_drewN ?_ _) | (with_reducible refine Kd.C_drew ?_))); (case side2 => exact (Kd.R_reads' HO696.out).2.1); rintro e w17 ⟨rfl, hb⟩; refine ⟨_, rfl, ?_⟩; have n0_ := Aside0.mk (Kd.R_below (by (with_reducible repeat (first | apply Kd.R_alloc | apply Kd.R_drewN | apply Kd.R_drew)); exact HO696.out) hb); have n1_ := Aside0.mk (blk_below (g := gb697) (o := .cells #[.int .i64 t692, .int .i64 t693, .slice Ao14 t694.length co14] 57 (0, 0)) (by (with_reducible repeat (first | refine blk_drewN ?_ _ | refine blk_drew ?_ | refine blk_alloc ?_ _)); exact BK697.out) hb); have n2_ := Aside0.mk (below_step (by repeat (first | (with_reducible first | exact HB.out | apply below_alloc | apply pw_below_drewN | apply below_drew1 | refine below_set ?_ GE697.out) | exact HB.out)) hb); clear HO696; clear BK697; clear HB; have HO696 := n0_; have BK697 := n1_; have HB := n2_; clear n0_ n1_ n2_; (try clear hb); (try clear hb2); (try clear hk); (try clear hi)) | ((with_reducible refine gate_callee (f := 41) rfl ?_); refine goesL_ (some 32) rfl rfl Try.func41 (by kernel_rfl) rfl #[.slice A0 l0.length c0] rfl (by (try simp only [List.map_toArray, List.map_cons, List.map_nil]); first | done | rfl | (simp only [List.length_drop, List.length_take]; rfl)) ?_; (with_reducible refine (spec_DrawReadGrid.calls k _ _ l0 t702 _ ?side1 ?side2 A7.out).mono ?_); (case side1 => repeat (first | exact (Kd.C_below HR0.out HB.out) | (with_reducible refine Kd.C_alloc ?_ _) | (with_reducible refine Kd.C_drewN ?_ _) | (with_reducible refine Kd.C_drew ?_))); (case side2 => exact HC0.out); rintro e w18 ⟨rfl, hb⟩; refine ⟨_, rfl, ?_⟩; have n0_ := Aside0.mk (Kd.R_below (by (with_reducible repeat (first | apply Kd.R_alloc | apply Kd.R_drewN | apply Kd.R_drew)); exact HO696.out) hb); have n1_ := Aside0.mk (blk_below (g := gb697) (o := .cells #[.int .i64 t692, .int .i64 t693, .slice Ao14 t694.length co14] 57 (0, 0)) (by (with_reducible repeat (first | refine blk_drewN ?_ _ | refine blk_drew ?_ | refine blk_alloc ?_ _)); exact BK697.out) hb); have n2_ := Aside0.mk (below_step (by repeat (first | (with_reducible first | exact HB.out | apply below_alloc | apply pw_below_drewN | apply below_drew1 | refine below_set ?_ GE697.out) | exact HB.out)) hb); clear HO696; clear BK697; clear HB; have HO696 := n0_; have BK697 := n1_; have HB := n2_; clear n0_ n1_ n2_; (try clear hb); (try clear hb2); (try clear hk); (try clear hi)) | ((with_reducible refine gate_callee (f := 42) rfl ?_); refine goesL_ (some 35) rfl rfl Try.func42 (by kernel_rfl) rfl #[.string t702] rfl (by (try simp only [List.map_toArray, List.map_cons, List.map_nil]); first | done | rfl | (simp only [List.length_drop, List.length_take]; rfl)) ?_; (with_reducible refine (impl_ReadGrid.calls k t702 t703 t704 t705 t708 _ A8.out).mono ?_); rintro e w19 ⟨v706, rfl, ho0, hb⟩; refine ⟨_, rfl, ?_⟩; have n0_ := Aside0.mk (Kd.R_elder' (by (with_reducible repeat (first | apply Kd.R_alloc | apply Kd.R_drewN | apply Kd.R_drew)); exact HO696.out) (Kd.R_base ho0) hb); have n1_ := Aside0.mk (Kd.R_lower (Kd.R_new' ho0 (Kd.R_lt (by (with_reducible repeat (first | apply Kd.R_alloc | apply Kd.R_drewN | apply Kd.R_drew)); exact HO696.out))) (below_size (by repeat (first | (with_reducible first | exact HB.out | apply below_alloc | apply pw_below_drewN | apply below_drew1 | refine below_set ?_ GE697.out) | exact HB.out)))); have n2_ := Aside0.mk (blk_below (g := gb697) (o := .cells #[.int .i64 t692, .int .i64 t693, .slice Ao14 t694.length co14] 57 (0, 0)) (by (with_reducible repeat (first | refine blk_drewN ?_ _ | refine blk_drew ?_ | refine blk_alloc ?_ _)); exact BK697.out) hb); have n3_ := Aside0.mk (below_step (by repeat (first | (with_reducible first | exact HB.out | apply below_alloc | apply pw_below_drewN | apply below_drew1 | refine below_set ?_ GE697.out) | exact HB.out)) hb); clear HO696; clear BK697; clear HB; have HO696 := n0_; have HO707 := n1_; have BK697 := n2_; have HB := n3_; clear n0_ n1_ n2_ n3_; (try clear hb); (try clear hb2); (try clear hk); (try clear hi); (try clear ho0)) | ((with_reducible refine gate_dst (N := 9) rfl ?_); refine box_event ?hg (N := 9) ?hd (cs := #[.int .i64 0, .int .i64 0, .slice none 0 0]) (t := 57) ?hr ?_; (case hd => rfl); (case hg => rfl); (case hr => first | (go_simp; done) | (go_simp; rfl)); intro gb709 hg w20 hbox hb; have n0_ := Aside0.mk (Kd.R_below (by (with_reducible repeat (first | apply Kd.R_alloc | apply Kd.R_drewN | apply Kd.R_drew)); exact HO696.out) hb); have n1_ := Aside0.mk (Kd.R_below (by (with_reducible repeat (first | apply Kd.R_alloc | apply Kd.R_drewN | apply Kd.R_drew)); exact HO707.out) hb); have n2_ := Aside0.mk (blk_below (g := gb697) (o := .cells #[.int .i64 t692, .int .i64 t693, .slice Ao14 t694.length co14] 57 (0, 0)) (by (with_reducible repeat (first | refine blk_drewN ?_ _ | refine blk_drew ?_ | refine blk_alloc ?_ _)); exact BK697.out) hb); have n3_ := Aside0.mk (below_step (by repeat (first | (with_reducible first | exact HB.out | apply below_alloc | apply pw_below_drewN | apply below_drew1 | refine below_set ?_ GE697.out) | exact HB.out)) hb); have n4_ := Aside0.mk (hbox); have n5_ := Aside0.mk ((by rw [hg]; exact (below_size (by repeat (first | (with_reducible first | exact HB.out | apply below_alloc | apply pw_below_drewN | apply below_drew1 | refine below_set ?_ GE697.out) | exact HB.out))) : w.heap.size ≤ gb709)); have n6_ := Aside0.mk ((by rw [hg]; exact (below_size (by repeat (first | (with_reducible first | exact HB.out | apply below_alloc | apply pw_below_drewN | apply below_drew1 | refine below_set ?_ GE697.out) | exact HB.out))) : w.heap.size ≤ gb709)); have n7_ := Aside0.mk ((by rw [hg]; exact Nat.ne_of_lt (blk_lt (g := gb697) (o := .cells #[.int .i64 t692, .int .i64 t693, .slice Ao14 t694.length co14] 57 (0, 0)) (by (with_reducible repeat (first | refine blk_drewN ?_ _ | refine blk_drew ?_ | refine blk_alloc ?_ _)); exact BK697.out)) : gb697 ≠ gb709)); have n8_ := Aside0.mk ((by rw [hg]; exact Nat.ne_of_gt (blk_lt (g := gb697) (o := .cells #[.int .i64 t692, .int .i64 t693, .slice Ao14 t694.length co14] 57 (0, 0)) (by (with_reducible repeat (first | refine blk_drewN ?_ _ | refine blk_drew ?_ | refine blk_alloc ?_ _)); exact BK697.out)) : gb709 ≠ gb697)); clear HO696; clear HO707; clear BK697; clear HB; have HO696 := n0_; have HO707 := n1_; have BK697 := n2_; have HB := n3_; have BK709 := n4_; have GW709 := n5_; have GE709 := n6_; have NB697_709 := n7_; have NB709_697 := n8_; clear n0_ n1_ n2_ n3_ n4_ n5_ n6_ n7_ n8_; clear hb hbox hg; have hnb21 := NB709_697.out; have hnc21 := NB697_709.out; have hcz22_0 : w20.cell? ⟨gb709, 0, none⟩ = some (.int .i64 0) := (blk_cell BK709.out 0).trans rfl; have hcz22_1 : w20.cell? ⟨gb709, 1, none⟩ = some (.int .i64 0) := (blk_cell BK709.out 1).trans rfl; have hcz22_2 : w20.cell? ⟨gb709, 2, none⟩ = some (.slice none 0 0) := (blk_cell BK709.out 2).trans rfl; have hfz22_0 := blk_frozen BK709.out 0; have hfz22_1 := blk_frozen BK709.out 1; have hfz22_2 := blk_frozen BK709.out 2; obtain ⟨Ao23, co23, eo23⟩ := Kd.R_slice HO707.out; subst eo23) | ((with_reducible refine gate_callee (f := 43) rfl ?_); refine goesL_ (some 40) rfl rfl Try.func43 (by kernel_rfl) rfl #[.string t702] rfl (by (try simp only [List.map_toArray, List.map_cons, List.map_nil]); first | done | rfl | (simp only [List.length_drop, List.length_take]; rfl)) ?_; (with_reducible refine (spec_ReadGrid.calls k t702 t710 t711 t712 t715 _ A9.out).mono ?_); rintro e w24 ⟨v713, rfl, ho0, hb⟩; refine ⟨_, rfl, ?_⟩; have n0_ := Aside0.mk (Kd.R_elder' (by (with_reducible repeat (first | apply Kd.R_alloc | apply Kd.R_drewN | apply Kd.R_drew)); exact (Kd.R_mono (Kd.R_far (p := ⟨gb709, 2, none⟩) (Kd.R_far (p := ⟨gb709, 1, none⟩) (Kd.R_far (p := ⟨gb709, 0, none⟩) (Kd.R_types HO696.out BK709.out (by decide)) (fun _ hk => hk.2) (.int .i64 t703)) (fun _ hk => hk.2) (.int .i64 t704)) (fun _ hk => hk.2) (.slice Ao23 t705.length co23)) (fun _ h_ => h_.1))) (Kd.R_base ho0) hb); have n1_ := Aside0.mk (Kd.R_elder' (by (with_reducible repeat (first | apply Kd.R_alloc | apply Kd.R_drewN | apply Kd.R_drew)); exact (Kd.R_mono (Kd.R_far (p := ⟨gb709, 2, none⟩) (Kd.R_far (p := ⟨gb709, 1, none⟩) (Kd.R_far (p := ⟨gb709, 0, none⟩) (Kd.R_types HO707.out BK709.out (by decide)) (fun _ hk => hk.2) (.int .i64 t703)) (fun _ hk => hk.2) (.int .i64 t704)) (fun _ hk => hk.2) (.slice Ao23 t705.length co23)) (fun _ h_ => h_.1))) (Kd.R_base ho0) hb); have n2_ := Aside0.mk (Kd.R_lower (Kd.R_new' (Kd.R_new' ho0 (Kd.R_lt (by (with_reducible repeat (first | apply Kd.R_alloc | apply Kd.R_drewN | apply Kd.R_drew)); exact (Kd.R_mono (Kd.R_far (p := ⟨gb709, 2, none⟩) (Kd.R_far (p := ⟨gb709, 1, none⟩) (Kd.R_far (p := ⟨gb709, 0, none⟩) (Kd.R_types HO696.out BK709.out (by decide)) (fun _ hk => hk.2) (.int .i64 t703)) (fun _ hk => hk.2) (.int .i64 t704)) (fun _ hk => hk.2) (.slice Ao23 t705.length co23)) (fun _ h_ => h_.1))))) (Kd.R_lt (by (with_reducible repeat (first | apply Kd.R_alloc | apply Kd.R_drewN | apply Kd.R_drew)); exact (Kd.R_mono (Kd.R_far (p := ⟨gb709, 2, none⟩) (Kd.R_far (p := ⟨gb709, 1, none⟩) (Kd.R_far (p := ⟨gb709, 0, none⟩) (Kd.R_types HO707.out BK709.out (by decide)) (fun _ hk => hk.2) (.int .i64 t703)) (fun _ hk => hk.2) (.int .i64 t704)) (fun _ hk => hk.2) (.slice Ao23 t705.length co23)) (fun _ h_ => h_.1))))) (below_size (by repeat (first | (with_reducible first | exact HB.out | apply below_alloc | apply pw_below_drewN | apply below_drew1 | refine below_set ?_ GE697.out | refine below_set ?_ GE709.out) | exact HB.out)))); have n3_ := Aside0.mk (blk_below (g := gb697) (o := .cells #[.int .i64 t692, .int .i64 t693, .slice Ao14 t694.length co14] 57 (0, 0)) (by (with_reducible repeat (first | refine blk_drewN ?_ _ | refine blk_drew ?_ | refine blk_alloc ?_ _)); refine blk_far ?_ NB697_709.out _; (with_reducible repeat (first | refine blk_drewN ?_ _ | refine blk_drew ?_ | refine blk_alloc ?_ _)); refine blk_far ?_ NB697_709.out _; (with_reducible repeat (first | refine blk_drewN ?_ _ | refine blk_drew ?_ | refine blk_alloc ?_ _)); refine blk_far ?_ NB697_709.out _; (with_reducible repeat (first | refine blk_drewN ?_ _ | refine blk_drew ?_ | refine blk_alloc ?_ _)); exact BK697.out) hb); have n4_ := Aside0.mk (blk_below (g := gb709) (o := .cells #[.int .i64 t703, .int .i64 t704, .slice Ao23 t705.length co23] 57 (0, 0)) (by (with_reducible repeat (first | refine blk_drewN ?_ _ | refine blk_drew ?_ | refine blk_alloc ?_ _)); refine blk_put (cs := #[.int .i64 t703, .int .i64 t704, .slice none 0 0]) ?_ 2 _ rfl; (with_reducible repeat (first | refine blk_drewN ?_ _ | refine blk_drew ?_ | refine blk_alloc ?_ _)); refine blk_put (cs := #[.int .i64 t703, .int .i64 0, .slice none 0 0]) ?_ 1 _ rfl; (with_reducible repeat (first | refine blk_drewN ?_ _ | refine blk_drew ?_ | refine blk_alloc ?_ _)); refine blk_put (cs := #[.int .i64 0, .int .i64 0, .slice none 0 0]) ?_ 0 _ rfl; (with_reducible repeat (first | refine blk_drewN ?_ _ | refine blk_drew ?_ | refine blk_alloc ?_ _)); exact BK709.out) hb); have n5_ := Aside0.mk (below_step (by repeat (first | (with_reducible first | exact HB.out | apply below_alloc | apply pw_below_drewN | apply below_drew1 | refine below_set ?_ GE697.out | refine below_set ?_ GE709.out) | exact HB.out)) hb); clear HO696; clear HO707; clear BK697; clear BK709; clear HB; have HO696 := n0_; have HO707 := n1_; have HO714 := n2_; have BK697 := n3_; have BK709 := n4_; have HB := n5_; clear n0_ n1_ n2_ n3_ n4_ n5_; (try clear hb); (try clear hb2); (try clear hk); (try clear hi); (try clear ho0)) | ((with_reducible refine gate_dst (N := 11) rfl ?_); refine box_event ?hg (N := 11) ?hd (cs := #[.int .i64 0, .int .i64 0, .slice none 0 0]) (t := 57) ?hr ?_; (case hd => rfl); (case hg => rfl); (case hr => first | (go_simp; done) | (go_simp; rfl)); intro gb716 hg w25 hbox hb; have n0_ := Aside0.mk (Kd.R_below (by (with_reducible repeat (first | apply Kd.R_alloc | apply Kd.R_drewN | apply Kd.R_drew)); exact HO696.out) hb); have n1_ := Aside0.mk (Kd.R_below (by (with_reducible repeat (first | apply Kd.R_alloc | apply Kd.R_drewN | apply Kd.R_drew)); exact HO707.out) hb); have n2_ := Aside0.mk (Kd.R_below (by (with_reducible repeat (first | apply Kd.R_alloc | apply Kd.R_drewN | apply Kd.R_drew)); exact HO714.out) hb); have n3_ := Aside0.mk (blk_below (g := gb697) (o := .cells #[.int .i64 t692, .int .i64 t693, .slice Ao14 t694.length co14] 57 (0, 0)) (by (with_reducible repeat (first | refine blk_drewN ?_ _ | refine blk_drew ?_ | refine blk_alloc ?_ _)); exact BK697.out) hb); have n4_ := Aside0.mk (blk_below (g := gb709) (o := .cells #[.int .i64 t703, .int .i64 t704, .slice Ao23 t705.length co23] 57 (0, 0)) (by (with_reducible repeat (first | refine blk_drewN ?_ _ | refine blk_drew ?_ | refine blk_alloc ?_ _)); exact BK709.out) hb); have n5_ := Aside0.mk (below_step (by repeat (first | (with_reducible first | exact HB.out | apply below_alloc | apply pw_below_drewN | apply below_drew1 | refine below_set ?_ GE697.out | refine below_set ?_ GE709.out) | exact HB.out)) hb); have n6_ := Aside0.mk (hbox); have n7_ := Aside0.mk ((by rw [hg]; exact (below_size (by repeat (first | (with_reducible first | exact HB.out | apply below_alloc | apply pw_below_drewN | apply below_drew1 | refine below_set ?_ GE697.out | refine below_set ?_ GE709.out) | exact HB.out))) : w.heap.size ≤ gb716)); have n8_ := Aside0.mk ((by rw [hg]; exact (below_size (by repeat (first | (with_reducible first | exact HB.out | apply below_alloc | apply pw_below_drewN | apply below_drew1 | refine below_set ?_ GE697.out | refine below_set ?_ GE709.out) | exact HB.out))) : w.heap.size ≤ gb716)); have n9_ := Aside0.mk ((by rw [hg]; exact Nat.ne_of_lt (blk_lt (g := gb697) (o := .cells #[.int .i64 t692, .int .i64 t693, .slice Ao14 t694.length co14] 57 (0, 0)) (by (with_reducible repeat (first | refine blk_drewN ?_ _ | refine blk_drew ?_ | refine blk_alloc ?_ _)); exact BK697.out)) : gb697 ≠ gb716)); have n10_ := Aside0.mk ((by rw [hg]; exact Nat.ne_of_gt (blk_lt (g := gb697) (o := .cells #[.int .i64 t692, .int .i64 t693, .slice Ao14 t694.length co14] 57 (0, 0)) (by (with_reducible repeat (first | refine blk_drewN ?_ _ | refine blk_drew ?_ | refine blk_alloc ?_ _)); exact BK697.out)) : gb716 ≠ gb697)); have n11_ := Aside0.mk ((by rw [hg]; exact Nat.ne_of_lt (blk_lt (g := gb709) (o := .cells #[.int .i64 t703, .int .i64 t704, .slice Ao23 t705.length co23] 57 (0, 0)) (by (with_reducible repeat (first | refine blk_drewN ?_ _ | refine blk_drew ?_ | refine blk_alloc ?_ _)); exact BK709.out)) : gb709 ≠ gb716)); have n12_ := Aside0.mk ((by rw [hg]; exact Nat.ne_of_gt (blk_lt (g := gb709) (o := .cells #[.int .i64 t703, .int .i64 t704, .slice Ao23 t705.length co23] 57 (0, 0)) (by (with_reducible repeat (first | refine blk_drewN ?_ _ | refine blk_drew ?_ | refine blk_alloc ?_ _)); exact BK709.out)) : gb716 ≠ gb709)); clear HO696; clear HO707; clear HO714; clear BK697; clear BK709; clear HB; have HO696 := n0_; have HO707 := n1_; have HO714 := n2_; have BK697 := n3_; have BK709 := n4_; have HB := n5_; have BK716 := n6_; have GW716 := n7_; have GE716 := n8_; have NB697_716 := n9_; have NB716_697 := n10_; have NB709_716 := n11_; have NB716_709 := n12_; clear n0_ n1_ n2_ n3_ n4_ n5_ n6_ n7_ n8_ n9_ n10_ n11_ n12_; clear hb hbox hg; have hnb26 := NB716_697.out; have hnc26 := NB697_716.out; have hnb27 := NB716_709.out; have hnc27 := NB709_716.out; have hcz28_0 : w25.cell? ⟨gb716, 0, none⟩ = some (.int .i64 0) := (blk_cell BK716.out 0).trans rfl; have hcz28_1 : w25.cell? ⟨gb716, 1, none⟩ = some (.int .i64 0) := (blk_cell BK716.out 1).trans rfl; have hcz28_2 : w25.cell? ⟨gb716, 2, none⟩ = some (.slice none 0 0) := (blk_cell BK716.out 2).trans rfl; have hfz28_0 := blk_frozen BK716.out 0; have hfz28_1 := blk_frozen BK716.out 1; have hfz28_2 := blk_frozen BK716.out 2; obtain ⟨Ao29, co29, eo29⟩ := Kd.R_slice HO714.out; subst eo29))
    (try simp only [Act.put, List.setIfInBounds_toArray, List.set_cons_zero, List.set_cons_succ])
    go_cut [68] (fun v68 wc => ∃ (kq : Nat) (x68_9 : Bool), v68 = .bool x68_9 ∧ Aside0 (laws_FnGridTexts.j0 kq t698 t699 t702 t708 x68_9 t692 t693 t694 t703 t704 t705 = some r) ∧ Aside0 (kq ≤ k) ∧ Aside0 (Kd.R Kd.bool 4 wc w.heap.size (fun k_ => some k_ ≠ ((.slice Ao23 t705.length co23) : Value).ownBlock ∧ some k_ ≠ ((.slice Ao29 t712.length co29) : Value).ownBlock) (.slice Ao14 t694.length co14) t694) ∧ Aside0 (Kd.R Kd.bool 4 wc w.heap.size (fun k_ => some k_ ≠ ((.slice Ao14 t694.length co14) : Value).ownBlock ∧ some k_ ≠ ((.slice Ao29 t712.length co29) : Value).ownBlock) (.slice Ao23 t705.length co23) t705) ∧ Aside0 (Kd.R Kd.bool 4 wc w.heap.size (fun k_ => some k_ ≠ ((.slice Ao14 t694.length co14) : Value).ownBlock ∧ some k_ ≠ ((.slice Ao23 t705.length co23) : Value).ownBlock) (.slice Ao29 t712.length co29) t712) ∧ Aside0 (wc.heap[gb697]? = some (.cells #[.int .i64 t692, .int .i64 t693, (.slice Ao14 t694.length co14)] 57 (0, 0))) ∧ Aside0 (wc.heap[gb709]? = some (.cells #[.int .i64 t703, .int .i64 t704, (.slice Ao23 t705.length co23)] 57 (0, 0))) ∧ Aside0 (wc.heap[gb716]? = some (.cells #[.int .i64 t710, .int .i64 t711, (.slice Ao29 t712.length co29)] 57 (0, 0))) ∧ Aside0 (Below w.heap.size w wc))
    case first =>
      have H := HC10.out
      clear HC10
      by_cases c30 : t699 = t701
      · rw [if_pos c30] at H
        have c30b0 : (t699 == t701) = true := beq_iff_eq.mpr c30
        have c30b1 : (t699 != t701) = false := bne_eq_false_iff_eq.mpr c30
        clear c30
        (first | rw [c30b0] | (simp only [i64_w, i32_w]; rw [c30b0]) | skip)
        by_cases c31 : t698.toList = t700.toList
        · rw [if_pos c31] at H
          have c31b0 : (t698.toList == t700.toList) = true := beq_iff_eq.mpr c31
          have c31b1 : (t698.toList != t700.toList) = false := bne_eq_false_iff_eq.mpr c31
          clear c31
          by_cases c32 : t708 = t715
          · rw [if_pos c32] at H
            have c32b0 : (t708 == t715) = true := beq_iff_eq.mpr c32
            have c32b1 : (t708 != t715) = false := bne_eq_false_iff_eq.mpr c32
            clear c32
            replace H := Option.bind_eq_some_iff.mp H
            obtain ⟨t717, A330, H⟩ := H
            replace H : (if t717 = true then ((impl_IsGrid.f t692 t693 t694).bind fun t718 => (laws_FnGridTexts.j0 k t698 t699 t702 t708 (t718 != (t701 == 0)) t692 t693 t694 t703 t704 t705)) else (laws_FnGridTexts.j0 k t698 t699 t702 t708 true t692 t693 t694 t703 t704 t705)) = some r := H
            have A33 := Aside0.mk A330
            clear A330
            by_cases c34 : t717 = true
            · subst c34
              have H1 : ((impl_IsGrid.f t692 t693 t694).bind fun t718 => (laws_FnGridTexts.j0 k t698 t699 t702 t708 (t718 != (t701 == 0)) t692 t693 t694 t703 t704 t705)) = some r := by rw [if_pos rfl] at H; exact H
              clear H
              have H := H1
              clear H1
              replace H := Option.bind_eq_some_iff.mp H
              obtain ⟨t718, A350, H⟩ := H
              replace H : (laws_FnGridTexts.j0 k t698 t699 t702 t708 (t718 != (t701 == 0)) t692 t693 t694 t703 t704 t705) = some r := H
              have A35 := Aside0.mk A350
              clear A350
              have H' := Aside0.mk H
              clear H
              have hnb36 := NB709_697.out
              have hnc36 := NB697_709.out
              have hnb37 := NB709_716.out
              have hnc37 := NB716_709.out
              have hcz38_0 : w25.cell? ⟨gb709, 0, none⟩ = some (.int .i64 t703) := (blk_cell BK709.out 0).trans rfl
              have hcz38_1 : w25.cell? ⟨gb709, 1, none⟩ = some (.int .i64 t704) := (blk_cell BK709.out 1).trans rfl
              have hcz38_2 : w25.cell? ⟨gb709, 2, none⟩ = some (.slice Ao23 t705.length co23) := (blk_cell BK709.out 2).trans rfl
              have hfz38_0 := blk_frozen BK709.out 0
              have hfz38_1 := blk_frozen BK709.out 1
              have hfz38_2 := blk_frozen BK709.out 2
              have hnb39 := NB716_697.out
              have hnc39 := NB697_716.out
              have hcz40_0 : w25.cell? ⟨gb716, 0, none⟩ = some (.int .i64 0) := (blk_cell BK716.out 0).trans rfl
              have hcz40_1 : w25.cell? ⟨gb716, 1, none⟩ = some (.int .i64 0) := (blk_cell BK716.out 1).trans rfl
              have hcz40_2 : w25.cell? ⟨gb716, 2, none⟩ = some (.slice none 0 0) := (blk_cell BK716.out 2).trans rfl
              have hfz40_0 := blk_frozen BK716.out 0
              have hfz40_1 := blk_frozen BK716.out 1
              have hfz40_2 := blk_frozen BK716.out 2
              go_wp2_with (first | (go_at_call 44; (with_reducible refine (laws_likeGrid.calls k t703 t704 _ _ t705 t710 t711 _ _ t712 true _ ?side1 ?side2 ?side3 ?side4 A33.out).mono ?_); (case side1 => refine (Kd.R_reads' (e := 4) (base := w.heap.size) (ok := fun k_ => ((True ∧ some k_ ≠ (.slice Ao14 t694.length co14 : Value).ownBlock) ∧ some k_ ≠ (.slice Ao29 t712.length co29 : Value).ownBlock)) (n := t705.length) (c := co23) ?_).2.2; exact (by (with_reducible repeat (first | apply Kd.R_alloc | apply Kd.R_drewN | apply Kd.R_drew)); exact (Kd.R_mono (Kd.R_far (p := ⟨gb716, 2, none⟩) (Kd.R_far (p := ⟨gb716, 1, none⟩) (Kd.R_far (p := ⟨gb716, 0, none⟩) (Kd.R_types HO707.out BK716.out (by decide)) (fun _ hk => hk.2) (.int .i64 t710)) (fun _ hk => hk.2) (.int .i64 t711)) (fun _ hk => hk.2) (.slice Ao29 t712.length co29)) (fun _ h_ => h_.1)))); (case side2 => exact (Kd.R_reads' HO707.out).2.1); (case side3 => refine (Kd.R_reads' (e := 4) (base := w.heap.size) (ok := fun k_ => ((True ∧ some k_ ≠ (.slice Ao14 t694.length co14 : Value).ownBlock) ∧ some k_ ≠ (.slice Ao23 t705.length co23 : Value).ownBlock)) (n := t712.length) (c := co29) ?_).2.2; exact (by (with_reducible repeat (first | apply Kd.R_alloc | apply Kd.R_drewN | apply Kd.R_drew)); exact (Kd.R_mono (Kd.R_far (p := ⟨gb716, 2, none⟩) (Kd.R_far (p := ⟨gb716, 1, none⟩) (Kd.R_far (p := ⟨gb716, 0, none⟩) (Kd.R_types HO714.out BK716.out (by decide)) (fun _ hk => hk.2) (.int .i64 t710)) (fun _ hk => hk.2) (.int .i64 t711)) (fun _ hk => hk.2) (.slice Ao29 t712.length co29)) (fun _ h_ => h_.1)))); (case side4 => exact (Kd.R_reads' HO714.out).2.1); rintro e w41 ⟨rfl, hb⟩; have n0_ := Aside0.mk (Kd.R_below (by (with_reducible repeat (first | apply Kd.R_alloc | apply Kd.R_drewN | apply Kd.R_drew)); exact (Kd.R_mono (Kd.R_far (p := ⟨gb716, 2, none⟩) (Kd.R_far (p := ⟨gb716, 1, none⟩) (Kd.R_far (p := ⟨gb716, 0, none⟩) (Kd.R_types HO696.out BK716.out (by decide)) (fun _ hk => hk.2) (.int .i64 t710)) (fun _ hk => hk.2) (.int .i64 t711)) (fun _ hk => hk.2) (.slice Ao29 t712.length co29)) (fun _ h_ => h_.1))) hb); have n1_ := Aside0.mk (Kd.R_below (by (with_reducible repeat (first | apply Kd.R_alloc | apply Kd.R_drewN | apply Kd.R_drew)); exact (Kd.R_mono (Kd.R_far (p := ⟨gb716, 2, none⟩) (Kd.R_far (p := ⟨gb716, 1, none⟩) (Kd.R_far (p := ⟨gb716, 0, none⟩) (Kd.R_types HO707.out BK716.out (by decide)) (fun _ hk => hk.2) (.int .i64 t710)) (fun _ hk => hk.2) (.int .i64 t711)) (fun _ hk => hk.2) (.slice Ao29 t712.length co29)) (fun _ h_ => h_.1))) hb); have n2_ := Aside0.mk (Kd.R_below (by (with_reducible repeat (first | apply Kd.R_alloc | apply Kd.R_drewN | apply Kd.R_drew)); exact (Kd.R_mono (Kd.R_far (p := ⟨gb716, 2, none⟩) (Kd.R_far (p := ⟨gb716, 1, none⟩) (Kd.R_far (p := ⟨gb716, 0, none⟩) (Kd.R_types HO714.out BK716.out (by decide)) (fun _ hk => hk.2) (.int .i64 t710)) (fun _ hk => hk.2) (.int .i64 t711)) (fun _ hk => hk.2) (.slice Ao29 t712.length co29)) (fun _ h_ => h_.1))) hb); have n3_ := Aside0.mk (blk_below (g := gb697) (o := .cells #[.int .i64 t692, .int .i64 t693, .slice Ao14 t694.length co14] 57 (0, 0)) (by (with_reducible repeat (first | refine blk_drewN ?_ _ | refine blk_drew ?_ | refine blk_alloc ?_ _)); refine blk_far ?_ NB697_716.out _; (with_reducible repeat (first | refine blk_drewN ?_ _ | refine blk_drew ?_ | refine blk_alloc ?_ _)); refine blk_far ?_ NB697_716.out _; (with_reducible repeat (first | refine blk_drewN ?_ _ | refine blk_drew ?_ | refine blk_alloc ?_ _)); refine blk_far ?_ NB697_716.out _; (with_reducible repeat (first | refine blk_drewN ?_ _ | refine blk_drew ?_ | refine blk_alloc ?_ _)); exact BK697.out) hb); have n4_ := Aside0.mk (blk_below (g := gb709) (o := .cells #[.int .i64 t703, .int .i64 t704, .slice Ao23 t705.length co23] 57 (0, 0)) (by (with_reducible repeat (first | refine blk_drewN ?_ _ | refine blk_drew ?_ | refine blk_alloc ?_ _)); refine blk_far ?_ NB709_716.out _; (with_reducible repeat (first | refine blk_drewN ?_ _ | refine blk_drew ?_ | refine blk_alloc ?_ _)); refine blk_far ?_ NB709_716.out _; (with_reducible repeat (first | refine blk_drewN ?_ _ | refine blk_drew ?_ | refine blk_alloc ?_ _)); refine blk_far ?_ NB709_716.out _; (with_reducible repeat (first | refine blk_drewN ?_ _ | refine blk_drew ?_ | refine blk_alloc ?_ _)); exact BK709.out) hb); have n5_ := Aside0.mk (blk_below (g := gb716) (o := .cells #[.int .i64 t710, .int .i64 t711, .slice Ao29 t712.length co29] 57 (0, 0)) (by (with_reducible repeat (first | refine blk_drewN ?_ _ | refine blk_drew ?_ | refine blk_alloc ?_ _)); refine blk_put (cs := #[.int .i64 t710, .int .i64 t711, .slice none 0 0]) ?_ 2 _ rfl; (with_reducible repeat (first | refine blk_drewN ?_ _ | refine blk_drew ?_ | refine blk_alloc ?_ _)); refine blk_put (cs := #[.int .i64 t710, .int .i64 0, .slice none 0 0]) ?_ 1 _ rfl; (with_reducible repeat (first | refine blk_drewN ?_ _ | refine blk_drew ?_ | refine blk_alloc ?_ _)); refine blk_put (cs := #[.int .i64 0, .int .i64 0, .slice none 0 0]) ?_ 0 _ rfl; (with_reducible repeat (first | refine blk_drewN ?_ _ | refine blk_drew ?_ | refine blk_alloc ?_ _)); exact BK716.out) hb); have n6_ := Aside0.mk (below_step (by repeat (first | (with_reducible first | exact HB.out | apply below_alloc | apply pw_below_drewN | apply below_drew1 | refine below_set ?_ GE697.out | refine below_set ?_ GE709.out | refine below_set ?_ GE716.out) | exact HB.out)) hb); clear HO696; clear HO707; clear HO714; clear BK697; clear BK709; clear BK716; clear HB; have HO696 := n0_; have HO707 := n1_; have HO714 := n2_; have BK697 := n3_; have BK709 := n4_; have BK716 := n5_; have HB := n6_; clear n0_ n1_ n2_ n3_ n4_ n5_ n6_; (try clear hb); (try clear hb2); (try clear hk); (try clear hi); have hcz42_0 : w41.cell? ⟨gb697, 0, none⟩ = some (.int .i64 t692) := (blk_cell BK697.out 0).trans rfl; have hcz42_1 : w41.cell? ⟨gb697, 1, none⟩ = some (.int .i64 t693) := (blk_cell BK697.out 1).trans rfl; have hcz42_2 : w41.cell? ⟨gb697, 2, none⟩ = some (.slice Ao14 t694.length co14) := (blk_cell BK697.out 2).trans rfl; have hfz42_0 := blk_frozen BK697.out 0; have hfz42_1 := blk_frozen BK697.out 1; have hfz42_2 := blk_frozen BK697.out 2) | (go_at_call 45; (with_reducible refine (impl_IsGrid.calls t692 t693 _ _ t694 t718 _ ?side1 ?side2 A35.out).mono ?_); (case side1 => repeat (first | exact (Kd.R_reads' HO696.out).2.2 | (with_reducible refine Kd.C_alloc ?_ _) | (with_reducible refine Kd.C_drewN ?_ _) | (with_reducible refine Kd.C_drew ?_))); (case side2 => exact (Kd.R_reads' HO696.out).2.1); rintro e w43 ⟨rfl, hb⟩; have n0_ := Aside0.mk (Kd.R_below (by (with_reducible repeat (first | apply Kd.R_alloc | apply Kd.R_drewN | apply Kd.R_drew)); exact HO696.out) hb); have n1_ := Aside0.mk (Kd.R_below (by (with_reducible repeat (first | apply Kd.R_alloc | apply Kd.R_drewN | apply Kd.R_drew)); exact HO707.out) hb); have n2_ := Aside0.mk (Kd.R_below (by (with_reducible repeat (first | apply Kd.R_alloc | apply Kd.R_drewN | apply Kd.R_drew)); exact HO714.out) hb); have n3_ := Aside0.mk (blk_below (g := gb697) (o := .cells #[.int .i64 t692, .int .i64 t693, .slice Ao14 t694.length co14] 57 (0, 0)) (by (with_reducible repeat (first | refine blk_drewN ?_ _ | refine blk_drew ?_ | refine blk_alloc ?_ _)); exact BK697.out) hb); have n4_ := Aside0.mk (blk_below (g := gb709) (o := .cells #[.int .i64 t703, .int .i64 t704, .slice Ao23 t705.length co23] 57 (0, 0)) (by (with_reducible repeat (first | refine blk_drewN ?_ _ | refine blk_drew ?_ | refine blk_alloc ?_ _)); exact BK709.out) hb); have n5_ := Aside0.mk (blk_below (g := gb716) (o := .cells #[.int .i64 t710, .int .i64 t711, .slice Ao29 t712.length co29] 57 (0, 0)) (by (with_reducible repeat (first | refine blk_drewN ?_ _ | refine blk_drew ?_ | refine blk_alloc ?_ _)); exact BK716.out) hb); have n6_ := Aside0.mk (below_step (by repeat (first | (with_reducible first | exact HB.out | apply below_alloc | apply pw_below_drewN | apply below_drew1 | refine below_set ?_ GE697.out | refine below_set ?_ GE709.out | refine below_set ?_ GE716.out) | exact HB.out)) hb); clear HO696; clear HO707; clear HO714; clear BK697; clear BK709; clear BK716; clear HB; have HO696 := n0_; have HO707 := n1_; have HO714 := n2_; have BK697 := n3_; have BK709 := n4_; have BK716 := n5_; have HB := n6_; clear n0_ n1_ n2_ n3_ n4_ n5_ n6_; (try clear hb); (try clear hb2); (try clear hk); (try clear hi)))
              go_meet
              case rel => exact ⟨_, ((t718 != (t701 == 0))), (by first | rfl | (simp; done) | (simp [*]; done)), H', ⟨by first | omega | exact Nat.le_refl _⟩, ⟨by (with_reducible repeat (first | apply Kd.R_alloc | apply Kd.R_drewN | apply Kd.R_drew)); exact Kd.R_mono HO696.out (fun _ hk => ⟨hk.1.2, hk.2⟩)⟩, ⟨by (with_reducible repeat (first | apply Kd.R_alloc | apply Kd.R_drewN | apply Kd.R_drew)); exact Kd.R_mono HO707.out (fun _ hk => ⟨hk.1.2, hk.2⟩)⟩, ⟨by (with_reducible repeat (first | apply Kd.R_alloc | apply Kd.R_drewN | apply Kd.R_drew)); exact Kd.R_mono HO714.out (fun _ hk => ⟨hk.1.2, hk.2⟩)⟩, ⟨by (with_reducible repeat (first | refine blk_drewN ?_ _ | refine blk_drew ?_ | refine blk_alloc ?_ _)); exact BK697.out⟩, ⟨by (with_reducible repeat (first | refine blk_drewN ?_ _ | refine blk_drew ?_ | refine blk_alloc ?_ _)); exact BK709.out⟩, ⟨by (with_reducible repeat (first | refine blk_drewN ?_ _ | refine blk_drew ?_ | refine blk_alloc ?_ _)); exact BK716.out⟩, ⟨by repeat (first | (with_reducible first | exact HB.out | apply below_alloc | apply pw_below_drewN | apply below_drew1 | refine below_set ?_ GE697.out | refine below_set ?_ GE709.out | refine below_set ?_ GE716.out) | exact HB.out)⟩⟩
            · replace c34 := Bool.eq_false_iff.mpr c34
              subst c34
              have H1 : (laws_FnGridTexts.j0 k t698 t699 t702 t708 true t692 t693 t694 t703 t704 t705) = some r := by rw [if_neg (show ¬ (false = true) by decide)] at H; exact H
              clear H
              have H := H1
              clear H1
              have H' := Aside0.mk H
              clear H
              have hnb44 := NB709_697.out
              have hnc44 := NB697_709.out
              have hnb45 := NB709_716.out
              have hnc45 := NB716_709.out
              have hcz46_0 : w25.cell? ⟨gb709, 0, none⟩ = some (.int .i64 t703) := (blk_cell BK709.out 0).trans rfl
              have hcz46_1 : w25.cell? ⟨gb709, 1, none⟩ = some (.int .i64 t704) := (blk_cell BK709.out 1).trans rfl
              have hcz46_2 : w25.cell? ⟨gb709, 2, none⟩ = some (.slice Ao23 t705.length co23) := (blk_cell BK709.out 2).trans rfl
              have hfz46_0 := blk_frozen BK709.out 0
              have hfz46_1 := blk_frozen BK709.out 1
              have hfz46_2 := blk_frozen BK709.out 2
              have hnb47 := NB716_697.out
              have hnc47 := NB697_716.out
              have hcz48_0 : w25.cell? ⟨gb716, 0, none⟩ = some (.int .i64 0) := (blk_cell BK716.out 0).trans rfl
              have hcz48_1 : w25.cell? ⟨gb716, 1, none⟩ = some (.int .i64 0) := (blk_cell BK716.out 1).trans rfl
              have hcz48_2 : w25.cell? ⟨gb716, 2, none⟩ = some (.slice none 0 0) := (blk_cell BK716.out 2).trans rfl
              have hfz48_0 := blk_frozen BK716.out 0
              have hfz48_1 := blk_frozen BK716.out 1
              have hfz48_2 := blk_frozen BK716.out 2
              go_wp2_with (first | (go_at_call 44; (with_reducible refine (laws_likeGrid.calls k t703 t704 _ _ t705 t710 t711 _ _ t712 false _ ?side1 ?side2 ?side3 ?side4 A33.out).mono ?_); (case side1 => refine (Kd.R_reads' (e := 4) (base := w.heap.size) (ok := fun k_ => ((True ∧ some k_ ≠ (.slice Ao14 t694.length co14 : Value).ownBlock) ∧ some k_ ≠ (.slice Ao29 t712.length co29 : Value).ownBlock)) (n := t705.length) (c := co23) ?_).2.2; exact (by (with_reducible repeat (first | apply Kd.R_alloc | apply Kd.R_drewN | apply Kd.R_drew)); exact (Kd.R_mono (Kd.R_far (p := ⟨gb716, 2, none⟩) (Kd.R_far (p := ⟨gb716, 1, none⟩) (Kd.R_far (p := ⟨gb716, 0, none⟩) (Kd.R_types HO707.out BK716.out (by decide)) (fun _ hk => hk.2) (.int .i64 t710)) (fun _ hk => hk.2) (.int .i64 t711)) (fun _ hk => hk.2) (.slice Ao29 t712.length co29)) (fun _ h_ => h_.1)))); (case side2 => exact (Kd.R_reads' HO707.out).2.1); (case side3 => refine (Kd.R_reads' (e := 4) (base := w.heap.size) (ok := fun k_ => ((True ∧ some k_ ≠ (.slice Ao14 t694.length co14 : Value).ownBlock) ∧ some k_ ≠ (.slice Ao23 t705.length co23 : Value).ownBlock)) (n := t712.length) (c := co29) ?_).2.2; exact (by (with_reducible repeat (first | apply Kd.R_alloc | apply Kd.R_drewN | apply Kd.R_drew)); exact (Kd.R_mono (Kd.R_far (p := ⟨gb716, 2, none⟩) (Kd.R_far (p := ⟨gb716, 1, none⟩) (Kd.R_far (p := ⟨gb716, 0, none⟩) (Kd.R_types HO714.out BK716.out (by decide)) (fun _ hk => hk.2) (.int .i64 t710)) (fun _ hk => hk.2) (.int .i64 t711)) (fun _ hk => hk.2) (.slice Ao29 t712.length co29)) (fun _ h_ => h_.1)))); (case side4 => exact (Kd.R_reads' HO714.out).2.1); rintro e w49 ⟨rfl, hb⟩; have n0_ := Aside0.mk (Kd.R_below (by (with_reducible repeat (first | apply Kd.R_alloc | apply Kd.R_drewN | apply Kd.R_drew)); exact (Kd.R_mono (Kd.R_far (p := ⟨gb716, 2, none⟩) (Kd.R_far (p := ⟨gb716, 1, none⟩) (Kd.R_far (p := ⟨gb716, 0, none⟩) (Kd.R_types HO696.out BK716.out (by decide)) (fun _ hk => hk.2) (.int .i64 t710)) (fun _ hk => hk.2) (.int .i64 t711)) (fun _ hk => hk.2) (.slice Ao29 t712.length co29)) (fun _ h_ => h_.1))) hb); have n1_ := Aside0.mk (Kd.R_below (by (with_reducible repeat (first | apply Kd.R_alloc | apply Kd.R_drewN | apply Kd.R_drew)); exact (Kd.R_mono (Kd.R_far (p := ⟨gb716, 2, none⟩) (Kd.R_far (p := ⟨gb716, 1, none⟩) (Kd.R_far (p := ⟨gb716, 0, none⟩) (Kd.R_types HO707.out BK716.out (by decide)) (fun _ hk => hk.2) (.int .i64 t710)) (fun _ hk => hk.2) (.int .i64 t711)) (fun _ hk => hk.2) (.slice Ao29 t712.length co29)) (fun _ h_ => h_.1))) hb); have n2_ := Aside0.mk (Kd.R_below (by (with_reducible repeat (first | apply Kd.R_alloc | apply Kd.R_drewN | apply Kd.R_drew)); exact (Kd.R_mono (Kd.R_far (p := ⟨gb716, 2, none⟩) (Kd.R_far (p := ⟨gb716, 1, none⟩) (Kd.R_far (p := ⟨gb716, 0, none⟩) (Kd.R_types HO714.out BK716.out (by decide)) (fun _ hk => hk.2) (.int .i64 t710)) (fun _ hk => hk.2) (.int .i64 t711)) (fun _ hk => hk.2) (.slice Ao29 t712.length co29)) (fun _ h_ => h_.1))) hb); have n3_ := Aside0.mk (blk_below (g := gb697) (o := .cells #[.int .i64 t692, .int .i64 t693, .slice Ao14 t694.length co14] 57 (0, 0)) (by (with_reducible repeat (first | refine blk_drewN ?_ _ | refine blk_drew ?_ | refine blk_alloc ?_ _)); refine blk_far ?_ NB697_716.out _; (with_reducible repeat (first | refine blk_drewN ?_ _ | refine blk_drew ?_ | refine blk_alloc ?_ _)); refine blk_far ?_ NB697_716.out _; (with_reducible repeat (first | refine blk_drewN ?_ _ | refine blk_drew ?_ | refine blk_alloc ?_ _)); refine blk_far ?_ NB697_716.out _; (with_reducible repeat (first | refine blk_drewN ?_ _ | refine blk_drew ?_ | refine blk_alloc ?_ _)); exact BK697.out) hb); have n4_ := Aside0.mk (blk_below (g := gb709) (o := .cells #[.int .i64 t703, .int .i64 t704, .slice Ao23 t705.length co23] 57 (0, 0)) (by (with_reducible repeat (first | refine blk_drewN ?_ _ | refine blk_drew ?_ | refine blk_alloc ?_ _)); refine blk_far ?_ NB709_716.out _; (with_reducible repeat (first | refine blk_drewN ?_ _ | refine blk_drew ?_ | refine blk_alloc ?_ _)); refine blk_far ?_ NB709_716.out _; (with_reducible repeat (first | refine blk_drewN ?_ _ | refine blk_drew ?_ | refine blk_alloc ?_ _)); refine blk_far ?_ NB709_716.out _; (with_reducible repeat (first | refine blk_drewN ?_ _ | refine blk_drew ?_ | refine blk_alloc ?_ _)); exact BK709.out) hb); have n5_ := Aside0.mk (blk_below (g := gb716) (o := .cells #[.int .i64 t710, .int .i64 t711, .slice Ao29 t712.length co29] 57 (0, 0)) (by (with_reducible repeat (first | refine blk_drewN ?_ _ | refine blk_drew ?_ | refine blk_alloc ?_ _)); refine blk_put (cs := #[.int .i64 t710, .int .i64 t711, .slice none 0 0]) ?_ 2 _ rfl; (with_reducible repeat (first | refine blk_drewN ?_ _ | refine blk_drew ?_ | refine blk_alloc ?_ _)); refine blk_put (cs := #[.int .i64 t710, .int .i64 0, .slice none 0 0]) ?_ 1 _ rfl; (with_reducible repeat (first | refine blk_drewN ?_ _ | refine blk_drew ?_ | refine blk_alloc ?_ _)); refine blk_put (cs := #[.int .i64 0, .int .i64 0, .slice none 0 0]) ?_ 0 _ rfl; (with_reducible repeat (first | refine blk_drewN ?_ _ | refine blk_drew ?_ | refine blk_alloc ?_ _)); exact BK716.out) hb); have n6_ := Aside0.mk (below_step (by repeat (first | (with_reducible first | exact HB.out | apply below_alloc | apply pw_below_drewN | apply below_drew1 | refine below_set ?_ GE697.out | refine below_set ?_ GE709.out | refine below_set ?_ GE716.out) | exact HB.out)) hb); clear HO696; clear HO707; clear HO714; clear BK697; clear BK709; clear BK716; clear HB; have HO696 := n0_; have HO707 := n1_; have HO714 := n2_; have BK697 := n3_; have BK709 := n4_; have BK716 := n5_; have HB := n6_; clear n0_ n1_ n2_ n3_ n4_ n5_ n6_; (try clear hb); (try clear hb2); (try clear hk); (try clear hi)))
              go_meet
              case rel => exact ⟨_, (true), (by first | rfl | (simp; done) | (simp [*]; done)), H', ⟨by first | omega | exact Nat.le_refl _⟩, ⟨by (with_reducible repeat (first | apply Kd.R_alloc | apply Kd.R_drewN | apply Kd.R_drew)); exact Kd.R_mono HO696.out (fun _ hk => ⟨hk.1.2, hk.2⟩)⟩, ⟨by (with_reducible repeat (first | apply Kd.R_alloc | apply Kd.R_drewN | apply Kd.R_drew)); exact Kd.R_mono HO707.out (fun _ hk => ⟨hk.1.2, hk.2⟩)⟩, ⟨by (with_reducible repeat (first | apply Kd.R_alloc | apply Kd.R_drewN | apply Kd.R_drew)); exact Kd.R_mono HO714.out (fun _ hk => ⟨hk.1.2, hk.2⟩)⟩, ⟨by (with_reducible repeat (first | refine blk_drewN ?_ _ | refine blk_drew ?_ | refine blk_alloc ?_ _)); exact BK697.out⟩, ⟨by (with_reducible repeat (first | refine blk_drewN ?_ _ | refine blk_drew ?_ | refine blk_alloc ?_ _)); exact BK709.out⟩, ⟨by (with_reducible repeat (first | refine blk_drewN ?_ _ | refine blk_drew ?_ | refine blk_alloc ?_ _)); exact BK716.out⟩, ⟨by repeat (first | (with_reducible first | exact HB.out | apply below_alloc | apply pw_below_drewN | apply below_drew1 | refine below_set ?_ GE697.out | refine below_set ?_ GE709.out | refine below_set ?_ GE716.out) | exact HB.out)⟩⟩
          · rw [if_neg c32] at H
            have c32b0 : (t708 == t715) = false := beq_eq_false_iff_ne.mpr c32
            have c32b1 : (t708 != t715) = true := bne_iff_ne.mpr c32
            have H' := Aside0.mk H
            clear H
            go_wp2
            go_meet
            case rel => exact ⟨_, (true), (by first | rfl | (simp; done) | (simp [*]; done)), H', ⟨by first | omega | exact Nat.le_refl _⟩, ⟨by (with_reducible repeat (first | apply Kd.R_alloc | apply Kd.R_drewN | apply Kd.R_drew)); exact Kd.R_mono (Kd.R_far (p := ⟨gb716, 2, none⟩) (Kd.R_far (p := ⟨gb716, 1, none⟩) (Kd.R_far (p := ⟨gb716, 0, none⟩) (Kd.R_types HO696.out BK716.out (by decide)) (fun _ hk => hk.2) (.int .i64 t710)) (fun _ hk => hk.2) (.int .i64 t711)) (fun _ hk => hk.2) (.slice Ao29 t712.length co29)) (fun _ hk => ⟨hk.1.1.2, hk.1.2⟩)⟩, ⟨by (with_reducible repeat (first | apply Kd.R_alloc | apply Kd.R_drewN | apply Kd.R_drew)); exact Kd.R_mono (Kd.R_far (p := ⟨gb716, 2, none⟩) (Kd.R_far (p := ⟨gb716, 1, none⟩) (Kd.R_far (p := ⟨gb716, 0, none⟩) (Kd.R_types HO707.out BK716.out (by decide)) (fun _ hk => hk.2) (.int .i64 t710)) (fun _ hk => hk.2) (.int .i64 t711)) (fun _ hk => hk.2) (.slice Ao29 t712.length co29)) (fun _ hk => ⟨hk.1.1.2, hk.1.2⟩)⟩, ⟨by (with_reducible repeat (first | apply Kd.R_alloc | apply Kd.R_drewN | apply Kd.R_drew)); exact Kd.R_mono (Kd.R_far (p := ⟨gb716, 2, none⟩) (Kd.R_far (p := ⟨gb716, 1, none⟩) (Kd.R_far (p := ⟨gb716, 0, none⟩) (Kd.R_types HO714.out BK716.out (by decide)) (fun _ hk => hk.2) (.int .i64 t710)) (fun _ hk => hk.2) (.int .i64 t711)) (fun _ hk => hk.2) (.slice Ao29 t712.length co29)) (fun _ hk => ⟨hk.1.1.2, hk.1.2⟩)⟩, ⟨by (with_reducible repeat (first | refine blk_drewN ?_ _ | refine blk_drew ?_ | refine blk_alloc ?_ _)); refine blk_far ?_ NB697_716.out _; (with_reducible repeat (first | refine blk_drewN ?_ _ | refine blk_drew ?_ | refine blk_alloc ?_ _)); refine blk_far ?_ NB697_716.out _; (with_reducible repeat (first | refine blk_drewN ?_ _ | refine blk_drew ?_ | refine blk_alloc ?_ _)); refine blk_far ?_ NB697_716.out _; (with_reducible repeat (first | refine blk_drewN ?_ _ | refine blk_drew ?_ | refine blk_alloc ?_ _)); exact BK697.out⟩, ⟨by (with_reducible repeat (first | refine blk_drewN ?_ _ | refine blk_drew ?_ | refine blk_alloc ?_ _)); refine blk_far ?_ NB709_716.out _; (with_reducible repeat (first | refine blk_drewN ?_ _ | refine blk_drew ?_ | refine blk_alloc ?_ _)); refine blk_far ?_ NB709_716.out _; (with_reducible repeat (first | refine blk_drewN ?_ _ | refine blk_drew ?_ | refine blk_alloc ?_ _)); refine blk_far ?_ NB709_716.out _; (with_reducible repeat (first | refine blk_drewN ?_ _ | refine blk_drew ?_ | refine blk_alloc ?_ _)); exact BK709.out⟩, ⟨by (with_reducible repeat (first | refine blk_drewN ?_ _ | refine blk_drew ?_ | refine blk_alloc ?_ _)); refine blk_put (cs := #[.int .i64 t710, .int .i64 t711, .slice none 0 0]) ?_ 2 _ rfl; (with_reducible repeat (first | refine blk_drewN ?_ _ | refine blk_drew ?_ | refine blk_alloc ?_ _)); refine blk_put (cs := #[.int .i64 t710, .int .i64 0, .slice none 0 0]) ?_ 1 _ rfl; (with_reducible repeat (first | refine blk_drewN ?_ _ | refine blk_drew ?_ | refine blk_alloc ?_ _)); refine blk_put (cs := #[.int .i64 0, .int .i64 0, .slice none 0 0]) ?_ 0 _ rfl; (with_reducible repeat (first | refine blk_drewN ?_ _ | refine blk_drew ?_ | refine blk_alloc ?_ _)); exact BK716.out⟩, ⟨by repeat (first | (with_reducible first | exact HB.out | apply below_alloc | apply pw_below_drewN | apply below_drew1 | refine below_set ?_ GE697.out | refine below_set ?_ GE709.out | refine below_set ?_ GE716.out) | exact HB.out)⟩⟩
        · rw [if_neg c31] at H
          have c31b0 : (t698.toList == t700.toList) = false := beq_eq_false_iff_ne.mpr c31
          have c31b1 : (t698.toList != t700.toList) = true := bne_iff_ne.mpr c31
          have H' := Aside0.mk H
          clear H
          go_wp2
          go_meet
          case rel => exact ⟨_, (true), (by first | rfl | (simp; done) | (simp [*]; done)), H', ⟨by first | omega | exact Nat.le_refl _⟩, ⟨by (with_reducible repeat (first | apply Kd.R_alloc | apply Kd.R_drewN | apply Kd.R_drew)); exact Kd.R_mono (Kd.R_far (p := ⟨gb716, 2, none⟩) (Kd.R_far (p := ⟨gb716, 1, none⟩) (Kd.R_far (p := ⟨gb716, 0, none⟩) (Kd.R_types HO696.out BK716.out (by decide)) (fun _ hk => hk.2) (.int .i64 t710)) (fun _ hk => hk.2) (.int .i64 t711)) (fun _ hk => hk.2) (.slice Ao29 t712.length co29)) (fun _ hk => ⟨hk.1.1.2, hk.1.2⟩)⟩, ⟨by (with_reducible repeat (first | apply Kd.R_alloc | apply Kd.R_drewN | apply Kd.R_drew)); exact Kd.R_mono (Kd.R_far (p := ⟨gb716, 2, none⟩) (Kd.R_far (p := ⟨gb716, 1, none⟩) (Kd.R_far (p := ⟨gb716, 0, none⟩) (Kd.R_types HO707.out BK716.out (by decide)) (fun _ hk => hk.2) (.int .i64 t710)) (fun _ hk => hk.2) (.int .i64 t711)) (fun _ hk => hk.2) (.slice Ao29 t712.length co29)) (fun _ hk => ⟨hk.1.1.2, hk.1.2⟩)⟩, ⟨by (with_reducible repeat (first | apply Kd.R_alloc | apply Kd.R_drewN | apply Kd.R_drew)); exact Kd.R_mono (Kd.R_far (p := ⟨gb716, 2, none⟩) (Kd.R_far (p := ⟨gb716, 1, none⟩) (Kd.R_far (p := ⟨gb716, 0, none⟩) (Kd.R_types HO714.out BK716.out (by decide)) (fun _ hk => hk.2) (.int .i64 t710)) (fun _ hk => hk.2) (.int .i64 t711)) (fun _ hk => hk.2) (.slice Ao29 t712.length co29)) (fun _ hk => ⟨hk.1.1.2, hk.1.2⟩)⟩, ⟨by (with_reducible repeat (first | refine blk_drewN ?_ _ | refine blk_drew ?_ | refine blk_alloc ?_ _)); refine blk_far ?_ NB697_716.out _; (with_reducible repeat (first | refine blk_drewN ?_ _ | refine blk_drew ?_ | refine blk_alloc ?_ _)); refine blk_far ?_ NB697_716.out _; (with_reducible repeat (first | refine blk_drewN ?_ _ | refine blk_drew ?_ | refine blk_alloc ?_ _)); refine blk_far ?_ NB697_716.out _; (with_reducible repeat (first | refine blk_drewN ?_ _ | refine blk_drew ?_ | refine blk_alloc ?_ _)); exact BK697.out⟩, ⟨by (with_reducible repeat (first | refine blk_drewN ?_ _ | refine blk_drew ?_ | refine blk_alloc ?_ _)); refine blk_far ?_ NB709_716.out _; (with_reducible repeat (first | refine blk_drewN ?_ _ | refine blk_drew ?_ | refine blk_alloc ?_ _)); refine blk_far ?_ NB709_716.out _; (with_reducible repeat (first | refine blk_drewN ?_ _ | refine blk_drew ?_ | refine blk_alloc ?_ _)); refine blk_far ?_ NB709_716.out _; (with_reducible repeat (first | refine blk_drewN ?_ _ | refine blk_drew ?_ | refine blk_alloc ?_ _)); exact BK709.out⟩, ⟨by (with_reducible repeat (first | refine blk_drewN ?_ _ | refine blk_drew ?_ | refine blk_alloc ?_ _)); refine blk_put (cs := #[.int .i64 t710, .int .i64 t711, .slice none 0 0]) ?_ 2 _ rfl; (with_reducible repeat (first | refine blk_drewN ?_ _ | refine blk_drew ?_ | refine blk_alloc ?_ _)); refine blk_put (cs := #[.int .i64 t710, .int .i64 0, .slice none 0 0]) ?_ 1 _ rfl; (with_reducible repeat (first | refine blk_drewN ?_ _ | refine blk_drew ?_ | refine blk_alloc ?_ _)); refine blk_put (cs := #[.int .i64 0, .int .i64 0, .slice none 0 0]) ?_ 0 _ rfl; (with_reducible repeat (first | refine blk_drewN ?_ _ | refine blk_drew ?_ | refine blk_alloc ?_ _)); exact BK716.out⟩, ⟨by repeat (first | (with_reducible first | exact HB.out | apply below_alloc | apply pw_below_drewN | apply below_drew1 | refine below_set ?_ GE697.out | refine below_set ?_ GE709.out | refine below_set ?_ GE716.out) | exact HB.out)⟩⟩
      · rw [if_neg c30] at H
        have c30b0 : (t699 == t701) = false := beq_eq_false_iff_ne.mpr c30
        have c30b1 : (t699 != t701) = true := bne_iff_ne.mpr c30
        (first | rw [c30b0] | (simp only [i64_w, i32_w]; rw [c30b0]) | skip)
        have H' := Aside0.mk H
        clear H
        go_wp2
        go_meet
        case rel => exact ⟨_, (true), (by first | rfl | (simp; done) | (simp [*]; done)), H', ⟨by first | omega | exact Nat.le_refl _⟩, ⟨by (with_reducible repeat (first | apply Kd.R_alloc | apply Kd.R_drewN | apply Kd.R_drew)); exact Kd.R_mono (Kd.R_far (p := ⟨gb716, 2, none⟩) (Kd.R_far (p := ⟨gb716, 1, none⟩) (Kd.R_far (p := ⟨gb716, 0, none⟩) (Kd.R_types HO696.out BK716.out (by decide)) (fun _ hk => hk.2) (.int .i64 t710)) (fun _ hk => hk.2) (.int .i64 t711)) (fun _ hk => hk.2) (.slice Ao29 t712.length co29)) (fun _ hk => ⟨hk.1.1.2, hk.1.2⟩)⟩, ⟨by (with_reducible repeat (first | apply Kd.R_alloc | apply Kd.R_drewN | apply Kd.R_drew)); exact Kd.R_mono (Kd.R_far (p := ⟨gb716, 2, none⟩) (Kd.R_far (p := ⟨gb716, 1, none⟩) (Kd.R_far (p := ⟨gb716, 0, none⟩) (Kd.R_types HO707.out BK716.out (by decide)) (fun _ hk => hk.2) (.int .i64 t710)) (fun _ hk => hk.2) (.int .i64 t711)) (fun _ hk => hk.2) (.slice Ao29 t712.length co29)) (fun _ hk => ⟨hk.1.1.2, hk.1.2⟩)⟩, ⟨by (with_reducible repeat (first | apply Kd.R_alloc | apply Kd.R_drewN | apply Kd.R_drew)); exact Kd.R_mono (Kd.R_far (p := ⟨gb716, 2, none⟩) (Kd.R_far (p := ⟨gb716, 1, none⟩) (Kd.R_far (p := ⟨gb716, 0, none⟩) (Kd.R_types HO714.out BK716.out (by decide)) (fun _ hk => hk.2) (.int .i64 t710)) (fun _ hk => hk.2) (.int .i64 t711)) (fun _ hk => hk.2) (.slice Ao29 t712.length co29)) (fun _ hk => ⟨hk.1.1.2, hk.1.2⟩)⟩, ⟨by (with_reducible repeat (first | refine blk_drewN ?_ _ | refine blk_drew ?_ | refine blk_alloc ?_ _)); refine blk_far ?_ NB697_716.out _; (with_reducible repeat (first | refine blk_drewN ?_ _ | refine blk_drew ?_ | refine blk_alloc ?_ _)); refine blk_far ?_ NB697_716.out _; (with_reducible repeat (first | refine blk_drewN ?_ _ | refine blk_drew ?_ | refine blk_alloc ?_ _)); refine blk_far ?_ NB697_716.out _; (with_reducible repeat (first | refine blk_drewN ?_ _ | refine blk_drew ?_ | refine blk_alloc ?_ _)); exact BK697.out⟩, ⟨by (with_reducible repeat (first | refine blk_drewN ?_ _ | refine blk_drew ?_ | refine blk_alloc ?_ _)); refine blk_far ?_ NB709_716.out _; (with_reducible repeat (first | refine blk_drewN ?_ _ | refine blk_drew ?_ | refine blk_alloc ?_ _)); refine blk_far ?_ NB709_716.out _; (with_reducible repeat (first | refine blk_drewN ?_ _ | refine blk_drew ?_ | refine blk_alloc ?_ _)); refine blk_far ?_ NB709_716.out _; (with_reducible repeat (first | refine blk_drewN ?_ _ | refine blk_drew ?_ | refine blk_alloc ?_ _)); exact BK709.out⟩, ⟨by (with_reducible repeat (first | refine blk_drewN ?_ _ | refine blk_drew ?_ | refine blk_alloc ?_ _)); refine blk_put (cs := #[.int .i64 t710, .int .i64 t711, .slice none 0 0]) ?_ 2 _ rfl; (with_reducible repeat (first | refine blk_drewN ?_ _ | refine blk_drew ?_ | refine blk_alloc ?_ _)); refine blk_put (cs := #[.int .i64 t710, .int .i64 0, .slice none 0 0]) ?_ 1 _ rfl; (with_reducible repeat (first | refine blk_drewN ?_ _ | refine blk_drew ?_ | refine blk_alloc ?_ _)); refine blk_put (cs := #[.int .i64 0, .int .i64 0, .slice none 0 0]) ?_ 0 _ rfl; (with_reducible repeat (first | refine blk_drewN ?_ _ | refine blk_drew ?_ | refine blk_alloc ?_ _)); exact BK716.out⟩, ⟨by repeat (first | (with_reducible first | exact HB.out | apply below_alloc | apply pw_below_drewN | apply below_drew1 | refine below_set ?_ GE697.out | refine below_set ?_ GE709.out | refine below_set ?_ GE716.out) | exact HB.out)⟩⟩
    case rest =>
      clear HC10
      try clear c2
      try clear p2
      try clear c3
      try clear c4
      try clear c7
      try clear c21
      try clear c26
      try clear c27
      try clear c30
      try clear c30b0
      try clear c30b1
      try clear c31
      try clear c31b0
      try clear c31b1
      try clear c32
      try clear c32b0
      try clear c32b1
      try clear c34
      try clear c36
      try clear c37
      try clear c38
      try clear c39
      try clear c40
      try clear c41
      try clear c42
      try clear c43
      try clear c44
      try clear c45
      try clear c47
      try clear hcz13_0
      try clear hcz13_1
      try clear hcz13_2
      try clear hcz16_0
      try clear hcz16_1
      try clear hcz16_2
      try clear hcz22_0
      try clear hcz22_1
      try clear hcz22_2
      try clear hcz28_0
      try clear hcz28_1
      try clear hcz28_2
      try clear hcz38_0
      try clear hcz38_1
      try clear hcz38_2
      try clear hcz40_0
      try clear hcz40_1
      try clear hcz40_2
      try clear hcz42_0
      try clear hcz42_1
      try clear hcz42_2
      try clear hcz46_0
      try clear hcz46_1
      try clear hcz46_2
      try clear hcz48_0
      try clear hcz48_1
      try clear hcz48_2
      try clear hfz13_0
      try clear hfz13_1
      try clear hfz13_2
      try clear hfz16_0
      try clear hfz16_1
      try clear hfz16_2
      try clear hfz22_0
      try clear hfz22_1
      try clear hfz22_2
      try clear hfz28_0
      try clear hfz28_1
      try clear hfz28_2
      try clear hfz38_0
      try clear hfz38_1
      try clear hfz38_2
      try clear hfz40_0
      try clear hfz40_1
      try clear hfz40_2
      try clear hfz42_0
      try clear hfz42_1
      try clear hfz42_2
      try clear hfz46_0
      try clear hfz46_1
      try clear hfz46_2
      try clear hfz48_0
      try clear hfz48_1
      try clear hfz48_2
      obtain ⟨kq, x68_9, rfl, HA, HJ9, HO_698002, HO_710002, HO_717002, BK697, BK709, BK716, HB⟩ := hcut
      cases kq with
      | zero => exact absurd HA.out (by simp [laws_FnGridTexts.j0])
      | succ kj9 =>
        have H := HA.out
        clear HA
        simp only [laws_FnGridTexts.j0] at H
        by_cases c50 : x68_9 = true
        · subst c50
          have H1 : (some false) = some r := by rw [if_pos rfl] at H; exact H
          clear H
          have H := H1
          clear H1
          exact absurd ((Option.some.inj H).trans hr_.out) (by decide)
        · replace c50 := Bool.eq_false_iff.mpr c50
          subst c50
          have H1 : (if t708 = 0 then ((impl_GridText.f kj9 t703 t704 t705).bind fun bt719 => (if bt719.2 = 0 then (if bt719.1.toList = t702.toList then (laws_FnGridTexts.j1 kj9 t698 t699 t692 t693 t694) else (some false)) else (some false))) else (laws_FnGridTexts.j1 kj9 t698 t699 t692 t693 t694)) = some r := by rw [if_neg (show ¬ (false = true) by decide)] at H; exact H
          clear H
          have H := H1
          clear H1
          have HC51 := Aside0.mk H
          clear H
          go_upto_if 70 with (fail)
          go_cut [] (fun wc => ∃ (kq : Nat), Aside0 (laws_FnGridTexts.j1 kq t698 t699 t692 t693 t694 = some r) ∧ Aside0 (kq ≤ kj9) ∧ Aside0 (Kd.R Kd.bool 4 wc w.heap.size (fun k_ => some k_ ≠ ((.slice Ao23 t705.length co23) : Value).ownBlock ∧ some k_ ≠ ((.slice Ao29 t712.length co29) : Value).ownBlock) (.slice Ao14 t694.length co14) t694) ∧ Aside0 (Kd.R Kd.bool 4 wc w.heap.size (fun k_ => some k_ ≠ ((.slice Ao14 t694.length co14) : Value).ownBlock ∧ some k_ ≠ ((.slice Ao29 t712.length co29) : Value).ownBlock) (.slice Ao23 t705.length co23) t705) ∧ Aside0 (Kd.R Kd.bool 4 wc w.heap.size (fun k_ => some k_ ≠ ((.slice Ao14 t694.length co14) : Value).ownBlock ∧ some k_ ≠ ((.slice Ao23 t705.length co23) : Value).ownBlock) (.slice Ao29 t712.length co29) t712) ∧ Aside0 (wc.heap[gb697]? = some (.cells #[.int .i64 t692, .int .i64 t693, (.slice Ao14 t694.length co14)] 57 (0, 0))) ∧ Aside0 (wc.heap[gb709]? = some (.cells #[.int .i64 t703, .int .i64 t704, (.slice Ao23 t705.length co23)] 57 (0, 0))) ∧ Aside0 (wc.heap[gb716]? = some (.cells #[.int .i64 t710, .int .i64 t711, (.slice Ao29 t712.length co29)] 57 (0, 0))) ∧ Aside0 (Below w.heap.size w wc))
          case first =>
            have H := HC51.out
            clear HC51
            by_cases c52 : t708 = 0
            · rw [if_pos c52] at H
              have c52b0 : (t708 == 0) = true := beq_iff_eq.mpr c52
              have c52b1 : (t708 != 0) = false := bne_eq_false_iff_eq.mpr c52
              clear c52
              (first | rw [c52b0] | (simp only [i64_w, i32_w]; rw [c52b0]) | skip)
              replace H := Option.bind_eq_some_iff.mp H
              obtain ⟨⟨t719, t720⟩, A530, H⟩ := H
              replace H : (if t720 = 0 then (if t719.toList = t702.toList then (laws_FnGridTexts.j1 kj9 t698 t699 t692 t693 t694) else (some false)) else (some false)) = some r := H
              have A53 := Aside0.mk A530
              clear A530
              by_cases c54 : t720 = 0
              · rw [if_pos c54] at H
                have c54b0 : (t720 == 0) = true := beq_iff_eq.mpr c54
                have c54b1 : (t720 != 0) = false := bne_eq_false_iff_eq.mpr c54
                clear c54
                by_cases c55 : t719.toList = t702.toList
                · rw [if_pos c55] at H
                  have c55b0 : (t719.toList == t702.toList) = true := beq_iff_eq.mpr c55
                  have c55b1 : (t719.toList != t702.toList) = false := bne_eq_false_iff_eq.mpr c55
                  clear c55
                  have H' := Aside0.mk H
                  clear H
                  have hnb56 := NB709_697.out
                  have hnc56 := NB697_709.out
                  have hnb57 := NB709_716.out
                  have hnc57 := NB716_709.out
                  have hcz58_0 : wc.cell? ⟨gb709, 0, none⟩ = some (.int .i64 t703) := (blk_cell BK709.out 0).trans rfl
                  have hcz58_1 : wc.cell? ⟨gb709, 1, none⟩ = some (.int .i64 t704) := (blk_cell BK709.out 1).trans rfl
                  have hcz58_2 : wc.cell? ⟨gb709, 2, none⟩ = some (.slice Ao23 t705.length co23) := (blk_cell BK709.out 2).trans rfl
                  have hfz58_0 := blk_frozen BK709.out 0
                  have hfz58_1 := blk_frozen BK709.out 1
                  have hfz58_2 := blk_frozen BK709.out 2
                  go_wp2_with (first | ((with_reducible refine gate_callee (f := 39) rfl ?_); refine goesL_ (some 73) rfl rfl Try.func39 (by kernel_rfl) rfl #[.agg #[.int .i64 t703, .int .i64 t704, .slice Ao23 t705.length co23]] rfl (by (try simp only [List.map_toArray, List.map_cons, List.map_nil]); first | done | rfl | (simp only [List.length_drop, List.length_take]; rfl)) ?_; (with_reducible refine (impl_GridText.calls kj9 t703 t704 _ _ t705 t719 t720 _ ?side1 ?side2 A53.out).mono ?_); (case side1 => repeat (first | exact (Kd.R_reads' HO_710002.out).2.2 | (with_reducible refine Kd.C_alloc ?_ _) | (with_reducible refine Kd.C_drewN ?_ _) | (with_reducible refine Kd.C_drew ?_))); (case side2 => exact (Kd.R_reads' HO_710002.out).2.1); rintro e w59 ⟨rfl, hb⟩; refine ⟨_, rfl, ?_⟩; have n0_ := Aside0.mk (Kd.R_below (by (with_reducible repeat (first | apply Kd.R_alloc | apply Kd.R_drewN | apply Kd.R_drew)); exact HO_698002.out) hb); have n1_ := Aside0.mk (Kd.R_below (by (with_reducible repeat (first | apply Kd.R_alloc | apply Kd.R_drewN | apply Kd.R_drew)); exact HO_710002.out) hb); have n2_ := Aside0.mk (Kd.R_below (by (with_reducible repeat (first | apply Kd.R_alloc | apply Kd.R_drewN | apply Kd.R_drew)); exact HO_717002.out) hb); have n3_ := Aside0.mk (blk_below (g := gb697) (o := .cells #[.int .i64 t692, .int .i64 t693, .slice Ao14 t694.length co14] 57 (0, 0)) (by (with_reducible repeat (first | refine blk_drewN ?_ _ | refine blk_drew ?_ | refine blk_alloc ?_ _)); exact BK697.out) hb); have n4_ := Aside0.mk (blk_below (g := gb709) (o := .cells #[.int .i64 t703, .int .i64 t704, .slice Ao23 t705.length co23] 57 (0, 0)) (by (with_reducible repeat (first | refine blk_drewN ?_ _ | refine blk_drew ?_ | refine blk_alloc ?_ _)); exact BK709.out) hb); have n5_ := Aside0.mk (blk_below (g := gb716) (o := .cells #[.int .i64 t710, .int .i64 t711, .slice Ao29 t712.length co29] 57 (0, 0)) (by (with_reducible repeat (first | refine blk_drewN ?_ _ | refine blk_drew ?_ | refine blk_alloc ?_ _)); exact BK716.out) hb); have n6_ := Aside0.mk (below_step (by repeat (first | (with_reducible first | exact HB.out | apply below_alloc | apply pw_below_drewN | apply below_drew1 | refine below_set ?_ GE697.out | refine below_set ?_ GE709.out | refine below_set ?_ GE716.out) | exact HB.out)) hb); clear HO_698002; clear HO_710002; clear HO_717002; clear BK697; clear BK709; clear BK716; clear HB; have HO_698002 := n0_; have HO_710002 := n1_; have HO_717002 := n2_; have BK697 := n3_; have BK709 := n4_; have BK716 := n5_; have HB := n6_; clear n0_ n1_ n2_ n3_ n4_ n5_ n6_; (try clear hb); (try clear hb2); (try clear hk); (try clear hi)))
                  go_meet
                  case rel => exact ⟨_, H', ⟨by have := HJ9.out; first | omega | exact Nat.le_refl _⟩, ⟨by (with_reducible repeat (first | apply Kd.R_alloc | apply Kd.R_drewN | apply Kd.R_drew)); exact HO_698002.out⟩, ⟨by (with_reducible repeat (first | apply Kd.R_alloc | apply Kd.R_drewN | apply Kd.R_drew)); exact HO_710002.out⟩, ⟨by (with_reducible repeat (first | apply Kd.R_alloc | apply Kd.R_drewN | apply Kd.R_drew)); exact HO_717002.out⟩, ⟨by (with_reducible repeat (first | refine blk_drewN ?_ _ | refine blk_drew ?_ | refine blk_alloc ?_ _)); exact BK697.out⟩, ⟨by (with_reducible repeat (first | refine blk_drewN ?_ _ | refine blk_drew ?_ | refine blk_alloc ?_ _)); exact BK709.out⟩, ⟨by (with_reducible repeat (first | refine blk_drewN ?_ _ | refine blk_drew ?_ | refine blk_alloc ?_ _)); exact BK716.out⟩, ⟨by repeat (first | (with_reducible first | exact HB.out | apply below_alloc | apply pw_below_drewN | apply below_drew1 | refine below_set ?_ GE697.out | refine below_set ?_ GE709.out | refine below_set ?_ GE716.out) | exact HB.out)⟩⟩
                · rw [if_neg c55] at H
                  have c55b0 : (t719.toList == t702.toList) = false := beq_eq_false_iff_ne.mpr c55
                  have c55b1 : (t719.toList != t702.toList) = true := bne_iff_ne.mpr c55
                  exact absurd ((Option.some.inj H).trans hr_.out) (by decide)
              · rw [if_neg c54] at H
                have c54b0 : (t720 == 0) = false := beq_eq_false_iff_ne.mpr c54
                have c54b1 : (t720 != 0) = true := bne_iff_ne.mpr c54
                exact absurd ((Option.some.inj H).trans hr_.out) (by decide)
            · rw [if_neg c52] at H
              have c52b0 : (t708 == 0) = false := beq_eq_false_iff_ne.mpr c52
              have c52b1 : (t708 != 0) = true := bne_iff_ne.mpr c52
              (first | rw [c52b0] | (simp only [i64_w, i32_w]; rw [c52b0]) | skip)
              have H' := Aside0.mk H
              clear H
              go_wp2
              go_meet
              case rel => exact ⟨_, H', ⟨by have := HJ9.out; first | omega | exact Nat.le_refl _⟩, ⟨by (with_reducible repeat (first | apply Kd.R_alloc | apply Kd.R_drewN | apply Kd.R_drew)); exact HO_698002.out⟩, ⟨by (with_reducible repeat (first | apply Kd.R_alloc | apply Kd.R_drewN | apply Kd.R_drew)); exact HO_710002.out⟩, ⟨by (with_reducible repeat (first | apply Kd.R_alloc | apply Kd.R_drewN | apply Kd.R_drew)); exact HO_717002.out⟩, ⟨by (with_reducible repeat (first | refine blk_drewN ?_ _ | refine blk_drew ?_ | refine blk_alloc ?_ _)); exact BK697.out⟩, ⟨by (with_reducible repeat (first | refine blk_drewN ?_ _ | refine blk_drew ?_ | refine blk_alloc ?_ _)); exact BK709.out⟩, ⟨by (with_reducible repeat (first | refine blk_drewN ?_ _ | refine blk_drew ?_ | refine blk_alloc ?_ _)); exact BK716.out⟩, ⟨by repeat (first | (with_reducible first | exact HB.out | apply below_alloc | apply pw_below_drewN | apply below_drew1 | refine below_set ?_ GE697.out | refine below_set ?_ GE709.out | refine below_set ?_ GE716.out) | exact HB.out)⟩⟩
          case rest =>
            clear HC51
            try clear c2
            try clear p2
            try clear c3
            try clear c4
            try clear c5
            try clear c7
            try clear c21
            try clear c26
            try clear c27
            try clear c30
            try clear c30b0
            try clear c30b1
            try clear c31
            try clear c31b0
            try clear c31b1
            try clear c32
            try clear c32b0
            try clear c32b1
            try clear c34
            try clear c36
            try clear c37
            try clear c38
            try clear c39
            try clear c40
            try clear c41
            try clear c42
            try clear c43
            try clear c44
            try clear c45
            try clear c47
            try clear c50
            try clear c52
            try clear c52b0
            try clear c52b1
            try clear c54
            try clear c54b0
            try clear c54b1
            try clear c55
            try clear c55b0
            try clear c55b1
            try clear c56
            try clear c57
            try clear hcz13_0
            try clear hcz13_1
            try clear hcz13_2
            try clear hcz16_0
            try clear hcz16_1
            try clear hcz16_2
            try clear hcz22_0
            try clear hcz22_1
            try clear hcz22_2
            try clear hcz28_0
            try clear hcz28_1
            try clear hcz28_2
            try clear hcz38_0
            try clear hcz38_1
            try clear hcz38_2
            try clear hcz40_0
            try clear hcz40_1
            try clear hcz40_2
            try clear hcz42_0
            try clear hcz42_1
            try clear hcz42_2
            try clear hcz46_0
            try clear hcz46_1
            try clear hcz46_2
            try clear hcz48_0
            try clear hcz48_1
            try clear hcz48_2
            try clear hcz58_0
            try clear hcz58_1
            try clear hcz58_2
            try clear hfz13_0
            try clear hfz13_1
            try clear hfz13_2
            try clear hfz16_0
            try clear hfz16_1
            try clear hfz16_2
            try clear hfz22_0
            try clear hfz22_1
            try clear hfz22_2
            try clear hfz28_0
            try clear hfz28_1
            try clear hfz28_2
            try clear hfz38_0
            try clear hfz38_1
            try clear hfz38_2
            try clear hfz40_0
            try clear hfz40_1
            try clear hfz40_2
            try clear hfz42_0
            try clear hfz42_1
            try clear hfz42_2
            try clear hfz46_0
            try clear hfz46_1
            try clear hfz46_2
            try clear hfz48_0
            try clear hfz48_1
            try clear hfz48_2
            try clear hfz58_0
            try clear hfz58_1
            try clear hfz58_2
            try clear p2
            obtain ⟨kq, HA, HJ50, HO_698002, HO_710002, HO_717002, BK697, BK709, BK716, HB⟩ := hcut
            cases kq with
            | zero => exact absurd HA.out (by simp [laws_FnGridTexts.j1])
            | succ kj50 =>
              have H := HA.out
              clear HA
              simp only [laws_FnGridTexts.j1] at H
              by_cases c60 : t699 = 0
              · rw [if_pos c60] at H
                have c60b0 : (t699 == 0) = true := beq_iff_eq.mpr c60
                have c60b1 : (t699 != 0) = false := bne_eq_false_iff_eq.mpr c60
                clear c60
                replace H := Option.bind_eq_some_iff.mp H
                obtain ⟨⟨t721, t722, t723, t726⟩, A610, H⟩ := H
                replace H : (if t726 = 0 then ((laws_likeGrid.f kj50 t721 t722 t723 t692 t693 t694).bind fun t728 => (some t728)) else (some false)) = some r := H
                have A61 := Aside0.mk A610
                clear A610
                by_cases c62 : t726 = 0
                · rw [if_pos c62] at H
                  have c62b0 : (t726 == 0) = true := beq_iff_eq.mpr c62
                  have c62b1 : (t726 != 0) = false := bne_eq_false_iff_eq.mpr c62
                  clear c62
                  replace H := Option.bind_eq_some_iff.mp H
                  obtain ⟨t728, A630, H⟩ := H
                  replace H : (some t728) = some r := H
                  have A63 := Aside0.mk A630
                  clear A630
                  obtain rfl := Option.some.inj H
                  go_wp2_with (first | ((with_reducible refine gate_callee (f := 42) rfl ?_); refine goesL_ (some 87) rfl rfl Try.func42 (by kernel_rfl) rfl #[.string t698] rfl (by (try simp only [List.map_toArray, List.map_cons, List.map_nil]); first | done | rfl | (simp only [List.length_drop, List.length_take]; rfl)) ?_; (with_reducible refine (impl_ReadGrid.calls kj50 t698 t721 t722 t723 t726 _ A61.out).mono ?_); rintro e w64 ⟨v724, rfl, ho0, hb⟩; refine ⟨_, rfl, ?_⟩; have n0_ := Aside0.mk (Kd.R_elder' (by (with_reducible repeat (first | apply Kd.R_alloc | apply Kd.R_drewN | apply Kd.R_drew)); exact HO_698002.out) (Kd.R_base ho0) hb); have n1_ := Aside0.mk (Kd.R_elder' (by (with_reducible repeat (first | apply Kd.R_alloc | apply Kd.R_drewN | apply Kd.R_drew)); exact HO_710002.out) (Kd.R_base ho0) hb); have n2_ := Aside0.mk (Kd.R_elder' (by (with_reducible repeat (first | apply Kd.R_alloc | apply Kd.R_drewN | apply Kd.R_drew)); exact HO_717002.out) (Kd.R_base ho0) hb); have n3_ := Aside0.mk (Kd.R_lower (Kd.R_new' (Kd.R_new' (Kd.R_new' ho0 (Kd.R_lt (by (with_reducible repeat (first | apply Kd.R_alloc | apply Kd.R_drewN | apply Kd.R_drew)); exact HO_698002.out))) (Kd.R_lt (by (with_reducible repeat (first | apply Kd.R_alloc | apply Kd.R_drewN | apply Kd.R_drew)); exact HO_710002.out))) (Kd.R_lt (by (with_reducible repeat (first | apply Kd.R_alloc | apply Kd.R_drewN | apply Kd.R_drew)); exact HO_717002.out))) (below_size (by repeat (first | (with_reducible first | exact HB.out | apply below_alloc | apply pw_below_drewN | apply below_drew1 | refine below_set ?_ GE697.out | refine below_set ?_ GE709.out | refine below_set ?_ GE716.out) | exact HB.out)))); have n4_ := Aside0.mk (blk_below (g := gb697) (o := .cells #[.int .i64 t692, .int .i64 t693, .slice Ao14 t694.length co14] 57 (0, 0)) (by (with_reducible repeat (first | refine blk_drewN ?_ _ | refine blk_drew ?_ | refine blk_alloc ?_ _)); exact BK697.out) hb); have n5_ := Aside0.mk (blk_below (g := gb709) (o := .cells #[.int .i64 t703, .int .i64 t704, .slice Ao23 t705.length co23] 57 (0, 0)) (by (with_reducible repeat (first | refine blk_drewN ?_ _ | refine blk_drew ?_ | refine blk_alloc ?_ _)); exact BK709.out) hb); have n6_ := Aside0.mk (blk_below (g := gb716) (o := .cells #[.int .i64 t710, .int .i64 t711, .slice Ao29 t712.length co29] 57 (0, 0)) (by (with_reducible repeat (first | refine blk_drewN ?_ _ | refine blk_drew ?_ | refine blk_alloc ?_ _)); exact BK716.out) hb); have n7_ := Aside0.mk (below_step (by repeat (first | (with_reducible first | exact HB.out | apply below_alloc | apply pw_below_drewN | apply below_drew1 | refine below_set ?_ GE697.out | refine below_set ?_ GE709.out | refine below_set ?_ GE716.out) | exact HB.out)) hb); clear HO_698002; clear HO_710002; clear HO_717002; clear BK697; clear BK709; clear BK716; clear HB; have HO_698002 := n0_; have HO_710002 := n1_; have HO_717002 := n2_; have HO725 := n3_; have BK697 := n4_; have BK709 := n5_; have BK716 := n6_; have HB := n7_; clear n0_ n1_ n2_ n3_ n4_ n5_ n6_ n7_; (try clear hb); (try clear hb2); (try clear hk); (try clear hi); (try clear ho0)) | ((with_reducible refine gate_dst (N := 15) rfl ?_); refine box_event ?hg (N := 15) ?hd (cs := #[.int .i64 0, .int .i64 0, .slice none 0 0]) (t := 57) ?hr ?_; (case hd => rfl); (case hg => rfl); (case hr => first | (go_simp; done) | (go_simp; rfl)); intro gb727 hg w65 hbox hb; have n0_ := Aside0.mk (Kd.R_below (by (with_reducible repeat (first | apply Kd.R_alloc | apply Kd.R_drewN | apply Kd.R_drew)); exact HO_698002.out) hb); have n1_ := Aside0.mk (Kd.R_below (by (with_reducible repeat (first | apply Kd.R_alloc | apply Kd.R_drewN | apply Kd.R_drew)); exact HO_710002.out) hb); have n2_ := Aside0.mk (Kd.R_below (by (with_reducible repeat (first | apply Kd.R_alloc | apply Kd.R_drewN | apply Kd.R_drew)); exact HO_717002.out) hb); have n3_ := Aside0.mk (Kd.R_below (by (with_reducible repeat (first | apply Kd.R_alloc | apply Kd.R_drewN | apply Kd.R_drew)); exact HO725.out) hb); have n4_ := Aside0.mk (blk_below (g := gb697) (o := .cells #[.int .i64 t692, .int .i64 t693, .slice Ao14 t694.length co14] 57 (0, 0)) (by (with_reducible repeat (first | refine blk_drewN ?_ _ | refine blk_drew ?_ | refine blk_alloc ?_ _)); exact BK697.out) hb); have n5_ := Aside0.mk (blk_below (g := gb709) (o := .cells #[.int .i64 t703, .int .i64 t704, .slice Ao23 t705.length co23] 57 (0, 0)) (by (with_reducible repeat (first | refine blk_drewN ?_ _ | refine blk_drew ?_ | refine blk_alloc ?_ _)); exact BK709.out) hb); have n6_ := Aside0.mk (blk_below (g := gb716) (o := .cells #[.int .i64 t710, .int .i64 t711, .slice Ao29 t712.length co29] 57 (0, 0)) (by (with_reducible repeat (first | refine blk_drewN ?_ _ | refine blk_drew ?_ | refine blk_alloc ?_ _)); exact BK716.out) hb); have n7_ := Aside0.mk (below_step (by repeat (first | (with_reducible first | exact HB.out | apply below_alloc | apply pw_below_drewN | apply below_drew1 | refine below_set ?_ GE697.out | refine below_set ?_ GE709.out | refine below_set ?_ GE716.out) | exact HB.out)) hb); have n8_ := Aside0.mk (hbox); have n9_ := Aside0.mk ((by rw [hg]; exact (below_size (by repeat (first | (with_reducible first | exact HB.out | apply below_alloc | apply pw_below_drewN | apply below_drew1 | refine below_set ?_ GE697.out | refine below_set ?_ GE709.out | refine below_set ?_ GE716.out) | exact HB.out))) : w.heap.size ≤ gb727)); have n10_ := Aside0.mk ((by rw [hg]; exact (below_size (by repeat (first | (with_reducible first | exact HB.out | apply below_alloc | apply pw_below_drewN | apply below_drew1 | refine below_set ?_ GE697.out | refine below_set ?_ GE709.out | refine below_set ?_ GE716.out) | exact HB.out))) : w.heap.size ≤ gb727)); have n11_ := Aside0.mk ((by rw [hg]; exact Nat.ne_of_lt (blk_lt (g := gb697) (o := .cells #[.int .i64 t692, .int .i64 t693, .slice Ao14 t694.length co14] 57 (0, 0)) (by (with_reducible repeat (first | refine blk_drewN ?_ _ | refine blk_drew ?_ | refine blk_alloc ?_ _)); exact BK697.out)) : gb697 ≠ gb727)); have n12_ := Aside0.mk ((by rw [hg]; exact Nat.ne_of_gt (blk_lt (g := gb697) (o := .cells #[.int .i64 t692, .int .i64 t693, .slice Ao14 t694.length co14] 57 (0, 0)) (by (with_reducible repeat (first | refine blk_drewN ?_ _ | refine blk_drew ?_ | refine blk_alloc ?_ _)); exact BK697.out)) : gb727 ≠ gb697)); have n13_ := Aside0.mk ((by rw [hg]; exact Nat.ne_of_lt (blk_lt (g := gb709) (o := .cells #[.int .i64 t703, .int .i64 t704, .slice Ao23 t705.length co23] 57 (0, 0)) (by (with_reducible repeat (first | refine blk_drewN ?_ _ | refine blk_drew ?_ | refine blk_alloc ?_ _)); exact BK709.out)) : gb709 ≠ gb727)); have n14_ := Aside0.mk ((by rw [hg]; exact Nat.ne_of_gt (blk_lt (g := gb709) (o := .cells #[.int .i64 t703, .int .i64 t704, .slice Ao23 t705.length co23] 57 (0, 0)) (by (with_reducible repeat (first | refine blk_drewN ?_ _ | refine blk_drew ?_ | refine blk_alloc ?_ _)); exact BK709.out)) : gb727 ≠ gb709)); have n15_ := Aside0.mk ((by rw [hg]; exact Nat.ne_of_lt (blk_lt (g := gb716) (o := .cells #[.int .i64 t710, .int .i64 t711, .slice Ao29 t712.length co29] 57 (0, 0)) (by (with_reducible repeat (first | refine blk_drewN ?_ _ | refine blk_drew ?_ | refine blk_alloc ?_ _)); exact BK716.out)) : gb716 ≠ gb727)); have n16_ := Aside0.mk ((by rw [hg]; exact Nat.ne_of_gt (blk_lt (g := gb716) (o := .cells #[.int .i64 t710, .int .i64 t711, .slice Ao29 t712.length co29] 57 (0, 0)) (by (with_reducible repeat (first | refine blk_drewN ?_ _ | refine blk_drew ?_ | refine blk_alloc ?_ _)); exact BK716.out)) : gb727 ≠ gb716)); clear HO_698002; clear HO_710002; clear HO_717002; clear HO725; clear BK697; clear BK709; clear BK716; clear HB; have HO_698002 := n0_; have HO_710002 := n1_; have HO_717002 := n2_; have HO725 := n3_; have BK697 := n4_; have BK709 := n5_; have BK716 := n6_; have HB := n7_; have BK727 := n8_; have GW727 := n9_; have GE727 := n10_; have NB697_727 := n11_; have NB727_697 := n12_; have NB709_727 := n13_; have NB727_709 := n14_; have NB716_727 := n15_; have NB727_716 := n16_; clear n0_ n1_ n2_ n3_ n4_ n5_ n6_ n7_ n8_ n9_ n10_ n11_ n12_ n13_ n14_ n15_ n16_; clear hb hbox hg; have hnb66 := NB727_697.out; have hnc66 := NB697_727.out; have hnb67 := NB727_709.out; have hnc67 := NB709_727.out; have hnb68 := NB727_716.out; have hnc68 := NB716_727.out; have hcz69_0 : w65.cell? ⟨gb727, 0, none⟩ = some (.int .i64 0) := (blk_cell BK727.out 0).trans rfl; have hcz69_1 : w65.cell? ⟨gb727, 1, none⟩ = some (.int .i64 0) := (blk_cell BK727.out 1).trans rfl; have hcz69_2 : w65.cell? ⟨gb727, 2, none⟩ = some (.slice none 0 0) := (blk_cell BK727.out 2).trans rfl; have hfz69_0 := blk_frozen BK727.out 0; have hfz69_1 := blk_frozen BK727.out 1; have hfz69_2 := blk_frozen BK727.out 2; obtain ⟨Ao70, co70, eo70⟩ := Kd.R_slice HO725.out; subst eo70; have hnb71 := NB697_709.out; have hnc71 := NB709_697.out; have hnb72 := NB697_716.out; have hnc72 := NB716_697.out; have hcz73_0 : w65.cell? ⟨gb697, 0, none⟩ = some (.int .i64 t692) := (blk_cell BK697.out 0).trans rfl; have hcz73_1 : w65.cell? ⟨gb697, 1, none⟩ = some (.int .i64 t693) := (blk_cell BK697.out 1).trans rfl; have hcz73_2 : w65.cell? ⟨gb697, 2, none⟩ = some (.slice Ao14 t694.length co14) := (blk_cell BK697.out 2).trans rfl; have hfz73_0 := blk_frozen BK697.out 0; have hfz73_1 := blk_frozen BK697.out 1; have hfz73_2 := blk_frozen BK697.out 2) | (go_at_call 44; (with_reducible refine (laws_likeGrid.calls kj50 t721 t722 _ _ t723 t692 t693 _ _ t694 t728 _ ?side1 ?side2 ?side3 ?side4 A63.out).mono ?_); (case side1 => refine (Kd.R_reads' (e := 4) (base := w.heap.size) (ok := fun k_ => (((True ∧ some k_ ≠ (.slice Ao14 t694.length co14 : Value).ownBlock) ∧ some k_ ≠ (.slice Ao23 t705.length co23 : Value).ownBlock) ∧ some k_ ≠ (.slice Ao29 t712.length co29 : Value).ownBlock)) (n := t723.length) (c := co70) ?_).2.2; exact (by (with_reducible repeat (first | apply Kd.R_alloc | apply Kd.R_drewN | apply Kd.R_drew)); exact (Kd.R_mono (Kd.R_far (p := ⟨gb727, 2, none⟩) (Kd.R_far (p := ⟨gb727, 1, none⟩) (Kd.R_far (p := ⟨gb727, 0, none⟩) (Kd.R_types HO725.out BK727.out (by decide)) (fun _ hk => hk.2) (.int .i64 t721)) (fun _ hk => hk.2) (.int .i64 t722)) (fun _ hk => hk.2) (.slice Ao70 t723.length co70)) (fun _ h_ => h_.1)))); (case side2 => exact (Kd.R_reads' HO725.out).2.1); (case side3 => refine (Kd.R_reads' (e := 4) (base := w.heap.size) (ok := fun k_ => ((some k_ ≠ (.slice Ao23 t705.length co23 : Value).ownBlock ∧ some k_ ≠ (.slice Ao29 t712.length co29 : Value).ownBlock) ∧ some k_ ≠ (.slice Ao70 t723.length co70 : Value).ownBlock)) (n := t694.length) (c := co14) ?_).2.2; exact (by (with_reducible repeat (first | apply Kd.R_alloc | apply Kd.R_drewN | apply Kd.R_drew)); exact (Kd.R_mono (Kd.R_far (p := ⟨gb727, 2, none⟩) (Kd.R_far (p := ⟨gb727, 1, none⟩) (Kd.R_far (p := ⟨gb727, 0, none⟩) (Kd.R_types HO_698002.out BK727.out (by decide)) (fun _ hk => hk.2) (.int .i64 t721)) (fun _ hk => hk.2) (.int .i64 t722)) (fun _ hk => hk.2) (.slice Ao70 t723.length co70)) (fun _ h_ => h_.1)))); (case side4 => exact (Kd.R_reads' HO_698002.out).2.1); rintro e w74 ⟨rfl, hb⟩; have n0_ := Aside0.mk (Kd.R_below (by (with_reducible repeat (first | apply Kd.R_alloc | apply Kd.R_drewN | apply Kd.R_drew)); exact (Kd.R_mono (Kd.R_far (p := ⟨gb727, 2, none⟩) (Kd.R_far (p := ⟨gb727, 1, none⟩) (Kd.R_far (p := ⟨gb727, 0, none⟩) (Kd.R_types HO_698002.out BK727.out (by decide)) (fun _ hk => hk.2) (.int .i64 t721)) (fun _ hk => hk.2) (.int .i64 t722)) (fun _ hk => hk.2) (.slice Ao70 t723.length co70)) (fun _ h_ => h_.1))) hb); have n1_ := Aside0.mk (Kd.R_below (by (with_reducible repeat (first | apply Kd.R_alloc | apply Kd.R_drewN | apply Kd.R_drew)); exact (Kd.R_mono (Kd.R_far (p := ⟨gb727, 2, none⟩) (Kd.R_far (p := ⟨gb727, 1, none⟩) (Kd.R_far (p := ⟨gb727, 0, none⟩) (Kd.R_types HO_710002.out BK727.out (by decide)) (fun _ hk => hk.2) (.int .i64 t721)) (fun _ hk => hk.2) (.int .i64 t722)) (fun _ hk => hk.2) (.slice Ao70 t723.length co70)) (fun _ h_ => h_.1))) hb); have n2_ := Aside0.mk (Kd.R_below (by (with_reducible repeat (first | apply Kd.R_alloc | apply Kd.R_drewN | apply Kd.R_drew)); exact (Kd.R_mono (Kd.R_far (p := ⟨gb727, 2, none⟩) (Kd.R_far (p := ⟨gb727, 1, none⟩) (Kd.R_far (p := ⟨gb727, 0, none⟩) (Kd.R_types HO_717002.out BK727.out (by decide)) (fun _ hk => hk.2) (.int .i64 t721)) (fun _ hk => hk.2) (.int .i64 t722)) (fun _ hk => hk.2) (.slice Ao70 t723.length co70)) (fun _ h_ => h_.1))) hb); have n3_ := Aside0.mk (Kd.R_below (by (with_reducible repeat (first | apply Kd.R_alloc | apply Kd.R_drewN | apply Kd.R_drew)); exact (Kd.R_mono (Kd.R_far (p := ⟨gb727, 2, none⟩) (Kd.R_far (p := ⟨gb727, 1, none⟩) (Kd.R_far (p := ⟨gb727, 0, none⟩) (Kd.R_types HO725.out BK727.out (by decide)) (fun _ hk => hk.2) (.int .i64 t721)) (fun _ hk => hk.2) (.int .i64 t722)) (fun _ hk => hk.2) (.slice Ao70 t723.length co70)) (fun _ h_ => h_.1))) hb); have n4_ := Aside0.mk (blk_below (g := gb697) (o := .cells #[.int .i64 t692, .int .i64 t693, .slice Ao14 t694.length co14] 57 (0, 0)) (by (with_reducible repeat (first | refine blk_drewN ?_ _ | refine blk_drew ?_ | refine blk_alloc ?_ _)); refine blk_far ?_ NB697_727.out _; (with_reducible repeat (first | refine blk_drewN ?_ _ | refine blk_drew ?_ | refine blk_alloc ?_ _)); refine blk_far ?_ NB697_727.out _; (with_reducible repeat (first | refine blk_drewN ?_ _ | refine blk_drew ?_ | refine blk_alloc ?_ _)); refine blk_far ?_ NB697_727.out _; (with_reducible repeat (first | refine blk_drewN ?_ _ | refine blk_drew ?_ | refine blk_alloc ?_ _)); exact BK697.out) hb); have n5_ := Aside0.mk (blk_below (g := gb709) (o := .cells #[.int .i64 t703, .int .i64 t704, .slice Ao23 t705.length co23] 57 (0, 0)) (by (with_reducible repeat (first | refine blk_drewN ?_ _ | refine blk_drew ?_ | refine blk_alloc ?_ _)); refine blk_far ?_ NB709_727.out _; (with_reducible repeat (first | refine blk_drewN ?_ _ | refine blk_drew ?_ | refine blk_alloc ?_ _)); refine blk_far ?_ NB709_727.out _; (with_reducible repeat (first | refine blk_drewN ?_ _ | refine blk_drew ?_ | refine blk_alloc ?_ _)); refine blk_far ?_ NB709_727.out _; (with_reducible repeat (first | refine blk_drewN ?_ _ | refine blk_drew ?_ | refine blk_alloc ?_ _)); exact BK709.out) hb); have n6_ := Aside0.mk (blk_below (g := gb716) (o := .cells #[.int .i64 t710, .int .i64 t711, .slice Ao29 t712.length co29] 57 (0, 0)) (by (with_reducible repeat (first | refine blk_drewN ?_ _ | refine blk_drew ?_ | refine blk_alloc ?_ _)); refine blk_far ?_ NB716_727.out _; (with_reducible repeat (first | refine blk_drewN ?_ _ | refine blk_drew ?_ | refine blk_alloc ?_ _)); refine blk_far ?_ NB716_727.out _; (with_reducible repeat (first | refine blk_drewN ?_ _ | refine blk_drew ?_ | refine blk_alloc ?_ _)); refine blk_far ?_ NB716_727.out _; (with_reducible repeat (first | refine blk_drewN ?_ _ | refine blk_drew ?_ | refine blk_alloc ?_ _)); exact BK716.out) hb); have n7_ := Aside0.mk (blk_below (g := gb727) (o := .cells #[.int .i64 t721, .int .i64 t722, .slice Ao70 t723.length co70] 57 (0, 0)) (by (with_reducible repeat (first | refine blk_drewN ?_ _ | refine blk_drew ?_ | refine blk_alloc ?_ _)); refine blk_put (cs := #[.int .i64 t721, .int .i64 t722, .slice none 0 0]) ?_ 2 _ rfl; (with_reducible repeat (first | refine blk_drewN ?_ _ | refine blk_drew ?_ | refine blk_alloc ?_ _)); refine blk_put (cs := #[.int .i64 t721, .int .i64 0, .slice none 0 0]) ?_ 1 _ rfl; (with_reducible repeat (first | refine blk_drewN ?_ _ | refine blk_drew ?_ | refine blk_alloc ?_ _)); refine blk_put (cs := #[.int .i64 0, .int .i64 0, .slice none 0 0]) ?_ 0 _ rfl; (with_reducible repeat (first | refine blk_drewN ?_ _ | refine blk_drew ?_ | refine blk_alloc ?_ _)); exact BK727.out) hb); have n8_ := Aside0.mk (below_step (by repeat (first | (with_reducible first | exact HB.out | apply below_alloc | apply pw_below_drewN | apply below_drew1 | refine below_set ?_ GE697.out | refine below_set ?_ GE709.out | refine below_set ?_ GE716.out | refine below_set ?_ GE727.out) | exact HB.out)) hb); clear HO_698002; clear HO_710002; clear HO_717002; clear HO725; clear BK697; clear BK709; clear BK716; clear BK727; clear HB; have HO_698002 := n0_; have HO_710002 := n1_; have HO_717002 := n2_; have HO725 := n3_; have BK697 := n4_; have BK709 := n5_; have BK716 := n6_; have BK727 := n7_; have HB := n8_; clear n0_ n1_ n2_ n3_ n4_ n5_ n6_ n7_ n8_; (try clear hb); (try clear hb2); (try clear hk); (try clear hi)))
                  go_ret
                  exact ⟨by first | rfl | (simp [errW_none, errW_some] <;> rfl) | (simp [*, errW_none, errW_some] <;> rfl), by repeat (first | (with_reducible first | exact HB.out | apply below_alloc | apply pw_below_drewN | apply below_drew1 | refine below_set ?_ GE697.out | refine below_set ?_ GE709.out | refine below_set ?_ GE716.out | refine below_set ?_ GE727.out) | exact HB.out)⟩
                · rw [if_neg c62] at H
                  have c62b0 : (t726 == 0) = false := beq_eq_false_iff_ne.mpr c62
                  have c62b1 : (t726 != 0) = true := bne_iff_ne.mpr c62
                  exact absurd ((Option.some.inj H).trans hr_.out) (by decide)
              · rw [if_neg c60] at H
                have c60b0 : (t699 == 0) = false := beq_eq_false_iff_ne.mpr c60
                have c60b1 : (t699 != 0) = true := bne_iff_ne.mpr c60
                obtain rfl := Option.some.inj H
                go_wp2
                go_ret
                exact ⟨by first | rfl | (simp [errW_none, errW_some] <;> rfl) | (simp [*, errW_none, errW_some] <;> rfl), by repeat (first | (with_reducible first | exact HB.out | apply below_alloc | apply pw_below_drewN | apply below_drew1 | refine below_set ?_ GE697.out | refine below_set ?_ GE709.out | refine below_set ?_ GE716.out) | exact HB.out)⟩

/-- THE ONE PURE STATEMENT of laws_FnGridTexts: yours. -/
def laws_FnGridTexts.Pure : Prop := ∀ (l0 : List Int), l0.length ≤ maxLen → l0.length * 1 ≤ 140737488351232 → (∀ x ∈ l0, (Lit.int .u8 x).wf = true) → ∃ k, laws_FnGridTexts.f k l0 = some true
theorem laws_FnGridTexts.walk (P : laws_FnGridTexts.Pure) (a0 : Option Addr) (len0 cap0 : Nat) (z0 : List Int) (w : World) (w0 : (a0 = none ∧ len0 = 0 ∧ cap0 = 0 ∧ z0 = []) ∨ ∃ x, a0 = some x ∧ len0 ≤ cap0 ∧ cap0 ≤ maxLen ∧ z0.length = cap0 ∧ (∀ i, i < z0.length → w.cell? (x.add i) = some (.int .u8 (z0.getD i 0))) ∧ ∀ n ∈ z0, (Lit.int .u8 n).wf = true) (y0 : len0 * 1 ≤ 140737488351232) :
    Calls Try.prog 7 #[.slice a0 len0 cap0] w fun e w' => e = .returned (.bool true) ∧ Below w.heap.size w w' := by
  obtain ⟨l0, rfl, hr0, hm0, hw0, hc0⟩ := ReadsInt.ofRowC w0
  obtain ⟨k, h⟩ := P l0 hm0 y0 hw0
  refine (laws_FnGridTexts.calls k _ _ l0 true w (Kd.C_of_reads (d := (0 : Int)) (h1 := fun _ => rfl) hr0) hc0 ⟨rfl⟩ h).mono ?_
  rintro e w' ⟨rfl, hd⟩
  exact ⟨rfl, hd⟩

end Go.Proofs.Ytppfdipgaifhiab.Q
