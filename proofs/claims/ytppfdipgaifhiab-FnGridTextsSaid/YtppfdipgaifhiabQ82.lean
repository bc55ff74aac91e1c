/- A function of the program and its contract: written by this session's qprint.py. -/
import Derived.Test.YtppfdipgaifhiabQ0
import Derived.Test.YtppfdipgaifhiabQ41
import Derived.Test.YtppfdipgaifhiabQ81
namespace Go.Proofs.Ytppfdipgaifhiab.Q
open Go.RowKit Go.Proofs.YtppfdipgaifhiabW.PrintWords Go.Proofs.YtppfdipgaifhiabW.PrintLast Go.Proofs.YtppfdipgaifhiabW.PrintMore
attribute [local go_sem] max2_int min2_int max_two min_two max_three min_three max_four min_four   -- for this text's walks alone
set_option linter.unusedVariables false
set_option linter.unusedSimpArgs false

/-! ### impl_ReadGrid: function 42 -/
mutual
def impl_ReadGrid.j0 : Nat → List ByteArray → Bool → Int → Int → Option (Int × Int × List Bool × Int)
  | 0, _, _, _, _ => none
  | k + 1, x4, x27, x654000, x654001 => if x27 = true then (some (0, 0, ([] : List Bool), 6)) else (impl_ReadGrid.l0 k x4 (x4.length : Int) 0 x654000 x654001 ([] : List Bool))
def impl_ReadGrid.l0 : Nat → List ByteArray → Int → Int → Int → Int → List Bool → Option (Int × Int × List Bool × Int)
  | 0, _, _, _, _, _, _ => none
  | k + 1, x29, x30, x31, x654000, x654001, x654002 => if x31 < x30 then (if 0 ≤ x31 then (if x31 < (x29.length : Int) then (if ((rdOf ByteArray.empty x29 x31).size : Int) = x654000 then (impl_ReadGrid.l1 k (rdOf ByteArray.empty x29 x31) 0 x29 x30 x31 x654000 x654001 x654002) else (some (0, 0, ([] : List Bool), 6))) else (none)) else (none)) else (some (x654000, x654001, x654002, 0))
def impl_ReadGrid.l1 : Nat → ByteArray → Int → List ByteArray → Int → Int → Int → Int → List Bool → Option (Int × Int × List Bool × Int)
  | 0, _, _, _, _, _, _, _, _ => none
  | k + 1, x7, x8, x29, x30, x31, x654000, x654001, x654002 => if x8 < (x7.size : Int) then (if 0 ≤ x8 then (if (bt x7 x8) = 35 then (if x654002.length < 140737488355328 then (impl_ReadGrid.l1 k x7 (wrap64 (x8 + 1)) x29 x30 x31 x654000 x654001 (x654002 ++ [((bt x7 x8) == 35)])) else (none)) else (if (bt x7 x8) = 46 then (if x654002.length < 140737488355328 then (impl_ReadGrid.l1 k x7 (wrap64 (x8 + 1)) x29 x30 x31 x654000 x654001 (x654002 ++ [((bt x7 x8) == 35)])) else (none)) else (some (0, 0, ([] : List Bool), 6)))) else (none)) else (impl_ReadGrid.l0 k x29 x30 (wrap64 (x31 + 1)) x654000 x654001 x654002)
end
def impl_ReadGrid.f (k : Nat) (a0 : ByteArray) : Option (Int × Int × List Bool × Int) := (impl_splitAt.f k a0 47).bind fun t649 => (if 0 < (t649.length : Int) then ((impl_within.f ((rdOf ByteArray.empty t649 0).size : Int) 1 12).bind fun t654 => (if t654 = true then ((impl_within.f (t649.length : Int) 1 12).bind fun t655 => (impl_ReadGrid.j0 k t649 (!t655) ((rdOf ByteArray.empty t649 0).size : Int) (t649.length : Int))) else (impl_ReadGrid.j0 k t649 true ((rdOf ByteArray.empty t649 0).size : Int) (t649.length : Int)))) else (none))
theorem impl_ReadGrid.mono_l : ∀ k, (∀ y0 y1 y2 y3, LeO (impl_ReadGrid.j0 k y0 y1 y2 y3) (impl_ReadGrid.j0 (k + 1) y0 y1 y2 y3)) ∧ (∀ y0 y1 y2 y3 y4 y5, LeO (impl_ReadGrid.l0 k y0 y1 y2 y3 y4 y5) (impl_ReadGrid.l0 (k + 1) y0 y1 y2 y3 y4 y5)) ∧ (∀ y0 y1 y2 y3 y4 y5 y6 y7, LeO (impl_ReadGrid.l1 k y0 y1 y2 y3 y4 y5 y6 y7) (impl_ReadGrid.l1 (k + 1) y0 y1 y2 y3 y4 y5 y6 y7))
  | 0 => ⟨fun _ _ _ _ r h => by simp [impl_ReadGrid.j0] at h, fun _ _ _ _ _ _ r h => by simp [impl_ReadGrid.l0] at h, fun _ _ _ _ _ _ _ _ r h => by simp [impl_ReadGrid.l1] at h⟩
  | k + 1 => by
    obtain ⟨ih0, ih1, ih2⟩ := impl_ReadGrid.mono_l k
    refine ⟨?_, ?_, ?_⟩
    · intro y0 y1 y2 y3
      unfold impl_ReadGrid.j0
      repeat' first
      | (with_reducible exact ih0 _ _ _ _)
      | (with_reducible exact ih1 _ _ _ _ _ _)
      | (with_reducible exact ih2 _ _ _ _ _ _ _ _)
      | (with_reducible exact impl_splitAt.mono _ _ _)
      | (with_reducible exact LeO.refl _)
      | (with_reducible exact LeO.none _)
      | (with_reducible refine LeO.ite ?_ ?_)
      | (with_reducible refine LeO.bind ?_ (fun _ => ?_))
      | exact ih0 _ _ _ _
      | exact ih1 _ _ _ _ _ _
      | exact ih2 _ _ _ _ _ _ _ _
      | exact impl_splitAt.mono _ _ _
      | exact LeO.none _
      | refine LeO.ite ?_ ?_
      | refine LeO.bind ?_ (fun _ => ?_)
    · intro y0 y1 y2 y3 y4 y5
      unfold impl_ReadGrid.l0
      repeat' first
      | (with_reducible exact ih0 _ _ _ _)
      | (with_reducible exact ih1 _ _ _ _ _ _)
      | (with_reducible exact ih2 _ _ _ _ _ _ _ _)
      | (with_reducible exact impl_splitAt.mono _ _ _)
      | (with_reducible exact LeO.refl _)
      | (with_reducible exact LeO.none _)
      | (with_reducible refine LeO.ite ?_ ?_)
      | (with_reducible refine LeO.bind ?_ (fun _ => ?_))
      | exact ih0 _ _ _ _
      | exact ih1 _ _ _ _ _ _
      | exact ih2 _ _ _ _ _ _ _ _
      | exact impl_splitAt.mono _ _ _
      | exact LeO.none _
      | refine LeO.ite ?_ ?_
      | refine LeO.bind ?_ (fun _ => ?_)
    · intro y0 y1 y2 y3 y4 y5 y6 y7
      unfold impl_ReadGrid.l1
      repeat' first
      | (with_reducible exact ih0 _ _ _ _)
      | (with_reducible exact ih1 _ _ _ _ _ _)
      | (with_reducible exact ih2 _ _ _ _ _ _ _ _)
      | (with_reducible exact impl_splitAt.mono _ _ _)
      | (with_reducible exact LeO.refl _)
      | (with_reducible exact LeO.none _)
      | (with_reducible refine LeO.ite ?_ ?_)
      | (with_reducible refine LeO.bind ?_ (fun _ => ?_))
      | exact ih0 _ _ _ _
      | exact ih1 _ _ _ _ _ _
      | exact ih2 _ _ _ _ _ _ _ _
      | exact impl_splitAt.mono _ _ _
      | exact LeO.none _
      | refine LeO.ite ?_ ?_
      | refine LeO.bind ?_ (fun _ => ?_)
theorem impl_ReadGrid.mono : ∀ a0 k, LeO (impl_ReadGrid.f k a0) (impl_ReadGrid.f (k + 1) a0) := by
  intro a0 k
  obtain ⟨ih0, ih1, ih2⟩ := impl_ReadGrid.mono_l k
  unfold impl_ReadGrid.f
  repeat' first
      | (with_reducible exact ih0 _ _ _ _)
      | (with_reducible exact ih1 _ _ _ _ _ _)
      | (with_reducible exact ih2 _ _ _ _ _ _ _ _)
      | (with_reducible exact impl_splitAt.mono _ _ _)
      | (with_reducible exact LeO.refl _)
      | (with_reducible exact LeO.none _)
      | (with_reducible refine LeO.ite ?_ ?_)
      | (with_reducible refine LeO.bind ?_ (fun _ => ?_))
      | exact ih0 _ _ _ _
      | exact ih1 _ _ _ _ _ _
      | exact ih2 _ _ _ _ _ _ _ _
      | exact impl_splitAt.mono _ _ _
      | exact LeO.none _
      | refine LeO.ite ?_ ?_
      | refine LeO.bind ?_ (fun _ => ?_)
def impl_ReadGrid.T15 : Bool × List (List Nat × List Nat) := (true, [([], []), ([0], [0]), ([], []), ([], []), ([2, 3], [2, 3]), ([4], [4]), ([5], [5]), ([1, 6], [1, 6]), ([0, 1, 2, 3, 4, 5, 6, 7], []), ([8, 7, 7, 0, 1, 2, 3, 4, 5, 6, 7], [7, 8])])
def impl_ReadGrid.B15 : List Nat := [0, 1, 0, 0, 12, 28, 60, 127, 255, 511]
theorem impl_ReadGrid.tab15 : rtab .any (opsOf Try.f42 15) = impl_ReadGrid.T15 := by kernel_rfl
theorem impl_ReadGrid.bits15 : waitsOk impl_ReadGrid.T15.2 impl_ReadGrid.B15 = true := by kernel_rfl
set_option maxHeartbeats 8000000 in
set_option maxRecDepth 100000 in
theorem impl_ReadGrid.calls (k : Nat) (a0 : ByteArray) (r1 : Int) (r2 : Int) (r3 : List Bool) (r4 : Int) (w : World) (h : impl_ReadGrid.f k a0 = some (r1, r2, r3, r4)) :
    Calls Try.prog 42 #[.string a0] w fun e w' => ∃ v2_ : Value, e = .returned (.tuple #[.agg #[.int .i64 r1, .int .i64 r2, v2_], .int .i64 r4]) ∧ Kd.R Kd.bool 4 w' w.heap.size (fun _ => True) v2_ r3 ∧ Below w.heap.size w w' := by
  have hu57 := Try.underlying57
  have HB := Aside0.mk (Below.refl w.heap.size w)
  have H : ((impl_splitAt.f k a0 47).bind fun t649 => (if 0 < (t649.length : Int) then ((impl_within.f ((rdOf ByteArray.empty t649 0).size : Int) 1 12).bind fun t654 => (if t654 = true then ((impl_within.f (t649.length : Int) 1 12).bind fun t655 => (impl_ReadGrid.j0 k t649 (!t655) ((rdOf ByteArray.empty t649 0).size : Int) (t649.length : Int))) else (impl_ReadGrid.j0 k t649 true ((rdOf ByteArray.empty t649 0).size : Int) (t649.length : Int)))) else (none))) = some (r1, r2, r3, r4) := h
  clear h
  replace H := Option.bind_eq_some_iff.mp H
  obtain ⟨t649, A20, H⟩ := H
  replace H : (if 0 < (t649.length : Int) then ((impl_within.f ((rdOf ByteArray.empty t649 0).size : Int) 1 12).bind fun t654 => (if t654 = true then ((impl_within.f (t649.length : Int) 1 12).bind fun t655 => (impl_ReadGrid.j0 k t649 (!t655) ((rdOf ByteArray.empty t649 0).size : Int) (t649.length : Int))) else (impl_ReadGrid.j0 k t649 true ((rdOf ByteArray.empty t649 0).size : Int) (t649.length : Int)))) else (none)) = some (r1, r2, r3, r4) := H
  have A2 := Aside0.mk A20
  clear A20
  by_cases c3 : 0 < (t649.length : Int)
  · rw [if_pos c3] at H
    have c3b0 : decide (0 < (t649.length : Int)) = true := decide_eq_true c3
    have c3b1 : decide (0 < t649.length) = true := decide_eq_true (by omega)
    clear c3
    have HC4 := Aside0.mk H
    clear H
    go_enter Try.func42, Try.ntmps42
    go_upto_region 3 with (first | ((with_reducible refine gate_dst (N := 2) rfl ?_); refine box_event ?hg (N := 2) ?hd (cs := #[.int .i64 0, .int .i64 0, .slice none 0 0]) (t := 57) ?hr ?_; (case hd => rfl); (case hg => rfl); (case hr => first | (go_simp; done) | (go_simp; rfl)); intro gb648 hg w5 hbox hb; have n0_ := Aside0.mk (below_step (by repeat (first | (with_reducible first | exact HB.out | apply below_alloc | apply pw_below_drewN | apply below_drew1) | exact HB.out)) hb); have n1_ := Aside0.mk (hbox); have n2_ := Aside0.mk ((by rw [hg]; exact (below_size (by repeat (first | (with_reducible first | exact HB.out | apply below_alloc | apply pw_below_drewN | apply below_drew1) | exact HB.out))) : w.heap.size ≤ gb648)); have n3_ := Aside0.mk ((by rw [hg]; exact (below_size (by repeat (first | (with_reducible first | exact HB.out | apply below_alloc | apply pw_below_drewN | apply below_drew1) | exact HB.out))) : w.heap.size ≤ gb648)); clear HB; have HB := n0_; have BK648 := n1_; have GW648 := n2_; have GE648 := n3_; clear n0_ n1_ n2_ n3_; clear hb hbox hg) | ((with_reducible refine gate_callee (f := 118) rfl ?_); refine goesL_ (some 10) rfl rfl Try.func118 (by kernel_rfl) rfl #[.string a0, .int .u8 47] rfl (by (try simp only [List.map_toArray, List.map_cons, List.map_nil]); first | done | rfl | (simp only [List.length_drop, List.length_take]; rfl)) ?_; (with_reducible refine (impl_splitAt.calls k a0 47 t649 _ A2.out).mono ?_); rintro e w6 ⟨v650, rfl, ho0, hb⟩; refine ⟨_, rfl, ?_⟩; have n0_ := Aside0.mk (Kd.R_lower ho0 (below_size (by repeat (first | (with_reducible first | exact HB.out | apply below_alloc | apply pw_below_drewN | apply below_drew1 | refine below_set ?_ GE648.out) | exact HB.out)))); have n1_ := Aside0.mk (blk_below (g := gb648) (o := .cells #[.int .i64 0, .int .i64 0, .slice none 0 0] 57 (0, 0)) (by (with_reducible repeat (first | refine blk_drewN ?_ _ | refine blk_drew ?_ | refine blk_alloc ?_ _)); exact BK648.out) hb); have n2_ := Aside0.mk (below_step (by repeat (first | (with_reducible first | exact HB.out | apply below_alloc | apply pw_below_drewN | apply below_drew1 | refine below_set ?_ GE648.out) | exact HB.out)) hb); clear BK648; clear HB; have HO651 := n0_; have BK648 := n1_; have HB := n2_; clear n0_ n1_ n2_; (try clear hb); (try clear hb2); (try clear hk); (try clear hi); (try clear ho0); obtain ⟨Ao7, co7, eo7⟩ := Kd.R_slice HO651.out; subst eo7; have p652 : 0 ≤ (0 : Int) := (by omega); have q652 : 0 < (t649.length : Int) := of_decide_eq_true (by first | (with_reducible assumption) | assumption); obtain ⟨ad652, e652, hx652_0⟩ := Kd.at_string (Kd.R_reads' HO651.out).2.2 0 p652 q652; cases e652; have qi652 : (0 < t649.length) = True := eq_true (by omega); (try rw [show ((0 : Int)).toNat = 0 from rfl] at hx652_0); (try rw [Addr.add_zero'] at hx652_0); replace p652 := eq_true p652; replace q652 := eq_true q652) | ((with_reducible refine gate_dst (N := 5) rfl ?_); refine box_event ?hg (N := 5) ?hd (cs := #[.int .i64 0, .int .i64 0, .slice none 0 0]) (t := 57) ?hr ?_; (case hd => rfl); (case hg => rfl); (case hr => first | (go_simp; done) | (go_simp; rfl)); intro gb653 hg w8 hbox hb; have n0_ := Aside0.mk (Kd.R_below (by (with_reducible repeat (first | apply Kd.R_alloc | apply Kd.R_drewN | apply Kd.R_drew)); exact HO651.out) hb); have n1_ := Aside0.mk (blk_below (g := gb648) (o := .cells #[.int .i64 0, .int .i64 0, .slice none 0 0] 57 (0, 0)) (by (with_reducible repeat (first | refine blk_drewN ?_ _ | refine blk_drew ?_ | refine blk_alloc ?_ _)); exact BK648.out) hb); have n2_ := Aside0.mk (below_step (by repeat (first | (with_reducible first | exact HB.out | apply below_alloc | apply pw_below_drewN | apply below_drew1 | refine below_set ?_ GE648.out) | exact HB.out)) hb); have n3_ := Aside0.mk (hbox); have n4_ := Aside0.mk ((by rw [hg]; exact (below_size (by repeat (first | (with_reducible first | exact HB.out | apply below_alloc | apply pw_below_drewN | apply below_drew1 | refine below_set ?_ GE648.out) | exact HB.out))) : w.heap.size ≤ gb653)); have n5_ := Aside0.mk ((by rw [hg]; exact (below_size (by repeat (first | (with_reducible first | exact HB.out | apply below_alloc | apply pw_below_drewN | apply below_drew1 | refine below_set ?_ GE648.out) | exact HB.out))) : w.heap.size ≤ gb653)); have n6_ := Aside0.mk ((by rw [hg]; exact Nat.ne_of_lt (blk_lt (g := gb648) (o := .cells #[.int .i64 0, .int .i64 0, .slice none 0 0] 57 (0, 0)) (by (with_reducible repeat (first | refine blk_drewN ?_ _ | refine blk_drew ?_ | refine blk_alloc ?_ _)); exact BK648.out)) : gb648 ≠ gb653)); have n7_ := Aside0.mk ((by rw [hg]; exact Nat.ne_of_gt (blk_lt (g := gb648) (o := .cells #[.int .i64 0, .int .i64 0, .slice none 0 0] 57 (0, 0)) (by (with_reducible repeat (first | refine blk_drewN ?_ _ | refine blk_drew ?_ | refine blk_alloc ?_ _)); exact BK648.out)) : gb653 ≠ gb648)); clear HO651; clear BK648; clear HB; have HO651 := n0_; have BK648 := n1_; have HB := n2_; have BK653 := n3_; have GW653 := n4_; have GE653 := n5_; have NB648_653 := n6_; have NB653_648 := n7_; clear n0_ n1_ n2_ n3_ n4_ n5_ n6_ n7_; clear hb hbox hg; have hnb9 := NB653_648.out; have hnc9 := NB648_653.out; have hcz10_0 : w8.cell? ⟨gb653, 0, none⟩ = some (.int .i64 0) := (blk_cell BK653.out 0).trans rfl; have hcz10_1 : w8.cell? ⟨gb653, 1, none⟩ = some (.int .i64 0) := (blk_cell BK653.out 1).trans rfl; have hcz10_2 : w8.cell? ⟨gb653, 2, none⟩ = some (.slice none 0 0) := (blk_cell BK653.out 2).trans rfl; have hfz10_0 := blk_frozen BK653.out 0; have hfz10_1 := blk_frozen BK653.out 1; have hfz10_2 := blk_frozen BK653.out 2))
    (try simp only [Act.put, List.setIfInBounds_toArray, List.set_cons_zero, List.set_cons_succ])
    go_cut [27] (fun v27 wc => ∃ (kq : Nat) (x27_3 : Bool), v27 = .bool x27_3 ∧ Aside0 (impl_ReadGrid.j0 kq t649 x27_3 ((rdOf ByteArray.empty t649 0).size : Int) (t649.length : Int) = some (r1, r2, r3, r4)) ∧ Aside0 (kq ≤ k) ∧ Aside0 (Kd.R Kd.string 9 wc w.heap.size (fun _ => True) (.slice (some ad652) t649.length co7) t649) ∧ Aside0 (wc.heap[gb648]? = some (.cells #[.int .i64 0, .int .i64 0, (.slice none 0 0)] 57 (0, 0))) ∧ Aside0 (wc.heap[gb653]? = some (.cells #[.int .i64 ((rdOf ByteArray.empty t649 0).size : Int), .int .i64 (t649.length : Int), (.slice none 0 0)] 57 (0, 0))) ∧ Aside0 (Below w.heap.size w wc))
    case first =>
      have H := HC4.out
      clear HC4
      replace H := Option.bind_eq_some_iff.mp H
      obtain ⟨t654, A110, H⟩ := H
      replace H : (if t654 = true then ((impl_within.f (t649.length : Int) 1 12).bind fun t655 => (impl_ReadGrid.j0 k t649 (!t655) ((rdOf ByteArray.empty t649 0).size : Int) (t649.length : Int))) else (impl_ReadGrid.j0 k t649 true ((rdOf ByteArray.empty t649 0).size : Int) (t649.length : Int))) = some (r1, r2, r3, r4) := H
      have A11 := Aside0.mk A110
      clear A110
      by_cases c12 : t654 = true
      · subst c12
        have H1 : ((impl_within.f (t649.length : Int) 1 12).bind fun t655 => (impl_ReadGrid.j0 k t649 (!t655) ((rdOf ByteArray.empty t649 0).size : Int) (t649.length : Int))) = some (r1, r2, r3, r4) := by rw [if_pos rfl] at H; exact H
        clear H
        have H := H1
        clear H1
        replace H := Option.bind_eq_some_iff.mp H
        obtain ⟨t655, A130, H⟩ := H
        replace H : (impl_ReadGrid.j0 k t649 (!t655) ((rdOf ByteArray.empty t649 0).size : Int) (t649.length : Int)) = some (r1, r2, r3, r4) := H
        have A13 := Aside0.mk A130
        clear A130
        have H' := Aside0.mk H
        clear H
        have hnb14 := NB653_648.out
        have hnc14 := NB648_653.out
        have hcz15_0 : w8.cell? ⟨gb653, 0, none⟩ = some (.int .i64 0) := (blk_cell BK653.out 0).trans rfl
        have hcz15_1 : w8.cell? ⟨gb653, 1, none⟩ = some (.int .i64 0) := (blk_cell BK653.out 1).trans rfl
        have hcz15_2 : w8.cell? ⟨gb653, 2, none⟩ = some (.slice none 0 0) := (blk_cell BK653.out 2).trans rfl
        have hfz15_0 := blk_frozen BK653.out 0
        have hfz15_1 := blk_frozen BK653.out 1
        have hfz15_2 := blk_frozen BK653.out 2
        go_wp2_with (first | ((with_reducible refine gate_callee (f := 119) rfl ?_); refine goesL_ (some 20) rfl rfl Try.func119 (by kernel_rfl) rfl #[.int .i64 ((rdOf ByteArray.empty t649 0).size : Int), .int .i64 1, .int .i64 12] rfl (by (try simp only [List.map_toArray, List.map_cons, List.map_nil]); first | done | rfl | (simp only [List.length_drop, List.length_take]; rfl)) ?_; (with_reducible refine (impl_within.calls ((rdOf ByteArray.empty t649 0).size : Int) 1 12 true _ A11.out).mono ?_); rintro e w' ⟨rfl, ⟨nd, rfl⟩⟩; refine ⟨_, rfl, ?_⟩) | (go_at_call 119; (with_reducible refine (impl_within.calls (t649.length : Int) 1 12 t655 _ A13.out).mono ?_); rintro e w' ⟨rfl, ⟨nd, rfl⟩⟩))
        go_meet
        case rel => exact ⟨_, (!t655), (by first | rfl | (simp; done) | (simp [*]; done)), H', ⟨by first | omega | exact Nat.le_refl _⟩, ⟨by (with_reducible repeat (first | apply Kd.R_alloc | apply Kd.R_drewN | apply Kd.R_drew)); exact Kd.R_mono (Kd.R_far (p := ⟨gb653, 2, none⟩) (Kd.R_far (p := ⟨gb653, 1, none⟩) (Kd.R_far (p := ⟨gb653, 0, none⟩) (Kd.R_types HO651.out BK653.out (by decide)) (fun _ hk => hk.2) (.int .i64 ((rdOf ByteArray.empty t649 0).size : Int))) (fun _ hk => hk.2) (.int .i64 (t649.length : Int))) (fun _ hk => hk.2) (.slice none 0 0)) (fun _ hk => trivial)⟩, ⟨by (with_reducible repeat (first | refine blk_drewN ?_ _ | refine blk_drew ?_ | refine blk_alloc ?_ _)); refine blk_far ?_ NB648_653.out _; (with_reducible repeat (first | refine blk_drewN ?_ _ | refine blk_drew ?_ | refine blk_alloc ?_ _)); refine blk_far ?_ NB648_653.out _; (with_reducible repeat (first | refine blk_drewN ?_ _ | refine blk_drew ?_ | refine blk_alloc ?_ _)); refine blk_far ?_ NB648_653.out _; (with_reducible repeat (first | refine blk_drewN ?_ _ | refine blk_drew ?_ | refine blk_alloc ?_ _)); exact BK648.out⟩, ⟨by (with_reducible repeat (first | refine blk_drewN ?_ _ | refine blk_drew ?_ | refine blk_alloc ?_ _)); refine blk_put (cs := #[.int .i64 ((rdOf ByteArray.empty t649 0).size : Int), .int .i64 (t649.length : Int), .slice none 0 0]) ?_ 2 _ rfl; (with_reducible repeat (first | refine blk_drewN ?_ _ | refine blk_drew ?_ | refine blk_alloc ?_ _)); refine blk_put (cs := #[.int .i64 ((rdOf ByteArray.empty t649 0).size : Int), .int .i64 0, .slice none 0 0]) ?_ 1 _ rfl; (with_reducible repeat (first | refine blk_drewN ?_ _ | refine blk_drew ?_ | refine blk_alloc ?_ _)); refine blk_put (cs := #[.int .i64 0, .int .i64 0, .slice none 0 0]) ?_ 0 _ rfl; (with_reducible repeat (first | refine blk_drewN ?_ _ | refine blk_drew ?_ | refine blk_alloc ?_ _)); exact BK653.out⟩, ⟨by repeat (first | (with_reducible first | exact HB.out | apply below_alloc | apply pw_below_drewN | apply below_drew1 | refine below_set ?_ GE648.out | refine below_set ?_ GE653.out) | exact HB.out)⟩⟩
      · replace c12 := Bool.eq_false_iff.mpr c12
        subst c12
        have H1 : (impl_ReadGrid.j0 k t649 true ((rdOf ByteArray.empty t649 0).size : Int) (t649.length : Int)) = some (r1, r2, r3, r4) := by rw [if_neg (show ¬ (false = true) by decide)] at H; exact H
        clear H
        have H := H1
        clear H1
        have H' := Aside0.mk H
        clear H
        have hnb16 := NB653_648.out
        have hnc16 := NB648_653.out
        have hcz17_0 : w8.cell? ⟨gb653, 0, none⟩ = some (.int .i64 0) := (blk_cell BK653.out 0).trans rfl
        have hcz17_1 : w8.cell? ⟨gb653, 1, none⟩ = some (.int .i64 0) := (blk_cell BK653.out 1).trans rfl
        have hcz17_2 : w8.cell? ⟨gb653, 2, none⟩ = some (.slice none 0 0) := (blk_cell BK653.out 2).trans rfl
        have hfz17_0 := blk_frozen BK653.out 0
        have hfz17_1 := blk_frozen BK653.out 1
        have hfz17_2 := blk_frozen BK653.out 2
        go_wp2_with (first | ((with_reducible refine gate_callee (f := 119) rfl ?_); refine goesL_ (some 20) rfl rfl Try.func119 (by kernel_rfl) rfl #[.int .i64 ((rdOf ByteArray.empty t649 0).size : Int), .int .i64 1, .int .i64 12] rfl (by (try simp only [List.map_toArray, List.map_cons, List.map_nil]); first | done | rfl | (simp only [List.length_drop, List.length_take]; rfl)) ?_; (with_reducible refine (impl_within.calls ((rdOf ByteArray.empty t649 0).size : Int) 1 12 false _ A11.out).mono ?_); rintro e w' ⟨rfl, ⟨nd, rfl⟩⟩; refine ⟨_, rfl, ?_⟩))
        go_meet
        case rel => exact ⟨_, (true), (by first | rfl | (simp; done) | (simp [*]; done)), H', ⟨by first | omega | exact Nat.le_refl _⟩, ⟨by (with_reducible repeat (first | apply Kd.R_alloc | apply Kd.R_drewN | apply Kd.R_drew)); exact Kd.R_mono (Kd.R_far (p := ⟨gb653, 2, none⟩) (Kd.R_far (p := ⟨gb653, 1, none⟩) (Kd.R_far (p := ⟨gb653, 0, none⟩) (Kd.R_types HO651.out BK653.out (by decide)) (fun _ hk => hk.2) (.int .i64 ((rdOf ByteArray.empty t649 0).size : Int))) (fun _ hk => hk.2) (.int .i64 (t649.length : Int))) (fun _ hk => hk.2) (.slice none 0 0)) (fun _ hk => trivial)⟩, ⟨by (with_reducible repeat (first | refine blk_drewN ?_ _ | refine blk_drew ?_ | refine blk_alloc ?_ _)); refine blk_far ?_ NB648_653.out _; (with_reducible repeat (first | refine blk_drewN ?_ _ | refine blk_drew ?_ | refine blk_alloc ?_ _)); refine blk_far ?_ NB648_653.out _; (with_reducible repeat (first | refine blk_drewN ?_ _ | refine blk_drew ?_ | refine blk_alloc ?_ _)); refine blk_far ?_ NB648_653.out _; (with_reducible repeat (first | refine blk_drewN ?_ _ | refine blk_drew ?_ | refine blk_alloc ?_ _)); exact BK648.out⟩, ⟨by (with_reducible repeat (first | refine blk_drewN ?_ _ | refine blk_drew ?_ | refine blk_alloc ?_ _)); refine blk_put (cs := #[.int .i64 ((rdOf ByteArray.empty t649 0).size : Int), .int .i64 (t649.length : Int), .slice none 0 0]) ?_ 2 _ rfl; (with_reducible repeat (first | refine blk_drewN ?_ _ | refine blk_drew ?_ | refine blk_alloc ?_ _)); refine blk_put (cs := #[.int .i64 ((rdOf ByteArray.empty t649 0).size : Int), .int .i64 0, .slice none 0 0]) ?_ 1 _ rfl; (with_reducible repeat (first | refine blk_drewN ?_ _ | refine blk_drew ?_ | refine blk_alloc ?_ _)); refine blk_put (cs := #[.int .i64 0, .int .i64 0, .slice none 0 0]) ?_ 0 _ rfl; (with_reducible repeat (first | refine blk_drewN ?_ _ | refine blk_drew ?_ | refine blk_alloc ?_ _)); exact BK653.out⟩, ⟨by repeat (first | (with_reducible first | exact HB.out | apply below_alloc | apply pw_below_drewN | apply below_drew1 | refine below_set ?_ GE648.out | refine below_set ?_ GE653.out) | exact HB.out)⟩⟩
    case rest =>
      clear HC4
      try clear c1
      try clear p2
      try clear c3
      try clear c3b0
      try clear c3b1
      try clear c4
      try clear p6
      try clear q6
      try clear hx6
      try clear qi6
      try clear c9
      try clear c11
      try clear c12
      try clear c14
      try clear c16
      try clear hcz10_0
      try clear hcz10_1
      try clear hcz10_2
      try clear hcz15_0
      try clear hcz15_1
      try clear hcz15_2
      try clear hcz17_0
      try clear hcz17_1
      try clear hcz17_2
      try clear hfz10_0
      try clear hfz10_1
      try clear hfz10_2
      try clear hfz15_0
      try clear hfz15_1
      try clear hfz15_2
      try clear hfz17_0
      try clear hfz17_1
      try clear hfz17_2
      try clear hx652_0
      try clear p652
      try clear q652
      obtain ⟨kq, x27_3, rfl, HA, HJ3, HO_4, BK648, BK653, HB⟩ := hcut
      cases kq with
      | zero => exact absurd HA.out (by simp [impl_ReadGrid.j0])
      | succ kj3 =>
        have H := HA.out
        clear HA
        simp only [impl_ReadGrid.j0] at H
        by_cases c18 : x27_3 = true
        · subst c18
          have H1 : (some (0, 0, ([] : List Bool), 6)) = some (r1, r2, r3, r4) := by rw [if_pos rfl] at H; exact H
          clear H
          have H := H1
          clear H1
          simp only [Option.some.injEq, Prod.mk.injEq] at H
          obtain ⟨rfl, rfl, rfl, rfl⟩ := H
          have hnb19 := NB648_653.out
          have hnc19 := NB653_648.out
          have hcz20_0 : wc.cell? ⟨gb648, 0, none⟩ = some (.int .i64 0) := (blk_cell BK648.out 0).trans rfl
          have hcz20_1 : wc.cell? ⟨gb648, 1, none⟩ = some (.int .i64 0) := (blk_cell BK648.out 1).trans rfl
          have hcz20_2 : wc.cell? ⟨gb648, 2, none⟩ = some (.slice none 0 0) := (blk_cell BK648.out 2).trans rfl
          have hfz20_0 := blk_frozen BK648.out 0
          have hfz20_1 := blk_frozen BK648.out 1
          have hfz20_2 := blk_frozen BK648.out 2
          go_wp2
          refine bodyPost_ret (results_ct rfl _ _ gb648 57 #[.int .i64 0, .int .i64 0, .slice none 0 0] (0, 0) _ rfl (by (with_reducible repeat (first | refine blk_drewN ?_ _ | refine blk_drew ?_ | refine blk_alloc ?_ _)); refine blk_put (cs := #[.int .i64 0, .int .i64 0, .slice none 0 0]) ?_ 2 _ rfl; (with_reducible repeat (first | refine blk_drewN ?_ _ | refine blk_drew ?_ | refine blk_alloc ?_ _)); refine blk_put (cs := #[.int .i64 0, .int .i64 0, .slice none 0 0]) ?_ 1 _ rfl; (with_reducible repeat (first | refine blk_drewN ?_ _ | refine blk_drew ?_ | refine blk_alloc ?_ _)); refine blk_put (cs := #[.int .i64 0, .int .i64 0, .slice none 0 0]) ?_ 0 _ rfl; (with_reducible repeat (first | refine blk_drewN ?_ _ | refine blk_drew ?_ | refine blk_alloc ?_ _)); exact BK648.out) Try.underlying57 rfl (by kernel_rfl)) rfl ?_
          exact ⟨_, by first | rfl | (simp [errW_none, errW_some] <;> rfl) | (simp [*, errW_none, errW_some] <;> rfl), by first | exact Kd.R_nil _ _ _ _ _ | exact Kd.N_nil _ _ _ _ _ | exact Kd.V_nil _ _ _ _ _ | exact Kd.Q_nil _ _ _ _ _ | exact Kd.S_nil _ _ _ _ _, by repeat (first | (with_reducible first | exact HB.out | apply below_alloc | apply pw_below_drewN | apply below_drew1 | refine below_set ?_ GE648.out | refine below_set ?_ GE653.out) | exact HB.out)⟩
        · replace c18 := Bool.eq_false_iff.mpr c18
          subst c18
          have H1 : (impl_ReadGrid.l0 kj3 t649 (t649.length : Int) 0 ((rdOf ByteArray.empty t649 0).size : Int) (t649.length : Int) ([] : List Bool)) = some (r1, r2, r3, r4) := by rw [if_neg (show ¬ (false = true) by decide)] at H; exact H
          clear H
          have H := H1
          clear H1
          have H' := Aside0.mk H
          clear H
          go_wp2
          go_loopg [31] kj3 (fun kq v31 w' => ∃ (x31_2 : Int) (x649000_2 : Int) (x649001_2 : Int) (x654002_2 : List Bool) (u654002 : Value), v31 = .int .i64 x31_2 ∧ Aside0 (impl_ReadGrid.l0 kq t649 (t649.length : Int) x31_2 ((rdOf ByteArray.empty t649 0).size : Int) (t649.length : Int) x654002_2 = some (r1, r2, r3, r4)) ∧ Aside0 (kq ≤ kj3) ∧ Aside0 (Kd.R Kd.string 9 w' w.heap.size (fun _ => True) (.slice (some ad652) t649.length co7) t649) ∧ Aside0 (Kd.R Kd.bool 4 w' w.heap.size (fun _ => True) u654002 x654002_2) ∧ Aside0 (w'.heap[gb648]? = some (.cells #[.int .i64 x649000_2, .int .i64 x649001_2, (.slice none 0 0)] 57 (0, 0))) ∧ Aside0 (w'.heap[gb653]? = some (.cells #[.int .i64 ((rdOf ByteArray.empty t649 0).size : Int), .int .i64 (t649.length : Int), u654002] 57 (0, 0))) ∧ Aside0 (Below w.heap.size w w'))
          case atStart => exact ⟨(0), (0), (0), (([] : List Bool)), (.slice none 0 0), (by first | rfl | (simp; done) | (simp [*]; done)), H', ⟨Nat.le_refl _⟩, ⟨by (with_reducible repeat (first | apply Kd.R_alloc | apply Kd.R_drewN | apply Kd.R_drew)); exact HO_4.out⟩, ⟨by first | exact Kd.R_nil _ _ _ _ _ | exact Kd.N_nil _ _ _ _ _ | exact Kd.V_nil _ _ _ _ _ | exact Kd.Q_nil _ _ _ _ _ | exact Kd.S_nil _ _ _ _ _⟩, ⟨by (with_reducible repeat (first | refine blk_drewN ?_ _ | refine blk_drew ?_ | refine blk_alloc ?_ _)); exact BK648.out⟩, ⟨by (with_reducible repeat (first | refine blk_drewN ?_ _ | refine blk_drew ?_ | refine blk_alloc ?_ _)); exact BK653.out⟩, ⟨by repeat (first | (with_reducible first | exact HB.out | apply below_alloc | apply pw_below_drewN | apply below_drew1 | refine below_set ?_ GE648.out | refine below_set ?_ GE653.out) | exact HB.out)⟩⟩
          case round =>
            clear H'
            try clear c1
            try clear p2
            try clear c3
            try clear c3b0
            try clear c3b1
            try clear c4
            try clear p6
            try clear q6
            try clear hx6
            try clear qi6
            try clear c9
            try clear c11
            try clear c12
            try clear c14
            try clear c16
            try clear c18
            try clear c19
            try clear hcz10_0
            try clear hcz10_1
            try clear hcz10_2
            try clear hcz15_0
            try clear hcz15_1
            try clear hcz15_2
            try clear hcz17_0
            try clear hcz17_1
            try clear hcz17_2
            try clear hcz20_0
            try clear hcz20_1
            try clear hcz20_2
            try clear hfz10_0
            try clear hfz10_1
            try clear hfz10_2
            try clear hfz15_0
            try clear hfz15_1
            try clear hfz15_2
            try clear hfz17_0
            try clear hfz17_1
            try clear hfz17_2
            try clear hfz20_0
            try clear hfz20_1
            try clear hfz20_2
            try clear hx652_0
            try clear p2
            try clear p6
            try clear p652
            try clear q6
            try clear q652
            obtain ⟨x31_2, x649000_2, x649001_2, x654002_2, u654002, rfl, HA, HK2, HO_29, HO_654002, BK648, BK653, HB⟩ := hrel
            cases gk with
            | zero => exact absurd HA.out (by simp [impl_ReadGrid.l0])
            | succ k2 =>
              have H := HA.out
              clear HA
              simp only [impl_ReadGrid.l0] at H
              by_cases c21 : x31_2 < (t649.length : Int)
              · rw [if_pos c21] at H
                have c21b0 : decide (x31_2 < (t649.length : Int)) = true := decide_eq_true c21
                clear c21
                by_cases c22 : 0 ≤ x31_2
                · rw [if_pos c22] at H
                  have c22b0 : decide (0 ≤ x31_2) = true := decide_eq_true c22
                  clear c22
                  by_cases c23 : x31_2 < (t649.length : Int)
                  · rw [if_pos c23] at H
                    have c23b0 : decide (x31_2 < (t649.length : Int)) = true := decide_eq_true c23
                    clear c23
                    by_cases c24 : ((rdOf ByteArray.empty t649 x31_2).size : Int) = ((rdOf ByteArray.empty t649 0).size : Int)
                    · rw [if_pos c24] at H
                      have c24b0 : (((rdOf ByteArray.empty t649 x31_2).size : Int) == ((rdOf ByteArray.empty t649 0).size : Int)) = true := beq_iff_eq.mpr c24
                      have c24b1 : (((rdOf ByteArray.empty t649 x31_2).size : Int) != ((rdOf ByteArray.empty t649 0).size : Int)) = false := bne_eq_false_iff_eq.mpr c24
                      have c24b2 : ((rdOf ByteArray.empty t649 x31_2).size == (rdOf ByteArray.empty t649 0).size) = true := by first | simpa using c24 | (simp at c24 ⊢; omega)
                      clear c24
                      have H' := Aside0.mk H
                      clear H
                      have p656 : 0 ≤ (x31_2 : Int) := of_decide_eq_true (by first | (with_reducible assumption) | assumption)
                      have q656 : x31_2 < (t649.length : Int) := of_decide_eq_true (by first | (with_reducible assumption) | assumption)
                      obtain ⟨ad656, e656, hx656_0⟩ := Kd.at_string (Kd.R_reads' HO_29.out).2.2 x31_2 p656 q656
                      obtain rfl : ad652 = ad656 := (by injection e656)
                      replace p656 := eq_true p656
                      replace q656 := eq_true q656
                      have hnb25 := NB653_648.out
                      have hnc25 := NB648_653.out
                      have hcz26_0 : wr.cell? ⟨gb653, 0, none⟩ = some (.int .i64 ((rdOf ByteArray.empty t649 0).size : Int)) := (blk_cell BK653.out 0).trans rfl
                      have hcz26_1 : wr.cell? ⟨gb653, 1, none⟩ = some (.int .i64 (t649.length : Int)) := (blk_cell BK653.out 1).trans rfl
                      have hcz26_2 : wr.cell? ⟨gb653, 2, none⟩ = some (u654002) := (blk_cell BK653.out 2).trans rfl
                      have hfz26_0 := blk_frozen BK653.out 0
                      have hfz26_1 := blk_frozen BK653.out 1
                      have hfz26_2 := blk_frozen BK653.out 2
                      go_wp2
                      go_loopg [8] k2 (fun kq v8 w' => ∃ (x8_3 : Int) (x649000_3 : Int) (x649001_3 : Int) (x654002_3 : List Bool) (u654002 : Value), v8 = .int .i64 x8_3 ∧ Aside0 (impl_ReadGrid.l1 kq (rdOf ByteArray.empty t649 x31_2) x8_3 t649 (t649.length : Int) x31_2 ((rdOf ByteArray.empty t649 0).size : Int) (t649.length : Int) x654002_3 = some (r1, r2, r3, r4)) ∧ Aside0 (kq ≤ k2) ∧ Aside0 (Kd.R Kd.string 9 w' w.heap.size (fun _ => True) (.slice (some ad652) t649.length co7) t649) ∧ Aside0 (Kd.R Kd.bool 4 w' w.heap.size (fun _ => True) u654002 x654002_3) ∧ Aside0 (w'.heap[gb648]? = some (.cells #[.int .i64 x649000_3, .int .i64 x649001_3, (.slice none 0 0)] 57 (0, 0))) ∧ Aside0 (w'.heap[gb653]? = some (.cells #[.int .i64 ((rdOf ByteArray.empty t649 0).size : Int), .int .i64 (t649.length : Int), u654002] 57 (0, 0))) ∧ Aside0 (Below w.heap.size w w'))
                      case atStart => exact ⟨(0), (x649000_2), (x649001_2), (x654002_2), (u654002), (by first | rfl | (simp; done) | (simp [*]; done)), H', ⟨Nat.le_refl _⟩, ⟨by (with_reducible repeat (first | apply Kd.R_alloc | apply Kd.R_drewN | apply Kd.R_drew)); exact HO_29.out⟩, ⟨by (with_reducible repeat (first | apply Kd.R_alloc | apply Kd.R_drewN | apply Kd.R_drew)); exact HO_654002.out⟩, ⟨by (with_reducible repeat (first | refine blk_drewN ?_ _ | refine blk_drew ?_ | refine blk_alloc ?_ _)); exact BK648.out⟩, ⟨by (with_reducible repeat (first | refine blk_drewN ?_ _ | refine blk_drew ?_ | refine blk_alloc ?_ _)); exact BK653.out⟩, ⟨by repeat (first | (with_reducible first | exact HB.out | apply below_alloc | apply pw_below_drewN | apply below_drew1 | refine below_set ?_ GE648.out | refine below_set ?_ GE653.out) | exact HB.out)⟩⟩
                      case round =>
                        clear H'
                        try clear c1
                        try clear c2
                        try clear p2
                        try clear c3
                        try clear c3b0
                        try clear c3b1
                        try clear c4
                        try clear p6
                        try clear q6
                        try clear hx6
                        try clear qi6
                        try clear c9
                        try clear c11
                        try clear c12
                        try clear c14
                        try clear c16
                        try clear c18
                        try clear c19
                        try clear c21
                        try clear c21b0
                        try clear c22
                        try clear c22b0
                        try clear c23
                        try clear c23b0
                        try clear c24
                        try clear c24b0
                        try clear c24b1
                        try clear c24b2
                        try clear c25
                        try clear hcz10_0
                        try clear hcz10_1
                        try clear hcz10_2
                        try clear hcz15_0
                        try clear hcz15_1
                        try clear hcz15_2
                        try clear hcz17_0
                        try clear hcz17_1
                        try clear hcz17_2
                        try clear hcz20_0
                        try clear hcz20_1
                        try clear hcz20_2
                        try clear hcz26_0
                        try clear hcz26_1
                        try clear hcz26_2
                        try clear hfz10_0
                        try clear hfz10_1
                        try clear hfz10_2
                        try clear hfz15_0
                        try clear hfz15_1
                        try clear hfz15_2
                        try clear hfz17_0
                        try clear hfz17_1
                        try clear hfz17_2
                        try clear hfz20_0
                        try clear hfz20_1
                        try clear hfz20_2
                        try clear hfz26_0
                        try clear hfz26_1
                        try clear hfz26_2
                        try clear hx652_0
                        try clear hx656_0
                        try clear p2
                        try clear p6
                        try clear p652
                        try clear p656
                        try clear q6
                        try clear q652
                        try clear q656
                        obtain ⟨x8_3, x649000_3, x649001_3, x654002_3, u654002, rfl, HA, HK3, HO_29, HO_654002, BK648, BK653, HB⟩ := hrel
                        cases gk with
                        | zero => exact absurd HA.out (by simp [impl_ReadGrid.l1])
                        | succ k3 =>
                          have H := HA.out
                          clear HA
                          simp only [impl_ReadGrid.l1] at H
                          by_cases c27 : x8_3 < ((rdOf ByteArray.empty t649 x31_2).size : Int)
                          · rw [if_pos c27] at H
                            have c27b0 : decide (x8_3 < ((rdOf ByteArray.empty t649 x31_2).size : Int)) = true := decide_eq_true c27
                            clear c27
                            by_cases c28 : 0 ≤ x8_3
                            · rw [if_pos c28] at H
                              have c28b0 : decide (0 ≤ x8_3) = true := decide_eq_true c28
                              clear c28
                              by_cases c30 : (bt (rdOf ByteArray.empty t649 x31_2) x8_3) = 35
                              · rw [if_pos c30] at H
                                have c30b0 : ((bt (rdOf ByteArray.empty t649 x31_2) x8_3) == 35) = true := beq_iff_eq.mpr c30
                                have c30b1 : ((bt (rdOf ByteArray.empty t649 x31_2) x8_3) != 35) = false := bne_eq_false_iff_eq.mpr c30
                                clear c30
                                by_cases c32 : x654002_3.length < 140737488355328
                                · rw [if_pos c32] at H
                                  have LMc32 := Aside0.mk c32
                                  clear c32
                                  replace H : (impl_ReadGrid.l1 k3 (rdOf ByteArray.empty t649 x31_2) (wrap64 (x8_3 + 1)) t649 (t649.length : Int) x31_2 ((rdOf ByteArray.empty t649 0).size : Int) (t649.length : Int) (x654002_3 ++ [true])) = some (r1, r2, r3, r4) := by rw [c30b0] at H; exact H
                                  obtain ⟨y657, hy657⟩ : ∃ y_ : List Bool, y_ = (x654002_3 ++ [true]) := ⟨_, rfl⟩
                                  replace H : (impl_ReadGrid.l1 k3 (rdOf ByteArray.empty t649 x31_2) (wrap64 (x8_3 + 1)) t649 (t649.length : Int) x31_2 ((rdOf ByteArray.empty t649 0).size : Int) (t649.length : Int) y657) = some (r1, r2, r3, r4) := by first | (rw [hy657]; with_reducible exact H) | (have H2_ := (Option.bind_some _ _).symm.trans H; rw [hy657]; with_reducible exact H2_) | (have H2_ := (Option.bind_some _ _).symm.trans H; with_reducible exact H2_) | with_reducible exact H | (rw [hy657]; exact H) | exact H
                                  have Ny657 := Aside0.mk hy657
                                  clear hy657
                                  have H' := Aside0.mk H
                                  clear H
                                  have p29 : 0 ≤ (x8_3 : Int) := of_decide_eq_true (by first | (with_reducible assumption) | assumption)
                                  have q29 : x8_3 < ((rdOf ByteArray.empty t649 x31_2).size : Int) := of_decide_eq_true (by first | (with_reducible assumption) | assumption)
                                  have hx29 := bt_at (rdOf ByteArray.empty t649 x31_2) x8_3
                                  replace p29 := eq_true p29
                                  replace q29 := eq_true q29
                                  try go_wp2
                                  have n0_ := Aside0.mk (Kd.R_drew HO_29.out)
                                  have n1_ := Aside0.mk (Kd.R_drew HO_654002.out)
                                  have n2_ := Aside0.mk (blk_drew BK648.out)
                                  have n3_ := Aside0.mk (blk_drew BK653.out)
                                  have n4_ := Aside0.mk (below_drew1 HB.out)
                                  clear HO_29
                                  clear HO_654002
                                  clear BK648
                                  clear BK653
                                  clear HB
                                  have HO_29 := n0_
                                  have HO_654002 := n1_
                                  have BK648 := n2_
                                  have BK653 := n3_
                                  have HB := n4_
                                  clear n0_ n1_ n2_ n3_ n4_
                                  have p31 : 0 ≤ (x8_3 : Int) := of_decide_eq_true (by first | (with_reducible assumption) | assumption)
                                  have q31 : x8_3 < ((rdOf ByteArray.empty t649 x31_2).size : Int) := of_decide_eq_true (by first | (with_reducible assumption) | assumption)
                                  have hx31 := bt_at (rdOf ByteArray.empty t649 x31_2) x8_3
                                  replace p31 := eq_true p31
                                  replace q31 := eq_true q31
                                  refine start_ (n := 10) (S := fun w' => w'.cell? ⟨gb653, 0, none⟩ = some (.int .i64 ((rdOf ByteArray.empty t649 0).size : Int)) ∧ w'.cell? ⟨gb653, 1, none⟩ = some (.int .i64 (t649.length : Int)) ∧ w'.cell? ⟨gb653, 2, none⟩ = some (u654002)) (ds := [9]) #[false, false, false, false, false, false, false, false, false, false] (by kernel_rfl) rfl rfl ⟨(blk_cell BK653.out 0).trans rfl, (blk_cell BK653.out 1).trans rfl, (blk_cell BK653.out 2).trans rfl⟩ (fun hHeld => ?_); refine with_tabW impl_ReadGrid.tab15 impl_ReadGrid.bits15 (fun HT_ HW_ => ?_)
                                  generalize wr.drew = w33 at HO_29 HO_654002 BK648 BK653 HB hHeld ⊢
                                  refine pure_ (i := 0) (N := some 58) (v := ?_) (a' := ?_) #[true, false, false, false, false, false, false, false, false, false] rfl rfl (any_of HT_.out (by kernel_rfl)) (fun _ _ _ h => h) (Or.inl ⟨by rfl, ?_⟩) ?_ ?_
                                  rotate_left
                                  · intro w'
                                    go_simp
                                    with_reducible rfl
                                  rotate_left
                                  · simp only [Act.put, List.setIfInBounds_toArray, List.set_cons_zero, List.set_cons_succ, i64_w, i32_w]
                                    rfl
                                  refine pure_ (i := 2) (N := some 60) (v := ?_) (a' := ?_) #[true, false, true, false, false, false, false, false, false, false] rfl rfl (any_of HT_.out (by kernel_rfl)) (fun _ _ _ h => h) (Or.inl ⟨by rfl, ?_⟩) ?_ ?_
                                  rotate_left
                                  · intro w'
                                    go_simp
                                    with_reducible rfl
                                  rotate_left
                                  · simp only [Act.put, List.setIfInBounds_toArray, List.set_cons_zero, List.set_cons_succ, i64_w, i32_w]
                                    rfl
                                  refine pure_ (i := 3) (N := some 61) (v := ?_) (a' := ?_) #[true, false, true, true, false, false, false, false, false, false] rfl rfl (any_of HT_.out (by kernel_rfl)) (fun _ _ _ h => h) (Or.inl ⟨by rfl, ?_⟩) ?_ ?_
                                  rotate_left
                                  · intro w'
                                    go_simp
                                    with_reducible rfl
                                  rotate_left
                                  · simp only [Act.put, List.setIfInBounds_toArray, List.set_cons_zero, List.set_cons_succ, i64_w, i32_w]
                                    rfl
                                  refine take_ (i := 1) (N := some 59) (v := ?_) (a' := ?_) #[true, true, true, true, false, false, false, false, false, false] rfl rfl (take_ofW HT_.out HW_.out (by kernel_rfl)) (fun _ _ _ h => h) (Or.inl ⟨by rfl, ?_⟩) hHeld ?_ ?_
                                  rotate_left
                                  · rintro w' ⟨s0, s1, s2⟩
                                    go_simp
                                    with_reducible rfl
                                  rotate_left
                                  · simp only [Act.put, List.setIfInBounds_toArray, List.set_cons_zero, List.set_cons_succ, i64_w, i32_w]
                                    rfl
                                  refine take_ (i := 4) (N := some 62) (v := ?_) (a' := ?_) #[true, true, true, true, true, false, false, false, false, false] rfl rfl (take_ofW HT_.out HW_.out (by kernel_rfl)) (fun _ _ _ h => h) (Or.inl ⟨by rfl, ?_⟩) hHeld ?_ ?_
                                  rotate_left
                                  · rintro w' ⟨s0, s1, s2⟩
                                    go_simp
                                    with_reducible rfl
                                  rotate_left
                                  · simp only [Act.put, List.setIfInBounds_toArray, List.set_cons_zero, List.set_cons_succ, i64_w, i32_w]
                                    rfl
                                  refine pure_ (i := 5) (N := some 63) (v := ?_) (a' := ?_) #[true, true, true, true, true, true, false, false, false, false] rfl rfl (any_of HT_.out (by kernel_rfl)) (fun _ _ _ h => h) (Or.inl ⟨by rfl, ?_⟩) ?_ ?_
                                  rotate_left
                                  · intro w'
                                    go_simp
                                    with_reducible rfl
                                  rotate_left
                                  · simp only [Act.put, List.setIfInBounds_toArray, List.set_cons_zero, List.set_cons_succ, i64_w, i32_w]
                                    rfl
                                  refine one_ (i := 6) (N := some 64) #[true, true, true, true, true, true, true, false, false, false] rfl rfl (one_of HT_.out (by kernel_rfl)) (by decide) (fun K hK => ?_)
                                  refine value_ (w1 := ?_) (v := ?_) (by rfl) rfl ?_ ?_
                                  rotate_left 2
                                  · go_simp
                                    constructor
                                    · rfl
                                    · rfl
                                  refine hK.out _ _ ⟨(blk_cell (blk_alloc BK653.out _) 0).trans rfl, (blk_cell (blk_alloc BK653.out _) 1).trans rfl, (blk_cell (blk_alloc BK653.out _) 2).trans rfl⟩ (fun hHeld => ?_)
                                  clear hK K
                                  refine norm_ (a' := ?_) ?_ ?_
                                  rotate_left
                                  · show Act.put _ (some 64) _ = _
                                    simp only [Act.put, List.setIfInBounds_toArray, List.set_cons_zero, List.set_cons_succ, i64_w, i32_w]
                                    rfl
                                  refine one_ (i := 7) (N := some 65) #[true, true, true, true, true, true, true, true, false, false] rfl rfl (one_of HT_.out (by kernel_rfl)) (by decide) (fun K hK => ?_)
                                  refine Kd.R_append_step Kd.bool (w0 := w) w.heap.size (by rfl) (.tmp 59) (.tmp 64) 55 4 (.bool false) 1 rfl Try.underlying55 info4 rfl (by decide) (by omega) u654002 x654002_3 true [.bool true] (fun _ => True) (fun _ => False) rfl rfl ?aP (fun _ hk => hk.elim) ?aF ?aO ?aB ?aS ?aL ?_
                                  (case aP => exact rfl)
                                  (case aB => exact (by repeat (first | (with_reducible first | exact HB.out | apply below_alloc | apply pw_below_drewN | apply below_drew1 | refine below_set ?_ GE648.out | refine below_set ?_ GE653.out) | exact HB.out)))
                                  (case aF => exact (fun _ _ => trivial))
                                  (case aO => exact (by (with_reducible repeat (first | apply Kd.R_alloc | apply Kd.R_drewN | apply Kd.R_drew)); exact HO_654002.out))
                                  (case aS => exact (below_size (by repeat (first | (with_reducible first | exact HB.out | apply below_alloc | apply pw_below_drewN | apply below_drew1 | refine below_set ?_ GE648.out | refine below_set ?_ GE653.out) | exact HB.out))))
                                  (case aL => have := LMc32.out; omega)
                                  intro v658 w34 ho hb hg hat
                                  rw [← Ny657.out] at ho
                                  have n0_ := Aside0.mk (Kd.R_over' (by (with_reducible repeat (first | apply Kd.R_alloc | apply Kd.R_drewN | apply Kd.R_drew)); exact HO_29.out) (Kd.R_typed (by (with_reducible repeat (first | apply Kd.R_alloc | apply Kd.R_drewN | apply Kd.R_drew)); exact HO_654002.out)) (by decide) hg)
                                  have n1_ := Aside0.mk (blk_grown (g := gb648) (o := .cells #[.int .i64 x649000_3, .int .i64 x649001_3, .slice none 0 0] 57 (0, 0)) (by (with_reducible repeat (first | refine blk_drewN ?_ _ | refine blk_drew ?_ | refine blk_alloc ?_ _)); exact BK648.out) hg (Kd.R_ne HO_654002.out BK648.out (by decide)))
                                  have n2_ := Aside0.mk (blk_grown (g := gb653) (o := .cells #[.int .i64 ((rdOf ByteArray.empty t649 0).size : Int), .int .i64 (t649.length : Int), u654002] 57 (0, 0)) (by (with_reducible repeat (first | refine blk_drewN ?_ _ | refine blk_drew ?_ | refine blk_alloc ?_ _)); exact BK653.out) hg (Kd.R_ne HO_654002.out BK653.out (by decide)))
                                  have n3_ := Aside0.mk (hb)
                                  have n4_ := Aside0.mk (ho)
                                  clear HO_29
                                  clear BK648
                                  clear BK653
                                  clear HB
                                  clear HO_654002
                                  have HO_29 := n0_
                                  have BK648 := n1_
                                  have BK653 := n2_
                                  have HB := n3_
                                  have HO659 := n4_
                                  clear n0_ n1_ n2_ n3_ n4_
                                  clear ho hb hg hat
                                  obtain ⟨Ao35, co35, eo35⟩ := Kd.R_slice HO659.out
                                  (first | subst eo35 | (injection eo35 with f1_ f2_ f3_; have f4_ := f1_.symm; have f5_ := f3_.symm; clear f1_ f2_ f3_; subst f4_; subst f5_))
                                  refine hK.out _ _ ⟨(blk_cell BK653.out 0).trans rfl, (blk_cell BK653.out 1).trans rfl, (blk_cell BK653.out 2).trans rfl⟩ (fun hHeld => ?_)
                                  clear hK K
                                  refine norm_ (a' := ?_) ?_ ?_
                                  rotate_left
                                  · show Act.put _ (some 65) _ = _
                                    simp only [Act.put, List.setIfInBounds_toArray, List.set_cons_zero, List.set_cons_succ, i64_w, i32_w]
                                    rfl
                                  refine pure_ (i := 8) (N := some 66) (v := ?_) (a' := ?_) #[true, true, true, true, true, true, true, true, true, false] rfl rfl (any_of HT_.out (by kernel_rfl)) (fun _ _ _ h => h) (Or.inl ⟨by rfl, ?_⟩) ?_ ?_
                                  rotate_left
                                  · intro w'
                                    go_simp
                                    with_reducible rfl
                                  rotate_left
                                  · simp only [Act.put, List.setIfInBounds_toArray, List.set_cons_zero, List.set_cons_succ, i64_w, i32_w]
                                    rfl
                                  refine last_ (i := 9) (N := none) #[true, true, true, true, true, true, true, true, true, true] rfl rfl (one_of HT_.out (by kernel_rfl)) (by decide) (fun K hK => ?_)
                                  have hs36 : w34.cell? ⟨gb653, 2, none⟩ = some (u654002) := (blk_cell BK653.out 2).trans rfl
                                  have hfs36 := blk_frozen BK653.out 2
                                  have hns36_0 := NB648_653.out
                                  have hms36_0 := NB653_648.out
                                  refine skip_ (w1 := ?_) (by rfl) rfl ?_ ?_
                                  rotate_left
                                  · go_simp
                                    rfl
                                  refine hK.out _ _ ?_
                                  clear hK K
                                  refine done_ (done_of HT_.out (by kernel_rfl)) ?_
                                  try go_wp2
                                  go_roundg k3
                                  case measure => have := HJ3.out; have := HK2.out; have := HK3.out; omega
                                  case rel => exact ⟨(wrap64 (x8_3 + 1)), (x649000_3), (x649001_3), (y657), (.slice Ao35 y657.length co35), (by first | rfl | (simp; done) | (simp [*]; done)), H', ⟨by have := HJ3.out; have := HK2.out; have := HK3.out; omega⟩, ⟨by (with_reducible repeat (first | apply Kd.R_alloc | apply Kd.R_drewN | apply Kd.R_drew)); exact Kd.R_mono (Kd.R_far (p := ⟨gb653, 2, none⟩) (Kd.R_types HO_29.out BK653.out (by decide)) (fun _ hk => hk.2) (.slice Ao35 y657.length co35)) (fun _ hk => trivial)⟩, ⟨by (with_reducible repeat (first | apply Kd.R_alloc | apply Kd.R_drewN | apply Kd.R_drew)); exact Kd.R_mono (Kd.R_far (p := ⟨gb653, 2, none⟩) (Kd.R_types HO659.out BK653.out (by decide)) (fun _ hk => hk.2) (.slice Ao35 y657.length co35)) (fun _ hk => trivial)⟩, ⟨by (with_reducible repeat (first | refine blk_drewN ?_ _ | refine blk_drew ?_ | refine blk_alloc ?_ _)); refine blk_far ?_ NB648_653.out _; (with_reducible repeat (first | refine blk_drewN ?_ _ | refine blk_drew ?_ | refine blk_alloc ?_ _)); exact BK648.out⟩, ⟨by (with_reducible repeat (first | refine blk_drewN ?_ _ | refine blk_drew ?_ | refine blk_alloc ?_ _)); refine blk_put (cs := #[.int .i64 ((rdOf ByteArray.empty t649 0).size : Int), .int .i64 (t649.length : Int), u654002]) ?_ 2 _ rfl; (with_reducible repeat (first | refine blk_drewN ?_ _ | refine blk_drew ?_ | refine blk_alloc ?_ _)); exact BK653.out⟩, ⟨by repeat (first | (with_reducible first | exact HB.out | apply below_alloc | apply pw_below_drewN | apply below_drew1 | refine below_set ?_ GE648.out | refine below_set ?_ GE653.out) | exact HB.out)⟩⟩
                                · rw [if_neg c32] at H
                                  exact absurd H (by simp)
                              · rw [if_neg c30] at H
                                have c30b0 : ((bt (rdOf ByteArray.empty t649 x31_2) x8_3) == 35) = false := beq_eq_false_iff_ne.mpr c30
                                have c30b1 : ((bt (rdOf ByteArray.empty t649 x31_2) x8_3) != 35) = true := bne_iff_ne.mpr c30
                                by_cases c38 : (bt (rdOf ByteArray.empty t649 x31_2) x8_3) = 46
                                · rw [if_pos c38] at H
                                  have c38b0 : ((bt (rdOf ByteArray.empty t649 x31_2) x8_3) == 46) = true := beq_iff_eq.mpr c38
                                  have c38b1 : ((bt (rdOf ByteArray.empty t649 x31_2) x8_3) != 46) = false := bne_eq_false_iff_eq.mpr c38
                                  clear c38
                                  by_cases c40 : x654002_3.length < 140737488355328
                                  · rw [if_pos c40] at H
                                    have LMc40 := Aside0.mk c40
                                    clear c40
                                    replace H : (impl_ReadGrid.l1 k3 (rdOf ByteArray.empty t649 x31_2) (wrap64 (x8_3 + 1)) t649 (t649.length : Int) x31_2 ((rdOf ByteArray.empty t649 0).size : Int) (t649.length : Int) (x654002_3 ++ [false])) = some (r1, r2, r3, r4) := by rw [c30b0] at H; exact H
                                    obtain ⟨y660, hy660⟩ : ∃ y_ : List Bool, y_ = (x654002_3 ++ [false]) := ⟨_, rfl⟩
                                    replace H : (impl_ReadGrid.l1 k3 (rdOf ByteArray.empty t649 x31_2) (wrap64 (x8_3 + 1)) t649 (t649.length : Int) x31_2 ((rdOf ByteArray.empty t649 0).size : Int) (t649.length : Int) y660) = some (r1, r2, r3, r4) := by first | (rw [hy660]; with_reducible exact H) | (have H2_ := (Option.bind_some _ _).symm.trans H; rw [hy660]; with_reducible exact H2_) | (have H2_ := (Option.bind_some _ _).symm.trans H; with_reducible exact H2_) | with_reducible exact H | (rw [hy660]; exact H) | exact H
                                    have Ny660 := Aside0.mk hy660
                                    clear hy660
                                    have H' := Aside0.mk H
                                    clear H
                                    have p29 : 0 ≤ (x8_3 : Int) := of_decide_eq_true (by first | (with_reducible assumption) | assumption)
                                    have q29 : x8_3 < ((rdOf ByteArray.empty t649 x31_2).size : Int) := of_decide_eq_true (by first | (with_reducible assumption) | assumption)
                                    have hx29 := bt_at (rdOf ByteArray.empty t649 x31_2) x8_3
                                    replace p29 := eq_true p29
                                    replace q29 := eq_true q29
                                    have p37 : 0 ≤ (x8_3 : Int) := of_decide_eq_true (by first | (with_reducible assumption) | assumption)
                                    have q37 : x8_3 < ((rdOf ByteArray.empty t649 x31_2).size : Int) := of_decide_eq_true (by first | (with_reducible assumption) | assumption)
                                    have hx37 := bt_at (rdOf ByteArray.empty t649 x31_2) x8_3
                                    replace p37 := eq_true p37
                                    replace q37 := eq_true q37
                                    try go_wp2
                                    have n0_ := Aside0.mk (Kd.R_drew HO_29.out)
                                    have n1_ := Aside0.mk (Kd.R_drew HO_654002.out)
                                    have n2_ := Aside0.mk (blk_drew BK648.out)
                                    have n3_ := Aside0.mk (blk_drew BK653.out)
                                    have n4_ := Aside0.mk (below_drew1 HB.out)
                                    clear HO_29
                                    clear HO_654002
                                    clear BK648
                                    clear BK653
                                    clear HB
                                    have HO_29 := n0_
                                    have HO_654002 := n1_
                                    have BK648 := n2_
                                    have BK653 := n3_
                                    have HB := n4_
                                    clear n0_ n1_ n2_ n3_ n4_
                                    have p39 : 0 ≤ (x8_3 : Int) := of_decide_eq_true (by first | (with_reducible assumption) | assumption)
                                    have q39 : x8_3 < ((rdOf ByteArray.empty t649 x31_2).size : Int) := of_decide_eq_true (by first | (with_reducible assumption) | assumption)
                                    have hx39 := bt_at (rdOf ByteArray.empty t649 x31_2) x8_3
                                    replace p39 := eq_true p39
                                    replace q39 := eq_true q39
                                    refine start_ (n := 10) (S := fun w' => w'.cell? ⟨gb653, 0, none⟩ = some (.int .i64 ((rdOf ByteArray.empty t649 0).size : Int)) ∧ w'.cell? ⟨gb653, 1, none⟩ = some (.int .i64 (t649.length : Int)) ∧ w'.cell? ⟨gb653, 2, none⟩ = some (u654002)) (ds := [9]) #[false, false, false, false, false, false, false, false, false, false] (by kernel_rfl) rfl rfl ⟨(blk_cell BK653.out 0).trans rfl, (blk_cell BK653.out 1).trans rfl, (blk_cell BK653.out 2).trans rfl⟩ (fun hHeld => ?_); refine with_tabW impl_ReadGrid.tab15 impl_ReadGrid.bits15 (fun HT_ HW_ => ?_)
                                    generalize wr.drew = w41 at HO_29 HO_654002 BK648 BK653 HB hHeld ⊢
                                    refine pure_ (i := 0) (N := some 58) (v := ?_) (a' := ?_) #[true, false, false, false, false, false, false, false, false, false] rfl rfl (any_of HT_.out (by kernel_rfl)) (fun _ _ _ h => h) (Or.inl ⟨by rfl, ?_⟩) ?_ ?_
                                    rotate_left
                                    · intro w'
                                      go_simp
                                      with_reducible rfl
                                    rotate_left
                                    · simp only [Act.put, List.setIfInBounds_toArray, List.set_cons_zero, List.set_cons_succ, i64_w, i32_w]
                                      rfl
                                    refine pure_ (i := 2) (N := some 60) (v := ?_) (a' := ?_) #[true, false, true, false, false, false, false, false, false, false] rfl rfl (any_of HT_.out (by kernel_rfl)) (fun _ _ _ h => h) (Or.inl ⟨by rfl, ?_⟩) ?_ ?_
                                    rotate_left
                                    · intro w'
                                      go_simp
                                      with_reducible rfl
                                    rotate_left
                                    · simp only [Act.put, List.setIfInBounds_toArray, List.set_cons_zero, List.set_cons_succ, i64_w, i32_w]
                                      rfl
                                    refine pure_ (i := 3) (N := some 61) (v := ?_) (a' := ?_) #[true, false, true, true, false, false, false, false, false, false] rfl rfl (any_of HT_.out (by kernel_rfl)) (fun _ _ _ h => h) (Or.inl ⟨by rfl, ?_⟩) ?_ ?_
                                    rotate_left
                                    · intro w'
                                      go_simp
                                      with_reducible rfl
                                    rotate_left
                                    · simp only [Act.put, List.setIfInBounds_toArray, List.set_cons_zero, List.set_cons_succ, i64_w, i32_w]
                                      rfl
                                    refine take_ (i := 1) (N := some 59) (v := ?_) (a' := ?_) #[true, true, true, true, false, false, false, false, false, false] rfl rfl (take_ofW HT_.out HW_.out (by kernel_rfl)) (fun _ _ _ h => h) (Or.inl ⟨by rfl, ?_⟩) hHeld ?_ ?_
                                    rotate_left
                                    · rintro w' ⟨s0, s1, s2⟩
                                      go_simp
                                      with_reducible rfl
                                    rotate_left
                                    · simp only [Act.put, List.setIfInBounds_toArray, List.set_cons_zero, List.set_cons_succ, i64_w, i32_w]
                                      rfl
                                    refine take_ (i := 4) (N := some 62) (v := ?_) (a' := ?_) #[true, true, true, true, true, false, false, false, false, false] rfl rfl (take_ofW HT_.out HW_.out (by kernel_rfl)) (fun _ _ _ h => h) (Or.inl ⟨by rfl, ?_⟩) hHeld ?_ ?_
                                    rotate_left
                                    · rintro w' ⟨s0, s1, s2⟩
                                      go_simp
                                      with_reducible rfl
                                    rotate_left
                                    · simp only [Act.put, List.setIfInBounds_toArray, List.set_cons_zero, List.set_cons_succ, i64_w, i32_w]
                                      rfl
                                    refine pure_ (i := 5) (N := some 63) (v := ?_) (a' := ?_) #[true, true, true, true, true, true, false, false, false, false] rfl rfl (any_of HT_.out (by kernel_rfl)) (fun _ _ _ h => h) (Or.inl ⟨by rfl, ?_⟩) ?_ ?_
                                    rotate_left
                                    · intro w'
                                      go_simp
                                      with_reducible rfl
                                    rotate_left
                                    · simp only [Act.put, List.setIfInBounds_toArray, List.set_cons_zero, List.set_cons_succ, i64_w, i32_w]
                                      rfl
                                    refine one_ (i := 6) (N := some 64) #[true, true, true, true, true, true, true, false, false, false] rfl rfl (one_of HT_.out (by kernel_rfl)) (by decide) (fun K hK => ?_)
                                    refine value_ (w1 := ?_) (v := ?_) (by rfl) rfl ?_ ?_
                                    rotate_left 2
                                    · go_simp
                                      constructor
                                      · rfl
                                      · rfl
                                    refine hK.out _ _ ⟨(blk_cell (blk_alloc BK653.out _) 0).trans rfl, (blk_cell (blk_alloc BK653.out _) 1).trans rfl, (blk_cell (blk_alloc BK653.out _) 2).trans rfl⟩ (fun hHeld => ?_)
                                    clear hK K
                                    refine norm_ (a' := ?_) ?_ ?_
                                    rotate_left
                                    · show Act.put _ (some 64) _ = _
                                      simp only [Act.put, List.setIfInBounds_toArray, List.set_cons_zero, List.set_cons_succ, i64_w, i32_w]
                                      rfl
                                    refine one_ (i := 7) (N := some 65) #[true, true, true, true, true, true, true, true, false, false] rfl rfl (one_of HT_.out (by kernel_rfl)) (by decide) (fun K hK => ?_)
                                    refine Kd.R_append_step Kd.bool (w0 := w) w.heap.size (by rfl) (.tmp 59) (.tmp 64) 55 4 (.bool false) 1 rfl Try.underlying55 info4 rfl (by decide) (by omega) u654002 x654002_3 false [.bool false] (fun _ => True) (fun _ => False) rfl rfl ?aP (fun _ hk => hk.elim) ?aF ?aO ?aB ?aS ?aL ?_
                                    (case aP => exact rfl)
                                    (case aB => exact (by repeat (first | (with_reducible first | exact HB.out | apply below_alloc | apply pw_below_drewN | apply below_drew1 | refine below_set ?_ GE648.out | refine below_set ?_ GE653.out) | exact HB.out)))
                                    (case aF => exact (fun _ _ => trivial))
                                    (case aO => exact (by (with_reducible repeat (first | apply Kd.R_alloc | apply Kd.R_drewN | apply Kd.R_drew)); exact HO_654002.out))
                                    (case aS => exact (below_size (by repeat (first | (with_reducible first | exact HB.out | apply below_alloc | apply pw_below_drewN | apply below_drew1 | refine below_set ?_ GE648.out | refine below_set ?_ GE653.out) | exact HB.out))))
                                    (case aL => have := LMc40.out; omega)
                                    intro v661 w42 ho hb hg hat
                                    rw [← Ny660.out] at ho
                                    have n0_ := Aside0.mk (Kd.R_over' (by (with_reducible repeat (first | apply Kd.R_alloc | apply Kd.R_drewN | apply Kd.R_drew)); exact HO_29.out) (Kd.R_typed (by (with_reducible repeat (first | apply Kd.R_alloc | apply Kd.R_drewN | apply Kd.R_drew)); exact HO_654002.out)) (by decide) hg)
                                    have n1_ := Aside0.mk (blk_grown (g := gb648) (o := .cells #[.int .i64 x649000_3, .int .i64 x649001_3, .slice none 0 0] 57 (0, 0)) (by (with_reducible repeat (first | refine blk_drewN ?_ _ | refine blk_drew ?_ | refine blk_alloc ?_ _)); exact BK648.out) hg (Kd.R_ne HO_654002.out BK648.out (by decide)))
                                    have n2_ := Aside0.mk (blk_grown (g := gb653) (o := .cells #[.int .i64 ((rdOf ByteArray.empty t649 0).size : Int), .int .i64 (t649.length : Int), u654002] 57 (0, 0)) (by (with_reducible repeat (first | refine blk_drewN ?_ _ | refine blk_drew ?_ | refine blk_alloc ?_ _)); exact BK653.out) hg (Kd.R_ne HO_654002.out BK653.out (by decide)))
                                    have n3_ := Aside0.mk (hb)
                                    have n4_ := Aside0.mk (ho)
                                    clear HO_29
                                    clear BK648
                                    clear BK653
                                    clear HB
                                    clear HO_654002
                                    have HO_29 := n0_
                                    have BK648 := n1_
                                    have BK653 := n2_
                                    have HB := n3_
                                    have HO662 := n4_
                                    clear n0_ n1_ n2_ n3_ n4_
                                    clear ho hb hg hat
                                    obtain ⟨Ao43, co43, eo43⟩ := Kd.R_slice HO662.out
                                    (first | subst eo43 | (injection eo43 with f1_ f2_ f3_; have f4_ := f1_.symm; have f5_ := f3_.symm; clear f1_ f2_ f3_; subst f4_; subst f5_))
                                    refine hK.out _ _ ⟨(blk_cell BK653.out 0).trans rfl, (blk_cell BK653.out 1).trans rfl, (blk_cell BK653.out 2).trans rfl⟩ (fun hHeld => ?_)
                                    clear hK K
                                    refine norm_ (a' := ?_) ?_ ?_
                                    rotate_left
                                    · show Act.put _ (some 65) _ = _
                                      simp only [Act.put, List.setIfInBounds_toArray, List.set_cons_zero, List.set_cons_succ, i64_w, i32_w]
                                      rfl
                                    refine pure_ (i := 8) (N := some 66) (v := ?_) (a' := ?_) #[true, true, true, true, true, true, true, true, true, false] rfl rfl (any_of HT_.out (by kernel_rfl)) (fun _ _ _ h => h) (Or.inl ⟨by rfl, ?_⟩) ?_ ?_
                                    rotate_left
                                    · intro w'
                                      go_simp
                                      with_reducible rfl
                                    rotate_left
                                    · simp only [Act.put, List.setIfInBounds_toArray, List.set_cons_zero, List.set_cons_succ, i64_w, i32_w]
                                      rfl
                                    refine last_ (i := 9) (N := none) #[true, true, true, true, true, true, true, true, true, true] rfl rfl (one_of HT_.out (by kernel_rfl)) (by decide) (fun K hK => ?_)
                                    have hs44 : w42.cell? ⟨gb653, 2, none⟩ = some (u654002) := (blk_cell BK653.out 2).trans rfl
                                    have hfs44 := blk_frozen BK653.out 2
                                    have hns44_0 := NB648_653.out
                                    have hms44_0 := NB653_648.out
                                    refine skip_ (w1 := ?_) (by rfl) rfl ?_ ?_
                                    rotate_left
                                    · go_simp
                                      rfl
                                    refine hK.out _ _ ?_
                                    clear hK K
                                    refine done_ (done_of HT_.out (by kernel_rfl)) ?_
                                    try go_wp2
                                    go_roundg k3
                                    case measure => have := HJ3.out; have := HK2.out; have := HK3.out; omega
                                    case rel => exact ⟨(wrap64 (x8_3 + 1)), (x649000_3), (x649001_3), (y660), (.slice Ao43 y660.length co43), (by first | rfl | (simp; done) | (simp [*]; done)), H', ⟨by have := HJ3.out; have := HK2.out; have := HK3.out; omega⟩, ⟨by (with_reducible repeat (first | apply Kd.R_alloc | apply Kd.R_drewN | apply Kd.R_drew)); exact Kd.R_mono (Kd.R_far (p := ⟨gb653, 2, none⟩) (Kd.R_types HO_29.out BK653.out (by decide)) (fun _ hk => hk.2) (.slice Ao43 y660.length co43)) (fun _ hk => trivial)⟩, ⟨by (with_reducible repeat (first | apply Kd.R_alloc | apply Kd.R_drewN | apply Kd.R_drew)); exact Kd.R_mono (Kd.R_far (p := ⟨gb653, 2, none⟩) (Kd.R_types HO662.out BK653.out (by decide)) (fun _ hk => hk.2) (.slice Ao43 y660.length co43)) (fun _ hk => trivial)⟩, ⟨by (with_reducible repeat (first | refine blk_drewN ?_ _ | refine blk_drew ?_ | refine blk_alloc ?_ _)); refine blk_far ?_ NB648_653.out _; (with_reducible repeat (first | refine blk_drewN ?_ _ | refine blk_drew ?_ | refine blk_alloc ?_ _)); exact BK648.out⟩, ⟨by (with_reducible repeat (first | refine blk_drewN ?_ _ | refine blk_drew ?_ | refine blk_alloc ?_ _)); refine blk_put (cs := #[.int .i64 ((rdOf ByteArray.empty t649 0).size : Int), .int .i64 (t649.length : Int), u654002]) ?_ 2 _ rfl; (with_reducible repeat (first | refine blk_drewN ?_ _ | refine blk_drew ?_ | refine blk_alloc ?_ _)); exact BK653.out⟩, ⟨by repeat (first | (with_reducible first | exact HB.out | apply below_alloc | apply pw_below_drewN | apply below_drew1 | refine below_set ?_ GE648.out | refine below_set ?_ GE653.out) | exact HB.out)⟩⟩
                                  · rw [if_neg c40] at H
                                    exact absurd H (by simp)
                                · rw [if_neg c38] at H
                                  have c38b0 : ((bt (rdOf ByteArray.empty t649 x31_2) x8_3) == 46) = false := beq_eq_false_iff_ne.mpr c38
                                  have c38b1 : ((bt (rdOf ByteArray.empty t649 x31_2) x8_3) != 46) = true := bne_iff_ne.mpr c38
                                  simp only [Option.some.injEq, Prod.mk.injEq] at H
                                  obtain ⟨rfl, rfl, rfl, rfl⟩ := H
                                  have p29 : 0 ≤ (x8_3 : Int) := of_decide_eq_true (by first | (with_reducible assumption) | assumption)
                                  have q29 : x8_3 < ((rdOf ByteArray.empty t649 x31_2).size : Int) := of_decide_eq_true (by first | (with_reducible assumption) | assumption)
                                  have hx29 := bt_at (rdOf ByteArray.empty t649 x31_2) x8_3
                                  replace p29 := eq_true p29
                                  replace q29 := eq_true q29
                                  have p37 : 0 ≤ (x8_3 : Int) := of_decide_eq_true (by first | (with_reducible assumption) | assumption)
                                  have q37 : x8_3 < ((rdOf ByteArray.empty t649 x31_2).size : Int) := of_decide_eq_true (by first | (with_reducible assumption) | assumption)
                                  have hx37 := bt_at (rdOf ByteArray.empty t649 x31_2) x8_3
                                  replace p37 := eq_true p37
                                  replace q37 := eq_true q37
                                  have hnb45 := NB648_653.out
                                  have hnc45 := NB653_648.out
                                  have hcz46_0 : wr.cell? ⟨gb648, 0, none⟩ = some (.int .i64 x649000_3) := (blk_cell BK648.out 0).trans rfl
                                  have hcz46_1 : wr.cell? ⟨gb648, 1, none⟩ = some (.int .i64 x649001_3) := (blk_cell BK648.out 1).trans rfl
                                  have hcz46_2 : wr.cell? ⟨gb648, 2, none⟩ = some (.slice none 0 0) := (blk_cell BK648.out 2).trans rfl
                                  have hfz46_0 := blk_frozen BK648.out 0
                                  have hfz46_1 := blk_frozen BK648.out 1
                                  have hfz46_2 := blk_frozen BK648.out 2
                                  go_wp2
                                  refine bodyPost_ret (results_ct rfl _ _ gb648 57 #[.int .i64 0, .int .i64 0, .slice none 0 0] (0, 0) _ rfl (by (with_reducible repeat (first | refine blk_drewN ?_ _ | refine blk_drew ?_ | refine blk_alloc ?_ _)); refine blk_put (cs := #[.int .i64 0, .int .i64 0, .slice none 0 0]) ?_ 2 _ rfl; (with_reducible repeat (first | refine blk_drewN ?_ _ | refine blk_drew ?_ | refine blk_alloc ?_ _)); refine blk_put (cs := #[.int .i64 0, .int .i64 x649001_3, .slice none 0 0]) ?_ 1 _ rfl; (with_reducible repeat (first | refine blk_drewN ?_ _ | refine blk_drew ?_ | refine blk_alloc ?_ _)); refine blk_put (cs := #[.int .i64 x649000_3, .int .i64 x649001_3, .slice none 0 0]) ?_ 0 _ rfl; (with_reducible repeat (first | refine blk_drewN ?_ _ | refine blk_drew ?_ | refine blk_alloc ?_ _)); exact BK648.out) Try.underlying57 rfl (by kernel_rfl)) rfl ?_
                                  exact ⟨_, by first | rfl | (simp [errW_none, errW_some] <;> rfl) | (simp [*, errW_none, errW_some] <;> rfl), by first | exact Kd.R_nil _ _ _ _ _ | exact Kd.N_nil _ _ _ _ _ | exact Kd.V_nil _ _ _ _ _ | exact Kd.Q_nil _ _ _ _ _ | exact Kd.S_nil _ _ _ _ _, by repeat (first | (with_reducible first | exact HB.out | apply below_alloc | apply pw_below_drewN | apply below_drew1 | refine below_set ?_ GE648.out | refine below_set ?_ GE653.out) | exact HB.out)⟩
                            · rw [if_neg c28] at H
                              exact absurd H (by simp)
                          · rw [if_neg c27] at H
                            have c27b0 : decide (x8_3 < ((rdOf ByteArray.empty t649 x31_2).size : Int)) = false := decide_eq_false c27
                            clear c27
                            have H' := Aside0.mk H
                            clear H
                            go_wp2
                            go_roundg k3
                            case measure => have := HJ3.out; have := HK2.out; have := HK3.out; omega
                            case rel => exact ⟨(wrap64 (x31_2 + 1)), (x649000_3), (x649001_3), (x654002_3), (u654002), (by first | rfl | (simp; done) | (simp [*]; done)), H', ⟨by have := HJ3.out; have := HK2.out; have := HK3.out; omega⟩, ⟨by (with_reducible repeat (first | apply Kd.R_alloc | apply Kd.R_drewN | apply Kd.R_drew)); exact HO_29.out⟩, ⟨by (with_reducible repeat (first | apply Kd.R_alloc | apply Kd.R_drewN | apply Kd.R_drew)); exact HO_654002.out⟩, ⟨by (with_reducible repeat (first | refine blk_drewN ?_ _ | refine blk_drew ?_ | refine blk_alloc ?_ _)); exact BK648.out⟩, ⟨by (with_reducible repeat (first | refine blk_drewN ?_ _ | refine blk_drew ?_ | refine blk_alloc ?_ _)); exact BK653.out⟩, ⟨by repeat (first | (with_reducible first | exact HB.out | apply below_alloc | apply pw_below_drewN | apply below_drew1 | refine below_set ?_ GE648.out | refine below_set ?_ GE653.out) | exact HB.out)⟩⟩
                    · rw [if_neg c24] at H
                      have c24b0 : (((rdOf ByteArray.empty t649 x31_2).size : Int) == ((rdOf ByteArray.empty t649 0).size : Int)) = false := beq_eq_false_iff_ne.mpr c24
                      have c24b1 : (((rdOf ByteArray.empty t649 x31_2).size : Int) != ((rdOf ByteArray.empty t649 0).size : Int)) = true := bne_iff_ne.mpr c24
                      have c24b2 : ((rdOf ByteArray.empty t649 x31_2).size == (rdOf ByteArray.empty t649 0).size) = false := by first | simpa using c24 | (simp at c24 ⊢; omega)
                      simp only [Option.some.injEq, Prod.mk.injEq] at H
                      obtain ⟨rfl, rfl, rfl, rfl⟩ := H
                      have p656 : 0 ≤ (x31_2 : Int) := of_decide_eq_true (by first | (with_reducible assumption) | assumption)
                      have q656 : x31_2 < (t649.length : Int) := of_decide_eq_true (by first | (with_reducible assumption) | assumption)
                      obtain ⟨ad656, e656, hx656_0⟩ := Kd.at_string (Kd.R_reads' HO_29.out).2.2 x31_2 p656 q656
                      obtain rfl : ad652 = ad656 := (by injection e656)
                      replace p656 := eq_true p656
                      replace q656 := eq_true q656
                      have hnb47 := NB653_648.out
                      have hnc47 := NB648_653.out
                      have hcz48_0 : wr.cell? ⟨gb653, 0, none⟩ = some (.int .i64 ((rdOf ByteArray.empty t649 0).size : Int)) := (blk_cell BK653.out 0).trans rfl
                      have hcz48_1 : wr.cell? ⟨gb653, 1, none⟩ = some (.int .i64 (t649.length : Int)) := (blk_cell BK653.out 1).trans rfl
                      have hcz48_2 : wr.cell? ⟨gb653, 2, none⟩ = some (u654002) := (blk_cell BK653.out 2).trans rfl
                      have hfz48_0 := blk_frozen BK653.out 0
                      have hfz48_1 := blk_frozen BK653.out 1
                      have hfz48_2 := blk_frozen BK653.out 2
                      have hcz49_0 : wr.cell? ⟨gb648, 0, none⟩ = some (.int .i64 x649000_2) := (blk_cell BK648.out 0).trans rfl
                      have hcz49_1 : wr.cell? ⟨gb648, 1, none⟩ = some (.int .i64 x649001_2) := (blk_cell BK648.out 1).trans rfl
                      have hcz49_2 : wr.cell? ⟨gb648, 2, none⟩ = some (.slice none 0 0) := (blk_cell BK648.out 2).trans rfl
                      have hfz49_0 := blk_frozen BK648.out 0
                      have hfz49_1 := blk_frozen BK648.out 1
                      have hfz49_2 := blk_frozen BK648.out 2
                      go_wp2
                      refine bodyPost_ret (results_ct rfl _ _ gb648 57 #[.int .i64 0, .int .i64 0, .slice none 0 0] (0, 0) _ rfl (by (with_reducible repeat (first | refine blk_drewN ?_ _ | refine blk_drew ?_ | refine blk_alloc ?_ _)); refine blk_put (cs := #[.int .i64 0, .int .i64 0, .slice none 0 0]) ?_ 2 _ rfl; (with_reducible repeat (first | refine blk_drewN ?_ _ | refine blk_drew ?_ | refine blk_alloc ?_ _)); refine blk_put (cs := #[.int .i64 0, .int .i64 x649001_2, .slice none 0 0]) ?_ 1 _ rfl; (with_reducible repeat (first | refine blk_drewN ?_ _ | refine blk_drew ?_ | refine blk_alloc ?_ _)); refine blk_put (cs := #[.int .i64 x649000_2, .int .i64 x649001_2, .slice none 0 0]) ?_ 0 _ rfl; (with_reducible repeat (first | refine blk_drewN ?_ _ | refine blk_drew ?_ | refine blk_alloc ?_ _)); exact BK648.out) Try.underlying57 rfl (by kernel_rfl)) rfl ?_
                      exact ⟨_, by first | rfl | (simp [errW_none, errW_some] <;> rfl) | (simp [*, errW_none, errW_some] <;> rfl), by first | exact Kd.R_nil _ _ _ _ _ | exact Kd.N_nil _ _ _ _ _ | exact Kd.V_nil _ _ _ _ _ | exact Kd.Q_nil _ _ _ _ _ | exact Kd.S_nil _ _ _ _ _, by repeat (first | (with_reducible first | exact HB.out | apply below_alloc | apply pw_below_drewN | apply below_drew1 | refine below_set ?_ GE648.out | refine below_set ?_ GE653.out) | exact HB.out)⟩
                  · rw [if_neg c23] at H
                    exact absurd H (by simp)
                · rw [if_neg c22] at H
                  exact absurd H (by simp)
              · rw [if_neg c21] at H
                have c21b0 : decide (x31_2 < (t649.length : Int)) = false := decide_eq_false c21
                clear c21
                simp only [Option.some.injEq, Prod.mk.injEq] at H
                obtain ⟨rfl, rfl, rfl, rfl⟩ := H
                have hnb50 := NB653_648.out
                have hnc50 := NB648_653.out
                have hcz51_0 : wr.cell? ⟨gb653, 0, none⟩ = some (.int .i64 ((rdOf ByteArray.empty t649 0).size : Int)) := (blk_cell BK653.out 0).trans rfl
                have hcz51_1 : wr.cell? ⟨gb653, 1, none⟩ = some (.int .i64 (t649.length : Int)) := (blk_cell BK653.out 1).trans rfl
                have hcz51_2 : wr.cell? ⟨gb653, 2, none⟩ = some (u654002) := (blk_cell BK653.out 2).trans rfl
                have hfz51_0 := blk_frozen BK653.out 0
                have hfz51_1 := blk_frozen BK653.out 1
                have hfz51_2 := blk_frozen BK653.out 2
                have hcz52_0 : wr.cell? ⟨gb648, 0, none⟩ = some (.int .i64 x649000_2) := (blk_cell BK648.out 0).trans rfl
                have hcz52_1 : wr.cell? ⟨gb648, 1, none⟩ = some (.int .i64 x649001_2) := (blk_cell BK648.out 1).trans rfl
                have hcz52_2 : wr.cell? ⟨gb648, 2, none⟩ = some (.slice none 0 0) := (blk_cell BK648.out 2).trans rfl
                have hfz52_0 := blk_frozen BK648.out 0
                have hfz52_1 := blk_frozen BK648.out 1
                have hfz52_2 := blk_frozen BK648.out 2
                obtain ⟨Ao53, co53, eo53⟩ := Kd.R_slice HO_654002.out
                subst eo53
                go_wp2
                refine bodyPost_ret (results_ct rfl _ _ gb648 57 #[.int .i64 ((rdOf ByteArray.empty t649 0).size : Int), .int .i64 (t649.length : Int), .slice Ao53 x654002_2.length co53] (0, 0) _ rfl (by (with_reducible repeat (first | refine blk_drewN ?_ _ | refine blk_drew ?_ | refine blk_alloc ?_ _)); refine blk_put (cs := #[.int .i64 ((rdOf ByteArray.empty t649 0).size : Int), .int .i64 (t649.length : Int), .slice none 0 0]) ?_ 2 _ rfl; (with_reducible repeat (first | refine blk_drewN ?_ _ | refine blk_drew ?_ | refine blk_alloc ?_ _)); refine blk_put (cs := #[.int .i64 ((rdOf ByteArray.empty t649 0).size : Int), .int .i64 x649001_2, .slice none 0 0]) ?_ 1 _ rfl; (with_reducible repeat (first | refine blk_drewN ?_ _ | refine blk_drew ?_ | refine blk_alloc ?_ _)); refine blk_put (cs := #[.int .i64 x649000_2, .int .i64 x649001_2, .slice none 0 0]) ?_ 0 _ rfl; (with_reducible repeat (first | refine blk_drewN ?_ _ | refine blk_drew ?_ | refine blk_alloc ?_ _)); exact BK648.out) Try.underlying57 rfl (by kernel_rfl)) rfl ?_
                exact ⟨_, by first | rfl | (simp [errW_none, errW_some] <;> rfl) | (simp [*, errW_none, errW_some] <;> rfl), by (with_reducible repeat (first | apply Kd.R_alloc | apply Kd.R_drewN | apply Kd.R_drew)); exact Kd.R_mono (Kd.R_far (p := ⟨gb648, 2, none⟩) (Kd.R_far (p := ⟨gb648, 1, none⟩) (Kd.R_far (p := ⟨gb648, 0, none⟩) (Kd.R_types HO_654002.out BK648.out (by decide)) (fun _ hk => hk.2) (.int .i64 ((rdOf ByteArray.empty t649 0).size : Int))) (fun _ hk => hk.2) (.int .i64 (t649.length : Int))) (fun _ hk => hk.2) (.slice Ao53 x654002_2.length co53)) (fun _ hk => trivial), by repeat (first | (with_reducible first | exact HB.out | apply below_alloc | apply pw_below_drewN | apply below_drew1 | refine below_set ?_ GE648.out | refine below_set ?_ GE653.out) | exact HB.out)⟩
  · rw [if_neg c3] at H
    exact absurd H (by simp)

end Go.Proofs.Ytppfdipgaifhiab.Q
