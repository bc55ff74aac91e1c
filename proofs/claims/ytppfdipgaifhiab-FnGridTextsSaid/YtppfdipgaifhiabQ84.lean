/- A function of the program and its contract: written by this session's qprint.py. -/
import Derived.Test.YtppfdipgaifhiabQ0
import Derived.Test.YtppfdipgaifhiabQ74
import Derived.Test.YtppfdipgaifhiabQ77
import Derived.Test.YtppfdipgaifhiabQ83
namespace Go.Proofs.Ytppfdipgaifhiab.Q
open Go.RowKit Go.Proofs.YtppfdipgaifhiabW.PrintWords Go.Proofs.YtppfdipgaifhiabW.PrintLast Go.Proofs.YtppfdipgaifhiabW.PrintMore
attribute [local go_sem] max2_int min2_int max_two min_two max_three min_three max_four min_four   -- for this text's walks alone
set_option linter.unusedVariables false
set_option linter.unusedSimpArgs false

/-! ### spec_ReadGrid: function 43 -/
def spec_ReadGrid.l0 : Nat → ByteArray → Int → Int → Int → List Bool → Option (Int × Int × List Bool × Int)
  | 0, _, _, _, _, _ => none
  | k + 1, x0, x6, x681000, x681001, x681002 => if x6 < (x0.size : Int) then (if 0 ≤ x6 then (if (bt x0 x6) = 47 then (spec_ReadGrid.l0 k x0 (wrap64 (x6 + 1)) x681000 x681001 x681002) else (if x681002.length < 140737488355328 then (spec_ReadGrid.l0 k x0 (wrap64 (x6 + 1)) x681000 x681001 (x681002 ++ [((bt x0 x6) == 35)])) else (none))) else (none)) else ((spec_IsGrid.f x681000 x681001 x681002).bind fun t684 => (if t684 = true then ((spec_l31Text.f k x681000 x681001 x681002).bind fun t685 => (if t685.toList = x0.toList then (some (x681000, x681001, x681002, 0)) else (some (0, 0, ([] : List Bool), 6)))) else (some (0, 0, ([] : List Bool), 6))))
def spec_ReadGrid.f (k : Nat) (a0 : ByteArray) : Option (Int × Int × List Bool × Int) := (spec_l01Split.f k a0 47).bind fun t673 => (if 0 < (t673.length : Int) then (spec_ReadGrid.l0 k a0 0 ((rdOf ByteArray.empty t673 0).size : Int) (t673.length : Int) (([] : List Bool))) else (none))
theorem spec_ReadGrid.mono_l : ∀ k, (∀ y0 y1 y2 y3 y4, LeO (spec_ReadGrid.l0 k y0 y1 y2 y3 y4) (spec_ReadGrid.l0 (k + 1) y0 y1 y2 y3 y4))
  | 0 => fun _ _ _ _ _ r h => by simp [spec_ReadGrid.l0] at h
  | k + 1 => by
    have ih0 := spec_ReadGrid.mono_l k
    · intro y0 y1 y2 y3 y4
      unfold spec_ReadGrid.l0
      repeat' first
      | (with_reducible exact ih0 _ _ _ _ _)
      | (with_reducible exact spec_l01Split.mono _ _ _)
      | (with_reducible exact spec_l31Text.mono _ _ _ _)
      | (with_reducible exact LeO.refl _)
      | (with_reducible exact LeO.none _)
      | (with_reducible refine LeO.ite ?_ ?_)
      | (with_reducible refine LeO.bind ?_ (fun _ => ?_))
      | exact ih0 _ _ _ _ _
      | exact spec_l01Split.mono _ _ _
      | exact spec_l31Text.mono _ _ _ _
      | exact LeO.none _
      | refine LeO.ite ?_ ?_
      | refine LeO.bind ?_ (fun _ => ?_)
theorem spec_ReadGrid.mono : ∀ a0 k, LeO (spec_ReadGrid.f k a0) (spec_ReadGrid.f (k + 1) a0) := by
  intro a0 k
  have ih0 := spec_ReadGrid.mono_l k
  unfold spec_ReadGrid.f
  repeat' first
      | (with_reducible exact ih0 _ _ _ _ _)
      | (with_reducible exact spec_l01Split.mono _ _ _)
      | (with_reducible exact spec_l31Text.mono _ _ _ _)
      | (with_reducible exact LeO.refl _)
      | (with_reducible exact LeO.none _)
      | (with_reducible refine LeO.ite ?_ ?_)
      | (with_reducible refine LeO.bind ?_ (fun _ => ?_))
      | exact ih0 _ _ _ _ _
      | exact spec_l01Split.mono _ _ _
      | exact spec_l31Text.mono _ _ _ _
      | exact LeO.none _
      | refine LeO.ite ?_ ?_
      | refine LeO.bind ?_ (fun _ => ?_)
def spec_ReadGrid.T7 : Bool × List (List Nat × List Nat) := (true, [([], []), ([0], [0]), ([], []), ([], []), ([2, 3], [2, 3]), ([4], [4]), ([5], [5]), ([1, 6], [1, 6]), ([0, 1, 2, 3, 4, 5, 6, 7], []), ([8, 7, 7, 0, 1, 2, 3, 4, 5, 6, 7], [7, 8])])
def spec_ReadGrid.B7 : List Nat := [0, 1, 0, 0, 12, 28, 60, 127, 255, 511]
theorem spec_ReadGrid.tab7 : rtab .any (opsOf Try.f43 7) = spec_ReadGrid.T7 := by kernel_rfl
theorem spec_ReadGrid.bits7 : waitsOk spec_ReadGrid.T7.2 spec_ReadGrid.B7 = true := by kernel_rfl
set_option maxHeartbeats 8000000 in
set_option maxRecDepth 100000 in
theorem spec_ReadGrid.calls (k : Nat) (a0 : ByteArray) (r1 : Int) (r2 : Int) (r3 : List Bool) (r4 : Int) (w : World) (h : spec_ReadGrid.f k a0 = some (r1, r2, r3, r4)) :
    Calls Try.prog 43 #[.string a0] w fun e w' => ∃ v2_ : Value, e = .returned (.tuple #[.agg #[.int .i64 r1, .int .i64 r2, v2_], .int .i64 r4]) ∧ Kd.R Kd.bool 4 w' w.heap.size (fun _ => True) v2_ r3 ∧ Below w.heap.size w w' := by
  have hu57 := Try.underlying57
  have HB := Aside0.mk (Below.refl w.heap.size w)
  have H : ((spec_l01Split.f k a0 47).bind fun t673 => (if 0 < (t673.length : Int) then (spec_ReadGrid.l0 k a0 0 ((rdOf ByteArray.empty t673 0).size : Int) (t673.length : Int) (([] : List Bool))) else (none))) = some (r1, r2, r3, r4) := h
  clear h
  replace H := Option.bind_eq_some_iff.mp H
  obtain ⟨t673, A20, H⟩ := H
  replace H : (if 0 < (t673.length : Int) then (spec_ReadGrid.l0 k a0 0 ((rdOf ByteArray.empty t673 0).size : Int) (t673.length : Int) (([] : List Bool))) else (none)) = some (r1, r2, r3, r4) := H
  have A2 := Aside0.mk A20
  clear A20
  by_cases c3 : 0 < (t673.length : Int)
  · rw [if_pos c3] at H
    have c3b0 : decide (0 < (t673.length : Int)) = true := decide_eq_true c3
    have c3b1 : decide (0 < t673.length) = true := decide_eq_true (by omega)
    clear c3
    obtain ⟨y677, hy677⟩ : ∃ y_ : List Bool, y_ = (([] : List Bool)) := ⟨_, rfl⟩
    replace H : (spec_ReadGrid.l0 k a0 0 ((rdOf ByteArray.empty t673 0).size : Int) (t673.length : Int) y677) = some (r1, r2, r3, r4) := by first | (rw [hy677]; with_reducible exact H) | (have H2_ := (Option.bind_some _ _).symm.trans H; rw [hy677]; with_reducible exact H2_) | (have H2_ := (Option.bind_some _ _).symm.trans H; with_reducible exact H2_) | with_reducible exact H | (rw [hy677]; exact H) | exact H
    have Ny677 := Aside0.mk hy677
    clear hy677
    have H' := Aside0.mk H
    clear H
    go_enter Try.func43, Try.ntmps43
    go_wp2_with (first | ((with_reducible refine gate_dst (N := 2) rfl ?_); refine box_event ?hg (N := 2) ?hd (cs := #[.int .i64 0, .int .i64 0, .slice none 0 0]) (t := 57) ?hr ?_; (case hd => rfl); (case hg => rfl); (case hr => first | (go_simp; done) | (go_simp; rfl)); intro gb672 hg w4 hbox hb; have n0_ := Aside0.mk (below_step (by repeat (first | (with_reducible first | exact HB.out | apply below_alloc | apply pw_below_drewN | apply below_drew1) | exact HB.out)) hb); have n1_ := Aside0.mk (hbox); have n2_ := Aside0.mk ((by rw [hg]; exact (below_size (by repeat (first | (with_reducible first | exact HB.out | apply below_alloc | apply pw_below_drewN | apply below_drew1) | exact HB.out))) : w.heap.size ≤ gb672)); have n3_ := Aside0.mk ((by rw [hg]; exact (below_size (by repeat (first | (with_reducible first | exact HB.out | apply below_alloc | apply pw_below_drewN | apply below_drew1) | exact HB.out))) : w.heap.size ≤ gb672)); clear HB; have HB := n0_; have BK672 := n1_; have GW672 := n2_; have GE672 := n3_; clear n0_ n1_ n2_ n3_; clear hb hbox hg) | ((with_reducible refine gate_callee (f := 120) rfl ?_); refine goesL_ (some 8) rfl rfl Try.func120 (by kernel_rfl) rfl #[.string a0, .int .u8 47] rfl (by (try simp only [List.map_toArray, List.map_cons, List.map_nil]); first | done | rfl | (simp only [List.length_drop, List.length_take]; rfl)) ?_; (with_reducible refine (spec_l01Split.calls k a0 47 t673 _ A2.out).mono ?_); rintro e w5 ⟨v674, rfl, ho0, hb⟩; refine ⟨_, rfl, ?_⟩; have n0_ := Aside0.mk (Kd.R_lower ho0 (below_size (by repeat (first | (with_reducible first | exact HB.out | apply below_alloc | apply pw_below_drewN | apply below_drew1 | refine below_set ?_ GE672.out) | exact HB.out)))); have n1_ := Aside0.mk (blk_below (g := gb672) (o := .cells #[.int .i64 0, .int .i64 0, .slice none 0 0] 57 (0, 0)) (by (with_reducible repeat (first | refine blk_drewN ?_ _ | refine blk_drew ?_ | refine blk_alloc ?_ _)); exact BK672.out) hb); have n2_ := Aside0.mk (below_step (by repeat (first | (with_reducible first | exact HB.out | apply below_alloc | apply pw_below_drewN | apply below_drew1 | refine below_set ?_ GE672.out) | exact HB.out)) hb); clear BK672; clear HB; have HO675 := n0_; have BK672 := n1_; have HB := n2_; clear n0_ n1_ n2_; (try clear hb); (try clear hb2); (try clear hk); (try clear hi); (try clear ho0); obtain ⟨Ao6, co6, eo6⟩ := Kd.R_slice HO675.out; subst eo6; have p676 : 0 ≤ (0 : Int) := (by omega); have q676 : 0 < (t673.length : Int) := of_decide_eq_true (by first | (with_reducible assumption) | assumption); obtain ⟨ad676, e676, hx676_0⟩ := Kd.at_string (Kd.R_reads' HO675.out).2.2 0 p676 q676; cases e676; have qi676 : (0 < t673.length) = True := eq_true (by omega); (try rw [show ((0 : Int)).toNat = 0 from rfl] at hx676_0); (try rw [Addr.add_zero'] at hx676_0); replace p676 := eq_true p676; replace q676 := eq_true q676) | ((with_reducible refine gate_dst (N := 15) rfl ?_); refine Kd.R_lit Kd.bool _ 4 ?hg (N := 15) ?hd (xs := ([] : List Bool)) (inner := []) (ok := fun _ => True) (okp := fun _ => True) ?hr ?hp (fun _ hk => hk) trivial (Below.refl _ _) (Nat.le_refl _) (by simp) ?_; (case hd => rfl); (case hg => rfl); (case hr => first | (go_simp; done) | (go_simp; rfl)); (case hp => exact (Reps.none _ _)); intro v678 w7 ho8 hb hg_ hnew_; clear hg_ hnew_; (first | rw [← Ny677.out] at ho8 | (simp only [Int.reduceToNat] at ho8; rw [← Ny677.out] at ho8)); have n0_ := Aside0.mk (Kd.R_below (by (with_reducible repeat (first | apply Kd.R_alloc | apply Kd.R_drewN | apply Kd.R_drew)); exact HO675.out) hb); have n1_ := Aside0.mk (Kd.R_lower ho8 (below_size (by repeat (first | (with_reducible first | exact HB.out | apply below_alloc | apply pw_below_drewN | apply below_drew1 | refine below_set ?_ GE672.out) | exact HB.out)))); have n2_ := Aside0.mk (blk_below (g := gb672) (o := .cells #[.int .i64 0, .int .i64 0, .slice none 0 0] 57 (0, 0)) (by (with_reducible repeat (first | refine blk_drewN ?_ _ | refine blk_drew ?_ | refine blk_alloc ?_ _)); exact BK672.out) hb); have n3_ := Aside0.mk (below_step (by repeat (first | (with_reducible first | exact HB.out | apply below_alloc | apply pw_below_drewN | apply below_drew1 | refine below_set ?_ GE672.out) | exact HB.out)) hb); clear HO675; clear BK672; clear HB; have HO675 := n0_; have HO679 := n1_; have BK672 := n2_; have HB := n3_; clear n0_ n1_ n2_ n3_; clear hb ho8; obtain ⟨Ao9, co9, eo9⟩ := Kd.R_slice HO679.out; subst eo9) | ((with_reducible refine gate_dst (N := 5) rfl ?_); refine box_event ?hg (N := 5) ?hd (cs := #[.int .i64 0, .int .i64 0, .slice none 0 0]) (t := 57) ?hr ?_; (case hd => rfl); (case hg => rfl); (case hr => first | (go_simp; done) | (go_simp; rfl)); intro gb680 hg w10 hbox hb; have n0_ := Aside0.mk (Kd.R_below (by (with_reducible repeat (first | apply Kd.R_alloc | apply Kd.R_drewN | apply Kd.R_drew)); exact HO675.out) hb); have n1_ := Aside0.mk (Kd.R_below (by (with_reducible repeat (first | apply Kd.R_alloc | apply Kd.R_drewN | apply Kd.R_drew)); exact HO679.out) hb); have n2_ := Aside0.mk (blk_below (g := gb672) (o := .cells #[.int .i64 0, .int .i64 0, .slice none 0 0] 57 (0, 0)) (by (with_reducible repeat (first | refine blk_drewN ?_ _ | refine blk_drew ?_ | refine blk_alloc ?_ _)); exact BK672.out) hb); have n3_ := Aside0.mk (below_step (by repeat (first | (with_reducible first | exact HB.out | apply below_alloc | apply pw_below_drewN | apply below_drew1 | refine below_set ?_ GE672.out) | exact HB.out)) hb); have n4_ := Aside0.mk (hbox); have n5_ := Aside0.mk ((by rw [hg]; exact (below_size (by repeat (first | (with_reducible first | exact HB.out | apply below_alloc | apply pw_below_drewN | apply below_drew1 | refine below_set ?_ GE672.out) | exact HB.out))) : w.heap.size ≤ gb680)); have n6_ := Aside0.mk ((by rw [hg]; exact (below_size (by repeat (first | (with_reducible first | exact HB.out | apply below_alloc | apply pw_below_drewN | apply below_drew1 | refine below_set ?_ GE672.out) | exact HB.out))) : w.heap.size ≤ gb680)); have n7_ := Aside0.mk ((by rw [hg]; exact Nat.ne_of_lt (blk_lt (g := gb672) (o := .cells #[.int .i64 0, .int .i64 0, .slice none 0 0] 57 (0, 0)) (by (with_reducible repeat (first | refine blk_drewN ?_ _ | refine blk_drew ?_ | refine blk_alloc ?_ _)); exact BK672.out)) : gb672 ≠ gb680)); have n8_ := Aside0.mk ((by rw [hg]; exact Nat.ne_of_gt (blk_lt (g := gb672) (o := .cells #[.int .i64 0, .int .i64 0, .slice none 0 0] 57 (0, 0)) (by (with_reducible repeat (first | refine blk_drewN ?_ _ | refine blk_drew ?_ | refine blk_alloc ?_ _)); exact BK672.out)) : gb680 ≠ gb672)); clear HO675; clear HO679; clear BK672; clear HB; have HO675 := n0_; have HO679 := n1_; have BK672 := n2_; have HB := n3_; have BK680 := n4_; have GW680 := n5_; have GE680 := n6_; have NB672_680 := n7_; have NB680_672 := n8_; clear n0_ n1_ n2_ n3_ n4_ n5_ n6_ n7_ n8_; clear hb hbox hg; have hnb11 := NB680_672.out; have hnc11 := NB672_680.out; have hcz12_0 : w10.cell? ⟨gb680, 0, none⟩ = some (.int .i64 0) := (blk_cell BK680.out 0).trans rfl; have hcz12_1 : w10.cell? ⟨gb680, 1, none⟩ = some (.int .i64 0) := (blk_cell BK680.out 1).trans rfl; have hcz12_2 : w10.cell? ⟨gb680, 2, none⟩ = some (.slice none 0 0) := (blk_cell BK680.out 2).trans rfl; have hfz12_0 := blk_frozen BK680.out 0; have hfz12_1 := blk_frozen BK680.out 1; have hfz12_2 := blk_frozen BK680.out 2))
    go_loopg [6] k (fun kq v6 w' => ∃ (x6_1 : Int) (x681002_1 : List Bool) (u681002 : Value), v6 = .int .i64 x6_1 ∧ Aside0 (spec_ReadGrid.l0 kq a0 x6_1 ((rdOf ByteArray.empty t673 0).size : Int) (t673.length : Int) x681002_1 = some (r1, r2, r3, r4)) ∧ Aside0 (kq ≤ k) ∧ Aside0 (Kd.R Kd.bool 4 w' w.heap.size (fun _ => True) u681002 x681002_1) ∧ Aside0 (w'.heap[gb672]? = some (.cells #[.int .i64 0, .int .i64 0, (.slice none 0 0)] 57 (0, 0))) ∧ Aside0 (w'.heap[gb680]? = some (.cells #[.int .i64 ((rdOf ByteArray.empty t673 0).size : Int), .int .i64 (t673.length : Int), u681002] 57 (0, 0))) ∧ Aside0 (Below w.heap.size w w'))
    case atStart => exact ⟨(0), (y677), (.slice Ao9 y677.length co9), (by first | rfl | (simp; done) | (simp [*]; done)), H', ⟨Nat.le_refl _⟩, ⟨by (with_reducible repeat (first | apply Kd.R_alloc | apply Kd.R_drewN | apply Kd.R_drew)); exact Kd.R_mono (Kd.R_far (p := ⟨gb680, 2, none⟩) (Kd.R_far (p := ⟨gb680, 1, none⟩) (Kd.R_far (p := ⟨gb680, 0, none⟩) (Kd.R_types HO679.out BK680.out (by decide)) (fun _ hk => hk.2) (.int .i64 ((rdOf ByteArray.empty t673 0).size : Int))) (fun _ hk => hk.2) (.int .i64 (t673.length : Int))) (fun _ hk => hk.2) (.slice Ao9 y677.length co9)) (fun _ hk => trivial)⟩, ⟨by (with_reducible repeat (first | refine blk_drewN ?_ _ | refine blk_drew ?_ | refine blk_alloc ?_ _)); refine blk_far ?_ NB672_680.out _; (with_reducible repeat (first | refine blk_drewN ?_ _ | refine blk_drew ?_ | refine blk_alloc ?_ _)); refine blk_far ?_ NB672_680.out _; (with_reducible repeat (first | refine blk_drewN ?_ _ | refine blk_drew ?_ | refine blk_alloc ?_ _)); refine blk_far ?_ NB672_680.out _; (with_reducible repeat (first | refine blk_drewN ?_ _ | refine blk_drew ?_ | refine blk_alloc ?_ _)); exact BK672.out⟩, ⟨by (with_reducible repeat (first | refine blk_drewN ?_ _ | refine blk_drew ?_ | refine blk_alloc ?_ _)); refine blk_put (cs := #[.int .i64 ((rdOf ByteArray.empty t673 0).size : Int), .int .i64 (t673.length : Int), .slice none 0 0]) ?_ 2 _ rfl; (with_reducible repeat (first | refine blk_drewN ?_ _ | refine blk_drew ?_ | refine blk_alloc ?_ _)); refine blk_put (cs := #[.int .i64 ((rdOf ByteArray.empty t673 0).size : Int), .int .i64 0, .slice none 0 0]) ?_ 1 _ rfl; (with_reducible repeat (first | refine blk_drewN ?_ _ | refine blk_drew ?_ | refine blk_alloc ?_ _)); refine blk_put (cs := #[.int .i64 0, .int .i64 0, .slice none 0 0]) ?_ 0 _ rfl; (with_reducible repeat (first | refine blk_drewN ?_ _ | refine blk_drew ?_ | refine blk_alloc ?_ _)); exact BK680.out⟩, ⟨by repeat (first | (with_reducible first | exact HB.out | apply below_alloc | apply pw_below_drewN | apply below_drew1 | refine below_set ?_ GE672.out | refine below_set ?_ GE680.out) | exact HB.out)⟩⟩
    case round =>
      clear H'
      try clear c1
      try clear p2
      try clear c3
      try clear c3b0
      try clear c3b1
      try clear c4
      try clear p6
      try clear q6
      try clear hx6
      try clear qi6
      try clear c11
      try clear c12
      try clear hcz12_0
      try clear hcz12_1
      try clear hcz12_2
      try clear hfz12_0
      try clear hfz12_1
      try clear hfz12_2
      try clear hx676_0
      try clear p676
      try clear q676
      obtain ⟨x6_1, x681002_1, u681002, rfl, HA, HK1, HO_681002, BK672, BK680, HB⟩ := hrel
      cases gk with
      | zero => exact absurd HA.out (by simp [spec_ReadGrid.l0])
      | succ k1 =>
        have H := HA.out
        clear HA
        simp only [spec_ReadGrid.l0] at H
        by_cases c13 : x6_1 < (a0.size : Int)
        · rw [if_pos c13] at H
          have c13b0 : decide (x6_1 < (a0.size : Int)) = true := decide_eq_true c13
          clear c13
          by_cases c14 : 0 ≤ x6_1
          · rw [if_pos c14] at H
            have c14b0 : decide (0 ≤ x6_1) = true := decide_eq_true c14
            clear c14
            by_cases c16 : (bt a0 x6_1) = 47
            · rw [if_pos c16] at H
              have c16b0 : ((bt a0 x6_1) == 47) = true := beq_iff_eq.mpr c16
              have c16b1 : ((bt a0 x6_1) != 47) = false := bne_eq_false_iff_eq.mpr c16
              clear c16
              have H' := Aside0.mk H
              clear H
              have p15 : 0 ≤ (x6_1 : Int) := of_decide_eq_true (by first | (with_reducible assumption) | assumption)
              have q15 : x6_1 < (a0.size : Int) := of_decide_eq_true (by first | (with_reducible assumption) | assumption)
              have hx15 := bt_at a0 x6_1
              replace p15 := eq_true p15
              replace q15 := eq_true q15
              go_wp2
              go_roundg k1
              case measure => have := HK1.out; omega
              case rel => exact ⟨(wrap64 (x6_1 + 1)), (x681002_1), (u681002), (by first | rfl | (simp; done) | (simp [*]; done)), H', ⟨by have := HK1.out; omega⟩, ⟨by (with_reducible repeat (first | apply Kd.R_alloc | apply Kd.R_drewN | apply Kd.R_drew)); exact HO_681002.out⟩, ⟨by (with_reducible repeat (first | refine blk_drewN ?_ _ | refine blk_drew ?_ | refine blk_alloc ?_ _)); exact BK672.out⟩, ⟨by (with_reducible repeat (first | refine blk_drewN ?_ _ | refine blk_drew ?_ | refine blk_alloc ?_ _)); exact BK680.out⟩, ⟨by repeat (first | (with_reducible first | exact HB.out | apply below_alloc | apply pw_below_drewN | apply below_drew1 | refine below_set ?_ GE672.out | refine below_set ?_ GE680.out) | exact HB.out)⟩⟩
            · rw [if_neg c16] at H
              have c16b0 : ((bt a0 x6_1) == 47) = false := beq_eq_false_iff_ne.mpr c16
              have c16b1 : ((bt a0 x6_1) != 47) = true := bne_iff_ne.mpr c16
              by_cases c18 : x681002_1.length < 140737488355328
              · rw [if_pos c18] at H
                have LMc18 := Aside0.mk c18
                clear c18
                obtain ⟨y681, hy681⟩ : ∃ y_ : List Bool, y_ = (x681002_1 ++ [((bt a0 x6_1) == 35)]) := ⟨_, rfl⟩
                replace H : (spec_ReadGrid.l0 k1 a0 (wrap64 (x6_1 + 1)) ((rdOf ByteArray.empty t673 0).size : Int) (t673.length : Int) y681) = some (r1, r2, r3, r4) := by first | (rw [hy681]; with_reducible exact H) | (have H2_ := (Option.bind_some _ _).symm.trans H; rw [hy681]; with_reducible exact H2_) | (have H2_ := (Option.bind_some _ _).symm.trans H; with_reducible exact H2_) | with_reducible exact H | (rw [hy681]; exact H) | exact H
                have Ny681 := Aside0.mk hy681
                clear hy681
                have H' := Aside0.mk H
                clear H
                have p15 : 0 ≤ (x6_1 : Int) := of_decide_eq_true (by first | (with_reducible assumption) | assumption)
                have q15 : x6_1 < (a0.size : Int) := of_decide_eq_true (by first | (with_reducible assumption) | assumption)
                have hx15 := bt_at a0 x6_1
                replace p15 := eq_true p15
                replace q15 := eq_true q15
                try go_wp2
                have n0_ := Aside0.mk (Kd.R_drew HO_681002.out)
                have n1_ := Aside0.mk (blk_drew BK672.out)
                have n2_ := Aside0.mk (blk_drew BK680.out)
                have n3_ := Aside0.mk (below_drew1 HB.out)
                clear HO_681002
                clear BK672
                clear BK680
                clear HB
                have HO_681002 := n0_
                have BK672 := n1_
                have BK680 := n2_
                have HB := n3_
                clear n0_ n1_ n2_ n3_
                have p17 : 0 ≤ (x6_1 : Int) := of_decide_eq_true (by first | (with_reducible assumption) | assumption)
                have q17 : x6_1 < (a0.size : Int) := of_decide_eq_true (by first | (with_reducible assumption) | assumption)
                have hx17 := bt_at a0 x6_1
                replace p17 := eq_true p17
                replace q17 := eq_true q17
                refine start_ (n := 10) (S := fun w' => w'.cell? ⟨gb680, 0, none⟩ = some (.int .i64 ((rdOf ByteArray.empty t673 0).size : Int)) ∧ w'.cell? ⟨gb680, 1, none⟩ = some (.int .i64 (t673.length : Int)) ∧ w'.cell? ⟨gb680, 2, none⟩ = some (u681002)) (ds := [9]) #[false, false, false, false, false, false, false, false, false, false] (by kernel_rfl) rfl rfl ⟨(blk_cell BK680.out 0).trans rfl, (blk_cell BK680.out 1).trans rfl, (blk_cell BK680.out 2).trans rfl⟩ (fun hHeld => ?_); refine with_tabW spec_ReadGrid.tab7 spec_ReadGrid.bits7 (fun HT_ HW_ => ?_)
                generalize wr.drew = w19 at HO_681002 BK672 BK680 HB hHeld ⊢
                refine pure_ (i := 0) (N := some 27) (v := ?_) (a' := ?_) #[true, false, false, false, false, false, false, false, false, false] rfl rfl (any_of HT_.out (by kernel_rfl)) (fun _ _ _ h => h) (Or.inl ⟨by rfl, ?_⟩) ?_ ?_
                rotate_left
                · intro w'
                  go_simp
                  with_reducible rfl
                rotate_left
                · simp only [Act.put, List.setIfInBounds_toArray, List.set_cons_zero, List.set_cons_succ, i64_w, i32_w]
                  rfl
                refine pure_ (i := 2) (N := some 29) (v := ?_) (a' := ?_) #[true, false, true, false, false, false, false, false, false, false] rfl rfl (any_of HT_.out (by kernel_rfl)) (fun _ _ _ h => h) (Or.inl ⟨by rfl, ?_⟩) ?_ ?_
                rotate_left
                · intro w'
                  go_simp
                  with_reducible rfl
                rotate_left
                · simp only [Act.put, List.setIfInBounds_toArray, List.set_cons_zero, List.set_cons_succ, i64_w, i32_w]
                  rfl
                refine pure_ (i := 3) (N := some 30) (v := ?_) (a' := ?_) #[true, false, true, true, false, false, false, false, false, false] rfl rfl (any_of HT_.out (by kernel_rfl)) (fun _ _ _ h => h) (Or.inl ⟨by rfl, ?_⟩) ?_ ?_
                rotate_left
                · intro w'
                  go_simp
                  with_reducible rfl
                rotate_left
                · simp only [Act.put, List.setIfInBounds_toArray, List.set_cons_zero, List.set_cons_succ, i64_w, i32_w]
                  rfl
                refine take_ (i := 1) (N := some 28) (v := ?_) (a' := ?_) #[true, true, true, true, false, false, false, false, false, false] rfl rfl (take_ofW HT_.out HW_.out (by kernel_rfl)) (fun _ _ _ h => h) (Or.inl ⟨by rfl, ?_⟩) hHeld ?_ ?_
                rotate_left
                · rintro w' ⟨s0, s1, s2⟩
                  go_simp
                  with_reducible rfl
                rotate_left
                · simp only [Act.put, List.setIfInBounds_toArray, List.set_cons_zero, List.set_cons_succ, i64_w, i32_w]
                  rfl
                refine take_ (i := 4) (N := some 31) (v := ?_) (a' := ?_) #[true, true, true, true, true, false, false, false, false, false] rfl rfl (take_ofW HT_.out HW_.out (by kernel_rfl)) (fun _ _ _ h => h) (Or.inl ⟨by rfl, ?_⟩) hHeld ?_ ?_
                rotate_left
                · rintro w' ⟨s0, s1, s2⟩
                  go_simp
                  with_reducible rfl
                rotate_left
                · simp only [Act.put, List.setIfInBounds_toArray, List.set_cons_zero, List.set_cons_succ, i64_w, i32_w]
                  rfl
                refine pure_ (i := 5) (N := some 32) (v := ?_) (a' := ?_) #[true, true, true, true, true, true, false, false, false, false] rfl rfl (any_of HT_.out (by kernel_rfl)) (fun _ _ _ h => h) (Or.inl ⟨by rfl, ?_⟩) ?_ ?_
                rotate_left
                · intro w'
                  go_simp
                  with_reducible rfl
                rotate_left
                · simp only [Act.put, List.setIfInBounds_toArray, List.set_cons_zero, List.set_cons_succ, i64_w, i32_w]
                  rfl
                refine one_ (i := 6) (N := some 33) #[true, true, true, true, true, true, true, false, false, false] rfl rfl (one_of HT_.out (by kernel_rfl)) (by decide) (fun K hK => ?_)
                refine value_ (w1 := ?_) (v := ?_) (by rfl) rfl ?_ ?_
                rotate_left 2
                · go_simp
                  constructor
                  · rfl
                  · rfl
                refine hK.out _ _ ⟨(blk_cell (blk_alloc BK680.out _) 0).trans rfl, (blk_cell (blk_alloc BK680.out _) 1).trans rfl, (blk_cell (blk_alloc BK680.out _) 2).trans rfl⟩ (fun hHeld => ?_)
                clear hK K
                refine norm_ (a' := ?_) ?_ ?_
                rotate_left
                · show Act.put _ (some 33) _ = _
                  simp only [Act.put, List.setIfInBounds_toArray, List.set_cons_zero, List.set_cons_succ, i64_w, i32_w]
                  rfl
                refine one_ (i := 7) (N := some 34) #[true, true, true, true, true, true, true, true, false, false] rfl rfl (one_of HT_.out (by kernel_rfl)) (by decide) (fun K hK => ?_)
                refine Kd.R_append_step Kd.bool (w0 := w) w.heap.size (by rfl) (.tmp 28) (.tmp 33) 55 4 (.bool false) 1 rfl Try.underlying55 info4 rfl (by decide) (by omega) u681002 x681002_1 ((bt a0 x6_1) == 35) [.bool ((bt a0 x6_1) == 35)] (fun _ => True) (fun _ => False) rfl rfl ?aP (fun _ hk => hk.elim) ?aF ?aO ?aB ?aS ?aL ?_
                (case aP => exact rfl)
                (case aB => exact (by repeat (first | (with_reducible first | exact HB.out | apply below_alloc | apply pw_below_drewN | apply below_drew1 | refine below_set ?_ GE672.out | refine below_set ?_ GE680.out) | exact HB.out)))
                (case aF => exact (fun _ _ => trivial))
                (case aO => exact (by (with_reducible repeat (first | apply Kd.R_alloc | apply Kd.R_drewN | apply Kd.R_drew)); exact HO_681002.out))
                (case aS => exact (below_size (by repeat (first | (with_reducible first | exact HB.out | apply below_alloc | apply pw_below_drewN | apply below_drew1 | refine below_set ?_ GE672.out | refine below_set ?_ GE680.out) | exact HB.out))))
                (case aL => have := LMc18.out; omega)
                intro v682 w20 ho hb hg hat
                rw [← Ny681.out] at ho
                have n0_ := Aside0.mk (blk_grown (g := gb672) (o := .cells #[.int .i64 0, .int .i64 0, .slice none 0 0] 57 (0, 0)) (by (with_reducible repeat (first | refine blk_drewN ?_ _ | refine blk_drew ?_ | refine blk_alloc ?_ _)); exact BK672.out) hg (Kd.R_ne HO_681002.out BK672.out (by decide)))
                have n1_ := Aside0.mk (blk_grown (g := gb680) (o := .cells #[.int .i64 ((rdOf ByteArray.empty t673 0).size : Int), .int .i64 (t673.length : Int), u681002] 57 (0, 0)) (by (with_reducible repeat (first | refine blk_drewN ?_ _ | refine blk_drew ?_ | refine blk_alloc ?_ _)); exact BK680.out) hg (Kd.R_ne HO_681002.out BK680.out (by decide)))
                have n2_ := Aside0.mk (hb)
                have n3_ := Aside0.mk (ho)
                clear BK672
                clear BK680
                clear HB
                clear HO_681002
                have BK672 := n0_
                have BK680 := n1_
                have HB := n2_
                have HO683 := n3_
                clear n0_ n1_ n2_ n3_
                clear ho hb hg hat
                obtain ⟨Ao21, co21, eo21⟩ := Kd.R_slice HO683.out
                (first | subst eo21 | (injection eo21 with f1_ f2_ f3_; have f4_ := f1_.symm; have f5_ := f3_.symm; clear f1_ f2_ f3_; subst f4_; subst f5_))
                refine hK.out _ _ ⟨(blk_cell BK680.out 0).trans rfl, (blk_cell BK680.out 1).trans rfl, (blk_cell BK680.out 2).trans rfl⟩ (fun hHeld => ?_)
                clear hK K
                refine norm_ (a' := ?_) ?_ ?_
                rotate_left
                · show Act.put _ (some 34) _ = _
                  simp only [Act.put, List.setIfInBounds_toArray, List.set_cons_zero, List.set_cons_succ, i64_w, i32_w]
                  rfl
                refine pure_ (i := 8) (N := some 35) (v := ?_) (a' := ?_) #[true, true, true, true, true, true, true, true, true, false] rfl rfl (any_of HT_.out (by kernel_rfl)) (fun _ _ _ h => h) (Or.inl ⟨by rfl, ?_⟩) ?_ ?_
                rotate_left
                · intro w'
                  go_simp
                  with_reducible rfl
                rotate_left
                · simp only [Act.put, List.setIfInBounds_toArray, List.set_cons_zero, List.set_cons_succ, i64_w, i32_w]
                  rfl
                refine last_ (i := 9) (N := none) #[true, true, true, true, true, true, true, true, true, true] rfl rfl (one_of HT_.out (by kernel_rfl)) (by decide) (fun K hK => ?_)
                have hs22 : w20.cell? ⟨gb680, 2, none⟩ = some (u681002) := (blk_cell BK680.out 2).trans rfl
                have hfs22 := blk_frozen BK680.out 2
                have hns22_0 := NB672_680.out
                have hms22_0 := NB680_672.out
                refine skip_ (w1 := ?_) (by rfl) rfl ?_ ?_
                rotate_left
                · go_simp
                  rfl
                refine hK.out _ _ ?_
                clear hK K
                refine done_ (done_of HT_.out (by kernel_rfl)) ?_
                try go_wp2
                go_roundg k1
                case measure => have := HK1.out; omega
                case rel => exact ⟨(wrap64 (x6_1 + 1)), (y681), (.slice Ao21 y681.length co21), (by first | rfl | (simp; done) | (simp [*]; done)), H', ⟨by have := HK1.out; omega⟩, ⟨by (with_reducible repeat (first | apply Kd.R_alloc | apply Kd.R_drewN | apply Kd.R_drew)); exact Kd.R_mono (Kd.R_far (p := ⟨gb680, 2, none⟩) (Kd.R_types HO683.out BK680.out (by decide)) (fun _ hk => hk.2) (.slice Ao21 y681.length co21)) (fun _ hk => trivial)⟩, ⟨by (with_reducible repeat (first | refine blk_drewN ?_ _ | refine blk_drew ?_ | refine blk_alloc ?_ _)); refine blk_far ?_ NB672_680.out _; (with_reducible repeat (first | refine blk_drewN ?_ _ | refine blk_drew ?_ | refine blk_alloc ?_ _)); exact BK672.out⟩, ⟨by (with_reducible repeat (first | refine blk_drewN ?_ _ | refine blk_drew ?_ | refine blk_alloc ?_ _)); refine blk_put (cs := #[.int .i64 ((rdOf ByteArray.empty t673 0).size : Int), .int .i64 (t673.length : Int), u681002]) ?_ 2 _ rfl; (with_reducible repeat (first | refine blk_drewN ?_ _ | refine blk_drew ?_ | refine blk_alloc ?_ _)); exact BK680.out⟩, ⟨by repeat (first | (with_reducible first | exact HB.out | apply below_alloc | apply pw_below_drewN | apply below_drew1 | refine below_set ?_ GE672.out | refine below_set ?_ GE680.out) | exact HB.out)⟩⟩
              · rw [if_neg c18] at H
                exact absurd H (by simp)
          · rw [if_neg c14] at H
            exact absurd H (by simp)
        · rw [if_neg c13] at H
          have c13b0 : decide (x6_1 < (a0.size : Int)) = false := decide_eq_false c13
          clear c13
          replace H := Option.bind_eq_some_iff.mp H
          obtain ⟨t684, A230, H⟩ := H
          replace H : (if t684 = true then ((spec_l31Text.f k1 ((rdOf ByteArray.empty t673 0).size : Int) (t673.length : Int) x681002_1).bind fun t685 => (if t685.toList = a0.toList then (some (((rdOf ByteArray.empty t673 0).size : Int), (t673.length : Int), x681002_1, 0)) else (some (0, 0, ([] : List Bool), 6)))) else (some (0, 0, ([] : List Bool), 6))) = some (r1, r2, r3, r4) := H
          have A23 := Aside0.mk A230
          clear A230
          by_cases c24 : t684 = true
          · subst c24
            have H1 : ((spec_l31Text.f k1 ((rdOf ByteArray.empty t673 0).size : Int) (t673.length : Int) x681002_1).bind fun t685 => (if t685.toList = a0.toList then (some (((rdOf ByteArray.empty t673 0).size : Int), (t673.length : Int), x681002_1, 0)) else (some (0, 0, ([] : List Bool), 6)))) = some (r1, r2, r3, r4) := by rw [if_pos rfl] at H; exact H
            clear H
            have H := H1
            clear H1
            replace H := Option.bind_eq_some_iff.mp H
            obtain ⟨t685, A250, H⟩ := H
            replace H : (if t685.toList = a0.toList then (some (((rdOf ByteArray.empty t673 0).size : Int), (t673.length : Int), x681002_1, 0)) else (some (0, 0, ([] : List Bool), 6))) = some (r1, r2, r3, r4) := H
            have A25 := Aside0.mk A250
            clear A250
            by_cases c26 : t685.toList = a0.toList
            · rw [if_pos c26] at H
              have c26b0 : (t685.toList == a0.toList) = true := beq_iff_eq.mpr c26
              have c26b1 : (t685.toList != a0.toList) = false := bne_eq_false_iff_eq.mpr c26
              clear c26
              simp only [Option.some.injEq, Prod.mk.injEq] at H
              obtain ⟨rfl, rfl, rfl, rfl⟩ := H
              have hnb27 := NB680_672.out
              have hnc27 := NB672_680.out
              have hcz28_0 : wr.cell? ⟨gb680, 0, none⟩ = some (.int .i64 ((rdOf ByteArray.empty t673 0).size : Int)) := (blk_cell BK680.out 0).trans rfl
              have hcz28_1 : wr.cell? ⟨gb680, 1, none⟩ = some (.int .i64 (t673.length : Int)) := (blk_cell BK680.out 1).trans rfl
              have hcz28_2 : wr.cell? ⟨gb680, 2, none⟩ = some (u681002) := (blk_cell BK680.out 2).trans rfl
              have hfz28_0 := blk_frozen BK680.out 0
              have hfz28_1 := blk_frozen BK680.out 1
              have hfz28_2 := blk_frozen BK680.out 2
              obtain ⟨Ao29, co29, eo29⟩ := Kd.R_slice HO_681002.out
              subst eo29
              go_wp2_with (first | ((with_reducible refine gate_callee (f := 121) rfl ?_); refine goesL_ (some 37) rfl rfl Try.func121 (by kernel_rfl) rfl #[.agg #[.int .i64 ((rdOf ByteArray.empty t673 0).size : Int), .int .i64 (t673.length : Int), .slice Ao29 x681002_1.length co29]] rfl (by (try simp only [List.map_toArray, List.map_cons, List.map_nil]); first | done | rfl | (simp only [List.length_drop, List.length_take]; rfl)) ?_; (with_reducible refine (spec_IsGrid.calls ((rdOf ByteArray.empty t673 0).size : Int) (t673.length : Int) _ _ x681002_1 true _ ?side1 ?side2 A23.out).mono ?_); (case side1 => repeat (first | exact (Kd.R_reads' HO_681002.out).2.2 | (with_reducible refine Kd.C_alloc ?_ _) | (with_reducible refine Kd.C_drewN ?_ _) | (with_reducible refine Kd.C_drew ?_))); (case side2 => exact (Kd.R_reads' HO_681002.out).2.1); rintro e w30 ⟨rfl, hb⟩; refine ⟨_, rfl, ?_⟩; have n0_ := Aside0.mk (Kd.R_below (by (with_reducible repeat (first | apply Kd.R_alloc | apply Kd.R_drewN | apply Kd.R_drew)); exact HO_681002.out) hb); have n1_ := Aside0.mk (blk_below (g := gb672) (o := .cells #[.int .i64 0, .int .i64 0, .slice none 0 0] 57 (0, 0)) (by (with_reducible repeat (first | refine blk_drewN ?_ _ | refine blk_drew ?_ | refine blk_alloc ?_ _)); exact BK672.out) hb); have n2_ := Aside0.mk (blk_below (g := gb680) (o := .cells #[.int .i64 ((rdOf ByteArray.empty t673 0).size : Int), .int .i64 (t673.length : Int), .slice Ao29 x681002_1.length co29] 57 (0, 0)) (by (with_reducible repeat (first | refine blk_drewN ?_ _ | refine blk_drew ?_ | refine blk_alloc ?_ _)); exact BK680.out) hb); have n3_ := Aside0.mk (below_step (by repeat (first | (with_reducible first | exact HB.out | apply below_alloc | apply pw_below_drewN | apply below_drew1 | refine below_set ?_ GE672.out | refine below_set ?_ GE680.out) | exact HB.out)) hb); clear HO_681002; clear BK672; clear BK680; clear HB; have HO_681002 := n0_; have BK672 := n1_; have BK680 := n2_; have HB := n3_; clear n0_ n1_ n2_ n3_; (try clear hb); (try clear hb2); (try clear hk); (try clear hi); have hcz31_0 : w30.cell? ⟨gb680, 0, none⟩ = some (.int .i64 ((rdOf ByteArray.empty t673 0).size : Int)) := (blk_cell BK680.out 0).trans rfl; have hcz31_1 : w30.cell? ⟨gb680, 1, none⟩ = some (.int .i64 (t673.length : Int)) := (blk_cell BK680.out 1).trans rfl; have hcz31_2 : w30.cell? ⟨gb680, 2, none⟩ = some (.slice Ao29 x681002_1.length co29) := (blk_cell BK680.out 2).trans rfl; have hfz31_0 := blk_frozen BK680.out 0; have hfz31_1 := blk_frozen BK680.out 1; have hfz31_2 := blk_frozen BK680.out 2) | (go_at_call 114; (with_reducible refine (spec_l31Text.calls k1 ((rdOf ByteArray.empty t673 0).size : Int) (t673.length : Int) _ _ x681002_1 t685 _ ?side1 ?side2 A25.out).mono ?_); (case side1 => repeat (first | exact (Kd.R_reads' HO_681002.out).2.2 | (with_reducible refine Kd.C_alloc ?_ _) | (with_reducible refine Kd.C_drewN ?_ _) | (with_reducible refine Kd.C_drew ?_))); (case side2 => exact (Kd.R_reads' HO_681002.out).2.1); rintro e w32 ⟨rfl, hb⟩; have n0_ := Aside0.mk (Kd.R_below (by (with_reducible repeat (first | apply Kd.R_alloc | apply Kd.R_drewN | apply Kd.R_drew)); exact HO_681002.out) hb); have n1_ := Aside0.mk (blk_below (g := gb672) (o := .cells #[.int .i64 0, .int .i64 0, .slice none 0 0] 57 (0, 0)) (by (with_reducible repeat (first | refine blk_drewN ?_ _ | refine blk_drew ?_ | refine blk_alloc ?_ _)); exact BK672.out) hb); have n2_ := Aside0.mk (blk_below (g := gb680) (o := .cells #[.int .i64 ((rdOf ByteArray.empty t673 0).size : Int), .int .i64 (t673.length : Int), .slice Ao29 x681002_1.length co29] 57 (0, 0)) (by (with_reducible repeat (first | refine blk_drewN ?_ _ | refine blk_drew ?_ | refine blk_alloc ?_ _)); exact BK680.out) hb); have n3_ := Aside0.mk (below_step (by repeat (first | (with_reducible first | exact HB.out | apply below_alloc | apply pw_below_drewN | apply below_drew1 | refine below_set ?_ GE672.out | refine below_set ?_ GE680.out) | exact HB.out)) hb); clear HO_681002; clear BK672; clear BK680; clear HB; have HO_681002 := n0_; have BK672 := n1_; have BK680 := n2_; have HB := n3_; clear n0_ n1_ n2_ n3_; (try clear hb); (try clear hb2); (try clear hk); (try clear hi); have hcz33_0 : w32.cell? ⟨gb680, 0, none⟩ = some (.int .i64 ((rdOf ByteArray.empty t673 0).size : Int)) := (blk_cell BK680.out 0).trans rfl; have hcz33_1 : w32.cell? ⟨gb680, 1, none⟩ = some (.int .i64 (t673.length : Int)) := (blk_cell BK680.out 1).trans rfl; have hcz33_2 : w32.cell? ⟨gb680, 2, none⟩ = some (.slice Ao29 x681002_1.length co29) := (blk_cell BK680.out 2).trans rfl; have hfz33_0 := blk_frozen BK680.out 0; have hfz33_1 := blk_frozen BK680.out 1; have hfz33_2 := blk_frozen BK680.out 2; have hcz34_0 : w32.cell? ⟨gb672, 0, none⟩ = some (.int .i64 0) := (blk_cell BK672.out 0).trans rfl; have hcz34_1 : w32.cell? ⟨gb672, 1, none⟩ = some (.int .i64 0) := (blk_cell BK672.out 1).trans rfl; have hcz34_2 : w32.cell? ⟨gb672, 2, none⟩ = some (.slice none 0 0) := (blk_cell BK672.out 2).trans rfl; have hfz34_0 := blk_frozen BK672.out 0; have hfz34_1 := blk_frozen BK672.out 1; have hfz34_2 := blk_frozen BK672.out 2))
              refine bodyPost_ret (results_ct rfl _ _ gb672 57 #[.int .i64 ((rdOf ByteArray.empty t673 0).size : Int), .int .i64 (t673.length : Int), .slice Ao29 x681002_1.length co29] (0, 0) _ rfl (by (with_reducible repeat (first | refine blk_drewN ?_ _ | refine blk_drew ?_ | refine blk_alloc ?_ _)); refine blk_put (cs := #[.int .i64 ((rdOf ByteArray.empty t673 0).size : Int), .int .i64 (t673.length : Int), .slice none 0 0]) ?_ 2 _ rfl; (with_reducible repeat (first | refine blk_drewN ?_ _ | refine blk_drew ?_ | refine blk_alloc ?_ _)); refine blk_put (cs := #[.int .i64 ((rdOf ByteArray.empty t673 0).size : Int), .int .i64 0, .slice none 0 0]) ?_ 1 _ rfl; (with_reducible repeat (first | refine blk_drewN ?_ _ | refine blk_drew ?_ | refine blk_alloc ?_ _)); refine blk_put (cs := #[.int .i64 0, .int .i64 0, .slice none 0 0]) ?_ 0 _ rfl; (with_reducible repeat (first | refine blk_drewN ?_ _ | refine blk_drew ?_ | refine blk_alloc ?_ _)); exact BK672.out) Try.underlying57 rfl (by kernel_rfl)) rfl ?_
              exact ⟨_, by first | rfl | (simp [errW_none, errW_some] <;> rfl) | (simp [*, errW_none, errW_some] <;> rfl), by (with_reducible repeat (first | apply Kd.R_alloc | apply Kd.R_drewN | apply Kd.R_drew)); exact Kd.R_mono (Kd.R_far (p := ⟨gb672, 2, none⟩) (Kd.R_far (p := ⟨gb672, 1, none⟩) (Kd.R_far (p := ⟨gb672, 0, none⟩) (Kd.R_types HO_681002.out BK672.out (by decide)) (fun _ hk => hk.2) (.int .i64 ((rdOf ByteArray.empty t673 0).size : Int))) (fun _ hk => hk.2) (.int .i64 (t673.length : Int))) (fun _ hk => hk.2) (.slice Ao29 x681002_1.length co29)) (fun _ hk => trivial), by repeat (first | (with_reducible first | exact HB.out | apply below_alloc | apply pw_below_drewN | apply below_drew1 | refine below_set ?_ GE672.out | refine below_set ?_ GE680.out) | exact HB.out)⟩
            · rw [if_neg c26] at H
              have c26b0 : (t685.toList == a0.toList) = false := beq_eq_false_iff_ne.mpr c26
              have c26b1 : (t685.toList != a0.toList) = true := bne_iff_ne.mpr c26
              simp only [Option.some.injEq, Prod.mk.injEq] at H
              obtain ⟨rfl, rfl, rfl, rfl⟩ := H
              have hnb35 := NB680_672.out
              have hnc35 := NB672_680.out
              have hcz36_0 : wr.cell? ⟨gb680, 0, none⟩ = some (.int .i64 ((rdOf ByteArray.empty t673 0).size : Int)) := (blk_cell BK680.out 0).trans rfl
              have hcz36_1 : wr.cell? ⟨gb680, 1, none⟩ = some (.int .i64 (t673.length : Int)) := (blk_cell BK680.out 1).trans rfl
              have hcz36_2 : wr.cell? ⟨gb680, 2, none⟩ = some (u681002) := (blk_cell BK680.out 2).trans rfl
              have hfz36_0 := blk_frozen BK680.out 0
              have hfz36_1 := blk_frozen BK680.out 1
              have hfz36_2 := blk_frozen BK680.out 2
              obtain ⟨Ao37, co37, eo37⟩ := Kd.R_slice HO_681002.out
              subst eo37
              go_wp2_with (first | ((with_reducible refine gate_callee (f := 121) rfl ?_); refine goesL_ (some 37) rfl rfl Try.func121 (by kernel_rfl) rfl #[.agg #[.int .i64 ((rdOf ByteArray.empty t673 0).size : Int), .int .i64 (t673.length : Int), .slice Ao37 x681002_1.length co37]] rfl (by (try simp only [List.map_toArray, List.map_cons, List.map_nil]); first | done | rfl | (simp only [List.length_drop, List.length_take]; rfl)) ?_; (with_reducible refine (spec_IsGrid.calls ((rdOf ByteArray.empty t673 0).size : Int) (t673.length : Int) _ _ x681002_1 true _ ?side1 ?side2 A23.out).mono ?_); (case side1 => repeat (first | exact (Kd.R_reads' HO_681002.out).2.2 | (with_reducible refine Kd.C_alloc ?_ _) | (with_reducible refine Kd.C_drewN ?_ _) | (with_reducible refine Kd.C_drew ?_))); (case side2 => exact (Kd.R_reads' HO_681002.out).2.1); rintro e w38 ⟨rfl, hb⟩; refine ⟨_, rfl, ?_⟩; have n0_ := Aside0.mk (Kd.R_below (by (with_reducible repeat (first | apply Kd.R_alloc | apply Kd.R_drewN | apply Kd.R_drew)); exact HO_681002.out) hb); have n1_ := Aside0.mk (blk_below (g := gb672) (o := .cells #[.int .i64 0, .int .i64 0, .slice none 0 0] 57 (0, 0)) (by (with_reducible repeat (first | refine blk_drewN ?_ _ | refine blk_drew ?_ | refine blk_alloc ?_ _)); exact BK672.out) hb); have n2_ := Aside0.mk (blk_below (g := gb680) (o := .cells #[.int .i64 ((rdOf ByteArray.empty t673 0).size : Int), .int .i64 (t673.length : Int), .slice Ao37 x681002_1.length co37] 57 (0, 0)) (by (with_reducible repeat (first | refine blk_drewN ?_ _ | refine blk_drew ?_ | refine blk_alloc ?_ _)); exact BK680.out) hb); have n3_ := Aside0.mk (below_step (by repeat (first | (with_reducible first | exact HB.out | apply below_alloc | apply pw_below_drewN | apply below_drew1 | refine below_set ?_ GE672.out | refine below_set ?_ GE680.out) | exact HB.out)) hb); clear HO_681002; clear BK672; clear BK680; clear HB; have HO_681002 := n0_; have BK672 := n1_; have BK680 := n2_; have HB := n3_; clear n0_ n1_ n2_ n3_; (try clear hb); (try clear hb2); (try clear hk); (try clear hi); have hcz39_0 : w38.cell? ⟨gb680, 0, none⟩ = some (.int .i64 ((rdOf ByteArray.empty t673 0).size : Int)) := (blk_cell BK680.out 0).trans rfl; have hcz39_1 : w38.cell? ⟨gb680, 1, none⟩ = some (.int .i64 (t673.length : Int)) := (blk_cell BK680.out 1).trans rfl; have hcz39_2 : w38.cell? ⟨gb680, 2, none⟩ = some (.slice Ao37 x681002_1.length co37) := (blk_cell BK680.out 2).trans rfl; have hfz39_0 := blk_frozen BK680.out 0; have hfz39_1 := blk_frozen BK680.out 1; have hfz39_2 := blk_frozen BK680.out 2) | (go_at_call 114; (with_reducible refine (spec_l31Text.calls k1 ((rdOf ByteArray.empty t673 0).size : Int) (t673.length : Int) _ _ x681002_1 t685 _ ?side1 ?side2 A25.out).mono ?_); (case side1 => repeat (first | exact (Kd.R_reads' HO_681002.out).2.2 | (with_reducible refine Kd.C_alloc ?_ _) | (with_reducible refine Kd.C_drewN ?_ _) | (with_reducible refine Kd.C_drew ?_))); (case side2 => exact (Kd.R_reads' HO_681002.out).2.1); rintro e w40 ⟨rfl, hb⟩; have n0_ := Aside0.mk (Kd.R_below (by (with_reducible repeat (first | apply Kd.R_alloc | apply Kd.R_drewN | apply Kd.R_drew)); exact HO_681002.out) hb); have n1_ := Aside0.mk (blk_below (g := gb672) (o := .cells #[.int .i64 0, .int .i64 0, .slice none 0 0] 57 (0, 0)) (by (with_reducible repeat (first | refine blk_drewN ?_ _ | refine blk_drew ?_ | refine blk_alloc ?_ _)); exact BK672.out) hb); have n2_ := Aside0.mk (blk_below (g := gb680) (o := .cells #[.int .i64 ((rdOf ByteArray.empty t673 0).size : Int), .int .i64 (t673.length : Int), .slice Ao37 x681002_1.length co37] 57 (0, 0)) (by (with_reducible repeat (first | refine blk_drewN ?_ _ | refine blk_drew ?_ | refine blk_alloc ?_ _)); exact BK680.out) hb); have n3_ := Aside0.mk (below_step (by repeat (first | (with_reducible first | exact HB.out | apply below_alloc | apply pw_below_drewN | apply below_drew1 | refine below_set ?_ GE672.out | refine below_set ?_ GE680.out) | exact HB.out)) hb); clear HO_681002; clear BK672; clear BK680; clear HB; have HO_681002 := n0_; have BK672 := n1_; have BK680 := n2_; have HB := n3_; clear n0_ n1_ n2_ n3_; (try clear hb); (try clear hb2); (try clear hk); (try clear hi); have hcz41_0 : w40.cell? ⟨gb672, 0, none⟩ = some (.int .i64 0) := (blk_cell BK672.out 0).trans rfl; have hcz41_1 : w40.cell? ⟨gb672, 1, none⟩ = some (.int .i64 0) := (blk_cell BK672.out 1).trans rfl; have hcz41_2 : w40.cell? ⟨gb672, 2, none⟩ = some (.slice none 0 0) := (blk_cell BK672.out 2).trans rfl; have hfz41_0 := blk_frozen BK672.out 0; have hfz41_1 := blk_frozen BK672.out 1; have hfz41_2 := blk_frozen BK672.out 2))
              refine bodyPost_ret (results_ct rfl _ _ gb672 57 #[.int .i64 0, .int .i64 0, .slice none 0 0] (0, 0) _ rfl (by (with_reducible repeat (first | refine blk_drewN ?_ _ | refine blk_drew ?_ | refine blk_alloc ?_ _)); refine blk_put (cs := #[.int .i64 0, .int .i64 0, .slice none 0 0]) ?_ 2 _ rfl; (with_reducible repeat (first | refine blk_drewN ?_ _ | refine blk_drew ?_ | refine blk_alloc ?_ _)); refine blk_put (cs := #[.int .i64 0, .int .i64 0, .slice none 0 0]) ?_ 1 _ rfl; (with_reducible repeat (first | refine blk_drewN ?_ _ | refine blk_drew ?_ | refine blk_alloc ?_ _)); refine blk_put (cs := #[.int .i64 0, .int .i64 0, .slice none 0 0]) ?_ 0 _ rfl; (with_reducible repeat (first | refine blk_drewN ?_ _ | refine blk_drew ?_ | refine blk_alloc ?_ _)); exact BK672.out) Try.underlying57 rfl (by kernel_rfl)) rfl ?_
              exact ⟨_, by first | rfl | (simp [errW_none, errW_some] <;> rfl) | (simp [*, errW_none, errW_some] <;> rfl), by first | exact Kd.R_nil _ _ _ _ _ | exact Kd.N_nil _ _ _ _ _ | exact Kd.V_nil _ _ _ _ _ | exact Kd.Q_nil _ _ _ _ _ | exact Kd.S_nil _ _ _ _ _, by repeat (first | (with_reducible first | exact HB.out | apply below_alloc | apply pw_below_drewN | apply below_drew1 | refine below_set ?_ GE672.out | refine below_set ?_ GE680.out) | exact HB.out)⟩
          · replace c24 := Bool.eq_false_iff.mpr c24
            subst c24
            have H1 : (some (0, 0, ([] : List Bool), 6)) = some (r1, r2, r3, r4) := by rw [if_neg (show ¬ (false = true) by decide)] at H; exact H
            clear H
            have H := H1
            clear H1
            simp only [Option.some.injEq, Prod.mk.injEq] at H
            obtain ⟨rfl, rfl, rfl, rfl⟩ := H
            have hnb42 := NB680_672.out
            have hnc42 := NB672_680.out
            have hcz43_0 : wr.cell? ⟨gb680, 0, none⟩ = some (.int .i64 ((rdOf ByteArray.empty t673 0).size : Int)) := (blk_cell BK680.out 0).trans rfl
            have hcz43_1 : wr.cell? ⟨gb680, 1, none⟩ = some (.int .i64 (t673.length : Int)) := (blk_cell BK680.out 1).trans rfl
            have hcz43_2 : wr.cell? ⟨gb680, 2, none⟩ = some (u681002) := (blk_cell BK680.out 2).trans rfl
            have hfz43_0 := blk_frozen BK680.out 0
            have hfz43_1 := blk_frozen BK680.out 1
            have hfz43_2 := blk_frozen BK680.out 2
            obtain ⟨Ao44, co44, eo44⟩ := Kd.R_slice HO_681002.out
            subst eo44
            go_wp2_with (first | ((with_reducible refine gate_callee (f := 121) rfl ?_); refine goesL_ (some 37) rfl rfl Try.func121 (by kernel_rfl) rfl #[.agg #[.int .i64 ((rdOf ByteArray.empty t673 0).size : Int), .int .i64 (t673.length : Int), .slice Ao44 x681002_1.length co44]] rfl (by (try simp only [List.map_toArray, List.map_cons, List.map_nil]); first | done | rfl | (simp only [List.length_drop, List.length_take]; rfl)) ?_; (with_reducible refine (spec_IsGrid.calls ((rdOf ByteArray.empty t673 0).size : Int) (t673.length : Int) _ _ x681002_1 false _ ?side1 ?side2 A23.out).mono ?_); (case side1 => repeat (first | exact (Kd.R_reads' HO_681002.out).2.2 | (with_reducible refine Kd.C_alloc ?_ _) | (with_reducible refine Kd.C_drewN ?_ _) | (with_reducible refine Kd.C_drew ?_))); (case side2 => exact (Kd.R_reads' HO_681002.out).2.1); rintro e w45 ⟨rfl, hb⟩; refine ⟨_, rfl, ?_⟩; have n0_ := Aside0.mk (Kd.R_below (by (with_reducible repeat (first | apply Kd.R_alloc | apply Kd.R_drewN | apply Kd.R_drew)); exact HO_681002.out) hb); have n1_ := Aside0.mk (blk_below (g := gb672) (o := .cells #[.int .i64 0, .int .i64 0, .slice none 0 0] 57 (0, 0)) (by (with_reducible repeat (first | refine blk_drewN ?_ _ | refine blk_drew ?_ | refine blk_alloc ?_ _)); exact BK672.out) hb); have n2_ := Aside0.mk (blk_below (g := gb680) (o := .cells #[.int .i64 ((rdOf ByteArray.empty t673 0).size : Int), .int .i64 (t673.length : Int), .slice Ao44 x681002_1.length co44] 57 (0, 0)) (by (with_reducible repeat (first | refine blk_drewN ?_ _ | refine blk_drew ?_ | refine blk_alloc ?_ _)); exact BK680.out) hb); have n3_ := Aside0.mk (below_step (by repeat (first | (with_reducible first | exact HB.out | apply below_alloc | apply pw_below_drewN | apply below_drew1 | refine below_set ?_ GE672.out | refine below_set ?_ GE680.out) | exact HB.out)) hb); clear HO_681002; clear BK672; clear BK680; clear HB; have HO_681002 := n0_; have BK672 := n1_; have BK680 := n2_; have HB := n3_; clear n0_ n1_ n2_ n3_; (try clear hb); (try clear hb2); (try clear hk); (try clear hi); have hcz46_0 : w45.cell? ⟨gb672, 0, none⟩ = some (.int .i64 0) := (blk_cell BK672.out 0).trans rfl; have hcz46_1 : w45.cell? ⟨gb672, 1, none⟩ = some (.int .i64 0) := (blk_cell BK672.out 1).trans rfl; have hcz46_2 : w45.cell? ⟨gb672, 2, none⟩ = some (.slice none 0 0) := (blk_cell BK672.out 2).trans rfl; have hfz46_0 := blk_frozen BK672.out 0; have hfz46_1 := blk_frozen BK672.out 1; have hfz46_2 := blk_frozen BK672.out 2))
            refine bodyPost_ret (results_ct rfl _ _ gb672 57 #[.int .i64 0, .int .i64 0, .slice none 0 0] (0, 0) _ rfl (by (with_reducible repeat (first | refine blk_drewN ?_ _ | refine blk_drew ?_ | refine blk_alloc ?_ _)); refine blk_put (cs := #[.int .i64 0, .int .i64 0, .slice none 0 0]) ?_ 2 _ rfl; (with_reducible repeat (first | refine blk_drewN ?_ _ | refine blk_drew ?_ | refine blk_alloc ?_ _)); refine blk_put (cs := #[.int .i64 0, .int .i64 0, .slice none 0 0]) ?_ 1 _ rfl; (with_reducible repeat (first | refine blk_drewN ?_ _ | refine blk_drew ?_ | refine blk_alloc ?_ _)); refine blk_put (cs := #[.int .i64 0, .int .i64 0, .slice none 0 0]) ?_ 0 _ rfl; (with_reducible repeat (first | refine blk_drewN ?_ _ | refine blk_drew ?_ | refine blk_alloc ?_ _)); exact BK672.out) Try.underlying57 rfl (by kernel_rfl)) rfl ?_
            exact ⟨_, by first | rfl | (simp [errW_none, errW_some] <;> rfl) | (simp [*, errW_none, errW_some] <;> rfl), by first | exact Kd.R_nil _ _ _ _ _ | exact Kd.N_nil _ _ _ _ _ | exact Kd.V_nil _ _ _ _ _ | exact Kd.Q_nil _ _ _ _ _ | exact Kd.S_nil _ _ _ _ _, by repeat (first | (with_reducible first | exact HB.out | apply below_alloc | apply pw_below_drewN | apply below_drew1 | refine below_set ?_ GE672.out | refine below_set ?_ GE680.out) | exact HB.out)⟩
  · rw [if_neg c3] at H
    exact absurd H (by simp)

end Go.Proofs.Ytppfdipgaifhiab.Q
