/- A function of the program and its contract: written by this session's qprint.py. -/
import Derived.Test.YtppfdipgaifhiaaQ0
namespace Go.Proofs.Ytppfdipgaifhiaa.Q
open Go.RowKit Go.Proofs.YtppfdipgaifhiaaW.PrintWords Go.Proofs.YtppfdipgaifhiaaW.PrintLast Go.Proofs.YtppfdipgaifhiaaW.PrintMore
attribute [local go_sem] max2_int min2_int max_two min_two max_three min_three max_four min_four   -- for this text's walks alone
set_option linter.unusedVariables false
set_option linter.unusedSimpArgs false

/-! ### impl_nextCheck: function 117 -/
def impl_nextCheck.l0 : Nat → Int → Int → Int → ByteArray → Option (Int)
  | 0, _, _, _, _ => none
  | k + 1, x0, x5, x804000, x804001 => if x5 < (x804001.size : Int) then (if 0 ≤ x5 then (impl_nextCheck.l0 k (Int.tmod (wrap64 ((wrap64 (x0 * 29)) + (wrap64 (bt x804001 x5)))) 9973) (wrap64 (x5 + 1)) x804000 x804001) else (none)) else (some x0)
def impl_nextCheck.f (k : Nat) (a0 : Int) (a1_0 : Int) (a1_1 : ByteArray) : Option (Int) := impl_nextCheck.l0 k (Int.tmod (wrap64 ((wrap64 (a0 * 29)) + (wrap64 (a1_0)))) 9973) 0 a1_0 a1_1
theorem impl_nextCheck.mono_l : ∀ k, (∀ y0 y1 y2 y3, LeO (impl_nextCheck.l0 k y0 y1 y2 y3) (impl_nextCheck.l0 (k + 1) y0 y1 y2 y3))
  | 0 => fun _ _ _ _ r h => by simp [impl_nextCheck.l0] at h
  | k + 1 => by
    have ih0 := impl_nextCheck.mono_l k
    · intro y0 y1 y2 y3
      unfold impl_nextCheck.l0
      repeat' first
      | (with_reducible exact ih0 _ _ _ _)
      | (with_reducible exact LeO.refl _)
      | (with_reducible exact LeO.none _)
      | (with_reducible refine LeO.ite ?_ ?_)
      | (with_reducible refine LeO.bind ?_ (fun _ => ?_))
      | exact ih0 _ _ _ _
      | exact LeO.none _
      | refine LeO.ite ?_ ?_
      | refine LeO.bind ?_ (fun _ => ?_)
theorem impl_nextCheck.mono : ∀ a0 a1 a2 k, LeO (impl_nextCheck.f k a0 a1 a2) (impl_nextCheck.f (k + 1) a0 a1 a2) := by
  intro a0 a1 a2 k
  have ih0 := impl_nextCheck.mono_l k
  unfold impl_nextCheck.f
  repeat' first
      | (with_reducible exact ih0 _ _ _ _)
      | (with_reducible exact LeO.refl _)
      | (with_reducible exact LeO.none _)
      | (with_reducible refine LeO.ite ?_ ?_)
      | (with_reducible refine LeO.bind ?_ (fun _ => ?_))
      | exact ih0 _ _ _ _
      | exact LeO.none _
      | refine LeO.ite ?_ ?_
      | refine LeO.bind ?_ (fun _ => ?_)
set_option maxHeartbeats 8000000 in
set_option maxRecDepth 100000 in
theorem impl_nextCheck.calls (k : Nat) (a0 : Int) (a1_0 : Int) (a1_1 : ByteArray) (r : Int) (w : World) (h : impl_nextCheck.f k a0 a1_0 a1_1 = some r) :
    Calls Try.prog 117 #[.int .i64 a0, .agg #[.int .u8 a1_0, .string a1_1]] w fun e w' => e = .returned (.int .i64 r) ∧ Below w.heap.size w w' := by
  have hu69 := Try.underlying69
  have HB := Aside0.mk (Below.refl w.heap.size w)
  have H : (impl_nextCheck.l0 k (Int.tmod (wrap64 ((wrap64 (a0 * 29)) + (wrap64 (a1_0)))) 9973) 0 a1_0 a1_1) = some r := h
  clear h
  have H' := Aside0.mk H
  clear H
  go_enter Try.func117, Try.ntmps117
  go_wp2_with (first | ((with_reducible refine gate_dst (N := 3) rfl ?_); refine box_event ?hg (N := 3) ?hd (cs := #[.int .u8 a1_0, .string a1_1]) (t := 69) ?hr ?_; (case hd => rfl); (case hg => rfl); (case hr => first | (go_simp; done) | (go_simp; rfl)); intro gb803 hg w3 hbox hb; have n0_ := Aside0.mk (below_step (by repeat (first | (with_reducible first | exact HB.out | apply below_alloc | apply pw_below_drewN | apply below_drew1) | exact HB.out)) hb); have n1_ := Aside0.mk (hbox); have n2_ := Aside0.mk ((by rw [hg]; exact (below_size (by repeat (first | (with_reducible first | exact HB.out | apply below_alloc | apply pw_below_drewN | apply below_drew1) | exact HB.out))) : w.heap.size ≤ gb803)); have n3_ := Aside0.mk ((by rw [hg]; exact (below_size (by repeat (first | (with_reducible first | exact HB.out | apply below_alloc | apply pw_below_drewN | apply below_drew1) | exact HB.out))) : w.heap.size ≤ gb803)); clear HB; have HB := n0_; have BK803 := n1_; have GW803 := n2_; have GE803 := n3_; clear n0_ n1_ n2_ n3_; clear hb hbox hg; have hcz4_0 : w3.cell? ⟨gb803, 0, none⟩ = some (.int .u8 a1_0) := (blk_cell BK803.out 0).trans rfl; have hcz4_1 : w3.cell? ⟨gb803, 1, none⟩ = some (.string a1_1) := (blk_cell BK803.out 1).trans rfl; have hfz4_0 := blk_frozen BK803.out 0; have hfz4_1 := blk_frozen BK803.out 1))
  go_loopg [0, 5] k (fun kq v0 v5 w' => ∃ (x0_1 : Int) (x5_1 : Int), v0 = .int .i64 x0_1 ∧ v5 = .int .i64 x5_1 ∧ Aside0 (impl_nextCheck.l0 kq x0_1 x5_1 a1_0 a1_1 = some r) ∧ Aside0 (kq ≤ k) ∧ Aside0 (w'.heap[gb803]? = some (.cells #[.int .u8 a1_0, .string a1_1] 69 (0, 0))) ∧ Aside0 (Below w.heap.size w w'))
  case atStart => exact ⟨(Int.tmod (wrap64 ((wrap64 (a0 * 29)) + (wrap64 (a1_0)))) 9973), (0), (by first | rfl | (simp; done) | (simp [*]; done)), (by first | rfl | (simp; done) | (simp [*]; done)), H', ⟨Nat.le_refl _⟩, ⟨by (with_reducible repeat (first | refine blk_drewN ?_ _ | refine blk_drew ?_ | refine blk_alloc ?_ _)); exact BK803.out⟩, ⟨by repeat (first | (with_reducible first | exact HB.out | apply below_alloc | apply pw_below_drewN | apply below_drew1 | refine below_set ?_ GE803.out) | exact HB.out)⟩⟩
  case round =>
    clear H'
    try clear c1
    try clear p2
    try clear hcz4_0
    try clear hcz4_1
    try clear hfz4_0
    try clear hfz4_1
    obtain ⟨x0_1, x5_1, rfl, rfl, HA, HK1, BK803, HB⟩ := hrel
    cases gk with
    | zero => exact absurd HA.out (by simp [impl_nextCheck.l0])
    | succ k1 =>
      have H := HA.out
      clear HA
      simp only [impl_nextCheck.l0] at H
      by_cases c5 : x5_1 < (a1_1.size : Int)
      · rw [if_pos c5] at H
        have c5b0 : decide (x5_1 < (a1_1.size : Int)) = true := decide_eq_true c5
        clear c5
        by_cases c6 : 0 ≤ x5_1
        · rw [if_pos c6] at H
          have c6b0 : decide (0 ≤ x5_1) = true := decide_eq_true c6
          clear c6
          have H' := Aside0.mk H
          clear H
          have hcz8_0 : wr.cell? ⟨gb803, 0, none⟩ = some (.int .u8 a1_0) := (blk_cell BK803.out 0).trans rfl
          have hcz8_1 : wr.cell? ⟨gb803, 1, none⟩ = some (.string a1_1) := (blk_cell BK803.out 1).trans rfl
          have hfz8_0 := blk_frozen BK803.out 0
          have hfz8_1 := blk_frozen BK803.out 1
          have p7 : 0 ≤ (x5_1 : Int) := of_decide_eq_true (by first | (with_reducible assumption) | assumption)
          have q7 : x5_1 < (a1_1.size : Int) := of_decide_eq_true (by first | (with_reducible assumption) | assumption)
          have hx7 := bt_at a1_1 x5_1
          replace p7 := eq_true p7
          replace q7 := eq_true q7
          go_wp2
          go_roundg k1
          case measure => have := HK1.out; omega
          case rel => exact ⟨(Int.tmod (wrap64 ((wrap64 (x0_1 * 29)) + (wrap64 (bt a1_1 x5_1)))) 9973), (wrap64 (x5_1 + 1)), (by first | rfl | (simp; done) | (simp [*]; done)), (by first | rfl | (simp; done) | (simp [*]; done)), H', ⟨by have := HK1.out; omega⟩, ⟨by (with_reducible repeat (first | refine blk_drewN ?_ _ | refine blk_drew ?_ | refine blk_alloc ?_ _)); exact BK803.out⟩, ⟨by repeat (first | (with_reducible first | exact HB.out | apply below_alloc | apply pw_below_drewN | apply below_drew1 | refine below_set ?_ GE803.out) | exact HB.out)⟩⟩
        · rw [if_neg c6] at H
          exact absurd H (by simp)
      · rw [if_neg c5] at H
        have c5b0 : decide (x5_1 < (a1_1.size : Int)) = false := decide_eq_false c5
        clear c5
        obtain rfl := Option.some.inj H
        have hcz9_0 : wr.cell? ⟨gb803, 0, none⟩ = some (.int .u8 a1_0) := (blk_cell BK803.out 0).trans rfl
        have hcz9_1 : wr.cell? ⟨gb803, 1, none⟩ = some (.string a1_1) := (blk_cell BK803.out 1).trans rfl
        have hfz9_0 := blk_frozen BK803.out 0
        have hfz9_1 := blk_frozen BK803.out 1
        go_wp2
        go_ret
        exact ⟨by first | rfl | (simp [errW_none, errW_some] <;> rfl) | (simp [*, errW_none, errW_some] <;> rfl), by repeat (first | (with_reducible first | exact HB.out | apply below_alloc | apply pw_below_drewN | apply below_drew1 | refine below_set ?_ GE803.out) | exact HB.out)⟩

end Go.Proofs.Ytppfdipgaifhiaa.Q
