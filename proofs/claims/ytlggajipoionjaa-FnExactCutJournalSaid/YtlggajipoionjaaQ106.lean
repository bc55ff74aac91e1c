/- A function of the program and its contract: written by this session's qprint.py. -/
import Derived.Test.YtlggajipoionjaaQ0
import Derived.Test.YtlggajipoionjaaQ49
import Derived.Test.YtlggajipoionjaaQ51
namespace Go.Proofs.Ytlggajipoionjaa.Q
open Go.RowKit Go.Proofs.YtlggajipoionjaaW.PrintWords Go.Proofs.YtlggajipoionjaaW.PrintLast Go.Proofs.YtlggajipoionjaaW.PrintMore
attribute [local go_sem] max2_int min2_int max_two min_two max_three min_three max_four min_four   -- for this text's walks alone
set_option linter.unusedVariables false
set_option linter.unusedSimpArgs false

/-! ### spec_l33Write: function 94 -/
def spec_l33Write.l0 : Nat → List (S80) → ByteArray → Int → Int → Option (ByteArray)
  | 0, _, _, _, _ => none
  | k + 1, x0, x3, x4, x5 => if x5 < (x0.length : Int) then (if 0 ≤ x5 then ((spec_l33Check.f k x4 ((rd_T80 x0 x5).f0) ((rd_T80 x0 x5).f1)).bind fun t727 => ((spec_l33Line.f k ((rd_T80 x0 x5).f0) ((rd_T80 x0 x5).f1) t727).bind fun t729 => (if x3.size + t729.size ≤ 9223372036854775807 then (spec_l33Write.l0 k x0 (x3 ++ t729) t727 (wrap64 (x5 + 1))) else (none)))) else (none)) else (some x3)
def spec_l33Write.f (k : Nat) (l0 : List (S80)) : Option (ByteArray) := spec_l33Write.l0 k l0 (⟨#[]⟩ : ByteArray) 1 0
theorem spec_l33Write.mono_l : ∀ k, (∀ y0 y1 y2 y3, LeO (spec_l33Write.l0 k y0 y1 y2 y3) (spec_l33Write.l0 (k + 1) y0 y1 y2 y3))
  | 0 => fun _ _ _ _ r h => by simp [spec_l33Write.l0] at h
  | k + 1 => by
    have ih0 := spec_l33Write.mono_l k
    · intro y0 y1 y2 y3
      unfold spec_l33Write.l0
      repeat' first
      | (with_reducible exact ih0 _ _ _ _)
      | (with_reducible exact spec_l33Check.mono _ _ _ _)
      | (with_reducible exact spec_l33Line.mono _ _ _ _)
      | (with_reducible exact LeO.refl _)
      | (with_reducible exact LeO.none _)
      | (with_reducible refine LeO.ite ?_ ?_)
      | (with_reducible refine LeO.bind ?_ (fun _ => ?_))
      | exact ih0 _ _ _ _
      | exact spec_l33Check.mono _ _ _ _
      | exact spec_l33Line.mono _ _ _ _
      | exact LeO.none _
      | refine LeO.ite ?_ ?_
      | refine LeO.bind ?_ (fun _ => ?_)
theorem spec_l33Write.mono : ∀ a0 k, LeO (spec_l33Write.f k a0) (spec_l33Write.f (k + 1) a0) := by
  intro a0 k
  have ih0 := spec_l33Write.mono_l k
  unfold spec_l33Write.f
  repeat' first
      | (with_reducible exact ih0 _ _ _ _)
      | (with_reducible exact spec_l33Check.mono _ _ _ _)
      | (with_reducible exact spec_l33Line.mono _ _ _ _)
      | (with_reducible exact LeO.refl _)
      | (with_reducible exact LeO.none _)
      | (with_reducible refine LeO.ite ?_ ?_)
      | (with_reducible refine LeO.bind ?_ (fun _ => ?_))
      | exact ih0 _ _ _ _
      | exact spec_l33Check.mono _ _ _ _
      | exact spec_l33Line.mono _ _ _ _
      | exact LeO.none _
      | refine LeO.ite ?_ ?_
      | refine LeO.bind ?_ (fun _ => ?_)
set_option maxHeartbeats 8000000 in
set_option maxRecDepth 100000 in
theorem spec_l33Write.calls (k : Nat) (A0 : Option Addr) (c0 : Nat) (l0 : List (S80)) (r : ByteArray) (w : World) (hr0 : Kd.C k80 w A0 l0.length l0) (hc0 : l0.length ≤ c0) (h : spec_l33Write.f k l0 = some r) :
    Calls Try.prog 94 #[.slice A0 l0.length c0] w fun e w' => e = .returned (.string r) ∧ Below w.heap.size w w' := by
  have hu80 := Try.underlying80
  have HR0 := Aside0.mk hr0
  have HC0 := Aside0.mk hc0
  clear hr0 hc0
  have HB := Aside0.mk (Below.refl w.heap.size w)
  have H : (spec_l33Write.l0 k l0 (⟨#[]⟩ : ByteArray) 1 0) = some r := h
  clear h
  have H' := Aside0.mk H
  clear H
  go_enter Try.func94, Try.ntmps94
  go_wp2
  go_loopg [3, 4, 5] k (fun kq v3 v4 v5 w' => ∃ (x3_1 : ByteArray) (x4_1 : Int) (x5_1 : Int), v3 = .string x3_1 ∧ v4 = .int .i64 x4_1 ∧ v5 = .int .i64 x5_1 ∧ Aside0 (spec_l33Write.l0 kq l0 x3_1 x4_1 x5_1 = some r) ∧ Aside0 (kq ≤ k) ∧ Aside0 (Below w.heap.size w w'))
  case atStart => exact ⟨((⟨#[]⟩ : ByteArray)), (1), (0), (by first | rfl | (simp; done) | (simp [*]; done)), (by first | rfl | (simp; done) | (simp [*]; done)), (by first | rfl | (simp; done) | (simp [*]; done)), H', ⟨Nat.le_refl _⟩, ⟨by repeat (first | (with_reducible first | exact HB.out | apply below_alloc | apply pw_below_drewN | apply below_drew1) | exact HB.out)⟩⟩
  case round =>
    clear H'
    obtain ⟨x3_1, x4_1, x5_1, rfl, rfl, rfl, HA, HK1, HB⟩ := hrel
    cases gk with
    | zero => exact absurd HA.out (by simp [spec_l33Write.l0])
    | succ k1 =>
      have H := HA.out
      clear HA
      simp only [spec_l33Write.l0] at H
      by_cases c2 : x5_1 < (l0.length : Int)
      · rw [if_pos c2] at H
        have c2b0 : decide (x5_1 < (l0.length : Int)) = true := decide_eq_true c2
        clear c2
        by_cases c3 : 0 ≤ x5_1
        · rw [if_pos c3] at H
          have c3b0 : decide (0 ≤ x5_1) = true := decide_eq_true c3
          clear c3
          replace H := Option.bind_eq_some_iff.mp H
          obtain ⟨t727, A40, H⟩ := H
          replace H : ((spec_l33Line.f k1 ((rd_T80 l0 x5_1).f0) ((rd_T80 l0 x5_1).f1) t727).bind fun t729 => (if x3_1.size + t729.size ≤ 9223372036854775807 then (spec_l33Write.l0 k1 l0 (x3_1 ++ t729) t727 (wrap64 (x5_1 + 1))) else (none))) = some r := H
          have A4 := Aside0.mk A40
          clear A40
          replace H := Option.bind_eq_some_iff.mp H
          obtain ⟨t729, A50, H⟩ := H
          replace H : (if x3_1.size + t729.size ≤ 9223372036854775807 then (spec_l33Write.l0 k1 l0 (x3_1 ++ t729) t727 (wrap64 (x5_1 + 1))) else (none)) = some r := H
          have A5 := Aside0.mk A50
          clear A50
          by_cases c6 : x3_1.size + t729.size ≤ 9223372036854775807
          · rw [if_pos c6] at H
            have c6b0 := eq_true c6
            have c6b1 : decide (x3_1.size + t729.size ≤ 9223372036854775807) = true := decide_eq_true c6
            try have c6b2 : (9223372036854775807 < x3_1.size + t729.size) = False := eq_false (Nat.not_lt.2 c6)
            have H' := Aside0.mk H
            clear H
            have p726 : 0 ≤ (x5_1 : Int) := of_decide_eq_true (by first | (with_reducible assumption) | assumption)
            have q726 : x5_1 < (l0.length : Int) := of_decide_eq_true (by first | (with_reducible assumption) | assumption)
            obtain ⟨ad726, e726, hx726_0, hx726_1⟩ := at_T80 HR0.out x5_1 p726 q726
            cases e726
            replace hx726_0 := (HB.out.cell (World.block_lt_of_cell? w _ hx726_0)).trans hx726_0
            replace hx726_1 := (HB.out.cell (World.block_lt_of_cell? w _ hx726_1)).trans hx726_1
            replace p726 := eq_true p726
            replace q726 := eq_true q726
            go_wp2_with (first | ((with_reducible refine gate_callee (f := 108) rfl ?_); refine goesL_ (some 17) rfl rfl Try.func108 (by kernel_rfl) rfl #[.int .i64 x4_1, .agg #[.int .u8 ((rd_T80 l0 x5_1).f0), .string ((rd_T80 l0 x5_1).f1)]] rfl (by (try simp only [List.map_toArray, List.map_cons, List.map_nil]); first | done | rfl | (simp only [List.length_drop, List.length_take]; rfl)) ?_; (with_reducible refine (spec_l33Check.calls k1 x4_1 ((rd_T80 l0 x5_1).f0) ((rd_T80 l0 x5_1).f1) t727 _ A4.out).mono ?_); rintro e w7 ⟨rfl, hb⟩; refine ⟨_, rfl, ?_⟩; have n0_ := Aside0.mk (below_step (by repeat (first | (with_reducible first | exact HB.out | apply below_alloc | apply pw_below_drewN | apply below_drew1) | exact HB.out)) hb); clear HB; have HB := n0_; clear n0_; (try clear hb); (try clear hb2); (try clear hk); (try clear hi); have p728 : 0 ≤ (x5_1 : Int) := of_decide_eq_true (by first | (with_reducible assumption) | assumption); have q728 : x5_1 < (l0.length : Int) := of_decide_eq_true (by first | (with_reducible assumption) | assumption); obtain ⟨ad728, e728, hx728_0, hx728_1⟩ := at_T80 HR0.out x5_1 p728 q728; obtain rfl : ad726 = ad728 := (by injection e728); replace hx728_0 := (HB.out.cell (World.block_lt_of_cell? w _ hx728_0)).trans hx728_0; replace hx728_1 := (HB.out.cell (World.block_lt_of_cell? w _ hx728_1)).trans hx728_1; replace p728 := eq_true p728; replace q728 := eq_true q728) | ((with_reducible refine gate_callee (f := 109) rfl ?_); refine goesL_ (some 24) rfl rfl Try.func109 (by kernel_rfl) rfl #[.agg #[.int .u8 ((rd_T80 l0 x5_1).f0), .string ((rd_T80 l0 x5_1).f1)], .int .i64 t727] rfl (by (try simp only [List.map_toArray, List.map_cons, List.map_nil]); first | done | rfl | (simp only [List.length_drop, List.length_take]; rfl)) ?_; (with_reducible refine (spec_l33Line.calls k1 ((rd_T80 l0 x5_1).f0) ((rd_T80 l0 x5_1).f1) t727 t729 _ A5.out).mono ?_); rintro e w8 ⟨rfl, hb⟩; refine ⟨_, rfl, ?_⟩; have n0_ := Aside0.mk (below_step (by repeat (first | (with_reducible first | exact HB.out | apply below_alloc | apply pw_below_drewN | apply below_drew1) | exact HB.out)) hb); clear HB; have HB := n0_; clear n0_; (try clear hb); (try clear hb2); (try clear hk); (try clear hi)))
            go_roundg k1
            case measure => have := HK1.out; omega
            case rel => exact ⟨(x3_1 ++ t729), (t727), (wrap64 (x5_1 + 1)), (by first | rfl | (simp; done) | (simp [*]; done)), (by first | rfl | (simp; done) | (simp [*]; done)), (by first | rfl | (simp; done) | (simp [*]; done)), H', ⟨by have := HK1.out; omega⟩, ⟨by repeat (first | (with_reducible first | exact HB.out | apply below_alloc | apply pw_below_drewN | apply below_drew1) | exact HB.out)⟩⟩
          · rw [if_neg c6] at H
            exact absurd H (by simp)
        · rw [if_neg c3] at H
          exact absurd H (by simp)
      · rw [if_neg c2] at H
        have c2b0 : decide (x5_1 < (l0.length : Int)) = false := decide_eq_false c2
        clear c2
        obtain rfl := Option.some.inj H
        go_wp2
        go_ret
        exact ⟨by first | rfl | (simp [errW_none, errW_some] <;> rfl) | (simp [*, errW_none, errW_some] <;> rfl), by repeat (first | (with_reducible first | exact HB.out | apply below_alloc | apply pw_below_drewN | apply below_drew1) | exact HB.out)⟩

end Go.Proofs.Ytlggajipoionjaa.Q
