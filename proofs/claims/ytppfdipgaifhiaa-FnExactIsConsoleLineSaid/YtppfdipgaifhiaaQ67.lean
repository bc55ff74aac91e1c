/- A function of the program and its contract: written by this session's qprint.py. -/
import Derived.Test.YtppfdipgaifhiaaQ0
import Derived.Test.YtppfdipgaifhiaaQ64
import Derived.Test.YtppfdipgaifhiaaQ65
import Derived.Test.YtppfdipgaifhiaaQ66
namespace Go.Proofs.Ytppfdipgaifhiaa.Q
open Go.RowKit Go.Proofs.YtppfdipgaifhiaaW.PrintWords Go.Proofs.YtppfdipgaifhiaaW.PrintLast Go.Proofs.YtppfdipgaifhiaaW.PrintMore
attribute [local go_sem] max2_int min2_int max_two min_two max_three min_three max_four min_four   -- for this text's walks alone
set_option linter.unusedVariables false
set_option linter.unusedSimpArgs false

/-! ### impl_commandOf: function 86 -/
mutual
def impl_commandOf.j0 : Nat → List ByteArray → ByteArray → Bool → Option (ByteArray × List ByteArray × List Int × Bool)
  | 0, _, _, _ => none
  | k + 1, x4, x5, x31 => if x31 = true then (some ((⟨#[]⟩ : ByteArray), ([] : List ByteArray), ([] : List Int), false)) else (if 0 < (x4.length : Int) then (impl_commandOf.l0 k x4 x5 0 (rdOf ByteArray.empty x4 0) ([] : List ByteArray) ([] : List Int)) else (none))
def impl_commandOf.l0 : Nat → List ByteArray → ByteArray → Int → ByteArray → List ByteArray → List Int → Option (ByteArray × List ByteArray × List Int × Bool)
  | 0, _, _, _, _, _, _ => none
  | k + 1, x4, x5, x8, x628000, x628001, x628002 => if x8 < (x5.size : Int) then (if 0 ≤ (wrap64 (x8 + 1)) then (if (wrap64 (x8 + 1)) < (x4.length : Int) then (if 0 ≤ x8 then (if (bt x5 x8) = 116 then (if x628001.length < 8796093022208 then (impl_commandOf.l0 k x4 x5 (wrap64 (x8 + 1)) x628000 (x628001 ++ [rdOf ByteArray.empty x4 (wrap64 (x8 + 1))]) x628002) else (none)) else ((impl_readDecimal.f k (rdOf ByteArray.empty x4 (wrap64 (x8 + 1)))).bind fun bt632 => (if bt632.1 < 0 then (if bt632.2 = true then (if (wrap64 (((rdOf ByteArray.empty x4 (wrap64 (x8 + 1))).size : Int) - 1)) > 13 then (some ((⟨#[]⟩ : ByteArray), ([] : List ByteArray), ([] : List Int), false)) else (if (bt x5 x8) = 105 then (some ((⟨#[]⟩ : ByteArray), ([] : List ByteArray), ([] : List Int), false)) else (if x628002.length < 17592186044416 then (impl_commandOf.l0 k x4 x5 (wrap64 (x8 + 1)) x628000 x628001 (x628002 ++ [bt632.1])) else (none)))) else (some ((⟨#[]⟩ : ByteArray), ([] : List ByteArray), ([] : List Int), false))) else (if bt632.2 = true then (if ((rdOf ByteArray.empty x4 (wrap64 (x8 + 1))).size : Int) > 13 then (some ((⟨#[]⟩ : ByteArray), ([] : List ByteArray), ([] : List Int), false)) else (if x628002.length < 17592186044416 then (impl_commandOf.l0 k x4 x5 (wrap64 (x8 + 1)) x628000 x628001 (x628002 ++ [bt632.1])) else (none))) else (some ((⟨#[]⟩ : ByteArray), ([] : List ByteArray), ([] : List Int), false)))))) else (none)) else (none)) else (none)) else (some (x628000, x628001, x628002, true))
end
def impl_commandOf.f (k : Nat) (a0 : ByteArray) : Option (ByteArray × List ByteArray × List Int × Bool) := (impl_splitAt.f k a0 32).bind fun t620 => (if 0 < (t620.length : Int) then ((impl_commandShape.f k (rdOf ByteArray.empty t620 0)).bind fun bt624 => (if bt624.2 = true then (impl_commandOf.j0 k t620 bt624.1 ((t620.length : Int) != (wrap64 ((bt624.1.size : Int) + 1)))) else (impl_commandOf.j0 k t620 bt624.1 true))) else (none))
theorem impl_commandOf.mono_l : ∀ k, (∀ y0 y1 y2, LeO (impl_commandOf.j0 k y0 y1 y2) (impl_commandOf.j0 (k + 1) y0 y1 y2)) ∧ (∀ y0 y1 y2 y3 y4 y5, LeO (impl_commandOf.l0 k y0 y1 y2 y3 y4 y5) (impl_commandOf.l0 (k + 1) y0 y1 y2 y3 y4 y5))
  | 0 => ⟨fun _ _ _ r h => by simp [impl_commandOf.j0] at h, fun _ _ _ _ _ _ r h => by simp [impl_commandOf.l0] at h⟩
  | k + 1 => by
    obtain ⟨ih0, ih1⟩ := impl_commandOf.mono_l k
    refine ⟨?_, ?_⟩
    · intro y0 y1 y2
      unfold impl_commandOf.j0
      repeat' first
      | (with_reducible exact ih0 _ _ _)
      | (with_reducible exact ih1 _ _ _ _ _ _)
      | (with_reducible exact impl_commandShape.mono _ _)
      | (with_reducible exact impl_readDecimal.mono _ _)
      | (with_reducible exact impl_splitAt.mono _ _ _)
      | (with_reducible exact LeO.refl _)
      | (with_reducible exact LeO.none _)
      | (with_reducible refine LeO.ite ?_ ?_)
      | (with_reducible refine LeO.bind ?_ (fun _ => ?_))
      | exact ih0 _ _ _
      | exact ih1 _ _ _ _ _ _
      | exact impl_commandShape.mono _ _
      | exact impl_readDecimal.mono _ _
      | exact impl_splitAt.mono _ _ _
      | exact LeO.none _
      | refine LeO.ite ?_ ?_
      | refine LeO.bind ?_ (fun _ => ?_)
    · intro y0 y1 y2 y3 y4 y5
      unfold impl_commandOf.l0
      repeat' first
      | (with_reducible exact ih0 _ _ _)
      | (with_reducible exact ih1 _ _ _ _ _ _)
      | (with_reducible exact impl_commandShape.mono _ _)
      | (with_reducible exact impl_readDecimal.mono _ _)
      | (with_reducible exact impl_splitAt.mono _ _ _)
      | (with_reducible exact LeO.refl _)
      | (with_reducible exact LeO.none _)
      | (with_reducible refine LeO.ite ?_ ?_)
      | (with_reducible refine LeO.bind ?_ (fun _ => ?_))
      | exact ih0 _ _ _
      | exact ih1 _ _ _ _ _ _
      | exact impl_commandShape.mono _ _
      | exact impl_readDecimal.mono _ _
      | exact impl_splitAt.mono _ _ _
      | exact LeO.none _
      | refine LeO.ite ?_ ?_
      | refine LeO.bind ?_ (fun _ => ?_)
theorem impl_commandOf.mono : ∀ a0 k, LeO (impl_commandOf.f k a0) (impl_commandOf.f (k + 1) a0) := by
  intro a0 k
  obtain ⟨ih0, ih1⟩ := impl_commandOf.mono_l k
  unfold impl_commandOf.f
  repeat' first
      | (with_reducible exact ih0 _ _ _)
      | (with_reducible exact ih1 _ _ _ _ _ _)
      | (with_reducible exact impl_commandShape.mono _ _)
      | (with_reducible exact impl_readDecimal.mono _ _)
      | (with_reducible exact impl_splitAt.mono _ _ _)
      | (with_reducible exact LeO.refl _)
      | (with_reducible exact LeO.none _)
      | (with_reducible refine LeO.ite ?_ ?_)
      | (with_reducible refine LeO.bind ?_ (fun _ => ?_))
      | exact ih0 _ _ _
      | exact ih1 _ _ _ _ _ _
      | exact impl_commandShape.mono _ _
      | exact impl_readDecimal.mono _ _
      | exact impl_splitAt.mono _ _ _
      | exact LeO.none _
      | refine LeO.ite ?_ ?_
      | refine LeO.bind ?_ (fun _ => ?_)
set_option maxHeartbeats 8000000 in
set_option maxRecDepth 100000 in
theorem impl_commandOf.calls (k : Nat) (a0 : ByteArray) (r1 : ByteArray) (r2 : List ByteArray) (r3 : List Int) (r4 : Bool) (w : World) (h : impl_commandOf.f k a0 = some (r1, r2, r3, r4)) :
    Calls Try.prog 86 #[.string a0] w fun e w' => ∃ v1_ v2_ : Value, e = .returned (.tuple #[.agg #[.string r1, v1_, v2_], .bool r4]) ∧ Kd.R Kd.string 9 w' w.heap.size (fun _ => True) v1_ r2 ∧ Kd.R (Kd.int .i64) 2 w' w.heap.size (fun _ => True) v2_ r3 ∧ Below w.heap.size w w' := by
  have hu93 := Try.underlying93
  have HB := Aside0.mk (Below.refl w.heap.size w)
  have H : ((impl_splitAt.f k a0 32).bind fun t620 => (if 0 < (t620.length : Int) then ((impl_commandShape.f k (rdOf ByteArray.empty t620 0)).bind fun bt624 => (if bt624.2 = true then (impl_commandOf.j0 k t620 bt624.1 ((t620.length : Int) != (wrap64 ((bt624.1.size : Int) + 1)))) else (impl_commandOf.j0 k t620 bt624.1 true))) else (none))) = some (r1, r2, r3, r4) := h
  clear h
  replace H := Option.bind_eq_some_iff.mp H
  obtain ⟨t620, A20, H⟩ := H
  replace H : (if 0 < (t620.length : Int) then ((impl_commandShape.f k (rdOf ByteArray.empty t620 0)).bind fun bt624 => (if bt624.2 = true then (impl_commandOf.j0 k t620 bt624.1 ((t620.length : Int) != (wrap64 ((bt624.1.size : Int) + 1)))) else (impl_commandOf.j0 k t620 bt624.1 true))) else (none)) = some (r1, r2, r3, r4) := H
  have A2 := Aside0.mk A20
  clear A20
  by_cases c3 : 0 < (t620.length : Int)
  · rw [if_pos c3] at H
    have c3b0 : decide (0 < (t620.length : Int)) = true := decide_eq_true c3
    have c3b1 : decide (0 < t620.length) = true := decide_eq_true (by omega)
    clear c3
    replace H := Option.bind_eq_some_iff.mp H
    obtain ⟨⟨t624, t625⟩, A40, H⟩ := H
    replace H : (if t625 = true then (impl_commandOf.j0 k t620 t624 ((t620.length : Int) != (wrap64 ((t624.size : Int) + 1)))) else (impl_commandOf.j0 k t620 t624 true)) = some (r1, r2, r3, r4) := H
    have A4 := Aside0.mk A40
    clear A40
    have HC5 := Aside0.mk H
    clear H
    go_enter Try.func86, Try.ntmps86
    go_upto_region 3 with (first | ((with_reducible refine gate_dst (N := 2) rfl ?_); (try (refine gate_guard (by rfl) ?_; dsimp only)); refine box_event ?hg (N := 2) ?hd (cs := #[.string (⟨#[]⟩ : ByteArray), .slice none 0 0, .slice none 0 0]) (t := 93) ?hr ?_; (case hd => rfl); (case hg => rfl); (case hr => first | (go_simp; done) | (go_simp; rfl)); intro gb619 hg w6 hbox hb; have n0_ := Aside0.mk (below_step (by repeat (first | (with_reducible first | exact HB.out | apply below_alloc | apply pw_below_drewN | apply below_drew1) | exact HB.out)) hb); have n1_ := Aside0.mk (hbox); have n2_ := Aside0.mk ((by rw [hg]; exact (below_size (by repeat (first | (with_reducible first | exact HB.out | apply below_alloc | apply pw_below_drewN | apply below_drew1) | exact HB.out))) : w.heap.size ≤ gb619)); have n3_ := Aside0.mk ((by rw [hg]; exact (below_size (by repeat (first | (with_reducible first | exact HB.out | apply below_alloc | apply pw_below_drewN | apply below_drew1) | exact HB.out))) : w.heap.size ≤ gb619)); clear HB; have HB := n0_; have BK619 := n1_; have GW619 := n2_; have GE619 := n3_; clear n0_ n1_ n2_ n3_; clear hb hbox hg) | ((with_reducible refine gate_callee (f := 108) rfl ?_); refine goesL_ (some 14) rfl rfl Try.func108 (by kernel_rfl) rfl #[.string a0, .int .u8 32] rfl (by (try simp only [List.map_toArray, List.map_cons, List.map_nil]); first | done | rfl | (simp only [List.length_drop, List.length_take]; rfl)) ?_; (with_reducible refine (impl_splitAt.calls k a0 32 t620 _ A2.out).mono ?_); rintro e w7 ⟨v621, rfl, ho0, hb⟩; refine ⟨_, rfl, ?_⟩; have n0_ := Aside0.mk (Kd.R_lower ho0 (below_size (by repeat (first | (with_reducible first | exact HB.out | apply below_alloc | apply pw_below_drewN | apply below_drew1 | refine below_set ?_ GE619.out) | exact HB.out)))); have n1_ := Aside0.mk (blk_below (g := gb619) (o := .cells #[.string (⟨#[]⟩ : ByteArray), .slice none 0 0, .slice none 0 0] 93 (0, 0)) (by (with_reducible repeat (first | refine blk_drewN ?_ _ | refine blk_drew ?_ | refine blk_alloc ?_ _)); exact BK619.out) hb); have n2_ := Aside0.mk (below_step (by repeat (first | (with_reducible first | exact HB.out | apply below_alloc | apply pw_below_drewN | apply below_drew1 | refine below_set ?_ GE619.out) | exact HB.out)) hb); clear BK619; clear HB; have HO622 := n0_; have BK619 := n1_; have HB := n2_; clear n0_ n1_ n2_; (try clear hb); (try clear hb2); (try clear hk); (try clear hi); (try clear ho0); obtain ⟨Ao8, co8, eo8⟩ := Kd.R_slice HO622.out; subst eo8; have p623 : 0 ≤ (0 : Int) := (by omega); have q623 : 0 < (t620.length : Int) := of_decide_eq_true (by first | (with_reducible assumption) | assumption); obtain ⟨ad623, e623, hx623_0⟩ := Kd.at_string (Kd.R_reads' HO622.out).2.2 0 p623 q623; cases e623; have qi623 : (0 < t620.length) = True := eq_true (by omega); (try rw [show ((0 : Int)).toNat = 0 from rfl] at hx623_0); (try rw [Addr.add_zero'] at hx623_0); replace p623 := eq_true p623; replace q623 := eq_true q623) | ((with_reducible refine gate_callee (f := 109) rfl ?_); refine goesL_ (some 19) rfl rfl Try.func109 (by kernel_rfl) rfl #[.string (rdOf ByteArray.empty t620 0)] rfl (by (try simp only [List.map_toArray, List.map_cons, List.map_nil]); first | done | rfl | (simp only [List.length_drop, List.length_take]; rfl)) ?_; (with_reducible refine (impl_commandShape.calls k (rdOf ByteArray.empty t620 0) t624 t625 _ A4.out).mono ?_); rintro e w' ⟨rfl, ⟨nd, rfl⟩⟩; refine ⟨_, rfl, ?_⟩))
    (try simp only [Act.put, List.setIfInBounds_toArray, List.set_cons_zero, List.set_cons_succ])
    go_cut [31] (fun v31 wc => ∃ (kq : Nat) (x31_4 : Bool), v31 = .bool x31_4 ∧ Aside0 (impl_commandOf.j0 kq t620 t624 x31_4 = some (r1, r2, r3, r4)) ∧ Aside0 (kq ≤ k) ∧ Aside0 (Kd.R Kd.string 9 wc w.heap.size (fun _ => True) (.slice (some ad623) t620.length co8) t620) ∧ Aside0 (wc.heap[gb619]? = some (.cells #[.string (⟨#[]⟩ : ByteArray), (.slice none 0 0), (.slice none 0 0)] 93 (0, 0))) ∧ Aside0 (Below w.heap.size w wc))
    case first =>
      have H := HC5.out
      clear HC5
      by_cases c9 : t625 = true
      · subst c9
        have H1 : (impl_commandOf.j0 k t620 t624 ((t620.length : Int) != (wrap64 ((t624.size : Int) + 1)))) = some (r1, r2, r3, r4) := by rw [if_pos rfl] at H; exact H
        clear H
        have H := H1
        clear H1
        have H' := Aside0.mk H
        clear H
        go_wp2
        go_meet
        case rel => exact ⟨_, (((t620.length : Int) != (wrap64 ((t624.size : Int) + 1)))), (by first | rfl | (simp; done) | (simp [*]; done)), H', ⟨by first | omega | exact Nat.le_refl _⟩, ⟨by (with_reducible repeat (first | apply Kd.R_alloc | apply Kd.R_drewN | apply Kd.R_drew)); exact HO622.out⟩, ⟨by (with_reducible repeat (first | refine blk_drewN ?_ _ | refine blk_drew ?_ | refine blk_alloc ?_ _)); exact BK619.out⟩, ⟨by repeat (first | (with_reducible first | exact HB.out | apply below_alloc | apply pw_below_drewN | apply below_drew1 | refine below_set ?_ GE619.out) | exact HB.out)⟩⟩
      · replace c9 := Bool.eq_false_iff.mpr c9
        subst c9
        have H1 : (impl_commandOf.j0 k t620 t624 true) = some (r1, r2, r3, r4) := by rw [if_neg (show ¬ (false = true) by decide)] at H; exact H
        clear H
        have H := H1
        clear H1
        have H' := Aside0.mk H
        clear H
        go_wp2
        go_meet
        case rel => exact ⟨_, (true), (by first | rfl | (simp; done) | (simp [*]; done)), H', ⟨by first | omega | exact Nat.le_refl _⟩, ⟨by (with_reducible repeat (first | apply Kd.R_alloc | apply Kd.R_drewN | apply Kd.R_drew)); exact HO622.out⟩, ⟨by (with_reducible repeat (first | refine blk_drewN ?_ _ | refine blk_drew ?_ | refine blk_alloc ?_ _)); exact BK619.out⟩, ⟨by repeat (first | (with_reducible first | exact HB.out | apply below_alloc | apply pw_below_drewN | apply below_drew1 | refine below_set ?_ GE619.out) | exact HB.out)⟩⟩
    case rest =>
      clear HC5
      try clear c1
      try clear p2
      try clear c3
      try clear c3b0
      try clear c3b1
      try clear p6
      try clear q6
      try clear hx6
      try clear qi6
      try clear c8
      try clear c9
      try clear hx623_0
      try clear p623
      try clear q623
      obtain ⟨kq, x31_4, rfl, HA, HJ4, HO_4, BK619, HB⟩ := hcut
      cases kq with
      | zero => exact absurd HA.out (by simp [impl_commandOf.j0])
      | succ kj4 =>
        have H := HA.out
        clear HA
        simp only [impl_commandOf.j0] at H
        by_cases c10 : x31_4 = true
        · subst c10
          have H1 : (some ((⟨#[]⟩ : ByteArray), ([] : List ByteArray), ([] : List Int), false)) = some (r1, r2, r3, r4) := by rw [if_pos rfl] at H; exact H
          clear H
          have H := H1
          clear H1
          simp only [Option.some.injEq, Prod.mk.injEq] at H
          obtain ⟨rfl, rfl, rfl, rfl⟩ := H
          have hcz11_0 : wc.cell? ⟨gb619, 0, none⟩ = some (.string (⟨#[]⟩ : ByteArray)) := (blk_cell BK619.out 0).trans rfl
          have hcz11_1 : wc.cell? ⟨gb619, 1, none⟩ = some (.slice none 0 0) := (blk_cell BK619.out 1).trans rfl
          have hcz11_2 : wc.cell? ⟨gb619, 2, none⟩ = some (.slice none 0 0) := (blk_cell BK619.out 2).trans rfl
          have hfz11_0 := blk_frozen BK619.out 0
          have hfz11_1 := blk_frozen BK619.out 1
          have hfz11_2 := blk_frozen BK619.out 2
          go_wp2
          refine bodyPost_ret (results_ct rfl _ _ gb619 93 #[.string (⟨#[]⟩ : ByteArray), .slice none 0 0, .slice none 0 0] (0, 0) _ rfl (by (with_reducible repeat (first | refine blk_drewN ?_ _ | refine blk_drew ?_ | refine blk_alloc ?_ _)); refine blk_put (cs := #[.string (⟨#[]⟩ : ByteArray), .slice none 0 0, .slice none 0 0]) ?_ 2 _ rfl; (with_reducible repeat (first | refine blk_drewN ?_ _ | refine blk_drew ?_ | refine blk_alloc ?_ _)); refine blk_put (cs := #[.string (⟨#[]⟩ : ByteArray), .slice none 0 0, .slice none 0 0]) ?_ 1 _ rfl; (with_reducible repeat (first | refine blk_drewN ?_ _ | refine blk_drew ?_ | refine blk_alloc ?_ _)); refine blk_put (cs := #[.string (⟨#[]⟩ : ByteArray), .slice none 0 0, .slice none 0 0]) ?_ 0 _ rfl; (with_reducible repeat (first | refine blk_drewN ?_ _ | refine blk_drew ?_ | refine blk_alloc ?_ _)); exact BK619.out) Try.underlying93 rfl (by kernel_rfl)) rfl ?_
          exact ⟨_, _, by first | rfl | (simp [errW_none, errW_some] <;> rfl) | (simp [*, errW_none, errW_some] <;> rfl), by first | exact Kd.R_nil _ _ _ _ _ | exact Kd.N_nil _ _ _ _ _ | exact Kd.V_nil _ _ _ _ _ | exact Kd.Q_nil _ _ _ _ _ | exact Kd.S_nil _ _ _ _ _, by first | exact Kd.R_nil _ _ _ _ _ | exact Kd.N_nil _ _ _ _ _ | exact Kd.V_nil _ _ _ _ _ | exact Kd.Q_nil _ _ _ _ _ | exact Kd.S_nil _ _ _ _ _, by repeat (first | (with_reducible first | exact HB.out | apply below_alloc | apply pw_below_drewN | apply below_drew1 | refine below_set ?_ GE619.out) | exact HB.out)⟩
        · replace c10 := Bool.eq_false_iff.mpr c10
          subst c10
          have H1 : (if 0 < (t620.length : Int) then (impl_commandOf.l0 kj4 t620 t624 0 (rdOf ByteArray.empty t620 0) ([] : List ByteArray) ([] : List Int)) else (none)) = some (r1, r2, r3, r4) := by rw [if_neg (show ¬ (false = true) by decide)] at H; exact H
          clear H
          have H := H1
          clear H1
          by_cases c12 : 0 < (t620.length : Int)
          · rw [if_pos c12] at H
            have c12b0 : decide (0 < (t620.length : Int)) = true := decide_eq_true c12
            have c12b1 : decide (0 < t620.length) = true := decide_eq_true (by omega)
            clear c12
            have H' := Aside0.mk H
            clear H
            have p626 : 0 ≤ (0 : Int) := (by omega)
            have q626 : 0 < (t620.length : Int) := of_decide_eq_true (by first | (with_reducible assumption) | assumption)
            obtain ⟨ad626, e626, hx626_0⟩ := Kd.at_string (Kd.R_reads' HO_4.out).2.2 0 p626 q626
            obtain rfl : ad623 = ad626 := (by injection e626)
            have qi626 : (0 < t620.length) = True := eq_true (by omega)
            (try rw [show ((0 : Int)).toNat = 0 from rfl] at hx626_0)
            (try rw [Addr.add_zero'] at hx626_0)
            replace p626 := eq_true p626
            replace q626 := eq_true q626
            go_wp2_with (first | ((with_reducible refine gate_dst (N := 7) rfl ?_); (try (refine gate_guard (by rfl) ?_; dsimp only)); refine box_event ?hg (N := 7) ?hd (cs := #[.string (⟨#[]⟩ : ByteArray), .slice none 0 0, .slice none 0 0]) (t := 93) ?hr ?_; (case hd => rfl); (case hg => rfl); (case hr => first | (go_simp; done) | (go_simp; rfl)); intro gb627 hg w13 hbox hb; have n0_ := Aside0.mk (Kd.R_below (by (with_reducible repeat (first | apply Kd.R_alloc | apply Kd.R_drewN | apply Kd.R_drew)); exact HO_4.out) hb); have n1_ := Aside0.mk (blk_below (g := gb619) (o := .cells #[.string (⟨#[]⟩ : ByteArray), .slice none 0 0, .slice none 0 0] 93 (0, 0)) (by (with_reducible repeat (first | refine blk_drewN ?_ _ | refine blk_drew ?_ | refine blk_alloc ?_ _)); exact BK619.out) hb); have n2_ := Aside0.mk (below_step (by repeat (first | (with_reducible first | exact HB.out | apply below_alloc | apply pw_below_drewN | apply below_drew1 | refine below_set ?_ GE619.out) | exact HB.out)) hb); have n3_ := Aside0.mk (hbox); have n4_ := Aside0.mk ((by rw [hg]; exact (below_size (by repeat (first | (with_reducible first | exact HB.out | apply below_alloc | apply pw_below_drewN | apply below_drew1 | refine below_set ?_ GE619.out) | exact HB.out))) : w.heap.size ≤ gb627)); have n5_ := Aside0.mk ((by rw [hg]; exact (below_size (by repeat (first | (with_reducible first | exact HB.out | apply below_alloc | apply pw_below_drewN | apply below_drew1 | refine below_set ?_ GE619.out) | exact HB.out))) : w.heap.size ≤ gb627)); have n6_ := Aside0.mk ((by rw [hg]; exact Nat.ne_of_lt (blk_lt (g := gb619) (o := .cells #[.string (⟨#[]⟩ : ByteArray), .slice none 0 0, .slice none 0 0] 93 (0, 0)) (by (with_reducible repeat (first | refine blk_drewN ?_ _ | refine blk_drew ?_ | refine blk_alloc ?_ _)); exact BK619.out)) : gb619 ≠ gb627)); have n7_ := Aside0.mk ((by rw [hg]; exact Nat.ne_of_gt (blk_lt (g := gb619) (o := .cells #[.string (⟨#[]⟩ : ByteArray), .slice none 0 0, .slice none 0 0] 93 (0, 0)) (by (with_reducible repeat (first | refine blk_drewN ?_ _ | refine blk_drew ?_ | refine blk_alloc ?_ _)); exact BK619.out)) : gb627 ≠ gb619)); clear HO_4; clear BK619; clear HB; have HO_4 := n0_; have BK619 := n1_; have HB := n2_; have BK627 := n3_; have GW627 := n4_; have GE627 := n5_; have NB619_627 := n6_; have NB627_619 := n7_; clear n0_ n1_ n2_ n3_ n4_ n5_ n6_ n7_; clear hb hbox hg; have hnb14 := NB627_619.out; have hnc14 := NB619_627.out; have hcz15_0 : w13.cell? ⟨gb627, 0, none⟩ = some (.string (⟨#[]⟩ : ByteArray)) := (blk_cell BK627.out 0).trans rfl; have hcz15_1 : w13.cell? ⟨gb627, 1, none⟩ = some (.slice none 0 0) := (blk_cell BK627.out 1).trans rfl; have hcz15_2 : w13.cell? ⟨gb627, 2, none⟩ = some (.slice none 0 0) := (blk_cell BK627.out 2).trans rfl; have hfz15_0 := blk_frozen BK627.out 0; have hfz15_1 := blk_frozen BK627.out 1; have hfz15_2 := blk_frozen BK627.out 2))
            go_loopg [8] kj4 (fun kq v8 w' => ∃ (x8_2 : Int) (x620000_2 : ByteArray) (x628001_2 : List ByteArray) (x628002_2 : List Int) (u628001 : Value) (u628002 : Value), v8 = .int .i64 x8_2 ∧ Aside0 (impl_commandOf.l0 kq t620 t624 x8_2 (rdOf ByteArray.empty t620 0) x628001_2 x628002_2 = some (r1, r2, r3, r4)) ∧ Aside0 (kq ≤ kj4) ∧ Aside0 (Kd.R Kd.string 9 w' w.heap.size (fun k_ => some k_ ≠ (u628001 : Value).ownBlock) (.slice (some ad623) t620.length co8) t620) ∧ Aside0 (Kd.R Kd.string 9 w' w.heap.size (fun k_ => some k_ ≠ ((.slice (some ad623) t620.length co8) : Value).ownBlock) u628001 x628001_2) ∧ Aside0 (Kd.R (Kd.int .i64) 2 w' w.heap.size (fun _ => True) u628002 x628002_2) ∧ Aside0 (w'.heap[gb619]? = some (.cells #[.string x620000_2, (.slice none 0 0), (.slice none 0 0)] 93 (0, 0))) ∧ Aside0 (w'.heap[gb627]? = some (.cells #[.string (rdOf ByteArray.empty t620 0), u628001, u628002] 93 (0, 0))) ∧ Aside0 (Below w.heap.size w w'))
            case atStart => exact ⟨(0), ((⟨#[]⟩ : ByteArray)), (([] : List ByteArray)), (([] : List Int)), (.slice none 0 0), (.slice none 0 0), (by first | rfl | (simp; done) | (simp [*]; done)), H', ⟨Nat.le_refl _⟩, ⟨by (with_reducible repeat (first | apply Kd.R_alloc | apply Kd.R_drewN | apply Kd.R_drew)); exact Kd.R_mono (Kd.R_far (p := ⟨gb627, 2, none⟩) (Kd.R_far (p := ⟨gb627, 1, none⟩) (Kd.R_far (p := ⟨gb627, 0, none⟩) (Kd.R_types HO_4.out BK627.out (by decide)) (fun _ hk => hk.2) (.string (rdOf ByteArray.empty t620 0))) (fun _ hk => hk.2) (.slice none 0 0)) (fun _ hk => hk.2) (.slice none 0 0)) (fun _ hk => (by simp [Value.ownBlock]))⟩, ⟨by first | exact Kd.R_nil _ _ _ _ _ | exact Kd.N_nil _ _ _ _ _ | exact Kd.V_nil _ _ _ _ _ | exact Kd.Q_nil _ _ _ _ _ | exact Kd.S_nil _ _ _ _ _⟩, ⟨by first | exact Kd.R_nil _ _ _ _ _ | exact Kd.N_nil _ _ _ _ _ | exact Kd.V_nil _ _ _ _ _ | exact Kd.Q_nil _ _ _ _ _ | exact Kd.S_nil _ _ _ _ _⟩, ⟨by (with_reducible repeat (first | refine blk_drewN ?_ _ | refine blk_drew ?_ | refine blk_alloc ?_ _)); refine blk_far ?_ NB619_627.out _; (with_reducible repeat (first | refine blk_drewN ?_ _ | refine blk_drew ?_ | refine blk_alloc ?_ _)); refine blk_far ?_ NB619_627.out _; (with_reducible repeat (first | refine blk_drewN ?_ _ | refine blk_drew ?_ | refine blk_alloc ?_ _)); refine blk_far ?_ NB619_627.out _; (with_reducible repeat (first | refine blk_drewN ?_ _ | refine blk_drew ?_ | refine blk_alloc ?_ _)); exact BK619.out⟩, ⟨by (with_reducible repeat (first | refine blk_drewN ?_ _ | refine blk_drew ?_ | refine blk_alloc ?_ _)); refine blk_put (cs := #[.string (rdOf ByteArray.empty t620 0), .slice none 0 0, .slice none 0 0]) ?_ 2 _ rfl; (with_reducible repeat (first | refine blk_drewN ?_ _ | refine blk_drew ?_ | refine blk_alloc ?_ _)); refine blk_put (cs := #[.string (rdOf ByteArray.empty t620 0), .slice none 0 0, .slice none 0 0]) ?_ 1 _ rfl; (with_reducible repeat (first | refine blk_drewN ?_ _ | refine blk_drew ?_ | refine blk_alloc ?_ _)); refine blk_put (cs := #[.string (⟨#[]⟩ : ByteArray), .slice none 0 0, .slice none 0 0]) ?_ 0 _ rfl; (with_reducible repeat (first | refine blk_drewN ?_ _ | refine blk_drew ?_ | refine blk_alloc ?_ _)); exact BK627.out⟩, ⟨by repeat (first | (with_reducible first | exact HB.out | apply below_alloc | apply pw_below_drewN | apply below_drew1 | refine below_set ?_ GE619.out | refine below_set ?_ GE627.out) | exact HB.out)⟩⟩
            case round =>
              clear H'
              try clear c1
              try clear p2
              try clear c3
              try clear c3b0
              try clear c3b1
              try clear p6
              try clear q6
              try clear hx6
              try clear qi6
              try clear c8
              try clear c9
              try clear c10
              try clear c12
              try clear c12b0
              try clear c12b1
              try clear c14
              try clear hcz11_0
              try clear hcz11_1
              try clear hcz11_2
              try clear hcz15_0
              try clear hcz15_1
              try clear hcz15_2
              try clear hfz11_0
              try clear hfz11_1
              try clear hfz11_2
              try clear hfz15_0
              try clear hfz15_1
              try clear hfz15_2
              try clear hx623_0
              try clear hx626_0
              try clear p2
              try clear p6
              try clear p623
              try clear p626
              try clear q6
              try clear q623
              try clear q626
              obtain ⟨x8_2, x620000_2, x628001_2, x628002_2, u628001, u628002, rfl, HA, HK2, HO_4, HO_628001, HO_628002, BK619, BK627, HB⟩ := hrel
              cases gk with
              | zero => exact absurd HA.out (by simp [impl_commandOf.l0])
              | succ k2 =>
                have H := HA.out
                clear HA
                simp only [impl_commandOf.l0] at H
                by_cases c16 : x8_2 < (t624.size : Int)
                · rw [if_pos c16] at H
                  have c16b0 : decide (x8_2 < (t624.size : Int)) = true := decide_eq_true c16
                  clear c16
                  obtain ⟨ji17, hji17⟩ : ∃ j_ : Int, (wrap64 (x8_2 + 1)) = j_ := ⟨_, rfl⟩
                  replace H : (if 0 ≤ (ji17) then (if (ji17) < (t620.length : Int) then (if 0 ≤ x8_2 then (if (bt t624 x8_2) = 116 then (if x628001_2.length < 8796093022208 then (impl_commandOf.l0 k2 t620 t624 ji17 (rdOf ByteArray.empty t620 0) (x628001_2 ++ [rdOf ByteArray.empty t620 (ji17)]) x628002_2) else (none)) else ((impl_readDecimal.f k2 (rdOf ByteArray.empty t620 (ji17))).bind fun bt632 => (if bt632.1 < 0 then (if bt632.2 = true then (if (wrap64 (((rdOf ByteArray.empty t620 (ji17)).size : Int) - 1)) > 13 then (some ((⟨#[]⟩ : ByteArray), ([] : List ByteArray), ([] : List Int), false)) else (if (bt t624 x8_2) = 105 then (some ((⟨#[]⟩ : ByteArray), ([] : List ByteArray), ([] : List Int), false)) else (if x628002_2.length < 17592186044416 then (impl_commandOf.l0 k2 t620 t624 ji17 (rdOf ByteArray.empty t620 0) x628001_2 (x628002_2 ++ [bt632.1])) else (none)))) else (some ((⟨#[]⟩ : ByteArray), ([] : List ByteArray), ([] : List Int), false))) else (if bt632.2 = true then (if ((rdOf ByteArray.empty t620 (ji17)).size : Int) > 13 then (some ((⟨#[]⟩ : ByteArray), ([] : List ByteArray), ([] : List Int), false)) else (if x628002_2.length < 17592186044416 then (impl_commandOf.l0 k2 t620 t624 ji17 (rdOf ByteArray.empty t620 0) x628001_2 (x628002_2 ++ [bt632.1])) else (none))) else (some ((⟨#[]⟩ : ByteArray), ([] : List ByteArray), ([] : List Int), false)))))) else (none)) else (none)) else (none)) = some (r1, r2, r3, r4) := by first | (rw [hji17] at H; exact H) | (simp only [hji17] at H ⊢; exact H)
                  have hji17w : (IntKind.i64.wrap (x8_2 + 1)) = ji17 := (i64_w _).trans hji17
                  by_cases c18 : 0 ≤ (ji17)
                  · rw [if_pos c18] at H
                    have c18b0 : decide (0 ≤ (ji17)) = true := decide_eq_true c18
                    clear c18
                    by_cases c19 : (ji17) < (t620.length : Int)
                    · rw [if_pos c19] at H
                      have c19b0 : decide ((ji17) < (t620.length : Int)) = true := decide_eq_true c19
                      clear c19
                      by_cases c20 : 0 ≤ x8_2
                      · rw [if_pos c20] at H
                        have c20b0 : decide (0 ≤ x8_2) = true := decide_eq_true c20
                        clear c20
                        by_cases c22 : (bt t624 x8_2) = 116
                        · rw [if_pos c22] at H
                          have c22b0 : ((bt t624 x8_2) == 116) = true := beq_iff_eq.mpr c22
                          have c22b1 : ((bt t624 x8_2) != 116) = false := bne_eq_false_iff_eq.mpr c22
                          clear c22
                          by_cases c23 : x628001_2.length < 8796093022208
                          · rw [if_pos c23] at H
                            have LMc23 := Aside0.mk c23
                            clear c23
                            obtain ⟨y629, hy629⟩ : ∃ y_ : List ByteArray, y_ = (x628001_2 ++ [rdOf ByteArray.empty t620 (ji17)]) := ⟨_, rfl⟩
                            replace H : (impl_commandOf.l0 k2 t620 t624 ji17 (rdOf ByteArray.empty t620 0) y629 x628002_2) = some (r1, r2, r3, r4) := by first | (rw [hy629]; with_reducible exact H) | (have H2_ := (Option.bind_some _ _).symm.trans H; rw [hy629]; with_reducible exact H2_) | (have H2_ := (Option.bind_some _ _).symm.trans H; with_reducible exact H2_) | with_reducible exact H | (rw [hy629]; exact H) | exact H
                            have Ny629 := Aside0.mk hy629
                            clear hy629
                            have H' := Aside0.mk H
                            clear H
                            have p628 : 0 ≤ ((ji17) : Int) := of_decide_eq_true (by first | (with_reducible assumption) | assumption)
                            have q628 : (ji17) < (t620.length : Int) := of_decide_eq_true (by first | (with_reducible assumption) | assumption)
                            obtain ⟨ad628, e628, hx628_0⟩ := Kd.at_string (Kd.R_reads' HO_4.out).2.2 (ji17) p628 q628
                            obtain rfl : ad623 = ad628 := (by injection e628)
                            replace p628 := eq_true p628
                            replace q628 := eq_true q628
                            have p21 : 0 ≤ (x8_2 : Int) := of_decide_eq_true (by first | (with_reducible assumption) | assumption)
                            have q21 : x8_2 < (t624.size : Int) := of_decide_eq_true (by first | (with_reducible assumption) | assumption)
                            have hx21 := bt_at t624 x8_2
                            replace p21 := eq_true p21
                            replace q21 := eq_true q21
                            have hnb24 := NB627_619.out
                            have hnc24 := NB619_627.out
                            have hcz25_0 : wr.cell? ⟨gb627, 0, none⟩ = some (.string (rdOf ByteArray.empty t620 0)) := (blk_cell BK627.out 0).trans rfl
                            have hcz25_1 : wr.cell? ⟨gb627, 1, none⟩ = some (u628001) := (blk_cell BK627.out 1).trans rfl
                            have hcz25_2 : wr.cell? ⟨gb627, 2, none⟩ = some (u628002) := (blk_cell BK627.out 2).trans rfl
                            have hfz25_0 := blk_frozen BK627.out 0
                            have hfz25_1 := blk_frozen BK627.out 1
                            have hfz25_2 := blk_frozen BK627.out 2
                            go_wp2_with (first | ((with_reducible refine gate_builtin (b := .append) (xs := #[.tmp 53, .tmp 55]) rfl ?_); (try (refine gate_guard (by rfl) ?_; dsimp only)); at_builtin; refine Kd.R_append Kd.string (w0 := w) w.heap.size rfl (.tmp 53) (.tmp 55) 58 9 (.string ⟨#[]⟩) 16 rfl Try.underlying58 info9 rfl (by decide) (by omega) u628001 x628001_2 (rdOf ByteArray.empty t620 (ji17)) [.string (rdOf ByteArray.empty t620 (ji17))] (fun k_ => some k_ ≠ (.slice (some ad623) t620.length co8 : Value).ownBlock) (fun _ => False) rfl rfl ?aP (fun _ hk => hk.elim) ?aF ?aO ?aB ?aS ?aL ?_; (case aP => exact rfl); (case aB => exact (by repeat (first | (with_reducible first | exact HB.out | apply below_alloc | apply pw_below_drewN | apply below_drew1 | refine below_set ?_ GE619.out | refine below_set ?_ GE627.out) | exact HB.out))); (case aF => exact (fun k_ hk => Kd.fresh' (Kd.R_lt (by (with_reducible repeat (first | apply Kd.R_alloc | apply Kd.R_drewN | apply Kd.R_drew)); exact HO_4.out)) k_ hk)); (case aO => exact (by (with_reducible repeat (first | apply Kd.R_alloc | apply Kd.R_drewN | apply Kd.R_drew)); exact HO_628001.out)); (case aS => exact (below_size (by repeat (first | (with_reducible first | exact HB.out | apply below_alloc | apply pw_below_drewN | apply below_drew1 | refine below_set ?_ GE619.out | refine below_set ?_ GE627.out) | exact HB.out)))); (case aL => have := LMc23.out; omega); intro v630 w26 ho hb hg hat; rw [← Ny629.out] at ho; have n0_ := Aside0.mk (Kd.R_after (ok := (fun _ => True)) (by (with_reducible repeat (first | apply Kd.R_alloc | apply Kd.R_drewN | apply Kd.R_drew)); exact Kd.R_mono HO_4.out (fun _ hk => ⟨trivial, hk⟩)) hg hat); have n1_ := Aside0.mk (Kd.R_over' (by (with_reducible repeat (first | apply Kd.R_alloc | apply Kd.R_drewN | apply Kd.R_drew)); exact HO_628002.out) (Kd.R_typed (by (with_reducible repeat (first | apply Kd.R_alloc | apply Kd.R_drewN | apply Kd.R_drew)); exact HO_628001.out)) (by decide) hg); have n2_ := Aside0.mk (blk_grown (g := gb619) (o := .cells #[.string x620000_2, .slice none 0 0, .slice none 0 0] 93 (0, 0)) (by (with_reducible repeat (first | refine blk_drewN ?_ _ | refine blk_drew ?_ | refine blk_alloc ?_ _)); exact BK619.out) hg (Kd.R_ne HO_628001.out BK619.out (by decide))); have n3_ := Aside0.mk (blk_grown (g := gb627) (o := .cells #[.string (rdOf ByteArray.empty t620 0), u628001, u628002] 93 (0, 0)) (by (with_reducible repeat (first | refine blk_drewN ?_ _ | refine blk_drew ?_ | refine blk_alloc ?_ _)); exact BK627.out) hg (Kd.R_ne HO_628001.out BK627.out (by decide))); have n4_ := Aside0.mk (hb); have n5_ := Aside0.mk (ho); clear HO_4; clear HO_628002; clear BK619; clear BK627; clear HB; clear HO_628001; have HO_4 := n0_; have HO_628002 := n1_; have BK619 := n2_; have BK627 := n3_; have HB := n4_; have HO631 := n5_; clear n0_ n1_ n2_ n3_ n4_ n5_; clear ho hb hg hat; obtain ⟨Ao27, co27, eo27⟩ := Kd.R_slice HO631.out; subst eo27; have hcz28_0 : w26.cell? ⟨gb627, 0, none⟩ = some (.string (rdOf ByteArray.empty t620 0)) := (blk_cell BK627.out 0).trans rfl; have hcz28_1 : w26.cell? ⟨gb627, 1, none⟩ = some (u628001) := (blk_cell BK627.out 1).trans rfl; have hcz28_2 : w26.cell? ⟨gb627, 2, none⟩ = some (u628002) := (blk_cell BK627.out 2).trans rfl; have hfz28_0 := blk_frozen BK627.out 0; have hfz28_1 := blk_frozen BK627.out 1; have hfz28_2 := blk_frozen BK627.out 2))
                            go_roundg k2
                            case measure => have := HJ4.out; have := HK2.out; omega
                            case rel => exact ⟨(ji17), (x620000_2), (y629), (x628002_2), (.slice Ao27 y629.length co27), (u628002), (by first | rfl | (simp; done) | (simp only [← hji17] <;> (first | rfl | simp)) | (simp [*]; done)), H', ⟨by have := HJ4.out; have := HK2.out; omega⟩, ⟨by (with_reducible repeat (first | apply Kd.R_alloc | apply Kd.R_drewN | apply Kd.R_drew)); exact Kd.R_mono (Kd.R_far (p := ⟨gb627, 1, none⟩) (Kd.R_types HO_4.out BK627.out (by decide)) (fun _ hk => hk.2) (.slice Ao27 y629.length co27)) (fun _ hk => hk.1.2)⟩, ⟨by (with_reducible repeat (first | apply Kd.R_alloc | apply Kd.R_drewN | apply Kd.R_drew)); exact Kd.R_mono (Kd.R_far (p := ⟨gb627, 1, none⟩) (Kd.R_types HO631.out BK627.out (by decide)) (fun _ hk => hk.2) (.slice Ao27 y629.length co27)) (fun _ hk => hk.1)⟩, ⟨by (with_reducible repeat (first | apply Kd.R_alloc | apply Kd.R_drewN | apply Kd.R_drew)); exact Kd.R_mono (Kd.R_far (p := ⟨gb627, 1, none⟩) (Kd.R_types HO_628002.out BK627.out (by decide)) (fun _ hk => hk.2) (.slice Ao27 y629.length co27)) (fun _ hk => trivial)⟩, ⟨by (with_reducible repeat (first | refine blk_drewN ?_ _ | refine blk_drew ?_ | refine blk_alloc ?_ _)); refine blk_far ?_ NB619_627.out _; (with_reducible repeat (first | refine blk_drewN ?_ _ | refine blk_drew ?_ | refine blk_alloc ?_ _)); exact BK619.out⟩, ⟨by (with_reducible repeat (first | refine blk_drewN ?_ _ | refine blk_drew ?_ | refine blk_alloc ?_ _)); refine blk_put (cs := #[.string (rdOf ByteArray.empty t620 0), u628001, u628002]) ?_ 1 _ rfl; (with_reducible repeat (first | refine blk_drewN ?_ _ | refine blk_drew ?_ | refine blk_alloc ?_ _)); exact BK627.out⟩, ⟨by repeat (first | (with_reducible first | exact HB.out | apply below_alloc | apply pw_below_drewN | apply below_drew1 | refine below_set ?_ GE619.out | refine below_set ?_ GE627.out) | exact HB.out)⟩⟩
                          · rw [if_neg c23] at H
                            exact absurd H (by simp)
                        · rw [if_neg c22] at H
                          have c22b0 : ((bt t624 x8_2) == 116) = false := beq_eq_false_iff_ne.mpr c22
                          have c22b1 : ((bt t624 x8_2) != 116) = true := bne_iff_ne.mpr c22
                          replace H := Option.bind_eq_some_iff.mp H
                          obtain ⟨⟨t632, t633⟩, A290, H⟩ := H
                          replace H : (if t632 < 0 then (if t633 = true then (if (wrap64 (((rdOf ByteArray.empty t620 (ji17)).size : Int) - 1)) > 13 then (some ((⟨#[]⟩ : ByteArray), ([] : List ByteArray), ([] : List Int), false)) else (if (bt t624 x8_2) = 105 then (some ((⟨#[]⟩ : ByteArray), ([] : List ByteArray), ([] : List Int), false)) else (if x628002_2.length < 17592186044416 then (impl_commandOf.l0 k2 t620 t624 ji17 (rdOf ByteArray.empty t620 0) x628001_2 (x628002_2 ++ [t632])) else (none)))) else (some ((⟨#[]⟩ : ByteArray), ([] : List ByteArray), ([] : List Int), false))) else (if t633 = true then (if ((rdOf ByteArray.empty t620 (ji17)).size : Int) > 13 then (some ((⟨#[]⟩ : ByteArray), ([] : List ByteArray), ([] : List Int), false)) else (if x628002_2.length < 17592186044416 then (impl_commandOf.l0 k2 t620 t624 ji17 (rdOf ByteArray.empty t620 0) x628001_2 (x628002_2 ++ [t632])) else (none))) else (some ((⟨#[]⟩ : ByteArray), ([] : List ByteArray), ([] : List Int), false)))) = some (r1, r2, r3, r4) := H
                          have A29 := Aside0.mk A290
                          clear A290
                          by_cases c30 : t632 < 0
                          · rw [if_pos c30] at H
                            have c30b0 : decide (t632 < 0) = true := decide_eq_true c30
                            clear c30
                            by_cases c31 : t633 = true
                            · subst c31
                              have H1 : (if (wrap64 (((rdOf ByteArray.empty t620 (ji17)).size : Int) - 1)) > 13 then (some ((⟨#[]⟩ : ByteArray), ([] : List ByteArray), ([] : List Int), false)) else (if (bt t624 x8_2) = 105 then (some ((⟨#[]⟩ : ByteArray), ([] : List ByteArray), ([] : List Int), false)) else (if x628002_2.length < 17592186044416 then (impl_commandOf.l0 k2 t620 t624 ji17 (rdOf ByteArray.empty t620 0) x628001_2 (x628002_2 ++ [t632])) else (none)))) = some (r1, r2, r3, r4) := by rw [if_pos rfl] at H; exact H
                              clear H
                              have H := H1
                              clear H1
                              by_cases c32 : (wrap64 (((rdOf ByteArray.empty t620 (ji17)).size : Int) - 1)) > 13
                              · rw [if_pos c32] at H
                                have c32b0 : decide (13 < (wrap64 (((rdOf ByteArray.empty t620 (ji17)).size : Int) - 1))) = true := decide_eq_true c32
                                clear c32
                                simp only [Option.some.injEq, Prod.mk.injEq] at H
                                obtain ⟨rfl, rfl, rfl, rfl⟩ := H
                                have p628 : 0 ≤ ((ji17) : Int) := of_decide_eq_true (by first | (with_reducible assumption) | assumption)
                                have q628 : (ji17) < (t620.length : Int) := of_decide_eq_true (by first | (with_reducible assumption) | assumption)
                                obtain ⟨ad628, e628, hx628_0⟩ := Kd.at_string (Kd.R_reads' HO_4.out).2.2 (ji17) p628 q628
                                obtain rfl : ad623 = ad628 := (by injection e628)
                                replace p628 := eq_true p628
                                replace q628 := eq_true q628
                                have p21 : 0 ≤ (x8_2 : Int) := of_decide_eq_true (by first | (with_reducible assumption) | assumption)
                                have q21 : x8_2 < (t624.size : Int) := of_decide_eq_true (by first | (with_reducible assumption) | assumption)
                                have hx21 := bt_at t624 x8_2
                                replace p21 := eq_true p21
                                replace q21 := eq_true q21
                                go_wp2_with (first | ((with_reducible refine gate_callee (f := 110) rfl ?_); refine goesL_ (some 60) rfl rfl Try.func110 (by kernel_rfl) rfl #[.string (rdOf ByteArray.empty t620 (ji17))] rfl (by (try simp only [List.map_toArray, List.map_cons, List.map_nil]); first | done | (simp only [hji17]; rfl) | rfl | (simp only [List.length_drop, List.length_take]; rfl)) ?_; (with_reducible refine (impl_readDecimal.calls k2 (rdOf ByteArray.empty t620 (ji17)) t632 true _ A29.out).mono ?_); rintro e w' ⟨rfl, ⟨nd, rfl⟩⟩; refine ⟨_, rfl, ?_⟩; (try (rw [drewN_self wr]; generalize hq_ : World.drewN wr _ = wr; have n0_ : Aside0 (Kd.R Kd.string 9 wr w.heap.size (fun k_ => some k_ ≠ (u628001 : Value).ownBlock) (.slice (some ad623) t620.length co8) t620) := ⟨by rw [← hq_]; exact (by (with_reducible repeat (first | apply Kd.R_alloc | apply Kd.R_drewN | apply Kd.R_drew)); exact HO_4.out)⟩; have n1_ : Aside0 (Kd.R Kd.string 9 wr w.heap.size (fun k_ => some k_ ≠ (.slice (some ad623) t620.length co8 : Value).ownBlock) u628001 x628001_2) := ⟨by rw [← hq_]; exact (by (with_reducible repeat (first | apply Kd.R_alloc | apply Kd.R_drewN | apply Kd.R_drew)); exact HO_628001.out)⟩; have n2_ : Aside0 (Kd.R (Kd.int .i64) 2 wr w.heap.size (fun _ => True) u628002 x628002_2) := ⟨by rw [← hq_]; exact (by (with_reducible repeat (first | apply Kd.R_alloc | apply Kd.R_drewN | apply Kd.R_drew)); exact HO_628002.out)⟩; have n3_ : Aside0 (wr.heap[gb619]? = some (.cells #[.string x620000_2, .slice none 0 0, .slice none 0 0] 93 (0, 0))) := ⟨by rw [← hq_]; exact (by (with_reducible repeat (first | refine blk_drewN ?_ _ | refine blk_drew ?_ | refine blk_alloc ?_ _)); exact BK619.out)⟩; have n4_ : Aside0 (wr.heap[gb627]? = some (.cells #[.string (rdOf ByteArray.empty t620 0), u628001, u628002] 93 (0, 0))) := ⟨by rw [← hq_]; exact (by (with_reducible repeat (first | refine blk_drewN ?_ _ | refine blk_drew ?_ | refine blk_alloc ?_ _)); exact BK627.out)⟩; have n5_ : Aside0 (Below w.heap.size w wr) := ⟨by rw [← hq_]; exact (by repeat (first | (with_reducible first | exact HB.out | apply below_alloc | apply pw_below_drewN | apply below_drew1 | refine below_set ?_ GE619.out | refine below_set ?_ GE627.out) | exact HB.out))⟩; clear HO_4 HO_628001 HO_628002 BK619 BK627 HB hq_; have HO_4 := n0_; have HO_628001 := n1_; have HO_628002 := n2_; have BK619 := n3_; have BK627 := n4_; have HB := n5_; clear n0_ n1_ n2_ n3_ n4_ n5_)); have hnb33 := NB619_627.out; have hnc33 := NB627_619.out; have hcz34_0 : wr.cell? ⟨gb619, 0, none⟩ = some (.string x620000_2) := (blk_cell BK619.out 0).trans rfl; have hcz34_1 : wr.cell? ⟨gb619, 1, none⟩ = some (.slice none 0 0) := (blk_cell BK619.out 1).trans rfl; have hcz34_2 : wr.cell? ⟨gb619, 2, none⟩ = some (.slice none 0 0) := (blk_cell BK619.out 2).trans rfl; have hfz34_0 := blk_frozen BK619.out 0; have hfz34_1 := blk_frozen BK619.out 1; have hfz34_2 := blk_frozen BK619.out 2))
                                refine bodyPost_ret (results_ct rfl _ _ gb619 93 #[.string (⟨#[]⟩ : ByteArray), .slice none 0 0, .slice none 0 0] (0, 0) _ rfl (by (with_reducible repeat (first | refine blk_drewN ?_ _ | refine blk_drew ?_ | refine blk_alloc ?_ _)); refine blk_put (cs := #[.string (⟨#[]⟩ : ByteArray), .slice none 0 0, .slice none 0 0]) ?_ 2 _ rfl; (with_reducible repeat (first | refine blk_drewN ?_ _ | refine blk_drew ?_ | refine blk_alloc ?_ _)); refine blk_put (cs := #[.string (⟨#[]⟩ : ByteArray), .slice none 0 0, .slice none 0 0]) ?_ 1 _ rfl; (with_reducible repeat (first | refine blk_drewN ?_ _ | refine blk_drew ?_ | refine blk_alloc ?_ _)); refine blk_put (cs := #[.string x620000_2, .slice none 0 0, .slice none 0 0]) ?_ 0 _ rfl; (with_reducible repeat (first | refine blk_drewN ?_ _ | refine blk_drew ?_ | refine blk_alloc ?_ _)); exact BK619.out) Try.underlying93 rfl (by kernel_rfl)) rfl ?_
                                exact ⟨_, _, by first | rfl | (simp [errW_none, errW_some] <;> rfl) | (simp only [← hji17]; first | rfl | (simp [errW_none, errW_some] <;> rfl)) | (simp [*, errW_none, errW_some] <;> rfl), by first | exact Kd.R_nil _ _ _ _ _ | exact Kd.N_nil _ _ _ _ _ | exact Kd.V_nil _ _ _ _ _ | exact Kd.Q_nil _ _ _ _ _ | exact Kd.S_nil _ _ _ _ _, by first | exact Kd.R_nil _ _ _ _ _ | exact Kd.N_nil _ _ _ _ _ | exact Kd.V_nil _ _ _ _ _ | exact Kd.Q_nil _ _ _ _ _ | exact Kd.S_nil _ _ _ _ _, by repeat (first | (with_reducible first | exact HB.out | apply below_alloc | apply pw_below_drewN | apply below_drew1 | refine below_set ?_ GE619.out | refine below_set ?_ GE627.out) | exact HB.out)⟩
                              · rw [if_neg c32] at H
                                have c32b0 : decide (13 < (wrap64 (((rdOf ByteArray.empty t620 (ji17)).size : Int) - 1))) = false := decide_eq_false c32
                                clear c32
                                by_cases c36 : (bt t624 x8_2) = 105
                                · rw [if_pos c36] at H
                                  have c36b0 : ((bt t624 x8_2) == 105) = true := beq_iff_eq.mpr c36
                                  have c36b1 : ((bt t624 x8_2) != 105) = false := bne_eq_false_iff_eq.mpr c36
                                  clear c36
                                  simp only [Option.some.injEq, Prod.mk.injEq] at H
                                  obtain ⟨rfl, rfl, rfl, rfl⟩ := H
                                  have p628 : 0 ≤ ((ji17) : Int) := of_decide_eq_true (by first | (with_reducible assumption) | assumption)
                                  have q628 : (ji17) < (t620.length : Int) := of_decide_eq_true (by first | (with_reducible assumption) | assumption)
                                  obtain ⟨ad628, e628, hx628_0⟩ := Kd.at_string (Kd.R_reads' HO_4.out).2.2 (ji17) p628 q628
                                  obtain rfl : ad623 = ad628 := (by injection e628)
                                  replace p628 := eq_true p628
                                  replace q628 := eq_true q628
                                  have p21 : 0 ≤ (x8_2 : Int) := of_decide_eq_true (by first | (with_reducible assumption) | assumption)
                                  have q21 : x8_2 < (t624.size : Int) := of_decide_eq_true (by first | (with_reducible assumption) | assumption)
                                  have hx21 := bt_at t624 x8_2
                                  replace p21 := eq_true p21
                                  replace q21 := eq_true q21
                                  go_wp2_with (first | ((with_reducible refine gate_callee (f := 110) rfl ?_); refine goesL_ (some 60) rfl rfl Try.func110 (by kernel_rfl) rfl #[.string (rdOf ByteArray.empty t620 (ji17))] rfl (by (try simp only [List.map_toArray, List.map_cons, List.map_nil]); first | done | (simp only [hji17]; rfl) | rfl | (simp only [List.length_drop, List.length_take]; rfl)) ?_; (with_reducible refine (impl_readDecimal.calls k2 (rdOf ByteArray.empty t620 (ji17)) t632 true _ A29.out).mono ?_); rintro e w' ⟨rfl, ⟨nd, rfl⟩⟩; refine ⟨_, rfl, ?_⟩; (try (rw [drewN_self wr]; generalize hq_ : World.drewN wr _ = wr; have n0_ : Aside0 (Kd.R Kd.string 9 wr w.heap.size (fun k_ => some k_ ≠ (u628001 : Value).ownBlock) (.slice (some ad623) t620.length co8) t620) := ⟨by rw [← hq_]; exact (by (with_reducible repeat (first | apply Kd.R_alloc | apply Kd.R_drewN | apply Kd.R_drew)); exact HO_4.out)⟩; have n1_ : Aside0 (Kd.R Kd.string 9 wr w.heap.size (fun k_ => some k_ ≠ (.slice (some ad623) t620.length co8 : Value).ownBlock) u628001 x628001_2) := ⟨by rw [← hq_]; exact (by (with_reducible repeat (first | apply Kd.R_alloc | apply Kd.R_drewN | apply Kd.R_drew)); exact HO_628001.out)⟩; have n2_ : Aside0 (Kd.R (Kd.int .i64) 2 wr w.heap.size (fun _ => True) u628002 x628002_2) := ⟨by rw [← hq_]; exact (by (with_reducible repeat (first | apply Kd.R_alloc | apply Kd.R_drewN | apply Kd.R_drew)); exact HO_628002.out)⟩; have n3_ : Aside0 (wr.heap[gb619]? = some (.cells #[.string x620000_2, .slice none 0 0, .slice none 0 0] 93 (0, 0))) := ⟨by rw [← hq_]; exact (by (with_reducible repeat (first | refine blk_drewN ?_ _ | refine blk_drew ?_ | refine blk_alloc ?_ _)); exact BK619.out)⟩; have n4_ : Aside0 (wr.heap[gb627]? = some (.cells #[.string (rdOf ByteArray.empty t620 0), u628001, u628002] 93 (0, 0))) := ⟨by rw [← hq_]; exact (by (with_reducible repeat (first | refine blk_drewN ?_ _ | refine blk_drew ?_ | refine blk_alloc ?_ _)); exact BK627.out)⟩; have n5_ : Aside0 (Below w.heap.size w wr) := ⟨by rw [← hq_]; exact (by repeat (first | (with_reducible first | exact HB.out | apply below_alloc | apply pw_below_drewN | apply below_drew1 | refine below_set ?_ GE619.out | refine below_set ?_ GE627.out) | exact HB.out))⟩; clear HO_4 HO_628001 HO_628002 BK619 BK627 HB hq_; have HO_4 := n0_; have HO_628001 := n1_; have HO_628002 := n2_; have BK619 := n3_; have BK627 := n4_; have HB := n5_; clear n0_ n1_ n2_ n3_ n4_ n5_)); have p35 : 0 ≤ (x8_2 : Int) := of_decide_eq_true (by first | (with_reducible assumption) | assumption); have q35 : x8_2 < (t624.size : Int) := of_decide_eq_true (by first | (with_reducible assumption) | assumption); have hx35 := bt_at t624 x8_2; replace p35 := eq_true p35; replace q35 := eq_true q35; have hnb37 := NB619_627.out; have hnc37 := NB627_619.out; have hcz38_0 : wr.cell? ⟨gb619, 0, none⟩ = some (.string x620000_2) := (blk_cell BK619.out 0).trans rfl; have hcz38_1 : wr.cell? ⟨gb619, 1, none⟩ = some (.slice none 0 0) := (blk_cell BK619.out 1).trans rfl; have hcz38_2 : wr.cell? ⟨gb619, 2, none⟩ = some (.slice none 0 0) := (blk_cell BK619.out 2).trans rfl; have hfz38_0 := blk_frozen BK619.out 0; have hfz38_1 := blk_frozen BK619.out 1; have hfz38_2 := blk_frozen BK619.out 2))
                                  refine bodyPost_ret (results_ct rfl _ _ gb619 93 #[.string (⟨#[]⟩ : ByteArray), .slice none 0 0, .slice none 0 0] (0, 0) _ rfl (by (with_reducible repeat (first | refine blk_drewN ?_ _ | refine blk_drew ?_ | refine blk_alloc ?_ _)); refine blk_put (cs := #[.string (⟨#[]⟩ : ByteArray), .slice none 0 0, .slice none 0 0]) ?_ 2 _ rfl; (with_reducible repeat (first | refine blk_drewN ?_ _ | refine blk_drew ?_ | refine blk_alloc ?_ _)); refine blk_put (cs := #[.string (⟨#[]⟩ : ByteArray), .slice none 0 0, .slice none 0 0]) ?_ 1 _ rfl; (with_reducible repeat (first | refine blk_drewN ?_ _ | refine blk_drew ?_ | refine blk_alloc ?_ _)); refine blk_put (cs := #[.string x620000_2, .slice none 0 0, .slice none 0 0]) ?_ 0 _ rfl; (with_reducible repeat (first | refine blk_drewN ?_ _ | refine blk_drew ?_ | refine blk_alloc ?_ _)); exact BK619.out) Try.underlying93 rfl (by kernel_rfl)) rfl ?_
                                  exact ⟨_, _, by first | rfl | (simp [errW_none, errW_some] <;> rfl) | (simp only [← hji17]; first | rfl | (simp [errW_none, errW_some] <;> rfl)) | (simp [*, errW_none, errW_some] <;> rfl), by first | exact Kd.R_nil _ _ _ _ _ | exact Kd.N_nil _ _ _ _ _ | exact Kd.V_nil _ _ _ _ _ | exact Kd.Q_nil _ _ _ _ _ | exact Kd.S_nil _ _ _ _ _, by first | exact Kd.R_nil _ _ _ _ _ | exact Kd.N_nil _ _ _ _ _ | exact Kd.V_nil _ _ _ _ _ | exact Kd.Q_nil _ _ _ _ _ | exact Kd.S_nil _ _ _ _ _, by repeat (first | (with_reducible first | exact HB.out | apply below_alloc | apply pw_below_drewN | apply below_drew1 | refine below_set ?_ GE619.out | refine below_set ?_ GE627.out) | exact HB.out)⟩
                                · rw [if_neg c36] at H
                                  have c36b0 : ((bt t624 x8_2) == 105) = false := beq_eq_false_iff_ne.mpr c36
                                  have c36b1 : ((bt t624 x8_2) != 105) = true := bne_iff_ne.mpr c36
                                  by_cases c39 : x628002_2.length < 17592186044416
                                  · rw [if_pos c39] at H
                                    have LMc39 := Aside0.mk c39
                                    clear c39
                                    obtain ⟨y634, hy634⟩ : ∃ y_ : List Int, y_ = (x628002_2 ++ [t632]) := ⟨_, rfl⟩
                                    replace H : (impl_commandOf.l0 k2 t620 t624 ji17 (rdOf ByteArray.empty t620 0) x628001_2 y634) = some (r1, r2, r3, r4) := by first | (rw [hy634]; with_reducible exact H) | (have H2_ := (Option.bind_some _ _).symm.trans H; rw [hy634]; with_reducible exact H2_) | (have H2_ := (Option.bind_some _ _).symm.trans H; with_reducible exact H2_) | with_reducible exact H | (rw [hy634]; exact H) | exact H
                                    have Ny634 := Aside0.mk hy634
                                    clear hy634
                                    have H' := Aside0.mk H
                                    clear H
                                    have p628 : 0 ≤ ((ji17) : Int) := of_decide_eq_true (by first | (with_reducible assumption) | assumption)
                                    have q628 : (ji17) < (t620.length : Int) := of_decide_eq_true (by first | (with_reducible assumption) | assumption)
                                    obtain ⟨ad628, e628, hx628_0⟩ := Kd.at_string (Kd.R_reads' HO_4.out).2.2 (ji17) p628 q628
                                    obtain rfl : ad623 = ad628 := (by injection e628)
                                    replace p628 := eq_true p628
                                    replace q628 := eq_true q628
                                    have p21 : 0 ≤ (x8_2 : Int) := of_decide_eq_true (by first | (with_reducible assumption) | assumption)
                                    have q21 : x8_2 < (t624.size : Int) := of_decide_eq_true (by first | (with_reducible assumption) | assumption)
                                    have hx21 := bt_at t624 x8_2
                                    replace p21 := eq_true p21
                                    replace q21 := eq_true q21
                                    go_wp2_with (first | ((with_reducible refine gate_callee (f := 110) rfl ?_); refine goesL_ (some 60) rfl rfl Try.func110 (by kernel_rfl) rfl #[.string (rdOf ByteArray.empty t620 (ji17))] rfl (by (try simp only [List.map_toArray, List.map_cons, List.map_nil]); first | done | (simp only [hji17]; rfl) | rfl | (simp only [List.length_drop, List.length_take]; rfl)) ?_; (with_reducible refine (impl_readDecimal.calls k2 (rdOf ByteArray.empty t620 (ji17)) t632 true _ A29.out).mono ?_); rintro e w' ⟨rfl, ⟨nd, rfl⟩⟩; refine ⟨_, rfl, ?_⟩; (try (rw [drewN_self wr]; generalize hq_ : World.drewN wr _ = wr; have n0_ : Aside0 (Kd.R Kd.string 9 wr w.heap.size (fun k_ => some k_ ≠ (u628001 : Value).ownBlock) (.slice (some ad623) t620.length co8) t620) := ⟨by rw [← hq_]; exact (by (with_reducible repeat (first | apply Kd.R_alloc | apply Kd.R_drewN | apply Kd.R_drew)); exact HO_4.out)⟩; have n1_ : Aside0 (Kd.R Kd.string 9 wr w.heap.size (fun k_ => some k_ ≠ (.slice (some ad623) t620.length co8 : Value).ownBlock) u628001 x628001_2) := ⟨by rw [← hq_]; exact (by (with_reducible repeat (first | apply Kd.R_alloc | apply Kd.R_drewN | apply Kd.R_drew)); exact HO_628001.out)⟩; have n2_ : Aside0 (Kd.R (Kd.int .i64) 2 wr w.heap.size (fun _ => True) u628002 x628002_2) := ⟨by rw [← hq_]; exact (by (with_reducible repeat (first | apply Kd.R_alloc | apply Kd.R_drewN | apply Kd.R_drew)); exact HO_628002.out)⟩; have n3_ : Aside0 (wr.heap[gb619]? = some (.cells #[.string x620000_2, .slice none 0 0, .slice none 0 0] 93 (0, 0))) := ⟨by rw [← hq_]; exact (by (with_reducible repeat (first | refine blk_drewN ?_ _ | refine blk_drew ?_ | refine blk_alloc ?_ _)); exact BK619.out)⟩; have n4_ : Aside0 (wr.heap[gb627]? = some (.cells #[.string (rdOf ByteArray.empty t620 0), u628001, u628002] 93 (0, 0))) := ⟨by rw [← hq_]; exact (by (with_reducible repeat (first | refine blk_drewN ?_ _ | refine blk_drew ?_ | refine blk_alloc ?_ _)); exact BK627.out)⟩; have n5_ : Aside0 (Below w.heap.size w wr) := ⟨by rw [← hq_]; exact (by repeat (first | (with_reducible first | exact HB.out | apply below_alloc | apply pw_below_drewN | apply below_drew1 | refine below_set ?_ GE619.out | refine below_set ?_ GE627.out) | exact HB.out))⟩; clear HO_4 HO_628001 HO_628002 BK619 BK627 HB hq_; have HO_4 := n0_; have HO_628001 := n1_; have HO_628002 := n2_; have BK619 := n3_; have BK627 := n4_; have HB := n5_; clear n0_ n1_ n2_ n3_ n4_ n5_)); have p35 : 0 ≤ (x8_2 : Int) := of_decide_eq_true (by first | (with_reducible assumption) | assumption); have q35 : x8_2 < (t624.size : Int) := of_decide_eq_true (by first | (with_reducible assumption) | assumption); have hx35 := bt_at t624 x8_2; replace p35 := eq_true p35; replace q35 := eq_true q35; have hnb40 := NB627_619.out; have hnc40 := NB619_627.out; have hcz41_0 : wr.cell? ⟨gb627, 0, none⟩ = some (.string (rdOf ByteArray.empty t620 0)) := (blk_cell BK627.out 0).trans rfl; have hcz41_1 : wr.cell? ⟨gb627, 1, none⟩ = some (u628001) := (blk_cell BK627.out 1).trans rfl; have hcz41_2 : wr.cell? ⟨gb627, 2, none⟩ = some (u628002) := (blk_cell BK627.out 2).trans rfl; have hfz41_0 := blk_frozen BK627.out 0; have hfz41_1 := blk_frozen BK627.out 1; have hfz41_2 := blk_frozen BK627.out 2) | ((with_reducible refine gate_builtin (b := .append) (xs := #[.tmp 87, .tmp 89]) rfl ?_); (try (refine gate_guard (by rfl) ?_; dsimp only)); at_builtin; refine Kd.R_append (Kd.int .i64) (w0 := w) w.heap.size rfl (.tmp 87) (.tmp 89) 26 2 (.int .i64 0) 8 rfl Try.underlying26 info2 rfl (by decide) (by omega) u628002 x628002_2 t632 [.int .i64 t632] (fun _ => True) (fun _ => False) rfl rfl ?aP (fun _ hk => hk.elim) ?aF ?aO ?aB ?aS ?aL ?_; (case aP => exact rfl); (case aB => exact (by repeat (first | (with_reducible first | exact HB.out | apply below_alloc | apply pw_below_drewN | apply below_drew1 | refine below_set ?_ GE619.out | refine below_set ?_ GE627.out) | exact HB.out))); (case aF => exact (fun _ _ => trivial)); (case aO => exact (by (with_reducible repeat (first | apply Kd.R_alloc | apply Kd.R_drewN | apply Kd.R_drew)); exact HO_628002.out)); (case aS => exact (below_size (by repeat (first | (with_reducible first | exact HB.out | apply below_alloc | apply pw_below_drewN | apply below_drew1 | refine below_set ?_ GE619.out | refine below_set ?_ GE627.out) | exact HB.out)))); (case aL => have := LMc39.out; omega); intro v635 w42 ho hb hg hat; rw [← Ny634.out] at ho; have n0_ := Aside0.mk (Kd.R_over' (by (with_reducible repeat (first | apply Kd.R_alloc | apply Kd.R_drewN | apply Kd.R_drew)); exact HO_4.out) (Kd.R_typed (by (with_reducible repeat (first | apply Kd.R_alloc | apply Kd.R_drewN | apply Kd.R_drew)); exact HO_628002.out)) (by decide) hg); have n1_ := Aside0.mk (Kd.R_over' (by (with_reducible repeat (first | apply Kd.R_alloc | apply Kd.R_drewN | apply Kd.R_drew)); exact HO_628001.out) (Kd.R_typed (by (with_reducible repeat (first | apply Kd.R_alloc | apply Kd.R_drewN | apply Kd.R_drew)); exact HO_628002.out)) (by decide) hg); have n2_ := Aside0.mk (blk_grown (g := gb619) (o := .cells #[.string x620000_2, .slice none 0 0, .slice none 0 0] 93 (0, 0)) (by (with_reducible repeat (first | refine blk_drewN ?_ _ | refine blk_drew ?_ | refine blk_alloc ?_ _)); exact BK619.out) hg (Kd.R_ne HO_628002.out BK619.out (by decide))); have n3_ := Aside0.mk (blk_grown (g := gb627) (o := .cells #[.string (rdOf ByteArray.empty t620 0), u628001, u628002] 93 (0, 0)) (by (with_reducible repeat (first | refine blk_drewN ?_ _ | refine blk_drew ?_ | refine blk_alloc ?_ _)); exact BK627.out) hg (Kd.R_ne HO_628002.out BK627.out (by decide))); have n4_ := Aside0.mk (hb); have n5_ := Aside0.mk (ho); clear HO_4; clear HO_628001; clear BK619; clear BK627; clear HB; clear HO_628002; have HO_4 := n0_; have HO_628001 := n1_; have BK619 := n2_; have BK627 := n3_; have HB := n4_; have HO636 := n5_; clear n0_ n1_ n2_ n3_ n4_ n5_; clear ho hb hg hat; obtain ⟨Ao43, co43, eo43⟩ := Kd.R_slice HO636.out; subst eo43; have hcz44_0 : w42.cell? ⟨gb627, 0, none⟩ = some (.string (rdOf ByteArray.empty t620 0)) := (blk_cell BK627.out 0).trans rfl; have hcz44_1 : w42.cell? ⟨gb627, 1, none⟩ = some (u628001) := (blk_cell BK627.out 1).trans rfl; have hcz44_2 : w42.cell? ⟨gb627, 2, none⟩ = some (u628002) := (blk_cell BK627.out 2).trans rfl; have hfz44_0 := blk_frozen BK627.out 0; have hfz44_1 := blk_frozen BK627.out 1; have hfz44_2 := blk_frozen BK627.out 2))
                                    go_roundg k2
                                    case measure => have := HJ4.out; have := HK2.out; omega
                                    case rel => exact ⟨(ji17), (x620000_2), (x628001_2), (y634), (u628001), (.slice Ao43 y634.length co43), (by first | rfl | (simp; done) | (simp only [← hji17] <;> (first | rfl | simp)) | (simp [*]; done)), H', ⟨by have := HJ4.out; have := HK2.out; omega⟩, ⟨by (with_reducible repeat (first | apply Kd.R_alloc | apply Kd.R_drewN | apply Kd.R_drew)); exact Kd.R_mono (Kd.R_far (p := ⟨gb627, 2, none⟩) (Kd.R_types HO_4.out BK627.out (by decide)) (fun _ hk => hk.2) (.slice Ao43 y634.length co43)) (fun _ hk => hk.1)⟩, ⟨by (with_reducible repeat (first | apply Kd.R_alloc | apply Kd.R_drewN | apply Kd.R_drew)); exact Kd.R_mono (Kd.R_far (p := ⟨gb627, 2, none⟩) (Kd.R_types HO_628001.out BK627.out (by decide)) (fun _ hk => hk.2) (.slice Ao43 y634.length co43)) (fun _ hk => hk.1)⟩, ⟨by (with_reducible repeat (first | apply Kd.R_alloc | apply Kd.R_drewN | apply Kd.R_drew)); exact Kd.R_mono (Kd.R_far (p := ⟨gb627, 2, none⟩) (Kd.R_types HO636.out BK627.out (by decide)) (fun _ hk => hk.2) (.slice Ao43 y634.length co43)) (fun _ hk => trivial)⟩, ⟨by (with_reducible repeat (first | refine blk_drewN ?_ _ | refine blk_drew ?_ | refine blk_alloc ?_ _)); refine blk_far ?_ NB619_627.out _; (with_reducible repeat (first | refine blk_drewN ?_ _ | refine blk_drew ?_ | refine blk_alloc ?_ _)); exact BK619.out⟩, ⟨by (with_reducible repeat (first | refine blk_drewN ?_ _ | refine blk_drew ?_ | refine blk_alloc ?_ _)); refine blk_put (cs := #[.string (rdOf ByteArray.empty t620 0), u628001, u628002]) ?_ 2 _ rfl; (with_reducible repeat (first | refine blk_drewN ?_ _ | refine blk_drew ?_ | refine blk_alloc ?_ _)); exact BK627.out⟩, ⟨by repeat (first | (with_reducible first | exact HB.out | apply below_alloc | apply pw_below_drewN | apply below_drew1 | refine below_set ?_ GE619.out | refine below_set ?_ GE627.out) | exact HB.out)⟩⟩
                                  · rw [if_neg c39] at H
                                    exact absurd H (by simp)
                            · replace c31 := Bool.eq_false_iff.mpr c31
                              subst c31
                              have H1 : (some ((⟨#[]⟩ : ByteArray), ([] : List ByteArray), ([] : List Int), false)) = some (r1, r2, r3, r4) := by rw [if_neg (show ¬ (false = true) by decide)] at H; exact H
                              clear H
                              have H := H1
                              clear H1
                              simp only [Option.some.injEq, Prod.mk.injEq] at H
                              obtain ⟨rfl, rfl, rfl, rfl⟩ := H
                              have p628 : 0 ≤ ((ji17) : Int) := of_decide_eq_true (by first | (with_reducible assumption) | assumption)
                              have q628 : (ji17) < (t620.length : Int) := of_decide_eq_true (by first | (with_reducible assumption) | assumption)
                              obtain ⟨ad628, e628, hx628_0⟩ := Kd.at_string (Kd.R_reads' HO_4.out).2.2 (ji17) p628 q628
                              obtain rfl : ad623 = ad628 := (by injection e628)
                              replace p628 := eq_true p628
                              replace q628 := eq_true q628
                              have p21 : 0 ≤ (x8_2 : Int) := of_decide_eq_true (by first | (with_reducible assumption) | assumption)
                              have q21 : x8_2 < (t624.size : Int) := of_decide_eq_true (by first | (with_reducible assumption) | assumption)
                              have hx21 := bt_at t624 x8_2
                              replace p21 := eq_true p21
                              replace q21 := eq_true q21
                              go_wp2_with (first | ((with_reducible refine gate_callee (f := 110) rfl ?_); refine goesL_ (some 60) rfl rfl Try.func110 (by kernel_rfl) rfl #[.string (rdOf ByteArray.empty t620 (ji17))] rfl (by (try simp only [List.map_toArray, List.map_cons, List.map_nil]); first | done | (simp only [hji17]; rfl) | rfl | (simp only [List.length_drop, List.length_take]; rfl)) ?_; (with_reducible refine (impl_readDecimal.calls k2 (rdOf ByteArray.empty t620 (ji17)) t632 false _ A29.out).mono ?_); rintro e w' ⟨rfl, ⟨nd, rfl⟩⟩; refine ⟨_, rfl, ?_⟩; (try (rw [drewN_self wr]; generalize hq_ : World.drewN wr _ = wr; have n0_ : Aside0 (Kd.R Kd.string 9 wr w.heap.size (fun k_ => some k_ ≠ (u628001 : Value).ownBlock) (.slice (some ad623) t620.length co8) t620) := ⟨by rw [← hq_]; exact (by (with_reducible repeat (first | apply Kd.R_alloc | apply Kd.R_drewN | apply Kd.R_drew)); exact HO_4.out)⟩; have n1_ : Aside0 (Kd.R Kd.string 9 wr w.heap.size (fun k_ => some k_ ≠ (.slice (some ad623) t620.length co8 : Value).ownBlock) u628001 x628001_2) := ⟨by rw [← hq_]; exact (by (with_reducible repeat (first | apply Kd.R_alloc | apply Kd.R_drewN | apply Kd.R_drew)); exact HO_628001.out)⟩; have n2_ : Aside0 (Kd.R (Kd.int .i64) 2 wr w.heap.size (fun _ => True) u628002 x628002_2) := ⟨by rw [← hq_]; exact (by (with_reducible repeat (first | apply Kd.R_alloc | apply Kd.R_drewN | apply Kd.R_drew)); exact HO_628002.out)⟩; have n3_ : Aside0 (wr.heap[gb619]? = some (.cells #[.string x620000_2, .slice none 0 0, .slice none 0 0] 93 (0, 0))) := ⟨by rw [← hq_]; exact (by (with_reducible repeat (first | refine blk_drewN ?_ _ | refine blk_drew ?_ | refine blk_alloc ?_ _)); exact BK619.out)⟩; have n4_ : Aside0 (wr.heap[gb627]? = some (.cells #[.string (rdOf ByteArray.empty t620 0), u628001, u628002] 93 (0, 0))) := ⟨by rw [← hq_]; exact (by (with_reducible repeat (first | refine blk_drewN ?_ _ | refine blk_drew ?_ | refine blk_alloc ?_ _)); exact BK627.out)⟩; have n5_ : Aside0 (Below w.heap.size w wr) := ⟨by rw [← hq_]; exact (by repeat (first | (with_reducible first | exact HB.out | apply below_alloc | apply pw_below_drewN | apply below_drew1 | refine below_set ?_ GE619.out | refine below_set ?_ GE627.out) | exact HB.out))⟩; clear HO_4 HO_628001 HO_628002 BK619 BK627 HB hq_; have HO_4 := n0_; have HO_628001 := n1_; have HO_628002 := n2_; have BK619 := n3_; have BK627 := n4_; have HB := n5_; clear n0_ n1_ n2_ n3_ n4_ n5_)); have hnb45 := NB619_627.out; have hnc45 := NB627_619.out; have hcz46_0 : wr.cell? ⟨gb619, 0, none⟩ = some (.string x620000_2) := (blk_cell BK619.out 0).trans rfl; have hcz46_1 : wr.cell? ⟨gb619, 1, none⟩ = some (.slice none 0 0) := (blk_cell BK619.out 1).trans rfl; have hcz46_2 : wr.cell? ⟨gb619, 2, none⟩ = some (.slice none 0 0) := (blk_cell BK619.out 2).trans rfl; have hfz46_0 := blk_frozen BK619.out 0; have hfz46_1 := blk_frozen BK619.out 1; have hfz46_2 := blk_frozen BK619.out 2))
                              refine bodyPost_ret (results_ct rfl _ _ gb619 93 #[.string (⟨#[]⟩ : ByteArray), .slice none 0 0, .slice none 0 0] (0, 0) _ rfl (by (with_reducible repeat (first | refine blk_drewN ?_ _ | refine blk_drew ?_ | refine blk_alloc ?_ _)); refine blk_put (cs := #[.string (⟨#[]⟩ : ByteArray), .slice none 0 0, .slice none 0 0]) ?_ 2 _ rfl; (with_reducible repeat (first | refine blk_drewN ?_ _ | refine blk_drew ?_ | refine blk_alloc ?_ _)); refine blk_put (cs := #[.string (⟨#[]⟩ : ByteArray), .slice none 0 0, .slice none 0 0]) ?_ 1 _ rfl; (with_reducible repeat (first | refine blk_drewN ?_ _ | refine blk_drew ?_ | refine blk_alloc ?_ _)); refine blk_put (cs := #[.string x620000_2, .slice none 0 0, .slice none 0 0]) ?_ 0 _ rfl; (with_reducible repeat (first | refine blk_drewN ?_ _ | refine blk_drew ?_ | refine blk_alloc ?_ _)); exact BK619.out) Try.underlying93 rfl (by kernel_rfl)) rfl ?_
                              exact ⟨_, _, by first | rfl | (simp [errW_none, errW_some] <;> rfl) | (simp only [← hji17]; first | rfl | (simp [errW_none, errW_some] <;> rfl)) | (simp [*, errW_none, errW_some] <;> rfl), by first | exact Kd.R_nil _ _ _ _ _ | exact Kd.N_nil _ _ _ _ _ | exact Kd.V_nil _ _ _ _ _ | exact Kd.Q_nil _ _ _ _ _ | exact Kd.S_nil _ _ _ _ _, by first | exact Kd.R_nil _ _ _ _ _ | exact Kd.N_nil _ _ _ _ _ | exact Kd.V_nil _ _ _ _ _ | exact Kd.Q_nil _ _ _ _ _ | exact Kd.S_nil _ _ _ _ _, by repeat (first | (with_reducible first | exact HB.out | apply below_alloc | apply pw_below_drewN | apply below_drew1 | refine below_set ?_ GE619.out | refine below_set ?_ GE627.out) | exact HB.out)⟩
                          · rw [if_neg c30] at H
                            have c30b0 : decide (t632 < 0) = false := decide_eq_false c30
                            clear c30
                            by_cases c47 : t633 = true
                            · subst c47
                              have H1 : (if ((rdOf ByteArray.empty t620 (ji17)).size : Int) > 13 then (some ((⟨#[]⟩ : ByteArray), ([] : List ByteArray), ([] : List Int), false)) else (if x628002_2.length < 17592186044416 then (impl_commandOf.l0 k2 t620 t624 ji17 (rdOf ByteArray.empty t620 0) x628001_2 (x628002_2 ++ [t632])) else (none))) = some (r1, r2, r3, r4) := by rw [if_pos rfl] at H; exact H
                              clear H
                              have H := H1
                              clear H1
                              by_cases c48 : ((rdOf ByteArray.empty t620 (ji17)).size : Int) > 13
                              · rw [if_pos c48] at H
                                have c48b0 : decide (13 < ((rdOf ByteArray.empty t620 (ji17)).size : Int)) = true := decide_eq_true c48
                                have c48b1 : decide (13 < (rdOf ByteArray.empty t620 (ji17)).size) = true := decide_eq_true (by omega)
                                clear c48
                                simp only [Option.some.injEq, Prod.mk.injEq] at H
                                obtain ⟨rfl, rfl, rfl, rfl⟩ := H
                                have p628 : 0 ≤ ((ji17) : Int) := of_decide_eq_true (by first | (with_reducible assumption) | assumption)
                                have q628 : (ji17) < (t620.length : Int) := of_decide_eq_true (by first | (with_reducible assumption) | assumption)
                                obtain ⟨ad628, e628, hx628_0⟩ := Kd.at_string (Kd.R_reads' HO_4.out).2.2 (ji17) p628 q628
                                obtain rfl : ad623 = ad628 := (by injection e628)
                                replace p628 := eq_true p628
                                replace q628 := eq_true q628
                                have p21 : 0 ≤ (x8_2 : Int) := of_decide_eq_true (by first | (with_reducible assumption) | assumption)
                                have q21 : x8_2 < (t624.size : Int) := of_decide_eq_true (by first | (with_reducible assumption) | assumption)
                                have hx21 := bt_at t624 x8_2
                                replace p21 := eq_true p21
                                replace q21 := eq_true q21
                                go_wp2_with (first | ((with_reducible refine gate_callee (f := 110) rfl ?_); refine goesL_ (some 60) rfl rfl Try.func110 (by kernel_rfl) rfl #[.string (rdOf ByteArray.empty t620 (ji17))] rfl (by (try simp only [List.map_toArray, List.map_cons, List.map_nil]); first | done | (simp only [hji17]; rfl) | rfl | (simp only [List.length_drop, List.length_take]; rfl)) ?_; (with_reducible refine (impl_readDecimal.calls k2 (rdOf ByteArray.empty t620 (ji17)) t632 true _ A29.out).mono ?_); rintro e w' ⟨rfl, ⟨nd, rfl⟩⟩; refine ⟨_, rfl, ?_⟩; (try (rw [drewN_self wr]; generalize hq_ : World.drewN wr _ = wr; have n0_ : Aside0 (Kd.R Kd.string 9 wr w.heap.size (fun k_ => some k_ ≠ (u628001 : Value).ownBlock) (.slice (some ad623) t620.length co8) t620) := ⟨by rw [← hq_]; exact (by (with_reducible repeat (first | apply Kd.R_alloc | apply Kd.R_drewN | apply Kd.R_drew)); exact HO_4.out)⟩; have n1_ : Aside0 (Kd.R Kd.string 9 wr w.heap.size (fun k_ => some k_ ≠ (.slice (some ad623) t620.length co8 : Value).ownBlock) u628001 x628001_2) := ⟨by rw [← hq_]; exact (by (with_reducible repeat (first | apply Kd.R_alloc | apply Kd.R_drewN | apply Kd.R_drew)); exact HO_628001.out)⟩; have n2_ : Aside0 (Kd.R (Kd.int .i64) 2 wr w.heap.size (fun _ => True) u628002 x628002_2) := ⟨by rw [← hq_]; exact (by (with_reducible repeat (first | apply Kd.R_alloc | apply Kd.R_drewN | apply Kd.R_drew)); exact HO_628002.out)⟩; have n3_ : Aside0 (wr.heap[gb619]? = some (.cells #[.string x620000_2, .slice none 0 0, .slice none 0 0] 93 (0, 0))) := ⟨by rw [← hq_]; exact (by (with_reducible repeat (first | refine blk_drewN ?_ _ | refine blk_drew ?_ | refine blk_alloc ?_ _)); exact BK619.out)⟩; have n4_ : Aside0 (wr.heap[gb627]? = some (.cells #[.string (rdOf ByteArray.empty t620 0), u628001, u628002] 93 (0, 0))) := ⟨by rw [← hq_]; exact (by (with_reducible repeat (first | refine blk_drewN ?_ _ | refine blk_drew ?_ | refine blk_alloc ?_ _)); exact BK627.out)⟩; have n5_ : Aside0 (Below w.heap.size w wr) := ⟨by rw [← hq_]; exact (by repeat (first | (with_reducible first | exact HB.out | apply below_alloc | apply pw_below_drewN | apply below_drew1 | refine below_set ?_ GE619.out | refine below_set ?_ GE627.out) | exact HB.out))⟩; clear HO_4 HO_628001 HO_628002 BK619 BK627 HB hq_; have HO_4 := n0_; have HO_628001 := n1_; have HO_628002 := n2_; have BK619 := n3_; have BK627 := n4_; have HB := n5_; clear n0_ n1_ n2_ n3_ n4_ n5_)); have hnb49 := NB619_627.out; have hnc49 := NB627_619.out; have hcz50_0 : wr.cell? ⟨gb619, 0, none⟩ = some (.string x620000_2) := (blk_cell BK619.out 0).trans rfl; have hcz50_1 : wr.cell? ⟨gb619, 1, none⟩ = some (.slice none 0 0) := (blk_cell BK619.out 1).trans rfl; have hcz50_2 : wr.cell? ⟨gb619, 2, none⟩ = some (.slice none 0 0) := (blk_cell BK619.out 2).trans rfl; have hfz50_0 := blk_frozen BK619.out 0; have hfz50_1 := blk_frozen BK619.out 1; have hfz50_2 := blk_frozen BK619.out 2))
                                refine bodyPost_ret (results_ct rfl _ _ gb619 93 #[.string (⟨#[]⟩ : ByteArray), .slice none 0 0, .slice none 0 0] (0, 0) _ rfl (by (with_reducible repeat (first | refine blk_drewN ?_ _ | refine blk_drew ?_ | refine blk_alloc ?_ _)); refine blk_put (cs := #[.string (⟨#[]⟩ : ByteArray), .slice none 0 0, .slice none 0 0]) ?_ 2 _ rfl; (with_reducible repeat (first | refine blk_drewN ?_ _ | refine blk_drew ?_ | refine blk_alloc ?_ _)); refine blk_put (cs := #[.string (⟨#[]⟩ : ByteArray), .slice none 0 0, .slice none 0 0]) ?_ 1 _ rfl; (with_reducible repeat (first | refine blk_drewN ?_ _ | refine blk_drew ?_ | refine blk_alloc ?_ _)); refine blk_put (cs := #[.string x620000_2, .slice none 0 0, .slice none 0 0]) ?_ 0 _ rfl; (with_reducible repeat (first | refine blk_drewN ?_ _ | refine blk_drew ?_ | refine blk_alloc ?_ _)); exact BK619.out) Try.underlying93 rfl (by kernel_rfl)) rfl ?_
                                exact ⟨_, _, by first | rfl | (simp [errW_none, errW_some] <;> rfl) | (simp only [← hji17]; first | rfl | (simp [errW_none, errW_some] <;> rfl)) | (simp [*, errW_none, errW_some] <;> rfl), by first | exact Kd.R_nil _ _ _ _ _ | exact Kd.N_nil _ _ _ _ _ | exact Kd.V_nil _ _ _ _ _ | exact Kd.Q_nil _ _ _ _ _ | exact Kd.S_nil _ _ _ _ _, by first | exact Kd.R_nil _ _ _ _ _ | exact Kd.N_nil _ _ _ _ _ | exact Kd.V_nil _ _ _ _ _ | exact Kd.Q_nil _ _ _ _ _ | exact Kd.S_nil _ _ _ _ _, by repeat (first | (with_reducible first | exact HB.out | apply below_alloc | apply pw_below_drewN | apply below_drew1 | refine below_set ?_ GE619.out | refine below_set ?_ GE627.out) | exact HB.out)⟩
                              · rw [if_neg c48] at H
                                have c48b0 : decide (13 < ((rdOf ByteArray.empty t620 (ji17)).size : Int)) = false := decide_eq_false c48
                                have c48b1 : decide (13 < (rdOf ByteArray.empty t620 (ji17)).size) = false := decide_eq_false (by omega)
                                clear c48
                                by_cases c51 : x628002_2.length < 17592186044416
                                · rw [if_pos c51] at H
                                  have LMc51 := Aside0.mk c51
                                  clear c51
                                  obtain ⟨y637, hy637⟩ : ∃ y_ : List Int, y_ = (x628002_2 ++ [t632]) := ⟨_, rfl⟩
                                  replace H : (impl_commandOf.l0 k2 t620 t624 ji17 (rdOf ByteArray.empty t620 0) x628001_2 y637) = some (r1, r2, r3, r4) := by first | (rw [hy637]; with_reducible exact H) | (have H2_ := (Option.bind_some _ _).symm.trans H; rw [hy637]; with_reducible exact H2_) | (have H2_ := (Option.bind_some _ _).symm.trans H; with_reducible exact H2_) | with_reducible exact H | (rw [hy637]; exact H) | exact H
                                  have Ny637 := Aside0.mk hy637
                                  clear hy637
                                  have H' := Aside0.mk H
                                  clear H
                                  have p628 : 0 ≤ ((ji17) : Int) := of_decide_eq_true (by first | (with_reducible assumption) | assumption)
                                  have q628 : (ji17) < (t620.length : Int) := of_decide_eq_true (by first | (with_reducible assumption) | assumption)
                                  obtain ⟨ad628, e628, hx628_0⟩ := Kd.at_string (Kd.R_reads' HO_4.out).2.2 (ji17) p628 q628
                                  obtain rfl : ad623 = ad628 := (by injection e628)
                                  replace p628 := eq_true p628
                                  replace q628 := eq_true q628
                                  have p21 : 0 ≤ (x8_2 : Int) := of_decide_eq_true (by first | (with_reducible assumption) | assumption)
                                  have q21 : x8_2 < (t624.size : Int) := of_decide_eq_true (by first | (with_reducible assumption) | assumption)
                                  have hx21 := bt_at t624 x8_2
                                  replace p21 := eq_true p21
                                  replace q21 := eq_true q21
                                  go_wp2_with (first | ((with_reducible refine gate_callee (f := 110) rfl ?_); refine goesL_ (some 60) rfl rfl Try.func110 (by kernel_rfl) rfl #[.string (rdOf ByteArray.empty t620 (ji17))] rfl (by (try simp only [List.map_toArray, List.map_cons, List.map_nil]); first | done | (simp only [hji17]; rfl) | rfl | (simp only [List.length_drop, List.length_take]; rfl)) ?_; (with_reducible refine (impl_readDecimal.calls k2 (rdOf ByteArray.empty t620 (ji17)) t632 true _ A29.out).mono ?_); rintro e w' ⟨rfl, ⟨nd, rfl⟩⟩; refine ⟨_, rfl, ?_⟩; (try (rw [drewN_self wr]; generalize hq_ : World.drewN wr _ = wr; have n0_ : Aside0 (Kd.R Kd.string 9 wr w.heap.size (fun k_ => some k_ ≠ (u628001 : Value).ownBlock) (.slice (some ad623) t620.length co8) t620) := ⟨by rw [← hq_]; exact (by (with_reducible repeat (first | apply Kd.R_alloc | apply Kd.R_drewN | apply Kd.R_drew)); exact HO_4.out)⟩; have n1_ : Aside0 (Kd.R Kd.string 9 wr w.heap.size (fun k_ => some k_ ≠ (.slice (some ad623) t620.length co8 : Value).ownBlock) u628001 x628001_2) := ⟨by rw [← hq_]; exact (by (with_reducible repeat (first | apply Kd.R_alloc | apply Kd.R_drewN | apply Kd.R_drew)); exact HO_628001.out)⟩; have n2_ : Aside0 (Kd.R (Kd.int .i64) 2 wr w.heap.size (fun _ => True) u628002 x628002_2) := ⟨by rw [← hq_]; exact (by (with_reducible repeat (first | apply Kd.R_alloc | apply Kd.R_drewN | apply Kd.R_drew)); exact HO_628002.out)⟩; have n3_ : Aside0 (wr.heap[gb619]? = some (.cells #[.string x620000_2, .slice none 0 0, .slice none 0 0] 93 (0, 0))) := ⟨by rw [← hq_]; exact (by (with_reducible repeat (first | refine blk_drewN ?_ _ | refine blk_drew ?_ | refine blk_alloc ?_ _)); exact BK619.out)⟩; have n4_ : Aside0 (wr.heap[gb627]? = some (.cells #[.string (rdOf ByteArray.empty t620 0), u628001, u628002] 93 (0, 0))) := ⟨by rw [← hq_]; exact (by (with_reducible repeat (first | refine blk_drewN ?_ _ | refine blk_drew ?_ | refine blk_alloc ?_ _)); exact BK627.out)⟩; have n5_ : Aside0 (Below w.heap.size w wr) := ⟨by rw [← hq_]; exact (by repeat (first | (with_reducible first | exact HB.out | apply below_alloc | apply pw_below_drewN | apply below_drew1 | refine below_set ?_ GE619.out | refine below_set ?_ GE627.out) | exact HB.out))⟩; clear HO_4 HO_628001 HO_628002 BK619 BK627 HB hq_; have HO_4 := n0_; have HO_628001 := n1_; have HO_628002 := n2_; have BK619 := n3_; have BK627 := n4_; have HB := n5_; clear n0_ n1_ n2_ n3_ n4_ n5_)); have hnb52 := NB627_619.out; have hnc52 := NB619_627.out; have hcz53_0 : wr.cell? ⟨gb627, 0, none⟩ = some (.string (rdOf ByteArray.empty t620 0)) := (blk_cell BK627.out 0).trans rfl; have hcz53_1 : wr.cell? ⟨gb627, 1, none⟩ = some (u628001) := (blk_cell BK627.out 1).trans rfl; have hcz53_2 : wr.cell? ⟨gb627, 2, none⟩ = some (u628002) := (blk_cell BK627.out 2).trans rfl; have hfz53_0 := blk_frozen BK627.out 0; have hfz53_1 := blk_frozen BK627.out 1; have hfz53_2 := blk_frozen BK627.out 2) | ((with_reducible refine gate_builtin (b := .append) (xs := #[.tmp 87, .tmp 89]) rfl ?_); (try (refine gate_guard (by rfl) ?_; dsimp only)); at_builtin; refine Kd.R_append (Kd.int .i64) (w0 := w) w.heap.size rfl (.tmp 87) (.tmp 89) 26 2 (.int .i64 0) 8 rfl Try.underlying26 info2 rfl (by decide) (by omega) u628002 x628002_2 t632 [.int .i64 t632] (fun _ => True) (fun _ => False) rfl rfl ?aP (fun _ hk => hk.elim) ?aF ?aO ?aB ?aS ?aL ?_; (case aP => exact rfl); (case aB => exact (by repeat (first | (with_reducible first | exact HB.out | apply below_alloc | apply pw_below_drewN | apply below_drew1 | refine below_set ?_ GE619.out | refine below_set ?_ GE627.out) | exact HB.out))); (case aF => exact (fun _ _ => trivial)); (case aO => exact (by (with_reducible repeat (first | apply Kd.R_alloc | apply Kd.R_drewN | apply Kd.R_drew)); exact HO_628002.out)); (case aS => exact (below_size (by repeat (first | (with_reducible first | exact HB.out | apply below_alloc | apply pw_below_drewN | apply below_drew1 | refine below_set ?_ GE619.out | refine below_set ?_ GE627.out) | exact HB.out)))); (case aL => have := LMc51.out; omega); intro v638 w54 ho hb hg hat; rw [← Ny637.out] at ho; have n0_ := Aside0.mk (Kd.R_over' (by (with_reducible repeat (first | apply Kd.R_alloc | apply Kd.R_drewN | apply Kd.R_drew)); exact HO_4.out) (Kd.R_typed (by (with_reducible repeat (first | apply Kd.R_alloc | apply Kd.R_drewN | apply Kd.R_drew)); exact HO_628002.out)) (by decide) hg); have n1_ := Aside0.mk (Kd.R_over' (by (with_reducible repeat (first | apply Kd.R_alloc | apply Kd.R_drewN | apply Kd.R_drew)); exact HO_628001.out) (Kd.R_typed (by (with_reducible repeat (first | apply Kd.R_alloc | apply Kd.R_drewN | apply Kd.R_drew)); exact HO_628002.out)) (by decide) hg); have n2_ := Aside0.mk (blk_grown (g := gb619) (o := .cells #[.string x620000_2, .slice none 0 0, .slice none 0 0] 93 (0, 0)) (by (with_reducible repeat (first | refine blk_drewN ?_ _ | refine blk_drew ?_ | refine blk_alloc ?_ _)); exact BK619.out) hg (Kd.R_ne HO_628002.out BK619.out (by decide))); have n3_ := Aside0.mk (blk_grown (g := gb627) (o := .cells #[.string (rdOf ByteArray.empty t620 0), u628001, u628002] 93 (0, 0)) (by (with_reducible repeat (first | refine blk_drewN ?_ _ | refine blk_drew ?_ | refine blk_alloc ?_ _)); exact BK627.out) hg (Kd.R_ne HO_628002.out BK627.out (by decide))); have n4_ := Aside0.mk (hb); have n5_ := Aside0.mk (ho); clear HO_4; clear HO_628001; clear BK619; clear BK627; clear HB; clear HO_628002; have HO_4 := n0_; have HO_628001 := n1_; have BK619 := n2_; have BK627 := n3_; have HB := n4_; have HO639 := n5_; clear n0_ n1_ n2_ n3_ n4_ n5_; clear ho hb hg hat; obtain ⟨Ao55, co55, eo55⟩ := Kd.R_slice HO639.out; subst eo55; have hcz56_0 : w54.cell? ⟨gb627, 0, none⟩ = some (.string (rdOf ByteArray.empty t620 0)) := (blk_cell BK627.out 0).trans rfl; have hcz56_1 : w54.cell? ⟨gb627, 1, none⟩ = some (u628001) := (blk_cell BK627.out 1).trans rfl; have hcz56_2 : w54.cell? ⟨gb627, 2, none⟩ = some (u628002) := (blk_cell BK627.out 2).trans rfl; have hfz56_0 := blk_frozen BK627.out 0; have hfz56_1 := blk_frozen BK627.out 1; have hfz56_2 := blk_frozen BK627.out 2))
                                  go_roundg k2
                                  case measure => have := HJ4.out; have := HK2.out; omega
                                  case rel => exact ⟨(ji17), (x620000_2), (x628001_2), (y637), (u628001), (.slice Ao55 y637.length co55), (by first | rfl | (simp; done) | (simp only [← hji17] <;> (first | rfl | simp)) | (simp [*]; done)), H', ⟨by have := HJ4.out; have := HK2.out; omega⟩, ⟨by (with_reducible repeat (first | apply Kd.R_alloc | apply Kd.R_drewN | apply Kd.R_drew)); exact Kd.R_mono (Kd.R_far (p := ⟨gb627, 2, none⟩) (Kd.R_types HO_4.out BK627.out (by decide)) (fun _ hk => hk.2) (.slice Ao55 y637.length co55)) (fun _ hk => hk.1)⟩, ⟨by (with_reducible repeat (first | apply Kd.R_alloc | apply Kd.R_drewN | apply Kd.R_drew)); exact Kd.R_mono (Kd.R_far (p := ⟨gb627, 2, none⟩) (Kd.R_types HO_628001.out BK627.out (by decide)) (fun _ hk => hk.2) (.slice Ao55 y637.length co55)) (fun _ hk => hk.1)⟩, ⟨by (with_reducible repeat (first | apply Kd.R_alloc | apply Kd.R_drewN | apply Kd.R_drew)); exact Kd.R_mono (Kd.R_far (p := ⟨gb627, 2, none⟩) (Kd.R_types HO639.out BK627.out (by decide)) (fun _ hk => hk.2) (.slice Ao55 y637.length co55)) (fun _ hk => trivial)⟩, ⟨by (with_reducible repeat (first | refine blk_drewN ?_ _ | refine blk_drew ?_ | refine blk_alloc ?_ _)); refine blk_far ?_ NB619_627.out _; (with_reducible repeat (first | refine blk_drewN ?_ _ | refine blk_drew ?_ | refine blk_alloc ?_ _)); exact BK619.out⟩, ⟨by (with_reducible repeat (first | refine blk_drewN ?_ _ | refine blk_drew ?_ | refine blk_alloc ?_ _)); refine blk_put (cs := #[.string (rdOf ByteArray.empty t620 0), u628001, u628002]) ?_ 2 _ rfl; (with_reducible repeat (first | refine blk_drewN ?_ _ | refine blk_drew ?_ | refine blk_alloc ?_ _)); exact BK627.out⟩, ⟨by repeat (first | (with_reducible first | exact HB.out | apply below_alloc | apply pw_below_drewN | apply below_drew1 | refine below_set ?_ GE619.out | refine below_set ?_ GE627.out) | exact HB.out)⟩⟩
                                · rw [if_neg c51] at H
                                  exact absurd H (by simp)
                            · replace c47 := Bool.eq_false_iff.mpr c47
                              subst c47
                              have H1 : (some ((⟨#[]⟩ : ByteArray), ([] : List ByteArray), ([] : List Int), false)) = some (r1, r2, r3, r4) := by rw [if_neg (show ¬ (false = true) by decide)] at H; exact H
                              clear H
                              have H := H1
                              clear H1
                              simp only [Option.some.injEq, Prod.mk.injEq] at H
                              obtain ⟨rfl, rfl, rfl, rfl⟩ := H
                              have p628 : 0 ≤ ((ji17) : Int) := of_decide_eq_true (by first | (with_reducible assumption) | assumption)
                              have q628 : (ji17) < (t620.length : Int) := of_decide_eq_true (by first | (with_reducible assumption) | assumption)
                              obtain ⟨ad628, e628, hx628_0⟩ := Kd.at_string (Kd.R_reads' HO_4.out).2.2 (ji17) p628 q628
                              obtain rfl : ad623 = ad628 := (by injection e628)
                              replace p628 := eq_true p628
                              replace q628 := eq_true q628
                              have p21 : 0 ≤ (x8_2 : Int) := of_decide_eq_true (by first | (with_reducible assumption) | assumption)
                              have q21 : x8_2 < (t624.size : Int) := of_decide_eq_true (by first | (with_reducible assumption) | assumption)
                              have hx21 := bt_at t624 x8_2
                              replace p21 := eq_true p21
                              replace q21 := eq_true q21
                              go_wp2_with (first | ((with_reducible refine gate_callee (f := 110) rfl ?_); refine goesL_ (some 60) rfl rfl Try.func110 (by kernel_rfl) rfl #[.string (rdOf ByteArray.empty t620 (ji17))] rfl (by (try simp only [List.map_toArray, List.map_cons, List.map_nil]); first | done | (simp only [hji17]; rfl) | rfl | (simp only [List.length_drop, List.length_take]; rfl)) ?_; (with_reducible refine (impl_readDecimal.calls k2 (rdOf ByteArray.empty t620 (ji17)) t632 false _ A29.out).mono ?_); rintro e w' ⟨rfl, ⟨nd, rfl⟩⟩; refine ⟨_, rfl, ?_⟩; (try (rw [drewN_self wr]; generalize hq_ : World.drewN wr _ = wr; have n0_ : Aside0 (Kd.R Kd.string 9 wr w.heap.size (fun k_ => some k_ ≠ (u628001 : Value).ownBlock) (.slice (some ad623) t620.length co8) t620) := ⟨by rw [← hq_]; exact (by (with_reducible repeat (first | apply Kd.R_alloc | apply Kd.R_drewN | apply Kd.R_drew)); exact HO_4.out)⟩; have n1_ : Aside0 (Kd.R Kd.string 9 wr w.heap.size (fun k_ => some k_ ≠ (.slice (some ad623) t620.length co8 : Value).ownBlock) u628001 x628001_2) := ⟨by rw [← hq_]; exact (by (with_reducible repeat (first | apply Kd.R_alloc | apply Kd.R_drewN | apply Kd.R_drew)); exact HO_628001.out)⟩; have n2_ : Aside0 (Kd.R (Kd.int .i64) 2 wr w.heap.size (fun _ => True) u628002 x628002_2) := ⟨by rw [← hq_]; exact (by (with_reducible repeat (first | apply Kd.R_alloc | apply Kd.R_drewN | apply Kd.R_drew)); exact HO_628002.out)⟩; have n3_ : Aside0 (wr.heap[gb619]? = some (.cells #[.string x620000_2, .slice none 0 0, .slice none 0 0] 93 (0, 0))) := ⟨by rw [← hq_]; exact (by (with_reducible repeat (first | refine blk_drewN ?_ _ | refine blk_drew ?_ | refine blk_alloc ?_ _)); exact BK619.out)⟩; have n4_ : Aside0 (wr.heap[gb627]? = some (.cells #[.string (rdOf ByteArray.empty t620 0), u628001, u628002] 93 (0, 0))) := ⟨by rw [← hq_]; exact (by (with_reducible repeat (first | refine blk_drewN ?_ _ | refine blk_drew ?_ | refine blk_alloc ?_ _)); exact BK627.out)⟩; have n5_ : Aside0 (Below w.heap.size w wr) := ⟨by rw [← hq_]; exact (by repeat (first | (with_reducible first | exact HB.out | apply below_alloc | apply pw_below_drewN | apply below_drew1 | refine below_set ?_ GE619.out | refine below_set ?_ GE627.out) | exact HB.out))⟩; clear HO_4 HO_628001 HO_628002 BK619 BK627 HB hq_; have HO_4 := n0_; have HO_628001 := n1_; have HO_628002 := n2_; have BK619 := n3_; have BK627 := n4_; have HB := n5_; clear n0_ n1_ n2_ n3_ n4_ n5_)); have hnb57 := NB619_627.out; have hnc57 := NB627_619.out; have hcz58_0 : wr.cell? ⟨gb619, 0, none⟩ = some (.string x620000_2) := (blk_cell BK619.out 0).trans rfl; have hcz58_1 : wr.cell? ⟨gb619, 1, none⟩ = some (.slice none 0 0) := (blk_cell BK619.out 1).trans rfl; have hcz58_2 : wr.cell? ⟨gb619, 2, none⟩ = some (.slice none 0 0) := (blk_cell BK619.out 2).trans rfl; have hfz58_0 := blk_frozen BK619.out 0; have hfz58_1 := blk_frozen BK619.out 1; have hfz58_2 := blk_frozen BK619.out 2))
                              refine bodyPost_ret (results_ct rfl _ _ gb619 93 #[.string (⟨#[]⟩ : ByteArray), .slice none 0 0, .slice none 0 0] (0, 0) _ rfl (by (with_reducible repeat (first | refine blk_drewN ?_ _ | refine blk_drew ?_ | refine blk_alloc ?_ _)); refine blk_put (cs := #[.string (⟨#[]⟩ : ByteArray), .slice none 0 0, .slice none 0 0]) ?_ 2 _ rfl; (with_reducible repeat (first | refine blk_drewN ?_ _ | refine blk_drew ?_ | refine blk_alloc ?_ _)); refine blk_put (cs := #[.string (⟨#[]⟩ : ByteArray), .slice none 0 0, .slice none 0 0]) ?_ 1 _ rfl; (with_reducible repeat (first | refine blk_drewN ?_ _ | refine blk_drew ?_ | refine blk_alloc ?_ _)); refine blk_put (cs := #[.string x620000_2, .slice none 0 0, .slice none 0 0]) ?_ 0 _ rfl; (with_reducible repeat (first | refine blk_drewN ?_ _ | refine blk_drew ?_ | refine blk_alloc ?_ _)); exact BK619.out) Try.underlying93 rfl (by kernel_rfl)) rfl ?_
                              exact ⟨_, _, by first | rfl | (simp [errW_none, errW_some] <;> rfl) | (simp only [← hji17]; first | rfl | (simp [errW_none, errW_some] <;> rfl)) | (simp [*, errW_none, errW_some] <;> rfl), by first | exact Kd.R_nil _ _ _ _ _ | exact Kd.N_nil _ _ _ _ _ | exact Kd.V_nil _ _ _ _ _ | exact Kd.Q_nil _ _ _ _ _ | exact Kd.S_nil _ _ _ _ _, by first | exact Kd.R_nil _ _ _ _ _ | exact Kd.N_nil _ _ _ _ _ | exact Kd.V_nil _ _ _ _ _ | exact Kd.Q_nil _ _ _ _ _ | exact Kd.S_nil _ _ _ _ _, by repeat (first | (with_reducible first | exact HB.out | apply below_alloc | apply pw_below_drewN | apply below_drew1 | refine below_set ?_ GE619.out | refine below_set ?_ GE627.out) | exact HB.out)⟩
                      · rw [if_neg c20] at H
                        exact absurd H (by simp)
                    · rw [if_neg c19] at H
                      exact absurd H (by simp)
                  · rw [if_neg c18] at H
                    exact absurd H (by simp)
                · rw [if_neg c16] at H
                  have c16b0 : decide (x8_2 < (t624.size : Int)) = false := decide_eq_false c16
                  clear c16
                  simp only [Option.some.injEq, Prod.mk.injEq] at H
                  obtain ⟨rfl, rfl, rfl, rfl⟩ := H
                  have hnb59 := NB627_619.out
                  have hnc59 := NB619_627.out
                  have hcz60_0 : wr.cell? ⟨gb627, 0, none⟩ = some (.string (rdOf ByteArray.empty t620 0)) := (blk_cell BK627.out 0).trans rfl
                  have hcz60_1 : wr.cell? ⟨gb627, 1, none⟩ = some (u628001) := (blk_cell BK627.out 1).trans rfl
                  have hcz60_2 : wr.cell? ⟨gb627, 2, none⟩ = some (u628002) := (blk_cell BK627.out 2).trans rfl
                  have hfz60_0 := blk_frozen BK627.out 0
                  have hfz60_1 := blk_frozen BK627.out 1
                  have hfz60_2 := blk_frozen BK627.out 2
                  have hcz61_0 : wr.cell? ⟨gb619, 0, none⟩ = some (.string x620000_2) := (blk_cell BK619.out 0).trans rfl
                  have hcz61_1 : wr.cell? ⟨gb619, 1, none⟩ = some (.slice none 0 0) := (blk_cell BK619.out 1).trans rfl
                  have hcz61_2 : wr.cell? ⟨gb619, 2, none⟩ = some (.slice none 0 0) := (blk_cell BK619.out 2).trans rfl
                  have hfz61_0 := blk_frozen BK619.out 0
                  have hfz61_1 := blk_frozen BK619.out 1
                  have hfz61_2 := blk_frozen BK619.out 2
                  obtain ⟨Ao62, co62, eo62⟩ := Kd.R_slice HO_628001.out
                  subst eo62
                  obtain ⟨Ao63, co63, eo63⟩ := Kd.R_slice HO_628002.out
                  subst eo63
                  go_wp2
                  refine bodyPost_ret (results_ct rfl _ _ gb619 93 #[.string (rdOf ByteArray.empty t620 0), .slice Ao62 x628001_2.length co62, .slice Ao63 x628002_2.length co63] (0, 0) _ rfl (by (with_reducible repeat (first | refine blk_drewN ?_ _ | refine blk_drew ?_ | refine blk_alloc ?_ _)); refine blk_put (cs := #[.string (rdOf ByteArray.empty t620 0), .slice Ao62 x628001_2.length co62, .slice none 0 0]) ?_ 2 _ rfl; (with_reducible repeat (first | refine blk_drewN ?_ _ | refine blk_drew ?_ | refine blk_alloc ?_ _)); refine blk_put (cs := #[.string (rdOf ByteArray.empty t620 0), .slice none 0 0, .slice none 0 0]) ?_ 1 _ rfl; (with_reducible repeat (first | refine blk_drewN ?_ _ | refine blk_drew ?_ | refine blk_alloc ?_ _)); refine blk_put (cs := #[.string x620000_2, .slice none 0 0, .slice none 0 0]) ?_ 0 _ rfl; (with_reducible repeat (first | refine blk_drewN ?_ _ | refine blk_drew ?_ | refine blk_alloc ?_ _)); exact BK619.out) Try.underlying93 rfl (by kernel_rfl)) rfl ?_
                  exact ⟨_, _, by first | rfl | (simp [errW_none, errW_some] <;> rfl) | (simp [*, errW_none, errW_some] <;> rfl), by (with_reducible repeat (first | apply Kd.R_alloc | apply Kd.R_drewN | apply Kd.R_drew)); exact Kd.R_mono (Kd.R_far (p := ⟨gb619, 2, none⟩) (Kd.R_far (p := ⟨gb619, 1, none⟩) (Kd.R_far (p := ⟨gb619, 0, none⟩) (Kd.R_types HO_628001.out BK619.out (by decide)) (fun _ hk => hk.2) (.string (rdOf ByteArray.empty t620 0))) (fun _ hk => hk.2) (.slice Ao62 x628001_2.length co62)) (fun _ hk => hk.2) (.slice Ao63 x628002_2.length co63)) (fun _ hk => trivial), by (with_reducible repeat (first | apply Kd.R_alloc | apply Kd.R_drewN | apply Kd.R_drew)); exact Kd.R_mono (Kd.R_far (p := ⟨gb619, 2, none⟩) (Kd.R_far (p := ⟨gb619, 1, none⟩) (Kd.R_far (p := ⟨gb619, 0, none⟩) (Kd.R_types HO_628002.out BK619.out (by decide)) (fun _ hk => hk.2) (.string (rdOf ByteArray.empty t620 0))) (fun _ hk => hk.2) (.slice Ao62 x628001_2.length co62)) (fun _ hk => hk.2) (.slice Ao63 x628002_2.length co63)) (fun _ hk => trivial), by repeat (first | (with_reducible first | exact HB.out | apply below_alloc | apply pw_below_drewN | apply below_drew1 | refine below_set ?_ GE619.out | refine below_set ?_ GE627.out) | exact HB.out)⟩
          · rw [if_neg c12] at H
            exact absurd H (by simp)
  · rw [if_neg c3] at H
    exact absurd H (by simp)

end Go.Proofs.Ytppfdipgaifhiaa.Q
