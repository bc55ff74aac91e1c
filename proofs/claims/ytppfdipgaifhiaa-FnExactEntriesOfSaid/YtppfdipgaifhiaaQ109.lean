/- A function of the program and its contract: written by this session's qprint.py. -/
import Derived.Test.YtppfdipgaifhiaaQ0
import Derived.Test.YtppfdipgaifhiaaQ104
import Derived.Test.YtppfdipgaifhiaaQ105
import Derived.Test.YtppfdipgaifhiaaQ106
import Derived.Test.YtppfdipgaifhiaaQ107
import Derived.Test.YtppfdipgaifhiaaQ108
namespace Go.Proofs.Ytppfdipgaifhiaa.Q
open Go.RowKit Go.Proofs.YtppfdipgaifhiaaW.PrintWords Go.Proofs.YtppfdipgaifhiaaW.PrintLast Go.Proofs.YtppfdipgaifhiaaW.PrintMore
attribute [local go_sem] max2_int min2_int max_two min_two max_three min_three max_four min_four   -- for this text's walks alone
set_option linter.unusedVariables false
set_option linter.unusedSimpArgs false

/-! ### laws_FnExactEntriesOf: function 12 -/
def laws_FnExactEntriesOf.f (k : Nat) (a0 : ByteArray) (a1 : Int) : Option (Bool) := if (a0.size : Int) > 1000000 then (some true) else ((spec_EntriesOf.f k a0 a1).bind fun t877 => ((impl_EntriesOf.f k a0 a1).bind fun t880 => ((laws_eqStringS.f k t880 t877).bind fun t883 => (if t883 = true then ((laws_markStringS.f k t880 101).bind fun bt884 => ((laws_heldStringS.f k bt884.2 101).bind fun t886 => (if t886 < 0 then (some false) else (if t886 = bt884.1 then ((impl_EntriesOf.f k a0 a1).bind fun t887 => ((laws_eqStringS.f k t887 t877).bind fun t890 => (if t890 = true then ((laws_heldStringS.f k bt884.2 101).bind fun t891 => (if t891 < 0 then (some false) else (if t891 = bt884.1 then (some true) else (some false)))) else (some false)))) else (some false))))) else (some false)))))
theorem laws_FnExactEntriesOf.mono : ∀ a0 a1 k, LeO (laws_FnExactEntriesOf.f k a0 a1) (laws_FnExactEntriesOf.f (k + 1) a0 a1) := by
  intro a0 a1 k
  unfold laws_FnExactEntriesOf.f
  repeat' first
      | (with_reducible exact impl_EntriesOf.mono _ _ _)
      | (with_reducible exact laws_eqStringS.mono _ _ _)
      | (with_reducible exact laws_heldStringS.mono _ _ _)
      | (with_reducible exact laws_markStringS.mono _ _ _)
      | (with_reducible exact spec_EntriesOf.mono _ _ _)
      | (with_reducible exact LeO.refl _)
      | (with_reducible exact LeO.none _)
      | (with_reducible refine LeO.ite ?_ ?_)
      | (with_reducible refine LeO.bind ?_ (fun _ => ?_))
      | exact impl_EntriesOf.mono _ _ _
      | exact laws_eqStringS.mono _ _ _
      | exact laws_heldStringS.mono _ _ _
      | exact laws_markStringS.mono _ _ _
      | exact spec_EntriesOf.mono _ _ _
      | exact LeO.none _
      | refine LeO.ite ?_ ?_
      | refine LeO.bind ?_ (fun _ => ?_)
set_option maxHeartbeats 8000000 in
set_option maxRecDepth 100000 in
theorem laws_FnExactEntriesOf.calls (k : Nat) (a0 : ByteArray) (a1 : Int) (r : Bool) (w : World) (hr_ : Aside0 (r = true)) (h : laws_FnExactEntriesOf.f k a0 a1 = some r) :
    Calls Try.prog 12 #[.string a0, .int .u8 a1] w fun e w' => e = .returned (.bool r) ∧ Below w.heap.size w w' := by
  have HB := Aside0.mk (Below.refl w.heap.size w)
  have H : (if (a0.size : Int) > 1000000 then (some true) else ((spec_EntriesOf.f k a0 a1).bind fun t877 => ((impl_EntriesOf.f k a0 a1).bind fun t880 => ((laws_eqStringS.f k t880 t877).bind fun t883 => (if t883 = true then ((laws_markStringS.f k t880 101).bind fun bt884 => ((laws_heldStringS.f k bt884.2 101).bind fun t886 => (if t886 < 0 then (some false) else (if t886 = bt884.1 then ((impl_EntriesOf.f k a0 a1).bind fun t887 => ((laws_eqStringS.f k t887 t877).bind fun t890 => (if t890 = true then ((laws_heldStringS.f k bt884.2 101).bind fun t891 => (if t891 < 0 then (some false) else (if t891 = bt884.1 then (some true) else (some false)))) else (some false)))) else (some false))))) else (some false)))))) = some r := h
  clear h
  by_cases c3 : (a0.size : Int) > 1000000
  · rw [if_pos c3] at H
    have c3b0 : decide (1000000 < (a0.size : Int)) = true := decide_eq_true c3
    have c3b1 : decide (1000000 < a0.size) = true := decide_eq_true (by omega)
    clear c3
    obtain rfl := Option.some.inj H
    go_enter Try.func12, Try.ntmps12
    go_wp2
    go_ret
    exact ⟨by first | rfl | (simp [errW_none, errW_some] <;> rfl) | (simp [*, errW_none, errW_some] <;> rfl), by repeat (first | (with_reducible first | exact HB.out | apply below_alloc | apply pw_below_drewN | apply below_drew1) | exact HB.out)⟩
  · rw [if_neg c3] at H
    have c3b0 : decide (1000000 < (a0.size : Int)) = false := decide_eq_false c3
    have c3b1 : decide (1000000 < a0.size) = false := decide_eq_false (by omega)
    clear c3
    replace H := Option.bind_eq_some_iff.mp H
    obtain ⟨t877, A40, H⟩ := H
    replace H : ((impl_EntriesOf.f k a0 a1).bind fun t880 => ((laws_eqStringS.f k t880 t877).bind fun t883 => (if t883 = true then ((laws_markStringS.f k t880 101).bind fun bt884 => ((laws_heldStringS.f k bt884.2 101).bind fun t886 => (if t886 < 0 then (some false) else (if t886 = bt884.1 then ((impl_EntriesOf.f k a0 a1).bind fun t887 => ((laws_eqStringS.f k t887 t877).bind fun t890 => (if t890 = true then ((laws_heldStringS.f k bt884.2 101).bind fun t891 => (if t891 < 0 then (some false) else (if t891 = bt884.1 then (some true) else (some false)))) else (some false)))) else (some false))))) else (some false)))) = some r := H
    have A4 := Aside0.mk A40
    clear A40
    replace H := Option.bind_eq_some_iff.mp H
    obtain ⟨t880, A50, H⟩ := H
    replace H : ((laws_eqStringS.f k t880 t877).bind fun t883 => (if t883 = true then ((laws_markStringS.f k t880 101).bind fun bt884 => ((laws_heldStringS.f k bt884.2 101).bind fun t886 => (if t886 < 0 then (some false) else (if t886 = bt884.1 then ((impl_EntriesOf.f k a0 a1).bind fun t887 => ((laws_eqStringS.f k t887 t877).bind fun t890 => (if t890 = true then ((laws_heldStringS.f k bt884.2 101).bind fun t891 => (if t891 < 0 then (some false) else (if t891 = bt884.1 then (some true) else (some false)))) else (some false)))) else (some false))))) else (some false))) = some r := H
    have A5 := Aside0.mk A50
    clear A50
    replace H := Option.bind_eq_some_iff.mp H
    obtain ⟨t883, A60, H⟩ := H
    replace H : (if t883 = true then ((laws_markStringS.f k t880 101).bind fun bt884 => ((laws_heldStringS.f k bt884.2 101).bind fun t886 => (if t886 < 0 then (some false) else (if t886 = bt884.1 then ((impl_EntriesOf.f k a0 a1).bind fun t887 => ((laws_eqStringS.f k t887 t877).bind fun t890 => (if t890 = true then ((laws_heldStringS.f k bt884.2 101).bind fun t891 => (if t891 < 0 then (some false) else (if t891 = bt884.1 then (some true) else (some false)))) else (some false)))) else (some false))))) else (some false)) = some r := H
    have A6 := Aside0.mk A60
    clear A60
    by_cases c7 : t883 = true
    · subst c7
      have H1 : ((laws_markStringS.f k t880 101).bind fun bt884 => ((laws_heldStringS.f k bt884.2 101).bind fun t886 => (if t886 < 0 then (some false) else (if t886 = bt884.1 then ((impl_EntriesOf.f k a0 a1).bind fun t887 => ((laws_eqStringS.f k t887 t877).bind fun t890 => (if t890 = true then ((laws_heldStringS.f k bt884.2 101).bind fun t891 => (if t891 < 0 then (some false) else (if t891 = bt884.1 then (some true) else (some false)))) else (some false)))) else (some false))))) = some r := by rw [if_pos rfl] at H; exact H
      clear H
      have H := H1
      clear H1
      replace H := Option.bind_eq_some_iff.mp H
      obtain ⟨⟨t884, t885⟩, A80, H⟩ := H
      replace H : ((laws_heldStringS.f k t885 101).bind fun t886 => (if t886 < 0 then (some false) else (if t886 = t884 then ((impl_EntriesOf.f k a0 a1).bind fun t887 => ((laws_eqStringS.f k t887 t877).bind fun t890 => (if t890 = true then ((laws_heldStringS.f k t885 101).bind fun t891 => (if t891 < 0 then (some false) else (if t891 = t884 then (some true) else (some false)))) else (some false)))) else (some false)))) = some r := H
      have A8 := Aside0.mk A80
      clear A80
      replace H := Option.bind_eq_some_iff.mp H
      obtain ⟨t886, A90, H⟩ := H
      replace H : (if t886 < 0 then (some false) else (if t886 = t884 then ((impl_EntriesOf.f k a0 a1).bind fun t887 => ((laws_eqStringS.f k t887 t877).bind fun t890 => (if t890 = true then ((laws_heldStringS.f k t885 101).bind fun t891 => (if t891 < 0 then (some false) else (if t891 = t884 then (some true) else (some false)))) else (some false)))) else (some false))) = some r := H
      have A9 := Aside0.mk A90
      clear A90
      by_cases c10 : t886 < 0
      · rw [if_pos c10] at H
        have c10b0 : decide (t886 < 0) = true := decide_eq_true c10
        clear c10
        exact absurd ((Option.some.inj H).trans hr_.out) (by decide)
      · rw [if_neg c10] at H
        have c10b0 : decide (t886 < 0) = false := decide_eq_false c10
        clear c10
        by_cases c11 : t886 = t884
        · rw [if_pos c11] at H
          have c11b0 : (t886 == t884) = true := beq_iff_eq.mpr c11
          have c11b1 : (t886 != t884) = false := bne_eq_false_iff_eq.mpr c11
          clear c11
          replace H := Option.bind_eq_some_iff.mp H
          obtain ⟨t887, A120, H⟩ := H
          replace H : ((laws_eqStringS.f k t887 t877).bind fun t890 => (if t890 = true then ((laws_heldStringS.f k t885 101).bind fun t891 => (if t891 < 0 then (some false) else (if t891 = t884 then (some true) else (some false)))) else (some false))) = some r := H
          have A12 := Aside0.mk A120
          clear A120
          replace H := Option.bind_eq_some_iff.mp H
          obtain ⟨t890, A130, H⟩ := H
          replace H : (if t890 = true then ((laws_heldStringS.f k t885 101).bind fun t891 => (if t891 < 0 then (some false) else (if t891 = t884 then (some true) else (some false)))) else (some false)) = some r := H
          have A13 := Aside0.mk A130
          clear A130
          by_cases c14 : t890 = true
          · subst c14
            have H1 : ((laws_heldStringS.f k t885 101).bind fun t891 => (if t891 < 0 then (some false) else (if t891 = t884 then (some true) else (some false)))) = some r := by rw [if_pos rfl] at H; exact H
            clear H
            have H := H1
            clear H1
            replace H := Option.bind_eq_some_iff.mp H
            obtain ⟨t891, A150, H⟩ := H
            replace H : (if t891 < 0 then (some false) else (if t891 = t884 then (some true) else (some false))) = some r := H
            have A15 := Aside0.mk A150
            clear A150
            by_cases c16 : t891 < 0
            · rw [if_pos c16] at H
              have c16b0 : decide (t891 < 0) = true := decide_eq_true c16
              clear c16
              exact absurd ((Option.some.inj H).trans hr_.out) (by decide)
            · rw [if_neg c16] at H
              have c16b0 : decide (t891 < 0) = false := decide_eq_false c16
              clear c16
              by_cases c17 : t891 = t884
              · rw [if_pos c17] at H
                have c17b0 : (t891 == t884) = true := beq_iff_eq.mpr c17
                have c17b1 : (t891 != t884) = false := bne_eq_false_iff_eq.mpr c17
                clear c17
                obtain rfl := Option.some.inj H
                go_enter Try.func12, Try.ntmps12
                go_wp2_with (first | ((with_reducible refine gate_callee (f := 50) rfl ?_); refine goesL_ (some 15) rfl rfl Try.func50 (by kernel_rfl) rfl #[.string a0, .int .u8 a1] rfl (by (try simp only [List.map_toArray, List.map_cons, List.map_nil]); first | done | rfl | (simp only [List.length_drop, List.length_take]; rfl)) ?_; (with_reducible refine (spec_EntriesOf.calls k a0 a1 t877 _ A4.out).mono ?_); rintro e w18 ⟨v878, rfl, ho0, hb⟩; refine ⟨_, rfl, ?_⟩; have n0_ := Aside0.mk (Kd.R_lower ho0 (below_size (by repeat (first | (with_reducible first | exact HB.out | apply below_alloc | apply pw_below_drewN | apply below_drew1) | exact HB.out)))); have n1_ := Aside0.mk (below_step (by repeat (first | (with_reducible first | exact HB.out | apply below_alloc | apply pw_below_drewN | apply below_drew1) | exact HB.out)) hb); clear HB; have HO879 := n0_; have HB := n1_; clear n0_ n1_; (try clear hb); (try clear hb2); (try clear hk); (try clear hi); (try clear ho0)) | ((with_reducible refine gate_callee (f := 51) rfl ?_); refine goesL_ (some 18) rfl rfl Try.func51 (by kernel_rfl) rfl #[.string a0, .int .u8 a1] rfl (by (try simp only [List.map_toArray, List.map_cons, List.map_nil]); first | done | rfl | (simp only [List.length_drop, List.length_take]; rfl)) ?_; (with_reducible refine (impl_EntriesOf.calls k a0 a1 t880 _ A5.out).mono ?_); rintro e w19 ⟨v881, rfl, ho0, hb⟩; refine ⟨_, rfl, ?_⟩; have n0_ := Aside0.mk (Kd.R_elder' (by (with_reducible repeat (first | apply Kd.R_alloc | apply Kd.R_drewN | apply Kd.R_drew)); exact HO879.out) (Kd.R_base ho0) hb); have n1_ := Aside0.mk (Kd.R_lower (Kd.R_new' ho0 (Kd.R_lt (by (with_reducible repeat (first | apply Kd.R_alloc | apply Kd.R_drewN | apply Kd.R_drew)); exact HO879.out))) (below_size (by repeat (first | (with_reducible first | exact HB.out | apply below_alloc | apply pw_below_drewN | apply below_drew1) | exact HB.out)))); have n2_ := Aside0.mk (below_step (by repeat (first | (with_reducible first | exact HB.out | apply below_alloc | apply pw_below_drewN | apply below_drew1) | exact HB.out)) hb); clear HO879; clear HB; have HO879 := n0_; have HO882 := n1_; have HB := n2_; clear n0_ n1_ n2_; (try clear hb); (try clear hb2); (try clear hk); (try clear hi); (try clear ho0); obtain ⟨Ao20, co20, eo20⟩ := Kd.R_slice HO882.out; subst eo20; obtain ⟨Ao21, co21, eo21⟩ := Kd.R_slice HO879.out; subst eo21) | ((with_reducible refine gate_callee (f := 52) rfl ?_); refine goesL_ (some 21) rfl rfl Try.func52 (by kernel_rfl) rfl #[.slice Ao20 t880.length co20, .slice Ao21 t877.length co21] rfl (by (try simp only [List.map_toArray, List.map_cons, List.map_nil]); first | done | rfl | (simp only [List.length_drop, List.length_take]; rfl)) ?_; (with_reducible refine (laws_eqStringS.calls k _ _ t880 _ _ t877 true _ ?side1 ?side2 ?side3 ?side4 A6.out).mono ?_); (case side1 => repeat (first | exact (Kd.R_reads' HO882.out).2.2 | (with_reducible refine Kd.C_alloc ?_ _) | (with_reducible refine Kd.C_drewN ?_ _) | (with_reducible refine Kd.C_drew ?_))); (case side2 => exact (Kd.R_reads' HO882.out).2.1); (case side3 => repeat (first | exact (Kd.R_reads' HO879.out).2.2 | (with_reducible refine Kd.C_alloc ?_ _) | (with_reducible refine Kd.C_drewN ?_ _) | (with_reducible refine Kd.C_drew ?_))); (case side4 => exact (Kd.R_reads' HO879.out).2.1); rintro e w' ⟨rfl, ⟨nd, rfl⟩⟩; refine ⟨_, rfl, ?_⟩) | ((with_reducible refine gate_callee (f := 53) rfl ?_); refine goesL_ (some 25) rfl rfl Try.func53 (by kernel_rfl) rfl #[.slice Ao20 t880.length co20, .int .i64 101] rfl (by (try simp only [List.map_toArray, List.map_cons, List.map_nil]); first | done | rfl | (simp only [List.length_drop, List.length_take]; rfl)) ?_; (with_reducible refine (laws_markStringS.calls k (fun k_ => some k_ = (.slice Ao20 t880.length co20 : Value).ownBlock) (.slice Ao20 t880.length co20) t880 101 t884 t885 w _ ?side1 ?side2 A8.out).mono ?_); (case side1 => repeat (first | (with_reducible first | exact HB.out | apply below_alloc | apply pw_below_drewN | apply below_drew1) | exact HB.out)); (case side2 => exact Kd.R_tight rfl HO882.out); rintro e w22 ⟨rfl, hy0, hb, hkp⟩; refine ⟨_, rfl, ?_⟩; have n0_ := Aside0.mk (Kd.R_mono (ok' := fun k_ => some k_ ≠ (.slice Ao20 t880.length co20 : Value).ownBlock) (Kd.R_keptB (HO879.out) hkp (fun k_ hk_ hs_ => (hk_.2) hs_)) (fun k_ hk_ => hk_.1.2)); have n1_ := Aside0.mk (Kd.R_reok rfl hy0 (fun k_ e_ => HO882.out.1 k_ e_)); have n2_ := Aside0.mk (hb); clear HO879; clear HO882; clear HB; have HO879 := n0_; have HO882 := n1_; have HB := n2_; clear n0_ n1_ n2_; (try clear hb); (try clear hkp); (try clear hy0)) | ((with_reducible refine gate_callee (f := 54) rfl ?_); refine goesL_ (some 28) rfl rfl Try.func54 (by kernel_rfl) rfl #[.slice Ao20 t885.length co20, .int .i64 101] rfl (by (try simp only [List.map_toArray, List.map_cons, List.map_nil]); first | done | (rw [show t885.length = t880.length from (Kd.R_reads' HO882.out).1.symm] <;> rfl) | rfl | (simp only [List.length_drop, List.length_take]; rfl)) ?_; (with_reducible refine (laws_heldStringS.calls k _ _ t885 101 t886 _ ?side1 ?side2 A9.out).mono ?_); (case side1 => repeat (first | exact (Kd.R_reads' HO882.out).2.2 | (with_reducible refine Kd.C_alloc ?_ _) | (with_reducible refine Kd.C_drewN ?_ _) | (with_reducible refine Kd.C_drew ?_))); (case side2 => rw [show t885.length = t880.length from (Kd.R_reads' HO882.out).1.symm]; exact (Kd.R_reads' HO882.out).2.1); rintro e w23 ⟨rfl, hb⟩; refine ⟨_, rfl, ?_⟩; have n0_ := Aside0.mk (Kd.R_below (by (with_reducible repeat (first | apply Kd.R_alloc | apply Kd.R_drewN | apply Kd.R_drew)); exact HO879.out) hb); have n1_ := Aside0.mk (Kd.R_below (by (with_reducible repeat (first | apply Kd.R_alloc | apply Kd.R_drewN | apply Kd.R_drew)); exact HO882.out) hb); have n2_ := Aside0.mk (below_step (by repeat (first | (with_reducible first | exact HB.out | apply below_alloc | apply pw_below_drewN | apply below_drew1) | exact HB.out)) hb); clear HO879; clear HO882; clear HB; have HO879 := n0_; have HO882 := n1_; have HB := n2_; clear n0_ n1_ n2_; (try clear hb); (try clear hb2); (try clear hk); (try clear hi)) | ((with_reducible refine gate_callee (f := 51) rfl ?_); refine goesL_ (some 36) rfl rfl Try.func51 (by kernel_rfl) rfl #[.string a0, .int .u8 a1] rfl (by (try simp only [List.map_toArray, List.map_cons, List.map_nil]); first | done | rfl | (simp only [List.length_drop, List.length_take]; rfl)) ?_; (with_reducible refine (impl_EntriesOf.calls k a0 a1 t887 _ A12.out).mono ?_); rintro e w24 ⟨v888, rfl, ho0, hb⟩; refine ⟨_, rfl, ?_⟩; have n0_ := Aside0.mk (Kd.R_elder' (by (with_reducible repeat (first | apply Kd.R_alloc | apply Kd.R_drewN | apply Kd.R_drew)); exact HO879.out) (Kd.R_base ho0) hb); have n1_ := Aside0.mk (Kd.R_elder' (by (with_reducible repeat (first | apply Kd.R_alloc | apply Kd.R_drewN | apply Kd.R_drew)); exact HO882.out) (Kd.R_base ho0) hb); have n2_ := Aside0.mk (Kd.R_lower (Kd.R_new' (Kd.R_new' ho0 (Kd.R_lt (by (with_reducible repeat (first | apply Kd.R_alloc | apply Kd.R_drewN | apply Kd.R_drew)); exact HO879.out))) (Kd.R_lt (by (with_reducible repeat (first | apply Kd.R_alloc | apply Kd.R_drewN | apply Kd.R_drew)); exact HO882.out))) (below_size (by repeat (first | (with_reducible first | exact HB.out | apply below_alloc | apply pw_below_drewN | apply below_drew1) | exact HB.out)))); have n3_ := Aside0.mk (below_step (by repeat (first | (with_reducible first | exact HB.out | apply below_alloc | apply pw_below_drewN | apply below_drew1) | exact HB.out)) hb); clear HO879; clear HO882; clear HB; have HO879 := n0_; have HO882 := n1_; have HO889 := n2_; have HB := n3_; clear n0_ n1_ n2_ n3_; (try clear hb); (try clear hb2); (try clear hk); (try clear hi); (try clear ho0); obtain ⟨Ao25, co25, eo25⟩ := Kd.R_slice HO889.out; subst eo25) | ((with_reducible refine gate_callee (f := 52) rfl ?_); refine goesL_ (some 39) rfl rfl Try.func52 (by kernel_rfl) rfl #[.slice Ao25 t887.length co25, .slice Ao21 t877.length co21] rfl (by (try simp only [List.map_toArray, List.map_cons, List.map_nil]); first | done | rfl | (simp only [List.length_drop, List.length_take]; rfl)) ?_; (with_reducible refine (laws_eqStringS.calls k _ _ t887 _ _ t877 true _ ?side1 ?side2 ?side3 ?side4 A13.out).mono ?_); (case side1 => repeat (first | exact (Kd.R_reads' HO889.out).2.2 | (with_reducible refine Kd.C_alloc ?_ _) | (with_reducible refine Kd.C_drewN ?_ _) | (with_reducible refine Kd.C_drew ?_))); (case side2 => exact (Kd.R_reads' HO889.out).2.1); (case side3 => repeat (first | exact (Kd.R_reads' HO879.out).2.2 | (with_reducible refine Kd.C_alloc ?_ _) | (with_reducible refine Kd.C_drewN ?_ _) | (with_reducible refine Kd.C_drew ?_))); (case side4 => exact (Kd.R_reads' HO879.out).2.1); rintro e w' ⟨rfl, ⟨nd, rfl⟩⟩; refine ⟨_, rfl, ?_⟩) | ((with_reducible refine gate_callee (f := 54) rfl ?_); refine goesL_ (some 43) rfl rfl Try.func54 (by kernel_rfl) rfl #[.slice Ao20 t885.length co20, .int .i64 101] rfl (by (try simp only [List.map_toArray, List.map_cons, List.map_nil]); first | done | (rw [show t885.length = t880.length from (Kd.R_reads' HO882.out).1.symm] <;> rfl) | rfl | (simp only [List.length_drop, List.length_take]; rfl)) ?_; (with_reducible refine (laws_heldStringS.calls k _ _ t885 101 t891 _ ?side1 ?side2 A15.out).mono ?_); (case side1 => repeat (first | exact (Kd.R_reads' HO882.out).2.2 | (with_reducible refine Kd.C_alloc ?_ _) | (with_reducible refine Kd.C_drewN ?_ _) | (with_reducible refine Kd.C_drew ?_))); (case side2 => rw [show t885.length = t880.length from (Kd.R_reads' HO882.out).1.symm]; exact (Kd.R_reads' HO882.out).2.1); rintro e w26 ⟨rfl, hb⟩; refine ⟨_, rfl, ?_⟩; have n0_ := Aside0.mk (Kd.R_below (by (with_reducible repeat (first | apply Kd.R_alloc | apply Kd.R_drewN | apply Kd.R_drew)); exact HO879.out) hb); have n1_ := Aside0.mk (Kd.R_below (by (with_reducible repeat (first | apply Kd.R_alloc | apply Kd.R_drewN | apply Kd.R_drew)); exact HO882.out) hb); have n2_ := Aside0.mk (Kd.R_below (by (with_reducible repeat (first | apply Kd.R_alloc | apply Kd.R_drewN | apply Kd.R_drew)); exact HO889.out) hb); have n3_ := Aside0.mk (below_step (by repeat (first | (with_reducible first | exact HB.out | apply below_alloc | apply pw_below_drewN | apply below_drew1) | exact HB.out)) hb); clear HO879; clear HO882; clear HO889; clear HB; have HO879 := n0_; have HO882 := n1_; have HO889 := n2_; have HB := n3_; clear n0_ n1_ n2_ n3_; (try clear hb); (try clear hb2); (try clear hk); (try clear hi)))
                go_ret
                exact ⟨by first | rfl | (simp [errW_none, errW_some] <;> rfl) | (simp [*, errW_none, errW_some] <;> rfl), by repeat (first | (with_reducible first | exact HB.out | apply below_alloc | apply pw_below_drewN | apply below_drew1) | exact HB.out)⟩
              · rw [if_neg c17] at H
                have c17b0 : (t891 == t884) = false := beq_eq_false_iff_ne.mpr c17
                have c17b1 : (t891 != t884) = true := bne_iff_ne.mpr c17
                exact absurd ((Option.some.inj H).trans hr_.out) (by decide)
          · replace c14 := Bool.eq_false_iff.mpr c14
            subst c14
            have H1 : (some false) = some r := by rw [if_neg (show ¬ (false = true) by decide)] at H; exact H
            clear H
            have H := H1
            clear H1
            exact absurd ((Option.some.inj H).trans hr_.out) (by decide)
        · rw [if_neg c11] at H
          have c11b0 : (t886 == t884) = false := beq_eq_false_iff_ne.mpr c11
          have c11b1 : (t886 != t884) = true := bne_iff_ne.mpr c11
          exact absurd ((Option.some.inj H).trans hr_.out) (by decide)
    · replace c7 := Bool.eq_false_iff.mpr c7
      subst c7
      have H1 : (some false) = some r := by rw [if_neg (show ¬ (false = true) by decide)] at H; exact H
      clear H
      have H := H1
      clear H1
      exact absurd ((Option.some.inj H).trans hr_.out) (by decide)

/-- THE ONE PURE STATEMENT of laws_FnExactEntriesOf: yours. -/
def laws_FnExactEntriesOf.Pure : Prop := ∀ (a0 : ByteArray) (a1 : Int), a0.size ≤ 140737488351232 → (Lit.int .u8 a1).wf = true → ∃ k, laws_FnExactEntriesOf.f k a0 a1 = some true
theorem laws_FnExactEntriesOf.walk (P : laws_FnExactEntriesOf.Pure) (a0 : ByteArray) (a1 : Int) (w : World) (w0 : a0.size ≤ 140737488351232) (w1 : (Lit.int .u8 a1).wf = true) :
    Calls Try.prog 12 #[.string a0, .int .u8 a1] w fun e w' => e = .returned (.bool true) ∧ Below w.heap.size w w' := by
  obtain ⟨k, h⟩ := P a0 a1 w0 w1
  refine (laws_FnExactEntriesOf.calls k a0 a1 true w ⟨rfl⟩ h).mono ?_
  rintro e w' ⟨rfl, hd⟩
  exact ⟨rfl, hd⟩

end Go.Proofs.Ytppfdipgaifhiaa.Q
