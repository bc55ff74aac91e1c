/- A function of the program and its contract: written by this session's qprint.py. -/
import Derived.Test.YtlggajipoionjaaQ0
import Derived.Test.YtlggajipoionjaaQ54
import Derived.Test.YtlggajipoionjaaQ60
namespace Go.Proofs.Ytlggajipoionjaa.Q
open Go.RowKit Go.Proofs.YtlggajipoionjaaW.PrintWords Go.Proofs.YtlggajipoionjaaW.PrintLast Go.Proofs.YtlggajipoionjaaW.PrintMore
attribute [local go_sem] max2_int min2_int max_two min_two max_three min_three max_four min_four   -- for this text's walks alone
set_option linter.unusedVariables false
set_option linter.unusedSimpArgs false

/-! ### laws_FnExactIsWhole: function 7 -/
def laws_FnExactIsWhole.f (k : Nat) (a0 : ByteArray) : Option (Bool) := if (a0.size : Int) > 1000000 then (some true) else ((spec_IsWhole.f k a0).bind fun t401 => ((impl_IsWhole.f k a0).bind fun t402 => (if (t402 != t401) = true then (some false) else (some true))))
theorem laws_FnExactIsWhole.mono : ∀ a0 k, LeO (laws_FnExactIsWhole.f k a0) (laws_FnExactIsWhole.f (k + 1) a0) := by
  intro a0 k
  unfold laws_FnExactIsWhole.f
  repeat' first
      | (with_reducible exact impl_IsWhole.mono _ _)
      | (with_reducible exact spec_IsWhole.mono _ _)
      | (with_reducible exact LeO.refl _)
      | (with_reducible exact LeO.none _)
      | (with_reducible refine LeO.ite ?_ ?_)
      | (with_reducible refine LeO.bind ?_ (fun _ => ?_))
      | exact impl_IsWhole.mono _ _
      | exact spec_IsWhole.mono _ _
      | exact LeO.none _
      | refine LeO.ite ?_ ?_
      | refine LeO.bind ?_ (fun _ => ?_)
set_option maxHeartbeats 8000000 in
set_option maxRecDepth 100000 in
theorem laws_FnExactIsWhole.calls (k : Nat) (a0 : ByteArray) (r : Bool) (w : World) (hr_ : Aside0 (r = true)) (h : laws_FnExactIsWhole.f k a0 = some r) :
    Calls Try.prog 7 #[.string a0] w fun e w' => e = .returned (.bool r) ∧ Below w.heap.size w w' := by
  have HB := Aside0.mk (Below.refl w.heap.size w)
  have H : (if (a0.size : Int) > 1000000 then (some true) else ((spec_IsWhole.f k a0).bind fun t401 => ((impl_IsWhole.f k a0).bind fun t402 => (if (t402 != t401) = true then (some false) else (some true))))) = some r := h
  clear h
  by_cases c2 : (a0.size : Int) > 1000000
  · rw [if_pos c2] at H
    have c2b0 : decide (1000000 < (a0.size : Int)) = true := decide_eq_true c2
    have c2b1 : decide (1000000 < a0.size) = true := decide_eq_true (by omega)
    clear c2
    obtain rfl := Option.some.inj H
    go_enter Try.func7, Try.ntmps7
    go_wp2
    go_ret
    exact ⟨by first | rfl | (simp [errW_none, errW_some] <;> rfl) | (simp [*, errW_none, errW_some] <;> rfl), by repeat (first | (with_reducible first | exact HB.out | apply below_alloc | apply pw_below_drewN | apply below_drew1) | exact HB.out)⟩
  · rw [if_neg c2] at H
    have c2b0 : decide (1000000 < (a0.size : Int)) = false := decide_eq_false c2
    have c2b1 : decide (1000000 < a0.size) = false := decide_eq_false (by omega)
    clear c2
    replace H := Option.bind_eq_some_iff.mp H
    obtain ⟨t401, A30, H⟩ := H
    replace H : ((impl_IsWhole.f k a0).bind fun t402 => (if (t402 != t401) = true then (some false) else (some true))) = some r := H
    have A3 := Aside0.mk A30
    clear A30
    replace H := Option.bind_eq_some_iff.mp H
    obtain ⟨t402, A40, H⟩ := H
    replace H : (if (t402 != t401) = true then (some false) else (some true)) = some r := H
    have A4 := Aside0.mk A40
    clear A40
    by_cases c5 : (t402 != t401) = true
    · rw [if_pos c5] at H
      have c5b0 : (t402 != t401) = true := c5
      (try (have c5b1 : decide (t402 = t401) = false := by simpa using c5))
      (try (have c5b2 : (t402 == t401) = false := by simpa using c5))
      (try (have c5b3 : ¬ (t402 = t401) := by simpa using c5))
      clear c5
      exact absurd ((Option.some.inj H).trans hr_.out) (by decide)
    · rw [if_neg c5] at H
      have c5b0 : (t402 != t401) = false := by simpa using c5
      (try (have c5b1 : decide (t402 = t401) = true := by simpa using c5))
      (try (have c5b2 : (t402 == t401) = true := by simpa using c5))
      clear c5
      obtain rfl := Option.some.inj H
      go_enter Try.func7, Try.ntmps7
      go_wp2_with (first | ((with_reducible refine gate_callee (f := 31) rfl ?_); refine goesL_ (some 9) rfl rfl Try.func31 (by kernel_rfl) rfl #[.string a0] rfl (by (try simp only [List.map_toArray, List.map_cons, List.map_nil]); first | done | rfl | (simp only [List.length_drop, List.length_take]; rfl)) ?_; (with_reducible refine (spec_IsWhole.calls k a0 t401 _ A3.out).mono ?_); rintro e w6 ⟨rfl, hb⟩; refine ⟨_, rfl, ?_⟩; have n0_ := Aside0.mk (below_step (by repeat (first | (with_reducible first | exact HB.out | apply below_alloc | apply pw_below_drewN | apply below_drew1) | exact HB.out)) hb); clear HB; have HB := n0_; clear n0_; (try clear hb); (try clear hb2); (try clear hk); (try clear hi)) | ((with_reducible refine gate_callee (f := 32) rfl ?_); refine goesL_ (some 11) rfl rfl Try.func32 (by kernel_rfl) rfl #[.string a0] rfl (by (try simp only [List.map_toArray, List.map_cons, List.map_nil]); first | done | rfl | (simp only [List.length_drop, List.length_take]; rfl)) ?_; (with_reducible refine (impl_IsWhole.calls k a0 t402 _ A4.out).mono ?_); rintro e w7 ⟨rfl, hb⟩; refine ⟨_, rfl, ?_⟩; have n0_ := Aside0.mk (below_step (by repeat (first | (with_reducible first | exact HB.out | apply below_alloc | apply pw_below_drewN | apply below_drew1) | exact HB.out)) hb); clear HB; have HB := n0_; clear n0_; (try clear hb); (try clear hb2); (try clear hk); (try clear hi)))
      go_ret
      exact ⟨by first | rfl | (simp [errW_none, errW_some] <;> rfl) | (simp [*, errW_none, errW_some] <;> rfl), by repeat (first | (with_reducible first | exact HB.out | apply below_alloc | apply pw_below_drewN | apply below_drew1) | exact HB.out)⟩

/-- THE ONE PURE STATEMENT of laws_FnExactIsWhole: yours. -/
def laws_FnExactIsWhole.Pure : Prop := ∀ (a0 : ByteArray), a0.size ≤ 140737488351232 → ∃ k, laws_FnExactIsWhole.f k a0 = some true
theorem laws_FnExactIsWhole.walk (P : laws_FnExactIsWhole.Pure) (a0 : ByteArray) (w : World) (w0 : a0.size ≤ 140737488351232) :
    Calls Try.prog 7 #[.string a0] w fun e w' => e = .returned (.bool true) ∧ Below w.heap.size w w' := by
  obtain ⟨k, h⟩ := P a0 w0
  refine (laws_FnExactIsWhole.calls k a0 true w ⟨rfl⟩ h).mono ?_
  rintro e w' ⟨rfl, hd⟩
  exact ⟨rfl, hd⟩

end Go.Proofs.Ytlggajipoionjaa.Q
