/- A function of the program and its contract: written by this session's qprint.py. -/
import Derived.Test.YtppfdipgaifhiaaQ0
namespace Go.Proofs.Ytppfdipgaifhiaa.Q
open Go.RowKit Go.Proofs.YtppfdipgaifhiaaW.PrintWords Go.Proofs.YtppfdipgaifhiaaW.PrintLast Go.Proofs.YtppfdipgaifhiaaW.PrintMore
attribute [local go_sem] max2_int min2_int max_two min_two max_three min_three max_four min_four   -- for this text's walks alone
set_option linter.unusedVariables false
set_option linter.unusedSimpArgs false

/-! ### impl_commandShape: function 109 -/
mutual
def impl_commandShape.j0 : Nat → ByteArray → Bool → Option (ByteArray × Bool)
  | 0, _, _ => none
  | k + 1, x4, x7 => if x7 = true then (some ((⟨#[116, 105]⟩ : ByteArray), true)) else (if x4.toList = ([115, 116, 97, 116, 101] : List UInt8) then (impl_commandShape.j1 k x4 (x4.toList == ([115, 116, 97, 116, 101] : List UInt8))) else (if x4.toList = ([102, 105, 114, 101] : List UInt8) then (impl_commandShape.j1 k x4 (x4.toList == ([102, 105, 114, 101] : List UInt8))) else (if x4.toList = ([115, 101, 116, 116, 108, 101] : List UInt8) then (impl_commandShape.j1 k x4 (x4.toList == ([115, 101, 116, 116, 108, 101] : List UInt8))) else (if x4.toList = ([116, 111, 112] : List UInt8) then (impl_commandShape.j1 k x4 (x4.toList == ([116, 111, 112] : List UInt8))) else (impl_commandShape.j1 k x4 (x4.toList == ([116, 105, 109, 101] : List UInt8)))))))
def impl_commandShape.j1 : Nat → ByteArray → Bool → Option (ByteArray × Bool)
  | 0, _, _ => none
  | k + 1, x4, x10 => if x10 = true then (some ((⟨#[105]⟩ : ByteArray), true)) else (if x4.toList = ([98, 111, 111, 107] : List UInt8) then (some ((⟨#[116, 116, 105]⟩ : ByteArray), true)) else (if x4.toList = ([108, 101, 102, 116] : List UInt8) then (some ((⟨#[116]⟩ : ByteArray), true)) else (if x4.toList = ([111, 112, 101, 110] : List UInt8) then (some ((⟨#[]⟩ : ByteArray), true)) else (if x4.toList = ([110, 101, 101, 100] : List UInt8) then (some ((⟨#[105, 105]⟩ : ByteArray), true)) else (some ((⟨#[]⟩ : ByteArray), false))))))
end
def impl_commandShape.f (k : Nat) (a0 : ByteArray) : Option (ByteArray × Bool) := if a0.toList = ([112, 101, 111, 112, 108, 101] : List UInt8) then (some ((⟨#[116, 105, 106]⟩ : ByteArray), true)) else (if a0.toList = ([99, 108, 101, 97, 114] : List UInt8) then (impl_commandShape.j0 k a0 (a0.toList == ([99, 108, 101, 97, 114] : List UInt8))) else (impl_commandShape.j0 k a0 (a0.toList == ([115, 105, 103, 110, 97, 108] : List UInt8))))
theorem impl_commandShape.mono_l : ∀ k, (∀ y0 y1, LeO (impl_commandShape.j0 k y0 y1) (impl_commandShape.j0 (k + 1) y0 y1)) ∧ (∀ y0 y1, LeO (impl_commandShape.j1 k y0 y1) (impl_commandShape.j1 (k + 1) y0 y1))
  | 0 => ⟨fun _ _ r h => by simp [impl_commandShape.j0] at h, fun _ _ r h => by simp [impl_commandShape.j1] at h⟩
  | k + 1 => by
    obtain ⟨ih0, ih1⟩ := impl_commandShape.mono_l k
    refine ⟨?_, ?_⟩
    · intro y0 y1
      unfold impl_commandShape.j0
      repeat' first
      | (with_reducible exact ih0 _ _)
      | (with_reducible exact ih1 _ _)
      | (with_reducible exact LeO.refl _)
      | (with_reducible exact LeO.none _)
      | (with_reducible refine LeO.ite ?_ ?_)
      | (with_reducible refine LeO.bind ?_ (fun _ => ?_))
      | exact ih0 _ _
      | exact ih1 _ _
      | exact LeO.none _
      | refine LeO.ite ?_ ?_
      | refine LeO.bind ?_ (fun _ => ?_)
    · intro y0 y1
      unfold impl_commandShape.j1
      repeat' first
      | (with_reducible exact ih0 _ _)
      | (with_reducible exact ih1 _ _)
      | (with_reducible exact LeO.refl _)
      | (with_reducible exact LeO.none _)
      | (with_reducible refine LeO.ite ?_ ?_)
      | (with_reducible refine LeO.bind ?_ (fun _ => ?_))
      | exact ih0 _ _
      | exact ih1 _ _
      | exact LeO.none _
      | refine LeO.ite ?_ ?_
      | refine LeO.bind ?_ (fun _ => ?_)
theorem impl_commandShape.mono : ∀ a0 k, LeO (impl_commandShape.f k a0) (impl_commandShape.f (k + 1) a0) := by
  intro a0 k
  obtain ⟨ih0, ih1⟩ := impl_commandShape.mono_l k
  unfold impl_commandShape.f
  repeat' first
      | (with_reducible exact ih0 _ _)
      | (with_reducible exact ih1 _ _)
      | (with_reducible exact LeO.refl _)
      | (with_reducible exact LeO.none _)
      | (with_reducible refine LeO.ite ?_ ?_)
      | (with_reducible refine LeO.bind ?_ (fun _ => ?_))
      | exact ih0 _ _
      | exact ih1 _ _
      | exact LeO.none _
      | refine LeO.ite ?_ ?_
      | refine LeO.bind ?_ (fun _ => ?_)
set_option maxHeartbeats 8000000 in
set_option maxRecDepth 100000 in
theorem impl_commandShape.calls (k : Nat) (a0 : ByteArray) (r1 : ByteArray) (r2 : Bool) (w : World) (h : impl_commandShape.f k a0 = some (r1, r2)) :
    Calls Try.prog 109 #[.string a0] w fun e w' => e = .returned (.tuple #[.string r1, .bool r2]) ∧ Drawn0 w w' := by
  have H : (if a0.toList = ([112, 101, 111, 112, 108, 101] : List UInt8) then (some ((⟨#[116, 105, 106]⟩ : ByteArray), true)) else (if a0.toList = ([99, 108, 101, 97, 114] : List UInt8) then (impl_commandShape.j0 k a0 (a0.toList == ([99, 108, 101, 97, 114] : List UInt8))) else (impl_commandShape.j0 k a0 (a0.toList == ([115, 105, 103, 110, 97, 108] : List UInt8))))) = some (r1, r2) := h
  clear h
  by_cases c2 : a0.toList = ([112, 101, 111, 112, 108, 101] : List UInt8)
  · rw [if_pos c2] at H
    have c2b0 : (a0.toList == ([112, 101, 111, 112, 108, 101] : List UInt8)) = true := beq_iff_eq.mpr c2
    have c2b1 : (a0.toList != ([112, 101, 111, 112, 108, 101] : List UInt8)) = false := bne_eq_false_iff_eq.mpr c2
    clear c2
    simp only [Option.some.injEq, Prod.mk.injEq] at H
    obtain ⟨rfl, rfl⟩ := H
    go_enter Try.func109, Try.ntmps109
    go_wp2
    go_ret2
    exact ⟨by first | rfl | (simp; done) | (simp [*]; done), by repeat (first | exact Drawn0.refl _ | apply Drawn0.step)⟩
  · rw [if_neg c2] at H
    have c2b0 : (a0.toList == ([112, 101, 111, 112, 108, 101] : List UInt8)) = false := beq_eq_false_iff_ne.mpr c2
    have c2b1 : (a0.toList != ([112, 101, 111, 112, 108, 101] : List UInt8)) = true := bne_iff_ne.mpr c2
    have HC3 := Aside0.mk H
    clear H
    go_enter Try.func109, Try.ntmps109
    go_upto_if 7 with (fail)
    go_cut [7] (fun v7 wc => ∃ (kq : Nat) (x7_2 : Bool), v7 = .bool x7_2 ∧ Aside0 (impl_commandShape.j0 kq a0 x7_2 = some (r1, r2)) ∧ Aside0 (kq ≤ k) ∧ Drawn0 w wc)
    case first =>
      have H := HC3.out
      clear HC3
      by_cases c4 : a0.toList = ([99, 108, 101, 97, 114] : List UInt8)
      · rw [if_pos c4] at H
        have c4b0 : (a0.toList == ([99, 108, 101, 97, 114] : List UInt8)) = true := beq_iff_eq.mpr c4
        have c4b1 : (a0.toList != ([99, 108, 101, 97, 114] : List UInt8)) = false := bne_eq_false_iff_eq.mpr c4
        clear c4
        (first | rw [c4b0] | (simp only [i64_w, i32_w]; rw [c4b0]) | skip)
        have H' := Aside0.mk H
        clear H
        go_wp2
        go_meet
        case rel => exact ⟨_, ((a0.toList == ([99, 108, 101, 97, 114] : List UInt8))), (by first | rfl | (simp; done) | (simp [*]; done)), H', ⟨by first | omega | exact Nat.le_refl _⟩, by repeat (first | exact Drawn0.refl _ | apply Drawn0.step)⟩
      · rw [if_neg c4] at H
        have c4b0 : (a0.toList == ([99, 108, 101, 97, 114] : List UInt8)) = false := beq_eq_false_iff_ne.mpr c4
        have c4b1 : (a0.toList != ([99, 108, 101, 97, 114] : List UInt8)) = true := bne_iff_ne.mpr c4
        (first | rw [c4b0] | (simp only [i64_w, i32_w]; rw [c4b0]) | skip)
        have H' := Aside0.mk H
        clear H
        go_wp2
        go_meet
        case rel => exact ⟨_, ((a0.toList == ([115, 105, 103, 110, 97, 108] : List UInt8))), (by first | rfl | (simp; done) | (simp [*]; done)), H', ⟨by first | omega | exact Nat.le_refl _⟩, by repeat (first | exact Drawn0.refl _ | apply Drawn0.step)⟩
    case rest =>
      clear HC3
      try clear c1
      try clear c2
      try clear c2b0
      try clear c2b1
      try clear p2
      try clear c4
      try clear c4b0
      try clear c4b1
      obtain ⟨kq, x7_2, rfl, HA, HJ2, ⟨mc2, rfl⟩⟩ := hcut
      cases kq with
      | zero => exact absurd HA.out (by simp [impl_commandShape.j0])
      | succ kj2 =>
        have H := HA.out
        clear HA
        simp only [impl_commandShape.j0] at H
        by_cases c5 : x7_2 = true
        · subst c5
          have H1 : (some ((⟨#[116, 105]⟩ : ByteArray), true)) = some (r1, r2) := by rw [if_pos rfl] at H; exact H
          clear H
          have H := H1
          clear H1
          simp only [Option.some.injEq, Prod.mk.injEq] at H
          obtain ⟨rfl, rfl⟩ := H
          go_wp2
          go_ret2
          exact ⟨by first | rfl | (simp; done) | (simp [*]; done), by repeat (first | exact Drawn0.refl _ | apply Drawn0.step)⟩
        · replace c5 := Bool.eq_false_iff.mpr c5
          subst c5
          have H1 : (if a0.toList = ([115, 116, 97, 116, 101] : List UInt8) then (impl_commandShape.j1 kj2 a0 (a0.toList == ([115, 116, 97, 116, 101] : List UInt8))) else (if a0.toList = ([102, 105, 114, 101] : List UInt8) then (impl_commandShape.j1 kj2 a0 (a0.toList == ([102, 105, 114, 101] : List UInt8))) else (if a0.toList = ([115, 101, 116, 116, 108, 101] : List UInt8) then (impl_commandShape.j1 kj2 a0 (a0.toList == ([115, 101, 116, 116, 108, 101] : List UInt8))) else (if a0.toList = ([116, 111, 112] : List UInt8) then (impl_commandShape.j1 kj2 a0 (a0.toList == ([116, 111, 112] : List UInt8))) else (impl_commandShape.j1 kj2 a0 (a0.toList == ([116, 105, 109, 101] : List UInt8))))))) = some (r1, r2) := by rw [if_neg (show ¬ (false = true) by decide)] at H; exact H
          clear H
          have H := H1
          clear H1
          have HC6 := Aside0.mk H
          clear H
          go_upto_if 10 with (fail)
          go_cut [10] (fun v10 wc => ∃ (kq : Nat) (x10_5 : Bool), v10 = .bool x10_5 ∧ Aside0 (impl_commandShape.j1 kq a0 x10_5 = some (r1, r2)) ∧ Aside0 (kq ≤ kj2) ∧ Drawn0 w wc)
          case first =>
            have H := HC6.out
            clear HC6
            by_cases c7 : a0.toList = ([115, 116, 97, 116, 101] : List UInt8)
            · rw [if_pos c7] at H
              have c7b0 : (a0.toList == ([115, 116, 97, 116, 101] : List UInt8)) = true := beq_iff_eq.mpr c7
              have c7b1 : (a0.toList != ([115, 116, 97, 116, 101] : List UInt8)) = false := bne_eq_false_iff_eq.mpr c7
              clear c7
              (first | rw [c7b0] | (simp only [i64_w, i32_w]; rw [c7b0]) | skip)
              have H' := Aside0.mk H
              clear H
              go_wp2
              go_meet
              case rel => exact ⟨_, ((a0.toList == ([115, 116, 97, 116, 101] : List UInt8))), (by first | rfl | (simp; done) | (simp [*]; done)), H', ⟨by have := HJ2.out; first | omega | exact Nat.le_refl _⟩, by repeat (first | exact Drawn0.refl _ | apply Drawn0.step)⟩
            · rw [if_neg c7] at H
              have c7b0 : (a0.toList == ([115, 116, 97, 116, 101] : List UInt8)) = false := beq_eq_false_iff_ne.mpr c7
              have c7b1 : (a0.toList != ([115, 116, 97, 116, 101] : List UInt8)) = true := bne_iff_ne.mpr c7
              (first | rw [c7b0] | (simp only [i64_w, i32_w]; rw [c7b0]) | skip)
              by_cases c8 : a0.toList = ([102, 105, 114, 101] : List UInt8)
              · rw [if_pos c8] at H
                have c8b0 : (a0.toList == ([102, 105, 114, 101] : List UInt8)) = true := beq_iff_eq.mpr c8
                have c8b1 : (a0.toList != ([102, 105, 114, 101] : List UInt8)) = false := bne_eq_false_iff_eq.mpr c8
                clear c8
                have H' := Aside0.mk H
                clear H
                go_wp2
                go_meet
                case rel => exact ⟨_, ((a0.toList == ([102, 105, 114, 101] : List UInt8))), (by first | rfl | (simp; done) | (simp [*]; done)), H', ⟨by have := HJ2.out; first | omega | exact Nat.le_refl _⟩, by repeat (first | exact Drawn0.refl _ | apply Drawn0.step)⟩
              · rw [if_neg c8] at H
                have c8b0 : (a0.toList == ([102, 105, 114, 101] : List UInt8)) = false := beq_eq_false_iff_ne.mpr c8
                have c8b1 : (a0.toList != ([102, 105, 114, 101] : List UInt8)) = true := bne_iff_ne.mpr c8
                by_cases c9 : a0.toList = ([115, 101, 116, 116, 108, 101] : List UInt8)
                · rw [if_pos c9] at H
                  have c9b0 : (a0.toList == ([115, 101, 116, 116, 108, 101] : List UInt8)) = true := beq_iff_eq.mpr c9
                  have c9b1 : (a0.toList != ([115, 101, 116, 116, 108, 101] : List UInt8)) = false := bne_eq_false_iff_eq.mpr c9
                  clear c9
                  have H' := Aside0.mk H
                  clear H
                  go_wp2
                  go_meet
                  case rel => exact ⟨_, ((a0.toList == ([115, 101, 116, 116, 108, 101] : List UInt8))), (by first | rfl | (simp; done) | (simp [*]; done)), H', ⟨by have := HJ2.out; first | omega | exact Nat.le_refl _⟩, by repeat (first | exact Drawn0.refl _ | apply Drawn0.step)⟩
                · rw [if_neg c9] at H
                  have c9b0 : (a0.toList == ([115, 101, 116, 116, 108, 101] : List UInt8)) = false := beq_eq_false_iff_ne.mpr c9
                  have c9b1 : (a0.toList != ([115, 101, 116, 116, 108, 101] : List UInt8)) = true := bne_iff_ne.mpr c9
                  by_cases c10 : a0.toList = ([116, 111, 112] : List UInt8)
                  · rw [if_pos c10] at H
                    have c10b0 : (a0.toList == ([116, 111, 112] : List UInt8)) = true := beq_iff_eq.mpr c10
                    have c10b1 : (a0.toList != ([116, 111, 112] : List UInt8)) = false := bne_eq_false_iff_eq.mpr c10
                    clear c10
                    have H' := Aside0.mk H
                    clear H
                    go_wp2
                    go_meet
                    case rel => exact ⟨_, ((a0.toList == ([116, 111, 112] : List UInt8))), (by first | rfl | (simp; done) | (simp [*]; done)), H', ⟨by have := HJ2.out; first | omega | exact Nat.le_refl _⟩, by repeat (first | exact Drawn0.refl _ | apply Drawn0.step)⟩
                  · rw [if_neg c10] at H
                    have c10b0 : (a0.toList == ([116, 111, 112] : List UInt8)) = false := beq_eq_false_iff_ne.mpr c10
                    have c10b1 : (a0.toList != ([116, 111, 112] : List UInt8)) = true := bne_iff_ne.mpr c10
                    have H' := Aside0.mk H
                    clear H
                    go_wp2
                    go_meet
                    case rel => exact ⟨_, ((a0.toList == ([116, 105, 109, 101] : List UInt8))), (by first | rfl | (simp; done) | (simp [*]; done)), H', ⟨by have := HJ2.out; first | omega | exact Nat.le_refl _⟩, by repeat (first | exact Drawn0.refl _ | apply Drawn0.step)⟩
          case rest =>
            clear HC6
            try clear c1
            try clear c2
            try clear c2b0
            try clear c2b1
            try clear p2
            try clear c4
            try clear c4b0
            try clear c4b1
            try clear c5
            try clear c7
            try clear c7b0
            try clear c7b1
            try clear c8
            try clear c8b0
            try clear c8b1
            try clear c9
            try clear c9b0
            try clear c9b1
            try clear c10
            try clear c10b0
            try clear c10b1
            try clear p2
            obtain ⟨kq, x10_5, rfl, HA, HJ5, ⟨mc5, rfl⟩⟩ := hcut
            cases kq with
            | zero => exact absurd HA.out (by simp [impl_commandShape.j1])
            | succ kj5 =>
              have H := HA.out
              clear HA
              simp only [impl_commandShape.j1] at H
              by_cases c11 : x10_5 = true
              · subst c11
                have H1 : (some ((⟨#[105]⟩ : ByteArray), true)) = some (r1, r2) := by rw [if_pos rfl] at H; exact H
                clear H
                have H := H1
                clear H1
                simp only [Option.some.injEq, Prod.mk.injEq] at H
                obtain ⟨rfl, rfl⟩ := H
                go_wp2
                go_ret2
                exact ⟨by first | rfl | (simp; done) | (simp [*]; done), by repeat (first | exact Drawn0.refl _ | apply Drawn0.step)⟩
              · replace c11 := Bool.eq_false_iff.mpr c11
                subst c11
                have H1 : (if a0.toList = ([98, 111, 111, 107] : List UInt8) then (some ((⟨#[116, 116, 105]⟩ : ByteArray), true)) else (if a0.toList = ([108, 101, 102, 116] : List UInt8) then (some ((⟨#[116]⟩ : ByteArray), true)) else (if a0.toList = ([111, 112, 101, 110] : List UInt8) then (some ((⟨#[]⟩ : ByteArray), true)) else (if a0.toList = ([110, 101, 101, 100] : List UInt8) then (some ((⟨#[105, 105]⟩ : ByteArray), true)) else (some ((⟨#[]⟩ : ByteArray), false)))))) = some (r1, r2) := by rw [if_neg (show ¬ (false = true) by decide)] at H; exact H
                clear H
                have H := H1
                clear H1
                by_cases c12 : a0.toList = ([98, 111, 111, 107] : List UInt8)
                · rw [if_pos c12] at H
                  have c12b0 : (a0.toList == ([98, 111, 111, 107] : List UInt8)) = true := beq_iff_eq.mpr c12
                  have c12b1 : (a0.toList != ([98, 111, 111, 107] : List UInt8)) = false := bne_eq_false_iff_eq.mpr c12
                  clear c12
                  simp only [Option.some.injEq, Prod.mk.injEq] at H
                  obtain ⟨rfl, rfl⟩ := H
                  go_wp2
                  go_ret2
                  exact ⟨by first | rfl | (simp; done) | (simp [*]; done), by repeat (first | exact Drawn0.refl _ | apply Drawn0.step)⟩
                · rw [if_neg c12] at H
                  have c12b0 : (a0.toList == ([98, 111, 111, 107] : List UInt8)) = false := beq_eq_false_iff_ne.mpr c12
                  have c12b1 : (a0.toList != ([98, 111, 111, 107] : List UInt8)) = true := bne_iff_ne.mpr c12
                  by_cases c13 : a0.toList = ([108, 101, 102, 116] : List UInt8)
                  · rw [if_pos c13] at H
                    have c13b0 : (a0.toList == ([108, 101, 102, 116] : List UInt8)) = true := beq_iff_eq.mpr c13
                    have c13b1 : (a0.toList != ([108, 101, 102, 116] : List UInt8)) = false := bne_eq_false_iff_eq.mpr c13
                    clear c13
                    simp only [Option.some.injEq, Prod.mk.injEq] at H
                    obtain ⟨rfl, rfl⟩ := H
                    go_wp2
                    go_ret2
                    exact ⟨by first | rfl | (simp; done) | (simp [*]; done), by repeat (first | exact Drawn0.refl _ | apply Drawn0.step)⟩
                  · rw [if_neg c13] at H
                    have c13b0 : (a0.toList == ([108, 101, 102, 116] : List UInt8)) = false := beq_eq_false_iff_ne.mpr c13
                    have c13b1 : (a0.toList != ([108, 101, 102, 116] : List UInt8)) = true := bne_iff_ne.mpr c13
                    by_cases c14 : a0.toList = ([111, 112, 101, 110] : List UInt8)
                    · rw [if_pos c14] at H
                      have c14b0 : (a0.toList == ([111, 112, 101, 110] : List UInt8)) = true := beq_iff_eq.mpr c14
                      have c14b1 : (a0.toList != ([111, 112, 101, 110] : List UInt8)) = false := bne_eq_false_iff_eq.mpr c14
                      clear c14
                      simp only [Option.some.injEq, Prod.mk.injEq] at H
                      obtain ⟨rfl, rfl⟩ := H
                      go_wp2
                      go_ret2
                      exact ⟨by first | rfl | (simp; done) | (simp [*]; done), by repeat (first | exact Drawn0.refl _ | apply Drawn0.step)⟩
                    · rw [if_neg c14] at H
                      have c14b0 : (a0.toList == ([111, 112, 101, 110] : List UInt8)) = false := beq_eq_false_iff_ne.mpr c14
                      have c14b1 : (a0.toList != ([111, 112, 101, 110] : List UInt8)) = true := bne_iff_ne.mpr c14
                      by_cases c15 : a0.toList = ([110, 101, 101, 100] : List UInt8)
                      · rw [if_pos c15] at H
                        have c15b0 : (a0.toList == ([110, 101, 101, 100] : List UInt8)) = true := beq_iff_eq.mpr c15
                        have c15b1 : (a0.toList != ([110, 101, 101, 100] : List UInt8)) = false := bne_eq_false_iff_eq.mpr c15
                        clear c15
                        simp only [Option.some.injEq, Prod.mk.injEq] at H
                        obtain ⟨rfl, rfl⟩ := H
                        go_wp2
                        go_ret2
                        exact ⟨by first | rfl | (simp; done) | (simp [*]; done), by repeat (first | exact Drawn0.refl _ | apply Drawn0.step)⟩
                      · rw [if_neg c15] at H
                        have c15b0 : (a0.toList == ([110, 101, 101, 100] : List UInt8)) = false := beq_eq_false_iff_ne.mpr c15
                        have c15b1 : (a0.toList != ([110, 101, 101, 100] : List UInt8)) = true := bne_iff_ne.mpr c15
                        simp only [Option.some.injEq, Prod.mk.injEq] at H
                        obtain ⟨rfl, rfl⟩ := H
                        go_wp2
                        go_ret2
                        exact ⟨by first | rfl | (simp; done) | (simp [*]; done), by repeat (first | exact Drawn0.refl _ | apply Drawn0.step)⟩

end Go.Proofs.Ytppfdipgaifhiaa.Q
