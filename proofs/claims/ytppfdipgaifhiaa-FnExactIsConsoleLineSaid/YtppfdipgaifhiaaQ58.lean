/- A function of the program and its contract: written by this session's qprint.py. -/
import Derived.Test.YtppfdipgaifhiaaQ0
namespace Go.Proofs.Ytppfdipgaifhiaa.Q
open Go.RowKit Go.Proofs.YtppfdipgaifhiaaW.PrintWords Go.Proofs.YtppfdipgaifhiaaW.PrintLast Go.Proofs.YtppfdipgaifhiaaW.PrintMore
attribute [local go_sem] max2_int min2_int max_two min_two max_three min_three max_four min_four   -- for this text's walks alone
set_option linter.unusedVariables false
set_option linter.unusedSimpArgs false

/-! ### spec_l34Kind: function 105 -/
mutual
def spec_l34Kind.j0 : Nat → ByteArray → Bool → Option (ByteArray)
  | 0, _, _ => none
  | k + 1, x3, x6 => if x6 = true then (some (⟨#[73]⟩ : ByteArray)) else (if x3.toList = ([108, 101, 102, 116] : List UInt8) then (some (⟨#[84]⟩ : ByteArray)) else (if x3.toList = ([99, 108, 101, 97, 114] : List UInt8) then (spec_l34Kind.j1 k x3 (x3.toList == ([99, 108, 101, 97, 114] : List UInt8))) else (spec_l34Kind.j1 k x3 (x3.toList == ([115, 105, 103, 110, 97, 108] : List UInt8)))))
def spec_l34Kind.j1 : Nat → ByteArray → Bool → Option (ByteArray)
  | 0, _, _ => none
  | k + 1, x3, x14 => if x14 = true then (some (⟨#[84, 73]⟩ : ByteArray)) else (if x3.toList = ([110, 101, 101, 100] : List UInt8) then (some (⟨#[73, 73]⟩ : ByteArray)) else (if x3.toList = ([112, 101, 111, 112, 108, 101] : List UInt8) then (some (⟨#[84, 73, 74]⟩ : ByteArray)) else (if x3.toList = ([98, 111, 111, 107] : List UInt8) then (some (⟨#[84, 84, 73]⟩ : ByteArray)) else (some (⟨#[45]⟩ : ByteArray)))))
end
def spec_l34Kind.f (k : Nat) (a0 : ByteArray) : Option (ByteArray) := if a0.toList = ([111, 112, 101, 110] : List UInt8) then (some (⟨#[]⟩ : ByteArray)) else (if a0.toList = ([115, 116, 97, 116, 101] : List UInt8) then (spec_l34Kind.j0 k a0 (a0.toList == ([115, 116, 97, 116, 101] : List UInt8))) else (if a0.toList = ([102, 105, 114, 101] : List UInt8) then (spec_l34Kind.j0 k a0 (a0.toList == ([102, 105, 114, 101] : List UInt8))) else (if a0.toList = ([115, 101, 116, 116, 108, 101] : List UInt8) then (spec_l34Kind.j0 k a0 (a0.toList == ([115, 101, 116, 116, 108, 101] : List UInt8))) else (if a0.toList = ([116, 111, 112] : List UInt8) then (spec_l34Kind.j0 k a0 (a0.toList == ([116, 111, 112] : List UInt8))) else (spec_l34Kind.j0 k a0 (a0.toList == ([116, 105, 109, 101] : List UInt8)))))))
theorem spec_l34Kind.mono_l : ∀ k, (∀ y0 y1, LeO (spec_l34Kind.j0 k y0 y1) (spec_l34Kind.j0 (k + 1) y0 y1)) ∧ (∀ y0 y1, LeO (spec_l34Kind.j1 k y0 y1) (spec_l34Kind.j1 (k + 1) y0 y1))
  | 0 => ⟨fun _ _ r h => by simp [spec_l34Kind.j0] at h, fun _ _ r h => by simp [spec_l34Kind.j1] at h⟩
  | k + 1 => by
    obtain ⟨ih0, ih1⟩ := spec_l34Kind.mono_l k
    refine ⟨?_, ?_⟩
    · intro y0 y1
      unfold spec_l34Kind.j0
      repeat' first
      | (with_reducible exact ih0 _ _)
      | (with_reducible exact ih1 _ _)
      | (with_reducible exact LeO.refl _)
      | (with_reducible exact LeO.none _)
      | (with_reducible refine LeO.ite ?_ ?_)
      | (with_reducible refine LeO.bind ?_ (fun _ => ?_))
      | exact ih0 _ _
      | exact ih1 _ _
      | exact LeO.none _
      | refine LeO.ite ?_ ?_
      | refine LeO.bind ?_ (fun _ => ?_)
    · intro y0 y1
      unfold spec_l34Kind.j1
      repeat' first
      | (with_reducible exact ih0 _ _)
      | (with_reducible exact ih1 _ _)
      | (with_reducible exact LeO.refl _)
      | (with_reducible exact LeO.none _)
      | (with_reducible refine LeO.ite ?_ ?_)
      | (with_reducible refine LeO.bind ?_ (fun _ => ?_))
      | exact ih0 _ _
      | exact ih1 _ _
      | exact LeO.none _
      | refine LeO.ite ?_ ?_
      | refine LeO.bind ?_ (fun _ => ?_)
theorem spec_l34Kind.mono : ∀ a0 k, LeO (spec_l34Kind.f k a0) (spec_l34Kind.f (k + 1) a0) := by
  intro a0 k
  obtain ⟨ih0, ih1⟩ := spec_l34Kind.mono_l k
  unfold spec_l34Kind.f
  repeat' first
      | (with_reducible exact ih0 _ _)
      | (with_reducible exact ih1 _ _)
      | (with_reducible exact LeO.refl _)
      | (with_reducible exact LeO.none _)
      | (with_reducible refine LeO.ite ?_ ?_)
      | (with_reducible refine LeO.bind ?_ (fun _ => ?_))
      | exact ih0 _ _
      | exact ih1 _ _
      | exact LeO.none _
      | refine LeO.ite ?_ ?_
      | refine LeO.bind ?_ (fun _ => ?_)
set_option maxHeartbeats 8000000 in
set_option maxRecDepth 100000 in
theorem spec_l34Kind.calls (k : Nat) (a0 : ByteArray) (r : ByteArray) (w : World) (h : spec_l34Kind.f k a0 = some r) :
    Calls Try.prog 105 #[.string a0] w fun e w' => e = .returned (.string r) ∧ Drawn0 w w' := by
  have H : (if a0.toList = ([111, 112, 101, 110] : List UInt8) then (some (⟨#[]⟩ : ByteArray)) else (if a0.toList = ([115, 116, 97, 116, 101] : List UInt8) then (spec_l34Kind.j0 k a0 (a0.toList == ([115, 116, 97, 116, 101] : List UInt8))) else (if a0.toList = ([102, 105, 114, 101] : List UInt8) then (spec_l34Kind.j0 k a0 (a0.toList == ([102, 105, 114, 101] : List UInt8))) else (if a0.toList = ([115, 101, 116, 116, 108, 101] : List UInt8) then (spec_l34Kind.j0 k a0 (a0.toList == ([115, 101, 116, 116, 108, 101] : List UInt8))) else (if a0.toList = ([116, 111, 112] : List UInt8) then (spec_l34Kind.j0 k a0 (a0.toList == ([116, 111, 112] : List UInt8))) else (spec_l34Kind.j0 k a0 (a0.toList == ([116, 105, 109, 101] : List UInt8)))))))) = some r := h
  clear h
  by_cases c2 : a0.toList = ([111, 112, 101, 110] : List UInt8)
  · rw [if_pos c2] at H
    have c2b0 : (a0.toList == ([111, 112, 101, 110] : List UInt8)) = true := beq_iff_eq.mpr c2
    have c2b1 : (a0.toList != ([111, 112, 101, 110] : List UInt8)) = false := bne_eq_false_iff_eq.mpr c2
    clear c2
    obtain rfl := Option.some.inj H
    go_enter Try.func105, Try.ntmps105
    go_wp2
    go_ret
    exact ⟨by first | rfl | (simp; done) | (simp [*]; done), by repeat (first | exact Drawn0.refl _ | apply Drawn0.step)⟩
  · rw [if_neg c2] at H
    have c2b0 : (a0.toList == ([111, 112, 101, 110] : List UInt8)) = false := beq_eq_false_iff_ne.mpr c2
    have c2b1 : (a0.toList != ([111, 112, 101, 110] : List UInt8)) = true := bne_iff_ne.mpr c2
    have HC3 := Aside0.mk H
    clear H
    go_enter Try.func105, Try.ntmps105
    go_upto_if 6 with (fail)
    go_cut [6] (fun v6 wc => ∃ (kq : Nat) (x6_2 : Bool), v6 = .bool x6_2 ∧ Aside0 (spec_l34Kind.j0 kq a0 x6_2 = some r) ∧ Aside0 (kq ≤ k) ∧ Drawn0 w wc)
    case first =>
      have H := HC3.out
      clear HC3
      by_cases c4 : a0.toList = ([115, 116, 97, 116, 101] : List UInt8)
      · rw [if_pos c4] at H
        have c4b0 : (a0.toList == ([115, 116, 97, 116, 101] : List UInt8)) = true := beq_iff_eq.mpr c4
        have c4b1 : (a0.toList != ([115, 116, 97, 116, 101] : List UInt8)) = false := bne_eq_false_iff_eq.mpr c4
        clear c4
        (first | rw [c4b0] | (simp only [i64_w, i32_w]; rw [c4b0]) | skip)
        have H' := Aside0.mk H
        clear H
        go_wp2
        go_meet
        case rel => exact ⟨_, ((a0.toList == ([115, 116, 97, 116, 101] : List UInt8))), (by first | rfl | (simp; done) | (simp [*]; done)), H', ⟨by first | omega | exact Nat.le_refl _⟩, by repeat (first | exact Drawn0.refl _ | apply Drawn0.step)⟩
      · rw [if_neg c4] at H
        have c4b0 : (a0.toList == ([115, 116, 97, 116, 101] : List UInt8)) = false := beq_eq_false_iff_ne.mpr c4
        have c4b1 : (a0.toList != ([115, 116, 97, 116, 101] : List UInt8)) = true := bne_iff_ne.mpr c4
        (first | rw [c4b0] | (simp only [i64_w, i32_w]; rw [c4b0]) | skip)
        by_cases c5 : a0.toList = ([102, 105, 114, 101] : List UInt8)
        · rw [if_pos c5] at H
          have c5b0 : (a0.toList == ([102, 105, 114, 101] : List UInt8)) = true := beq_iff_eq.mpr c5
          have c5b1 : (a0.toList != ([102, 105, 114, 101] : List UInt8)) = false := bne_eq_false_iff_eq.mpr c5
          clear c5
          have H' := Aside0.mk H
          clear H
          go_wp2
          go_meet
          case rel => exact ⟨_, ((a0.toList == ([102, 105, 114, 101] : List UInt8))), (by first | rfl | (simp; done) | (simp [*]; done)), H', ⟨by first | omega | exact Nat.le_refl _⟩, by repeat (first | exact Drawn0.refl _ | apply Drawn0.step)⟩
        · rw [if_neg c5] at H
          have c5b0 : (a0.toList == ([102, 105, 114, 101] : List UInt8)) = false := beq_eq_false_iff_ne.mpr c5
          have c5b1 : (a0.toList != ([102, 105, 114, 101] : List UInt8)) = true := bne_iff_ne.mpr c5
          by_cases c6 : a0.toList = ([115, 101, 116, 116, 108, 101] : List UInt8)
          · rw [if_pos c6] at H
            have c6b0 : (a0.toList == ([115, 101, 116, 116, 108, 101] : List UInt8)) = true := beq_iff_eq.mpr c6
            have c6b1 : (a0.toList != ([115, 101, 116, 116, 108, 101] : List UInt8)) = false := bne_eq_false_iff_eq.mpr c6
            clear c6
            have H' := Aside0.mk H
            clear H
            go_wp2
            go_meet
            case rel => exact ⟨_, ((a0.toList == ([115, 101, 116, 116, 108, 101] : List UInt8))), (by first | rfl | (simp; done) | (simp [*]; done)), H', ⟨by first | omega | exact Nat.le_refl _⟩, by repeat (first | exact Drawn0.refl _ | apply Drawn0.step)⟩
          · rw [if_neg c6] at H
            have c6b0 : (a0.toList == ([115, 101, 116, 116, 108, 101] : List UInt8)) = false := beq_eq_false_iff_ne.mpr c6
            have c6b1 : (a0.toList != ([115, 101, 116, 116, 108, 101] : List UInt8)) = true := bne_iff_ne.mpr c6
            by_cases c7 : a0.toList = ([116, 111, 112] : List UInt8)
            · rw [if_pos c7] at H
              have c7b0 : (a0.toList == ([116, 111, 112] : List UInt8)) = true := beq_iff_eq.mpr c7
              have c7b1 : (a0.toList != ([116, 111, 112] : List UInt8)) = false := bne_eq_false_iff_eq.mpr c7
              clear c7
              have H' := Aside0.mk H
              clear H
              go_wp2
              go_meet
              case rel => exact ⟨_, ((a0.toList == ([116, 111, 112] : List UInt8))), (by first | rfl | (simp; done) | (simp [*]; done)), H', ⟨by first | omega | exact Nat.le_refl _⟩, by repeat (first | exact Drawn0.refl _ | apply Drawn0.step)⟩
            · rw [if_neg c7] at H
              have c7b0 : (a0.toList == ([116, 111, 112] : List UInt8)) = false := beq_eq_false_iff_ne.mpr c7
              have c7b1 : (a0.toList != ([116, 111, 112] : List UInt8)) = true := bne_iff_ne.mpr c7
              have H' := Aside0.mk H
              clear H
              go_wp2
              go_meet
              case rel => exact ⟨_, ((a0.toList == ([116, 105, 109, 101] : List UInt8))), (by first | rfl | (simp; done) | (simp [*]; done)), H', ⟨by first | omega | exact Nat.le_refl _⟩, by repeat (first | exact Drawn0.refl _ | apply Drawn0.step)⟩
    case rest =>
      clear HC3
      try clear c1
      try clear c2
      try clear c2b0
      try clear c2b1
      try clear p2
      try clear c4
      try clear c4b0
      try clear c4b1
      try clear c5
      try clear c5b0
      try clear c5b1
      try clear c6
      try clear c6b0
      try clear c6b1
      try clear c7
      try clear c7b0
      try clear c7b1
      obtain ⟨kq, x6_2, rfl, HA, HJ2, ⟨mc2, rfl⟩⟩ := hcut
      cases kq with
      | zero => exact absurd HA.out (by simp [spec_l34Kind.j0])
      | succ kj2 =>
        have H := HA.out
        clear HA
        simp only [spec_l34Kind.j0] at H
        by_cases c8 : x6_2 = true
        · subst c8
          have H1 : (some (⟨#[73]⟩ : ByteArray)) = some r := by rw [if_pos rfl] at H; exact H
          clear H
          have H := H1
          clear H1
          obtain rfl := Option.some.inj H
          go_wp2
          go_ret
          exact ⟨by first | rfl | (simp; done) | (simp [*]; done), by repeat (first | exact Drawn0.refl _ | apply Drawn0.step)⟩
        · replace c8 := Bool.eq_false_iff.mpr c8
          subst c8
          have H1 : (if a0.toList = ([108, 101, 102, 116] : List UInt8) then (some (⟨#[84]⟩ : ByteArray)) else (if a0.toList = ([99, 108, 101, 97, 114] : List UInt8) then (spec_l34Kind.j1 kj2 a0 (a0.toList == ([99, 108, 101, 97, 114] : List UInt8))) else (spec_l34Kind.j1 kj2 a0 (a0.toList == ([115, 105, 103, 110, 97, 108] : List UInt8))))) = some r := by rw [if_neg (show ¬ (false = true) by decide)] at H; exact H
          clear H
          have H := H1
          clear H1
          by_cases c9 : a0.toList = ([108, 101, 102, 116] : List UInt8)
          · rw [if_pos c9] at H
            have c9b0 : (a0.toList == ([108, 101, 102, 116] : List UInt8)) = true := beq_iff_eq.mpr c9
            have c9b1 : (a0.toList != ([108, 101, 102, 116] : List UInt8)) = false := bne_eq_false_iff_eq.mpr c9
            clear c9
            obtain rfl := Option.some.inj H
            go_wp2
            go_ret
            exact ⟨by first | rfl | (simp; done) | (simp [*]; done), by repeat (first | exact Drawn0.refl _ | apply Drawn0.step)⟩
          · rw [if_neg c9] at H
            have c9b0 : (a0.toList == ([108, 101, 102, 116] : List UInt8)) = false := beq_eq_false_iff_ne.mpr c9
            have c9b1 : (a0.toList != ([108, 101, 102, 116] : List UInt8)) = true := bne_iff_ne.mpr c9
            have HC10 := Aside0.mk H
            clear H
            go_upto_if 14 with (fail)
            go_cut [14] (fun v14 wc => ∃ (kq : Nat) (x14_9 : Bool), v14 = .bool x14_9 ∧ Aside0 (spec_l34Kind.j1 kq a0 x14_9 = some r) ∧ Aside0 (kq ≤ kj2) ∧ Drawn0 w wc)
            case first =>
              have H := HC10.out
              clear HC10
              by_cases c11 : a0.toList = ([99, 108, 101, 97, 114] : List UInt8)
              · rw [if_pos c11] at H
                have c11b0 : (a0.toList == ([99, 108, 101, 97, 114] : List UInt8)) = true := beq_iff_eq.mpr c11
                have c11b1 : (a0.toList != ([99, 108, 101, 97, 114] : List UInt8)) = false := bne_eq_false_iff_eq.mpr c11
                clear c11
                (first | rw [c11b0] | (simp only [i64_w, i32_w]; rw [c11b0]) | skip)
                have H' := Aside0.mk H
                clear H
                go_wp2
                go_meet
                case rel => exact ⟨_, ((a0.toList == ([99, 108, 101, 97, 114] : List UInt8))), (by first | rfl | (simp; done) | (simp [*]; done)), H', ⟨by have := HJ2.out; first | omega | exact Nat.le_refl _⟩, by repeat (first | exact Drawn0.refl _ | apply Drawn0.step)⟩
              · rw [if_neg c11] at H
                have c11b0 : (a0.toList == ([99, 108, 101, 97, 114] : List UInt8)) = false := beq_eq_false_iff_ne.mpr c11
                have c11b1 : (a0.toList != ([99, 108, 101, 97, 114] : List UInt8)) = true := bne_iff_ne.mpr c11
                (first | rw [c11b0] | (simp only [i64_w, i32_w]; rw [c11b0]) | skip)
                have H' := Aside0.mk H
                clear H
                go_wp2
                go_meet
                case rel => exact ⟨_, ((a0.toList == ([115, 105, 103, 110, 97, 108] : List UInt8))), (by first | rfl | (simp; done) | (simp [*]; done)), H', ⟨by have := HJ2.out; first | omega | exact Nat.le_refl _⟩, by repeat (first | exact Drawn0.refl _ | apply Drawn0.step)⟩
            case rest =>
              clear HC10
              try clear c1
              try clear c2
              try clear c2b0
              try clear c2b1
              try clear p2
              try clear c4
              try clear c4b0
              try clear c4b1
              try clear c5
              try clear c5b0
              try clear c5b1
              try clear c6
              try clear c6b0
              try clear c6b1
              try clear c7
              try clear c7b0
              try clear c7b1
              try clear c8
              try clear c9
              try clear c9b0
              try clear c9b1
              try clear c10
              try clear c11
              try clear c11b0
              try clear c11b1
              try clear p2
              obtain ⟨kq, x14_9, rfl, HA, HJ9, ⟨mc9, rfl⟩⟩ := hcut
              cases kq with
              | zero => exact absurd HA.out (by simp [spec_l34Kind.j1])
              | succ kj9 =>
                have H := HA.out
                clear HA
                simp only [spec_l34Kind.j1] at H
                by_cases c12 : x14_9 = true
                · subst c12
                  have H1 : (some (⟨#[84, 73]⟩ : ByteArray)) = some r := by rw [if_pos rfl] at H; exact H
                  clear H
                  have H := H1
                  clear H1
                  obtain rfl := Option.some.inj H
                  go_wp2
                  go_ret
                  exact ⟨by first | rfl | (simp; done) | (simp [*]; done), by repeat (first | exact Drawn0.refl _ | apply Drawn0.step)⟩
                · replace c12 := Bool.eq_false_iff.mpr c12
                  subst c12
                  have H1 : (if a0.toList = ([110, 101, 101, 100] : List UInt8) then (some (⟨#[73, 73]⟩ : ByteArray)) else (if a0.toList = ([112, 101, 111, 112, 108, 101] : List UInt8) then (some (⟨#[84, 73, 74]⟩ : ByteArray)) else (if a0.toList = ([98, 111, 111, 107] : List UInt8) then (some (⟨#[84, 84, 73]⟩ : ByteArray)) else (some (⟨#[45]⟩ : ByteArray))))) = some r := by rw [if_neg (show ¬ (false = true) by decide)] at H; exact H
                  clear H
                  have H := H1
                  clear H1
                  by_cases c13 : a0.toList = ([110, 101, 101, 100] : List UInt8)
                  · rw [if_pos c13] at H
                    have c13b0 : (a0.toList == ([110, 101, 101, 100] : List UInt8)) = true := beq_iff_eq.mpr c13
                    have c13b1 : (a0.toList != ([110, 101, 101, 100] : List UInt8)) = false := bne_eq_false_iff_eq.mpr c13
                    clear c13
                    obtain rfl := Option.some.inj H
                    go_wp2
                    go_ret
                    exact ⟨by first | rfl | (simp; done) | (simp [*]; done), by repeat (first | exact Drawn0.refl _ | apply Drawn0.step)⟩
                  · rw [if_neg c13] at H
                    have c13b0 : (a0.toList == ([110, 101, 101, 100] : List UInt8)) = false := beq_eq_false_iff_ne.mpr c13
                    have c13b1 : (a0.toList != ([110, 101, 101, 100] : List UInt8)) = true := bne_iff_ne.mpr c13
                    by_cases c14 : a0.toList = ([112, 101, 111, 112, 108, 101] : List UInt8)
                    · rw [if_pos c14] at H
                      have c14b0 : (a0.toList == ([112, 101, 111, 112, 108, 101] : List UInt8)) = true := beq_iff_eq.mpr c14
                      have c14b1 : (a0.toList != ([112, 101, 111, 112, 108, 101] : List UInt8)) = false := bne_eq_false_iff_eq.mpr c14
                      clear c14
                      obtain rfl := Option.some.inj H
                      go_wp2
                      go_ret
                      exact ⟨by first | rfl | (simp; done) | (simp [*]; done), by repeat (first | exact Drawn0.refl _ | apply Drawn0.step)⟩
                    · rw [if_neg c14] at H
                      have c14b0 : (a0.toList == ([112, 101, 111, 112, 108, 101] : List UInt8)) = false := beq_eq_false_iff_ne.mpr c14
                      have c14b1 : (a0.toList != ([112, 101, 111, 112, 108, 101] : List UInt8)) = true := bne_iff_ne.mpr c14
                      by_cases c15 : a0.toList = ([98, 111, 111, 107] : List UInt8)
                      · rw [if_pos c15] at H
                        have c15b0 : (a0.toList == ([98, 111, 111, 107] : List UInt8)) = true := beq_iff_eq.mpr c15
                        have c15b1 : (a0.toList != ([98, 111, 111, 107] : List UInt8)) = false := bne_eq_false_iff_eq.mpr c15
                        clear c15
                        obtain rfl := Option.some.inj H
                        go_wp2
                        go_ret
                        exact ⟨by first | rfl | (simp; done) | (simp [*]; done), by repeat (first | exact Drawn0.refl _ | apply Drawn0.step)⟩
                      · rw [if_neg c15] at H
                        have c15b0 : (a0.toList == ([98, 111, 111, 107] : List UInt8)) = false := beq_eq_false_iff_ne.mpr c15
                        have c15b1 : (a0.toList != ([98, 111, 111, 107] : List UInt8)) = true := bne_iff_ne.mpr c15
                        obtain rfl := Option.some.inj H
                        go_wp2
                        go_ret
                        exact ⟨by first | rfl | (simp; done) | (simp [*]; done), by repeat (first | exact Drawn0.refl _ | apply Drawn0.step)⟩

end Go.Proofs.Ytppfdipgaifhiaa.Q
