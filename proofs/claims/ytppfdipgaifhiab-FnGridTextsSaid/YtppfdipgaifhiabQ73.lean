/- A function of the program and its contract: written by this session's qprint.py. -/
import Derived.Test.YtppfdipgaifhiabQ0
import Derived.Test.YtppfdipgaifhiabQ71
import Derived.Test.YtppfdipgaifhiabQ72
namespace Go.Proofs.Ytppfdipgaifhiab.Q
open Go.RowKit Go.Proofs.YtppfdipgaifhiabW.PrintWords Go.Proofs.YtppfdipgaifhiabW.PrintLast Go.Proofs.YtppfdipgaifhiabW.PrintMore
attribute [local go_sem] max2_int min2_int max_two min_two max_three min_three max_four min_four   -- for this text's walks alone
set_option linter.unusedVariables false
set_option linter.unusedSimpArgs false

/-! ### impl_GridText: function 39 -/
mutual
def impl_GridText.l0 : Nat → List ByteArray → Int → Int → Int → List Bool → Option (ByteArray × Int)
  | 0, _, _, _, _, _ => none
  | k + 1, x4, x5, x576000, x576001, x576002 => if x5 < x576001 then (if 0 ≤ (wrap64 (x5 * x576000)) then (if (wrap64 (x5 * x576000)) ≤ (wrap64 ((wrap64 (x5 + 1)) * x576000)) then (if (wrap64 ((wrap64 (x5 + 1)) * x576000)) ≤ (x576002.length : Int) then (impl_GridText.l1 k x4 x5 (⟨#[]⟩ : ByteArray) ((x576002.take ((wrap64 ((wrap64 (x5 + 1)) * x576000)) : Int).toNat).drop ((wrap64 (x5 * x576000)) : Int).toNat) (((x576002.take ((wrap64 ((wrap64 (x5 + 1)) * x576000)) : Int).toNat).drop ((wrap64 (x5 * x576000)) : Int).toNat).length : Int) 0 x576000 x576001 x576002) else (none)) else (none)) else (none)) else ((impl_joinWith.f k x4 (⟨#[47]⟩ : ByteArray)).bind fun t577 => (some (t577, 0)))
def impl_GridText.l1 : Nat → List ByteArray → Int → ByteArray → List Bool → Int → Int → Int → Int → List Bool → Option (ByteArray × Int)
  | 0, _, _, _, _, _, _, _, _, _ => none
  | k + 1, x4, x5, x6, x29, x30, x31, x576000, x576001, x576002 => if x31 < x30 then (if 0 ≤ x31 then (if x31 < (x29.length : Int) then (if rdOf false x29 x31 = true then (if x6.size + 1 ≤ 9223372036854775807 then (impl_GridText.l1 k x4 x5 (x6 ++ (⟨#[35]⟩ : ByteArray)) x29 x30 (wrap64 (x31 + 1)) x576000 x576001 x576002) else (none)) else (if x6.size + 1 ≤ 9223372036854775807 then (impl_GridText.l1 k x4 x5 (x6 ++ (⟨#[46]⟩ : ByteArray)) x29 x30 (wrap64 (x31 + 1)) x576000 x576001 x576002) else (none))) else (none)) else (none)) else (if x4.length < 8796093022208 then (impl_GridText.l0 k (x4 ++ [x6]) (wrap64 (x5 + 1)) x576000 x576001 x576002) else (none))
end
def impl_GridText.f (k : Nat) (a0_0 : Int) (a0_1 : Int) (l0_2 : List Bool) : Option (ByteArray × Int) := (impl_IsGrid.f a0_0 a0_1 l0_2).bind fun t576 => (if t576 = true then (impl_GridText.l0 k ([] : List ByteArray) 0 a0_0 a0_1 l0_2) else (some ((⟨#[]⟩ : ByteArray), 1)))
theorem impl_GridText.mono_l : ∀ k, (∀ y0 y1 y2 y3 y4, LeO (impl_GridText.l0 k y0 y1 y2 y3 y4) (impl_GridText.l0 (k + 1) y0 y1 y2 y3 y4)) ∧ (∀ y0 y1 y2 y3 y4 y5 y6 y7 y8, LeO (impl_GridText.l1 k y0 y1 y2 y3 y4 y5 y6 y7 y8) (impl_GridText.l1 (k + 1) y0 y1 y2 y3 y4 y5 y6 y7 y8))
  | 0 => ⟨fun _ _ _ _ _ r h => by simp [impl_GridText.l0] at h, fun _ _ _ _ _ _ _ _ _ r h => by simp [impl_GridText.l1] at h⟩
  | k + 1 => by
    obtain ⟨ih0, ih1⟩ := impl_GridText.mono_l k
    refine ⟨?_, ?_⟩
    · intro y0 y1 y2 y3 y4
      unfold impl_GridText.l0
      repeat' first
      | (with_reducible exact ih0 _ _ _ _ _)
      | (with_reducible exact ih1 _ _ _ _ _ _ _ _ _)
      | (with_reducible exact impl_joinWith.mono _ _ _)
      | (with_reducible exact LeO.refl _)
      | (with_reducible exact LeO.none _)
      | (with_reducible refine LeO.ite ?_ ?_)
      | (with_reducible refine LeO.bind ?_ (fun _ => ?_))
      | exact ih0 _ _ _ _ _
      | exact ih1 _ _ _ _ _ _ _ _ _
      | exact impl_joinWith.mono _ _ _
      | exact LeO.none _
      | refine LeO.ite ?_ ?_
      | refine LeO.bind ?_ (fun _ => ?_)
    · intro y0 y1 y2 y3 y4 y5 y6 y7 y8
      unfold impl_GridText.l1
      repeat' first
      | (with_reducible exact ih0 _ _ _ _ _)
      | (with_reducible exact ih1 _ _ _ _ _ _ _ _ _)
      | (with_reducible exact impl_joinWith.mono _ _ _)
      | (with_reducible exact LeO.refl _)
      | (with_reducible exact LeO.none _)
      | (with_reducible refine LeO.ite ?_ ?_)
      | (with_reducible refine LeO.bind ?_ (fun _ => ?_))
      | exact ih0 _ _ _ _ _
      | exact ih1 _ _ _ _ _ _ _ _ _
      | exact impl_joinWith.mono _ _ _
      | exact LeO.none _
      | refine LeO.ite ?_ ?_
      | refine LeO.bind ?_ (fun _ => ?_)
theorem impl_GridText.mono : ∀ a0 a1 a2 k, LeO (impl_GridText.f k a0 a1 a2) (impl_GridText.f (k + 1) a0 a1 a2) := by
  intro a0 a1 a2 k
  obtain ⟨ih0, ih1⟩ := impl_GridText.mono_l k
  unfold impl_GridText.f
  repeat' first
      | (with_reducible exact ih0 _ _ _ _ _)
      | (with_reducible exact ih1 _ _ _ _ _ _ _ _ _)
      | (with_reducible exact impl_joinWith.mono _ _ _)
      | (with_reducible exact LeO.refl _)
      | (with_reducible exact LeO.none _)
      | (with_reducible refine LeO.ite ?_ ?_)
      | (with_reducible refine LeO.bind ?_ (fun _ => ?_))
      | exact ih0 _ _ _ _ _
      | exact ih1 _ _ _ _ _ _ _ _ _
      | exact impl_joinWith.mono _ _ _
      | exact LeO.none _
      | refine LeO.ite ?_ ?_
      | refine LeO.bind ?_ (fun _ => ?_)
set_option maxHeartbeats 8000000 in
set_option maxRecDepth 100000 in
theorem impl_GridText.calls (k : Nat) (a0_0 : Int) (a0_1 : Int) (A0_2 : Option Addr) (c0_2 : Nat) (l0_2 : List Bool) (r1 : ByteArray) (r2 : Int) (w : World) (hr0_2 : Kd.C Kd.bool w A0_2 l0_2.length l0_2) (hc0_2 : l0_2.length ≤ c0_2) (h : impl_GridText.f k a0_0 a0_1 l0_2 = some (r1, r2)) :
    Calls Try.prog 39 #[.agg #[.int .i64 a0_0, .int .i64 a0_1, .slice A0_2 l0_2.length c0_2]] w fun e w' => e = .returned (.tuple #[.string r1, .int .i64 r2]) ∧ Below w.heap.size w w' := by
  have hu57 := Try.underlying57
  have HR0_2 := Aside0.mk hr0_2
  have HC0_2 := Aside0.mk hc0_2
  clear hr0_2 hc0_2
  have HB := Aside0.mk (Below.refl w.heap.size w)
  have H : ((impl_IsGrid.f a0_0 a0_1 l0_2).bind fun t576 => (if t576 = true then (impl_GridText.l0 k ([] : List ByteArray) 0 a0_0 a0_1 l0_2) else (some ((⟨#[]⟩ : ByteArray), 1)))) = some (r1, r2) := h
  clear h
  replace H := Option.bind_eq_some_iff.mp H
  obtain ⟨t576, A20, H⟩ := H
  replace H : (if t576 = true then (impl_GridText.l0 k ([] : List ByteArray) 0 a0_0 a0_1 l0_2) else (some ((⟨#[]⟩ : ByteArray), 1))) = some (r1, r2) := H
  have A2 := Aside0.mk A20
  clear A20
  by_cases c3 : t576 = true
  · subst c3
    have H1 : (impl_GridText.l0 k ([] : List ByteArray) 0 a0_0 a0_1 l0_2) = some (r1, r2) := by rw [if_pos rfl] at H; exact H
    clear H
    have H := H1
    clear H1
    have H' := Aside0.mk H
    clear H
    go_enter Try.func39, Try.ntmps39
    go_wp2_with (first | ((with_reducible refine gate_dst (N := 1) rfl ?_); refine box_event ?hg (N := 1) ?hd (cs := #[.int .i64 a0_0, .int .i64 a0_1, .slice A0_2 l0_2.length c0_2]) (t := 57) ?hr ?_; (case hd => rfl); (case hg => rfl); (case hr => first | (go_simp; done) | (go_simp; rfl)); intro gb575 hg w4 hbox hb; have n0_ := Aside0.mk (below_step (by repeat (first | (with_reducible first | exact HB.out | apply below_alloc | apply pw_below_drewN | apply below_drew1) | exact HB.out)) hb); have n1_ := Aside0.mk (hbox); have n2_ := Aside0.mk ((by rw [hg]; exact (below_size (by repeat (first | (with_reducible first | exact HB.out | apply below_alloc | apply pw_below_drewN | apply below_drew1) | exact HB.out))) : w.heap.size ≤ gb575)); have n3_ := Aside0.mk ((by rw [hg]; exact (below_size (by repeat (first | (with_reducible first | exact HB.out | apply below_alloc | apply pw_below_drewN | apply below_drew1) | exact HB.out))) : w.heap.size ≤ gb575)); clear HB; have HB := n0_; have BK575 := n1_; have GW575 := n2_; have GE575 := n3_; clear n0_ n1_ n2_ n3_; clear hb hbox hg; have hcz5_0 : w4.cell? ⟨gb575, 0, none⟩ = some (.int .i64 a0_0) := (blk_cell BK575.out 0).trans rfl; have hcz5_1 : w4.cell? ⟨gb575, 1, none⟩ = some (.int .i64 a0_1) := (blk_cell BK575.out 1).trans rfl; have hcz5_2 : w4.cell? ⟨gb575, 2, none⟩ = some (.slice A0_2 l0_2.length c0_2) := (blk_cell BK575.out 2).trans rfl; have hfz5_0 := blk_frozen BK575.out 0; have hfz5_1 := blk_frozen BK575.out 1; have hfz5_2 := blk_frozen BK575.out 2) | ((with_reducible refine gate_callee (f := 45) rfl ?_); refine goesL_ (some 10) rfl rfl Try.func45 (by kernel_rfl) rfl #[.agg #[.int .i64 a0_0, .int .i64 a0_1, .slice A0_2 l0_2.length c0_2]] rfl (by (try simp only [List.map_toArray, List.map_cons, List.map_nil]); first | done | rfl | (simp only [List.length_drop, List.length_take]; rfl)) ?_; (with_reducible refine (impl_IsGrid.calls a0_0 a0_1 _ _ l0_2 true _ ?side1 ?side2 A2.out).mono ?_); (case side1 => repeat (first | exact (Kd.C_below HR0_2.out HB.out) | (with_reducible refine Kd.C_alloc ?_ _) | (with_reducible refine Kd.C_drewN ?_ _) | (with_reducible refine Kd.C_drew ?_))); (case side2 => exact HC0_2.out); rintro e w6 ⟨rfl, hb⟩; refine ⟨_, rfl, ?_⟩; have n0_ := Aside0.mk (blk_below (g := gb575) (o := .cells #[.int .i64 a0_0, .int .i64 a0_1, .slice A0_2 l0_2.length c0_2] 57 (0, 0)) (by (with_reducible repeat (first | refine blk_drewN ?_ _ | refine blk_drew ?_ | refine blk_alloc ?_ _)); exact BK575.out) hb); have n1_ := Aside0.mk (below_step (by repeat (first | (with_reducible first | exact HB.out | apply below_alloc | apply pw_below_drewN | apply below_drew1 | refine below_set ?_ GE575.out) | exact HB.out)) hb); clear BK575; clear HB; have BK575 := n0_; have HB := n1_; clear n0_ n1_; (try clear hb); (try clear hb2); (try clear hk); (try clear hi)))
    go_loopg [4, 5] k (fun kq v4 v5 w' => ∃ (x4_1 : List ByteArray) (x5_1 : Int), v5 = .int .i64 x5_1 ∧ Aside0 (impl_GridText.l0 kq x4_1 x5_1 a0_0 a0_1 l0_2 = some (r1, r2)) ∧ Aside0 (kq ≤ k) ∧ Aside0 (Kd.R Kd.string 9 w' w.heap.size (fun _ => True) v4 x4_1) ∧ Aside0 (w'.heap[gb575]? = some (.cells #[.int .i64 a0_0, .int .i64 a0_1, (.slice A0_2 l0_2.length c0_2)] 57 (0, 0))) ∧ Aside0 (Below w.heap.size w w'))
    case atStart => exact ⟨(([] : List ByteArray)), (0), (by first | rfl | (simp; done) | (simp [*]; done)), H', ⟨Nat.le_refl _⟩, ⟨by first | exact Kd.R_nil _ _ _ _ _ | exact Kd.N_nil _ _ _ _ _ | exact Kd.V_nil _ _ _ _ _ | exact Kd.Q_nil _ _ _ _ _ | exact Kd.S_nil _ _ _ _ _⟩, ⟨by (with_reducible repeat (first | refine blk_drewN ?_ _ | refine blk_drew ?_ | refine blk_alloc ?_ _)); exact BK575.out⟩, ⟨by repeat (first | (with_reducible first | exact HB.out | apply below_alloc | apply pw_below_drewN | apply below_drew1 | refine below_set ?_ GE575.out) | exact HB.out)⟩⟩
    case round =>
      clear H'
      try clear p2
      try clear c3
      try clear c4
      try clear hcz5_0
      try clear hcz5_1
      try clear hcz5_2
      try clear hfz5_0
      try clear hfz5_1
      try clear hfz5_2
      obtain ⟨x4_1, x5_1, rfl, HA, HK1, HO_4, BK575, HB⟩ := hrel
      cases gk with
      | zero => exact absurd HA.out (by simp [impl_GridText.l0])
      | succ k1 =>
        have H := HA.out
        clear HA
        simp only [impl_GridText.l0] at H
        by_cases c7 : x5_1 < a0_1
        · rw [if_pos c7] at H
          have c7b0 : decide (x5_1 < a0_1) = true := decide_eq_true c7
          clear c7
          obtain ⟨ji8, hji8⟩ : ∃ j_ : Int, (wrap64 (x5_1 * a0_0)) = j_ := ⟨_, rfl⟩
          replace H : (if 0 ≤ (ji8) then (if (ji8) ≤ (wrap64 ((wrap64 (x5_1 + 1)) * a0_0)) then (if (wrap64 ((wrap64 (x5_1 + 1)) * a0_0)) ≤ (l0_2.length : Int) then (impl_GridText.l1 k1 x4_1 x5_1 (⟨#[]⟩ : ByteArray) ((l0_2.take ((wrap64 ((wrap64 (x5_1 + 1)) * a0_0)) : Int).toNat).drop ((ji8) : Int).toNat) (((l0_2.take ((wrap64 ((wrap64 (x5_1 + 1)) * a0_0)) : Int).toNat).drop ((ji8) : Int).toNat).length : Int) 0 a0_0 a0_1 l0_2) else (none)) else (none)) else (none)) = some (r1, r2) := by first | (rw [hji8] at H; exact H) | (simp only [hji8] at H ⊢; exact H)
          have hji8w : (IntKind.i64.wrap (x5_1 * a0_0)) = ji8 := (i64_w _).trans hji8
          by_cases c9 : 0 ≤ (ji8)
          · rw [if_pos c9] at H
            have c9b0 := eq_true c9
            have c9b1 : decide (0 ≤ (ji8)) = true := decide_eq_true c9
            clear c9
            by_cases c10 : (ji8) ≤ (wrap64 ((wrap64 (x5_1 + 1)) * a0_0))
            · rw [if_pos c10] at H
              have c10b0 := eq_true c10
              have c10b1 : decide ((ji8) ≤ (wrap64 ((wrap64 (x5_1 + 1)) * a0_0))) = true := decide_eq_true c10
              by_cases c11 : (wrap64 ((wrap64 (x5_1 + 1)) * a0_0)) ≤ (l0_2.length : Int)
              · rw [if_pos c11] at H
                have c11b0 := eq_true c11
                have c11b1 : decide ((wrap64 ((wrap64 (x5_1 + 1)) * a0_0)) ≤ (l0_2.length : Int)) = true := decide_eq_true c11
                have H' := Aside0.mk H
                clear H
                have hcz12_0 : wr.cell? ⟨gb575, 0, none⟩ = some (.int .i64 a0_0) := (blk_cell BK575.out 0).trans rfl
                have hcz12_1 : wr.cell? ⟨gb575, 1, none⟩ = some (.int .i64 a0_1) := (blk_cell BK575.out 1).trans rfl
                have hcz12_2 : wr.cell? ⟨gb575, 2, none⟩ = some (.slice A0_2 l0_2.length c0_2) := (blk_cell BK575.out 2).trans rfl
                have hfz12_0 := blk_frozen BK575.out 0
                have hfz12_1 := blk_frozen BK575.out 1
                have hfz12_2 := blk_frozen BK575.out 2
                obtain ⟨i013, hi013, _, hsz13, _⟩ := info_parts info4
                obtain ⟨A13, hcut13, hA13, hC13⟩ := print_mid_of (P := Try.prog) Value.bool false 55 4 .i64 .i64 Try.underlying55 hi013 hsz13 A0_2 c0_2 l0_2 (ji8) (wrap64 ((wrap64 (x5_1 + 1)) * a0_0)) (of_decide_eq_true (by first | (with_reducible assumption) | assumption)) (by first | omega | exact of_decide_eq_true (by first | (with_reducible assumption) | assumption)) (of_decide_eq_true (by first | (with_reducible assumption) | assumption)) HC0_2.out
                have HR578 := Aside0.mk (Kd.C_of_reads (h1 := fun _ => rfl) (hA13 _ (Kd.reads_of_C HR0_2.out)))
                have HC578 := Aside0.mk hC13
                clear hA13 hC13 hi013 hsz13
                have HLN0_ := Aside0.mk (show (((l0_2.take ((wrap64 ((wrap64 (x5_1 + 1)) * a0_0)) : Int).toNat).drop ((ji8) : Int).toNat).length) = ((wrap64 ((wrap64 (x5_1 + 1)) * a0_0)) : Int).toNat - ((ji8) : Int).toNat from by rw [List.length_drop, List.length_take, Nat.min_eq_left (by first | omega | (have h_ : ((wrap64 ((wrap64 (x5_1 + 1)) * a0_0))) ≤ (l0_2.length : Int) := of_decide_eq_true (by first | (with_reducible assumption) | assumption); omega))])
                go_wp2
                go_loopg [6, 31] k1 (fun kq v6 v31 w' => ∃ (x6_2 : ByteArray) (x31_2 : Int), v6 = .string x6_2 ∧ v31 = .int .i64 x31_2 ∧ Aside0 (impl_GridText.l1 kq x4_1 x5_1 x6_2 ((l0_2.take ((wrap64 ((wrap64 (x5_1 + 1)) * a0_0)) : Int).toNat).drop ((ji8) : Int).toNat) (((l0_2.take ((wrap64 ((wrap64 (x5_1 + 1)) * a0_0)) : Int).toNat).drop ((ji8) : Int).toNat).length : Int) x31_2 a0_0 a0_1 l0_2 = some (r1, r2)) ∧ Aside0 (kq ≤ k1) ∧ Aside0 (Kd.R Kd.string 9 w' w.heap.size (fun _ => True) u4 x4_1) ∧ Aside0 (w'.heap[gb575]? = some (.cells #[.int .i64 a0_0, .int .i64 a0_1, (.slice A0_2 l0_2.length c0_2)] 57 (0, 0))) ∧ Aside0 (Below w.heap.size w w'))
                case atStart => exact ⟨((⟨#[]⟩ : ByteArray)), (0), (by first | rfl | (simp; done) | (simp [*]; done)), (by first | rfl | (simp; done) | (simp [*]; done)), H', ⟨Nat.le_refl _⟩, ⟨by (with_reducible repeat (first | apply Kd.R_alloc | apply Kd.R_drewN | apply Kd.R_drew)); exact HO_4.out⟩, ⟨by (with_reducible repeat (first | refine blk_drewN ?_ _ | refine blk_drew ?_ | refine blk_alloc ?_ _)); exact BK575.out⟩, ⟨by repeat (first | (with_reducible first | exact HB.out | apply below_alloc | apply pw_below_drewN | apply below_drew1 | refine below_set ?_ GE575.out) | exact HB.out)⟩⟩
                case round =>
                  clear H'
                  try clear c1
                  try clear p2
                  try clear c3
                  try clear c4
                  try clear p6
                  try clear c7
                  try clear c7b0
                  try clear c9
                  try clear c9b0
                  try clear c9b1
                  try clear c10
                  try clear c10b0
                  try clear c10b1
                  try clear c11
                  try clear c11b0
                  try clear c11b1
                  try clear hcz12_0
                  try clear hcz12_1
                  try clear hcz12_2
                  try clear hcz5_0
                  try clear hcz5_1
                  try clear hcz5_2
                  try clear hfz12_0
                  try clear hfz12_1
                  try clear hfz12_2
                  try clear hfz5_0
                  try clear hfz5_1
                  try clear hfz5_2
                  try clear p2
                  obtain ⟨x6_2, x31_2, rfl, rfl, HA, HK2, HO_4, BK575, HB⟩ := hrel
                  cases gk with
                  | zero => exact absurd HA.out (by simp [impl_GridText.l1])
                  | succ k2 =>
                    have H := HA.out
                    clear HA
                    simp only [impl_GridText.l1] at H
                    by_cases c14 : x31_2 < (((l0_2.take ((wrap64 ((wrap64 (x5_1 + 1)) * a0_0)) : Int).toNat).drop ((ji8) : Int).toNat).length : Int)
                    · rw [if_pos c14] at H
                      have c14b0 : decide (x31_2 < (((l0_2.take ((wrap64 ((wrap64 (x5_1 + 1)) * a0_0)) : Int).toNat).drop ((ji8) : Int).toNat).length : Int)) = true := decide_eq_true c14
                      have c14b0z := c14b0
                      (try rw [HLN0_.out] at c14b0z)
                      clear c14
                      by_cases c15 : 0 ≤ x31_2
                      · rw [if_pos c15] at H
                        have c15b0 : decide (0 ≤ x31_2) = true := decide_eq_true c15
                        clear c15
                        by_cases c16 : x31_2 < (((l0_2.take ((wrap64 ((wrap64 (x5_1 + 1)) * a0_0)) : Int).toNat).drop ((ji8) : Int).toNat).length : Int)
                        · rw [if_pos c16] at H
                          have c16b0 : decide (x31_2 < (((l0_2.take ((wrap64 ((wrap64 (x5_1 + 1)) * a0_0)) : Int).toNat).drop ((ji8) : Int).toNat).length : Int)) = true := decide_eq_true c16
                          have c16b0z := c16b0
                          (try rw [HLN0_.out] at c16b0z)
                          clear c16
                          obtain ⟨bq17, hbq17⟩ : ∃ b_ : Bool, b_ = (rdOf false ((l0_2.take ((wrap64 ((wrap64 (x5_1 + 1)) * a0_0)) : Int).toNat).drop ((ji8) : Int).toNat) x31_2) := ⟨_, rfl⟩
                          replace H : (if bq17 = true then (if x6_2.size + 1 ≤ 9223372036854775807 then (impl_GridText.l1 k2 x4_1 x5_1 (x6_2 ++ (⟨#[35]⟩ : ByteArray)) ((l0_2.take ((wrap64 ((wrap64 (x5_1 + 1)) * a0_0)) : Int).toNat).drop ((ji8) : Int).toNat) (((l0_2.take ((wrap64 ((wrap64 (x5_1 + 1)) * a0_0)) : Int).toNat).drop ((ji8) : Int).toNat).length : Int) (wrap64 (x31_2 + 1)) a0_0 a0_1 l0_2) else (none)) else (if x6_2.size + 1 ≤ 9223372036854775807 then (impl_GridText.l1 k2 x4_1 x5_1 (x6_2 ++ (⟨#[46]⟩ : ByteArray)) ((l0_2.take ((wrap64 ((wrap64 (x5_1 + 1)) * a0_0)) : Int).toNat).drop ((ji8) : Int).toNat) (((l0_2.take ((wrap64 ((wrap64 (x5_1 + 1)) * a0_0)) : Int).toNat).drop ((ji8) : Int).toNat).length : Int) (wrap64 (x31_2 + 1)) a0_0 a0_1 l0_2) else (none))) = some (r1, r2) := by rw [← hbq17] at H; exact H
                          have Nbq17 := Aside0.mk hbq17
                          clear hbq17
                          by_cases c18 : bq17 = true
                          · subst c18
                            have H1 : (if x6_2.size + 1 ≤ 9223372036854775807 then (impl_GridText.l1 k2 x4_1 x5_1 (x6_2 ++ (⟨#[35]⟩ : ByteArray)) ((l0_2.take ((wrap64 ((wrap64 (x5_1 + 1)) * a0_0)) : Int).toNat).drop ((ji8) : Int).toNat) (((l0_2.take ((wrap64 ((wrap64 (x5_1 + 1)) * a0_0)) : Int).toNat).drop ((ji8) : Int).toNat).length : Int) (wrap64 (x31_2 + 1)) a0_0 a0_1 l0_2) else (none)) = some (r1, r2) := by rw [if_pos rfl] at H; exact H
                            clear H
                            have H := H1
                            clear H1
                            by_cases c19 : x6_2.size + 1 ≤ 9223372036854775807
                            · rw [if_pos c19] at H
                              have c19b0 := eq_true c19
                              have c19b1 : decide (x6_2.size + 1 ≤ 9223372036854775807) = true := decide_eq_true c19
                              try have c19b2 : (9223372036854775807 < x6_2.size + 1) = False := eq_false (Nat.not_lt.2 c19)
                              have H' := Aside0.mk H
                              clear H
                              have p579 : 0 ≤ (x31_2 : Int) := of_decide_eq_true (by first | (with_reducible assumption) | assumption)
                              have q579 : x31_2 < (((l0_2.take ((wrap64 ((wrap64 (x5_1 + 1)) * a0_0)) : Int).toNat).drop ((ji8) : Int).toNat).length : Int) := of_decide_eq_true (by first | (with_reducible assumption) | assumption)
                              have q579z := q579
                              (try rw [HLN0_.out] at q579z)
                              replace q579z := eq_true q579z
                              obtain ⟨ad579, e579, hx579_0⟩ := Kd.at_bool HR578.out x31_2 p579 q579
                              (try rw [← Nbq17.out] at hx579_0)
                              cases e579
                              replace hx579_0 := (HB.out.cell (World.block_lt_of_cell? w _ hx579_0)).trans hx579_0
                              replace p579 := eq_true p579
                              replace q579 := eq_true q579
                              go_wp2
                              go_roundg k2
                              case measure => have := HK1.out; have := HK2.out; omega
                              case rel => exact ⟨(x6_2 ++ (⟨#[35]⟩ : ByteArray)), (wrap64 (x31_2 + 1)), (by first | rfl | (simp; done) | (simp [*]; done)), (by first | rfl | (simp; done) | (simp [*]; done)), H', ⟨by have := HK1.out; have := HK2.out; omega⟩, ⟨by (with_reducible repeat (first | apply Kd.R_alloc | apply Kd.R_drewN | apply Kd.R_drew)); exact HO_4.out⟩, ⟨by (with_reducible repeat (first | refine blk_drewN ?_ _ | refine blk_drew ?_ | refine blk_alloc ?_ _)); exact BK575.out⟩, ⟨by repeat (first | (with_reducible first | exact HB.out | apply below_alloc | apply pw_below_drewN | apply below_drew1 | refine below_set ?_ GE575.out) | exact HB.out)⟩⟩
                            · rw [if_neg c19] at H
                              exact absurd H (by simp)
                          · replace c18 := Bool.eq_false_iff.mpr c18
                            subst c18
                            have H1 : (if x6_2.size + 1 ≤ 9223372036854775807 then (impl_GridText.l1 k2 x4_1 x5_1 (x6_2 ++ (⟨#[46]⟩ : ByteArray)) ((l0_2.take ((wrap64 ((wrap64 (x5_1 + 1)) * a0_0)) : Int).toNat).drop ((ji8) : Int).toNat) (((l0_2.take ((wrap64 ((wrap64 (x5_1 + 1)) * a0_0)) : Int).toNat).drop ((ji8) : Int).toNat).length : Int) (wrap64 (x31_2 + 1)) a0_0 a0_1 l0_2) else (none)) = some (r1, r2) := by rw [if_neg (show ¬ (false = true) by decide)] at H; exact H
                            clear H
                            have H := H1
                            clear H1
                            by_cases c20 : x6_2.size + 1 ≤ 9223372036854775807
                            · rw [if_pos c20] at H
                              have c20b0 := eq_true c20
                              have c20b1 : decide (x6_2.size + 1 ≤ 9223372036854775807) = true := decide_eq_true c20
                              try have c20b2 : (9223372036854775807 < x6_2.size + 1) = False := eq_false (Nat.not_lt.2 c20)
                              have H' := Aside0.mk H
                              clear H
                              have p579 : 0 ≤ (x31_2 : Int) := of_decide_eq_true (by first | (with_reducible assumption) | assumption)
                              have q579 : x31_2 < (((l0_2.take ((wrap64 ((wrap64 (x5_1 + 1)) * a0_0)) : Int).toNat).drop ((ji8) : Int).toNat).length : Int) := of_decide_eq_true (by first | (with_reducible assumption) | assumption)
                              have q579z := q579
                              (try rw [HLN0_.out] at q579z)
                              replace q579z := eq_true q579z
                              obtain ⟨ad579, e579, hx579_0⟩ := Kd.at_bool HR578.out x31_2 p579 q579
                              (try rw [← Nbq17.out] at hx579_0)
                              cases e579
                              replace hx579_0 := (HB.out.cell (World.block_lt_of_cell? w _ hx579_0)).trans hx579_0
                              replace p579 := eq_true p579
                              replace q579 := eq_true q579
                              go_wp2
                              go_roundg k2
                              case measure => have := HK1.out; have := HK2.out; omega
                              case rel => exact ⟨(x6_2 ++ (⟨#[46]⟩ : ByteArray)), (wrap64 (x31_2 + 1)), (by first | rfl | (simp; done) | (simp [*]; done)), (by first | rfl | (simp; done) | (simp [*]; done)), H', ⟨by have := HK1.out; have := HK2.out; omega⟩, ⟨by (with_reducible repeat (first | apply Kd.R_alloc | apply Kd.R_drewN | apply Kd.R_drew)); exact HO_4.out⟩, ⟨by (with_reducible repeat (first | refine blk_drewN ?_ _ | refine blk_drew ?_ | refine blk_alloc ?_ _)); exact BK575.out⟩, ⟨by repeat (first | (with_reducible first | exact HB.out | apply below_alloc | apply pw_below_drewN | apply below_drew1 | refine below_set ?_ GE575.out) | exact HB.out)⟩⟩
                            · rw [if_neg c20] at H
                              exact absurd H (by simp)
                        · rw [if_neg c16] at H
                          exact absurd H (by simp)
                      · rw [if_neg c15] at H
                        exact absurd H (by simp)
                    · rw [if_neg c14] at H
                      have c14b0 : decide (x31_2 < (((l0_2.take ((wrap64 ((wrap64 (x5_1 + 1)) * a0_0)) : Int).toNat).drop ((ji8) : Int).toNat).length : Int)) = false := decide_eq_false c14
                      have c14b0z := c14b0
                      (try rw [HLN0_.out] at c14b0z)
                      clear c14
                      by_cases c21 : x4_1.length < 8796093022208
                      · rw [if_pos c21] at H
                        have LMc21 := Aside0.mk c21
                        clear c21
                        obtain ⟨y580, hy580⟩ : ∃ y_ : List ByteArray, y_ = (x4_1 ++ [x6_2]) := ⟨_, rfl⟩
                        replace H : (impl_GridText.l0 k2 y580 (wrap64 (x5_1 + 1)) a0_0 a0_1 l0_2) = some (r1, r2) := by first | (rw [hy580]; with_reducible exact H) | (have H2_ := (Option.bind_some _ _).symm.trans H; rw [hy580]; with_reducible exact H2_) | (have H2_ := (Option.bind_some _ _).symm.trans H; with_reducible exact H2_) | with_reducible exact H | (rw [hy580]; exact H) | exact H
                        have Ny580 := Aside0.mk hy580
                        clear hy580
                        have H' := Aside0.mk H
                        clear H
                        go_wp2_with (first | ((with_reducible refine gate_builtin (b := .append) (xs := #[.tmp 41, .tmp 43]) rfl ?_); at_builtin; refine Kd.R_append Kd.string (w0 := w) w.heap.size rfl (.tmp 41) (.tmp 43) 94 9 (.string ⟨#[]⟩) 16 rfl Try.underlying94 info9 rfl (by decide) (by omega) u4 x4_1 x6_2 [.string x6_2] (fun _ => True) (fun _ => False) rfl rfl ?aP (fun _ hk => hk.elim) ?aF ?aO ?aB ?aS ?aL ?_; (case aP => exact rfl); (case aB => exact (by repeat (first | (with_reducible first | exact HB.out | apply below_alloc | apply pw_below_drewN | apply below_drew1 | refine below_set ?_ GE575.out) | exact HB.out))); (case aF => exact (fun _ _ => trivial)); (case aO => exact (by (with_reducible repeat (first | apply Kd.R_alloc | apply Kd.R_drewN | apply Kd.R_drew)); exact HO_4.out)); (case aS => exact (below_size (by repeat (first | (with_reducible first | exact HB.out | apply below_alloc | apply pw_below_drewN | apply below_drew1 | refine below_set ?_ GE575.out) | exact HB.out)))); (case aL => have := LMc21.out; omega); intro v581 w22 ho hb hg hat; rw [← Ny580.out] at ho; have n0_ := Aside0.mk (blk_grown (g := gb575) (o := .cells #[.int .i64 a0_0, .int .i64 a0_1, .slice A0_2 l0_2.length c0_2] 57 (0, 0)) (by (with_reducible repeat (first | refine blk_drewN ?_ _ | refine blk_drew ?_ | refine blk_alloc ?_ _)); exact BK575.out) hg (Kd.R_ne HO_4.out BK575.out (by decide))); have n1_ := Aside0.mk (hb); have n2_ := Aside0.mk (ho); clear BK575; clear HB; clear HO_4; have BK575 := n0_; have HB := n1_; have HO582 := n2_; clear n0_ n1_ n2_; clear ho hb hg hat))
                        go_roundg k2
                        case measure => have := HK1.out; have := HK2.out; omega
                        case rel => exact ⟨(y580), (wrap64 (x5_1 + 1)), (by first | rfl | (simp; done) | (simp [*]; done)), H', ⟨by have := HK1.out; have := HK2.out; omega⟩, ⟨by (with_reducible repeat (first | apply Kd.R_alloc | apply Kd.R_drewN | apply Kd.R_drew)); exact HO582.out⟩, ⟨by (with_reducible repeat (first | refine blk_drewN ?_ _ | refine blk_drew ?_ | refine blk_alloc ?_ _)); exact BK575.out⟩, ⟨by repeat (first | (with_reducible first | exact HB.out | apply below_alloc | apply pw_below_drewN | apply below_drew1 | refine below_set ?_ GE575.out) | exact HB.out)⟩⟩
                      · rw [if_neg c21] at H
                        exact absurd H (by simp)
              · rw [if_neg c11] at H
                exact absurd H (by simp)
            · rw [if_neg c10] at H
              exact absurd H (by simp)
          · rw [if_neg c9] at H
            exact absurd H (by simp)
        · rw [if_neg c7] at H
          have c7b0 : decide (x5_1 < a0_1) = false := decide_eq_false c7
          clear c7
          replace H := Option.bind_eq_some_iff.mp H
          obtain ⟨t577, A230, H⟩ := H
          replace H : (some (t577, 0)) = some (r1, r2) := H
          have A23 := Aside0.mk A230
          clear A230
          simp only [Option.some.injEq, Prod.mk.injEq] at H
          obtain ⟨rfl, rfl⟩ := H
          have hcz24_0 : wr.cell? ⟨gb575, 0, none⟩ = some (.int .i64 a0_0) := (blk_cell BK575.out 0).trans rfl
          have hcz24_1 : wr.cell? ⟨gb575, 1, none⟩ = some (.int .i64 a0_1) := (blk_cell BK575.out 1).trans rfl
          have hcz24_2 : wr.cell? ⟨gb575, 2, none⟩ = some (.slice A0_2 l0_2.length c0_2) := (blk_cell BK575.out 2).trans rfl
          have hfz24_0 := blk_frozen BK575.out 0
          have hfz24_1 := blk_frozen BK575.out 1
          have hfz24_2 := blk_frozen BK575.out 2
          obtain ⟨Ao25, co25, eo25⟩ := Kd.R_slice HO_4.out
          subst eo25
          go_wp2_with (first | ((with_reducible refine gate_callee (f := 112) rfl ?_); refine goesL_ (some 46) rfl rfl Try.func112 (by kernel_rfl) rfl #[.slice Ao25 x4_1.length co25, .string (⟨#[47]⟩ : ByteArray)] rfl (by (try simp only [List.map_toArray, List.map_cons, List.map_nil]); first | done | rfl | (simp only [List.length_drop, List.length_take]; rfl)) ?_; (with_reducible refine (impl_joinWith.calls k1 _ _ x4_1 (⟨#[47]⟩ : ByteArray) t577 _ ?side1 ?side2 A23.out).mono ?_); (case side1 => repeat (first | exact (Kd.R_reads' HO_4.out).2.2 | (with_reducible refine Kd.C_alloc ?_ _) | (with_reducible refine Kd.C_drewN ?_ _) | (with_reducible refine Kd.C_drew ?_))); (case side2 => exact (Kd.R_reads' HO_4.out).2.1); rintro e w' ⟨rfl, ⟨nd, rfl⟩⟩; refine ⟨_, rfl, ?_⟩))
          go_ret2
          exact ⟨by first | rfl | (simp [errW_none, errW_some] <;> rfl) | (simp [*, errW_none, errW_some] <;> rfl), by repeat (first | (with_reducible first | exact HB.out | apply below_alloc | apply pw_below_drewN | apply below_drew1 | refine below_set ?_ GE575.out) | exact HB.out)⟩
  · replace c3 := Bool.eq_false_iff.mpr c3
    subst c3
    have H1 : (some ((⟨#[]⟩ : ByteArray), 1)) = some (r1, r2) := by rw [if_neg (show ¬ (false = true) by decide)] at H; exact H
    clear H
    have H := H1
    clear H1
    simp only [Option.some.injEq, Prod.mk.injEq] at H
    obtain ⟨rfl, rfl⟩ := H
    go_enter Try.func39, Try.ntmps39
    go_wp2_with (first | ((with_reducible refine gate_dst (N := 1) rfl ?_); refine box_event ?hg (N := 1) ?hd (cs := #[.int .i64 a0_0, .int .i64 a0_1, .slice A0_2 l0_2.length c0_2]) (t := 57) ?hr ?_; (case hd => rfl); (case hg => rfl); (case hr => first | (go_simp; done) | (go_simp; rfl)); intro gb575 hg w26 hbox hb; have n0_ := Aside0.mk (below_step (by repeat (first | (with_reducible first | exact HB.out | apply below_alloc | apply pw_below_drewN | apply below_drew1) | exact HB.out)) hb); have n1_ := Aside0.mk (hbox); have n2_ := Aside0.mk ((by rw [hg]; exact (below_size (by repeat (first | (with_reducible first | exact HB.out | apply below_alloc | apply pw_below_drewN | apply below_drew1) | exact HB.out))) : w.heap.size ≤ gb575)); have n3_ := Aside0.mk ((by rw [hg]; exact (below_size (by repeat (first | (with_reducible first | exact HB.out | apply below_alloc | apply pw_below_drewN | apply below_drew1) | exact HB.out))) : w.heap.size ≤ gb575)); clear HB; have HB := n0_; have BK575 := n1_; have GW575 := n2_; have GE575 := n3_; clear n0_ n1_ n2_ n3_; clear hb hbox hg; have hcz27_0 : w26.cell? ⟨gb575, 0, none⟩ = some (.int .i64 a0_0) := (blk_cell BK575.out 0).trans rfl; have hcz27_1 : w26.cell? ⟨gb575, 1, none⟩ = some (.int .i64 a0_1) := (blk_cell BK575.out 1).trans rfl; have hcz27_2 : w26.cell? ⟨gb575, 2, none⟩ = some (.slice A0_2 l0_2.length c0_2) := (blk_cell BK575.out 2).trans rfl; have hfz27_0 := blk_frozen BK575.out 0; have hfz27_1 := blk_frozen BK575.out 1; have hfz27_2 := blk_frozen BK575.out 2) | ((with_reducible refine gate_callee (f := 45) rfl ?_); refine goesL_ (some 10) rfl rfl Try.func45 (by kernel_rfl) rfl #[.agg #[.int .i64 a0_0, .int .i64 a0_1, .slice A0_2 l0_2.length c0_2]] rfl (by (try simp only [List.map_toArray, List.map_cons, List.map_nil]); first | done | rfl | (simp only [List.length_drop, List.length_take]; rfl)) ?_; (with_reducible refine (impl_IsGrid.calls a0_0 a0_1 _ _ l0_2 false _ ?side1 ?side2 A2.out).mono ?_); (case side1 => repeat (first | exact (Kd.C_below HR0_2.out HB.out) | (with_reducible refine Kd.C_alloc ?_ _) | (with_reducible refine Kd.C_drewN ?_ _) | (with_reducible refine Kd.C_drew ?_))); (case side2 => exact HC0_2.out); rintro e w28 ⟨rfl, hb⟩; refine ⟨_, rfl, ?_⟩; have n0_ := Aside0.mk (blk_below (g := gb575) (o := .cells #[.int .i64 a0_0, .int .i64 a0_1, .slice A0_2 l0_2.length c0_2] 57 (0, 0)) (by (with_reducible repeat (first | refine blk_drewN ?_ _ | refine blk_drew ?_ | refine blk_alloc ?_ _)); exact BK575.out) hb); have n1_ := Aside0.mk (below_step (by repeat (first | (with_reducible first | exact HB.out | apply below_alloc | apply pw_below_drewN | apply below_drew1 | refine below_set ?_ GE575.out) | exact HB.out)) hb); clear BK575; clear HB; have BK575 := n0_; have HB := n1_; clear n0_ n1_; (try clear hb); (try clear hb2); (try clear hk); (try clear hi)))
    go_ret2
    exact ⟨by first | rfl | (simp [errW_none, errW_some] <;> rfl) | (simp [*, errW_none, errW_some] <;> rfl), by repeat (first | (with_reducible first | exact HB.out | apply below_alloc | apply pw_below_drewN | apply below_drew1 | refine below_set ?_ GE575.out) | exact HB.out)⟩

end Go.Proofs.Ytppfdipgaifhiab.Q
