/- Part 3 of what the law FnExactFewestPermits stands on: an evaluator of the model's code, proved sound; the functions as plain texts; their contracts. -/
import Derived.Test.YtbhiijhaiobiiaaEvExactFewestPermits2
namespace Go.Ev.Try
open Go.Proofs Go.Pl Go.RowKit
set_option linter.unusedVariables false
set_option linter.unusedSimpArgs false
structure LawF (ps : List PT.I) (fr to : Int) : Prop where
  sz : ∃ s, laws_szPermitS.f ps 1000000 = some s ∧ (0 ≤ s → ∃ (f0 : Bool → List PD.I × List PD.I) (R : List Int × Int), (∀ b, laws_toPermitS.f ps b = some (f0 b)) ∧ (∀ b, (f0 b).1.map (Ty.cf PD PT) = ps) ∧ laws_intactPermitS.f (f0 false) (f0 false) = some true ∧
    spec_FewestPermits.f ps fr to = some R ∧ impl_FewestPermits.f ps fr to = some R ∧ laws_eqInt64S.f R.1 R.1 = some true ∧ R.1.length ≤ 1000000 ∧ 101 + tot ((f0 false).1.map kindsN) ≤ 576460752303423488 ∧ (f0 false).1.length ≤ 1000000 ∧
    laws_heldInt64S.f (mks 101 R.1.length) 101 = some (101 + R.1.length))
theorem law_at {W : World} {A : Option Addr} {c : Nat} {ps : List PT.I} {fr to : Int} (hA : RowAt W (fun b => b < W.heap.size) (Rs W (fun b => b < W.heap.size) PT) 6 A ps) (hc : ps.length ≤ c) (hL : LawF ps fr to) :
    Calls Try.prog 3 #[.slice A ps.length c, .int .i64 fr, .int .i64 to] W fun e W' => e = .returned (.bool true) ∧ Below W.heap.size W W' := by
  let post : List V → WP := fun l W' => l = [.dat .bool true] ∧ Below W.heap.size W W'
  -- the argument lies where it lay
  have arg : ∀ {V : World}, Below W.heap.size W V → RowAt V (fun b => b < V.heap.size) (Rs V (fun b => b < V.heap.size) PT) 6 A ps := fun {V} hB =>
    RowAt_move (fun b hb => ⟨Nat.lt_of_lt_of_le hb hB.size, hB.block b hb⟩) (fun x cs h => Rs_move (fun b hb => ⟨Nat.lt_of_lt_of_le hb hB.size, hB.block b hb⟩) _ _ _ h) hA
  have key : ∃ r, WFnExactFewestPermits.fn post NN (.slice A ps.length c) fr to = some r ∧ r W := by
    obtain ⟨s, hs, hrest⟩ := hL.sz
    unfold WFnExactFewestPermits.fn WFnExactFewestPermits.top
    refine cI_ok ((sz_at hA hc hs).mono fun e W1 hp => ?_)
    obtain ⟨rfl, B1⟩ := hp
    refine ⟨s, rfl, ?_⟩
    by_cases hs0 : s < 0
    · rw [if_pos (by simpa using hs0)]
      exact ⟨_, rfl, rfl, B1⟩
    rw [if_neg (by simpa using hs0)]
    obtain ⟨f0, R, hto, hcf, hin, hsp, him, heq, hRl, htot, hfl, hheld⟩ := hrest (by omega)
    -- toPermitS, for the reference
    refine cH_ok ((to_at (c := c) (arg B1) (hto false)).mono fun e W2 hp => ?_)
    obtain ⟨u2, rfl, d2, b2⟩ := hp
    refine ⟨u2, Rs_plain _ _ _ d2 u2 List.mem_cons_self, rfl, ?_⟩
    have B2 := B1.trans (b2.mono B1.size)
    have t2 := pd_pt d2
    rw [hcf] at t2
    -- the reference
    refine cHI_ok ((few5_at (Rs_mono (fun b hb => hb.2) t2) hsp).mono fun e W3 hp => ?_)
    obtain ⟨u3, rfl, d3, b3⟩ := hp
    refine ⟨u3, R.2, Rs_plain _ _ _ d3 u3 List.mem_cons_self, rfl, ?_⟩
    have B3 := B2.trans (b3.mono B2.size)
    -- toPermitS, for the program
    refine cH_ok ((to_at (c := c) (arg B3) (hto false)).mono fun e W4 hp => ?_)
    obtain ⟨u5, rfl, d5, b4⟩ := hp
    refine ⟨u5, Rs_plain _ _ _ d5 u5 List.mem_cons_self, rfl, ?_⟩
    have B4 := B3.trans (b4.mono B3.size)
    have t5 := pd_pt d5
    rw [hcf] at t5
    -- the program
    refine cHI_ok ((few7_at (Rs_mono (fun b hb => hb.2) t5) him).mono fun e W5 hp => ?_)
    obtain ⟨u6, rfl, d6, b5⟩ := hp
    refine ⟨u6, R.2, Rs_plain _ _ _ d6 u6 List.mem_cons_self, rfl, ?_⟩
    have B5 := B4.trans (b5.mono B4.size)
    have b35 : Below W3.heap.size W3 W5 := b4.trans (b5.mono b4.size)
    -- both answers, anywhere behind
    have ans3 : ∀ {V : World}, (∀ b, b < W3.heap.size → V.heap[b]? = W3.heap[b]?) → W3.heap.size ≤ V.heap.size → Rs V (fun b => b < V.heap.size) (.sl 2 (.int .i64)) R.1 [u3] := fun {V} h1 h2 =>
      Rs_move (fun b hb => ⟨Nat.lt_of_lt_of_le hb h2, h1 b hb⟩) _ _ _ d3
    have ans6 : ∀ {V : World}, (∀ b, W4.heap.size ≤ b → b < W5.heap.size → V.heap[b]? = W5.heap[b]?) → W5.heap.size ≤ V.heap.size → Rs V (fun b => b < V.heap.size) (.sl 2 (.int .i64)) R.1 [u6] := fun {V} h1 h2 =>
      Rs_move (fun b hb => ⟨Nat.lt_of_lt_of_le hb.2 h2, h1 b hb.1 hb.2⟩) _ _ _ d6
    refine cB_ok ((eq_at (ans6 (fun _ _ _ => rfl) (Nat.le_refl _)) (ans3 b35.block b35.size) heq).mono fun e W6 hp => ?_)
    obtain ⟨rfl, b6⟩ := hp
    refine ⟨true, rfl, ?_⟩
    have B6 := B5.trans (b6.mono B5.size)
    rw [if_pos (by rfl), if_neg (by simp)]
    -- intact
    refine cH_ok ((to_at (c := c) (arg B6) (hto false)).mono fun e W7 hp => ?_)
    obtain ⟨u9, rfl, d9, b7⟩ := hp
    refine ⟨u9, Rs_plain _ _ _ d9 u9 List.mem_cons_self, rfl, ?_⟩
    have B7 := B6.trans (b7.mono B6.size)
    have b57 : Below W5.heap.size W5 W7 := b6.trans (b7.mono b6.size)
    have b47 : Below W4.heap.size W4 W7 := b5.trans (b57.mono b5.size)
    refine cB_ok ((intact_at (Rs_move (S' := fun b => b < W7.heap.size) (fun b hb => ⟨Nat.lt_of_lt_of_le hb.2 b47.size, b47.block b hb.2⟩) _ _ _ d5) (Rs_mono (fun b hb => hb.2) d9) hin).mono fun e W8 hp => ?_)
    obtain ⟨rfl, b8⟩ := hp
    refine ⟨true, rfl, ?_⟩
    rw [if_neg (by simp)]
    have B8 := B7.trans (b8.mono B7.size)
    have b58 : Below W5.heap.size W5 W8 := b57.trans (b8.mono b57.size)
    have b48 : Below W4.heap.size W4 W8 := b47.trans (b8.mono b47.size)
    have b38 : Below W3.heap.size W3 W8 := b4.trans (b48.mono b4.size)
    -- marks of the argument that was given
    have d8 : Rs W8 (fun b => W3.heap.size ≤ b ∧ b < W4.heap.size) (.slb 42 PD) (f0 false) [u5] := Rs_move (fun b hb => ⟨hb, b48.block b hb.2⟩) _ _ _ d5
    obtain ⟨A5, c5, rfl, hrow5⟩ := perm_row (D := fun b => W3.heap.size ≤ b ∧ b < W4.heap.size) d8 (fun b hb => hb)
    refine cI_ok ((markPermitS_at hrow5 (by omega) htot (by rw [List.length_map]; omega)).mono fun e W9 hp => ?_)
    obtain ⟨rfl, i9⟩ := hp
    refine ⟨_, rfl, ?_⟩
    have hnn := tot_nn ((f0 false).1.map kindsN)
    rw [if_pos (by simp; omega)]
    have B9 : Below W.heap.size W W9 := B8.trans (i9.below fun b hb => Nat.le_trans B3.size hb.1)
    have k3 : ∀ b, b < W3.heap.size → W9.heap[b]? = W3.heap[b]? := fun b hb => (i9.block b fun hd => absurd hd.1 (by omega)).trans (b38.block b hb)
    have k5 : ∀ b, W4.heap.size ≤ b → b < W5.heap.size → W9.heap[b]? = W5.heap[b]? := fun b h1 h2 => (i9.block b fun hd => absurd hd.2 (by omega)).trans (b58.block b h2)
    have z39 : W3.heap.size ≤ W9.heap.size := by rw [i9.size]; exact b38.size
    have z59 : W5.heap.size ≤ W9.heap.size := by rw [i9.size]; exact b58.size
    refine cB_ok ((eq_at (ans6 k5 z59) (ans3 k3 z39) heq).mono fun e W10 hp => ?_)
    obtain ⟨rfl, b10⟩ := hp
    refine ⟨true, rfl, ?_⟩
    rw [if_pos (by rfl), if_neg (by simp)]
    have B10 := B9.trans (b10.mono B9.size)
    -- marks of the answer
    have d10 : Rs W10 (fun b => W4.heap.size ≤ b ∧ b < W5.heap.size) (.sl 2 (.int .i64)) R.1 [u6] := Rs_move (fun b hb => ⟨hb, (b10.block b (Nat.lt_of_lt_of_le hb.2 z59)).trans (k5 b hb.1 hb.2)⟩) _ _ _ d6
    obtain ⟨A6, c6, rfl, hc6, hrow6, hD6⟩ := int_row (D := fun b => W4.heap.size ≤ b ∧ b < W5.heap.size) d10 (fun b hb => hb)
    refine cI_ok ((markInt_at (c := c6) hD6 hrow6 (by omega) (by omega) (by omega)).mono fun e W11 hp => ?_)
    obtain ⟨rfl, i11, m11⟩ := hp
    refine ⟨_, rfl, ?_⟩
    have z34 : W3.heap.size ≤ W4.heap.size := b4.size
    have B11 : Below W.heap.size W W11 := B10.trans (i11.below fun b hb => Nat.le_trans (Nat.le_trans B3.size z34) hb.1)
    have d11 := marked hc6 hrow6 hD6 i11 m11
    have z511 : W5.heap.size ≤ W11.heap.size := by rw [i11.size]; exact Nat.le_trans z59 b10.size
    have z311 : W3.heap.size ≤ W11.heap.size := Nat.le_trans b35.size z511
    have k311 : ∀ b, b < W3.heap.size → W11.heap[b]? = W3.heap[b]? := fun b hb => (i11.block b fun hd => absurd hd.1 (by omega)).trans ((b10.block b (by omega)).trans (k3 b hb))
    refine cI_ok ((held_at (Rs_mono (fun b hb => Nat.lt_of_lt_of_le hb.2 z511) d11) hheld).mono fun e W12 hp => ?_)
    obtain ⟨rfl, b12⟩ := hp
    refine ⟨_, rfl, ?_⟩
    rw [if_neg (by simp; omega), if_neg (by simp)]
    have B12 := B11.trans (b12.mono B11.size)
    -- the other argument
    refine cH_ok ((to_at (c := c) (arg B12) (hto true)).mono fun e W13 hp => ?_)
    obtain ⟨u15, rfl, d15, b13⟩ := hp
    refine ⟨u15, Rs_plain _ _ _ d15 u15 List.mem_cons_self, rfl, ?_⟩
    have B13 := B12.trans (b13.mono B12.size)
    have t15 := pd_pt d15
    rw [hcf] at t15
    refine cHI_ok ((few7_at (Rs_mono (fun b hb => hb.2) t15) him).mono fun e W14 hp => ?_)
    obtain ⟨u16, rfl, d16, b14⟩ := hp
    refine ⟨u16, R.2, Rs_plain _ _ _ d16 u16 List.mem_cons_self, rfl, ?_⟩
    have B14 := B13.trans (b14.mono B13.size)
    have b1114 : Below W11.heap.size W11 W14 := (b12.trans (b13.mono b12.size)).trans (b14.mono (Nat.le_trans b12.size b13.size))
    refine cB_ok ((eq_at (Rs_mono (fun b hb => hb.2) d16) (ans3 (fun b hb => (b1114.block b (by omega)).trans (k311 b hb)) (Nat.le_trans z311 b1114.size)) heq).mono fun e W15 hp => ?_)
    obtain ⟨rfl, b15⟩ := hp
    refine ⟨true, rfl, ?_⟩
    rw [if_pos (by rfl), if_neg (by simp)]
    have B15 := B14.trans (b15.mono B14.size)
    have b1115 : Below W11.heap.size W11 W15 := b1114.trans (b15.mono b1114.size)
    refine cI_ok ((held_at (Rs_move (fun b hb => ⟨Nat.lt_of_lt_of_le (Nat.lt_of_lt_of_le hb.2 z511) b1115.size, b1115.block b (Nat.lt_of_lt_of_le hb.2 z511)⟩) _ _ _ d11) hheld).mono fun e W16 hp => ?_)
    obtain ⟨rfl, b16⟩ := hp
    refine ⟨_, rfl, ?_⟩
    rw [if_neg (by simp; omega), if_neg (by simp)]
    exact ⟨_, rfl, rfl, B15.trans (b16.mono B15.size)⟩
  obtain ⟨r, h3, h2⟩ := key
  obtain ⟨code, hcode⟩ := Option.isSome_iff_exists.1 (show Try.f3.body.isSome = true by kernel_rfl)
  have hcd : codeOf Try.f3 = code := by unfold codeOf; rw [hcode]
  have hb := WFnExactFewestPermits.body post NN (.slice A ps.length c) fr to
  rw [hcd, h3] at hb
  have hE : EnvOk Try.prog EW (fun _ => False) (fun _ => False) := envOk (cs := []) tabok trivial 0 false _ _
  refine (calls_of_execW hE rfl hw_ok Try.func3 hcode WFnExactFewestPermits.keep (ss := [.dat .hdr (.slice A ps.length c), .dat (.int .i64) fr, .dat (.int .i64) to]) (vs := [.slice A ps.length c, .int .i64 fr, .int .i64 to]) (.cons (fun _ _ _ _ => mk_hdr rfl) (.cons (fun _ _ _ _ => mk_int fr) (.cons (fun _ _ _ _ => mk_int to) .nil))) hb h2).mono fun e W' hp => ?_
  obtain ⟨rv, us, ⟨rfl, h4⟩, h6, rfl⟩ := hp
  cases h6 with
  | cons h7 h8 =>
    cases h8
    have h9 := VR_bool (h7 (fun _ => .bool false) (fun _ => none) W (fun _ => True))
    subst h9
    exact ⟨rfl, h4⟩
end Go.Ev.Try

namespace Go.Pl
open Go.Ev
set_option linter.unusedVariables false
set_option linter.unusedSimpArgs false
def PlPermit (x : Int × Int × Int × Int × List Int × Int) : Prop := Rg .i64 x.1 ∧ Rg .i64 x.2.1 ∧ Rg .i64 x.2.2.1 ∧ Rg .i64 x.2.2.2.1 ∧ Ls (Rg .i64) x.2.2.2.2.1 ∧ Rg .i64 x.2.2.2.2.2
def OkPermit (x : Int × Int × Int × Int × List Int × Int) : Prop := Rg .i64 x.1 ∧ Rg .i64 x.2.1 ∧ Rg .i64 x.2.2.1 ∧ Rg .i64 x.2.2.2.1 ∧ Lm (Rg .i64) x.2.2.2.2.1 ∧ Rg .i64 x.2.2.2.2.2
end Go.Pl

namespace Go.Pl
open Go.Ev
set_option linter.unusedVariables false
set_option linter.unusedSimpArgs false
def inB (n lo hi : Int) : Bool := decide (lo ≤ n) && decide (n ≤ hi)
theorem inB_iff {n lo hi : Int} : inB n lo hi = true ↔ lo ≤ n ∧ n ≤ hi := by unfold inB; simp
theorem impl_within_f (n lo hi : Int) : impl_within.f n lo hi = some (inB n lo hi) := by
  unfold impl_within.f impl_within.fn impl_within.top inB
  by_cases h : lo ≤ n <;> simp [h]
theorem spec_l01In_f (n lo hi : Int) : spec_l01In.f n lo hi = some (inB n lo hi) := by
  unfold spec_l01In.f spec_l01In.fn spec_l01In.top inB
  by_cases h : lo ≤ n <;> simp [h]
theorem impl_isDay_f (n : Int) : impl_isDay.f n = some (inB n 0 100000) := by
  unfold impl_isDay.f impl_isDay.fn impl_isDay.top
  rw [impl_within_f]; rfl
theorem impl_isCalibre_f (n : Int) : impl_isCalibre.f n = some (inB n 20 300) := by
  unfold impl_isCalibre.f impl_isCalibre.fn impl_isCalibre.top
  rw [impl_within_f]; rfl
theorem impl_allWithin_f (xs : List Int) (lo hi : Int) (h : xs.length ≤ 140737488355328) : impl_allWithin.f xs lo hi = some (xs.all (inB · lo hi)) := by
  have := all_loop (E := fun _ => True) (inB · lo hi) (fun _ => some true) (fun k xs i => impl_allWithin.l2 NN k lo hi xs xs.length i) ?_ ?_ xs (fun _ _ => trivial) h NN (NN_lt (by omega))
  · unfold impl_allWithin.f impl_allWithin.fn impl_allWithin.top
    refine this.trans ?_
    cases xs.all (inB · lo hi) <;> simp
  · intro k p
    simp [impl_allWithin.l2, impl_allWithin.g2]
  · intro k p a r _ c0 c1 cw
    simp only [impl_allWithin.l2, impl_allWithin.g2, c0, c1, cw, and_self, and_true, true_and, decide_true, decide_false, if_true, if_false, mid_get, mid_set, mid_getn, mid_setn, bt_mid, Option.bind_some, Bool.not_true, Bool.not_false, Bool.false_eq_true, Bool.true_eq_false, beq_self_eq_true, bne_self_eq_false, Int.toNat_natCast, impl_within_f]
    cases inB a lo hi <;> simp
def risB : List Int → Bool
  | [] => true
  | [_] => true
  | a :: b :: r => decide (a < b) && risB (b :: r)
def risF : Int → List Int → Bool
  | _, [] => true
  | a, b :: r => decide (a < b) && risF b r
theorem risB_cons (a : Int) (r : List Int) : risB (a :: r) = risF a r := by
  induction r generalizing a with
  | nil => rfl
  | cons b r ih => simp only [risB, risF, ih]
theorem snoc_getl (p r : List Int) (x a z : Int) : (p ++ [x] ++ a :: r).getD p.length z = x := by simp
theorem impl_IsPermit_loop (f t n c g : Int) : ∀ (r p : List Int) (x : Int) (k : Nat), p.length + r.length + 1 ≤ 140737488355328 → r.length < k →
    impl_IsPermit.l4 NN k ((p.length : Int) + 1) (f, t, n, c, p ++ [x] ++ r, g) = some (risF x r) := by
  intro r
  induction r with
  | nil =>
    intro p x k _ hk
    obtain ⟨k, rfl⟩ : ∃ j, k = j + 1 := ⟨k - 1, by omega⟩
    simp [impl_IsPermit.l4, impl_IsPermit.g4, risF]
  | cons a r ih =>
    intro p x k hb hk
    simp only [List.length_cons] at hb hk
    obtain ⟨k, rfl⟩ : ∃ j, k = j + 1 := ⟨k - 1, by omega⟩
    have hl : ((p ++ [x] ++ a :: r).length : Int) = p.length + r.length + 2 := by simp; omega
    have w1 := w64 (n := (p.length : Int) + 1 - 1) (by omega) (by omega)
    have w2 := w64 (n := (p.length : Int) + 1 + 1) (by omega) (by omega)
    have c1 : (p.length : Int) + 1 < ((p ++ [x] ++ a :: r).length : Int) := by omega
    have c2 : (0 : Int) ≤ (p.length : Int) + 1 - 1 := by omega
    have c3 : (p.length : Int) + 1 - 1 < ((p ++ [x] ++ a :: r).length : Int) := by omega
    have c4 : (0 : Int) ≤ (p.length : Int) + 1 := by omega
    have g1 : (p ++ [x] ++ a :: r).getD ((p.length : Int) + 1).toNat 0 = a := by
      rw [show ((p.length : Int) + 1).toNat = (p ++ [x]).length by simp, mid_getn]
    have g2 : (p ++ [x] ++ a :: r).getD ((p.length : Int) + 1 - 1).toNat 0 = x := by
      rw [show ((p.length : Int) + 1 - 1).toNat = p.length by omega, snoc_getl]
    simp only [impl_IsPermit.l4, impl_IsPermit.g4, w1, w2, c1, c2, c3, c4, g1, g2, and_self, decide_true, if_true, decide_eq_true_eq, risF]
    have := ih (p ++ [x]) a k (by simp; omega) (by omega)
    by_cases h : a ≤ x
    · have h' : ¬ x < a := by omega
      simp [h, h']
    · have h' : x < a := by omega
      simp only [h, h', if_false, decide_true, Bool.true_and]
      rw [← this]
      simp
theorem spec_l01Rises_loop (n : Int) (hn : Rg .i64 (n - 1)) : ∀ (r p : List Int) (x : Int) (k : Nat), p.length + r.length + 1 ≤ 140737488355328 → r.length < k →
    spec_l01Rises.l2 NN k (p ++ [x] ++ r) n ((p.length : Int) + 1) = some (r.all (inB · 0 (n - 1)) && risF x r) := by
  intro r
  induction r with
  | nil =>
    intro p x k _ hk
    obtain ⟨k, rfl⟩ : ∃ j, k = j + 1 := ⟨k - 1, by omega⟩
    simp [spec_l01Rises.l2, spec_l01Rises.g2, risF]
  | cons a r ih =>
    intro p x k hb hk
    simp only [List.length_cons] at hb hk
    obtain ⟨k, rfl⟩ : ∃ j, k = j + 1 := ⟨k - 1, by omega⟩
    have hl : ((p ++ [x] ++ a :: r).length : Int) = p.length + r.length + 2 := by simp; omega
    have w1 := w64 (n := (p.length : Int) + 1 - 1) (by omega) (by omega)
    have w2 := w64 (n := (p.length : Int) + 1 + 1) (by omega) (by omega)
    have hn' := wf64.1 hn
    have w3 := w64 (n := n - 1) (by omega) (by omega)
    have c1 : (p.length : Int) + 1 < ((p ++ [x] ++ a :: r).length : Int) := by omega
    have c2 : (0 : Int) ≤ (p.length : Int) + 1 - 1 := by omega
    have c3 : (p.length : Int) + 1 - 1 < ((p ++ [x] ++ a :: r).length : Int) := by omega
    have c4 : (0 : Int) ≤ (p.length : Int) + 1 := by omega
    have c5 : (0 : Int) < (p.length : Int) + 1 := by omega
    have g1 : (p ++ [x] ++ a :: r).getD ((p.length : Int) + 1).toNat 0 = a := by
      rw [show ((p.length : Int) + 1).toNat = (p ++ [x]).length by simp, mid_getn]
    have g2 : (p ++ [x] ++ a :: r).getD ((p.length : Int) + 1 - 1).toNat 0 = x := by
      rw [show ((p.length : Int) + 1 - 1).toNat = p.length by omega, snoc_getl]
    simp only [spec_l01Rises.l2, spec_l01Rises.g2, w1, w2, w3, c1, c2, c3, c4, c5, g1, g2, and_self, decide_true, if_true, decide_eq_true_eq, risF, spec_l01In_f, Option.bind_some, List.all_cons]
    have := ih (p ++ [x]) a k (by simp; omega) (by omega)
    cases h0 : inB a 0 (n - 1)
    · simp
    by_cases h : a ≤ x
    · have h' : ¬ x < a := by omega
      simp [h, h']
    · have h' : x < a := by omega
      simp only [h, h', if_false, decide_true, Bool.true_and, Bool.not_true, if_true]
      rw [← this]
      simp
theorem spec_l01Rises_f (xs : List Int) (n : Int) (hn : Rg .i64 (n - 1)) (h : xs.length ≤ 140737488355328) : spec_l01Rises.f xs n = some (xs.all (inB · 0 (n - 1)) && risB xs) := by
  unfold spec_l01Rises.f spec_l01Rises.fn spec_l01Rises.top
  obtain ⟨k, hk⟩ : ∃ j, NN = j + 1 := ⟨NN - 1, by have := NNb; omega⟩
  have hkb : 1000000000000000 < k := by rw [NN_eq] at hk; omega
  cases xs with
  | nil => rw [show spec_l01Rises.l2 NN NN = spec_l01Rises.l2 NN (k + 1) by rw [← hk]]; simp [spec_l01Rises.l2, spec_l01Rises.g2, risB]
  | cons a r =>
    simp only [List.length_cons] at h
    have hl := spec_l01Rises_loop n hn r [] a k (by simp; omega) (by omega)
    have hn' := wf64.1 hn
    have w3 := w64 (n := n - 1) (by omega) (by omega)
    have w1 := w64 (n := 0 + 1) (by omega) (by omega)
    have c1 : (0 : Int) < ((a :: r).length : Int) := by simp only [List.length_cons]; omega
    rw [show spec_l01Rises.l2 NN NN = spec_l01Rises.l2 NN (k + 1) by rw [← hk]]
    simp only [spec_l01Rises.l2, spec_l01Rises.g2, c1, w1, w3, spec_l01In_f]
    simp at hl
    simp [risB_cons, hl]
    cases inB a 0 (n - 1) <;> simp
def permB (p : Int × Int × Int × Int × List Int × Int) : Bool :=
  inB p.1 0 100000 && inB p.2.1 p.1 100000 && inB p.2.2.1 0 1000000000 && inB p.2.2.2.1 20 300 && (p.2.2.2.2.1.all (inB · 0 3) && risB p.2.2.2.2.1) && inB p.2.2.2.2.2 0 3
theorem spec_IsPermit_f (p : Int × Int × Int × Int × List Int × Int) (h : p.2.2.2.2.1.length ≤ 140737488355328) : spec_IsPermit.f p = some (permB p) := by
  unfold spec_IsPermit.f spec_IsPermit.fn spec_IsPermit.top permB
  simp only [spec_l01In_f, spec_l01Rises_f _ 4 (wf64.2 (by omega)) h, Option.bind_some, show (4 : Int) - 1 = 3 from rfl]
  cases inB p.1 0 100000 <;> cases inB p.2.1 p.1 100000 <;> cases inB p.2.2.1 0 1000000000 <;> cases inB p.2.2.2.1 20 300 <;> cases (p.2.2.2.2.1.all (inB · 0 3)) <;> cases risB p.2.2.2.2.1 <;> cases inB p.2.2.2.2.2 0 3 <;> rfl
theorem impl_IsPermit_f (p : Int × Int × Int × Int × List Int × Int) (h : p.2.2.2.2.1.length ≤ 140737488355328) : impl_IsPermit.f p = some (permB p) := by
  unfold impl_IsPermit.f impl_IsPermit.fn impl_IsPermit.top permB
  obtain ⟨f, t, n, c, ks, g⟩ := p
  simp only at h
  have hl : impl_IsPermit.l4 NN NN 1 (f, t, n, c, ks, g) = some (risB ks) := by
    cases ks with
    | nil =>
      obtain ⟨k, hk⟩ : ∃ j, NN = j + 1 := ⟨NN - 1, by have := NNb; omega⟩
      rw [show impl_IsPermit.l4 NN NN = impl_IsPermit.l4 NN (k + 1) by rw [← hk]]
      simp [impl_IsPermit.l4, impl_IsPermit.g4, risB]
    | cons a r =>
      simp only [List.length_cons] at h
      have := impl_IsPermit_loop f t n c g r [] a NN (by simp; omega) (NN_lt (by omega))
      simp at this
      rw [risB_cons, ← this]
  simp only [impl_isDay_f, impl_isCalibre_f, impl_within_f, impl_allWithin_f _ _ _ h, Option.bind_some, hl]
  have e : (inB f 0 100000 && inB t f 100000) = (inB f 0 100000 && inB t 0 100000 && !decide (t < f)) := by
    unfold inB
    by_cases h1 : 0 ≤ f <;> by_cases h2 : f ≤ 100000 <;> by_cases h3 : t ≤ 100000 <;> by_cases h4 : f ≤ t <;> by_cases h5 : 0 ≤ t <;> simp [h1, h2, h3, h4, h5] <;> omega
  rw [e]
  cases inB f 0 100000 <;> cases inB t 0 100000 <;> cases decide (t < f) <;> cases inB n 0 1000000000 <;> cases inB c 20 300 <;> cases (ks.all (inB · 0 3)) <;> cases inB g 0 3 <;> simp
abbrev Prm := Int × Int × Int × Int × List Int × Int
def permsL (ps : List Prm) : Bool := decide (ps.length ≤ 8) && ps.all permB
theorem spec_l30All_f (ps : List Prm) (h : ps.length ≤ 1000000) (hk : ∀ p ∈ ps, p.2.2.2.2.1.length ≤ 140737488355328) : spec_l30All.f ps = some (permsL ps) := by
  have := all_loop (E := fun p : Prm => p.2.2.2.2.1.length ≤ 140737488355328) permB (fun p => some (decide (((p.length : Int) : Int) ≤ 8))) (fun k xs i => spec_l30All.l2 NN k xs i) ?_ ?_ ps hk (by omega) NN (NN_lt (by omega))
  · unfold spec_l30All.f spec_l30All.fn spec_l30All.top permsL
    refine this.trans ?_
    have e : decide ((ps.length : Int) ≤ 8) = decide (ps.length ≤ 8) := by congr 1; exact propext (by omega)
    cases ps.all permB <;> simp [e]
  · intro k p
    simp [spec_l30All.l2, spec_l30All.g2]
  · intro k p a r ha c0 c1 cw
    simp only [spec_l30All.l2, spec_l30All.g2, c0, c1, cw, and_self, and_true, true_and, decide_true, decide_false, if_true, if_false, mid_get, mid_set, mid_getn, mid_setn, bt_mid, Option.bind_some, Bool.not_true, Bool.not_false, Bool.false_eq_true, Bool.true_eq_false, beq_self_eq_true, bne_self_eq_false, Int.toNat_natCast, spec_IsPermit_f a ha]
    cases permB a <;> simp
theorem impl_arePermits_f (ps : List Prm) (h : ps.length ≤ 1000000) (hk : ∀ p ∈ ps, p.2.2.2.2.1.length ≤ 140737488355328) : impl_arePermits.f ps = some (permsL ps) := by
  unfold impl_arePermits.f impl_arePermits.fn impl_arePermits.top permsL
  by_cases h8 : (8 : Int) < (ps.length : Int)
  · have : ¬ ps.length ≤ 8 := by omega
    simp [h8, this]
  have e8 : ps.length ≤ 8 := by omega
  simp only [h8, e8, and_self, and_true, true_and, decide_true, decide_false, if_true, if_false, mid_get, mid_set, mid_getn, mid_setn, bt_mid, Option.bind_some, Bool.not_true, Bool.not_false, Bool.false_eq_true, Bool.true_eq_false, beq_self_eq_true, bne_self_eq_false, Int.toNat_natCast]
  have := all_loop (E := fun p : Prm => p.2.2.2.2.1.length ≤ 140737488355328) permB (fun _ => some true) (fun k xs i => impl_arePermits.l4 NN k xs xs.length i) ?_ ?_ ps hk (by omega) NN (NN_lt (by omega))
  · refine this.trans ?_
    cases ps.all permB <;> simp
  · intro k p
    simp [impl_arePermits.l4, impl_arePermits.g4]
  · intro k p a r ha c0 c1 cw
    simp only [impl_arePermits.l4, impl_arePermits.g4, c0, c1, cw, and_self, and_true, true_and, decide_true, decide_false, if_true, if_false, mid_get, mid_set, mid_getn, mid_setn, bt_mid, Option.bind_some, Bool.not_true, Bool.not_false, Bool.false_eq_true, Bool.true_eq_false, beq_self_eq_true, bne_self_eq_false, Int.toNat_natCast, impl_IsPermit_f a ha]
    cases permB a <;> simp
theorem permB_iff {p : Prm} (h : permB p = true) : (0 ≤ p.1 ∧ p.1 ≤ 100000) ∧ (p.1 ≤ p.2.1 ∧ p.2.1 ≤ 100000) := by
  unfold permB at h
  simp only [Bool.and_eq_true, inB_iff] at h
  omega
theorem perms_k {ps : List Prm} (hp : Lm OkPermit ps) : ∀ p ∈ ps, p.2.2.2.2.1.length ≤ 140737488355328 := fun p h => Nat.le_trans (hp.2 p h).2.2.2.2.1.1 (by omega)
def covB (ps : List Prm) (day : Int) : Bool := ps.any fun p => inB day p.1 p.2.1
def nextF (frm : Int) (nx : Int) (p : Prm) : Int := if inB frm p.1 p.2.1 = true then (if p.2.1 + 1 > nx then p.2.1 + 1 else nx) else nx
theorem next_bd (frm : Int) : ∀ (ps : List Prm) (nx : Int), (∀ p ∈ ps, permB p = true) → frm ≤ nx → nx ≤ 100001 → nx ≤ ps.foldl (nextF frm) nx ∧ ps.foldl (nextF frm) nx ≤ 100001 ∧ (covB ps frm = true → frm < ps.foldl (nextF frm) nx) ∧ (covB ps frm = false → ps.foldl (nextF frm) nx = nx) := by
  intro ps
  induction ps with
  | nil => intro nx _ h1 h2; exact ⟨by simp, by simpa using h2, by simp [covB], by simp⟩
  | cons p r ih =>
    intro nx hv h1 h2
    have hp := permB_iff (hv p (by simp))
    have hs : nx ≤ nextF frm nx p ∧ nextF frm nx p ≤ 100001 := by unfold nextF; split <;> (try split) <;> omega
    obtain ⟨k1, k2, k3, k4⟩ := ih (nextF frm nx p) (fun x hx => hv x (by simp [hx])) (by omega) hs.2
    rw [List.foldl_cons]
    refine ⟨by omega, k2, fun h => ?_, fun h => ?_⟩
    · simp only [covB, List.any_cons, Bool.or_eq_true] at h
      rcases h with h | h
      · have : frm < nextF frm nx p := by
          unfold nextF
          rw [if_pos h]
          have := inB_iff.1 h
          split <;> omega
        omega
      · exact k3 h
    · simp only [covB, List.any_cons, Bool.or_eq_false_iff] at h
      have : nextF frm nx p = nx := by unfold nextF; rw [h.1]; simp
      rw [k4 h.2, this]
theorem impl_covers_in (ps : List Prm) (frm to : Int) (L : List Prm → Int → Int → Option Bool) (hv : ∀ p ∈ ps, permB p = true) (hl : ps.length ≤ 1000000) (hf : 0 ≤ frm ∧ frm ≤ 100000) :
    impl_covers.l4 NN L NN ps frm to frm ps ps.length 0 = if ps.foldl (nextF frm) frm = frm then some false else L ps (ps.foldl (nextF frm) frm) to := by
  have := (fold_fix (E := fun p : Prm => permB p = true) (fun _ nx => frm ≤ nx ∧ nx ≤ 100001) (fun _ => nextF frm) (fun nx => if nx = frm then some false else L ps nx to) (fun k i nx => impl_covers.l4 NN L k ps frm to nx ps ps.length i) ps ?_ ?_ frm hv (by omega) (by omega) NN (NN_lt (by omega))).2
  · rw [foldi_foldl] at this
    exact this
  · intro k nx _
    simp only [impl_covers.l4, impl_covers.g4, Int.lt_irrefl, and_self, and_true, true_and, decide_true, decide_false, if_true, if_false, mid_get, mid_set, mid_getn, mid_setn, bt_mid, Option.bind_some, Bool.not_true, Bool.not_false, Bool.false_eq_true, Bool.true_eq_false, beq_self_eq_true, bne_self_eq_false, Int.toNat_natCast]
    by_cases h : nx = frm <;> simp [h]
  · intro k q p r nx hx hp hI c0 c1 c2 cw g
    have hb := permB_iff hp
    have w1 := w64 (n := p.2.1 + 1) (by omega) (by omega)
    refine ⟨by unfold nextF; split <;> (try split) <;> omega, ?_⟩
    simp only [impl_covers.l4, impl_covers.g4, c0, c1, cw, and_self, and_true, true_and, decide_true, decide_false, if_true, if_false, mid_get, mid_set, mid_getn, mid_setn, bt_mid, Option.bind_some, Bool.not_true, Bool.not_false, Bool.false_eq_true, Bool.true_eq_false, beq_self_eq_true, bne_self_eq_false, Int.toNat_natCast, g, impl_within_f, w1]
    unfold nextF
    cases inB frm p.1 p.2.1 <;> simp
def cntD (ps : List Prm) : Nat → Int → Int
  | 0, _ => 0
  | d + 1, day => (if covB ps day = true then 1 else 0) + cntD ps d (day + 1)
theorem cntD_bd (ps : List Prm) : ∀ (d : Nat) (day : Int), 0 ≤ cntD ps d day ∧ cntD ps d day ≤ d := by
  intro d
  induction d with
  | zero => intro day; simp [cntD]
  | succ d ih => intro day; have := ih (day + 1); simp only [cntD]; split <;> omega
def daysB (frm to : Int) : Bool := inB frm 0 100000 && inB to frm 100000
theorem impl_areDays_f (frm to : Int) : impl_areDays.f frm to = some (daysB frm to) := by
  unfold impl_areDays.f impl_areDays.fn impl_areDays.top daysB
  rw [impl_isDay_f, impl_isDay_f]
  unfold inB
  by_cases h1 : 0 ≤ frm <;> by_cases h2 : frm ≤ 100000 <;> by_cases h3 : 0 ≤ to <;> by_cases h4 : to ≤ 100000 <;> by_cases h5 : frm ≤ to <;> simp [h1, h2, h3, h4, h5] <;> omega
theorem spec_l30Days_f (ps : List Prm) (frm to : Int) (h : ps.length ≤ 1000000) (hk : ∀ p ∈ ps, p.2.2.2.2.1.length ≤ 140737488355328) : spec_l30Days.f ps frm to = some (if permsL ps = true then (if daysB frm to = true then 0 else 2) else 1) := by
  unfold spec_l30Days.f spec_l30Days.fn spec_l30Days.top daysB
  rw [spec_l30All_f ps h hk, spec_l01In_f, spec_l01In_f]
  cases permsL ps
  · rfl
  cases inB frm 0 100000
  · rfl
  cases inB to frm 100000 <;> rfl
theorem permsL_ok {ps : List Prm} (h : permsL ps = true) : ps.length ≤ 8 ∧ ∀ p ∈ ps, permB p = true := by
  unfold permsL at h
  simp only [Bool.and_eq_true, decide_eq_true_eq, List.all_eq_true] at h
  exact h
theorem daysB_iff {frm to : Int} (h : daysB frm to = true) : 0 ≤ frm ∧ frm ≤ to ∧ to ≤ 100000 := by
  unfold daysB at h
  simp only [Bool.and_eq_true, inB_iff] at h
  omega
theorem NN0 : 0 < NN := by have := NNb; omega
def cvB (ps : List Prm) (frm to : Int) : Bool := decide (cntD ps (to + 1 - frm).toNat frm = ((to + 1 - frm).toNat : Int))
theorem cntD_full (ps : List Prm) : ∀ (d : Nat) (day : Int), cntD ps d day = (d : Int) ↔ ∀ e, day ≤ e → e < day + d → covB ps e = true := by
  intro d
  induction d with
  | zero => intro day; simp only [cntD]; exact ⟨fun _ e h1 h2 => by omega, fun _ => rfl⟩
  | succ d ih =>
    intro day
    have hb := cntD_bd ps d (day + 1)
    have i := ih (day + 1)
    simp only [cntD]
    constructor
    · intro h
      have hc : covB ps day = true := by
        cases q : covB ps day
        · rw [q] at h; simp at h; omega
        · rfl
      rw [hc] at h
      simp only [if_true] at h
      have h2 := i.1 (by omega)
      intro e h3 h4
      by_cases he : e = day
      · rw [he]; exact hc
      · exact h2 e (by omega) (by omega)
    · intro h
      have hc := h day (by omega) (by omega)
      rw [hc]
      simp only [if_true]
      have := i.2 (fun e h3 h4 => h e (by omega) (by omega))
      omega
theorem cvB_iff (ps : List Prm) (frm to : Int) : cvB ps frm to = true ↔ ∀ e, frm ≤ e → e ≤ to → covB ps e = true := by
  unfold cvB
  rw [decide_eq_true_eq, cntD_full]
  exact ⟨fun h e h1 h2 => h e h1 (by omega), fun h e h1 h2 => h e h1 (by omega)⟩
theorem next_cov (frm : Int) : ∀ (ps : List Prm) (nx : Int) (e : Int), frm ≤ e → e < ps.foldl (nextF frm) nx → e < nx ∨ covB ps e = true := by
  intro ps
  induction ps with
  | nil => intro nx e _ h; exact .inl h
  | cons p r ih =>
    intro nx e h1 h2
    rw [List.foldl_cons] at h2
    unfold covB
    rw [List.any_cons]
    rcases ih _ e h1 h2 with h | h
    · unfold nextF at h
      split at h
      · rename_i hp
        have hb := inB_iff.1 hp
        split at h
        · right
          rw [Bool.or_eq_true]; left
          exact inB_iff.2 (by omega)
        · exact .inl h
      · exact .inl h
    · right
      rw [Bool.or_eq_true]; right; exact h
theorem cvB_jump (ps : List Prm) (frm to : Int) (h : frm < ps.foldl (nextF frm) frm) : cvB ps frm to = cvB ps (ps.foldl (nextF frm) frm) to := by
  rw [Bool.eq_iff_iff, cvB_iff, cvB_iff]
  constructor
  · intro k e h1 h2; exact k e (by omega) h2
  · intro k e h1 h2
    by_cases he : e < ps.foldl (nextF frm) frm
    · rcases next_cov frm ps frm e h1 he with q | q
      · omega
      · exact q
    · exact k e (by omega) h2
theorem cvB_stop (ps : List Prm) (frm to : Int) (hv : ∀ p ∈ ps, permB p = true) (h0 : 0 ≤ frm ∧ frm ≤ to ∧ to ≤ 100000) (h : ps.foldl (nextF frm) frm = frm) : cvB ps frm to = false := by
  obtain ⟨_, _, h3, _⟩ := next_bd frm ps frm hv (by omega) (by omega)
  cases q : cvB ps frm to
  · rfl
  · have := h3 ((cvB_iff ps frm to).1 q frm (by omega) (by omega))
    omega
theorem cvB_none (ps : List Prm) (frm to : Int) (h : ¬ frm ≤ to) : cvB ps frm to = true := (cvB_iff ps frm to).2 fun e h1 h2 => by omega
theorem impl_covers_l (ps : List Prm) (to : Int) (hv : ∀ p ∈ ps, permB p = true) (hl : ps.length ≤ 1000000) (ht : to ≤ 100000) : ∀ (d : Nat) (frm : Int) (k : Nat), to + 1 - frm ≤ d → 0 ≤ frm → d < k → impl_covers.l1 NN k ps frm to = some (cvB ps frm to) := by
  intro d
  induction d with
  | zero =>
    intro frm k h1 h0 hk
    obtain ⟨k, rfl⟩ : ∃ j, k = j + 1 := ⟨k - 1, by omega⟩
    have q : ¬ frm ≤ to := by omega
    simp only [impl_covers.l1, impl_covers.g1, q, and_self, and_true, true_and, decide_true, decide_false, if_true, if_false, mid_get, mid_set, mid_getn, mid_setn, bt_mid, Option.bind_some, Bool.not_true, Bool.not_false, Bool.false_eq_true, Bool.true_eq_false, beq_self_eq_true, bne_self_eq_false, Int.toNat_natCast, cvB_none ps frm to q]
  | succ d ih =>
    intro frm k h1 h0 hk
    obtain ⟨k, rfl⟩ : ∃ j, k = j + 1 := ⟨k - 1, by omega⟩
    by_cases q : frm ≤ to
    · obtain ⟨n1, n2, _, _⟩ := next_bd frm ps frm hv (by omega) (by omega)
      simp only [impl_covers.l1, impl_covers.g1, q, and_self, and_true, true_and, decide_true, decide_false, if_true, if_false, mid_get, mid_set, mid_getn, mid_setn, bt_mid, Option.bind_some, Bool.not_true, Bool.not_false, Bool.false_eq_true, Bool.true_eq_false, beq_self_eq_true, bne_self_eq_false, Int.toNat_natCast]
      rw [impl_covers_in ps frm to _ hv hl (by omega)]
      by_cases e : ps.foldl (nextF frm) frm = frm
      · rw [if_pos e, cvB_stop ps frm to hv (by omega) e]
      · rw [if_neg e, ih _ k (by omega) (by omega) (by omega), ← cvB_jump ps frm to (by omega)]
    · simp only [impl_covers.l1, impl_covers.g1, q, and_self, and_true, true_and, decide_true, decide_false, if_true, if_false, mid_get, mid_set, mid_getn, mid_setn, bt_mid, Option.bind_some, Bool.not_true, Bool.not_false, Bool.false_eq_true, Bool.true_eq_false, beq_self_eq_true, bne_self_eq_false, Int.toNat_natCast, cvB_none ps frm to q]
theorem impl_covers_f (ps : List Prm) (frm to : Int) (hv : ∀ p ∈ ps, permB p = true) (hl : ps.length ≤ 1000000) (h : 0 ≤ frm ∧ frm ≤ to ∧ to ≤ 100000) : impl_covers.f ps frm to = some (cvB ps frm to) := by
  unfold impl_covers.f impl_covers.fn impl_covers.top
  exact impl_covers_l ps to hv hl h.2.2 (to + 1 - frm).toNat frm NN (by omega) h.1 (NN_lt (by omega))
def chs (ps : List Prm) (l : List Int) : List Prm := l.map fun i => ps.getD i.toNat (0, (0, (0, (0, ([], 0)))))
theorem chs_ok {ps : List Prm} {l : List Int} (hi : ∀ i ∈ l, 0 ≤ i ∧ i < (ps.length : Int)) {P : Prm → Prop} (hv : ∀ p ∈ ps, P p) : ∀ p ∈ chs ps l, P p := fun p hp => by
  obtain ⟨i, h1, rfl⟩ := List.mem_map.1 hp
  have h2 := hi i h1
  refine hv _ ?_
  rw [List.getD_eq_getElem?_getD, List.getElem?_eq_getElem (show i.toNat < ps.length by omega)]; exact List.getElem_mem _
def lastF (day : Int) (la : Int) (p : Prm) : Int := if inB day p.1 p.2.1 = true then (if p.2.1 > la then p.2.1 else la) else la
theorem last_next (day : Int) : ∀ (ps : List Prm) (la : Int), ps.foldl (lastF day) la + 1 = ps.foldl (nextF day) (la + 1) := by
  intro ps
  induction ps with
  | nil => intro la; rfl
  | cons p r ih =>
    intro la
    rw [List.foldl_cons, List.foldl_cons, ih]
    congr 1
    unfold lastF nextF
    split
    · split <;> split <;> omega
    · rfl
theorem spec_cover_in (ps : List Prm) (l : List Int) (day to : Int) (L : List Prm → List Int → Int → Int → Option Bool) (hv : ∀ p ∈ ps, permB p = true) (hi : ∀ i ∈ l, 0 ≤ i ∧ i < (ps.length : Int)) (hl : l.length ≤ 1000000) (hf : 0 ≤ day ∧ day ≤ 100000) :
    spec_l30Cover.l5 NN L NN ps l to day (day - 1) 0 = if (chs ps l).foldl (nextF day) day = day then some false else L ps l to ((chs ps l).foldl (nextF day) day) := by
  have := (fold_fix (E := fun i : Int => 0 ≤ i ∧ i < (ps.length : Int)) (fun _ la => day - 1 ≤ la ∧ la ≤ 100000) (fun _ la i => lastF day la (ps.getD i.toNat (0, (0, (0, (0, ([], 0))))))) (fun la => if la + 1 = day then some false else L ps l to (la + 1)) (fun k i la => spec_l30Cover.l5 NN L k ps l to day la i) l ?_ ?_ (day - 1) hi (by omega) (by omega) NN (NN_lt (by omega))).2
  · rw [foldi_foldl] at this
    have e : l.foldl (fun la i => lastF day la (ps.getD i.toNat (0, (0, (0, (0, ([], 0))))))) (day - 1) = (chs ps l).foldl (lastF day) (day - 1) := by
      unfold chs; rw [List.foldl_map]
    rw [e, last_next day (chs ps l) (day - 1), show day - 1 + 1 = day by omega] at this
    exact this
  · intro k la hI
    simp only [spec_l30Cover.l5, spec_l30Cover.g5, Int.lt_irrefl, and_self, and_true, true_and, decide_true, decide_false, if_true, if_false, mid_get, mid_set, mid_getn, mid_setn, bt_mid, Option.bind_some, Bool.not_true, Bool.not_false, Bool.false_eq_true, Bool.true_eq_false, beq_self_eq_true, bne_self_eq_false, Int.toNat_natCast]
    have w1 := w64 (n := la + 1) (by omega) (by omega)
    by_cases h : la + 1 = day
    · have h2 : la < day := by omega
      simp [h, h2]
    · have h2 : ¬ la < day := by omega
      simp [h, h2, w1]
  · intro k q i r la hx hp hI c0 c1 c2 cw g
    have hpb : permB (ps.getD i.toNat (0, (0, (0, (0, ([], 0)))))) = true := hv _ (by
      rw [List.getD_eq_getElem?_getD, List.getElem?_eq_getElem (show i.toNat < ps.length by omega)]; exact List.getElem_mem _)
    have hb := permB_iff hpb
    refine ⟨by unfold lastF; split <;> (try split) <;> omega, ?_⟩
    simp only [spec_l30Cover.l5, spec_l30Cover.g5, c0, c1, cw, and_self, and_true, true_and, decide_true, decide_false, if_true, if_false, mid_get, mid_set, mid_getn, mid_setn, bt_mid, Option.bind_some, Bool.not_true, Bool.not_false, Bool.false_eq_true, Bool.true_eq_false, beq_self_eq_true, bne_self_eq_false, Int.toNat_natCast, g, hp.1, hp.2, spec_l01In_f]
    unfold lastF
    cases inB day (ps.getD i.toNat (0, (0, (0, (0, ([], 0)))))).1 (ps.getD i.toNat (0, (0, (0, (0, ([], 0)))))).2.1 <;> simp
theorem spec_cover_l (ps : List Prm) (l : List Int) (to : Int) (hv : ∀ p ∈ ps, permB p = true) (hi : ∀ i ∈ l, 0 ≤ i ∧ i < (ps.length : Int)) (hl : l.length ≤ 1000000) (ht : to ≤ 100000) : ∀ (d : Nat) (frm : Int) (k : Nat), to + 1 - frm ≤ d → 0 ≤ frm → d < k → spec_l30Cover.l2 NN k ps l to frm = some (cvB (chs ps l) frm to) := by
  have hv2 := chs_ok hi hv
  intro d
  induction d with
  | zero =>
    intro frm k h1 h0 hk
    obtain ⟨k, rfl⟩ : ∃ j, k = j + 1 := ⟨k - 1, by omega⟩
    have q : ¬ frm ≤ to := by omega
    simp only [spec_l30Cover.l2, spec_l30Cover.g2, q, and_self, and_true, true_and, decide_true, decide_false, if_true, if_false, mid_get, mid_set, mid_getn, mid_setn, bt_mid, Option.bind_some, Bool.not_true, Bool.not_false, Bool.false_eq_true, Bool.true_eq_false, beq_self_eq_true, bne_self_eq_false, Int.toNat_natCast, cvB_none _ frm to q]
  | succ d ih =>
    intro frm k h1 h0 hk
    obtain ⟨k, rfl⟩ : ∃ j, k = j + 1 := ⟨k - 1, by omega⟩
    by_cases q : frm ≤ to
    · obtain ⟨n1, n2, _, _⟩ := next_bd frm (chs ps l) frm hv2 (by omega) (by omega)
      have w := w64 (n := frm - 1) (by omega) (by omega)
      simp only [spec_l30Cover.l2, spec_l30Cover.g2, q, and_self, and_true, true_and, decide_true, decide_false, if_true, if_false, mid_get, mid_set, mid_getn, mid_setn, bt_mid, Option.bind_some, Bool.not_true, Bool.not_false, Bool.false_eq_true, Bool.true_eq_false, beq_self_eq_true, bne_self_eq_false, Int.toNat_natCast, w]
      rw [spec_cover_in ps l frm to _ hv hi hl (by omega)]
      by_cases e : (chs ps l).foldl (nextF frm) frm = frm
      · rw [if_pos e, cvB_stop (chs ps l) frm to hv2 (by omega) e]
      · rw [if_neg e, ih _ k (by omega) (by omega) (by omega), ← cvB_jump (chs ps l) frm to (by omega)]
    · simp only [spec_l30Cover.l2, spec_l30Cover.g2, q, and_self, and_true, true_and, decide_true, decide_false, if_true, if_false, mid_get, mid_set, mid_getn, mid_setn, bt_mid, Option.bind_some, Bool.not_true, Bool.not_false, Bool.false_eq_true, Bool.true_eq_false, beq_self_eq_true, bne_self_eq_false, Int.toNat_natCast, cvB_none _ frm to q]
theorem spec_l30Cover_f (ps : List Prm) (l : List Int) (frm to : Int) (hv : ∀ p ∈ ps, permB p = true) (hi : ∀ i ∈ l, 0 ≤ i ∧ i < (ps.length : Int)) (hl : l.length ≤ 1000000) (h : 0 ≤ frm ∧ frm ≤ to ∧ to ≤ 100000) : spec_l30Cover.f ps l frm to = some (cvB (chs ps l) frm to) := by
  unfold spec_l30Cover.f spec_l30Cover.fn spec_l30Cover.top
  exact spec_cover_l ps l to hv hi hl h.2.2 (to + 1 - frm).toNat frm NN (by omega) h.1 (NN_lt (by omega))
def lst (n : Nat) : Nat → Nat → List (List Int)
  | 0, _ => [[]]
  | k + 1, f => (List.range' f (n - f)).flatMap fun i => (lst n k (i + 1)).map ((i : Int) :: ·)
theorem flat_len {α : Type} (g : Nat → List α) (M : Nat) : ∀ (is : List Nat), (∀ i ∈ is, (g i).length ≤ M) → (is.flatMap g).length ≤ is.length * M := by
  intro is
  induction is with
  | nil => intro _; simp
  | cons i r ih =>
    intro h
    have h1 := h i (by simp)
    have h2 := ih (fun j hj => h j (by simp [hj]))
    rw [List.flatMap_cons, List.length_append, List.length_cons, Nat.succ_mul]
    omega
theorem lst_len (n : Nat) (hn : n ≤ 8) : ∀ (k f : Nat), (lst n k f).length ≤ 8 ^ k := by
  intro k
  induction k with
  | zero => intro f; simp [lst]
  | succ k ih =>
    intro f
    simp only [lst]
    refine Nat.le_trans (flat_len _ (8 ^ k) _ (fun i _ => by simpa using ih (i + 1))) ?_
    rw [List.length_range', Nat.pow_succ, Nat.mul_comm (8 ^ k) 8]
    exact Nat.mul_le_mul_right _ (by omega)
theorem mem_lst (n : Nat) : ∀ (k f : Nat) (l : List Int), l ∈ lst n k f ↔ l.length = k ∧ l.Pairwise (· < ·) ∧ ∀ x ∈ l, (f : Int) ≤ x ∧ x < (n : Int) := by
  intro k
  induction k with
  | zero =>
    intro f l
    simp only [lst, List.mem_singleton]
    constructor
    · rintro rfl; simp
    · intro h; exact List.length_eq_zero_iff.1 h.1
  | succ k ih =>
    intro f l
    simp only [lst, List.mem_flatMap, List.mem_map, List.mem_range'_1]
    constructor
    · rintro ⟨i, ⟨h1, h2⟩, r, h3, rfl⟩
      obtain ⟨q1, q2, q3⟩ := (ih (i + 1) r).1 h3
      refine ⟨by simp [q1], List.pairwise_cons.2 ⟨fun x hx => by have := q3 x hx; omega, q2⟩, fun x hx => ?_⟩
      rcases List.mem_cons.1 hx with rfl | hx
      · omega
      · have := q3 x hx; omega
    · rintro ⟨h1, h2, h3⟩
      cases l with
      | nil => simp at h1
      | cons a r =>
        obtain ⟨p1, p2⟩ := List.pairwise_cons.1 h2
        have ha := h3 a (by simp)
        refine ⟨a.toNat, by omega, r, (ih _ r).2 ⟨by simpa using h1, p2, fun x hx => ?_⟩, by rw [show ((a.toNat : Nat) : Int) = a by omega]⟩
        have := p1 x hx
        have := h3 x (by simp [hx])
        omega
theorem fold_snoc {α β : Type} (g : α → β) : ∀ (R : List α) (out : List β), R.foldl (fun o r => o ++ [g r]) out = out ++ R.map g := by
  intro R
  induction R with
  | nil => intro out; simp
  | cons a r ih => intro out; rw [List.foldl_cons, ih]; simp
theorem listsOf_in (S : Int → Int → Int → Option (List (List Int))) (n more : Int) (i : Nat) (L5 : Int → Int → Int → List (List Int) → Option (List (List Int))) (R out : List (List Int)) (hR : ∀ r ∈ R, r.length ≤ 100) (hl : out.length + R.length ≤ 1000000000) :
    impl_listsOf.l8 S NN L5 NN n more i R.length 0 out R = L5 n more (IntKind.i64.wrap ((i : Int) + 1)) (out ++ R.map ((i : Int) :: ·)) := by
  have := (fold_fix (E := fun r : List Int => r.length ≤ 100) (fun p (o : List (List Int)) => o.length = out.length + p.length) (fun _ o r => o ++ [(i : Int) :: r]) (fun o => L5 n more (IntKind.i64.wrap ((i : Int) + 1)) o) (fun k j o => impl_listsOf.l8 S NN L5 k n more i R.length j o R) R ?_ ?_ out hR (by simp) (by omega) NN (NN_lt (by omega))).2
  · rw [foldi_foldl, fold_snoc] at this
    exact this
  · intro k o _
    simp only [impl_listsOf.l8, impl_listsOf.g8, Int.lt_irrefl, and_self, and_true, true_and, decide_true, decide_false, if_true, if_false, mid_get, mid_set, mid_getn, mid_setn, bt_mid, Option.bind_some, Bool.not_true, Bool.not_false, Bool.false_eq_true, Bool.true_eq_false, beq_self_eq_true, bne_self_eq_false, Int.toNat_natCast]
  · intro k p a r o hx ha hI c0 c1 c2 cw g
    have hlr : p.length < R.length := by rw [hx]; simp
    refine ⟨by simp [hI]; omega, ?_⟩
    simp only [impl_listsOf.l8, impl_listsOf.g8, c0, c1, and_self, and_true, true_and, decide_true, decide_false, if_true, if_false, mid_get, mid_set, mid_getn, mid_setn, bt_mid, Option.bind_some, Bool.not_true, Bool.not_false, Bool.false_eq_true, Bool.true_eq_false, beq_self_eq_true, bne_self_eq_false, Int.toNat_natCast, g]
    rw [impl_listsOf.c1000010 S NN0]
    unfold impl_listsOf.g1000010
    rw [if_pos (by rw [room8]; simp; omega), if_pos (by rw [room24]; simp; omega), cw]
    rfl
theorem len_mem {n k f : Nat} {l : List Int} (h : l ∈ lst n k f) : l.length = k := ((mem_lst n k f l).1 h).1
theorem pow8 {k : Nat} (h : k ≤ 8) : 8 ^ k ≤ 16777216 := Nat.le_trans (Nat.pow_le_pow_right (by omega) h) (by decide)
theorem impl_listsOf_rc (n : Nat) (hn : n ≤ 8) : ∀ (more : Nat), more ≤ 8 → ∀ (j f : Nat), more < j → f ≤ n → impl_listsOf.rc j n f more = some (lst n more f) := by
  intro more
  induction more with
  | zero =>
    intro _ j f hj _
    obtain ⟨j, rfl⟩ : ∃ i, j = i + 1 := ⟨j - 1, by omega⟩
    simp [impl_listsOf.rc, impl_listsOf.fn, impl_listsOf.top, lst]
  | succ more ih =>
    intro hm j f hj hf
    obtain ⟨j, rfl⟩ : ∃ i, j = i + 1 := ⟨j - 1, by omega⟩
    have w := w64 (n := ((more + 1 : Nat) : Int) - 1) (by omega) (by omega)
    have key : ∀ (d i k : Nat) (out : List (List Int)), i + d = n → d < k → out.length + d * 8 ^ more ≤ 500000000 → impl_listsOf.l5 (impl_listsOf.rc j) NN k n ((more + 1 : Nat) : Int) i out = some (out ++ (List.range' i d).flatMap fun i => (lst n more (i + 1)).map ((i : Int) :: ·)) := by
      intro d
      induction d with
      | zero =>
        intro i k out h1 hk _
        obtain ⟨k, rfl⟩ : ∃ j, k = j + 1 := ⟨k - 1, by omega⟩
        have q : ¬ (i : Int) < (n : Int) := by omega
        simp only [impl_listsOf.l5, impl_listsOf.g5, q, and_self, and_true, true_and, decide_true, decide_false, if_true, if_false, mid_get, mid_set, mid_getn, mid_setn, bt_mid, Option.bind_some, Bool.not_true, Bool.not_false, Bool.false_eq_true, Bool.true_eq_false, beq_self_eq_true, bne_self_eq_false, Int.toNat_natCast, List.range'_zero, List.flatMap_nil, List.append_nil]
      | succ d ihd =>
        intro i k out h1 hk hl
        obtain ⟨k, rfl⟩ : ∃ j, k = j + 1 := ⟨k - 1, by omega⟩
        have q : (i : Int) < (n : Int) := by omega
        have w1 := w64 (n := (i : Int) + 1) (by omega) (by omega)
        have hs := ih (by omega) j (i + 1) (by omega) (by omega)
        have hll := lst_len n hn more (i + 1)
        rw [show ((i + 1 : Nat) : Int) = (i : Int) + 1 by omega] at hs
        rw [Nat.succ_mul] at hl
        simp only [impl_listsOf.l5, impl_listsOf.g5, q, and_self, and_true, true_and, decide_true, decide_false, if_true, if_false, mid_get, mid_set, mid_getn, mid_setn, bt_mid, Option.bind_some, Bool.not_true, Bool.not_false, Bool.false_eq_true, Bool.true_eq_false, beq_self_eq_true, bne_self_eq_false, Int.toNat_natCast, w1]
        rw [show IntKind.i64.wrap (((more + 1 : Nat) : Int) - 1) = (more : Int) by rw [w]; omega, hs]
        simp only [Option.bind_some]
        rw [listsOf_in (impl_listsOf.rc j) n _ i _ _ _ (fun r hr => by rw [len_mem hr]; omega) (by omega), w1]
        have := ihd (i + 1) k (out ++ (lst n more (i + 1)).map ((i : Int) :: ·)) (by omega) (by omega) (by simp; omega)
        rw [show ((i + 1 : Nat) : Int) = (i : Int) + 1 by omega] at this
        rw [this, List.range'_succ, List.flatMap_cons, List.append_assoc]
    have hp := pow8 (show more ≤ 8 by omega)
    have := key (n - f) f NN [] (by omega) (NN_lt (by omega)) (by
      have : (n - f) * 8 ^ more ≤ 8 * 16777216 := Nat.mul_le_mul (by omega) hp
      simp; omega)
    have q : (((more + 1 : Nat) : Int) == 0) = false := by rw [beq_eq_false_iff_ne]; omega
    simp only [impl_listsOf.rc, impl_listsOf.fn, impl_listsOf.top, q, Bool.false_eq_true, if_false, lst]
    rw [this, List.nil_append]
theorem impl_listsOf_f (n : Nat) (hn : n ≤ 8) (more : Nat) (hm : more ≤ 8) : impl_listsOf.f n 0 more = some (lst n more 0) := impl_listsOf_rc n hn more hm NN 0 (NN_lt (by omega)) (by omega)
theorem own_f (xs : List Int) (h : xs.length ≤ 1000000) : spec_l01Own.f xs = some xs := by
  unfold spec_l01Own.f spec_l01Own.fn spec_l01Own.top
  rw [if_pos (by rw [room8]; simp; omega), List.nil_append]
theorem spec_lists_rc (n : Nat) (hn : n ≤ 8) : ∀ (more : Nat), more ≤ 8 → ∀ (j f : Nat) (bg : List Int), more < j → f ≤ n → bg.length ≤ 1000 - more → spec_l19Lists.rc j n f more bg = some ((lst n more f).map (bg ++ ·)) := by
  intro more
  induction more with
  | zero =>
    intro _ j f bg hj _ _
    obtain ⟨j, rfl⟩ : ∃ i, j = i + 1 := ⟨j - 1, by omega⟩
    simp [spec_l19Lists.rc, spec_l19Lists.fn, spec_l19Lists.top, lst]
  | succ more ih =>
    intro hm j f bg hj hf hbg
    obtain ⟨j, rfl⟩ : ∃ i, j = i + 1 := ⟨j - 1, by omega⟩
    have w := w64 (n := ((more + 1 : Nat) : Int) - 1) (by omega) (by omega)
    have key : ∀ (d i k : Nat) (out : List (List Int)), i + d = n → d < k → out.length + d * 8 ^ more ≤ 500000000 → spec_l19Lists.l5 (spec_l19Lists.rc j) NN k n ((more + 1 : Nat) : Int) bg i out = some (out ++ ((List.range' i d).flatMap fun i => (lst n more (i + 1)).map ((i : Int) :: ·)).map (bg ++ ·)) := by
      intro d
      induction d with
      | zero =>
        intro i k out h1 hk _
        obtain ⟨k, rfl⟩ : ∃ j, k = j + 1 := ⟨k - 1, by omega⟩
        have q : ¬ (i : Int) < (n : Int) := by omega
        simp only [spec_l19Lists.l5, spec_l19Lists.g5, q, and_self, and_true, true_and, decide_true, decide_false, if_true, if_false, mid_get, mid_set, mid_getn, mid_setn, bt_mid, Option.bind_some, Bool.not_true, Bool.not_false, Bool.false_eq_true, Bool.true_eq_false, beq_self_eq_true, bne_self_eq_false, Int.toNat_natCast, List.range'_zero, List.flatMap_nil, List.map_nil, List.append_nil]
      | succ d ihd =>
        intro i k out h1 hk hl
        obtain ⟨k, rfl⟩ : ∃ j, k = j + 1 := ⟨k - 1, by omega⟩
        have q : (i : Int) < (n : Int) := by omega
        have w1 := w64 (n := (i : Int) + 1) (by omega) (by omega)
        have hs := ih (by omega) j (i + 1) (bg ++ [(i : Int)]) (by omega) (by omega) (by simp; omega)
        have hll := lst_len n hn more (i + 1)
        have hp := pow8 (show more ≤ 8 by omega)
        rw [show ((i + 1 : Nat) : Int) = (i : Int) + 1 by omega] at hs
        rw [Nat.succ_mul] at hl
        simp only [spec_l19Lists.l5, spec_l19Lists.g5, q, and_self, and_true, true_and, decide_true, decide_false, if_true, if_false, mid_get, mid_set, mid_getn, mid_setn, bt_mid, Option.bind_some, Bool.not_true, Bool.not_false, Bool.false_eq_true, Bool.true_eq_false, beq_self_eq_true, bne_self_eq_false, Int.toNat_natCast, w1]
        rw [own_f bg (by omega)]
        simp only [Option.bind_some]
        rw [if_pos (by rw [room8]; simp; omega), show IntKind.i64.wrap (((more + 1 : Nat) : Int) - 1) = (more : Int) by rw [w]; omega, hs]
        simp only [Option.bind_some]
        rw [if_pos (by rw [room24]; simp; omega)]
        have := ihd (i + 1) k (out ++ (lst n more (i + 1)).map ((bg ++ [(i : Int)]) ++ ·)) (by omega) (by omega) (by simp; omega)
        rw [show ((i + 1 : Nat) : Int) = (i : Int) + 1 by omega] at this
        rw [this, List.range'_succ, List.flatMap_cons, List.map_append, List.map_map, List.append_assoc]
        simp
    have hp := pow8 (show more ≤ 8 by omega)
    have := key (n - f) f NN [] (by omega) (NN_lt (by omega)) (by
      have : (n - f) * 8 ^ more ≤ 8 * 16777216 := Nat.mul_le_mul (by omega) hp
      simp; omega)
    have q : (((more + 1 : Nat) : Int) == 0) = false := by rw [beq_eq_false_iff_ne]; omega
    simp only [spec_l19Lists.rc, spec_l19Lists.fn, spec_l19Lists.top, q, Bool.false_eq_true, if_false, lst]
    rw [this, List.nil_append]
theorem spec_l19Lists_f (n : Nat) (hn : n ≤ 8) (more : Nat) (hm : more ≤ 8) : spec_l19Lists.f n 0 more [] = some (lst n more 0) := by
  have := spec_lists_rc n hn more hm NN 0 [] (NN_lt (by omega)) (by omega) (by simp)
  rw [show (lst n more 0).map (([] : List Int) ++ ·) = lst n more 0 by simp] at this
  exact this
def fewL (ps : List Prm) (frm to : Int) : Nat → Nat → List Int × Int
  | 0, _ => ([], 4)
  | d + 1, k => (firstOf (fun l => cvB (chs ps l) frm to) 0 (lst ps.length k 0)).elim (fewL ps frm to d (k + 1)) (fun x => (x.2, 0))
def fewR (ps : List Prm) (frm to : Int) : List Int × Int := if permsL ps = true then (if daysB frm to = true then fewL ps frm to ps.length 1 else ([], 2)) else ([], 1)
theorem impl_few_in (ps : List Prm) (frm to more : Int) (L6 : List Prm → Int → Int → Int → Option (List Int × Int)) (L9 : List Prm → Int → Int → Int → Int → Int → List (List Int) → Option (List Int × Int)) (l : List Int) (v31 v32 : Int) (v30 : List (List Int))
    (hv : ∀ p ∈ ps, permB p = true) (hi : ∀ i ∈ l, 0 ≤ i ∧ i < (ps.length : Int)) (hl : l.length ≤ 1000) (h : 0 ≤ frm ∧ frm ≤ to ∧ to ≤ 100000) :
    impl_FewestPermits.l13 NN L6 L9 NN ps frm to more l v31 v32 l l.length 0 [] v30 = if cvB (chs ps l) frm to = true then some (l, 0) else L9 ps frm to more v31 (IntKind.i64.wrap (v32 + 1)) v30 := by
  have := (fold_fix (E := fun i : Int => 0 ≤ i ∧ i < (ps.length : Int)) (fun p (o : List Prm) => o = chs ps p) (fun _ o i => o ++ [ps.getD i.toNat (0, (0, (0, (0, ([], 0)))))]) (fun o => if cvB o frm to = true then some (l, 0) else L9 ps frm to more v31 (IntKind.i64.wrap (v32 + 1)) v30) (fun k j o => impl_FewestPermits.l13 NN L6 L9 k ps frm to more l v31 v32 l l.length j o v30) l ?_ ?_ [] hi rfl (by omega) NN (NN_lt (by omega))).2
  · rw [foldi_foldl, fold_snoc, List.nil_append] at this
    exact this
  · intro k o hI
    simp only [impl_FewestPermits.l13, impl_FewestPermits.g13, Int.lt_irrefl, and_self, and_true, true_and, decide_true, decide_false, if_true, if_false, mid_get, mid_set, mid_getn, mid_setn, bt_mid, Option.bind_some, Bool.not_true, Bool.not_false, Bool.false_eq_true, Bool.true_eq_false, beq_self_eq_true, bne_self_eq_false, Int.toNat_natCast, hI]
    rw [impl_covers_f (chs ps l) frm to (chs_ok hi hv) (by unfold chs; rw [List.length_map]; omega) h]
    rfl
  · intro k p a r o hx ha hI c0 c1 c2 cw g
    have hlr : p.length < l.length := by rw [hx]; simp
    refine ⟨by rw [hI]; simp [chs], ?_⟩
    simp only [impl_FewestPermits.l13, impl_FewestPermits.g13, c0, c1, cw, and_self, and_true, true_and, decide_true, decide_false, if_true, if_false, mid_get, mid_set, mid_getn, mid_setn, bt_mid, Option.bind_some, Bool.not_true, Bool.not_false, Bool.false_eq_true, Bool.true_eq_false, beq_self_eq_true, bne_self_eq_false, Int.toNat_natCast, g, ha.1, ha.2]
    rw [if_pos (by rw [hI, show room 64 = 2199023255552 by decide]; simp [chs]; omega)]
theorem few_lists {n k : Nat} {l : List Int} (h : l ∈ lst n k 0) : ∀ i ∈ l, 0 ≤ i ∧ i < (n : Int) := fun i hi => by
  have := ((mem_lst n k 0 l).1 h).2.2 i hi
  omega
theorem impl_few_l (ps : List Prm) (frm to : Int) (hv : ∀ p ∈ ps, permB p = true) (hn : ps.length ≤ 8) (h : 0 ≤ frm ∧ frm ≤ to ∧ to ≤ 100000) : ∀ (d m k : Nat), m + d = ps.length + 1 → d < k → impl_FewestPermits.l6 NN k ps frm to m = some (fewL ps frm to d m) := by
  intro d
  induction d with
  | zero =>
    intro m k h1 hk
    obtain ⟨k, rfl⟩ : ∃ j, k = j + 1 := ⟨k - 1, by omega⟩
    have q : ¬ (m : Int) ≤ (ps.length : Int) := by omega
    simp only [impl_FewestPermits.l6, impl_FewestPermits.g6, q, and_self, and_true, true_and, decide_true, decide_false, if_true, if_false, mid_get, mid_set, mid_getn, mid_setn, bt_mid, Option.bind_some, Bool.not_true, Bool.not_false, Bool.false_eq_true, Bool.true_eq_false, beq_self_eq_true, bne_self_eq_false, Int.toNat_natCast, fewL]
  | succ d ih =>
    intro m k h1 hk
    obtain ⟨k, rfl⟩ : ∃ j, k = j + 1 := ⟨k - 1, by omega⟩
    have q : (m : Int) ≤ (ps.length : Int) := by omega
    have w1 := w64 (n := (m : Int) + 1) (by omega) (by omega)
    have hll := lst_len ps.length hn m 0
    have hp := pow8 (show m ≤ 8 by omega)
    simp only [impl_FewestPermits.l6, impl_FewestPermits.g6, q, and_self, and_true, true_and, decide_true, decide_false, if_true, if_false, mid_get, mid_set, mid_getn, mid_setn, bt_mid, Option.bind_some, Bool.not_true, Bool.not_false, Bool.false_eq_true, Bool.true_eq_false, beq_self_eq_true, bne_self_eq_false, Int.toNat_natCast, fewL]
    rw [impl_listsOf_f ps.length hn m (by omega)]
    simp only [Option.bind_some]
    have := find_loop (E := fun l : List Int => l.length ≤ 1000 ∧ ∀ i ∈ l, 0 ≤ i ∧ i < (ps.length : Int)) (fun l => cvB (chs ps l) frm to) (fun _ l => some (l, (0 : Int))) (fun _ => impl_FewestPermits.l6 NN k ps frm to (IntKind.i64.wrap ((m : Int) + 1))) (fun j xs i => impl_FewestPermits.l9 NN (impl_FewestPermits.l6 NN k) j ps frm to m xs.length i xs) ?_ ?_ (lst ps.length m 0) (fun l hl => ⟨by rw [len_mem hl]; omega, few_lists hl⟩) (by omega) NN (NN_lt (by omega))
    · rw [this, w1]
      have e := ih (m + 1) k (by omega) (by omega)
      rw [show ((m + 1 : Nat) : Int) = (m : Int) + 1 by omega] at e
      cases firstOf (fun l => cvB (chs ps l) frm to) 0 (lst ps.length m 0) with
      | none => exact e
      | some x => rfl
    · intro j p
      simp only [impl_FewestPermits.l9, impl_FewestPermits.g9, Int.lt_irrefl, and_self, and_true, true_and, decide_true, decide_false, if_true, if_false, mid_get, mid_set, mid_getn, mid_setn, bt_mid, Option.bind_some, Bool.not_true, Bool.not_false, Bool.false_eq_true, Bool.true_eq_false, beq_self_eq_true, bne_self_eq_false, Int.toNat_natCast]
    · intro j p l r hE c0 c1 c2 cw
      simp only [impl_FewestPermits.l9, impl_FewestPermits.g9, c0, c1, and_self, and_true, true_and, decide_true, decide_false, if_true, if_false, mid_get, mid_set, mid_getn, mid_setn, bt_mid, Option.bind_some, Bool.not_true, Bool.not_false, Bool.false_eq_true, Bool.true_eq_false, beq_self_eq_true, bne_self_eq_false, Int.toNat_natCast]
      rw [impl_few_in ps frm to m _ _ l _ _ _ hv hE.2 hE.1 h, cw]
theorem spec_few_l (ps : List Prm) (frm to : Int) (hv : ∀ p ∈ ps, permB p = true) (hn : ps.length ≤ 8) (h : 0 ≤ frm ∧ frm ≤ to ∧ to ≤ 100000) : ∀ (d m k : Nat), m + d = ps.length + 1 → d < k → spec_FewestPermits.l6 NN k ps frm to ps.length m = some (fewL ps frm to d m) := by
  intro d
  induction d with
  | zero =>
    intro m k h1 hk
    obtain ⟨k, rfl⟩ : ∃ j, k = j + 1 := ⟨k - 1, by omega⟩
    have q : ¬ (m : Int) ≤ (ps.length : Int) := by omega
    simp only [spec_FewestPermits.l6, spec_FewestPermits.g6, q, and_self, and_true, true_and, decide_true, decide_false, if_true, if_false, mid_get, mid_set, mid_getn, mid_setn, bt_mid, Option.bind_some, Bool.not_true, Bool.not_false, Bool.false_eq_true, Bool.true_eq_false, beq_self_eq_true, bne_self_eq_false, Int.toNat_natCast, fewL]
  | succ d ih =>
    intro m k h1 hk
    obtain ⟨k, rfl⟩ : ∃ j, k = j + 1 := ⟨k - 1, by omega⟩
    have q : (m : Int) ≤ (ps.length : Int) := by omega
    have w1 := w64 (n := (m : Int) + 1) (by omega) (by omega)
    have hll := lst_len ps.length hn m 0
    have hp := pow8 (show m ≤ 8 by omega)
    simp only [spec_FewestPermits.l6, spec_FewestPermits.g6, q, and_self, and_true, true_and, decide_true, decide_false, if_true, if_false, mid_get, mid_set, mid_getn, mid_setn, bt_mid, Option.bind_some, Bool.not_true, Bool.not_false, Bool.false_eq_true, Bool.true_eq_false, beq_self_eq_true, bne_self_eq_false, Int.toNat_natCast, fewL]
    rw [spec_l19Lists_f ps.length hn m (by omega)]
    simp only [Option.bind_some]
    have := find_loop (E := fun l : List Int => l.length ≤ 1000 ∧ ∀ i ∈ l, 0 ≤ i ∧ i < (ps.length : Int)) (fun l => cvB (chs ps l) frm to) (fun _ l => some (l, (0 : Int))) (fun _ => spec_FewestPermits.l6 NN k ps frm to ps.length (IntKind.i64.wrap ((m : Int) + 1))) (fun j xs i => spec_FewestPermits.l10 NN (spec_FewestPermits.l6 NN k) j ps frm to ps.length m i xs) ?_ ?_ (lst ps.length m 0) (fun l hl => ⟨by rw [len_mem hl]; omega, few_lists hl⟩) (by omega) NN (NN_lt (by omega))
    · rw [this, w1]
      have e := ih (m + 1) k (by omega) (by omega)
      rw [show ((m + 1 : Nat) : Int) = (m : Int) + 1 by omega] at e
      cases firstOf (fun l => cvB (chs ps l) frm to) 0 (lst ps.length m 0) with
      | none => exact e
      | some x => rfl
    · intro j p
      simp only [spec_FewestPermits.l10, spec_FewestPermits.g10, Int.lt_irrefl, and_self, and_true, true_and, decide_true, decide_false, if_true, if_false, mid_get, mid_set, mid_getn, mid_setn, bt_mid, Option.bind_some, Bool.not_true, Bool.not_false, Bool.false_eq_true, Bool.true_eq_false, beq_self_eq_true, bne_self_eq_false, Int.toNat_natCast]
    · intro j p l r hE c0 c1 c2 cw
      simp only [spec_FewestPermits.l10, spec_FewestPermits.g10, c0, c1, cw, and_self, and_true, true_and, decide_true, decide_false, if_true, if_false, mid_get, mid_set, mid_getn, mid_setn, bt_mid, Option.bind_some, Bool.not_true, Bool.not_false, Bool.false_eq_true, Bool.true_eq_false, beq_self_eq_true, bne_self_eq_false, Int.toNat_natCast]
      rw [spec_l30Cover_f ps l frm to hv hE.2 (by omega) h]
      cases cvB (chs ps l) frm to <;> rfl
theorem FewestPermits_both (ps : List Prm) (frm to : Int) (hp : Lm OkPermit ps) : spec_FewestPermits.f ps frm to = some (fewR ps frm to) ∧ impl_FewestPermits.f ps frm to = some (fewR ps frm to) := by
  have hk := perms_k hp
  unfold spec_FewestPermits.f spec_FewestPermits.fn spec_FewestPermits.top impl_FewestPermits.f impl_FewestPermits.fn impl_FewestPermits.top fewR
  rw [spec_l30Days_f ps frm to hp.1 hk, impl_arePermits_f ps hp.1 hk, impl_areDays_f]
  cases h1 : permsL ps
  · exact ⟨rfl, rfl⟩
  cases h2 : daysB frm to
  · exact ⟨rfl, rfl⟩
  obtain ⟨v1, v2⟩ := permsL_ok h1
  have hd := daysB_iff h2
  have e1 := spec_few_l ps frm to v2 v1 hd ps.length 1 NN (by omega) (NN_lt (by omega))
  have e2 := impl_few_l ps frm to v2 v1 hd ps.length 1 NN (by omega) (NN_lt (by omega))
  exact ⟨e1, e2⟩
end Go.Pl

namespace Go.Pl
open Go.Ev
set_option linter.unusedVariables false
set_option linter.unusedSimpArgs false
theorem laws_eqInt64S_self (a : List Int) (hl : a.length ≤ 140737488355328) : laws_eqInt64S.f a a = some true := by
  unfold laws_eqInt64S.f laws_eqInt64S.fn laws_eqInt64S.top
  simp only [bne_self_eq_false, Bool.false_eq_true, if_false]
  refine eqS_loop (E := fun _ => True) (fun k a b i => laws_eqInt64S.l4 NN k a b i) a (fun _ _ => trivial) ?_ ?_ NN (NN_lt (by omega))
  · intro k p x r hx ha
    subst ha
    show laws_eqInt64S.g4 (laws_eqInt64S.l4 NN k) (p ++ x :: r) (p ++ x :: r) p.length = _
    unfold laws_eqInt64S.g4
    have hm := mid_len p r x
    have c1 : (p.length : Int) < ((p ++ x :: r).length : Int) := by omega
    have c0 : (0 : Int) ≤ (p.length : Int) := by omega
    have cw := w64 (n := (p.length : Int) + 1) (by omega) (by omega)
    simp only [c0, c1, and_self, decide_true, if_true, mid_get, beq_self_eq_true, bne_self_eq_false, Option.bind_some, cw, Bool.not_true, Bool.false_eq_true, if_false]
  · intro k
    show laws_eqInt64S.g4 (laws_eqInt64S.l4 NN k) a a a.length = _
    unfold laws_eqInt64S.g4
    simp
end Go.Pl

namespace Go.Pl
open Go.Ev
set_option linter.unusedVariables false
set_option linter.unusedSimpArgs false
def EqPermit (x : Int × Int × Int × Int × List Int × Int) : Prop := x.2.2.2.2.1.length ≤ 140737488355328
theorem laws_eqPermit_self (a : Int × Int × Int × Int × List Int × Int) (h : EqPermit a) : laws_eqPermit.f a a = some true := by
  unfold laws_eqPermit.f laws_eqPermit.fn laws_eqPermit.top
  simp [laws_eqInt64S_self _ h]
end Go.Pl

namespace Go.Pl
open Go.Ev
set_option linter.unusedVariables false
set_option linter.unusedSimpArgs false
theorem laws_eqPermitS_self (a : List (Int × Int × Int × Int × List Int × Int)) (hl : a.length ≤ 140737488355328) (hE : ∀ x ∈ a, EqPermit x) : laws_eqPermitS.f a a = some true := by
  unfold laws_eqPermitS.f laws_eqPermitS.fn laws_eqPermitS.top
  simp only [bne_self_eq_false, Bool.false_eq_true, if_false]
  refine eqS_loop (E := EqPermit) (fun k a b i => laws_eqPermitS.l4 NN k a b i) a hE ?_ ?_ NN (NN_lt (by omega))
  · intro k p x r hx ha
    subst ha
    show laws_eqPermitS.g4 (laws_eqPermitS.l4 NN k) (p ++ x :: r) (p ++ x :: r) p.length = _
    unfold laws_eqPermitS.g4
    have hm := mid_len p r x
    have c1 : (p.length : Int) < ((p ++ x :: r).length : Int) := by omega
    have c0 : (0 : Int) ≤ (p.length : Int) := by omega
    have cw := w64 (n := (p.length : Int) + 1) (by omega) (by omega)
    simp only [c0, c1, and_self, decide_true, if_true, mid_get, laws_eqPermit_self x hx, Option.bind_some, cw, Bool.not_true, Bool.false_eq_true, if_false]
  · intro k
    show laws_eqPermitS.g4 (laws_eqPermitS.l4 NN k) a a a.length = _
    unfold laws_eqPermitS.g4
    simp
end Go.Pl

namespace Go.Pl
open Go.Ev
set_option linter.unusedVariables false
set_option linter.unusedSimpArgs false
theorem roomBehind_le (n : Int) (h0 : 0 ≤ n) : ∃ r, laws_roomBehind.f n = some r ∧ 0 ≤ r ∧ (r ≤ n ∨ r = 1) := by
  unfold laws_roomBehind.f laws_roomBehind.fn laws_roomBehind.top
  split
  · exact ⟨0, rfl, by omega, by omega⟩
  · split
    · exact ⟨1, rfl, by omega, .inr rfl⟩
    · exact ⟨n, rfl, h0, .inl (by omega)⟩
theorem roomv8 : room 8 = 17592186044416 := by decide
theorem roomv64 : room 64 = 2199023255552 := by decide
end Go.Pl

namespace Go.Pl
open Go.Ev
set_option linter.unusedVariables false
set_option linter.unusedSimpArgs false
theorem laws_toInt64S_ok (a : List Int) (ha : Lm (Rg .i64) a) (bare : Bool) : ∃ fil, laws_toInt64S.f a bare = some (a, fil) ∧ (bare = false → laws_roomBehind.f a.length = some (fil.length : Int)) ∧ fil.length ≤ 1000001 ∧ ∀ x ∈ fil, (fun _ => True) x := by
  have hl : a.length ≤ 1000000 := ha.1
  obtain ⟨r, h1, h2, h3⟩ := roomBehind_le a.length (by omega)
  have hw := w64 (n := (a.length : Int) + r) (by omega) (by omega)
  have c1 : (0 : Int) ≤ a.length + r ∧ (a.length : Int) + r < (room 8 : Nat) ∧ (a.length : Int) + r = a.length + r := by rw [roomv8]; omega
  have key : ∃ fil, laws_toInt64S.l5 NN NN a 0 (List.replicate ((a.length : Int) + r).toNat 0) = some (a, fil) ∧ fil.length = ((a.length : Int) + r).toNat - a.length ∧ ∀ x ∈ fil, (fun _ => True) x := by
    have := toS_loop (Z := fun _ => True) (R := Rg .i64) (fun k a i out => laws_toInt64S.l5 NN k a i out) (fun k a i out => laws_toInt64S.l9 NN k a i out) ?_ ?_ ?_ ?_ a (List.replicate ((a.length : Int) + r).toNat 0) NN ha.2 (by rw [List.length_replicate]; omega) (by rw [List.length_replicate]; omega) (NN_lt (by omega))
    · simpa using this
    · intro k a out h
      show laws_toInt64S.g9 (laws_toInt64S.l9 NN k) a out.length out = _
      unfold laws_toInt64S.g9
      have c2 : (0 : Int) ≤ (a.length : Int) := by omega
      simp [h]
    · intro k a i out hi hb
      have d1 : (i : Int) < (out.length : Int) := by omega
      have d0 : (0 : Int) ≤ (i : Int) := by omega
      have dw := w64 (n := (i : Int) + 1) (by omega) (by omega)
      have e : laws_toInt64S.g9 (laws_toInt64S.l9 NN k) a i out = laws_toInt64S.l9 NN k a ((i : Int) + 1) (out.set i (-7000000000000000101)) := by
        unfold laws_toInt64S.g9
        simp only [d0, d1, and_self, decide_true, if_true, dw, Int.toNat_natCast]
      exact ⟨_, trivial, e⟩
    · intro k a out
      show laws_toInt64S.g5 (laws_toInt64S.l9 NN NN) (laws_toInt64S.l5 NN k) a a.length out = _
      unfold laws_toInt64S.g5
      simp
    · intro k p r x q s y hx hpq hb hb2
      have hm := mid_len p r x
      have hm2 := mid_len q s y
      have d1 : (p.length : Int) < ((p ++ x :: r).length : Int) := by omega
      have d2 : (q.length : Int) < ((q ++ y :: s).length : Int) := by omega
      have d0 : (0 : Int) ≤ (q.length : Int) := by omega
      have dw := w64 (n := (q.length : Int) + 1) (by omega) (by omega)
      have g := mid_get p r x 0
      show laws_toInt64S.g5 (laws_toInt64S.l9 NN NN) (laws_toInt64S.l5 NN k) (p ++ x :: r) p.length (q ++ y :: s) = laws_toInt64S.l5 NN k (p ++ x :: r) ((p.length : Int) + 1) (q ++ x :: s)
      unfold laws_toInt64S.g5
      rw [hpq] at d1 g ⊢
      have e5 := hpq
      simp only [d0, d1, d2, and_self, decide_true, if_true, g, dw, mid_set]
  obtain ⟨fil, k1, k2, k3⟩ := key
  have k4 : (fil.length : Int) = r := by omega
  unfold laws_toInt64S.f laws_toInt64S.fn laws_toInt64S.top
  simp only [h1, Option.bind_some, hw, c1, and_self, if_true]
  by_cases hb : bare = true
  · simp only [hb, if_true]
    by_cases he : a = []
    · subst he
      exact ⟨[], by simp, by simp, by simp, by simp⟩
    · have : ((a.length : Int) == 0) = false := by simpa using he
      simp only [this, Bool.false_eq_true, if_false]
      exact ⟨fil, by first | exact k1 | (rw [hb] at k1; exact k1), by simp, by omega, k3⟩
  · simp only [hb, Bool.false_eq_true, if_false]
    exact ⟨fil, by first | exact k1 | (rw [Bool.not_eq_true] at hb; rw [hb] at k1; exact k1), fun _ => by rw [k4], by omega, k3⟩
theorem laws_intactInt64S_self (a fil : List Int) (ha : Lm (Rg .i64) a) (h1 : laws_roomBehind.f a.length = some (fil.length : Int)) (h2 : fil.length ≤ 1000001) (h3 : ∀ x ∈ fil, (fun _ => True) x) : laws_intactInt64S.f (a, fil) (a, fil) = some true := by
  have hl : a.length ≤ 1000000 := ha.1
  unfold laws_intactInt64S.f laws_intactInt64S.fn laws_intactInt64S.top
  have hw := w64 (n := (a.length : Int) + (fil.length : Int)) (by omega) (by omega)
  have c1 : (0 : Int) ≤ a.length + fil.length ∧ (a.length : Int) + fil.length ≤ ((a ++ fil).length : Nat) := by rw [List.length_append]; omega
  simp only [h1, Option.bind_some, hw, beq_self_eq_true, if_true, c1, and_self]
  rw [laws_eqInt64S_self _ (by rw [List.length_take, List.length_append]; omega)]
  rfl
theorem laws_toInt64S_both (a : List Int) (ha : Lm (Rg .i64) a) : ∃ f : Bool → List Int, (∀ bare, laws_toInt64S.f a bare = some (a, f bare)) ∧ laws_intactInt64S.f (a, f false) (a, f false) = some true := by
  obtain ⟨f1, a1, a2, a3, a4⟩ := laws_toInt64S_ok a ha false
  obtain ⟨f2, b1, b2, b3, b4⟩ := laws_toInt64S_ok a ha true
  refine ⟨fun bare => if bare = true then f2 else f1, fun bare => ?_, ?_⟩
  · cases bare
    · simpa using a1
    · simpa using b1
  · simpa using laws_intactInt64S_self a f1 ha (a2 rfl) a3 a4
end Go.Pl

namespace Go.Pl
open Go.Ev
set_option linter.unusedVariables false
set_option linter.unusedSimpArgs false
theorem laws_toPermit_both (a : Int × Int × Int × Int × List Int × Int) (ha : OkPermit a) : ∃ (f0 : Bool → List Int), (∀ bare, laws_toPermit.f a bare = some (a.1, a.2.1, a.2.2.1, a.2.2.2.1, (a.2.2.2.2.1, f0 bare), a.2.2.2.2.2)) ∧ laws_intactPermit.f (a.1, a.2.1, a.2.2.1, a.2.2.2.1, (a.2.2.2.2.1, f0 false), a.2.2.2.2.2) (a.1, a.2.1, a.2.2.1, a.2.2.2.1, (a.2.2.2.2.1, f0 false), a.2.2.2.2.2) = some true := by
  obtain ⟨f0, a0, i0⟩ := laws_toInt64S_both a.2.2.2.2.1 ha.2.2.2.2.1
  refine ⟨f0, fun bare => ?_, ?_⟩
  · unfold laws_toPermit.f laws_toPermit.fn laws_toPermit.top
    simp only [a0, Option.bind_some]
  · unfold laws_intactPermit.f laws_intactPermit.fn laws_intactPermit.top
    simp [i0]
end Go.Pl

namespace Go.Pl
open Go.Ev
set_option linter.unusedVariables false
set_option linter.unusedSimpArgs false
abbrev PrmD := Int × Int × Int × Int × (List Int × List Int) × Int
abbrev PrmP := Int × Int × Int × Int × List Int × Int
noncomputable def dPrm (bare : Bool) (x : PrmP) : PrmD := (laws_toPermit.f x bare).getD (0, (0, (0, (0, (([], []), 0)))))
def cfPrm (y : PrmD) : PrmP := (y.1, (y.2.1, (y.2.2.1, (y.2.2.2.1, (y.2.2.2.2.1.1, y.2.2.2.2.2)))))
def filPrm : PrmD := ((-7000000000000000101), ((-7000000000000000101), ((-7000000000000000101), ((-7000000000000000101), (([(-7000000000000000101)], []), (-7000000000000000101))))))
theorem dPrm_ok (bare : Bool) (x : PrmP) (h : OkPermit x) : laws_toPermit.f x bare = some (dPrm bare x) ∧ cfPrm (dPrm bare x) = x := by
  obtain ⟨f0, h1, _⟩ := laws_toPermit_both x h
  unfold dPrm cfPrm
  rw [h1 bare]
  exact ⟨rfl, rfl⟩
theorem dPrm_intact (x : PrmP) (h : OkPermit x) : laws_intactPermit.f (dPrm false x) (dPrm false x) = some true := by
  obtain ⟨f0, h1, h2⟩ := laws_toPermit_both x h
  unfold dPrm
  rw [h1 false]
  exact h2
theorem toPS_9 (a : List PrmP) (z : PrmD) : ∀ (m : Nat) (p : List PrmD) (k : Nat), m < k → p.length + m ≤ 140737488355328 → a.length ≤ p.length + m →
    laws_toPermitS.l9 NN k a p.length (p ++ List.replicate m z) = some ((p ++ List.replicate m filPrm).take a.length, (p ++ List.replicate m filPrm).drop a.length) := by
  intro m
  induction m with
  | zero =>
    intro p k hk hb ha
    obtain ⟨k, rfl⟩ : ∃ j, k = j + 1 := ⟨k - 1, by omega⟩
    have c1 : (0 : Int) ≤ (a.length : Int) := by omega
    have c2 : (a.length : Int) ≤ (p.length : Int) := by omega
    simp only [laws_toPermitS.l9, laws_toPermitS.g9, List.replicate_zero, List.append_nil, Int.lt_irrefl, c1, c2, and_self, and_true, true_and, decide_true, decide_false, if_true, if_false, mid_get, mid_set, mid_getn, mid_setn, bt_mid, Option.bind_some, Bool.not_true, Bool.not_false, Bool.false_eq_true, Bool.true_eq_false, beq_self_eq_true, bne_self_eq_false, Int.toNat_natCast]
  | succ m ih =>
    intro p k hk hb ha
    obtain ⟨k, rfl⟩ : ∃ j, k = j + 1 := ⟨k - 1, by omega⟩
    have hm := mid_len p (List.replicate m z) z
    have c1 : (p.length : Int) < ((p ++ z :: List.replicate m z).length : Int) := by omega
    have c0 : (0 : Int) ≤ (p.length : Int) := by omega
    have cw := w64 (n := (p.length : Int) + 1) (by omega) (by omega)
    rw [List.replicate_succ, List.replicate_succ]
    simp only [laws_toPermitS.l9, laws_toPermitS.g9, c0, c1, cw, and_self, and_true, true_and, decide_true, decide_false, if_true, if_false, mid_get, mid_set, mid_getn, mid_setn, bt_mid, Option.bind_some, Bool.not_true, Bool.not_false, Bool.false_eq_true, Bool.true_eq_false, beq_self_eq_true, bne_self_eq_false, Int.toNat_natCast, laws_fillerPermit.f, laws_fillerPermit.fn, laws_fillerPermit.top]
    have := ih (p ++ [filPrm]) k (by omega) (by simp; omega) (by simp; omega)
    rw [mid_snoc, snoc_len, mid_snoc] at this
    exact this
theorem toPS_5 (a : List PrmP) (bare : Bool) (z : PrmD) (n : Nat) : ∀ (r q : List PrmP) (k : Nat), a = q ++ r → (∀ x ∈ r, OkPermit x) → a.length + n ≤ 140737488355328 → r.length < k →
    laws_toPermitS.l5 NN k a bare q.length (q.map (dPrm bare) ++ List.replicate (r.length + n) z) = laws_toPermitS.l9 NN NN a a.length (a.map (dPrm bare) ++ List.replicate n z) := by
  intro r
  induction r with
  | nil =>
    intro q k ha _ hb hk
    obtain ⟨k, rfl⟩ : ∃ j, k = j + 1 := ⟨k - 1, by omega⟩
    rw [List.append_nil] at ha
    subst ha
    simp only [laws_toPermitS.l5, laws_toPermitS.g5, Int.lt_irrefl, and_self, and_true, true_and, decide_true, decide_false, if_true, if_false, mid_get, mid_set, mid_getn, mid_setn, bt_mid, Option.bind_some, Bool.not_true, Bool.not_false, Bool.false_eq_true, Bool.true_eq_false, beq_self_eq_true, bne_self_eq_false, Int.toNat_natCast, List.length_nil, Nat.zero_add]
  | cons x r ih =>
    intro q k ha hx hb hk
    simp only [List.length_cons] at hk
    obtain ⟨k, rfl⟩ : ∃ j, k = j + 1 := ⟨k - 1, by omega⟩
    have hal : a.length = q.length + r.length + 1 := by rw [ha]; simp; omega
    have c1 : (q.length : Int) < (a.length : Int) := by omega
    have c0 : (0 : Int) ≤ (q.length : Int) := by omega
    have cw := w64 (n := (q.length : Int) + 1) (by omega) (by omega)
    have g : ∀ w, a.getD q.length w = x := fun w => by rw [ha, mid_getn]
    obtain ⟨t1, t2⟩ := dPrm_ok bare x (hx x (by simp))
    have hlen : (q.map (dPrm bare)).length = q.length := List.length_map ..
    rw [List.length_cons, show r.length + 1 + n = (r.length + n) + 1 by omega, List.replicate_succ]
    have hs := mid_setn (q.map (dPrm bare)) (List.replicate (r.length + n) z) z (dPrm bare x)
    rw [hlen] at hs
    have c2 : (q.length : Int) < ((q.map (dPrm bare) ++ z :: List.replicate (r.length + n) z).length : Int) := by
      have := mid_len (q.map (dPrm bare)) (List.replicate (r.length + n) z) z
      rw [hlen] at this; omega
    simp only [laws_toPermitS.l5, laws_toPermitS.g5, c0, c1, c2, cw, and_self, and_true, true_and, decide_true, decide_false, if_true, if_false, mid_get, mid_set, mid_getn, mid_setn, bt_mid, Option.bind_some, Bool.not_true, Bool.not_false, Bool.false_eq_true, Bool.true_eq_false, beq_self_eq_true, bne_self_eq_false, Int.toNat_natCast, g, t1]
    have := ih (q ++ [x]) k (by rw [ha]; simp) (fun y hy => hx y (by simp [hy])) hb (by omega)
    rw [snoc_len] at this
    rw [← this]
    congr 1
    rw [List.map_append, List.map_cons, List.map_nil, mid_snoc, ← hs]
theorem laws_toPermitS_val (a : List PrmP) (ha : Lm OkPermit a) : ∃ n : Nat, n ≤ 1000001 ∧ laws_roomBehind.f a.length = some (n : Int) ∧ ∀ bare, laws_toPermitS.f a bare = some (a.map (dPrm bare), if bare = true ∧ a = [] then [] else List.replicate n filPrm) := by
  have hl : a.length ≤ 1000000 := ha.1
  obtain ⟨r, h1, h2, h3⟩ := roomBehind_le a.length (by omega)
  obtain ⟨n, rfl⟩ : ∃ n : Nat, r = (n : Int) := ⟨r.toNat, by omega⟩
  refine ⟨n, by omega, h1, fun bare => ?_⟩
  have hw := w64 (n := (a.length : Int) + n) (by omega) (by omega)
  have c1 : (0 : Int) ≤ a.length + n ∧ (a.length : Int) + n < (room 64 : Nat) ∧ (a.length : Int) + n = a.length + n := by rw [roomv64]; omega
  have key : ∀ bare, laws_toPermitS.l5 NN NN a bare 0 (List.replicate ((a.length : Int) + n).toNat (0, (0, (0, (0, (([], []), 0)))))) = some (a.map (dPrm bare), List.replicate n filPrm) := by
    intro bare
    have e1 := toPS_5 a bare (0, (0, (0, (0, (([], []), 0))))) n a [] NN rfl ha.2 (by omega) (NN_lt (by omega))
    have e2 := toPS_9 a (0, (0, (0, (0, (([], []), 0))))) n (a.map (dPrm bare)) NN (NN_lt (by omega)) (by simp; omega) (by simp)
    rw [List.length_map] at e2
    rw [e2] at e1
    rw [show ((a.length : Int) + n).toNat = a.length + n by omega]
    simp only [List.map_nil, List.nil_append, List.length_nil] at e1
    refine e1.trans ?_
    have e3 : (a.map (dPrm bare) ++ List.replicate n filPrm).take a.length = a.map (dPrm bare) := by rw [show a.length = (a.map (dPrm bare)).length by simp, List.take_left]
    have e4 : (a.map (dPrm bare) ++ List.replicate n filPrm).drop a.length = List.replicate n filPrm := by rw [show a.length = (a.map (dPrm bare)).length by simp, List.drop_left]
    rw [e3, e4]
  unfold laws_toPermitS.f laws_toPermitS.fn laws_toPermitS.top
  simp only [h1, Option.bind_some, hw]
  cases bare
  · simp only [Bool.false_eq_true, if_false, false_and]
    rw [if_pos ⟨c1.1, c1.2.1, trivial⟩]
    exact key false
  · simp only [if_true, true_and]
    by_cases he : a = []
    · subst he; rfl
    · have : ((a.length : Int) == 0) = false := by simpa using he
      simp only [this, Bool.false_eq_true, if_false]
      rw [if_pos ⟨c1.1, c1.2.1, trivial⟩, if_neg he]
      exact key true
theorem laws_toPermitS_both (a : List PrmP) (ha : Lm OkPermit a) : ∃ f0 : Bool → List PrmD × List PrmD, (∀ bare, laws_toPermitS.f a bare = some (f0 bare)) ∧
    ((∀ bare, (f0 bare).1.map (fun y => (y.1, (y.2.1, (y.2.2.1, (y.2.2.2.1, (y.2.2.2.2.1.1, y.2.2.2.2.2)))))) = a) ∧ laws_intactPermitS.f (f0 false) (f0 false) = some true) := by
  obtain ⟨n, hn, h1, h2⟩ := laws_toPermitS_val a ha
  have hl : a.length ≤ 1000000 := ha.1
  refine ⟨fun bare => (a.map (dPrm bare), if bare = true ∧ a = [] then [] else List.replicate n filPrm), h2, fun bare => ?_, ?_⟩
  · show (a.map (dPrm bare)).map cfPrm = a
    rw [List.map_map]
    refine (List.map_congr_left (g := id) fun x hx => (dPrm_ok bare x (ha.2 x hx)).2).trans (List.map_id _)
  · simp only [Bool.false_eq_true, false_and, if_false]
    generalize hD : a.map (dPrm false) = D
    have hDl : D.length = a.length := by rw [← hD, List.length_map]
    have hDi : ∀ d ∈ D, laws_intactPermit.f d d = some true := fun d hd => by
      rw [← hD] at hd
      obtain ⟨x, hx, rfl⟩ := List.mem_map.1 hd
      exact dPrm_intact x (ha.2 x hx)
    have hw := w64 (n := (D.length : Int) + n) (by omega) (by omega)
    unfold laws_intactPermitS.f laws_intactPermitS.fn laws_intactPermitS.top
    rw [← hDl] at h1
    simp only [h1, Option.bind_some, bne_self_eq_false, Bool.false_eq_true, if_false, hw]
    have := (fold_fix (E := fun d => laws_intactPermit.f d d = some true) (fun _ (_ : Unit) => True) (fun _ _ _ => ()) (fun _ => some true) (fun k i _ => laws_intactPermitS.l5 NN k (D, List.replicate n filPrm) (D, List.replicate n filPrm) ((D.length : Int) + n) i) D ?_ ?_ () hDi trivial (by omega) NN (NN_lt (by omega))).2
    · exact this
    · intro k _ _
      have q1 : (0 : Int) ≤ (D.length : Int) := by omega
      have q2 : (D.length : Int) ≤ (D.length : Int) + n := by omega
      have q3 : (D.length : Int) + n ≤ ((D ++ List.replicate n filPrm).length : Int) := by simp
      simp only [laws_intactPermitS.l5, laws_intactPermitS.g5, Int.lt_irrefl, q1, q2, q3, and_self, and_true, true_and, decide_true, decide_false, if_true, if_false, mid_get, mid_set, mid_getn, mid_setn, bt_mid, Option.bind_some, Bool.not_true, Bool.not_false, Bool.false_eq_true, Bool.true_eq_false, beq_self_eq_true, bne_self_eq_false, Int.toNat_natCast]
      rw [laws_eqPermitS_self _ (by simp; omega) ?_]
      · rfl
      · intro x hx
        obtain ⟨y, hy, rfl⟩ := List.mem_map.1 hx
        rw [show ((D.length : Int) + n).toNat = D.length + n by omega] at hy
        have : y ∈ List.replicate n filPrm := by
          have e : ((D ++ List.replicate n filPrm).take (D.length + n)).drop D.length = List.replicate n filPrm := by
            rw [List.take_of_length_le (by simp), List.drop_left]
          rw [e] at hy; exact hy
        rw [(List.mem_replicate.1 this).2]
        unfold EqPermit filPrm
        simp
    · intro k p d r _ hx hd _ c0 c1 c2 cw g
      refine ⟨trivial, ?_⟩
      simp only [laws_intactPermitS.l5, laws_intactPermitS.g5, c0, c1, cw, and_self, and_true, true_and, decide_true, decide_false, if_true, if_false, mid_get, mid_set, mid_getn, mid_setn, bt_mid, Option.bind_some, Bool.not_true, Bool.not_false, Bool.false_eq_true, Bool.true_eq_false, beq_self_eq_true, bne_self_eq_false, Int.toNat_natCast, g, hd]
end Go.Pl

namespace Go.Pl
open Go.Ev
set_option linter.unusedVariables false
set_option linter.unusedSimpArgs false
theorem laws_szInt64S_ok (a : List Int) (left : Int) (h0 : -1000000000000000 ≤ left) (h1 : left ≤ 1000000) (ha : Ls (Rg .i64) a) : ∃ s, laws_szInt64S.f a left = some s ∧ s ≤ 1000000 ∧ (0 ≤ s → s ≤ left ∧ Lm (Rg .i64) a) := by
  unfold laws_szInt64S.f laws_szInt64S.fn laws_szInt64S.top
  have hl : a.length ≤ 140737488355328 := ha.1
  have hw := w64 (n := left - (a.length : Int)) (by omega) (by omega)
  simp only [hw]
  by_cases hn : left - (a.length : Int) < 0
  · exact ⟨-1, by simp [hn], by omega, by omega⟩
  · simp only [hn, decide_false, Bool.false_eq_true, if_false]
    exact ⟨_, rfl, by omega, fun h => ⟨by omega, by omega, ha.2⟩⟩
end Go.Pl

namespace Go.Pl
open Go.Ev
set_option linter.unusedVariables false
set_option linter.unusedSimpArgs false
theorem laws_szPermit_ok (a : Int × Int × Int × Int × List Int × Int) (left : Int) (h0 : -1000000000000000 ≤ left) (h1 : left ≤ 1000000) (ha : PlPermit a) : ∃ s, laws_szPermit.f a left = some s ∧ s ≤ 1000000 ∧ (0 ≤ s → s ≤ left ∧ OkPermit a) := by
  unfold laws_szPermit.f laws_szPermit.fn laws_szPermit.top
  obtain ⟨s1, e1, l1, k1⟩ := laws_szInt64S_ok a.2.2.2.2.1 left (by omega) (by omega) ha.2.2.2.2.1
  simp only [e1, Option.bind_some, decide_eq_true_eq]
  by_cases hn1 : s1 < 0
  · exact ⟨-1, by simp [hn1], by omega, by omega⟩
  simp only [hn1, if_false]
  exact ⟨_, rfl, by omega, fun h => ⟨by have t1 := (k1 (by omega)).1; omega, ha.1, ha.2.1, ha.2.2.1, ha.2.2.2.1, (k1 (by omega)).2, ha.2.2.2.2.2⟩⟩
end Go.Pl

namespace Go.Pl
open Go.Ev
set_option linter.unusedVariables false
set_option linter.unusedSimpArgs false
theorem laws_szPermitS_ok (a : List (Int × Int × Int × Int × List Int × Int)) (left : Int) (h0 : -1000000000000000 ≤ left) (h1 : left ≤ 1000000) (ha : Ls PlPermit a) : ∃ s, laws_szPermitS.f a left = some s ∧ s ≤ 1000000 ∧ (0 ≤ s → s ≤ left ∧ Lm OkPermit a) := by
  unfold laws_szPermitS.f laws_szPermitS.fn laws_szPermitS.top
  have hl : a.length ≤ 140737488355328 := ha.1
  have hw := w64 (n := left - (a.length : Int)) (by omega) (by omega)
  simp only [hw]
  by_cases hn : left - (a.length : Int) < 0
  · exact ⟨-1, by simp [hn], by omega, by omega⟩
  · simp only [hn, decide_false, Bool.false_eq_true, if_false]
    have := szS_loop (Q := PlPermit) (R := OkPermit) (fun k a left i => laws_szPermitS.l5 NN k a left i) ?_ ?_ a NN (left - (a.length : Int)) (by omega) (by omega) ha (NN_lt (by omega))
    · obtain ⟨s, s1, s2, s3⟩ := this
      exact ⟨s, s1, by omega, fun h => ⟨by have := (s3 h).1; omega, by omega, (s3 h).2⟩⟩
    · intro k p left
      show laws_szPermitS.g5 (laws_szPermitS.l5 NN k) p left p.length = _
      unfold laws_szPermitS.g5
      simp
    · intro x hx left l0 l1
      obtain ⟨s, s1, s2, s3⟩ := laws_szPermit_ok x left l0 l1 hx
      refine ⟨s, s2, s3, fun k p r hb => ?_⟩
      show laws_szPermitS.g5 (laws_szPermitS.l5 NN k) (p ++ x :: r) left p.length = _
      unfold laws_szPermitS.g5
      have hl := mid_len p r x
      have c1 : (p.length : Int) < ((p ++ x :: r).length : Int) := by omega
      have c0 : (0 : Int) ≤ (p.length : Int) := by omega
      have cw := w64 (n := (p.length : Int) + 1) (by omega) (by omega)
      simp only [c0, c1, and_self, decide_true, if_true, mid_get, s1, Option.bind_some, cw, decide_eq_true_eq]
end Go.Pl

namespace Go.Ev.Try
open Go.Proofs Go.Pl Go.RowKit
set_option linter.unusedVariables false
set_option linter.unusedSimpArgs false
theorem mks_get (k : Int) (n i : Nat) (h : i < n) (z : Int) : (mks k n).getD i z = k + (i : Int) := by
  unfold mks
  rw [List.getD_eq_getElem?_getD, List.getElem?_map, List.getElem?_range h]
  rfl
theorem held_loop (k : Int) (n : Nat) (hk : 0 ≤ k) (hkn : k + n ≤ 2000000) : ∀ (d i m : Nat), i + d = n → d < m → laws_heldInt64S.l2 NN m (mks k n) (k + i) i = some (k + n) := by
  have hl : (mks k n).length = n := by simp [mks]
  intro d
  induction d with
  | zero =>
    intro i m hi hm
    obtain ⟨m, rfl⟩ : ∃ m', m = m' + 1 := ⟨m - 1, by omega⟩
    have : i = n := by omega
    subst this
    simp only [laws_heldInt64S.l2, laws_heldInt64S.g2, hl]
    rw [if_neg (by simp)]
  | succ d ih =>
    intro i m hi hm
    obtain ⟨m, rfl⟩ : ∃ m', m = m' + 1 := ⟨m - 1, by omega⟩
    have hin : i < n := by omega
    have h1 := ih (i + 1) m (by omega) (by omega)
    have e0 : (i : Int).toNat = i := by omega
    have e1 : k + (i : Int) + 1 = k + ((i + 1 : Nat) : Int) := by omega
    have e2 : (i : Int) + 1 = ((i + 1 : Nat) : Int) := by omega
    have w0 : IntKind.i64.wrap (k + (i : Int)) = k + (i : Int) := w64 (by omega) (by omega)
    have w1 : IntKind.i64.wrap (k + (i : Int) + 1) = k + (i : Int) + 1 := w64 (by omega) (by omega)
    have w2 : IntKind.i64.wrap ((i : Int) + 1) = (i : Int) + 1 := w64 (by omega) (by omega)
    simp only [laws_heldInt64S.l2, laws_heldInt64S.g2, hl, e0, mks_get k n i hin, w0, w1, w2]
    rw [if_pos (by simpa using hin), if_pos (by omega), e1, e2, h1]
    simp
theorem tot_le (B : Nat) : ∀ (ns : List Nat), (∀ n ∈ ns, n ≤ B) → tot ns ≤ ((ns.length * (B + 5) : Nat) : Int) := by
  intro ns
  induction ns with
  | nil => intro _; simp [tot]
  | cons n ns ih =>
    intro h
    have h1 := ih fun m hm => h m (List.mem_cons_of_mem _ hm)
    have h2 := h n List.mem_cons_self
    simp only [tot, List.length_cons, Nat.succ_mul]
    omega
theorem first_mem {α : Type} (P : α → Bool) : ∀ (xs : List α) (i : Nat) (x : Nat × α), firstOf P i xs = some x → x.2 ∈ xs := by
  intro xs
  induction xs with
  | nil => intro i x h; cases h
  | cons a r ih =>
    intro i x h
    simp only [firstOf] at h
    by_cases ha : P a = true
    · rw [if_pos ha] at h
      cases h
      exact List.mem_cons_self
    · rw [if_neg ha] at h
      exact List.mem_cons_of_mem _ (ih _ _ h)
theorem fewL_len (ps : List Prm) (frm to : Int) : ∀ (d k : Nat), (fewL ps frm to d k).1.length ≤ k + d := by
  intro d
  induction d with
  | zero => intro k; simp [fewL]
  | succ d ih =>
    intro k
    simp only [fewL]
    cases hf : firstOf (fun l => cvB (chs ps l) frm to) 0 (lst ps.length k 0) with
    | some x =>
      have := len_mem (first_mem _ _ _ _ hf)
      simp only [Option.elim]
      omega
    | none =>
      have := ih (k + 1)
      simp only [Option.elim]
      omega
theorem fewR_len (ps : List Prm) (frm to : Int) : (fewR ps frm to).1.length ≤ 9 := by
  unfold fewR
  split
  · rename_i hp
    have h8 := (permsL_ok hp).1
    split
    · have := fewL_len ps frm to ps.length 1
      omega
    · simp
  · simp
theorem lawF (ps : List PT.I) (fr to : Int) (h : Ls PlPermit ps) : LawF ps fr to where
  sz := by
    obtain ⟨s, e, l, k⟩ := laws_szPermitS_ok ps 1000000 (by omega) (by omega) h
    refine ⟨s, e, fun hs => ?_⟩
    obtain ⟨_, o⟩ := k hs
    obtain ⟨n, hn, h1, h2⟩ := laws_toPermitS_val ps o
    obtain ⟨f0, t, c, i⟩ := laws_toPermitS_both ps o
    have hf0 : ∀ b, (f0 b).1 = ps.map (dPrm b) := fun b => by
      have := (t b).symm.trans (h2 b)
      simp only [Option.some.injEq] at this
      rw [this]
    obtain ⟨q1, q2⟩ := FewestPermits_both ps fr to o
    have hpl : ps.length ≤ 1000000 := o.1
    have hlen := fewR_len ps fr to
    have hRl : (fewR ps fr to).1.length ≤ 1000000 := by omega
    refine ⟨f0, fewR ps fr to, t, c, i, q1, q2, laws_eqInt64S_self _ (by omega), hRl, ?_, ?_, ?_⟩
    · have hk : ∀ m ∈ (f0 false).1.map kindsN, m ≤ 1000000 := fun m hm => by
        rw [hf0, List.map_map] at hm
        obtain ⟨x, hx, rfl⟩ := List.mem_map.1 hm
        have hok := o.2 x hx
        have := (dPrm_ok false x hok).2
        have h5 : (dPrm false x).2.2.2.2.1.1 = x.2.2.2.2.1 := congrArg (fun y : PrmP => y.2.2.2.2.1) this
        show (dPrm false x).2.2.2.2.1.1.length ≤ 1000000
        rw [h5]
        exact hok.2.2.2.2.1.1
      have h3 := tot_le 1000000 _ hk
      rw [hf0, List.length_map, List.length_map] at h3
      rw [hf0]
      have h4 : ps.length * (1000000 + 5) ≤ 1000000 * (1000000 + 5) := Nat.mul_le_mul_right _ hpl
      omega
    · rw [hf0, List.length_map]; exact hpl
    · have h6 := held_loop 101 (fewR ps fr to).1.length (by omega) (by omega) (fewR ps fr to).1.length 0 NN (by omega) (NN_lt (by omega))
      have e1 : (101 : Int) + ((0 : Nat) : Int) = 101 := by omega
      rw [e1] at h6
      exact h6
end Go.Ev.Try

namespace Go.Ev.Try
open Go.Proofs Go.Pl Go.RowKit Go.WideShapes
set_option linter.unusedVariables false
set_option linter.unusedSimpArgs false
theorem posok : posB tab = true := by kernel_rfl
theorem law_call {H : Type} {enc : TypeId × Value → H} {w : World} {base : Nat} {spare : Nat → Bool} {held : Bool} {r : Reach} {b0 : Nat} {args : Array Value} {ds : List (DataW H)} {p : List MemPlace} (h : DataW.TrodAll enc Try.prog w base spare held [22, 2, 2] args.toList ds p)
    (hval : ∀ (j : Nat) t v, ([22, 2, 2] : List TypeId)[j]? = some t → args[j]? = some v → Value.okWide Try.prog w r b0 t v) {vt : List TypeId} {gs : List (DataW H)} (hgs : vt = [] ∨ gs = []) (hw : (DataW.weightsEach Try.prog ([22, 2, 2] ++ vt) (ds ++ gs)).all (· ≤ reachBytes) = true) (hl : ([22, 2, 2] : List TypeId).length = ds.length) (hz : w.noneFrozen p) :
    Calls Try.prog 3 args w fun e w' => e = .returned (.bool true) ∧ Below w.heap.size w w' := by
  have key : ∀ (ts : List TypeId) (ds : List (DataW H)), ts.length = ds.length → ∀ m ∈ DataW.weightsEach Try.prog ts ds, m ∈ DataW.weightsEach Try.prog (ts ++ vt) (ds ++ gs) := by
    intro ts
    induction ts with
    | nil => intro ds hl m hm; cases ds <;> simp [DataW.weightsEach] at hm
    | cons t ts ih =>
      intro ds hl m hm
      cases ds with
      | nil => simp [DataW.weightsEach] at hm
      | cons d ds =>
        simp only [List.cons_append, DataW.weightsEach, List.mem_append] at hm ⊢
        rcases hm with hm | hm
        · exact .inl hm
        · exact .inr (ih ds (by simpa using hl) m hm)
  obtain ⟨x, h1, h2⟩ := args_ks (tab_sound (ok_all tabok)).1 (bytes_sound tabok) (posB_sound posok) [22, 2, 2] [.sl 36 PT, .int .i64, .int .i64] args.toList ds p (by kernel_rfl) h (fun j t v hj hv => hval j t v hj (by simpa using hv)) (fun m hm => by
    have := List.all_eq_true.1 hw m (key _ ds hl m hm)
    simpa using this) hz
  obtain ⟨ps, fr, to⟩ := x
  have h3 : Plain (.sl 36 PT) ps := fit_plain _ _ (by kernel_rfl) h2.1
  obtain ⟨v0, l0, g0, g0', e0, _, ⟨_, cs, ⟨A, c, rfl, hc, hA⟩, k1⟩, v1, l1, g1, g1', rfl, _, ⟨_, cs1, k2, k3⟩, v2, l2, g2, g2', rfl, _, ⟨_, cs2, k4, k5⟩, rfl, _⟩ := h1
  have k2 : cs1 = [.int .i64 fr] := k2
  have k4 : cs2 = [.int .i64 to] := k4
  have q0 := val_one rfl k1
  have q1 := val_one rfl k3
  have q2 := val_one rfl k5
  rw [k2] at q1
  rw [k4] at q2
  simp only [List.cons.injEq, and_true] at q0 q1 q2
  subst q0 q1 q2
  have ha : args = #[.slice A ps.length c, .int .i64 fr, .int .i64 to] := by apply Array.ext'; exact e0
  rw [ha]
  exact law_at hA hc (lawF ps fr to h3)
end Go.Ev.Try
