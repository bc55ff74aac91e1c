import Derived.Test.YtlggajipoionjaaQ72
/-! The printed functions without rounds: limits over the number of rounds, and their equations. Written by a program of this session (free.py). -/
namespace Go.Proofs.Ytlggajipoionjaa.Q
open Go.RowKit Go.Proofs.YtlggajipoionjaaW.PrintWords Go.Proofs.YtlggajipoionjaaW.PrintLast Go.Proofs.YtlggajipoionjaaW.PrintMore
set_option linter.unusedVariables false
set_option linter.unusedSimpArgs false

open Classical in
/-- What more and more rounds come to. -/
noncomputable def Lim {α : Type} (g : Nat → Option α) : Option α := if h : ∃ r, ∃ k, g k = some r then some h.choose else none
theorem Lim_some {α : Type} {g : Nat → Option α} (hg : ∀ k, LeO (g k) (g (k + 1))) {k : Nat} {r : α} (h : g k = some r) : Lim g = some r := by
  have e : ∃ r, ∃ k, g k = some r := ⟨r, k, h⟩
  unfold Lim
  rw [dif_pos e]
  obtain ⟨k', h'⟩ := e.choose_spec
  have h1 := at_rounds hg (Nat.le_max_left k k') h
  have h2 := at_rounds hg (Nat.le_max_right k k') h'
  rw [h1] at h2
  exact h2.symm
theorem of_Lim {α : Type} {g : Nat → Option α} {r : α} (h : Lim g = some r) : ∃ k, g k = some r := by
  unfold Lim at h
  split at h
  · rename_i e
    obtain ⟨k, hk⟩ := e.choose_spec
    exact ⟨k, by rw [hk, h]⟩
  · cases h
def Lm {α : Type} (g : Nat → Option α) (r : Option α) : Prop := (∀ k, LeO (g k) (g (k + 1))) ∧ Lim g = r
theorem Lm.of {α : Type} {g : Nat → Option α} (hg : ∀ k, LeO (g k) (g (k + 1))) : Lm g (Lim g) := ⟨hg, rfl⟩
theorem Lm.const {α : Type} (a : Option α) : Lm (fun _ => a) a := by
  refine ⟨fun _ => LeO.refl _, ?_⟩
  cases a with
  | none =>
    unfold Lim
    rw [dif_neg (by rintro ⟨_, _, h⟩; cases h)]
  | some r => exact Lim_some (fun _ => LeO.refl _) (k := 0) rfl
theorem Lm.ite {α : Type} {c : Prop} [Decidable c] {a b : Nat → Option α} {a' b' : Option α} (h : Lm a a') (k : Lm b b') : Lm (fun n => if c then a n else b n) (if c then a' else b') := by
  by_cases hc : c
  · simp only [if_pos hc]; exact h
  · simp only [if_neg hc]; exact k
theorem Lm.bind {α β : Type} {g : Nat → Option α} {f : Nat → α → Option β} {g' : Option α} {f' : α → Option β} (h : Lm g g') (k : ∀ x, Lm (fun n => f n x) (f' x)) : Lm (fun n => (g n).bind (f n)) (g'.bind f') := by
  have hm : ∀ n, LeO ((g n).bind (f n)) ((g (n + 1)).bind (f (n + 1))) := fun n => LeO.bind (h.1 n) (fun x => (k x).1 n)
  refine ⟨hm, ?_⟩
  obtain ⟨hg, rfl⟩ := h
  cases e : Lim g with
  | none =>
    rw [Option.bind_none]
    cases e' : Lim (fun n => (g n).bind (f n)) with
    | none => rfl
    | some r =>
      obtain ⟨n, hn⟩ := of_Lim e'
      obtain ⟨x, hx, _⟩ := Option.bind_eq_some_iff.mp hn
      rw [Lim_some hg hx] at e
      cases e
  | some x =>
    rw [Option.bind_some]
    obtain ⟨n, hn⟩ := of_Lim e
    have kx := k x
    cases e2 : f' x with
    | none =>
      cases e' : Lim (fun n => (g n).bind (f n)) with
      | none => rfl
      | some r =>
        obtain ⟨m, hm'⟩ := of_Lim e'
        obtain ⟨y, hy, hy'⟩ := Option.bind_eq_some_iff.mp hm'
        have hxy := Lim_some hg hy
        rw [e] at hxy
        cases hxy
        have := Lim_some kx.1 hy'
        rw [kx.2, e2] at this
        cases this
    | some r =>
      obtain ⟨m, hm'⟩ := of_Lim (kx.2.trans e2)
      refine Lim_some hm (k := max n m) ?_
      rw [at_rounds hg (Nat.le_max_left n m) hn, Option.bind_some]
      exact at_rounds kx.1 (Nat.le_max_right n m) hm'
theorem Lm.succ {α : Type} {g f : Nat → Option α} {r : Option α} (hg : ∀ k, LeO (g k) (g (k + 1))) (h : ∀ k, g (k + 1) = f k) (k : Lm f r) : Lim g = r := by
  obtain ⟨hf, rfl⟩ := k
  cases e : Lim f with
  | none =>
    cases e' : Lim g with
    | none => rfl
    | some x =>
      obtain ⟨n, hn⟩ := of_Lim e'
      have := hg n _ hn
      rw [h] at this
      rw [Lim_some hf this] at e
      cases e
  | some x =>
    obtain ⟨n, hn⟩ := of_Lim e
    rw [← h] at hn
    exact Lim_some hg hn
theorem Lm.eqs {α : Type} {g f : Nat → Option α} {r : Option α} (h : ∀ k, g k = f k) (k : Lm f r) : Lim g = r := by
  have : g = f := funext h
  rw [this]; exact k.2

noncomputable def spec_l01Words.l0L (x0 : List ByteArray) (x1 : ByteArray) (x5 : ByteArray) (x6 : Int) : Option (ByteArray) := Lim (fun k => spec_l01Words.l0 k x0 x1 x5 x6)
theorem spec_l01Words.l0_lm (x0 : List ByteArray) (x1 : ByteArray) (x5 : ByteArray) (x6 : Int) : Lm (fun k => spec_l01Words.l0 k x0 x1 x5 x6) (spec_l01Words.l0L x0 x1 x5 x6) := Lm.of (fun k => (spec_l01Words.mono_l k) _ _ _ _)
noncomputable def spec_l01Words.fL (l0 : List ByteArray) (a1 : ByteArray) : Option (ByteArray) := Lim (fun k => spec_l01Words.f k l0 a1)
theorem spec_l01Words.f_lm (l0 : List ByteArray) (a1 : ByteArray) : Lm (fun k => spec_l01Words.f k l0 a1) (spec_l01Words.fL l0 a1) := Lm.of (fun k => spec_l01Words.mono _ _ k)
noncomputable def laws_eqBoolS.l0L (x0 : List Bool) (x1 : List Bool) (x5 : Int) : Option (Bool) := Lim (fun k => laws_eqBoolS.l0 k x0 x1 x5)
theorem laws_eqBoolS.l0_lm (x0 : List Bool) (x1 : List Bool) (x5 : Int) : Lm (fun k => laws_eqBoolS.l0 k x0 x1 x5) (laws_eqBoolS.l0L x0 x1 x5) := Lm.of (fun k => (laws_eqBoolS.mono_l k) _ _ _)
noncomputable def laws_eqBoolS.fL (l0 : List Bool) (l1 : List Bool) : Option (Bool) := Lim (fun k => laws_eqBoolS.f k l0 l1)
theorem laws_eqBoolS.f_lm (l0 : List Bool) (l1 : List Bool) : Lm (fun k => laws_eqBoolS.f k l0 l1) (laws_eqBoolS.fL l0 l1) := Lm.of (fun k => laws_eqBoolS.mono _ _ k)
noncomputable def spec_l01Split.l0L (x0 : ByteArray) (x1 : Int) (x5 : List ByteArray) (x6 : Int) (x7 : Int) : Option (List ByteArray) := Lim (fun k => spec_l01Split.l0 k x0 x1 x5 x6 x7)
theorem spec_l01Split.l0_lm (x0 : ByteArray) (x1 : Int) (x5 : List ByteArray) (x6 : Int) (x7 : Int) : Lm (fun k => spec_l01Split.l0 k x0 x1 x5 x6 x7) (spec_l01Split.l0L x0 x1 x5 x6 x7) := Lm.of (fun k => (spec_l01Split.mono_l k) _ _ _ _ _)
noncomputable def spec_l01Split.fL (a0 : ByteArray) (a1 : Int) : Option (List ByteArray) := Lim (fun k => spec_l01Split.f k a0 a1)
theorem spec_l01Split.f_lm (a0 : ByteArray) (a1 : Int) : Lm (fun k => spec_l01Split.f k a0 a1) (spec_l01Split.fL a0 a1) := Lm.of (fun k => spec_l01Split.mono _ _ k)
noncomputable def spec_l31Text.l0L (x3 : List ByteArray) (x4 : Int) (x413000 : Int) (x413001 : Int) (x413002 : List Bool) : Option (ByteArray) := Lim (fun k => spec_l31Text.l0 k x3 x4 x413000 x413001 x413002)
theorem spec_l31Text.l0_lm (x3 : List ByteArray) (x4 : Int) (x413000 : Int) (x413001 : Int) (x413002 : List Bool) : Lm (fun k => spec_l31Text.l0 k x3 x4 x413000 x413001 x413002) (spec_l31Text.l0L x3 x4 x413000 x413001 x413002) := Lm.of (fun k => (spec_l31Text.mono_l k).1 _ _ _ _ _)
noncomputable def spec_l31Text.l1L (x3 : List ByteArray) (x4 : Int) (x5 : ByteArray) (x6 : Int) (x413000 : Int) (x413001 : Int) (x413002 : List Bool) : Option (ByteArray) := Lim (fun k => spec_l31Text.l1 k x3 x4 x5 x6 x413000 x413001 x413002)
theorem spec_l31Text.l1_lm (x3 : List ByteArray) (x4 : Int) (x5 : ByteArray) (x6 : Int) (x413000 : Int) (x413001 : Int) (x413002 : List Bool) : Lm (fun k => spec_l31Text.l1 k x3 x4 x5 x6 x413000 x413001 x413002) (spec_l31Text.l1L x3 x4 x5 x6 x413000 x413001 x413002) := Lm.of (fun k => (spec_l31Text.mono_l k).2 _ _ _ _ _ _ _)
noncomputable def spec_l31Text.fL (a0_0 : Int) (a0_1 : Int) (l0_2 : List Bool) : Option (ByteArray) := Lim (fun k => spec_l31Text.f k a0_0 a0_1 l0_2)
theorem spec_l31Text.f_lm (a0_0 : Int) (a0_1 : Int) (l0_2 : List Bool) : Lm (fun k => spec_l31Text.f k a0_0 a0_1 l0_2) (spec_l31Text.fL a0_0 a0_1 l0_2) := Lm.of (fun k => spec_l31Text.mono _ _ _ k)
noncomputable def spec_ReadGrid.l0L (x0 : ByteArray) (x6 : Int) (x430000 : Int) (x430001 : Int) (x430002 : List Bool) : Option (Int × Int × List Bool × Int) := Lim (fun k => spec_ReadGrid.l0 k x0 x6 x430000 x430001 x430002)
theorem spec_ReadGrid.l0_lm (x0 : ByteArray) (x6 : Int) (x430000 : Int) (x430001 : Int) (x430002 : List Bool) : Lm (fun k => spec_ReadGrid.l0 k x0 x6 x430000 x430001 x430002) (spec_ReadGrid.l0L x0 x6 x430000 x430001 x430002) := Lm.of (fun k => (spec_ReadGrid.mono_l k) _ _ _ _ _)
noncomputable def spec_ReadGrid.fL (a0 : ByteArray) : Option (Int × Int × List Bool × Int) := Lim (fun k => spec_ReadGrid.f k a0)
theorem spec_ReadGrid.f_lm (a0 : ByteArray) : Lm (fun k => spec_ReadGrid.f k a0) (spec_ReadGrid.fL a0) := Lm.of (fun k => spec_ReadGrid.mono _ k)
noncomputable def impl_splitAt.l0L (x0 : ByteArray) (x1 : Int) (x5 : List ByteArray) (x6 : Int) (x7 : Int) : Option (List ByteArray) := Lim (fun k => impl_splitAt.l0 k x0 x1 x5 x6 x7)
theorem impl_splitAt.l0_lm (x0 : ByteArray) (x1 : Int) (x5 : List ByteArray) (x6 : Int) (x7 : Int) : Lm (fun k => impl_splitAt.l0 k x0 x1 x5 x6 x7) (impl_splitAt.l0L x0 x1 x5 x6 x7) := Lm.of (fun k => (impl_splitAt.mono_l k) _ _ _ _ _)
noncomputable def impl_splitAt.fL (a0 : ByteArray) (a1 : Int) : Option (List ByteArray) := Lim (fun k => impl_splitAt.f k a0 a1)
theorem impl_splitAt.f_lm (a0 : ByteArray) (a1 : Int) : Lm (fun k => impl_splitAt.f k a0 a1) (impl_splitAt.fL a0 a1) := Lm.of (fun k => impl_splitAt.mono _ _ k)
noncomputable def impl_ReadGrid.j0L (x4 : List ByteArray) (x27 : Bool) (x447000 : Int) (x447001 : Int) : Option (Int × Int × List Bool × Int) := Lim (fun k => impl_ReadGrid.j0 k x4 x27 x447000 x447001)
theorem impl_ReadGrid.j0_lm (x4 : List ByteArray) (x27 : Bool) (x447000 : Int) (x447001 : Int) : Lm (fun k => impl_ReadGrid.j0 k x4 x27 x447000 x447001) (impl_ReadGrid.j0L x4 x27 x447000 x447001) := Lm.of (fun k => (impl_ReadGrid.mono_l k).1 _ _ _ _)
noncomputable def impl_ReadGrid.l0L (x29 : List ByteArray) (x30 : Int) (x31 : Int) (x447000 : Int) (x447001 : Int) (x447002 : List Bool) : Option (Int × Int × List Bool × Int) := Lim (fun k => impl_ReadGrid.l0 k x29 x30 x31 x447000 x447001 x447002)
theorem impl_ReadGrid.l0_lm (x29 : List ByteArray) (x30 : Int) (x31 : Int) (x447000 : Int) (x447001 : Int) (x447002 : List Bool) : Lm (fun k => impl_ReadGrid.l0 k x29 x30 x31 x447000 x447001 x447002) (impl_ReadGrid.l0L x29 x30 x31 x447000 x447001 x447002) := Lm.of (fun k => (impl_ReadGrid.mono_l k).2.1 _ _ _ _ _ _)
noncomputable def impl_ReadGrid.l1L (x7 : ByteArray) (x8 : Int) (x29 : List ByteArray) (x30 : Int) (x31 : Int) (x447000 : Int) (x447001 : Int) (x447002 : List Bool) : Option (Int × Int × List Bool × Int) := Lim (fun k => impl_ReadGrid.l1 k x7 x8 x29 x30 x31 x447000 x447001 x447002)
theorem impl_ReadGrid.l1_lm (x7 : ByteArray) (x8 : Int) (x29 : List ByteArray) (x30 : Int) (x31 : Int) (x447000 : Int) (x447001 : Int) (x447002 : List Bool) : Lm (fun k => impl_ReadGrid.l1 k x7 x8 x29 x30 x31 x447000 x447001 x447002) (impl_ReadGrid.l1L x7 x8 x29 x30 x31 x447000 x447001 x447002) := Lm.of (fun k => (impl_ReadGrid.mono_l k).2.2 _ _ _ _ _ _ _ _)
noncomputable def impl_ReadGrid.fL (a0 : ByteArray) : Option (Int × Int × List Bool × Int) := Lim (fun k => impl_ReadGrid.f k a0)
theorem impl_ReadGrid.f_lm (a0 : ByteArray) : Lm (fun k => impl_ReadGrid.f k a0) (impl_ReadGrid.fL a0) := Lm.of (fun k => impl_ReadGrid.mono _ k)
noncomputable def laws_eqGrid.fL (a0_0 : Int) (a0_1 : Int) (l0_2 : List Bool) (a1_0 : Int) (a1_1 : Int) (l1_2 : List Bool) : Option (Bool) := Lim (fun k => laws_eqGrid.f k a0_0 a0_1 l0_2 a1_0 a1_1 l1_2)
theorem laws_eqGrid.f_lm (a0_0 : Int) (a0_1 : Int) (l0_2 : List Bool) (a1_0 : Int) (a1_1 : Int) (l1_2 : List Bool) : Lm (fun k => laws_eqGrid.f k a0_0 a0_1 l0_2 a1_0 a1_1 l1_2) (laws_eqGrid.fL a0_0 a0_1 l0_2 a1_0 a1_1 l1_2) := Lm.of (fun k => laws_eqGrid.mono _ _ _ _ _ _ k)
noncomputable def laws_markBoolS.l0L (x0 : List Bool) (x1 : Int) (x5 : Int) : Option (Int × List Bool) := Lim (fun k => laws_markBoolS.l0 k x0 x1 x5)
theorem laws_markBoolS.l0_lm (x0 : List Bool) (x1 : Int) (x5 : Int) : Lm (fun k => laws_markBoolS.l0 k x0 x1 x5) (laws_markBoolS.l0L x0 x1 x5) := Lm.of (fun k => (laws_markBoolS.mono_l k) _ _ _)
noncomputable def laws_markBoolS.fL (l0 : List Bool) (a1 : Int) : Option (Int × List Bool) := Lim (fun k => laws_markBoolS.f k l0 a1)
theorem laws_markBoolS.f_lm (l0 : List Bool) (a1 : Int) : Lm (fun k => laws_markBoolS.f k l0 a1) (laws_markBoolS.fL l0 a1) := Lm.of (fun k => laws_markBoolS.mono _ _ k)
noncomputable def laws_markGrid.fL (a0_0 : Int) (a0_1 : Int) (l0_2 : List Bool) (a1 : Int) : Option (Int × List Bool) := Lim (fun k => laws_markGrid.f k a0_0 a0_1 l0_2 a1)
theorem laws_markGrid.f_lm (a0_0 : Int) (a0_1 : Int) (l0_2 : List Bool) (a1 : Int) : Lm (fun k => laws_markGrid.f k a0_0 a0_1 l0_2 a1) (laws_markGrid.fL a0_0 a0_1 l0_2 a1) := Lm.of (fun k => laws_markGrid.mono _ _ _ _ k)
noncomputable def laws_heldBoolS.l0L (x0 : List Bool) (x1 : Int) (x5 : Int) : Option (Int) := Lim (fun k => laws_heldBoolS.l0 k x0 x1 x5)
theorem laws_heldBoolS.l0_lm (x0 : List Bool) (x1 : Int) (x5 : Int) : Lm (fun k => laws_heldBoolS.l0 k x0 x1 x5) (laws_heldBoolS.l0L x0 x1 x5) := Lm.of (fun k => (laws_heldBoolS.mono_l k) _ _ _)
noncomputable def laws_heldBoolS.fL (l0 : List Bool) (a1 : Int) : Option (Int) := Lim (fun k => laws_heldBoolS.f k l0 a1)
theorem laws_heldBoolS.f_lm (l0 : List Bool) (a1 : Int) : Lm (fun k => laws_heldBoolS.f k l0 a1) (laws_heldBoolS.fL l0 a1) := Lm.of (fun k => laws_heldBoolS.mono _ _ k)
noncomputable def laws_heldGrid.fL (a0_0 : Int) (a0_1 : Int) (l0_2 : List Bool) (a1 : Int) : Option (Int) := Lim (fun k => laws_heldGrid.f k a0_0 a0_1 l0_2 a1)
theorem laws_heldGrid.f_lm (a0_0 : Int) (a0_1 : Int) (l0_2 : List Bool) (a1 : Int) : Lm (fun k => laws_heldGrid.f k a0_0 a0_1 l0_2 a1) (laws_heldGrid.fL a0_0 a0_1 l0_2 a1) := Lm.of (fun k => laws_heldGrid.mono _ _ _ _ k)
noncomputable def laws_FnExactReadGrid.j0L (x0 : ByteArray) (x4 : Int) (x32 : Bool) (x473000 : Int) (x473001 : Int) (x473002 : List Bool) (x480000 : Int) (x480001 : Int) (x480002 : List Bool) : Option (Bool) := Lim (fun k => laws_FnExactReadGrid.j0 k x0 x4 x32 x473000 x473001 x473002 x480000 x480001 x480002)
theorem laws_FnExactReadGrid.j0_lm (x0 : ByteArray) (x4 : Int) (x32 : Bool) (x473000 : Int) (x473001 : Int) (x473002 : List Bool) (x480000 : Int) (x480001 : Int) (x480002 : List Bool) : Lm (fun k => laws_FnExactReadGrid.j0 k x0 x4 x32 x473000 x473001 x473002 x480000 x480001 x480002) (laws_FnExactReadGrid.j0L x0 x4 x32 x473000 x473001 x473002 x480000 x480001 x480002) := Lm.of (fun k => (laws_FnExactReadGrid.mono_l k).1 _ _ _ _ _ _ _ _ _)
noncomputable def laws_FnExactReadGrid.j1L (x7 : Int) (x57 : Bool) (x480000 : Int) (x480001 : Int) (x480002 : List Bool) : Option (Bool) := Lim (fun k => laws_FnExactReadGrid.j1 k x7 x57 x480000 x480001 x480002)
theorem laws_FnExactReadGrid.j1_lm (x7 : Int) (x57 : Bool) (x480000 : Int) (x480001 : Int) (x480002 : List Bool) : Lm (fun k => laws_FnExactReadGrid.j1 k x7 x57 x480000 x480001 x480002) (laws_FnExactReadGrid.j1L x7 x57 x480000 x480001 x480002) := Lm.of (fun k => (laws_FnExactReadGrid.mono_l k).2 _ _ _ _ _)
noncomputable def laws_FnExactReadGrid.fL (a0 : ByteArray) : Option (Bool) := Lim (fun k => laws_FnExactReadGrid.f k a0)
theorem laws_FnExactReadGrid.f_lm (a0 : ByteArray) : Lm (fun k => laws_FnExactReadGrid.f k a0) (laws_FnExactReadGrid.fL a0) := Lm.of (fun k => laws_FnExactReadGrid.mono _ k)
theorem spec_l01Words.l0L_eq (x0 : List ByteArray) (x1 : ByteArray) (x5 : ByteArray) (x6 : Int) : spec_l01Words.l0L x0 x1 x5 x6 = if x6 < (x0.length : Int) then (if x6 > 0 then (if x5.size + x1.size ≤ 9223372036854775807 then (if 0 ≤ x6 then (if (x5 ++ x1).size + (rdOf ByteArray.empty x0 x6).size ≤ 9223372036854775807 then (spec_l01Words.l0L x0 x1 ((x5 ++ x1) ++ (rdOf ByteArray.empty x0 x6)) (wrap64 (x6 + 1))) else (none)) else (none)) else (none)) else (if 0 ≤ x6 then (if x5.size + (rdOf ByteArray.empty x0 x6).size ≤ 9223372036854775807 then (spec_l01Words.l0L x0 x1 (x5 ++ (rdOf ByteArray.empty x0 x6)) (wrap64 (x6 + 1))) else (none)) else (none))) else (some x5) := by
  refine Lm.succ (f := fun k => if x6 < (x0.length : Int) then (if x6 > 0 then (if x5.size + x1.size ≤ 9223372036854775807 then (if 0 ≤ x6 then (if (x5 ++ x1).size + (rdOf ByteArray.empty x0 x6).size ≤ 9223372036854775807 then (spec_l01Words.l0 k x0 x1 ((x5 ++ x1) ++ (rdOf ByteArray.empty x0 x6)) (wrap64 (x6 + 1))) else (none)) else (none)) else (none)) else (if 0 ≤ x6 then (if x5.size + (rdOf ByteArray.empty x0 x6).size ≤ 9223372036854775807 then (spec_l01Words.l0 k x0 x1 (x5 ++ (rdOf ByteArray.empty x0 x6)) (wrap64 (x6 + 1))) else (none)) else (none))) else (some x5)) (spec_l01Words.l0_lm x0 x1 x5 x6).1 (fun k => by rw [spec_l01Words.l0]) ?_
  repeat' first | (with_reducible exact Lm.const _) | (with_reducible exact spec_l01Words.l0_lm _ _ _ _) | (with_reducible refine Lm.ite ?_ ?_) | (with_reducible refine Lm.bind ?_ (fun _ => ?_)) | exact spec_l01Words.l0_lm _ _ _ _ | exact Lm.const _ | refine Lm.ite ?_ ?_ | refine Lm.bind ?_ (fun _ => ?_)
theorem spec_l01Words.fL_eq (l0 : List ByteArray) (a1 : ByteArray) : spec_l01Words.fL l0 a1 = spec_l01Words.l0L l0 a1 (⟨#[]⟩ : ByteArray) 0 := by
  refine Lm.eqs (f := fun k => spec_l01Words.l0 k l0 a1 (⟨#[]⟩ : ByteArray) 0) (fun k => rfl) ?_
  repeat' first | (with_reducible exact Lm.const _) | (with_reducible exact spec_l01Words.l0_lm _ _ _ _) | (with_reducible refine Lm.ite ?_ ?_) | (with_reducible refine Lm.bind ?_ (fun _ => ?_)) | exact spec_l01Words.l0_lm _ _ _ _ | exact Lm.const _ | refine Lm.ite ?_ ?_ | refine Lm.bind ?_ (fun _ => ?_)
theorem laws_eqBoolS.l0L_eq (x0 : List Bool) (x1 : List Bool) (x5 : Int) : laws_eqBoolS.l0L x0 x1 x5 = if x5 < (x0.length : Int) then (if 0 ≤ x5 then (if x5 < (x1.length : Int) then (if ((rdOf false x0 x5) != (rdOf false x1 x5)) = true then (some false) else (laws_eqBoolS.l0L x0 x1 (wrap64 (x5 + 1)))) else (none)) else (none)) else (some true) := by
  refine Lm.succ (f := fun k => if x5 < (x0.length : Int) then (if 0 ≤ x5 then (if x5 < (x1.length : Int) then (if ((rdOf false x0 x5) != (rdOf false x1 x5)) = true then (some false) else (laws_eqBoolS.l0 k x0 x1 (wrap64 (x5 + 1)))) else (none)) else (none)) else (some true)) (laws_eqBoolS.l0_lm x0 x1 x5).1 (fun k => by rw [laws_eqBoolS.l0]) ?_
  repeat' first | (with_reducible exact Lm.const _) | (with_reducible exact laws_eqBoolS.l0_lm _ _ _) | (with_reducible refine Lm.ite ?_ ?_) | (with_reducible refine Lm.bind ?_ (fun _ => ?_)) | exact laws_eqBoolS.l0_lm _ _ _ | exact Lm.const _ | refine Lm.ite ?_ ?_ | refine Lm.bind ?_ (fun _ => ?_)
theorem laws_eqBoolS.fL_eq (l0 : List Bool) (l1 : List Bool) : laws_eqBoolS.fL l0 l1 = if (l0.length : Int) = (l1.length : Int) then (laws_eqBoolS.l0L l0 l1 0) else (some false) := by
  refine Lm.eqs (f := fun k => if (l0.length : Int) = (l1.length : Int) then (laws_eqBoolS.l0 k l0 l1 0) else (some false)) (fun k => rfl) ?_
  repeat' first | (with_reducible exact Lm.const _) | (with_reducible exact laws_eqBoolS.l0_lm _ _ _) | (with_reducible refine Lm.ite ?_ ?_) | (with_reducible refine Lm.bind ?_ (fun _ => ?_)) | exact laws_eqBoolS.l0_lm _ _ _ | exact Lm.const _ | refine Lm.ite ?_ ?_ | refine Lm.bind ?_ (fun _ => ?_)
theorem spec_l01Split.l0L_eq (x0 : ByteArray) (x1 : Int) (x5 : List ByteArray) (x6 : Int) (x7 : Int) : spec_l01Split.l0L x0 x1 x5 x6 x7 = if x7 ≤ (x0.size : Int) then (if x7 = (x0.size : Int) then (if 0 ≤ x6 then (if x6 ≤ x7 then (if x5.length < 8796093022208 then (spec_l01Split.l0L x0 x1 (x5 ++ [x0.extract (x6 : Int).toNat (x7 : Int).toNat]) (wrap64 (x7 + 1)) (wrap64 (x7 + 1))) else (none)) else (none)) else (none)) else (if 0 ≤ x7 then (if x7 < (x0.size : Int) then (if (bt x0 x7) = x1 then (if 0 ≤ x6 then (if x6 ≤ x7 then (if x5.length < 8796093022208 then (spec_l01Split.l0L x0 x1 (x5 ++ [x0.extract (x6 : Int).toNat (x7 : Int).toNat]) (wrap64 (x7 + 1)) (wrap64 (x7 + 1))) else (none)) else (none)) else (none)) else (spec_l01Split.l0L x0 x1 x5 x6 (wrap64 (x7 + 1)))) else (none)) else (none))) else (some x5) := by
  refine Lm.succ (f := fun k => if x7 ≤ (x0.size : Int) then (if x7 = (x0.size : Int) then (if 0 ≤ x6 then (if x6 ≤ x7 then (if x5.length < 8796093022208 then (spec_l01Split.l0 k x0 x1 (x5 ++ [x0.extract (x6 : Int).toNat (x7 : Int).toNat]) (wrap64 (x7 + 1)) (wrap64 (x7 + 1))) else (none)) else (none)) else (none)) else (if 0 ≤ x7 then (if x7 < (x0.size : Int) then (if (bt x0 x7) = x1 then (if 0 ≤ x6 then (if x6 ≤ x7 then (if x5.length < 8796093022208 then (spec_l01Split.l0 k x0 x1 (x5 ++ [x0.extract (x6 : Int).toNat (x7 : Int).toNat]) (wrap64 (x7 + 1)) (wrap64 (x7 + 1))) else (none)) else (none)) else (none)) else (spec_l01Split.l0 k x0 x1 x5 x6 (wrap64 (x7 + 1)))) else (none)) else (none))) else (some x5)) (spec_l01Split.l0_lm x0 x1 x5 x6 x7).1 (fun k => by rw [spec_l01Split.l0]) ?_
  repeat' first | (with_reducible exact Lm.const _) | (with_reducible exact spec_l01Split.l0_lm _ _ _ _ _) | (with_reducible refine Lm.ite ?_ ?_) | (with_reducible refine Lm.bind ?_ (fun _ => ?_)) | exact spec_l01Split.l0_lm _ _ _ _ _ | exact Lm.const _ | refine Lm.ite ?_ ?_ | refine Lm.bind ?_ (fun _ => ?_)
theorem spec_l01Split.fL_eq (a0 : ByteArray) (a1 : Int) : spec_l01Split.fL a0 a1 = spec_l01Split.l0L a0 a1 (([] : List ByteArray)) 0 0 := by
  refine Lm.eqs (f := fun k => spec_l01Split.l0 k a0 a1 (([] : List ByteArray)) 0 0) (fun k => rfl) ?_
  repeat' first | (with_reducible exact Lm.const _) | (with_reducible exact spec_l01Split.l0_lm _ _ _ _ _) | (with_reducible refine Lm.ite ?_ ?_) | (with_reducible refine Lm.bind ?_ (fun _ => ?_)) | exact spec_l01Split.l0_lm _ _ _ _ _ | exact Lm.const _ | refine Lm.ite ?_ ?_ | refine Lm.bind ?_ (fun _ => ?_)
theorem spec_l31Text.l0L_eq (x3 : List ByteArray) (x4 : Int) (x413000 : Int) (x413001 : Int) (x413002 : List Bool) : spec_l31Text.l0L x3 x4 x413000 x413001 x413002 = if x4 < x413001 then (spec_l31Text.l1L x3 x4 (⟨#[]⟩ : ByteArray) 0 x413000 x413001 x413002) else ((spec_l01Words.fL x3 (⟨#[47]⟩ : ByteArray)).bind fun t416 => (some t416)) := by
  refine Lm.succ (f := fun k => if x4 < x413001 then (spec_l31Text.l1 k x3 x4 (⟨#[]⟩ : ByteArray) 0 x413000 x413001 x413002) else ((spec_l01Words.f k x3 (⟨#[47]⟩ : ByteArray)).bind fun t416 => (some t416))) (spec_l31Text.l0_lm x3 x4 x413000 x413001 x413002).1 (fun k => by rw [spec_l31Text.l0]) ?_
  repeat' first | (with_reducible exact Lm.const _) | (with_reducible exact spec_l31Text.l1_lm _ _ _ _ _ _ _) | (with_reducible exact spec_l01Words.f_lm _ _) | (with_reducible refine Lm.ite ?_ ?_) | (with_reducible refine Lm.bind ?_ (fun _ => ?_)) | exact spec_l31Text.l1_lm _ _ _ _ _ _ _ | exact spec_l01Words.f_lm _ _ | exact Lm.const _ | refine Lm.ite ?_ ?_ | refine Lm.bind ?_ (fun _ => ?_)
theorem spec_l31Text.l1L_eq (x3 : List ByteArray) (x4 : Int) (x5 : ByteArray) (x6 : Int) (x413000 : Int) (x413001 : Int) (x413002 : List Bool) : spec_l31Text.l1L x3 x4 x5 x6 x413000 x413001 x413002 = if x6 < x413000 then (if 0 ≤ (wrap64 ((wrap64 (x4 * x413000)) + x6)) then (if (wrap64 ((wrap64 (x4 * x413000)) + x6)) < (x413002.length : Int) then (if rdOf false x413002 (wrap64 ((wrap64 (x4 * x413000)) + x6)) = true then (if x5.size + 1 ≤ 9223372036854775807 then (spec_l31Text.l1L x3 x4 (x5 ++ (⟨#[35]⟩ : ByteArray)) (wrap64 (x6 + 1)) x413000 x413001 x413002) else (none)) else (if x5.size + 1 ≤ 9223372036854775807 then (spec_l31Text.l1L x3 x4 (x5 ++ (⟨#[46]⟩ : ByteArray)) (wrap64 (x6 + 1)) x413000 x413001 x413002) else (none))) else (none)) else (none)) else (if x3.length < 8796093022208 then (spec_l31Text.l0L (x3 ++ [x5]) (wrap64 (x4 + 1)) x413000 x413001 x413002) else (none)) := by
  refine Lm.succ (f := fun k => if x6 < x413000 then (if 0 ≤ (wrap64 ((wrap64 (x4 * x413000)) + x6)) then (if (wrap64 ((wrap64 (x4 * x413000)) + x6)) < (x413002.length : Int) then (if rdOf false x413002 (wrap64 ((wrap64 (x4 * x413000)) + x6)) = true then (if x5.size + 1 ≤ 9223372036854775807 then (spec_l31Text.l1 k x3 x4 (x5 ++ (⟨#[35]⟩ : ByteArray)) (wrap64 (x6 + 1)) x413000 x413001 x413002) else (none)) else (if x5.size + 1 ≤ 9223372036854775807 then (spec_l31Text.l1 k x3 x4 (x5 ++ (⟨#[46]⟩ : ByteArray)) (wrap64 (x6 + 1)) x413000 x413001 x413002) else (none))) else (none)) else (none)) else (if x3.length < 8796093022208 then (spec_l31Text.l0 k (x3 ++ [x5]) (wrap64 (x4 + 1)) x413000 x413001 x413002) else (none))) (spec_l31Text.l1_lm x3 x4 x5 x6 x413000 x413001 x413002).1 (fun k => by rw [spec_l31Text.l1]) ?_
  repeat' first | (with_reducible exact Lm.const _) | (with_reducible exact spec_l31Text.l1_lm _ _ _ _ _ _ _) | (with_reducible exact spec_l31Text.l0_lm _ _ _ _ _) | (with_reducible refine Lm.ite ?_ ?_) | (with_reducible refine Lm.bind ?_ (fun _ => ?_)) | exact spec_l31Text.l1_lm _ _ _ _ _ _ _ | exact spec_l31Text.l0_lm _ _ _ _ _ | exact Lm.const _ | refine Lm.ite ?_ ?_ | refine Lm.bind ?_ (fun _ => ?_)
theorem spec_l31Text.fL_eq (a0_0 : Int) (a0_1 : Int) (l0_2 : List Bool) : spec_l31Text.fL a0_0 a0_1 l0_2 = spec_l31Text.l0L (([] : List ByteArray)) 0 a0_0 a0_1 l0_2 := by
  refine Lm.eqs (f := fun k => spec_l31Text.l0 k (([] : List ByteArray)) 0 a0_0 a0_1 l0_2) (fun k => rfl) ?_
  repeat' first | (with_reducible exact Lm.const _) | (with_reducible exact spec_l31Text.l0_lm _ _ _ _ _) | (with_reducible refine Lm.ite ?_ ?_) | (with_reducible refine Lm.bind ?_ (fun _ => ?_)) | exact spec_l31Text.l0_lm _ _ _ _ _ | exact Lm.const _ | refine Lm.ite ?_ ?_ | refine Lm.bind ?_ (fun _ => ?_)
theorem spec_ReadGrid.l0L_eq (x0 : ByteArray) (x6 : Int) (x430000 : Int) (x430001 : Int) (x430002 : List Bool) : spec_ReadGrid.l0L x0 x6 x430000 x430001 x430002 = if x6 < (x0.size : Int) then (if 0 ≤ x6 then (if (bt x0 x6) = 47 then (spec_ReadGrid.l0L x0 (wrap64 (x6 + 1)) x430000 x430001 x430002) else (if x430002.length < 140737488355328 then (spec_ReadGrid.l0L x0 (wrap64 (x6 + 1)) x430000 x430001 (x430002 ++ [((bt x0 x6) == 35)])) else (none))) else (none)) else ((spec_IsGrid.f x430000 x430001 x430002).bind fun t433 => (if t433 = true then ((spec_l31Text.fL x430000 x430001 x430002).bind fun t434 => (if t434.toList = x0.toList then (some (x430000, x430001, x430002, 0)) else (some (0, 0, ([] : List Bool), 6)))) else (some (0, 0, ([] : List Bool), 6)))) := by
  refine Lm.succ (f := fun k => if x6 < (x0.size : Int) then (if 0 ≤ x6 then (if (bt x0 x6) = 47 then (spec_ReadGrid.l0 k x0 (wrap64 (x6 + 1)) x430000 x430001 x430002) else (if x430002.length < 140737488355328 then (spec_ReadGrid.l0 k x0 (wrap64 (x6 + 1)) x430000 x430001 (x430002 ++ [((bt x0 x6) == 35)])) else (none))) else (none)) else ((spec_IsGrid.f x430000 x430001 x430002).bind fun t433 => (if t433 = true then ((spec_l31Text.f k x430000 x430001 x430002).bind fun t434 => (if t434.toList = x0.toList then (some (x430000, x430001, x430002, 0)) else (some (0, 0, ([] : List Bool), 6)))) else (some (0, 0, ([] : List Bool), 6))))) (spec_ReadGrid.l0_lm x0 x6 x430000 x430001 x430002).1 (fun k => by rw [spec_ReadGrid.l0]) ?_
  repeat' first | (with_reducible exact Lm.const _) | (with_reducible exact spec_ReadGrid.l0_lm _ _ _ _ _) | (with_reducible exact spec_l31Text.f_lm _ _ _) | (with_reducible refine Lm.ite ?_ ?_) | (with_reducible refine Lm.bind ?_ (fun _ => ?_)) | exact spec_ReadGrid.l0_lm _ _ _ _ _ | exact spec_l31Text.f_lm _ _ _ | exact Lm.const _ | refine Lm.ite ?_ ?_ | refine Lm.bind ?_ (fun _ => ?_)
theorem spec_ReadGrid.fL_eq (a0 : ByteArray) : spec_ReadGrid.fL a0 = (spec_l01Split.fL a0 47).bind fun t422 => (if 0 < (t422.length : Int) then (spec_ReadGrid.l0L a0 0 ((rdOf ByteArray.empty t422 0).size : Int) (t422.length : Int) (([] : List Bool))) else (none)) := by
  refine Lm.eqs (f := fun k => (spec_l01Split.f k a0 47).bind fun t422 => (if 0 < (t422.length : Int) then (spec_ReadGrid.l0 k a0 0 ((rdOf ByteArray.empty t422 0).size : Int) (t422.length : Int) (([] : List Bool))) else (none))) (fun k => rfl) ?_
  repeat' first | (with_reducible exact Lm.const _) | (with_reducible exact spec_l01Split.f_lm _ _) | (with_reducible exact spec_ReadGrid.l0_lm _ _ _ _ _) | (with_reducible refine Lm.ite ?_ ?_) | (with_reducible refine Lm.bind ?_ (fun _ => ?_)) | exact spec_l01Split.f_lm _ _ | exact spec_ReadGrid.l0_lm _ _ _ _ _ | exact Lm.const _ | refine Lm.ite ?_ ?_ | refine Lm.bind ?_ (fun _ => ?_)
theorem impl_splitAt.l0L_eq (x0 : ByteArray) (x1 : Int) (x5 : List ByteArray) (x6 : Int) (x7 : Int) : impl_splitAt.l0L x0 x1 x5 x6 x7 = if x7 < (x0.size : Int) then (if 0 ≤ x7 then (if (bt x0 x7) = x1 then (if 0 ≤ x6 then (if x6 ≤ x7 then (if x7 ≤ (x0.size : Int) then (if x5.length < 8796093022208 then (impl_splitAt.l0L x0 x1 (x5 ++ [x0.extract (x6 : Int).toNat (x7 : Int).toNat]) (wrap64 (x7 + 1)) (wrap64 (x7 + 1))) else (none)) else (none)) else (none)) else (none)) else (impl_splitAt.l0L x0 x1 x5 x6 (wrap64 (x7 + 1)))) else (none)) else (if 0 ≤ x6 then (if x6 ≤ (x0.size : Int) then (if x5.length < 8796093022208 then (some (x5 ++ [x0.extract (x6 : Int).toNat x0.size])) else (none)) else (none)) else (none)) := by
  refine Lm.succ (f := fun k => if x7 < (x0.size : Int) then (if 0 ≤ x7 then (if (bt x0 x7) = x1 then (if 0 ≤ x6 then (if x6 ≤ x7 then (if x7 ≤ (x0.size : Int) then (if x5.length < 8796093022208 then (impl_splitAt.l0 k x0 x1 (x5 ++ [x0.extract (x6 : Int).toNat (x7 : Int).toNat]) (wrap64 (x7 + 1)) (wrap64 (x7 + 1))) else (none)) else (none)) else (none)) else (none)) else (impl_splitAt.l0 k x0 x1 x5 x6 (wrap64 (x7 + 1)))) else (none)) else (if 0 ≤ x6 then (if x6 ≤ (x0.size : Int) then (if x5.length < 8796093022208 then (some (x5 ++ [x0.extract (x6 : Int).toNat x0.size])) else (none)) else (none)) else (none))) (impl_splitAt.l0_lm x0 x1 x5 x6 x7).1 (fun k => by rw [impl_splitAt.l0]) ?_
  repeat' first | (with_reducible exact Lm.const _) | (with_reducible exact impl_splitAt.l0_lm _ _ _ _ _) | (with_reducible refine Lm.ite ?_ ?_) | (with_reducible refine Lm.bind ?_ (fun _ => ?_)) | exact impl_splitAt.l0_lm _ _ _ _ _ | exact Lm.const _ | refine Lm.ite ?_ ?_ | refine Lm.bind ?_ (fun _ => ?_)
theorem impl_splitAt.fL_eq (a0 : ByteArray) (a1 : Int) : impl_splitAt.fL a0 a1 = impl_splitAt.l0L a0 a1 ([] : List ByteArray) 0 0 := by
  refine Lm.eqs (f := fun k => impl_splitAt.l0 k a0 a1 ([] : List ByteArray) 0 0) (fun k => rfl) ?_
  repeat' first | (with_reducible exact Lm.const _) | (with_reducible exact impl_splitAt.l0_lm _ _ _ _ _) | (with_reducible refine Lm.ite ?_ ?_) | (with_reducible refine Lm.bind ?_ (fun _ => ?_)) | exact impl_splitAt.l0_lm _ _ _ _ _ | exact Lm.const _ | refine Lm.ite ?_ ?_ | refine Lm.bind ?_ (fun _ => ?_)
theorem impl_ReadGrid.j0L_eq (x4 : List ByteArray) (x27 : Bool) (x447000 : Int) (x447001 : Int) : impl_ReadGrid.j0L x4 x27 x447000 x447001 = if x27 = true then (some (0, 0, ([] : List Bool), 6)) else (impl_ReadGrid.l0L x4 (x4.length : Int) 0 x447000 x447001 ([] : List Bool)) := by
  refine Lm.succ (f := fun k => if x27 = true then (some (0, 0, ([] : List Bool), 6)) else (impl_ReadGrid.l0 k x4 (x4.length : Int) 0 x447000 x447001 ([] : List Bool))) (impl_ReadGrid.j0_lm x4 x27 x447000 x447001).1 (fun k => by rw [impl_ReadGrid.j0]) ?_
  repeat' first | (with_reducible exact Lm.const _) | (with_reducible exact impl_ReadGrid.l0_lm _ _ _ _ _ _) | (with_reducible refine Lm.ite ?_ ?_) | (with_reducible refine Lm.bind ?_ (fun _ => ?_)) | exact impl_ReadGrid.l0_lm _ _ _ _ _ _ | exact Lm.const _ | refine Lm.ite ?_ ?_ | refine Lm.bind ?_ (fun _ => ?_)
theorem impl_ReadGrid.l0L_eq (x29 : List ByteArray) (x30 : Int) (x31 : Int) (x447000 : Int) (x447001 : Int) (x447002 : List Bool) : impl_ReadGrid.l0L x29 x30 x31 x447000 x447001 x447002 = if x31 < x30 then (if 0 ≤ x31 then (if x31 < (x29.length : Int) then (if ((rdOf ByteArray.empty x29 x31).size : Int) = x447000 then (impl_ReadGrid.l1L (rdOf ByteArray.empty x29 x31) 0 x29 x30 x31 x447000 x447001 x447002) else (some (0, 0, ([] : List Bool), 6))) else (none)) else (none)) else (some (x447000, x447001, x447002, 0)) := by
  refine Lm.succ (f := fun k => if x31 < x30 then (if 0 ≤ x31 then (if x31 < (x29.length : Int) then (if ((rdOf ByteArray.empty x29 x31).size : Int) = x447000 then (impl_ReadGrid.l1 k (rdOf ByteArray.empty x29 x31) 0 x29 x30 x31 x447000 x447001 x447002) else (some (0, 0, ([] : List Bool), 6))) else (none)) else (none)) else (some (x447000, x447001, x447002, 0))) (impl_ReadGrid.l0_lm x29 x30 x31 x447000 x447001 x447002).1 (fun k => by rw [impl_ReadGrid.l0]) ?_
  repeat' first | (with_reducible exact Lm.const _) | (with_reducible exact impl_ReadGrid.l1_lm _ _ _ _ _ _ _ _) | (with_reducible refine Lm.ite ?_ ?_) | (with_reducible refine Lm.bind ?_ (fun _ => ?_)) | exact impl_ReadGrid.l1_lm _ _ _ _ _ _ _ _ | exact Lm.const _ | refine Lm.ite ?_ ?_ | refine Lm.bind ?_ (fun _ => ?_)
theorem impl_ReadGrid.l1L_eq (x7 : ByteArray) (x8 : Int) (x29 : List ByteArray) (x30 : Int) (x31 : Int) (x447000 : Int) (x447001 : Int) (x447002 : List Bool) : impl_ReadGrid.l1L x7 x8 x29 x30 x31 x447000 x447001 x447002 = if x8 < (x7.size : Int) then (if 0 ≤ x8 then (if (bt x7 x8) = 35 then (if x447002.length < 140737488355328 then (impl_ReadGrid.l1L x7 (wrap64 (x8 + 1)) x29 x30 x31 x447000 x447001 (x447002 ++ [((bt x7 x8) == 35)])) else (none)) else (if (bt x7 x8) = 46 then (if x447002.length < 140737488355328 then (impl_ReadGrid.l1L x7 (wrap64 (x8 + 1)) x29 x30 x31 x447000 x447001 (x447002 ++ [((bt x7 x8) == 35)])) else (none)) else (some (0, 0, ([] : List Bool), 6)))) else (none)) else (impl_ReadGrid.l0L x29 x30 (wrap64 (x31 + 1)) x447000 x447001 x447002) := by
  refine Lm.succ (f := fun k => if x8 < (x7.size : Int) then (if 0 ≤ x8 then (if (bt x7 x8) = 35 then (if x447002.length < 140737488355328 then (impl_ReadGrid.l1 k x7 (wrap64 (x8 + 1)) x29 x30 x31 x447000 x447001 (x447002 ++ [((bt x7 x8) == 35)])) else (none)) else (if (bt x7 x8) = 46 then (if x447002.length < 140737488355328 then (impl_ReadGrid.l1 k x7 (wrap64 (x8 + 1)) x29 x30 x31 x447000 x447001 (x447002 ++ [((bt x7 x8) == 35)])) else (none)) else (some (0, 0, ([] : List Bool), 6)))) else (none)) else (impl_ReadGrid.l0 k x29 x30 (wrap64 (x31 + 1)) x447000 x447001 x447002)) (impl_ReadGrid.l1_lm x7 x8 x29 x30 x31 x447000 x447001 x447002).1 (fun k => by rw [impl_ReadGrid.l1]) ?_
  repeat' first | (with_reducible exact Lm.const _) | (with_reducible exact impl_ReadGrid.l1_lm _ _ _ _ _ _ _ _) | (with_reducible exact impl_ReadGrid.l0_lm _ _ _ _ _ _) | (with_reducible refine Lm.ite ?_ ?_) | (with_reducible refine Lm.bind ?_ (fun _ => ?_)) | exact impl_ReadGrid.l1_lm _ _ _ _ _ _ _ _ | exact impl_ReadGrid.l0_lm _ _ _ _ _ _ | exact Lm.const _ | refine Lm.ite ?_ ?_ | refine Lm.bind ?_ (fun _ => ?_)
theorem impl_ReadGrid.fL_eq (a0 : ByteArray) : impl_ReadGrid.fL a0 = (impl_splitAt.fL a0 47).bind fun t442 => (if 0 < (t442.length : Int) then ((impl_within.f ((rdOf ByteArray.empty t442 0).size : Int) 1 12).bind fun t447 => (if t447 = true then ((impl_within.f (t442.length : Int) 1 12).bind fun t448 => (impl_ReadGrid.j0L t442 (!t448) ((rdOf ByteArray.empty t442 0).size : Int) (t442.length : Int))) else (impl_ReadGrid.j0L t442 true ((rdOf ByteArray.empty t442 0).size : Int) (t442.length : Int)))) else (none)) := by
  refine Lm.eqs (f := fun k => (impl_splitAt.f k a0 47).bind fun t442 => (if 0 < (t442.length : Int) then ((impl_within.f ((rdOf ByteArray.empty t442 0).size : Int) 1 12).bind fun t447 => (if t447 = true then ((impl_within.f (t442.length : Int) 1 12).bind fun t448 => (impl_ReadGrid.j0 k t442 (!t448) ((rdOf ByteArray.empty t442 0).size : Int) (t442.length : Int))) else (impl_ReadGrid.j0 k t442 true ((rdOf ByteArray.empty t442 0).size : Int) (t442.length : Int)))) else (none))) (fun k => rfl) ?_
  repeat' first | (with_reducible exact Lm.const _) | (with_reducible exact impl_splitAt.f_lm _ _) | (with_reducible exact impl_ReadGrid.j0_lm _ _ _ _) | (with_reducible refine Lm.ite ?_ ?_) | (with_reducible refine Lm.bind ?_ (fun _ => ?_)) | exact impl_splitAt.f_lm _ _ | exact impl_ReadGrid.j0_lm _ _ _ _ | exact Lm.const _ | refine Lm.ite ?_ ?_ | refine Lm.bind ?_ (fun _ => ?_)
theorem laws_eqGrid.fL_eq (a0_0 : Int) (a0_1 : Int) (l0_2 : List Bool) (a1_0 : Int) (a1_1 : Int) (l1_2 : List Bool) : laws_eqGrid.fL a0_0 a0_1 l0_2 a1_0 a1_1 l1_2 = if a0_0 = a1_0 then (if a0_1 = a1_1 then ((laws_eqBoolS.fL l0_2 l1_2).bind fun t458 => (if t458 = true then (some true) else (some false))) else (some false)) else (some false) := by
  refine Lm.eqs (f := fun k => if a0_0 = a1_0 then (if a0_1 = a1_1 then ((laws_eqBoolS.f k l0_2 l1_2).bind fun t458 => (if t458 = true then (some true) else (some false))) else (some false)) else (some false)) (fun k => rfl) ?_
  repeat' first | (with_reducible exact Lm.const _) | (with_reducible exact laws_eqBoolS.f_lm _ _) | (with_reducible refine Lm.ite ?_ ?_) | (with_reducible refine Lm.bind ?_ (fun _ => ?_)) | exact laws_eqBoolS.f_lm _ _ | exact Lm.const _ | refine Lm.ite ?_ ?_ | refine Lm.bind ?_ (fun _ => ?_)
theorem laws_markBoolS.l0L_eq (x0 : List Bool) (x1 : Int) (x5 : Int) : laws_markBoolS.l0L x0 x1 x5 = if x5 < (x0.length : Int) then (if 0 ≤ x5 then (laws_markBoolS.l0L (x0.set (x5 : Int).toNat ((Int.tmod x1 3) == 0)) (wrap64 (x1 + 1)) (wrap64 (x5 + 1))) else (none)) else (some (x1, x0)) := by
  refine Lm.succ (f := fun k => if x5 < (x0.length : Int) then (if 0 ≤ x5 then (laws_markBoolS.l0 k (x0.set (x5 : Int).toNat ((Int.tmod x1 3) == 0)) (wrap64 (x1 + 1)) (wrap64 (x5 + 1))) else (none)) else (some (x1, x0))) (laws_markBoolS.l0_lm x0 x1 x5).1 (fun k => by rw [laws_markBoolS.l0]) ?_
  repeat' first | (with_reducible exact Lm.const _) | (with_reducible exact laws_markBoolS.l0_lm _ _ _) | (with_reducible refine Lm.ite ?_ ?_) | (with_reducible refine Lm.bind ?_ (fun _ => ?_)) | exact laws_markBoolS.l0_lm _ _ _ | exact Lm.const _ | refine Lm.ite ?_ ?_ | refine Lm.bind ?_ (fun _ => ?_)
theorem laws_markBoolS.fL_eq (l0 : List Bool) (a1 : Int) : laws_markBoolS.fL l0 a1 = laws_markBoolS.l0L l0 a1 0 := by
  refine Lm.eqs (f := fun k => laws_markBoolS.l0 k l0 a1 0) (fun k => rfl) ?_
  repeat' first | (with_reducible exact Lm.const _) | (with_reducible exact laws_markBoolS.l0_lm _ _ _) | (with_reducible refine Lm.ite ?_ ?_) | (with_reducible refine Lm.bind ?_ (fun _ => ?_)) | exact laws_markBoolS.l0_lm _ _ _ | exact Lm.const _ | refine Lm.ite ?_ ?_ | refine Lm.bind ?_ (fun _ => ?_)
theorem laws_markGrid.fL_eq (a0_0 : Int) (a0_1 : Int) (l0_2 : List Bool) (a1 : Int) : laws_markGrid.fL a0_0 a0_1 l0_2 a1 = (laws_markBoolS.fL l0_2 a1).bind fun bt461 => (some (bt461.1, bt461.2)) := by
  refine Lm.eqs (f := fun k => (laws_markBoolS.f k l0_2 a1).bind fun bt461 => (some (bt461.1, bt461.2))) (fun k => rfl) ?_
  repeat' first | (with_reducible exact Lm.const _) | (with_reducible exact laws_markBoolS.f_lm _ _) | (with_reducible refine Lm.ite ?_ ?_) | (with_reducible refine Lm.bind ?_ (fun _ => ?_)) | exact laws_markBoolS.f_lm _ _ | exact Lm.const _ | refine Lm.ite ?_ ?_ | refine Lm.bind ?_ (fun _ => ?_)
theorem laws_heldBoolS.l0L_eq (x0 : List Bool) (x1 : Int) (x5 : Int) : laws_heldBoolS.l0L x0 x1 x5 = if x5 < (x0.length : Int) then (if 0 ≤ x5 then (if ((rdOf false x0 x5) != ((Int.tmod x1 3) == 0)) = true then (some (-1)) else (laws_heldBoolS.l0L x0 (wrap64 (x1 + 1)) (wrap64 (x5 + 1)))) else (none)) else (some x1) := by
  refine Lm.succ (f := fun k => if x5 < (x0.length : Int) then (if 0 ≤ x5 then (if ((rdOf false x0 x5) != ((Int.tmod x1 3) == 0)) = true then (some (-1)) else (laws_heldBoolS.l0 k x0 (wrap64 (x1 + 1)) (wrap64 (x5 + 1)))) else (none)) else (some x1)) (laws_heldBoolS.l0_lm x0 x1 x5).1 (fun k => by rw [laws_heldBoolS.l0]) ?_
  repeat' first | (with_reducible exact Lm.const _) | (with_reducible exact laws_heldBoolS.l0_lm _ _ _) | (with_reducible refine Lm.ite ?_ ?_) | (with_reducible refine Lm.bind ?_ (fun _ => ?_)) | exact laws_heldBoolS.l0_lm _ _ _ | exact Lm.const _ | refine Lm.ite ?_ ?_ | refine Lm.bind ?_ (fun _ => ?_)
theorem laws_heldBoolS.fL_eq (l0 : List Bool) (a1 : Int) : laws_heldBoolS.fL l0 a1 = laws_heldBoolS.l0L l0 a1 0 := by
  refine Lm.eqs (f := fun k => laws_heldBoolS.l0 k l0 a1 0) (fun k => rfl) ?_
  repeat' first | (with_reducible exact Lm.const _) | (with_reducible exact laws_heldBoolS.l0_lm _ _ _) | (with_reducible refine Lm.ite ?_ ?_) | (with_reducible refine Lm.bind ?_ (fun _ => ?_)) | exact laws_heldBoolS.l0_lm _ _ _ | exact Lm.const _ | refine Lm.ite ?_ ?_ | refine Lm.bind ?_ (fun _ => ?_)
theorem laws_heldGrid.fL_eq (a0_0 : Int) (a0_1 : Int) (l0_2 : List Bool) (a1 : Int) : laws_heldGrid.fL a0_0 a0_1 l0_2 a1 = (laws_heldBoolS.fL l0_2 a1).bind fun t465 => (if t465 < 0 then (some (-1)) else (some t465)) := by
  refine Lm.eqs (f := fun k => (laws_heldBoolS.f k l0_2 a1).bind fun t465 => (if t465 < 0 then (some (-1)) else (some t465))) (fun k => rfl) ?_
  repeat' first | (with_reducible exact Lm.const _) | (with_reducible exact laws_heldBoolS.f_lm _ _) | (with_reducible refine Lm.ite ?_ ?_) | (with_reducible refine Lm.bind ?_ (fun _ => ?_)) | exact laws_heldBoolS.f_lm _ _ | exact Lm.const _ | refine Lm.ite ?_ ?_ | refine Lm.bind ?_ (fun _ => ?_)
theorem laws_FnExactReadGrid.j0L_eq (x0 : ByteArray) (x4 : Int) (x32 : Bool) (x473000 : Int) (x473001 : Int) (x473002 : List Bool) (x480000 : Int) (x480001 : Int) (x480002 : List Bool) : laws_FnExactReadGrid.j0L x0 x4 x32 x473000 x473001 x473002 x480000 x480001 x480002 = if x32 = true then (some false) else ((laws_markGrid.fL x480000 x480001 x480002 101).bind fun bt481 => ((laws_heldGrid.fL x480000 x480001 bt481.2 101).bind fun t483 => (if t483 < 0 then (some false) else (if t483 = bt481.1 then ((impl_ReadGrid.fL x0).bind fun bt484 => ((laws_eqGrid.fL bt484.1 bt484.2.1 bt484.2.2.1 x473000 x473001 x473002).bind fun t491 => (if t491 = true then (laws_FnExactReadGrid.j1L bt481.1 (bt484.2.2.2 != x4) x480000 x480001 bt481.2) else (laws_FnExactReadGrid.j1L bt481.1 true x480000 x480001 bt481.2)))) else (some false))))) := by
  refine Lm.succ (f := fun k => if x32 = true then (some false) else ((laws_markGrid.f k x480000 x480001 x480002 101).bind fun bt481 => ((laws_heldGrid.f k x480000 x480001 bt481.2 101).bind fun t483 => (if t483 < 0 then (some false) else (if t483 = bt481.1 then ((impl_ReadGrid.f k x0).bind fun bt484 => ((laws_eqGrid.f k bt484.1 bt484.2.1 bt484.2.2.1 x473000 x473001 x473002).bind fun t491 => (if t491 = true then (laws_FnExactReadGrid.j1 k bt481.1 (bt484.2.2.2 != x4) x480000 x480001 bt481.2) else (laws_FnExactReadGrid.j1 k bt481.1 true x480000 x480001 bt481.2)))) else (some false)))))) (laws_FnExactReadGrid.j0_lm x0 x4 x32 x473000 x473001 x473002 x480000 x480001 x480002).1 (fun k => by rw [laws_FnExactReadGrid.j0]) ?_
  repeat' first | (with_reducible exact Lm.const _) | (with_reducible exact laws_markGrid.f_lm _ _ _ _) | (with_reducible exact laws_heldGrid.f_lm _ _ _ _) | (with_reducible exact impl_ReadGrid.f_lm _) | (with_reducible exact laws_eqGrid.f_lm _ _ _ _ _ _) | (with_reducible exact laws_FnExactReadGrid.j1_lm _ _ _ _ _) | (with_reducible refine Lm.ite ?_ ?_) | (with_reducible refine Lm.bind ?_ (fun _ => ?_)) | exact laws_markGrid.f_lm _ _ _ _ | exact laws_heldGrid.f_lm _ _ _ _ | exact impl_ReadGrid.f_lm _ | exact laws_eqGrid.f_lm _ _ _ _ _ _ | exact laws_FnExactReadGrid.j1_lm _ _ _ _ _ | exact Lm.const _ | refine Lm.ite ?_ ?_ | refine Lm.bind ?_ (fun _ => ?_)
theorem laws_FnExactReadGrid.j1L_eq (x7 : Int) (x57 : Bool) (x480000 : Int) (x480001 : Int) (x480002 : List Bool) : laws_FnExactReadGrid.j1L x7 x57 x480000 x480001 x480002 = if x57 = true then (some false) else ((laws_heldGrid.fL x480000 x480001 x480002 101).bind fun t492 => (if t492 < 0 then (some false) else (if t492 = x7 then (some true) else (some false)))) := by
  refine Lm.succ (f := fun k => if x57 = true then (some false) else ((laws_heldGrid.f k x480000 x480001 x480002 101).bind fun t492 => (if t492 < 0 then (some false) else (if t492 = x7 then (some true) else (some false))))) (laws_FnExactReadGrid.j1_lm x7 x57 x480000 x480001 x480002).1 (fun k => by rw [laws_FnExactReadGrid.j1]) ?_
  repeat' first | (with_reducible exact Lm.const _) | (with_reducible exact laws_heldGrid.f_lm _ _ _ _) | (with_reducible refine Lm.ite ?_ ?_) | (with_reducible refine Lm.bind ?_ (fun _ => ?_)) | exact laws_heldGrid.f_lm _ _ _ _ | exact Lm.const _ | refine Lm.ite ?_ ?_ | refine Lm.bind ?_ (fun _ => ?_)
theorem laws_FnExactReadGrid.fL_eq (a0 : ByteArray) : laws_FnExactReadGrid.fL a0 = if (a0.size : Int) > 1000000 then (some true) else ((spec_ReadGrid.fL a0).bind fun bt466 => ((impl_ReadGrid.fL a0).bind fun bt473 => ((laws_eqGrid.fL bt473.1 bt473.2.1 bt473.2.2.1 bt466.1 bt466.2.1 bt466.2.2.1).bind fun t480 => (if t480 = true then (laws_FnExactReadGrid.j0L a0 bt466.2.2.2 (bt473.2.2.2 != bt466.2.2.2) bt466.1 bt466.2.1 bt466.2.2.1 bt473.1 bt473.2.1 bt473.2.2.1) else (laws_FnExactReadGrid.j0L a0 bt466.2.2.2 true bt466.1 bt466.2.1 bt466.2.2.1 bt473.1 bt473.2.1 bt473.2.2.1))))) := by
  refine Lm.eqs (f := fun k => if (a0.size : Int) > 1000000 then (some true) else ((spec_ReadGrid.f k a0).bind fun bt466 => ((impl_ReadGrid.f k a0).bind fun bt473 => ((laws_eqGrid.f k bt473.1 bt473.2.1 bt473.2.2.1 bt466.1 bt466.2.1 bt466.2.2.1).bind fun t480 => (if t480 = true then (laws_FnExactReadGrid.j0 k a0 bt466.2.2.2 (bt473.2.2.2 != bt466.2.2.2) bt466.1 bt466.2.1 bt466.2.2.1 bt473.1 bt473.2.1 bt473.2.2.1) else (laws_FnExactReadGrid.j0 k a0 bt466.2.2.2 true bt466.1 bt466.2.1 bt466.2.2.1 bt473.1 bt473.2.1 bt473.2.2.1)))))) (fun k => rfl) ?_
  repeat' first | (with_reducible exact Lm.const _) | (with_reducible exact spec_ReadGrid.f_lm _) | (with_reducible exact impl_ReadGrid.f_lm _) | (with_reducible exact laws_eqGrid.f_lm _ _ _ _ _ _) | (with_reducible exact laws_FnExactReadGrid.j0_lm _ _ _ _ _ _ _ _ _) | (with_reducible refine Lm.ite ?_ ?_) | (with_reducible refine Lm.bind ?_ (fun _ => ?_)) | exact spec_ReadGrid.f_lm _ | exact impl_ReadGrid.f_lm _ | exact laws_eqGrid.f_lm _ _ _ _ _ _ | exact laws_FnExactReadGrid.j0_lm _ _ _ _ _ _ _ _ _ | exact Lm.const _ | refine Lm.ite ?_ ?_ | refine Lm.bind ?_ (fun _ => ?_)
end Go.Proofs.Ytlggajipoionjaa.Q
