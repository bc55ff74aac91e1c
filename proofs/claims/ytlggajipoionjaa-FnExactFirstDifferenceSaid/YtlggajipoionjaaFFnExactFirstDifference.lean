import Derived.Test.YtlggajipoionjaaQ75
/-! The printed functions without rounds: limits over the number of rounds, and their equations. Written by a program of this session (free.py). -/
namespace Go.Proofs.Ytlggajipoionjaa.Q
open Go.RowKit Go.Proofs.YtlggajipoionjaaW.PrintWords Go.Proofs.YtlggajipoionjaaW.PrintLast Go.Proofs.YtlggajipoionjaaW.PrintMore
set_option linter.unusedVariables false
set_option linter.unusedSimpArgs false

open Classical in
/-- What more and more rounds come to. -/
noncomputable def Lim {α : Type} (g : Nat → Option α) : Option α := if h : ∃ r, ∃ k, g k = some r then some h.choose else none
theorem Lim_some {α : Type} {g : Nat → Option α} (hg : ∀ k, LeO (g k) (g (k + 1))) {k : Nat} {r : α} (h : g k = some r) : Lim g = some r := by
  have e : ∃ r, ∃ k, g k = some r := ⟨r, k, h⟩
  unfold Lim
  rw [dif_pos e]
  obtain ⟨k', h'⟩ := e.choose_spec
  have h1 := at_rounds hg (Nat.le_max_left k k') h
  have h2 := at_rounds hg (Nat.le_max_right k k') h'
  rw [h1] at h2
  exact h2.symm
theorem of_Lim {α : Type} {g : Nat → Option α} {r : α} (h : Lim g = some r) : ∃ k, g k = some r := by
  unfold Lim at h
  split at h
  · rename_i e
    obtain ⟨k, hk⟩ := e.choose_spec
    exact ⟨k, by rw [hk, h]⟩
  · cases h
def Lm {α : Type} (g : Nat → Option α) (r : Option α) : Prop := (∀ k, LeO (g k) (g (k + 1))) ∧ Lim g = r
theorem Lm.of {α : Type} {g : Nat → Option α} (hg : ∀ k, LeO (g k) (g (k + 1))) : Lm g (Lim g) := ⟨hg, rfl⟩
theorem Lm.const {α : Type} (a : Option α) : Lm (fun _ => a) a := by
  refine ⟨fun _ => LeO.refl _, ?_⟩
  cases a with
  | none =>
    unfold Lim
    rw [dif_neg (by rintro ⟨_, _, h⟩; cases h)]
  | some r => exact Lim_some (fun _ => LeO.refl _) (k := 0) rfl
theorem Lm.ite {α : Type} {c : Prop} [Decidable c] {a b : Nat → Option α} {a' b' : Option α} (h : Lm a a') (k : Lm b b') : Lm (fun n => if c then a n else b n) (if c then a' else b') := by
  by_cases hc : c
  · simp only [if_pos hc]; exact h
  · simp only [if_neg hc]; exact k
theorem Lm.bind {α β : Type} {g : Nat → Option α} {f : Nat → α → Option β} {g' : Option α} {f' : α → Option β} (h : Lm g g') (k : ∀ x, Lm (fun n => f n x) (f' x)) : Lm (fun n => (g n).bind (f n)) (g'.bind f') := by
  have hm : ∀ n, LeO ((g n).bind (f n)) ((g (n + 1)).bind (f (n + 1))) := fun n => LeO.bind (h.1 n) (fun x => (k x).1 n)
  refine ⟨hm, ?_⟩
  obtain ⟨hg, rfl⟩ := h
  cases e : Lim g with
  | none =>
    rw [Option.bind_none]
    cases e' : Lim (fun n => (g n).bind (f n)) with
    | none => rfl
    | some r =>
      obtain ⟨n, hn⟩ := of_Lim e'
      obtain ⟨x, hx, _⟩ := Option.bind_eq_some_iff.mp hn
      rw [Lim_some hg hx] at e
      cases e
  | some x =>
    rw [Option.bind_some]
    obtain ⟨n, hn⟩ := of_Lim e
    have kx := k x
    cases e2 : f' x with
    | none =>
      cases e' : Lim (fun n => (g n).bind (f n)) with
      | none => rfl
      | some r =>
        obtain ⟨m, hm'⟩ := of_Lim e'
        obtain ⟨y, hy, hy'⟩ := Option.bind_eq_some_iff.mp hm'
        have hxy := Lim_some hg hy
        rw [e] at hxy
        cases hxy
        have := Lim_some kx.1 hy'
        rw [kx.2, e2] at this
        cases this
    | some r =>
      obtain ⟨m, hm'⟩ := of_Lim (kx.2.trans e2)
      refine Lim_some hm (k := max n m) ?_
      rw [at_rounds hg (Nat.le_max_left n m) hn, Option.bind_some]
      exact at_rounds kx.1 (Nat.le_max_right n m) hm'
theorem Lm.succ {α : Type} {g f : Nat → Option α} {r : Option α} (hg : ∀ k, LeO (g k) (g (k + 1))) (h : ∀ k, g (k + 1) = f k) (k : Lm f r) : Lim g = r := by
  obtain ⟨hf, rfl⟩ := k
  cases e : Lim f with
  | none =>
    cases e' : Lim g with
    | none => rfl
    | some x =>
      obtain ⟨n, hn⟩ := of_Lim e'
      have := hg n _ hn
      rw [h] at this
      rw [Lim_some hf this] at e
      cases e
  | some x =>
    obtain ⟨n, hn⟩ := of_Lim e
    rw [← h] at hn
    exact Lim_some hg hn
theorem Lm.eqs {α : Type} {g f : Nat → Option α} {r : Option α} (h : ∀ k, g k = f k) (k : Lm f r) : Lim g = r := by
  have : g = f := funext h
  rw [this]; exact k.2

noncomputable def spec_l33Is.l0L (x3 : Int) (x193000 : Int) (x193001 : ByteArray) : Option (Bool) := Lim (fun k => spec_l33Is.l0 k x3 x193000 x193001)
theorem spec_l33Is.l0_lm (x3 : Int) (x193000 : Int) (x193001 : ByteArray) : Lm (fun k => spec_l33Is.l0 k x3 x193000 x193001) (spec_l33Is.l0L x3 x193000 x193001) := Lm.of (fun k => (spec_l33Is.mono_l k) _ _ _)
noncomputable def spec_l33Is.fL (a0_0 : Int) (a0_1 : ByteArray) : Option (Bool) := Lim (fun k => spec_l33Is.f k a0_0 a0_1)
theorem spec_l33Is.f_lm (a0_0 : Int) (a0_1 : ByteArray) : Lm (fun k => spec_l33Is.f k a0_0 a0_1) (spec_l33Is.fL a0_0 a0_1) := Lm.of (fun k => spec_l33Is.mono _ _ k)
noncomputable def impl_isEntry.j0L (x17 : Bool) (x215000 : Int) (x215001 : ByteArray) : Option (Bool) := Lim (fun k => impl_isEntry.j0 k x17 x215000 x215001)
theorem impl_isEntry.j0_lm (x17 : Bool) (x215000 : Int) (x215001 : ByteArray) : Lm (fun k => impl_isEntry.j0 k x17 x215000 x215001) (impl_isEntry.j0L x17 x215000 x215001) := Lm.of (fun k => (impl_isEntry.mono_l k).1 _ _ _)
noncomputable def impl_isEntry.l0L (x3 : Int) (x215000 : Int) (x215001 : ByteArray) : Option (Bool) := Lim (fun k => impl_isEntry.l0 k x3 x215000 x215001)
theorem impl_isEntry.l0_lm (x3 : Int) (x215000 : Int) (x215001 : ByteArray) : Lm (fun k => impl_isEntry.l0 k x3 x215000 x215001) (impl_isEntry.l0L x3 x215000 x215001) := Lm.of (fun k => (impl_isEntry.mono_l k).2 _ _ _)
noncomputable def impl_isEntry.fL (a0_0 : Int) (a0_1 : ByteArray) : Option (Bool) := Lim (fun k => impl_isEntry.f k a0_0 a0_1)
theorem impl_isEntry.f_lm (a0_0 : Int) (a0_1 : ByteArray) : Lm (fun k => impl_isEntry.f k a0_0 a0_1) (impl_isEntry.fL a0_0 a0_1) := Lm.of (fun k => impl_isEntry.mono _ _ k)
noncomputable def spec_l33Check.l0L (x0 : Int) (x5 : Int) (x342000 : Int) (x342001 : ByteArray) : Option (Int) := Lim (fun k => spec_l33Check.l0 k x0 x5 x342000 x342001)
theorem spec_l33Check.l0_lm (x0 : Int) (x5 : Int) (x342000 : Int) (x342001 : ByteArray) : Lm (fun k => spec_l33Check.l0 k x0 x5 x342000 x342001) (spec_l33Check.l0L x0 x5 x342000 x342001) := Lm.of (fun k => (spec_l33Check.mono_l k) _ _ _ _)
noncomputable def spec_l33Check.fL (a0 : Int) (a1_0 : Int) (a1_1 : ByteArray) : Option (Int) := Lim (fun k => spec_l33Check.f k a0 a1_0 a1_1)
theorem spec_l33Check.f_lm (a0 : Int) (a1_0 : Int) (a1_1 : ByteArray) : Lm (fun k => spec_l33Check.f k a0 a1_0 a1_1) (spec_l33Check.fL a0 a1_0 a1_1) := Lm.of (fun k => spec_l33Check.mono _ _ _ k)
noncomputable def spec_l01Dec.fL (a0 : Int) : Option (ByteArray) := Lim (fun k => spec_l01Dec.f k a0)
theorem spec_l01Dec.f_lm (a0 : Int) : Lm (fun k => spec_l01Dec.f k a0) (spec_l01Dec.fL a0) := Lm.of (fun k => (spec_l01Dec.mono_l k) _)
noncomputable def spec_l33Line.fL (a0_0 : Int) (a0_1 : ByteArray) (a1 : Int) : Option (ByteArray) := Lim (fun k => spec_l33Line.f k a0_0 a0_1 a1)
theorem spec_l33Line.f_lm (a0_0 : Int) (a0_1 : ByteArray) (a1 : Int) : Lm (fun k => spec_l33Line.f k a0_0 a0_1 a1) (spec_l33Line.fL a0_0 a0_1 a1) := Lm.of (fun k => spec_l33Line.mono _ _ _ k)
noncomputable def spec_l33Next.l0L (x0 : ByteArray) (x1 : Int) (x7 : Int) (x8 : Int) : Option (Int × ByteArray × Int × Int) := Lim (fun k => spec_l33Next.l0 k x0 x1 x7 x8)
theorem spec_l33Next.l0_lm (x0 : ByteArray) (x1 : Int) (x7 : Int) (x8 : Int) : Lm (fun k => spec_l33Next.l0 k x0 x1 x7 x8) (spec_l33Next.l0L x0 x1 x7 x8) := Lm.of (fun k => (spec_l33Next.mono_l k).1 _ _ _ _)
noncomputable def spec_l33Next.j1L (x0 : ByteArray) (x1 : Int) (x7 : Int) (x8 : Int) (x20 : Bool) : Option (Int × ByteArray × Int × Int) := Lim (fun k => spec_l33Next.j1 k x0 x1 x7 x8 x20)
theorem spec_l33Next.j1_lm (x0 : ByteArray) (x1 : Int) (x7 : Int) (x8 : Int) (x20 : Bool) : Lm (fun k => spec_l33Next.j1 k x0 x1 x7 x8 x20) (spec_l33Next.j1L x0 x1 x7 x8 x20) := Lm.of (fun k => (spec_l33Next.mono_l k).2.1 _ _ _ _ _)
noncomputable def spec_l33Next.j2L (x0 : ByteArray) (x1 : Int) (x7 : Int) (x8 : Int) (x35 : Bool) : Option (Int × ByteArray × Int × Int) := Lim (fun k => spec_l33Next.j2 k x0 x1 x7 x8 x35)
theorem spec_l33Next.j2_lm (x0 : ByteArray) (x1 : Int) (x7 : Int) (x8 : Int) (x35 : Bool) : Lm (fun k => spec_l33Next.j2 k x0 x1 x7 x8 x35) (spec_l33Next.j2L x0 x1 x7 x8 x35) := Lm.of (fun k => (spec_l33Next.mono_l k).2.2 _ _ _ _ _)
noncomputable def spec_l33Next.fL (a0 : ByteArray) (a1 : Int) : Option (Int × ByteArray × Int × Int) := Lim (fun k => spec_l33Next.f k a0 a1)
theorem spec_l33Next.f_lm (a0 : ByteArray) (a1 : Int) : Lm (fun k => spec_l33Next.f k a0 a1) (spec_l33Next.fL a0 a1) := Lm.of (fun k => spec_l33Next.mono _ _ k)
noncomputable def spec_l33Read.l0L (x0 : ByteArray) (x4 : List (S80)) (x5 : Int) : Option ((List (S80)) × Int) := Lim (fun k => spec_l33Read.l0 k x0 x4 x5)
theorem spec_l33Read.l0_lm (x0 : ByteArray) (x4 : List (S80)) (x5 : Int) : Lm (fun k => spec_l33Read.l0 k x0 x4 x5) (spec_l33Read.l0L x0 x4 x5) := Lm.of (fun k => (spec_l33Read.mono_l k) _ _ _)
noncomputable def spec_l33Read.fL (a0 : ByteArray) : Option ((List (S80)) × Int) := Lim (fun k => spec_l33Read.f k a0)
theorem spec_l33Read.f_lm (a0 : ByteArray) : Lm (fun k => spec_l33Read.f k a0) (spec_l33Read.fL a0) := Lm.of (fun k => spec_l33Read.mono _ k)
noncomputable def impl_readEntry.l0L (x0 : ByteArray) (x4 : Int) (x5 : Int) : Option (Int × ByteArray × Bool) := Lim (fun k => impl_readEntry.l0 k x0 x4 x5)
theorem impl_readEntry.l0_lm (x0 : ByteArray) (x4 : Int) (x5 : Int) : Lm (fun k => impl_readEntry.l0 k x0 x4 x5) (impl_readEntry.l0L x0 x4 x5) := Lm.of (fun k => (impl_readEntry.mono_l k) _ _ _)
noncomputable def impl_readEntry.fL (a0 : ByteArray) : Option (Int × ByteArray × Bool) := Lim (fun k => impl_readEntry.f k a0)
theorem impl_readEntry.f_lm (a0 : ByteArray) : Lm (fun k => impl_readEntry.f k a0) (impl_readEntry.fL a0) := Lm.of (fun k => impl_readEntry.mono _ k)
noncomputable def impl_decimal.l0L (x0 : Int) (x3 : ByteArray) : Option (ByteArray) := Lim (fun k => impl_decimal.l0 k x0 x3)
theorem impl_decimal.l0_lm (x0 : Int) (x3 : ByteArray) : Lm (fun k => impl_decimal.l0 k x0 x3) (impl_decimal.l0L x0 x3) := Lm.of (fun k => (impl_decimal.mono_l k).2 _ _)
noncomputable def impl_decimal.fL (a0 : Int) : Option (ByteArray) := Lim (fun k => impl_decimal.f k a0)
theorem impl_decimal.f_lm (a0 : Int) : Lm (fun k => impl_decimal.f k a0) (impl_decimal.fL a0) := Lm.of (fun k => (impl_decimal.mono_l k).1 _)
noncomputable def impl_entryLine.fL (a0_0 : Int) (a0_1 : ByteArray) (a1 : Int) : Option (ByteArray) := Lim (fun k => impl_entryLine.f k a0_0 a0_1 a1)
theorem impl_entryLine.f_lm (a0_0 : Int) (a0_1 : ByteArray) (a1 : Int) : Lm (fun k => impl_entryLine.f k a0_0 a0_1 a1) (impl_entryLine.fL a0_0 a0_1 a1) := Lm.of (fun k => impl_entryLine.mono _ _ _ k)
noncomputable def impl_nextCheck.l0L (x0 : Int) (x5 : Int) (x387000 : Int) (x387001 : ByteArray) : Option (Int) := Lim (fun k => impl_nextCheck.l0 k x0 x5 x387000 x387001)
theorem impl_nextCheck.l0_lm (x0 : Int) (x5 : Int) (x387000 : Int) (x387001 : ByteArray) : Lm (fun k => impl_nextCheck.l0 k x0 x5 x387000 x387001) (impl_nextCheck.l0L x0 x5 x387000 x387001) := Lm.of (fun k => (impl_nextCheck.mono_l k) _ _ _ _)
noncomputable def impl_nextCheck.fL (a0 : Int) (a1_0 : Int) (a1_1 : ByteArray) : Option (Int) := Lim (fun k => impl_nextCheck.f k a0 a1_0 a1_1)
theorem impl_nextCheck.f_lm (a0 : Int) (a1_0 : Int) (a1_1 : ByteArray) : Lm (fun k => impl_nextCheck.f k a0 a1_0 a1_1) (impl_nextCheck.fL a0 a1_0 a1_1) := Lm.of (fun k => impl_nextCheck.mono _ _ _ k)
noncomputable def impl_readJournal.l0L (x0 : ByteArray) (x4 : List (S80)) (x5 : Int) : Option ((List (S80)) × Int) := Lim (fun k => impl_readJournal.l0 k x0 x4 x5)
theorem impl_readJournal.l0_lm (x0 : ByteArray) (x4 : List (S80)) (x5 : Int) : Lm (fun k => impl_readJournal.l0 k x0 x4 x5) (impl_readJournal.l0L x0 x4 x5) := Lm.of (fun k => (impl_readJournal.mono_l k).1 _ _ _)
noncomputable def impl_readJournal.j2L (x0 : ByteArray) (x4 : List (S80)) (x5 : Int) (x6 : Int) : Option ((List (S80)) × Int) := Lim (fun k => impl_readJournal.j2 k x0 x4 x5 x6)
theorem impl_readJournal.j2_lm (x0 : ByteArray) (x4 : List (S80)) (x5 : Int) (x6 : Int) : Lm (fun k => impl_readJournal.j2 k x0 x4 x5 x6) (impl_readJournal.j2L x0 x4 x5 x6) := Lm.of (fun k => (impl_readJournal.mono_l k).2.1 _ _ _ _)
noncomputable def impl_readJournal.l1L (x0 : ByteArray) (x4 : List (S80)) (x5 : Int) (x6 : Int) : Option ((List (S80)) × Int) := Lim (fun k => impl_readJournal.l1 k x0 x4 x5 x6)
theorem impl_readJournal.l1_lm (x0 : ByteArray) (x4 : List (S80)) (x5 : Int) (x6 : Int) : Lm (fun k => impl_readJournal.l1 k x0 x4 x5 x6) (impl_readJournal.l1L x0 x4 x5 x6) := Lm.of (fun k => (impl_readJournal.mono_l k).2.2 _ _ _ _)
noncomputable def impl_readJournal.fL (a0 : ByteArray) : Option ((List (S80)) × Int) := Lim (fun k => impl_readJournal.f k a0)
theorem impl_readJournal.f_lm (a0 : ByteArray) : Lm (fun k => impl_readJournal.f k a0) (impl_readJournal.fL a0) := Lm.of (fun k => impl_readJournal.mono _ k)
noncomputable def spec_FirstDifference.l0L (x6 : List (S80)) (x8 : List (S80)) (x10 : Int) : Option (Int × Int) := Lim (fun k => spec_FirstDifference.l0 k x6 x8 x10)
theorem spec_FirstDifference.l0_lm (x6 : List (S80)) (x8 : List (S80)) (x10 : Int) : Lm (fun k => spec_FirstDifference.l0 k x6 x8 x10) (spec_FirstDifference.l0L x6 x8 x10) := Lm.of (fun k => (spec_FirstDifference.mono_l k).1 _ _ _)
noncomputable def spec_FirstDifference.j1L (x6 : List (S80)) (x8 : List (S80)) (x10 : Int) (x30 : Bool) : Option (Int × Int) := Lim (fun k => spec_FirstDifference.j1 k x6 x8 x10 x30)
theorem spec_FirstDifference.j1_lm (x6 : List (S80)) (x8 : List (S80)) (x10 : Int) (x30 : Bool) : Lm (fun k => spec_FirstDifference.j1 k x6 x8 x10 x30) (spec_FirstDifference.j1L x6 x8 x10 x30) := Lm.of (fun k => (spec_FirstDifference.mono_l k).2 _ _ _ _)
noncomputable def spec_FirstDifference.fL (a0 : ByteArray) (a1 : ByteArray) : Option (Int × Int) := Lim (fun k => spec_FirstDifference.f k a0 a1)
theorem spec_FirstDifference.f_lm (a0 : ByteArray) (a1 : ByteArray) : Lm (fun k => spec_FirstDifference.f k a0 a1) (spec_FirstDifference.fL a0 a1) := Lm.of (fun k => spec_FirstDifference.mono _ _ k)
noncomputable def impl_FirstDifference.l0L (x6 : List (S80)) (x8 : List (S80)) (x10 : Int) : Option (Int × Int) := Lim (fun k => impl_FirstDifference.l0 k x6 x8 x10)
theorem impl_FirstDifference.l0_lm (x6 : List (S80)) (x8 : List (S80)) (x10 : Int) : Lm (fun k => impl_FirstDifference.l0 k x6 x8 x10) (impl_FirstDifference.l0L x6 x8 x10) := Lm.of (fun k => (impl_FirstDifference.mono_l k).1 _ _ _)
noncomputable def impl_FirstDifference.j1L (x6 : List (S80)) (x8 : List (S80)) (x10 : Int) (x30 : Bool) : Option (Int × Int) := Lim (fun k => impl_FirstDifference.j1 k x6 x8 x10 x30)
theorem impl_FirstDifference.j1_lm (x6 : List (S80)) (x8 : List (S80)) (x10 : Int) (x30 : Bool) : Lm (fun k => impl_FirstDifference.j1 k x6 x8 x10 x30) (impl_FirstDifference.j1L x6 x8 x10 x30) := Lm.of (fun k => (impl_FirstDifference.mono_l k).2 _ _ _ _)
noncomputable def impl_FirstDifference.fL (a0 : ByteArray) (a1 : ByteArray) : Option (Int × Int) := Lim (fun k => impl_FirstDifference.f k a0 a1)
theorem impl_FirstDifference.f_lm (a0 : ByteArray) (a1 : ByteArray) : Lm (fun k => impl_FirstDifference.f k a0 a1) (impl_FirstDifference.fL a0 a1) := Lm.of (fun k => impl_FirstDifference.mono _ _ k)
noncomputable def laws_FnExactFirstDifference.fL (a0 : ByteArray) (a1 : ByteArray) : Option (Bool) := Lim (fun k => laws_FnExactFirstDifference.f k a0 a1)
theorem laws_FnExactFirstDifference.f_lm (a0 : ByteArray) (a1 : ByteArray) : Lm (fun k => laws_FnExactFirstDifference.f k a0 a1) (laws_FnExactFirstDifference.fL a0 a1) := Lm.of (fun k => laws_FnExactFirstDifference.mono _ _ k)
theorem spec_l33Is.l0L_eq (x3 : Int) (x193000 : Int) (x193001 : ByteArray) : spec_l33Is.l0L x3 x193000 x193001 = if x3 < (x193001.size : Int) then (if 0 ≤ x3 then (if (bt x193001 x3) < 32 then (some false) else (if (bt x193001 x3) > 126 then (some false) else (spec_l33Is.l0L (wrap64 (x3 + 1)) x193000 x193001))) else (none)) else (if x193000 ≥ 97 then (if x193000 ≤ 122 then (some (decide ((x193001.size : Int) ≤ 40))) else (some false)) else (some false)) := by
  refine Lm.succ (f := fun k => if x3 < (x193001.size : Int) then (if 0 ≤ x3 then (if (bt x193001 x3) < 32 then (some false) else (if (bt x193001 x3) > 126 then (some false) else (spec_l33Is.l0 k (wrap64 (x3 + 1)) x193000 x193001))) else (none)) else (if x193000 ≥ 97 then (if x193000 ≤ 122 then (some (decide ((x193001.size : Int) ≤ 40))) else (some false)) else (some false))) (spec_l33Is.l0_lm x3 x193000 x193001).1 (fun k => by rw [spec_l33Is.l0]) ?_
  repeat' first | (with_reducible exact Lm.const _) | (with_reducible exact spec_l33Is.l0_lm _ _ _) | (with_reducible refine Lm.ite ?_ ?_) | (with_reducible refine Lm.bind ?_ (fun _ => ?_)) | exact spec_l33Is.l0_lm _ _ _ | exact Lm.const _ | refine Lm.ite ?_ ?_ | refine Lm.bind ?_ (fun _ => ?_)
theorem spec_l33Is.fL_eq (a0_0 : Int) (a0_1 : ByteArray) : spec_l33Is.fL a0_0 a0_1 = spec_l33Is.l0L 0 a0_0 a0_1 := by
  refine Lm.eqs (f := fun k => spec_l33Is.l0 k 0 a0_0 a0_1) (fun k => rfl) ?_
  repeat' first | (with_reducible exact Lm.const _) | (with_reducible exact spec_l33Is.l0_lm _ _ _) | (with_reducible refine Lm.ite ?_ ?_) | (with_reducible refine Lm.bind ?_ (fun _ => ?_)) | exact spec_l33Is.l0_lm _ _ _ | exact Lm.const _ | refine Lm.ite ?_ ?_ | refine Lm.bind ?_ (fun _ => ?_)
theorem impl_isEntry.j0L_eq (x17 : Bool) (x215000 : Int) (x215001 : ByteArray) : impl_isEntry.j0L x17 x215000 x215001 = if x17 = true then (some false) else (impl_isEntry.l0L 0 x215000 x215001) := by
  refine Lm.succ (f := fun k => if x17 = true then (some false) else (impl_isEntry.l0 k 0 x215000 x215001)) (impl_isEntry.j0_lm x17 x215000 x215001).1 (fun k => by rw [impl_isEntry.j0]) ?_
  repeat' first | (with_reducible exact Lm.const _) | (with_reducible exact impl_isEntry.l0_lm _ _ _) | (with_reducible refine Lm.ite ?_ ?_) | (with_reducible refine Lm.bind ?_ (fun _ => ?_)) | exact impl_isEntry.l0_lm _ _ _ | exact Lm.const _ | refine Lm.ite ?_ ?_ | refine Lm.bind ?_ (fun _ => ?_)
theorem impl_isEntry.l0L_eq (x3 : Int) (x215000 : Int) (x215001 : ByteArray) : impl_isEntry.l0L x3 x215000 x215001 = if x3 < (x215001.size : Int) then (if 0 ≤ x3 then (if (bt x215001 x3) < 32 then (some false) else (if (bt x215001 x3) > 126 then (some false) else (impl_isEntry.l0L (wrap64 (x3 + 1)) x215000 x215001))) else (none)) else (some true) := by
  refine Lm.succ (f := fun k => if x3 < (x215001.size : Int) then (if 0 ≤ x3 then (if (bt x215001 x3) < 32 then (some false) else (if (bt x215001 x3) > 126 then (some false) else (impl_isEntry.l0 k (wrap64 (x3 + 1)) x215000 x215001))) else (none)) else (some true)) (impl_isEntry.l0_lm x3 x215000 x215001).1 (fun k => by rw [impl_isEntry.l0]) ?_
  repeat' first | (with_reducible exact Lm.const _) | (with_reducible exact impl_isEntry.l0_lm _ _ _) | (with_reducible refine Lm.ite ?_ ?_) | (with_reducible refine Lm.bind ?_ (fun _ => ?_)) | exact impl_isEntry.l0_lm _ _ _ | exact Lm.const _ | refine Lm.ite ?_ ?_ | refine Lm.bind ?_ (fun _ => ?_)
theorem impl_isEntry.fL_eq (a0_0 : Int) (a0_1 : ByteArray) : impl_isEntry.fL a0_0 a0_1 = if a0_0 < 97 then (impl_isEntry.j0L true a0_0 a0_1) else (if a0_0 > 122 then (impl_isEntry.j0L true a0_0 a0_1) else (impl_isEntry.j0L (decide ((a0_1.size : Int) > 40)) a0_0 a0_1)) := by
  refine Lm.eqs (f := fun k => if a0_0 < 97 then (impl_isEntry.j0 k true a0_0 a0_1) else (if a0_0 > 122 then (impl_isEntry.j0 k true a0_0 a0_1) else (impl_isEntry.j0 k (decide ((a0_1.size : Int) > 40)) a0_0 a0_1))) (fun k => rfl) ?_
  repeat' first | (with_reducible exact Lm.const _) | (with_reducible exact impl_isEntry.j0_lm _ _ _) | (with_reducible refine Lm.ite ?_ ?_) | (with_reducible refine Lm.bind ?_ (fun _ => ?_)) | exact impl_isEntry.j0_lm _ _ _ | exact Lm.const _ | refine Lm.ite ?_ ?_ | refine Lm.bind ?_ (fun _ => ?_)
theorem spec_l33Check.l0L_eq (x0 : Int) (x5 : Int) (x342000 : Int) (x342001 : ByteArray) : spec_l33Check.l0L x0 x5 x342000 x342001 = if x5 < (x342001.size : Int) then (if 0 ≤ x5 then (spec_l33Check.l0L (Int.tmod (wrap64 ((wrap64 (x0 * 29)) + (wrap64 (bt x342001 x5)))) 9973) (wrap64 (x5 + 1)) x342000 x342001) else (none)) else (some x0) := by
  refine Lm.succ (f := fun k => if x5 < (x342001.size : Int) then (if 0 ≤ x5 then (spec_l33Check.l0 k (Int.tmod (wrap64 ((wrap64 (x0 * 29)) + (wrap64 (bt x342001 x5)))) 9973) (wrap64 (x5 + 1)) x342000 x342001) else (none)) else (some x0)) (spec_l33Check.l0_lm x0 x5 x342000 x342001).1 (fun k => by rw [spec_l33Check.l0]) ?_
  repeat' first | (with_reducible exact Lm.const _) | (with_reducible exact spec_l33Check.l0_lm _ _ _ _) | (with_reducible refine Lm.ite ?_ ?_) | (with_reducible refine Lm.bind ?_ (fun _ => ?_)) | exact spec_l33Check.l0_lm _ _ _ _ | exact Lm.const _ | refine Lm.ite ?_ ?_ | refine Lm.bind ?_ (fun _ => ?_)
theorem spec_l33Check.fL_eq (a0 : Int) (a1_0 : Int) (a1_1 : ByteArray) : spec_l33Check.fL a0 a1_0 a1_1 = spec_l33Check.l0L (Int.tmod (wrap64 ((wrap64 (a0 * 29)) + (wrap64 (a1_0)))) 9973) 0 a1_0 a1_1 := by
  refine Lm.eqs (f := fun k => spec_l33Check.l0 k (Int.tmod (wrap64 ((wrap64 (a0 * 29)) + (wrap64 (a1_0)))) 9973) 0 a1_0 a1_1) (fun k => rfl) ?_
  repeat' first | (with_reducible exact Lm.const _) | (with_reducible exact spec_l33Check.l0_lm _ _ _ _) | (with_reducible refine Lm.ite ?_ ?_) | (with_reducible refine Lm.bind ?_ (fun _ => ?_)) | exact spec_l33Check.l0_lm _ _ _ _ | exact Lm.const _ | refine Lm.ite ?_ ?_ | refine Lm.bind ?_ (fun _ => ?_)
theorem spec_l01Dec.fL_eq (a0 : Int) : spec_l01Dec.fL a0 = if a0 < 10 then (some (strOfNums (([(wrap64 (48 + a0)) % 256] : List Int)))) else ((spec_l01Dec.fL (wrap64 (Int.tdiv a0 10))).bind fun t345 => ((some (([(wrap64 (48 + (Int.tmod a0 10))) % 256] : List Int) : List Int)).bind fun y346 => (if t345.size + (strOfNums y346).size ≤ 9223372036854775807 then (some (t345 ++ (strOfNums y346))) else (none)))) := by
  refine Lm.succ (f := fun k => if a0 < 10 then (some (strOfNums (([(wrap64 (48 + a0)) % 256] : List Int)))) else ((spec_l01Dec.f k (wrap64 (Int.tdiv a0 10))).bind fun t345 => ((some (([(wrap64 (48 + (Int.tmod a0 10))) % 256] : List Int) : List Int)).bind fun y346 => (if t345.size + (strOfNums y346).size ≤ 9223372036854775807 then (some (t345 ++ (strOfNums y346))) else (none))))) (spec_l01Dec.f_lm a0).1 (fun k => by rw [spec_l01Dec.f]) ?_
  repeat' first | (with_reducible exact Lm.const _) | (with_reducible exact spec_l01Dec.f_lm _) | (with_reducible refine Lm.ite ?_ ?_) | (with_reducible refine Lm.bind ?_ (fun _ => ?_)) | exact spec_l01Dec.f_lm _ | exact Lm.const _ | refine Lm.ite ?_ ?_ | refine Lm.bind ?_ (fun _ => ?_)
theorem spec_l33Line.fL_eq (a0_0 : Int) (a0_1 : ByteArray) (a1 : Int) : spec_l33Line.fL a0_0 a0_1 a1 = (some (([a0_0] : List Int) : List Int)).bind fun y350 => (if (strOfNums y350).size + 1 ≤ 9223372036854775807 then (if ((strOfNums y350) ++ (⟨#[32]⟩ : ByteArray)).size + a0_1.size ≤ 9223372036854775807 then (if (((strOfNums y350) ++ (⟨#[32]⟩ : ByteArray)) ++ a0_1).size + 1 ≤ 9223372036854775807 then ((spec_l01Dec.fL a1).bind fun t353 => (if ((((strOfNums y350) ++ (⟨#[32]⟩ : ByteArray)) ++ a0_1) ++ (⟨#[32]⟩ : ByteArray)).size + t353.size ≤ 9223372036854775807 then (if (((((strOfNums y350) ++ (⟨#[32]⟩ : ByteArray)) ++ a0_1) ++ (⟨#[32]⟩ : ByteArray)) ++ t353).size + 1 ≤ 9223372036854775807 then (some ((((((strOfNums y350) ++ (⟨#[32]⟩ : ByteArray)) ++ a0_1) ++ (⟨#[32]⟩ : ByteArray)) ++ t353) ++ (⟨#[10]⟩ : ByteArray))) else (none)) else (none))) else (none)) else (none)) else (none)) := by
  refine Lm.eqs (f := fun k => (some (([a0_0] : List Int) : List Int)).bind fun y350 => (if (strOfNums y350).size + 1 ≤ 9223372036854775807 then (if ((strOfNums y350) ++ (⟨#[32]⟩ : ByteArray)).size + a0_1.size ≤ 9223372036854775807 then (if (((strOfNums y350) ++ (⟨#[32]⟩ : ByteArray)) ++ a0_1).size + 1 ≤ 9223372036854775807 then ((spec_l01Dec.f k a1).bind fun t353 => (if ((((strOfNums y350) ++ (⟨#[32]⟩ : ByteArray)) ++ a0_1) ++ (⟨#[32]⟩ : ByteArray)).size + t353.size ≤ 9223372036854775807 then (if (((((strOfNums y350) ++ (⟨#[32]⟩ : ByteArray)) ++ a0_1) ++ (⟨#[32]⟩ : ByteArray)) ++ t353).size + 1 ≤ 9223372036854775807 then (some ((((((strOfNums y350) ++ (⟨#[32]⟩ : ByteArray)) ++ a0_1) ++ (⟨#[32]⟩ : ByteArray)) ++ t353) ++ (⟨#[10]⟩ : ByteArray))) else (none)) else (none))) else (none)) else (none)) else (none))) (fun k => rfl) ?_
  repeat' first | (with_reducible exact Lm.const _) | (with_reducible exact spec_l01Dec.f_lm _) | (with_reducible refine Lm.ite ?_ ?_) | (with_reducible refine Lm.bind ?_ (fun _ => ?_)) | exact spec_l01Dec.f_lm _ | exact Lm.const _ | refine Lm.ite ?_ ?_ | refine Lm.bind ?_ (fun _ => ?_)
theorem spec_l33Next.l0L_eq (x0 : ByteArray) (x1 : Int) (x7 : Int) (x8 : Int) : spec_l33Next.l0L x0 x1 x7 x8 = if x7 < (x0.size : Int) then (if 0 ≤ x7 then (spec_l33Next.j1L x0 x1 x7 x8 ((bt x0 x7) != 10)) else (none)) else (spec_l33Next.j1L x0 x1 x7 x8 false) := by
  refine Lm.succ (f := fun k => if x7 < (x0.size : Int) then (if 0 ≤ x7 then (spec_l33Next.j1 k x0 x1 x7 x8 ((bt x0 x7) != 10)) else (none)) else (spec_l33Next.j1 k x0 x1 x7 x8 false)) (spec_l33Next.l0_lm x0 x1 x7 x8).1 (fun k => by rw [spec_l33Next.l0]) ?_
  repeat' first | (with_reducible exact Lm.const _) | (with_reducible exact spec_l33Next.j1_lm _ _ _ _ _) | (with_reducible refine Lm.ite ?_ ?_) | (with_reducible refine Lm.bind ?_ (fun _ => ?_)) | exact spec_l33Next.j1_lm _ _ _ _ _ | exact Lm.const _ | refine Lm.ite ?_ ?_ | refine Lm.bind ?_ (fun _ => ?_)
theorem spec_l33Next.j1L_eq (x0 : ByteArray) (x1 : Int) (x7 : Int) (x8 : Int) (x20 : Bool) : spec_l33Next.j1L x0 x1 x7 x8 x20 = if x20 = true then (if 0 ≤ x7 then (if x7 < (x0.size : Int) then (if (bt x0 x7) = 32 then (spec_l33Next.l0L x0 x1 (wrap64 (x7 + 1)) x7) else (spec_l33Next.l0L x0 x1 (wrap64 (x7 + 1)) x8)) else (none)) else (none)) else (if x7 = (x0.size : Int) then (spec_l33Next.j2L x0 x1 x7 x8 true) else (spec_l33Next.j2L x0 x1 x7 x8 (decide (x8 < 2)))) := by
  refine Lm.succ (f := fun k => if x20 = true then (if 0 ≤ x7 then (if x7 < (x0.size : Int) then (if (bt x0 x7) = 32 then (spec_l33Next.l0 k x0 x1 (wrap64 (x7 + 1)) x7) else (spec_l33Next.l0 k x0 x1 (wrap64 (x7 + 1)) x8)) else (none)) else (none)) else (if x7 = (x0.size : Int) then (spec_l33Next.j2 k x0 x1 x7 x8 true) else (spec_l33Next.j2 k x0 x1 x7 x8 (decide (x8 < 2))))) (spec_l33Next.j1_lm x0 x1 x7 x8 x20).1 (fun k => by rw [spec_l33Next.j1]) ?_
  repeat' first | (with_reducible exact Lm.const _) | (with_reducible exact spec_l33Next.l0_lm _ _ _ _) | (with_reducible exact spec_l33Next.j2_lm _ _ _ _ _) | (with_reducible refine Lm.ite ?_ ?_) | (with_reducible refine Lm.bind ?_ (fun _ => ?_)) | exact spec_l33Next.l0_lm _ _ _ _ | exact spec_l33Next.j2_lm _ _ _ _ _ | exact Lm.const _ | refine Lm.ite ?_ ?_ | refine Lm.bind ?_ (fun _ => ?_)
theorem spec_l33Next.j2L_eq (x0 : ByteArray) (x1 : Int) (x7 : Int) (x8 : Int) (x35 : Bool) : spec_l33Next.j2L x0 x1 x7 x8 x35 = if x35 = true then (some (0, (⟨#[]⟩ : ByteArray), 0, 0)) else (if 0 < (x0.size : Int) then (if 2 ≤ x8 then (if x8 ≤ (x0.size : Int) then ((spec_l33Check.fL x1 (bt x0 0) (x0.extract 2 (x8 : Int).toNat)).bind fun t356 => ((spec_l33Is.fL (bt x0 0) (x0.extract 2 (x8 : Int).toNat)).bind fun t357 => (if t357 = true then ((spec_l33Line.fL (bt x0 0) (x0.extract 2 (x8 : Int).toNat) t356).bind fun t358 => (if 0 ≤ (wrap64 (x7 + 1)) then (if (wrap64 (x7 + 1)) ≤ (x0.size : Int) then (if t358.toList = (x0.extract 0 ((wrap64 (x7 + 1)) : Int).toNat).toList then (some (bt x0 0, x0.extract 2 (x8 : Int).toNat, t356, wrap64 (x7 + 1))) else (some (0, (⟨#[]⟩ : ByteArray), 0, 0))) else (none)) else (none))) else (some (0, (⟨#[]⟩ : ByteArray), 0, 0))))) else (none)) else (none)) else (none)) := by
  refine Lm.succ (f := fun k => if x35 = true then (some (0, (⟨#[]⟩ : ByteArray), 0, 0)) else (if 0 < (x0.size : Int) then (if 2 ≤ x8 then (if x8 ≤ (x0.size : Int) then ((spec_l33Check.f k x1 (bt x0 0) (x0.extract 2 (x8 : Int).toNat)).bind fun t356 => ((spec_l33Is.f k (bt x0 0) (x0.extract 2 (x8 : Int).toNat)).bind fun t357 => (if t357 = true then ((spec_l33Line.f k (bt x0 0) (x0.extract 2 (x8 : Int).toNat) t356).bind fun t358 => (if 0 ≤ (wrap64 (x7 + 1)) then (if (wrap64 (x7 + 1)) ≤ (x0.size : Int) then (if t358.toList = (x0.extract 0 ((wrap64 (x7 + 1)) : Int).toNat).toList then (some (bt x0 0, x0.extract 2 (x8 : Int).toNat, t356, wrap64 (x7 + 1))) else (some (0, (⟨#[]⟩ : ByteArray), 0, 0))) else (none)) else (none))) else (some (0, (⟨#[]⟩ : ByteArray), 0, 0))))) else (none)) else (none)) else (none))) (spec_l33Next.j2_lm x0 x1 x7 x8 x35).1 (fun k => by rw [spec_l33Next.j2]) ?_
  repeat' first | (with_reducible exact Lm.const _) | (with_reducible exact spec_l33Check.f_lm _ _ _) | (with_reducible exact spec_l33Is.f_lm _ _) | (with_reducible exact spec_l33Line.f_lm _ _ _) | (with_reducible refine Lm.ite ?_ ?_) | (with_reducible refine Lm.bind ?_ (fun _ => ?_)) | exact spec_l33Check.f_lm _ _ _ | exact spec_l33Is.f_lm _ _ | exact spec_l33Line.f_lm _ _ _ | exact Lm.const _ | refine Lm.ite ?_ ?_ | refine Lm.bind ?_ (fun _ => ?_)
theorem spec_l33Next.fL_eq (a0 : ByteArray) (a1 : Int) : spec_l33Next.fL a0 a1 = spec_l33Next.l0L a0 a1 0 0 := by
  refine Lm.eqs (f := fun k => spec_l33Next.l0 k a0 a1 0 0) (fun k => rfl) ?_
  repeat' first | (with_reducible exact Lm.const _) | (with_reducible exact spec_l33Next.l0_lm _ _ _ _) | (with_reducible refine Lm.ite ?_ ?_) | (with_reducible refine Lm.bind ?_ (fun _ => ?_)) | exact spec_l33Next.l0_lm _ _ _ _ | exact Lm.const _ | refine Lm.ite ?_ ?_ | refine Lm.bind ?_ (fun _ => ?_)
theorem spec_l33Read.l0L_eq (x0 : ByteArray) (x4 : List (S80)) (x5 : Int) : spec_l33Read.l0L x0 x4 x5 = if (x4.length : Int) < 20 then ((spec_l33Next.fL x0 x5).bind fun bt362 => (if bt362.2.2.2 = 0 then (some (x4, (x0.size : Int))) else (if x4.length < 5864062014805 then (if 0 ≤ bt362.2.2.2 then (if bt362.2.2.2 ≤ (x0.size : Int) then (spec_l33Read.l0L (x0.extract (bt362.2.2.2 : Int).toNat x0.size) (x4 ++ [(⟨bt362.1, bt362.2.1⟩ : S80)]) bt362.2.2.1) else (none)) else (none)) else (none)))) else (some (x4, (x0.size : Int))) := by
  refine Lm.succ (f := fun k => if (x4.length : Int) < 20 then ((spec_l33Next.f k x0 x5).bind fun bt362 => (if bt362.2.2.2 = 0 then (some (x4, (x0.size : Int))) else (if x4.length < 5864062014805 then (if 0 ≤ bt362.2.2.2 then (if bt362.2.2.2 ≤ (x0.size : Int) then (spec_l33Read.l0 k (x0.extract (bt362.2.2.2 : Int).toNat x0.size) (x4 ++ [(⟨bt362.1, bt362.2.1⟩ : S80)]) bt362.2.2.1) else (none)) else (none)) else (none)))) else (some (x4, (x0.size : Int)))) (spec_l33Read.l0_lm x0 x4 x5).1 (fun k => by rw [spec_l33Read.l0]) ?_
  repeat' first | (with_reducible exact Lm.const _) | (with_reducible exact spec_l33Next.f_lm _ _) | (with_reducible exact spec_l33Read.l0_lm _ _ _) | (with_reducible refine Lm.ite ?_ ?_) | (with_reducible refine Lm.bind ?_ (fun _ => ?_)) | exact spec_l33Next.f_lm _ _ | exact spec_l33Read.l0_lm _ _ _ | exact Lm.const _ | refine Lm.ite ?_ ?_ | refine Lm.bind ?_ (fun _ => ?_)
theorem spec_l33Read.fL_eq (a0 : ByteArray) : spec_l33Read.fL a0 = spec_l33Read.l0L a0 (([] : List (S80))) 1 := by
  refine Lm.eqs (f := fun k => spec_l33Read.l0 k a0 (([] : List (S80))) 1) (fun k => rfl) ?_
  repeat' first | (with_reducible exact Lm.const _) | (with_reducible exact spec_l33Read.l0_lm _ _ _) | (with_reducible refine Lm.ite ?_ ?_) | (with_reducible refine Lm.bind ?_ (fun _ => ?_)) | exact spec_l33Read.l0_lm _ _ _ | exact Lm.const _ | refine Lm.ite ?_ ?_ | refine Lm.bind ?_ (fun _ => ?_)
theorem impl_readEntry.l0L_eq (x0 : ByteArray) (x4 : Int) (x5 : Int) : impl_readEntry.l0L x0 x4 x5 = if x5 < (x0.size : Int) then (if 0 ≤ x5 then (if (bt x0 x5) = 32 then (impl_readEntry.l0L x0 x5 (wrap64 (x5 + 1))) else (impl_readEntry.l0L x0 x4 (wrap64 (x5 + 1)))) else (none)) else (if x4 < 0 then (some (0, (⟨#[]⟩ : ByteArray), false)) else (if 0 < (x0.size : Int) then (if 2 ≤ x4 then (if x4 ≤ (x0.size : Int) then ((impl_isEntry.fL (bt x0 0) (x0.extract 2 (x4 : Int).toNat)).bind fun t376 => (some (bt x0 0, x0.extract 2 (x4 : Int).toNat, t376))) else (none)) else (none)) else (none))) := by
  refine Lm.succ (f := fun k => if x5 < (x0.size : Int) then (if 0 ≤ x5 then (if (bt x0 x5) = 32 then (impl_readEntry.l0 k x0 x5 (wrap64 (x5 + 1))) else (impl_readEntry.l0 k x0 x4 (wrap64 (x5 + 1)))) else (none)) else (if x4 < 0 then (some (0, (⟨#[]⟩ : ByteArray), false)) else (if 0 < (x0.size : Int) then (if 2 ≤ x4 then (if x4 ≤ (x0.size : Int) then ((impl_isEntry.f k (bt x0 0) (x0.extract 2 (x4 : Int).toNat)).bind fun t376 => (some (bt x0 0, x0.extract 2 (x4 : Int).toNat, t376))) else (none)) else (none)) else (none)))) (impl_readEntry.l0_lm x0 x4 x5).1 (fun k => by rw [impl_readEntry.l0]) ?_
  repeat' first | (with_reducible exact Lm.const _) | (with_reducible exact impl_readEntry.l0_lm _ _ _) | (with_reducible exact impl_isEntry.f_lm _ _) | (with_reducible refine Lm.ite ?_ ?_) | (with_reducible refine Lm.bind ?_ (fun _ => ?_)) | exact impl_readEntry.l0_lm _ _ _ | exact impl_isEntry.f_lm _ _ | exact Lm.const _ | refine Lm.ite ?_ ?_ | refine Lm.bind ?_ (fun _ => ?_)
theorem impl_readEntry.fL_eq (a0 : ByteArray) : impl_readEntry.fL a0 = impl_readEntry.l0L a0 (-1) 2 := by
  refine Lm.eqs (f := fun k => impl_readEntry.l0 k a0 (-1) 2) (fun k => rfl) ?_
  repeat' first | (with_reducible exact Lm.const _) | (with_reducible exact impl_readEntry.l0_lm _ _ _) | (with_reducible refine Lm.ite ?_ ?_) | (with_reducible refine Lm.bind ?_ (fun _ => ?_)) | exact impl_readEntry.l0_lm _ _ _ | exact Lm.const _ | refine Lm.ite ?_ ?_ | refine Lm.bind ?_ (fun _ => ?_)
theorem impl_decimal.l0L_eq (x0 : Int) (x3 : ByteArray) : impl_decimal.l0L x0 x3 = (some (([(wrap64 (48 + (Int.tmod x0 10))) % 256] : List Int) : List Int)).bind fun y378 => (if (strOfNums y378).size + x3.size ≤ 9223372036854775807 then (if (wrap64 (Int.tdiv x0 10)) = 0 then (some ((strOfNums y378) ++ x3)) else (impl_decimal.l0L (wrap64 (Int.tdiv x0 10)) ((strOfNums y378) ++ x3))) else (none)) := by
  refine Lm.succ (f := fun k => (some (([(wrap64 (48 + (Int.tmod x0 10))) % 256] : List Int) : List Int)).bind fun y378 => (if (strOfNums y378).size + x3.size ≤ 9223372036854775807 then (if (wrap64 (Int.tdiv x0 10)) = 0 then (some ((strOfNums y378) ++ x3)) else (impl_decimal.l0 k (wrap64 (Int.tdiv x0 10)) ((strOfNums y378) ++ x3))) else (none))) (impl_decimal.l0_lm x0 x3).1 (fun k => by rw [impl_decimal.l0]) ?_
  repeat' first | (with_reducible exact Lm.const _) | (with_reducible exact impl_decimal.l0_lm _ _) | (with_reducible refine Lm.ite ?_ ?_) | (with_reducible refine Lm.bind ?_ (fun _ => ?_)) | exact impl_decimal.l0_lm _ _ | exact Lm.const _ | refine Lm.ite ?_ ?_ | refine Lm.bind ?_ (fun _ => ?_)
theorem impl_decimal.fL_eq (a0 : Int) : impl_decimal.fL a0 = if a0 < 0 then ((impl_decimal.fL (wrap64 (-a0))).bind fun t377 => (if 1 + t377.size ≤ 9223372036854775807 then (some ((⟨#[45]⟩ : ByteArray) ++ t377)) else (none))) else (impl_decimal.l0L a0 (⟨#[]⟩ : ByteArray)) := by
  refine Lm.succ (f := fun k => if a0 < 0 then ((impl_decimal.f k (wrap64 (-a0))).bind fun t377 => (if 1 + t377.size ≤ 9223372036854775807 then (some ((⟨#[45]⟩ : ByteArray) ++ t377)) else (none))) else (impl_decimal.l0 k a0 (⟨#[]⟩ : ByteArray))) (impl_decimal.f_lm a0).1 (fun k => by rw [impl_decimal.f]) ?_
  repeat' first | (with_reducible exact Lm.const _) | (with_reducible exact impl_decimal.f_lm _) | (with_reducible exact impl_decimal.l0_lm _ _) | (with_reducible refine Lm.ite ?_ ?_) | (with_reducible refine Lm.bind ?_ (fun _ => ?_)) | exact impl_decimal.f_lm _ | exact impl_decimal.l0_lm _ _ | exact Lm.const _ | refine Lm.ite ?_ ?_ | refine Lm.bind ?_ (fun _ => ?_)
theorem impl_entryLine.fL_eq (a0_0 : Int) (a0_1 : ByteArray) (a1 : Int) : impl_entryLine.fL a0_0 a0_1 a1 = (some (([a0_0] : List Int) : List Int)).bind fun y382 => (if (strOfNums y382).size + 1 ≤ 9223372036854775807 then (if ((strOfNums y382) ++ (⟨#[32]⟩ : ByteArray)).size + a0_1.size ≤ 9223372036854775807 then (if (((strOfNums y382) ++ (⟨#[32]⟩ : ByteArray)) ++ a0_1).size + 1 ≤ 9223372036854775807 then ((impl_decimal.fL a1).bind fun t385 => (if ((((strOfNums y382) ++ (⟨#[32]⟩ : ByteArray)) ++ a0_1) ++ (⟨#[32]⟩ : ByteArray)).size + t385.size ≤ 9223372036854775807 then (if (((((strOfNums y382) ++ (⟨#[32]⟩ : ByteArray)) ++ a0_1) ++ (⟨#[32]⟩ : ByteArray)) ++ t385).size + 1 ≤ 9223372036854775807 then (some ((((((strOfNums y382) ++ (⟨#[32]⟩ : ByteArray)) ++ a0_1) ++ (⟨#[32]⟩ : ByteArray)) ++ t385) ++ (⟨#[10]⟩ : ByteArray))) else (none)) else (none))) else (none)) else (none)) else (none)) := by
  refine Lm.eqs (f := fun k => (some (([a0_0] : List Int) : List Int)).bind fun y382 => (if (strOfNums y382).size + 1 ≤ 9223372036854775807 then (if ((strOfNums y382) ++ (⟨#[32]⟩ : ByteArray)).size + a0_1.size ≤ 9223372036854775807 then (if (((strOfNums y382) ++ (⟨#[32]⟩ : ByteArray)) ++ a0_1).size + 1 ≤ 9223372036854775807 then ((impl_decimal.f k a1).bind fun t385 => (if ((((strOfNums y382) ++ (⟨#[32]⟩ : ByteArray)) ++ a0_1) ++ (⟨#[32]⟩ : ByteArray)).size + t385.size ≤ 9223372036854775807 then (if (((((strOfNums y382) ++ (⟨#[32]⟩ : ByteArray)) ++ a0_1) ++ (⟨#[32]⟩ : ByteArray)) ++ t385).size + 1 ≤ 9223372036854775807 then (some ((((((strOfNums y382) ++ (⟨#[32]⟩ : ByteArray)) ++ a0_1) ++ (⟨#[32]⟩ : ByteArray)) ++ t385) ++ (⟨#[10]⟩ : ByteArray))) else (none)) else (none))) else (none)) else (none)) else (none))) (fun k => rfl) ?_
  repeat' first | (with_reducible exact Lm.const _) | (with_reducible exact impl_decimal.f_lm _) | (with_reducible refine Lm.ite ?_ ?_) | (with_reducible refine Lm.bind ?_ (fun _ => ?_)) | exact impl_decimal.f_lm _ | exact Lm.const _ | refine Lm.ite ?_ ?_ | refine Lm.bind ?_ (fun _ => ?_)
theorem impl_nextCheck.l0L_eq (x0 : Int) (x5 : Int) (x387000 : Int) (x387001 : ByteArray) : impl_nextCheck.l0L x0 x5 x387000 x387001 = if x5 < (x387001.size : Int) then (if 0 ≤ x5 then (impl_nextCheck.l0L (Int.tmod (wrap64 ((wrap64 (x0 * 29)) + (wrap64 (bt x387001 x5)))) 9973) (wrap64 (x5 + 1)) x387000 x387001) else (none)) else (some x0) := by
  refine Lm.succ (f := fun k => if x5 < (x387001.size : Int) then (if 0 ≤ x5 then (impl_nextCheck.l0 k (Int.tmod (wrap64 ((wrap64 (x0 * 29)) + (wrap64 (bt x387001 x5)))) 9973) (wrap64 (x5 + 1)) x387000 x387001) else (none)) else (some x0)) (impl_nextCheck.l0_lm x0 x5 x387000 x387001).1 (fun k => by rw [impl_nextCheck.l0]) ?_
  repeat' first | (with_reducible exact Lm.const _) | (with_reducible exact impl_nextCheck.l0_lm _ _ _ _) | (with_reducible refine Lm.ite ?_ ?_) | (with_reducible refine Lm.bind ?_ (fun _ => ?_)) | exact impl_nextCheck.l0_lm _ _ _ _ | exact Lm.const _ | refine Lm.ite ?_ ?_ | refine Lm.bind ?_ (fun _ => ?_)
theorem impl_nextCheck.fL_eq (a0 : Int) (a1_0 : Int) (a1_1 : ByteArray) : impl_nextCheck.fL a0 a1_0 a1_1 = impl_nextCheck.l0L (Int.tmod (wrap64 ((wrap64 (a0 * 29)) + (wrap64 (a1_0)))) 9973) 0 a1_0 a1_1 := by
  refine Lm.eqs (f := fun k => impl_nextCheck.l0 k (Int.tmod (wrap64 ((wrap64 (a0 * 29)) + (wrap64 (a1_0)))) 9973) 0 a1_0 a1_1) (fun k => rfl) ?_
  repeat' first | (with_reducible exact Lm.const _) | (with_reducible exact impl_nextCheck.l0_lm _ _ _ _) | (with_reducible refine Lm.ite ?_ ?_) | (with_reducible refine Lm.bind ?_ (fun _ => ?_)) | exact impl_nextCheck.l0_lm _ _ _ _ | exact Lm.const _ | refine Lm.ite ?_ ?_ | refine Lm.bind ?_ (fun _ => ?_)
theorem impl_readJournal.l0L_eq (x0 : ByteArray) (x4 : List (S80)) (x5 : Int) : impl_readJournal.l0L x0 x4 x5 = if (x4.length : Int) < 20 then (impl_readJournal.l1L x0 x4 x5 0) else (some (x4, (x0.size : Int))) := by
  refine Lm.succ (f := fun k => if (x4.length : Int) < 20 then (impl_readJournal.l1 k x0 x4 x5 0) else (some (x4, (x0.size : Int)))) (impl_readJournal.l0_lm x0 x4 x5).1 (fun k => by rw [impl_readJournal.l0]) ?_
  repeat' first | (with_reducible exact Lm.const _) | (with_reducible exact impl_readJournal.l1_lm _ _ _ _) | (with_reducible refine Lm.ite ?_ ?_) | (with_reducible refine Lm.bind ?_ (fun _ => ?_)) | exact impl_readJournal.l1_lm _ _ _ _ | exact Lm.const _ | refine Lm.ite ?_ ?_ | refine Lm.bind ?_ (fun _ => ?_)
theorem impl_readJournal.j2L_eq (x0 : ByteArray) (x4 : List (S80)) (x5 : Int) (x6 : Int) : impl_readJournal.j2L x0 x4 x5 x6 = if x6 = (x0.size : Int) then (some (x4, (x0.size : Int))) else (if 0 ≤ x6 then (if x6 ≤ (x0.size : Int) then ((impl_readEntry.fL (x0.extract 0 (x6 : Int).toNat)).bind fun bt387 => (if bt387.2.2 = true then ((impl_nextCheck.fL x5 bt387.1 bt387.2.1).bind fun t391 => ((impl_entryLine.fL bt387.1 bt387.2.1 t391).bind fun t392 => (if 0 ≤ (wrap64 (x6 + 1)) then (if (wrap64 (x6 + 1)) ≤ (x0.size : Int) then (if t392.toList = (x0.extract 0 ((wrap64 (x6 + 1)) : Int).toNat).toList then ((impl_nextCheck.fL x5 bt387.1 bt387.2.1).bind fun t393 => (if x4.length < 5864062014805 then (impl_readJournal.l0L (x0.extract ((wrap64 (x6 + 1)) : Int).toNat x0.size) (x4 ++ [(⟨bt387.1, bt387.2.1⟩ : S80)]) t393) else (none))) else (some (x4, (x0.size : Int)))) else (none)) else (none)))) else (some (x4, (x0.size : Int))))) else (none)) else (none)) := by
  refine Lm.succ (f := fun k => if x6 = (x0.size : Int) then (some (x4, (x0.size : Int))) else (if 0 ≤ x6 then (if x6 ≤ (x0.size : Int) then ((impl_readEntry.f k (x0.extract 0 (x6 : Int).toNat)).bind fun bt387 => (if bt387.2.2 = true then ((impl_nextCheck.f k x5 bt387.1 bt387.2.1).bind fun t391 => ((impl_entryLine.f k bt387.1 bt387.2.1 t391).bind fun t392 => (if 0 ≤ (wrap64 (x6 + 1)) then (if (wrap64 (x6 + 1)) ≤ (x0.size : Int) then (if t392.toList = (x0.extract 0 ((wrap64 (x6 + 1)) : Int).toNat).toList then ((impl_nextCheck.f k x5 bt387.1 bt387.2.1).bind fun t393 => (if x4.length < 5864062014805 then (impl_readJournal.l0 k (x0.extract ((wrap64 (x6 + 1)) : Int).toNat x0.size) (x4 ++ [(⟨bt387.1, bt387.2.1⟩ : S80)]) t393) else (none))) else (some (x4, (x0.size : Int)))) else (none)) else (none)))) else (some (x4, (x0.size : Int))))) else (none)) else (none))) (impl_readJournal.j2_lm x0 x4 x5 x6).1 (fun k => by rw [impl_readJournal.j2]) ?_
  repeat' first | (with_reducible exact Lm.const _) | (with_reducible exact impl_readEntry.f_lm _) | (with_reducible exact impl_nextCheck.f_lm _ _ _) | (with_reducible exact impl_entryLine.f_lm _ _ _) | (with_reducible exact impl_readJournal.l0_lm _ _ _) | (with_reducible refine Lm.ite ?_ ?_) | (with_reducible refine Lm.bind ?_ (fun _ => ?_)) | exact impl_readEntry.f_lm _ | exact impl_nextCheck.f_lm _ _ _ | exact impl_entryLine.f_lm _ _ _ | exact impl_readJournal.l0_lm _ _ _ | exact Lm.const _ | refine Lm.ite ?_ ?_ | refine Lm.bind ?_ (fun _ => ?_)
theorem impl_readJournal.l1L_eq (x0 : ByteArray) (x4 : List (S80)) (x5 : Int) (x6 : Int) : impl_readJournal.l1L x0 x4 x5 x6 = if x6 < (x0.size : Int) then (if 0 ≤ x6 then (if (bt x0 x6) = 10 then (impl_readJournal.j2L x0 x4 x5 x6) else (impl_readJournal.l1L x0 x4 x5 (wrap64 (x6 + 1)))) else (none)) else (impl_readJournal.j2L x0 x4 x5 x6) := by
  refine Lm.succ (f := fun k => if x6 < (x0.size : Int) then (if 0 ≤ x6 then (if (bt x0 x6) = 10 then (impl_readJournal.j2 k x0 x4 x5 x6) else (impl_readJournal.l1 k x0 x4 x5 (wrap64 (x6 + 1)))) else (none)) else (impl_readJournal.j2 k x0 x4 x5 x6)) (impl_readJournal.l1_lm x0 x4 x5 x6).1 (fun k => by rw [impl_readJournal.l1]) ?_
  repeat' first | (with_reducible exact Lm.const _) | (with_reducible exact impl_readJournal.j2_lm _ _ _ _) | (with_reducible exact impl_readJournal.l1_lm _ _ _ _) | (with_reducible refine Lm.ite ?_ ?_) | (with_reducible refine Lm.bind ?_ (fun _ => ?_)) | exact impl_readJournal.j2_lm _ _ _ _ | exact impl_readJournal.l1_lm _ _ _ _ | exact Lm.const _ | refine Lm.ite ?_ ?_ | refine Lm.bind ?_ (fun _ => ?_)
theorem impl_readJournal.fL_eq (a0 : ByteArray) : impl_readJournal.fL a0 = impl_readJournal.l0L a0 ([] : List (S80)) 1 := by
  refine Lm.eqs (f := fun k => impl_readJournal.l0 k a0 ([] : List (S80)) 1) (fun k => rfl) ?_
  repeat' first | (with_reducible exact Lm.const _) | (with_reducible exact impl_readJournal.l0_lm _ _ _) | (with_reducible refine Lm.ite ?_ ?_) | (with_reducible refine Lm.bind ?_ (fun _ => ?_)) | exact impl_readJournal.l0_lm _ _ _ | exact Lm.const _ | refine Lm.ite ?_ ?_ | refine Lm.bind ?_ (fun _ => ?_)
theorem spec_FirstDifference.l0L_eq (x6 : List (S80)) (x8 : List (S80)) (x10 : Int) : spec_FirstDifference.l0L x6 x8 x10 = if x10 < (x6.length : Int) then (spec_FirstDifference.j1L x6 x8 x10 true) else (spec_FirstDifference.j1L x6 x8 x10 (decide (x10 < (x8.length : Int)))) := by
  refine Lm.succ (f := fun k => if x10 < (x6.length : Int) then (spec_FirstDifference.j1 k x6 x8 x10 true) else (spec_FirstDifference.j1 k x6 x8 x10 (decide (x10 < (x8.length : Int))))) (spec_FirstDifference.l0_lm x6 x8 x10).1 (fun k => by rw [spec_FirstDifference.l0]) ?_
  repeat' first | (with_reducible exact Lm.const _) | (with_reducible exact spec_FirstDifference.j1_lm _ _ _ _) | (with_reducible refine Lm.ite ?_ ?_) | (with_reducible refine Lm.bind ?_ (fun _ => ?_)) | exact spec_FirstDifference.j1_lm _ _ _ _ | exact Lm.const _ | refine Lm.ite ?_ ?_ | refine Lm.bind ?_ (fun _ => ?_)
theorem spec_FirstDifference.j1L_eq (x6 : List (S80)) (x8 : List (S80)) (x10 : Int) (x30 : Bool) : spec_FirstDifference.j1L x6 x8 x10 x30 = if x30 = true then (if x10 ≥ (x6.length : Int) then (some (x10, 0)) else (if x10 ≥ (x8.length : Int) then (some (x10, 0)) else (if 0 ≤ x10 then (if x10 < (x6.length : Int) then (if x10 < (x8.length : Int) then (if (!(((rd_T80 x6 x10).f0) == ((rd_T80 x8 x10).f0)) || (!((((rd_T80 x6 x10).f1).toList) == (((rd_T80 x8 x10).f1).toList)))) = true then (some (x10, 0)) else (spec_FirstDifference.l0L x6 x8 (wrap64 (x10 + 1)))) else (none)) else (none)) else (none)))) else (some (0, 4)) := by
  refine Lm.succ (f := fun k => if x30 = true then (if x10 ≥ (x6.length : Int) then (some (x10, 0)) else (if x10 ≥ (x8.length : Int) then (some (x10, 0)) else (if 0 ≤ x10 then (if x10 < (x6.length : Int) then (if x10 < (x8.length : Int) then (if (!(((rd_T80 x6 x10).f0) == ((rd_T80 x8 x10).f0)) || (!((((rd_T80 x6 x10).f1).toList) == (((rd_T80 x8 x10).f1).toList)))) = true then (some (x10, 0)) else (spec_FirstDifference.l0 k x6 x8 (wrap64 (x10 + 1)))) else (none)) else (none)) else (none)))) else (some (0, 4))) (spec_FirstDifference.j1_lm x6 x8 x10 x30).1 (fun k => by rw [spec_FirstDifference.j1]) ?_
  repeat' first | (with_reducible exact Lm.const _) | (with_reducible exact spec_FirstDifference.l0_lm _ _ _) | (with_reducible refine Lm.ite ?_ ?_) | (with_reducible refine Lm.bind ?_ (fun _ => ?_)) | exact spec_FirstDifference.l0_lm _ _ _ | exact Lm.const _ | refine Lm.ite ?_ ?_ | refine Lm.bind ?_ (fun _ => ?_)
theorem spec_FirstDifference.fL_eq (a0 : ByteArray) (a1 : ByteArray) : spec_FirstDifference.fL a0 a1 = (spec_l33Read.fL a0).bind fun bt493 => ((spec_l33Read.fL a1).bind fun bt497 => (spec_FirstDifference.l0L bt493.1 bt497.1 0)) := by
  refine Lm.eqs (f := fun k => (spec_l33Read.f k a0).bind fun bt493 => ((spec_l33Read.f k a1).bind fun bt497 => (spec_FirstDifference.l0 k bt493.1 bt497.1 0))) (fun k => rfl) ?_
  repeat' first | (with_reducible exact Lm.const _) | (with_reducible exact spec_l33Read.f_lm _) | (with_reducible exact spec_FirstDifference.l0_lm _ _ _) | (with_reducible refine Lm.ite ?_ ?_) | (with_reducible refine Lm.bind ?_ (fun _ => ?_)) | exact spec_l33Read.f_lm _ | exact spec_FirstDifference.l0_lm _ _ _ | exact Lm.const _ | refine Lm.ite ?_ ?_ | refine Lm.bind ?_ (fun _ => ?_)
theorem impl_FirstDifference.l0L_eq (x6 : List (S80)) (x8 : List (S80)) (x10 : Int) : impl_FirstDifference.l0L x6 x8 x10 = if x10 < (x6.length : Int) then (impl_FirstDifference.j1L x6 x8 x10 true) else (impl_FirstDifference.j1L x6 x8 x10 (decide (x10 < (x8.length : Int)))) := by
  refine Lm.succ (f := fun k => if x10 < (x6.length : Int) then (impl_FirstDifference.j1 k x6 x8 x10 true) else (impl_FirstDifference.j1 k x6 x8 x10 (decide (x10 < (x8.length : Int))))) (impl_FirstDifference.l0_lm x6 x8 x10).1 (fun k => by rw [impl_FirstDifference.l0]) ?_
  repeat' first | (with_reducible exact Lm.const _) | (with_reducible exact impl_FirstDifference.j1_lm _ _ _ _) | (with_reducible refine Lm.ite ?_ ?_) | (with_reducible refine Lm.bind ?_ (fun _ => ?_)) | exact impl_FirstDifference.j1_lm _ _ _ _ | exact Lm.const _ | refine Lm.ite ?_ ?_ | refine Lm.bind ?_ (fun _ => ?_)
theorem impl_FirstDifference.j1L_eq (x6 : List (S80)) (x8 : List (S80)) (x10 : Int) (x30 : Bool) : impl_FirstDifference.j1L x6 x8 x10 x30 = if x30 = true then (if x10 ≥ (x6.length : Int) then (some (x10, 0)) else (if x10 ≥ (x8.length : Int) then (some (x10, 0)) else (if 0 ≤ x10 then (if x10 < (x6.length : Int) then (if x10 < (x8.length : Int) then (if (!(((rd_T80 x6 x10).f0) == ((rd_T80 x8 x10).f0)) || (!((((rd_T80 x6 x10).f1).toList) == (((rd_T80 x8 x10).f1).toList)))) = true then (some (x10, 0)) else (impl_FirstDifference.l0L x6 x8 (wrap64 (x10 + 1)))) else (none)) else (none)) else (none)))) else (some (0, 4)) := by
  refine Lm.succ (f := fun k => if x30 = true then (if x10 ≥ (x6.length : Int) then (some (x10, 0)) else (if x10 ≥ (x8.length : Int) then (some (x10, 0)) else (if 0 ≤ x10 then (if x10 < (x6.length : Int) then (if x10 < (x8.length : Int) then (if (!(((rd_T80 x6 x10).f0) == ((rd_T80 x8 x10).f0)) || (!((((rd_T80 x6 x10).f1).toList) == (((rd_T80 x8 x10).f1).toList)))) = true then (some (x10, 0)) else (impl_FirstDifference.l0 k x6 x8 (wrap64 (x10 + 1)))) else (none)) else (none)) else (none)))) else (some (0, 4))) (impl_FirstDifference.j1_lm x6 x8 x10 x30).1 (fun k => by rw [impl_FirstDifference.j1]) ?_
  repeat' first | (with_reducible exact Lm.const _) | (with_reducible exact impl_FirstDifference.l0_lm _ _ _) | (with_reducible refine Lm.ite ?_ ?_) | (with_reducible refine Lm.bind ?_ (fun _ => ?_)) | exact impl_FirstDifference.l0_lm _ _ _ | exact Lm.const _ | refine Lm.ite ?_ ?_ | refine Lm.bind ?_ (fun _ => ?_)
theorem impl_FirstDifference.fL_eq (a0 : ByteArray) (a1 : ByteArray) : impl_FirstDifference.fL a0 a1 = (impl_readJournal.fL a0).bind fun bt503 => ((impl_readJournal.fL a1).bind fun bt507 => (impl_FirstDifference.l0L bt503.1 bt507.1 0)) := by
  refine Lm.eqs (f := fun k => (impl_readJournal.f k a0).bind fun bt503 => ((impl_readJournal.f k a1).bind fun bt507 => (impl_FirstDifference.l0 k bt503.1 bt507.1 0))) (fun k => rfl) ?_
  repeat' first | (with_reducible exact Lm.const _) | (with_reducible exact impl_readJournal.f_lm _) | (with_reducible exact impl_FirstDifference.l0_lm _ _ _) | (with_reducible refine Lm.ite ?_ ?_) | (with_reducible refine Lm.bind ?_ (fun _ => ?_)) | exact impl_readJournal.f_lm _ | exact impl_FirstDifference.l0_lm _ _ _ | exact Lm.const _ | refine Lm.ite ?_ ?_ | refine Lm.bind ?_ (fun _ => ?_)
theorem laws_FnExactFirstDifference.fL_eq (a0 : ByteArray) (a1 : ByteArray) : laws_FnExactFirstDifference.fL a0 a1 = if (wrap64 ((a0.size : Int) + (a1.size : Int))) > 1000000 then (some true) else ((spec_FirstDifference.fL a0 a1).bind fun bt513 => ((impl_FirstDifference.fL a0 a1).bind fun bt515 => (if bt515.1 = bt513.1 then (if bt515.2 = bt513.2 then (some true) else (some false)) else (some false)))) := by
  refine Lm.eqs (f := fun k => if (wrap64 ((a0.size : Int) + (a1.size : Int))) > 1000000 then (some true) else ((spec_FirstDifference.f k a0 a1).bind fun bt513 => ((impl_FirstDifference.f k a0 a1).bind fun bt515 => (if bt515.1 = bt513.1 then (if bt515.2 = bt513.2 then (some true) else (some false)) else (some false))))) (fun k => rfl) ?_
  repeat' first | (with_reducible exact Lm.const _) | (with_reducible exact spec_FirstDifference.f_lm _ _) | (with_reducible exact impl_FirstDifference.f_lm _ _) | (with_reducible refine Lm.ite ?_ ?_) | (with_reducible refine Lm.bind ?_ (fun _ => ?_)) | exact spec_FirstDifference.f_lm _ _ | exact impl_FirstDifference.f_lm _ _ | exact Lm.const _ | refine Lm.ite ?_ ?_ | refine Lm.bind ?_ (fun _ => ?_)
end Go.Proofs.Ytlggajipoionjaa.Q
